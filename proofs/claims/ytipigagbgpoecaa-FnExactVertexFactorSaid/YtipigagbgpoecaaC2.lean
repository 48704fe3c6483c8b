/- The printed functions that this law reaches, and their contracts: part 2. -/
-- printed by this repo's wip/printer out of the kit's print with its own changes
import Derived.Test.YtipigagbgpoecaaC1
namespace Go.Proofs.Ytipigagbgpoecaa.G
open Go.RowKit Go.Proofs.YtipigagbgpoecaaW.PrintWords Go.Proofs.YtipigagbgpoecaaW.PrintLast Go.Proofs.YtipigagbgpoecaaW.PrintMore
attribute [local go_sem] max2_int min2_int max_two min_two max_three min_three max_four min_four   -- for this text's walks alone
set_option linter.unusedVariables false
set_option linter.unusedSimpArgs false

/-! ### impl_polynomials_at_Graph_vertexFactor_1: function 100000 -/
theorem impl_polynomials_at_Graph_vertexFactor_1.nit_ {α : Type} {c : Prop} [Decidable c] {a : Option α} {r : α} (h : (if c then none else a) = some r) : ¬ c ∧ a = some r := by
 by_cases k : c
 · rw [if_pos k] at h
   cases h
 · rw [if_neg k] at h
   exact ⟨k, h⟩
theorem impl_polynomials_at_Graph_vertexFactor_1.cell_grown {w w1 : World} {row : Option Nat} {g i : Nat} {v : Value} (hg : w.grownBy w1 row) (h : w.cell? ⟨g, i, none⟩ = some v) (hne : some g ≠ row) : w1.cell? ⟨g, i, none⟩ = some v := by
 have hl := World.block_lt_of_cell? w _ h
 unfold World.cell? at h ⊢
 rw [hg.block g hl hne]
 exact h
theorem impl_polynomials_at_Graph_vertexFactor_1.cell_set_ne {w : World} {g i j : Nat} {v u : Value} (h : w.cell? ⟨g, i, none⟩ = some v) (hne : i ≠ j) : (w.setCell ⟨g, j, none⟩ u).cell? ⟨g, i, none⟩ = some v := by
 unfold World.cell? at h ⊢
 cases e : w.heap[g]? with
 | none => rw [e] at h; cases h
 | some o =>
  simp only [e] at h
  cases o with
  | cells c t f =>
   have e2 : (w.setCell ⟨g, j, none⟩ u).heap[g]? = some (.cells (c.setIfInBounds j u) t f) := by simp [World.setCell, Array.getElem?_modify, e]
   simp only [e2]
   simp only [Option.isSome_none, Bool.false_eq_true, if_false] at h ⊢
   rw [Array.getElem?_setIfInBounds_ne (Ne.symm hne)]
   exact h
  | _ => cases h
theorem impl_polynomials_at_Graph_vertexFactor_1.cell_far {w : World} {g i : Nat} {p : Addr} {v u : Value} (h : w.cell? ⟨g, i, none⟩ = some v) (hne : g ≠ p.block) : (w.setCell p u).cell? ⟨g, i, none⟩ = some v := by
 unfold World.cell? at h ⊢
 rw [Below.heap_setCell w p u g hne]
 exact h
theorem impl_polynomials_at_Graph_vertexFactor_1.rd_L1_set_ne {xs : List (List Int)} {i j : Int} {y : List Int} (h : j.toNat ≠ i.toNat) : rd_L1 (xs.set j.toNat y) i = rd_L1 xs i := by
 unfold rd_L1
 simp [List.getD_eq_getElem?_getD, List.getElem?_set_ne h]
mutual
def impl_polynomials_at_Graph_vertexFactor_1.l0 : Nat → List (List (List Int)) → Int → List (List Int) → Int → Int → Option (List Int)
  | 0, _, _, _, _, _ => none
  | k + 1, x0, x5, x6, x27, x28 => if x28 < x27 then (impl_polynomials_at_Graph_vertexFactor_1.l1 k x0 x5 x6 x28 0 x27 x28 x5 0) else (if 0 ≤ x5 then (if 0 ≤ (wrap64 ((shl .i64 1 x5) - 1)) then (if (wrap64 ((shl .i64 1 x5) - 1)) < (x6.length : Int) then ((impl_trimmed.f k (rd_L1 x6 (wrap64 ((shl .i64 1 x5) - 1)))).bind fun t322 => (some t322)) else (none)) else (none)) else (none))
def impl_polynomials_at_Graph_vertexFactor_1.l1 : Nat → List (List (List Int)) → Int → List (List Int) → Int → Int → Int → Int → Int → Int → Option (List Int)
  | 0, _, _, _, _, _, _, _, _, _ => none
  | k + 1, x0, x5, x6, x7, x8, x27, x28, x31, x32 => if x32 < x31 then (if 0 ≤ x32 then (impl_polynomials_at_Graph_vertexFactor_1.l1 k x0 x5 x6 x7 (wrap64 (x8 + (Go.bits .and .i64 (shr .i64 x7 x32) 1))) x27 x28 x31 (wrap64 (x32 + 1))) else (none)) else (impl_polynomials_at_Graph_vertexFactor_1.l2 k x0 x5 x6 x7 x8 x27 x28 x5 0)
def impl_polynomials_at_Graph_vertexFactor_1.l2 : Nat → List (List (List Int)) → Int → List (List Int) → Int → Int → Int → Int → Int → Int → Option (List Int)
  | 0, _, _, _, _, _, _, _, _, _ => none
  | k + 1, x0, x5, x6, x7, x8, x27, x28, x42, x43 => if x43 < x42 then (if 0 ≤ x43 then (if (Go.bits .and .i64 (shr .i64 x7 x43) 1) = 1 then (impl_polynomials_at_Graph_vertexFactor_1.l2 k x0 x5 x6 x7 x8 x27 x28 x42 (wrap64 (x43 + 1))) else (impl_polynomials_at_Graph_vertexFactor_1.l3 k x0 x5 x6 x7 x8 x43 1 (wrap64 (x43 + 1)) x27 x28 x42 x43)) else (none)) else (impl_polynomials_at_Graph_vertexFactor_1.l0 k x0 x5 x6 x27 (wrap64 (x28 + 1)))
def impl_polynomials_at_Graph_vertexFactor_1.l3 : Nat → List (List (List Int)) → Int → List (List Int) → Int → Int → Int → Int → Int → Int → Int → Int → Int → Option (List Int)
  | 0, _, _, _, _, _, _, _, _, _, _, _, _ => none
  | k + 1, x0, x5, x6, x7, x8, x10, x11, x12, x27, x28, x42, x43 => if x12 < x5 then (if 0 ≤ x12 then (if (Go.bits .and .i64 (shr .i64 x7 x12) 1) = 1 then (impl_polynomials_at_Graph_vertexFactor_1.l3 k x0 x5 x6 x7 x8 x10 (wrap64 (-x11)) (wrap64 (x12 + 1)) x27 x28 x42 x43) else (impl_polynomials_at_Graph_vertexFactor_1.l3 k x0 x5 x6 x7 x8 x10 x11 (wrap64 (x12 + 1)) x27 x28 x42 x43)) else (none)) else (if 0 ≤ x10 then (if 0 ≤ x7 then (if x7 < (x6.length : Int) then (if (Go.bits .or .i64 x7 (shl .i64 1 x10)).toNat = x7.toNat then none else (impl_polynomials_at_Graph_vertexFactor_1.l4 k x0 x5 x6 x7 x8 x10 x11 (Go.bits .or .i64 x7 (shl .i64 1 x10)) x27 x28 x42 x43 (rd_L1 x6 x7) ((rd_L1 x6 x7).length : Int) 0)) else (none)) else (none)) else (none))
def impl_polynomials_at_Graph_vertexFactor_1.l4 : Nat → List (List (List Int)) → Int → List (List Int) → Int → Int → Int → Int → Int → Int → Int → Int → Int → List Int → Int → Int → Option (List Int)
  | 0, _, _, _, _, _, _, _, _, _, _, _, _, _, _, _ => none
  | k + 1, x0, x5, x6, x7, x8, x10, x11, x13, x27, x28, x42, x43, x72, x73, x74 => if x74 < x73 then (if 0 ≤ x74 then (if x74 < (x72.length : Int) then (if 0 ≤ x8 then (if x8 < (x0.length : Int) then (if 0 ≤ x10 then (if x10 < ((rd_L2 x0 x8).length : Int) then (impl_polynomials_at_Graph_vertexFactor_1.l5 k x0 x5 x6 x7 x8 x10 x11 x13 x74 (rd x72 x74) x27 x28 x42 x43 x72 x73 x74 (rd_L1 (rd_L2 x0 x8) x10) ((rd_L1 (rd_L2 x0 x8) x10).length : Int) 0) else (none)) else (none)) else (none)) else (none)) else (none)) else (none)) else (impl_polynomials_at_Graph_vertexFactor_1.l2 k x0 x5 x6 x7 x8 x27 x28 x42 (wrap64 (x43 + 1)))
def impl_polynomials_at_Graph_vertexFactor_1.l5 : Nat → List (List (List Int)) → Int → List (List Int) → Int → Int → Int → Int → Int → Int → Int → Int → Int → Int → Int → List Int → Int → Int → List Int → Int → Int → Option (List Int)
  | 0, _, _, _, _, _, _, _, _, _, _, _, _, _, _, _, _, _, _, _, _ => none
  | k + 1, x0, x5, x6, x7, x8, x10, x11, x13, x14, x15, x27, x28, x42, x43, x72, x73, x74, x85, x86, x87 => if x87 < x86 then (if 0 ≤ x87 then (if x87 < (x85.length : Int) then (impl_polynomials_at_Graph_vertexFactor_1.l6 k x0 x5 x6 x7 x8 x10 x11 x13 x14 x15 x87 (rd x85 x87) x27 x28 x42 x43 x72 x73 x74 x85 x86 x87) else (none)) else (none)) else (impl_polynomials_at_Graph_vertexFactor_1.l4 k x0 x5 x6 x7 x8 x10 x11 x13 x27 x28 x42 x43 x72 x73 (wrap64 (x74 + 1)))
def impl_polynomials_at_Graph_vertexFactor_1.l6 : Nat → List (List (List Int)) → Int → List (List Int) → Int → Int → Int → Int → Int → Int → Int → Int → Int → Int → Int → Int → Int → List Int → Int → Int → List Int → Int → Int → Option (List Int)
  | 0, _, _, _, _, _, _, _, _, _, _, _, _, _, _, _, _, _, _, _, _, _, _ => none
  | k + 1, x0, x5, x6, x7, x8, x10, x11, x13, x14, x15, x16, x17, x27, x28, x42, x43, x72, x73, x74, x85, x86, x87 => if 0 ≤ x13 then (if x13 < (x6.length : Int) then (if ((rd_L1 x6 x13).length : Int) ≤ (wrap64 (x14 + x16)) then (if (rd_L1 x6 x13).length < 17592186044416 then (impl_polynomials_at_Graph_vertexFactor_1.l6 k x0 x5 (x6.set (x13 : Int).toNat ((rd_L1 x6 x13) ++ [0])) x7 x8 x10 x11 x13 x14 x15 x16 x17 x27 x28 x42 x43 x72 x73 x74 x85 x86 x87) else (none)) else (if 0 ≤ (wrap64 (x14 + x16)) then (if (wrap64 (x14 + x16)) < ((rd_L1 x6 x13).length : Int) then ((impl_Graph_vertexFactor_1.f (wrap64 ((rd (rd_L1 x6 x13) (wrap64 (x14 + x16))) + (wrap64 ((wrap64 (x11 * x15)) * x17))))).bind fun t339 => (impl_polynomials_at_Graph_vertexFactor_1.l5 k x0 x5 (x6.set (x13 : Int).toNat ((rd_L1 x6 x13).set ((wrap64 (x14 + x16)) : Int).toNat t339)) x7 x8 x10 x11 x13 x14 x15 x27 x28 x42 x43 x72 x73 x74 x85 x86 (wrap64 (x87 + 1)))) else (none)) else (none))) else (none)) else (none)
end
def impl_polynomials_at_Graph_vertexFactor_1.f (k : Nat) (l0 : List (List (List Int)))  : Option (List Int) := if 0 ≤ (shl .i64 1 (l0.length : Int)) then (if (shl .i64 1 (l0.length : Int) : Int).toNat ≤ 11728124029610 then ((some (List.replicate (shl .i64 1 (l0.length : Int) : Int).toNat [] : List (List Int))).bind fun y314 => (if 0 < (y314.length : Int) then (impl_polynomials_at_Graph_vertexFactor_1.l0 k l0 (l0.length : Int) (y314.set (0 : Int).toNat (([1] : List Int))) (y314.length : Int) 0) else (none))) else (none)) else (none)
def impl_polynomials_at_Graph_vertexFactor_1.T32 : Bool × List (List Nat × List Nat) := (true, [([], []), ([], []), ([0, 1], [0, 1]), ([2], [2]), ([], []), ([], []), ([4, 5], [4, 5]), ([], []), ([], []), ([], []), ([8, 9], [8, 9]), ([10], [10]), ([], []), ([], []), ([12, 13], [12, 13]), ([11, 14], [11, 14]), ([15], [15]), ([], []), ([], []), ([17, 18], [17, 18]), ([], []), ([19, 20], [19, 20]), ([16, 21], [16, 21]), ([7, 22], [7, 22]), ([3, 6, 0, 1, 2, 3, 4, 5, 6, 7, 8, 9, 10, 11, 12, 13, 14, 15, 16, 17, 18, 19, 20, 21, 22, 23], [3, 6]), ([24, 23, 23, 0, 1, 2, 3, 4, 5, 6, 7, 8, 9, 10, 11, 12, 13, 14, 15, 16, 17, 18, 19, 20, 21, 22, 23], [23, 24])])
def impl_polynomials_at_Graph_vertexFactor_1.B32 : List Nat := [0, 0, 3, 7, 0, 0, 48, 0, 0, 0, 768, 1792, 0, 0, 12288, 32512, 65280, 0, 0, 393216, 0, 1966080, 4194048, 8388480, 16777215, 33554431]
theorem impl_polynomials_at_Graph_vertexFactor_1.tab32 : rtab .any (opsOf Try.f90 32) = impl_polynomials_at_Graph_vertexFactor_1.T32 := by kernel_rfl
theorem impl_polynomials_at_Graph_vertexFactor_1.bits32 : waitsOk impl_polynomials_at_Graph_vertexFactor_1.T32.2 impl_polynomials_at_Graph_vertexFactor_1.B32 = true := by kernel_rfl
set_option maxHeartbeats 8000000 in
set_option maxRecDepth 100000 in
theorem impl_polynomials_at_Graph_vertexFactor_1.calls (k : Nat) (A0 : Option Addr) (c0 : Nat) (l0 : List (List (List Int)))  (r : List Int) (w : World) (hr0 : Kd.C (Kd.slice 26 (Kd.slice 2 (Kd.int .i64))) w A0 l0.length l0) (hc0 : l0.length ≤ c0) (h : impl_polynomials_at_Graph_vertexFactor_1.f k l0 = some r) :
    Calls Try.prog 90 #[.slice A0 l0.length c0, .func (.func 91) #[] #[]] w fun e w' => ∃ v0_ : Value, e = .returned (v0_) ∧ Kd.R (Kd.int .i64) 2 w' w.heap.size (fun _ => True) v0_ r ∧ Below w.heap.size w w' := by
  have HR0 := Aside0.mk hr0
  have HC0 := Aside0.mk hc0
  clear hr0 hc0
  have HB := Aside0.mk (Below.refl w.heap.size w)
  have H : (if 0 ≤ (shl .i64 1 (l0.length : Int)) then (if (shl .i64 1 (l0.length : Int) : Int).toNat ≤ 11728124029610 then ((some (List.replicate (shl .i64 1 (l0.length : Int) : Int).toNat [] : List (List Int))).bind fun y314 => (if 0 < (y314.length : Int) then (impl_polynomials_at_Graph_vertexFactor_1.l0 k l0 (l0.length : Int) (y314.set (0 : Int).toNat (([1] : List Int))) (y314.length : Int) 0) else (none))) else (none)) else (none)) = some r := h
  clear h
  obtain ⟨ji3, hji3⟩ : ∃ j_ : Int, (shl .i64 1 (l0.length : Int)) = j_ := ⟨_, rfl⟩
  (try rw [hji3])
  replace H : (if 0 ≤ (ji3) then (if (ji3 : Int).toNat ≤ 11728124029610 then ((some (List.replicate (ji3 : Int).toNat [] : List (List Int))).bind fun y314 => (if 0 < (y314.length : Int) then (impl_polynomials_at_Graph_vertexFactor_1.l0 k l0 (l0.length : Int) (y314.set (0 : Int).toNat (([1] : List Int))) (y314.length : Int) 0) else (none))) else (none)) else (none)) = some r := by first | (rw [hji3] at H; exact H) | (simp only [hji3] at H ⊢; exact H)
  have hji3_ : (IntKind.i64.wrap (1 * 2 ^ min (l0.length : Int).toNat 64)) = ji3 := hji3
  have hji3z : (l0.length : Int) ≤ 64 → (IntKind.i64.wrap (1 * 2 ^ (l0.length : Int).toNat)) = ji3 := shl_small hji3
  have hji3p : (IntKind.i64.wrap (1 * 2 ^ min l0.length 64)) = ji3 := hji3_
  have hji3q : (l0.length : Int) ≤ 64 → (IntKind.i64.wrap (1 * 2 ^ l0.length)) = ji3 := hji3z
  have hji3r : (IntKind.i64.wrap (2 ^ min l0.length 64)) = ji3 := by have h_ := hji3p; rw [Int.one_mul] at h_; exact h_
  have hji3s : (l0.length : Int) ≤ 64 → (IntKind.i64.wrap (2 ^ l0.length)) = ji3 := fun hle_ => by have h_ := hji3q hle_; rw [Int.one_mul] at h_; exact h_
  have hji3u : (IntKind.i64.wrap (2 ^ min (l0.length : Int).toNat 64)) = ji3 := by have h_ := hji3_; rw [Int.one_mul] at h_; exact h_
  have hji3v : (l0.length : Int) ≤ 64 → (IntKind.i64.wrap (2 ^ (l0.length : Int).toNat)) = ji3 := fun hle_ => by have h_ := hji3z hle_; rw [Int.one_mul] at h_; exact h_
  have hji3y : (wrap64 (1 * 2 ^ min (l0.length : Int).toNat 64)) = ji3 := (i64_w _).symm.trans hji3_
  have hji3x : (l0.length : Int) ≤ 64 → (wrap64 (1 * 2 ^ (l0.length : Int).toNat)) = ji3 := fun h_ => (i64_w _).symm.trans (hji3z h_)
  by_cases c4 : 0 ≤ (ji3)
  · rw [if_pos c4] at H
    have c4b0 := eq_true c4
    have c4b1 := decide_eq_true c4
    clear c4
    obtain ⟨c5, H⟩ := itn_ H
    have c5b0 := eq_true c5
    have c5b1 := decide_eq_true c5
    clear c5
    obtain ⟨y314, Ny314, H⟩ : ∃ y314 : List (List Int), Aside0 (y314 = (List.replicate (ji3 : Int).toNat [])) ∧ (if 0 < (y314.length : Int) then (impl_polynomials_at_Graph_vertexFactor_1.l0 k l0 (l0.length : Int) (y314.set (0 : Int).toNat (([1] : List Int))) (y314.length : Int) 0) else (none)) = some r := ⟨_, ⟨rfl⟩, H⟩
    obtain ⟨y317, Ny317, H⟩ : ∃ y317 : List Int, Aside0 (y317 = (([1] : List Int))) ∧ (if 0 < (y314.length : Int) then (impl_polynomials_at_Graph_vertexFactor_1.l0 k l0 (l0.length : Int) (y314.set (0 : Int).toNat y317) (y314.length : Int) 0) else (none)) = some r := ⟨_, ⟨rfl⟩, H⟩
    obtain ⟨c6, H⟩ := itn_ H
    have c6b0 := decide_eq_true c6
    have c6b1 : decide (0 < y314.length) = true := decide_eq_true (by omega)
    clear c6
    obtain ⟨y320, Ny320, H⟩ : ∃ y320 : List (List Int), Aside0 (y320 = (y314.set (0 : Int).toNat y317)) ∧ (impl_polynomials_at_Graph_vertexFactor_1.l0 k l0 (l0.length : Int) y320 (y314.length : Int) 0) = some r := ⟨_, ⟨rfl⟩, H⟩
    have H' := Aside0.mk H
    clear H
    go_enter Try.func90, Try.ntmps90
    go_wp2_with (first | ((with_reducible refine gate_dst (N := 22) rfl ?_); refine Kd.S_make (Kd.slice 2 (Kd.int .i64)) _ 26 rfl (N := 22) rfl 22 _ _ rfl ji3 rfl rfl Try.underlying22 (.slice none 0 0) 24 info26 rfl (by decide) (by omega) [] (ok := fun _ => True) (okp := fun _ => True) ⟨_, rfl, Kd.R_nil _ _ _ _ _⟩ (fun _ hk => hk) trivial (od_) (Nat.le_trans (Nat.mul_le_mul_right _ (od_ : ji3.toNat ≤ 11728124029610)) (by omega)) (Below.refl _ _) (Nat.le_refl _) ?_; intro v315 w8 ho9 hb hg_ hnew_; clear hg_ hnew_; (first | rw [← Ny314.out] at ho9 | (simp only [Int.reduceToNat] at ho9; rw [← Ny314.out] at ho9)); have HO316 := Aside0.mk (Kd.S_lower ho9 (below_size hb_)); replace HB := Aside0.mk (below_step hb_ hb); clear hb ho9) | ((with_reducible refine gate_dst (N := 24) rfl ?_); refine Kd.R_lit (Kd.int .i64) _ 2 ?hg (N := 24) ?hd (xs := ([1] : List Int)) (inner := [.int .i64 1]) (ok := fun _ => True) (okp := fun _ => True) ?hr ?hp (fun _ hk => hk) trivial (Below.refl _ _) (Nat.le_refl _) (by simp) ?_; (case hd => rfl); (case hg => rfl); (case hr => first | (go_simp; done) | (go_simp; rfl)); (case hp => exact (Reps.one (show Kd.M (Kd.int .i64) _ _ _ 1 [.int .i64 1] from rfl) (Reps.none _ _))); intro v318 w10 ho11 hb hg_ hnew_; clear hg_ hnew_; (first | rw [← Ny317.out] at ho11 | (simp only [Int.reduceToNat] at ho11; rw [← Ny317.out] at ho11)); replace HO316 := Aside0.mk (Kd.S_elder' (Kd.S_below HO316.out bgo_) (Kd.R_base ho11) hb); have HO319 := Aside0.mk (Kd.R_lower ho11 (below_size hb_)); replace HB := Aside0.mk (below_step hb_ hb); clear hb ho11; have p7 : 0 ≤ (0 : Int) := (by omega); have q7 : (0 : Int) < ((y314.length : Int) : Int) := od_; have qi7 : (0 < y314.length) = True := eq_true (by omega); obtain ⟨go7, co7, eo7, gb7, gl7, cl7, HG7⟩ := Kd.S_form HO316.out (by omega); (first | cases eo7 | (injection eo7 with ea_ en_ ec_; (first | subst ea_ | (injection ea_ with ea_; subst ea_)); subst ec_; clear en_)); have GB7 := Aside0.mk gb7; have GG7 := Aside0.mk HG7; clear gb7 gl7 HG7; obtain ⟨_, ce7, hcl7, hM7, hcc7, hfr7, _, _⟩ := Kd.S_elem HO316.out [] (0 : Int) p7 q7; obtain ⟨ve7_0, rfl, ge7_0⟩ := hM7; have hx7_0 := hcc7 0 _ rfl; have hf7_0 := hfr7 0; (try simp only [show ((Kd.slice 2 (Kd.int .i64))).sz = 1 from rfl, Nat.mul_one, Nat.add_zero] at hx7_0); (try simp only [show ((Kd.slice 2 (Kd.int .i64))).sz = 1 from rfl, Nat.mul_one, Nat.add_zero] at hf7_0); clear hcl7 hcc7 hfr7; (try clear hM7); (try rw [show ((0 : Int)).toNat = 0 from rfl] at hx7_0); (try simp only [Nat.reduceMul, Nat.zero_mul, Nat.zero_add, Nat.reduceAdd] at hx7_0); (try rw [show ((0 : Int)).toNat = 0 from rfl] at hf7_0); (try simp only [Nat.reduceMul, Nat.zero_mul, Nat.zero_add, Nat.reduceAdd] at hf7_0); replace p7 := eq_true p7; replace q7 := eq_true q7; obtain ⟨Ao14, co14, eo14⟩ := Kd.R_slice HO319.out; subst eo14; have n_ := Aside0.mk (Kd.S_mono (ok' := (fun k_ => some k_ ≠ (.slice Ao14 y317.length co14 : Value).ownBlock)) HO316.out (fun k_ hk => hk.2)); clear HO316; have HO316 := n_; clear n_; have HX12 := Aside0.mk (show Kd.S (Kd.slice 2 (Kd.int .i64)) 26 w10 w.heap.size (fun k_ => ((fun _ => True)) k_ ∧ ¬ ((fun k_ => some k_ = (.slice Ao14 y317.length co14 : Value).ownBlock)) k_) (.slice (some ⟨go7, 0, none⟩) y314.length co7) y314 from (by (with_reducible repeat (first | apply Kd.S_alloc | apply Kd.S_drewN | apply Kd.S_drew)); exact Kd.S_mono HO316.out (fun k_ hk => ⟨trivial, fun e_ => hk e_⟩))); obtain ⟨oki12, ce12, hcl12, hM12, hcc12, hfr12, hoki12, hH12⟩ := Kd.S_elem HX12.out [] (0 : Int) (by omega) (by have h_ : (0 : Int) < ((y314.length : Int) : Int) := od_; first | exact h_ | (have e_ := (Kd.S_reads' HO316.out).1; omega) | simpa using h_); obtain ⟨ve12_0, rfl, ge12_0⟩ := hM12; have HP12 := Kd.S_seg hH12 (by omega) (by have h_ : (0 : Int) < ((y314.length : Int) : Int) := od_; first | exact h_ | (have e_ := (Kd.S_reads' HO316.out).1; omega) | simpa using h_) (seg := [.slice Ao14 y317.length co14]) (j := 0) (show 1 ≤ 1 from by decide) (x' := y317) (Kd.M_row (Kd.R_mono (Kd.R_tight rfl (Kd.R_mono (ok' := fun k_ => ((fun _ => True)) k_ ∧ k_ ≠ go7) (Kd.R_apart' (HO319.out) (Kd.S_typed HO316.out) (by decide)) (fun k_ hk => ⟨trivial, fun e_ => (hk.2) (by rw [e_]; rfl)⟩))) (fun _ h_ => Or.inr (h_)))) (fun _ hk => hk) (fun k_ hk_ => ((Kd.R_mono (ok' := fun k_ => ((fun _ => True)) k_ ∧ k_ ≠ go7) (Kd.R_apart' (HO319.out) (Kd.S_typed HO316.out) (by decide)) (fun k_ hk => ⟨trivial, fun e_ => (hk.2) (by rw [e_]; rfl)⟩))).1 k_ hk_.symm); have hx12_0 := hcc12 0 _ rfl; (try simp only [show ((Kd.slice 2 (Kd.int .i64))).sz = 1 from rfl, Nat.mul_one, Nat.add_zero] at hx12_0); (try rw [show ((0 : Int)).toNat = 0 from rfl] at hx12_0); (try simp only [Nat.reduceMul, Nat.zero_mul, Nat.zero_add, Nat.reduceAdd] at hx12_0); have hf12_0 := hfr12 0; (try simp only [show ((Kd.slice 2 (Kd.int .i64))).sz = 1 from rfl, Nat.mul_one, Nat.add_zero] at hf12_0); (try rw [show ((0 : Int)).toNat = 0 from rfl] at hf12_0); (try simp only [Nat.reduceMul, Nat.zero_mul, Nat.zero_add, Nat.reduceAdd] at hf12_0); clear hcl12 hcc12 hfr12; (try clear hM12); (try clear hoki12); (try clear hH12); (try simp only [show ((Kd.slice 2 (Kd.int .i64))).sz = 1 from rfl, Nat.mul_one, Nat.add_zero] at HP12)) | ((with_reducible refine gate_store (t := 26) (p := 25) rfl ?_); refine store_event (t := 26) (p := 25) (v := ?vo_w13) (w1 := (w10.setCell ⟨go7, 0, none⟩ (.slice Ao14 y317.length co14))) ?hg ?ho ?hn ?hr ?_; (case ho => rfl); (case hg => rfl); (case hn => rfl); (case hr => first | (go_simp; done) | (go_simp; rfl)); intro w13 hw; have hg : w10.grownBy w13 (some go7) := (by rw [hw]; exact HP12.2); have hp_ : Kd.S (Kd.slice 2 (Kd.int .i64)) 26 w13 w.heap.size (fun _ => True) (.slice (some ⟨go7, 0, none⟩) y314.length co7) y320 := (by rw [hw, Ny320.out]; exact HP12.1); clear HP12; replace HO316 := Aside0.mk (hp_); replace HB := Aside0.mk ((by rw [hw]; exact below_set (HB.out) GB7.out : Below w.heap.size w w13)); clear HO319; clear hg hw hp_))
    go_loopg [28] k (fun kq v28 w' => ∃ (x6_1 : List (List Int)) (x28_1 : Int), v28 = .int .i64 x28_1 ∧ Aside0 (impl_polynomials_at_Graph_vertexFactor_1.l0 kq l0 (l0.length : Int) x6_1 (y314.length : Int) x28_1 = some r) ∧ Aside0 (kq ≤ k) ∧ Aside0 (Kd.S (Kd.slice 2 (Kd.int .i64)) 26 w' w.heap.size (fun _ => True) (.slice (some ⟨go7, 0, none⟩) y314.length co7) x6_1) ∧ Aside0 (Below w.heap.size w w'))
    case atStart => exact ⟨(y320), (0), es_, H', ⟨Nat.le_refl _⟩, ⟨Kd.S_below HO316.out bgo_⟩, ⟨hb_⟩⟩
    case round =>
      clear H'
      obtain ⟨x6_1, x28_1, rfl, HA, HK1, HO_6, HB⟩ := hrel
      have hl6_1 := (Kd.S_reads' HO_6.out).1
      rw [hl6_1] at HO_6
      (try simp only [hl6_1])
      cases gk with
      | zero => exact absurd HA.out (by simp [impl_polynomials_at_Graph_vertexFactor_1.l0])
      | succ k1 =>
        have H := HA.out
        clear HA
        simp only [impl_polynomials_at_Graph_vertexFactor_1.l0] at H
        by_cases c15 : x28_1 < (y314.length : Int)
        · rw [if_pos c15] at H
          have c15b0 := decide_eq_true c15
          (try (have c15z0 := c15b0; simp only [hl6_1] at c15z0))
          clear c15
          have H' := Aside0.mk H
          clear H
          go_wp2
          go_loopg [8, 32] k1 (fun kq v8 v32 w' => ∃ (x8_2 : Int) (x32_2 : Int), v8 = .int .i64 x8_2 ∧ v32 = .int .i64 x32_2 ∧ Aside0 (impl_polynomials_at_Graph_vertexFactor_1.l1 kq l0 (l0.length : Int) x6_1 x28_1 x8_2 (y314.length : Int) x28_1 (l0.length : Int) x32_2 = some r) ∧ Aside0 (kq ≤ k1) ∧ Aside0 (Kd.S (Kd.slice 2 (Kd.int .i64)) 26 w' w.heap.size (fun _ => True) (.slice (some ⟨go7, 0, none⟩) x6_1.length co7) x6_1) ∧ Aside0 (Below w.heap.size w w'))
          case atStart => exact ⟨(0), (0), es_, es_, H', ⟨Nat.le_refl _⟩, ⟨by (try simp only [hl6_1]); (with_reducible repeat (first | apply Kd.S_alloc | apply Kd.S_drewN | apply Kd.S_drew)); exact HO_6.out⟩, ⟨hb_⟩⟩
          case round =>
            clear H'
            obtain ⟨x8_2, x32_2, rfl, rfl, HA, HK2, HO_6, HB⟩ := hrel
            cases gk with
            | zero => exact absurd HA.out (by simp [impl_polynomials_at_Graph_vertexFactor_1.l1])
            | succ k2 =>
              have H := HA.out
              clear HA
              simp only [impl_polynomials_at_Graph_vertexFactor_1.l1] at H
              by_cases c16 : x32_2 < (l0.length : Int)
              · rw [if_pos c16] at H
                have c16b0 := decide_eq_true c16
                (try (have c16z0 := c16b0; simp only [hl6_1] at c16z0))
                clear c16
                obtain ⟨c17, H⟩ := itn_ H
                have c17b0 := eq_true c17
                have c17b1 := decide_eq_true c17
                clear c17
                obtain ⟨ji18, hji18⟩ : ∃ j_ : Int, (shr .i64 x28_1 x32_2) = j_ := ⟨_, rfl⟩
                (try rw [hji18])
                replace H : (impl_polynomials_at_Graph_vertexFactor_1.l1 k2 l0 (l0.length : Int) x6_1 x28_1 (wrap64 (x8_2 + (Go.bits .and .i64 (ji18) 1))) (y314.length : Int) x28_1 (l0.length : Int) (wrap64 (x32_2 + 1))) = some r := by first | (rw [hji18] at H; exact H) | (simp only [hji18] at H ⊢; exact H)
                have hji18_ : (x28_1 / 2 ^ min x32_2.toNat 64) = ji18 := hji18
                have hji18z : x32_2 ≤ 64 → (x28_1 / 2 ^ x32_2.toNat) = ji18 := shr_small hji18
                have H' := Aside0.mk H
                clear H
                go_wp2
                first | (first | go_roundg k2 | (refine Handed.intro k2 ?measure ?_; rotate_left; go_step; (try simp only [add_plain]); (repeat apply Exists.intro); refine ⟨?rel, rfl⟩)) | ((try subst hji18); (try subst hji3); (first | go_roundg k2 | (refine Handed.intro k2 ?measure ?_; rotate_left; go_step; (try simp only [add_plain]); (repeat apply Exists.intro); refine ⟨?rel, rfl⟩)))
                case measure => have := HK1.out; have := HK2.out; omega
                case rel => exact ⟨(wrap64 (x8_2 + (Go.bits .and .i64 (ji18) 1))), (wrap64 (x32_2 + 1)), (by first | rfl | (simp; done) | (simp only [← hji18] <;> (first | rfl | simp)) | (simp [*]; done)), es_, H', ⟨by have := HK1.out; have := HK2.out; omega⟩, ⟨by (try simp only [hl6_1]); (with_reducible repeat (first | apply Kd.S_alloc | apply Kd.S_drewN | apply Kd.S_drew)); exact HO_6.out⟩, ⟨hb_⟩⟩
              · rw [if_neg c16] at H
                have c16b0 := decide_eq_false c16
                (try (have c16z0 := c16b0; simp only [hl6_1] at c16z0))
                clear c16
                have H' := Aside0.mk H
                clear H
                go_wp2
                go_loopg [43] k2 (fun kq v43 w' => ∃ (x6_3 : List (List Int)) (x43_3 : Int), v43 = .int .i64 x43_3 ∧ Aside0 (impl_polynomials_at_Graph_vertexFactor_1.l2 kq l0 (l0.length : Int) x6_3 x28_1 x8_2 (y314.length : Int) x28_1 (l0.length : Int) x43_3 = some r) ∧ Aside0 (kq ≤ k2) ∧ Aside0 (Kd.S (Kd.slice 2 (Kd.int .i64)) 26 w' w.heap.size (fun _ => True) (.slice (some ⟨go7, 0, none⟩) x6_1.length co7) x6_3) ∧ Aside0 (Below w.heap.size w w'))
                case atStart => exact ⟨(x6_1), (0), es_, H', ⟨Nat.le_refl _⟩, ⟨by (try simp only [hl6_1]); (with_reducible repeat (first | apply Kd.S_alloc | apply Kd.S_drewN | apply Kd.S_drew)); exact HO_6.out⟩, ⟨hb_⟩⟩
                case round =>
                  clear H'
                  obtain ⟨x6_3, x43_3, rfl, HA, HK3, HO_6, HB⟩ := hrel
                  have hl6_3 := (Kd.S_reads' HO_6.out).1
                  rw [hl6_3] at HO_6
                  (try simp only [hl6_3])
                  cases gk with
                  | zero => exact absurd HA.out (by simp [impl_polynomials_at_Graph_vertexFactor_1.l2])
                  | succ k3 =>
                    have H := HA.out
                    clear HA
                    simp only [impl_polynomials_at_Graph_vertexFactor_1.l2] at H
                    by_cases c19 : x43_3 < (l0.length : Int)
                    · rw [if_pos c19] at H
                      have c19b0 := decide_eq_true c19
                      (try (have c19z0 := c19b0; simp only [hl6_1, hl6_3] at c19z0))
                      clear c19
                      obtain ⟨c20, H⟩ := itn_ H
                      have c20b0 := eq_true c20
                      have c20b1 := decide_eq_true c20
                      clear c20
                      obtain ⟨ji21, hji21⟩ : ∃ j_ : Int, (shr .i64 x28_1 x43_3) = j_ := ⟨_, rfl⟩
                      (try rw [hji21])
                      replace H : (if (Go.bits .and .i64 (ji21) 1) = 1 then (impl_polynomials_at_Graph_vertexFactor_1.l2 k3 l0 (l0.length : Int) x6_3 x28_1 x8_2 (y314.length : Int) x28_1 (l0.length : Int) (wrap64 (x43_3 + 1))) else (impl_polynomials_at_Graph_vertexFactor_1.l3 k3 l0 (l0.length : Int) x6_3 x28_1 x8_2 x43_3 1 (wrap64 (x43_3 + 1)) (y314.length : Int) x28_1 (l0.length : Int) x43_3)) = some r := by first | (rw [hji21] at H; exact H) | (simp only [hji21] at H ⊢; exact H)
                      have hji21_ : (x28_1 / 2 ^ min x43_3.toNat 64) = ji21 := hji21
                      have hji21z : x43_3 ≤ 64 → (x28_1 / 2 ^ x43_3.toNat) = ji21 := shr_small hji21
                      by_cases c22 : (Go.bits .and .i64 (ji21) 1) = 1
                      · rw [if_pos c22] at H
                        have c22b0 : ((Go.bits .and .i64 (ji21) 1) == 1) = true := beq_iff_eq.mpr c22
                        have c22b1 : ((Go.bits .and .i64 (ji21) 1) != 1) = false := bne_eq_false_iff_eq.mpr c22
                        clear c22
                        have H' := Aside0.mk H
                        clear H
                        go_wp2
                        (try simp only [← hl6_3])
                        first | (first | go_roundg k3 | (refine Handed.intro k3 ?measure ?_; rotate_left; go_step; (try simp only [add_plain]); (repeat apply Exists.intro); refine ⟨?rel, rfl⟩)) | ((try subst hji21); (try subst hji3); (first | go_roundg k3 | (refine Handed.intro k3 ?measure ?_; rotate_left; go_step; (try simp only [add_plain]); (repeat apply Exists.intro); refine ⟨?rel, rfl⟩)))
                        case measure => have := HK1.out; have := HK2.out; have := HK3.out; omega
                        case rel => exact ⟨(x6_3), (wrap64 (x43_3 + 1)), es_, H', ⟨by have := HK1.out; have := HK2.out; have := HK3.out; omega⟩, ⟨by (try simp only [hl6_1]); (try simp only [hl6_3]); (with_reducible repeat (first | apply Kd.S_alloc | apply Kd.S_drewN | apply Kd.S_drew)); exact HO_6.out⟩, ⟨hb_⟩⟩
                      · rw [if_neg c22] at H
                        have c22b0 : ((Go.bits .and .i64 (ji21) 1) == 1) = false := beq_eq_false_iff_ne.mpr c22
                        have c22b1 : ((Go.bits .and .i64 (ji21) 1) != 1) = true := bne_iff_ne.mpr c22
                        have H' := Aside0.mk H
                        clear H
                        go_wp2
                        go_loopg [11, 12] k3 (fun kq v11 v12 w' => ∃ (x11_4 : Int) (x12_4 : Int), v11 = .int .i64 x11_4 ∧ v12 = .int .i64 x12_4 ∧ Aside0 (impl_polynomials_at_Graph_vertexFactor_1.l3 kq l0 (l0.length : Int) x6_3 x28_1 x8_2 x43_3 x11_4 x12_4 (y314.length : Int) x28_1 (l0.length : Int) x43_3 = some r) ∧ Aside0 (kq ≤ k3) ∧ Aside0 (Kd.S (Kd.slice 2 (Kd.int .i64)) 26 w' w.heap.size (fun _ => True) (.slice (some ⟨go7, 0, none⟩) x6_3.length co7) x6_3) ∧ Aside0 (Below w.heap.size w w'))
                        case atStart => exact ⟨(1), (wrap64 (x43_3 + 1)), es_, es_, H', ⟨Nat.le_refl _⟩, ⟨by (try simp only [hl6_1]); (try simp only [hl6_3]); (with_reducible repeat (first | apply Kd.S_alloc | apply Kd.S_drewN | apply Kd.S_drew)); exact HO_6.out⟩, ⟨hb_⟩⟩
                        case round =>
                          clear H'
                          obtain ⟨x11_4, x12_4, rfl, rfl, HA, HK4, HO_6, HB⟩ := hrel
                          cases gk with
                          | zero => exact absurd HA.out (by simp [impl_polynomials_at_Graph_vertexFactor_1.l3])
                          | succ k4 =>
                            have H := HA.out
                            clear HA
                            simp only [impl_polynomials_at_Graph_vertexFactor_1.l3] at H
                            by_cases c23 : x12_4 < (l0.length : Int)
                            · rw [if_pos c23] at H
                              have c23b0 := decide_eq_true c23
                              (try (have c23z0 := c23b0; simp only [hl6_1, hl6_3] at c23z0))
                              clear c23
                              obtain ⟨c24, H⟩ := itn_ H
                              have c24b0 := eq_true c24
                              have c24b1 := decide_eq_true c24
                              clear c24
                              obtain ⟨ji25, hji25⟩ : ∃ j_ : Int, (shr .i64 x28_1 x12_4) = j_ := ⟨_, rfl⟩
                              (try rw [hji25])
                              replace H : (if (Go.bits .and .i64 (ji25) 1) = 1 then (impl_polynomials_at_Graph_vertexFactor_1.l3 k4 l0 (l0.length : Int) x6_3 x28_1 x8_2 x43_3 (wrap64 (-x11_4)) (wrap64 (x12_4 + 1)) (y314.length : Int) x28_1 (l0.length : Int) x43_3) else (impl_polynomials_at_Graph_vertexFactor_1.l3 k4 l0 (l0.length : Int) x6_3 x28_1 x8_2 x43_3 x11_4 (wrap64 (x12_4 + 1)) (y314.length : Int) x28_1 (l0.length : Int) x43_3)) = some r := by first | (rw [hji25] at H; exact H) | (simp only [hji25] at H ⊢; exact H)
                              have hji25_ : (x28_1 / 2 ^ min x12_4.toNat 64) = ji25 := hji25
                              have hji25z : x12_4 ≤ 64 → (x28_1 / 2 ^ x12_4.toNat) = ji25 := shr_small hji25
                              by_cases c26 : (Go.bits .and .i64 (ji25) 1) = 1
                              · rw [if_pos c26] at H
                                have c26b0 : ((Go.bits .and .i64 (ji25) 1) == 1) = true := beq_iff_eq.mpr c26
                                have c26b1 : ((Go.bits .and .i64 (ji25) 1) != 1) = false := bne_eq_false_iff_eq.mpr c26
                                clear c26
                                have H' := Aside0.mk H
                                clear H
                                go_wp2
                                first | (first | go_roundg k4 | (refine Handed.intro k4 ?measure ?_; rotate_left; go_step; (try simp only [add_plain]); (repeat apply Exists.intro); refine ⟨?rel, rfl⟩)) | ((try subst hji25); (try subst hji21); (try subst hji3); (first | go_roundg k4 | (refine Handed.intro k4 ?measure ?_; rotate_left; go_step; (try simp only [add_plain]); (repeat apply Exists.intro); refine ⟨?rel, rfl⟩)))
                                case measure => have := HK1.out; have := HK2.out; have := HK3.out; have := HK4.out; omega
                                case rel => exact ⟨(wrap64 (-x11_4)), (wrap64 (x12_4 + 1)), es_, es_, H', ⟨by have := HK1.out; have := HK2.out; have := HK3.out; have := HK4.out; omega⟩, ⟨by (try simp only [hl6_1]); (try simp only [hl6_3]); (with_reducible repeat (first | apply Kd.S_alloc | apply Kd.S_drewN | apply Kd.S_drew)); exact HO_6.out⟩, ⟨hb_⟩⟩
                              · rw [if_neg c26] at H
                                have c26b0 : ((Go.bits .and .i64 (ji25) 1) == 1) = false := beq_eq_false_iff_ne.mpr c26
                                have c26b1 : ((Go.bits .and .i64 (ji25) 1) != 1) = true := bne_iff_ne.mpr c26
                                have H' := Aside0.mk H
                                clear H
                                go_wp2
                                first | (first | go_roundg k4 | (refine Handed.intro k4 ?measure ?_; rotate_left; go_step; (try simp only [add_plain]); (repeat apply Exists.intro); refine ⟨?rel, rfl⟩)) | ((try subst hji25); (try subst hji21); (try subst hji3); (first | go_roundg k4 | (refine Handed.intro k4 ?measure ?_; rotate_left; go_step; (try simp only [add_plain]); (repeat apply Exists.intro); refine ⟨?rel, rfl⟩)))
                                case measure => have := HK1.out; have := HK2.out; have := HK3.out; have := HK4.out; omega
                                case rel => exact ⟨(x11_4), (wrap64 (x12_4 + 1)), es_, es_, H', ⟨by have := HK1.out; have := HK2.out; have := HK3.out; have := HK4.out; omega⟩, ⟨by (try simp only [hl6_1]); (try simp only [hl6_3]); (with_reducible repeat (first | apply Kd.S_alloc | apply Kd.S_drewN | apply Kd.S_drew)); exact HO_6.out⟩, ⟨hb_⟩⟩
                            · rw [if_neg c23] at H
                              have c23b0 := decide_eq_false c23
                              (try (have c23z0 := c23b0; simp only [hl6_1, hl6_3] at c23z0))
                              clear c23
                              obtain ⟨c27, H⟩ := itn_ H
                              have c27b0 := eq_true c27
                              have c27b1 := decide_eq_true c27
                              clear c27
                              obtain ⟨ji28, hji28⟩ : ∃ j_ : Int, (shl .i64 1 x43_3) = j_ := ⟨_, rfl⟩
                              (try rw [hji28])
                              replace H : (if 0 ≤ x28_1 then (if x28_1 < (x6_3.length : Int) then (if (Go.bits .or .i64 x28_1 (ji28)).toNat = x28_1.toNat then none else (impl_polynomials_at_Graph_vertexFactor_1.l4 k4 l0 (l0.length : Int) x6_3 x28_1 x8_2 x43_3 x11_4 (Go.bits .or .i64 x28_1 (ji28)) (y314.length : Int) x28_1 (l0.length : Int) x43_3 (rd_L1 x6_3 x28_1) ((rd_L1 x6_3 x28_1).length : Int) 0)) else (none)) else (none)) = some r := by first | (rw [hji28] at H; exact H) | (simp only [hji28] at H ⊢; exact H)
                              have hji28_ : (IntKind.i64.wrap (1 * 2 ^ min x43_3.toNat 64)) = ji28 := hji28
                              have hji28z : x43_3 ≤ 64 → (IntKind.i64.wrap (1 * 2 ^ x43_3.toNat)) = ji28 := shl_small hji28
                              have hji28u : (IntKind.i64.wrap (2 ^ min x43_3.toNat 64)) = ji28 := by have h_ := hji28_; rw [Int.one_mul] at h_; exact h_
                              have hji28v : x43_3 ≤ 64 → (IntKind.i64.wrap (2 ^ x43_3.toNat)) = ji28 := fun hle_ => by have h_ := hji28z hle_; rw [Int.one_mul] at h_; exact h_
                              have hji28y : (wrap64 (1 * 2 ^ min x43_3.toNat 64)) = ji28 := (i64_w _).symm.trans hji28_
                              have hji28x : x43_3 ≤ 64 → (wrap64 (1 * 2 ^ x43_3.toNat)) = ji28 := fun h_ => (i64_w _).symm.trans (hji28z h_)
                              obtain ⟨c29, H⟩ := itn_ H
                              have c29b0 := decide_eq_true c29
                              clear c29
                              obtain ⟨c30, H⟩ := itn_ H
                              have c30b0 := decide_eq_true c30
                              (try (have c30z0 := c30b0; simp only [hl6_1, hl6_3] at c30z0))
                              clear c30
                              obtain ⟨hne_, H⟩ := impl_polynomials_at_Graph_vertexFactor_1.nit_ H
                              have NE := Aside0.mk hne_
                              clear hne_
                              have H' := Aside0.mk H
                              clear H
                              have p325 : 0 ≤ (x28_1 : Int) := od_
                              have q325 : x28_1 < (x6_3.length : Int) := od_
                              obtain ⟨ad325, A325_0, c325_0, e325, hx325_0, hl325_0, hi325_0⟩ := at_L1 (Kd.S_reads' HO_6.out).2.2 x28_1 p325 q325
                              obtain rfl : (⟨go7, 0, none⟩ : Addr) = ad325 := (by injection e325)
                              obtain ⟨ce325, hce325, hMe325, hcc325⟩ := Kd.S_get HO_6.out [] x28_1 p325 (by first | exact q325 | exact od_ | (have e_ := (Kd.S_reads' HO_6.out).1; omega))
                              obtain ⟨ve325_0, rfl, ge325_0⟩ := hMe325
                              have hv325_0 := hcc325 0 _ rfl
                              rw [Nat.add_zero, show ((Kd.slice 2 (Kd.int .i64))).sz = 1 from rfl, Nat.mul_one] at hv325_0
                              replace hv325_0 := Option.some.inj (hv325_0.symm.trans hx325_0)
                              rw [hv325_0] at ge325_0
                              have HL325_0 := Aside0.mk (show Kd.R (Kd.int .i64) 2 _ _ _ _ (rd_L1 x6_3 x28_1) from ge325_0)
                              clear hv325_0 ge325_0
                              have HX325_0 := Aside0.mk hx325_0
                              clear hcc325 hce325
                              (first | simp only [add_plain] at hx325_0 | simp only [add_at] at hx325_0 | simp only [Addr.add, Nat.zero_add] at hx325_0 | skip)
                              have SET := Aside0.mk (show _ ∧ rd_L1 x6_3 x28_1 = rd_L1 x6_3 x28_1 from ⟨hx325_0, rfl⟩)
                              have HR325_0 := Aside0.mk hi325_0
                              have HC325_0 := Aside0.mk hl325_0
                              clear hi325_0 hl325_0
                              replace p325 := eq_true p325
                              replace q325 := eq_true q325
                              go_wp2
                              go_loopg [74] k4 (fun kq v74 w' => ∃ (x6_5 : List (List Int)) (x74_5 : Int), v74 = .int .i64 x74_5 ∧ Aside0 (impl_polynomials_at_Graph_vertexFactor_1.l4 kq l0 (l0.length : Int) x6_5 x28_1 x8_2 x43_3 x11_4 (Go.bits .or .i64 x28_1 (ji28)) (y314.length : Int) x28_1 (l0.length : Int) x43_3 (rd_L1 x6_3 x28_1) ((rd_L1 x6_3 x28_1).length : Int) x74_5 = some r) ∧ Aside0 (kq ≤ k4) ∧ Aside0 (Kd.S (Kd.slice 2 (Kd.int .i64)) 26 w' w.heap.size (fun _ => True) (.slice (some ⟨go7, 0, none⟩) x6_3.length co7) x6_5) ∧ Aside0 (Below w.heap.size w w') ∧ Aside0 (w'.cell? ⟨go7, (x28_1 : Int).toNat, none⟩ = some (.slice A325_0 (rd_L1 x6_3 x28_1).length c325_0) ∧ rd_L1 x6_5 x28_1 = rd_L1 x6_3 x28_1))
                              case atStart => exact ⟨(x6_3), (0), es_, H', ⟨Nat.le_refl _⟩, ⟨by (try simp only [hl6_1]); (try simp only [hl6_3]); (with_reducible repeat (first | apply Kd.S_alloc | apply Kd.S_drewN | apply Kd.S_drew)); exact HO_6.out⟩, ⟨hb_⟩, ⟨⟨SET.out.1, by first | exact SET.out.2 | rfl⟩⟩⟩
                              case round =>
                                clear H'
                                obtain ⟨x6_5, x74_5, rfl, HA, HK5, HO_6, HB, SET⟩ := hrel
                                have hl6_5 := (Kd.S_reads' HO_6.out).1
                                rw [hl6_5] at HO_6
                                (try simp only [hl6_5])
                                cases gk with
                                | zero => exact absurd HA.out (by simp [impl_polynomials_at_Graph_vertexFactor_1.l4])
                                | succ k5 =>
                                  have H := HA.out
                                  clear HA
                                  simp only [impl_polynomials_at_Graph_vertexFactor_1.l4] at H
                                  by_cases c31 : x74_5 < ((rd_L1 x6_3 x28_1).length : Int)
                                  · rw [if_pos c31] at H
                                    have c31b0 := decide_eq_true c31
                                    (try (have c31z0 := c31b0; simp only [hl6_1, hl6_3, hl6_5] at c31z0))
                                    clear c31
                                    obtain ⟨c32, H⟩ := itn_ H
                                    have c32b0 := decide_eq_true c32
                                    clear c32
                                    obtain ⟨c33, H⟩ := itn_ H
                                    have c33b0 := decide_eq_true c33
                                    (try (have c33z0 := c33b0; simp only [hl6_1, hl6_3, hl6_5] at c33z0))
                                    clear c33
                                    obtain ⟨c34, H⟩ := itn_ H
                                    have c34b0 := decide_eq_true c34
                                    clear c34
                                    obtain ⟨c35, H⟩ := itn_ H
                                    have c35b0 := decide_eq_true c35
                                    (try (have c35z0 := c35b0; simp only [hl6_1, hl6_3, hl6_5] at c35z0))
                                    clear c35
                                    obtain ⟨c36, H⟩ := itn_ H
                                    have c36b0 := decide_eq_true c36
                                    clear c36
                                    obtain ⟨c37, H⟩ := itn_ H
                                    have c37b0 := decide_eq_true c37
                                    (try (have c37z0 := c37b0; simp only [hl6_1, hl6_3, hl6_5] at c37z0))
                                    clear c37
                                    have H' := Aside0.mk H
                                    clear H
                                    have p326 : 0 ≤ (x74_5 : Int) := od_
                                    have q326 : x74_5 < ((rd_L1 x6_3 x28_1).length : Int) := od_
                                    obtain ⟨adS, AS, cS, eS, hxS, hlS, hiS⟩ := at_L1 (Kd.S_reads' HO_6.out).2.2 x28_1 (of_eq_true p325) (by have h1_ := of_eq_true q325; have h2_ := (Kd.S_reads' HO_6.out).1; omega)
                                    obtain rfl : (⟨go7, 0, none⟩ : Addr) = adS := (by injection eS)
                                    (try simp only [add_plain] at hxS)
                                    have eqS_ := Option.some.inj (hxS.symm.trans SET.out.1)
                                    injection eqS_ with eaS_ _ _
                                    rw [eaS_] at hiS
                                    rw [SET.out.2] at hiS
                                    obtain ⟨ad326, e326, hx326_0⟩ := Kd.at_int hiS x74_5 p326 q326
                                    cases e326
                                    clear hiS hxS hlS eS eaS_
                                    replace p326 := eq_true p326
                                    replace q326 := eq_true q326
                                    have p327 : 0 ≤ (x8_2 : Int) := od_
                                    have q327 : x8_2 < (l0.length : Int) := od_
                                    obtain ⟨ad327, A327_0, c327_0, e327, hx327_0, hl327_0, hi327_0⟩ := at_L2 HR0.out x8_2 p327 q327
                                    cases e327
                                    replace hx327_0 := (HB.out.cell (World.block_lt_of_cell? w _ hx327_0)).trans hx327_0
                                    have HR327_0 := Aside0.mk hi327_0
                                    have HC327_0 := Aside0.mk hl327_0
                                    clear hi327_0 hl327_0
                                    replace p327 := eq_true p327
                                    replace q327 := eq_true q327
                                    have p328 : 0 ≤ (x43_3 : Int) := od_
                                    have q328 : x43_3 < ((rd_L2 l0 x8_2).length : Int) := od_
                                    obtain ⟨ad328, A328_0, c328_0, e328, hx328_0, hl328_0, hi328_0⟩ := at_L1 HR327_0.out x43_3 p328 q328
                                    cases e328
                                    replace hx328_0 := (HB.out.cell (World.block_lt_of_cell? w _ hx328_0)).trans hx328_0
                                    have HR328_0 := Aside0.mk hi328_0
                                    have HC328_0 := Aside0.mk hl328_0
                                    clear hi328_0 hl328_0
                                    replace p328 := eq_true p328
                                    replace q328 := eq_true q328
                                    go_wp2
                                    go_loopg [87] k5 (fun kq v87 w' => ∃ (x6_6 : List (List Int)) (x87_6 : Int), v87 = .int .i64 x87_6 ∧ Aside0 (impl_polynomials_at_Graph_vertexFactor_1.l5 kq l0 (l0.length : Int) x6_6 x28_1 x8_2 x43_3 x11_4 (Go.bits .or .i64 x28_1 (ji28)) x74_5 (rd (rd_L1 x6_3 x28_1) x74_5) (y314.length : Int) x28_1 (l0.length : Int) x43_3 (rd_L1 x6_3 x28_1) ((rd_L1 x6_3 x28_1).length : Int) x74_5 (rd_L1 (rd_L2 l0 x8_2) x43_3) ((rd_L1 (rd_L2 l0 x8_2) x43_3).length : Int) x87_6 = some r) ∧ Aside0 (kq ≤ k5) ∧ Aside0 (Kd.S (Kd.slice 2 (Kd.int .i64)) 26 w' w.heap.size (fun _ => True) (.slice (some ⟨go7, 0, none⟩) x6_5.length co7) x6_6) ∧ Aside0 (Below w.heap.size w w') ∧ Aside0 (w'.cell? ⟨go7, (x28_1 : Int).toNat, none⟩ = some (.slice (some ad326) (rd_L1 x6_3 x28_1).length c325_0) ∧ rd_L1 x6_6 x28_1 = rd_L1 x6_3 x28_1))
                                    case atStart => exact ⟨(x6_5), (0), es_, H', ⟨Nat.le_refl _⟩, ⟨by (try simp only [hl6_1]); (try simp only [hl6_3]); (try simp only [hl6_5]); (with_reducible repeat (first | apply Kd.S_alloc | apply Kd.S_drewN | apply Kd.S_drew)); exact HO_6.out⟩, ⟨hb_⟩, ⟨⟨SET.out.1, by first | exact SET.out.2 | rfl⟩⟩⟩
                                    case round =>
                                      clear H'
                                      obtain ⟨x6_6, x87_6, rfl, HA, HK6, HO_6, HB, SET⟩ := hrel
                                      have hl6_6 := (Kd.S_reads' HO_6.out).1
                                      rw [hl6_6] at HO_6
                                      (try simp only [hl6_6])
                                      cases gk with
                                      | zero => exact absurd HA.out (by simp [impl_polynomials_at_Graph_vertexFactor_1.l5])
                                      | succ k6 =>
                                        have H := HA.out
                                        clear HA
                                        simp only [impl_polynomials_at_Graph_vertexFactor_1.l5] at H
                                        by_cases c38 : x87_6 < ((rd_L1 (rd_L2 l0 x8_2) x43_3).length : Int)
                                        · rw [if_pos c38] at H
                                          have c38b0 := decide_eq_true c38
                                          (try (have c38z0 := c38b0; simp only [hl6_1, hl6_3, hl6_5, hl6_6] at c38z0))
                                          clear c38
                                          obtain ⟨c39, H⟩ := itn_ H
                                          have c39b0 := decide_eq_true c39
                                          clear c39
                                          obtain ⟨c40, H⟩ := itn_ H
                                          have c40b0 := decide_eq_true c40
                                          (try (have c40z0 := c40b0; simp only [hl6_1, hl6_3, hl6_5, hl6_6] at c40z0))
                                          clear c40
                                          have H' := Aside0.mk H
                                          clear H
                                          have p329 : 0 ≤ (x87_6 : Int) := od_
                                          have q329 : x87_6 < ((rd_L1 (rd_L2 l0 x8_2) x43_3).length : Int) := od_
                                          obtain ⟨ad329, e329, hx329_0⟩ := Kd.at_int HR328_0.out x87_6 p329 q329
                                          cases e329
                                          replace hx329_0 := (HB.out.cell (World.block_lt_of_cell? w _ hx329_0)).trans hx329_0
                                          replace p329 := eq_true p329
                                          replace q329 := eq_true q329
                                          go_wp2
                                          go_loopg [] k6 (fun kq w' => ∃ (x6_7 : List (List Int)), Aside0 (impl_polynomials_at_Graph_vertexFactor_1.l6 kq l0 (l0.length : Int) x6_7 x28_1 x8_2 x43_3 x11_4 (Go.bits .or .i64 x28_1 (ji28)) x74_5 (rd (rd_L1 x6_3 x28_1) x74_5) x87_6 (rd (rd_L1 (rd_L2 l0 x8_2) x43_3) x87_6) (y314.length : Int) x28_1 (l0.length : Int) x43_3 (rd_L1 x6_3 x28_1) ((rd_L1 x6_3 x28_1).length : Int) x74_5 (rd_L1 (rd_L2 l0 x8_2) x43_3) ((rd_L1 (rd_L2 l0 x8_2) x43_3).length : Int) x87_6 = some r) ∧ Aside0 (kq ≤ k6) ∧ Aside0 (Kd.S (Kd.slice 2 (Kd.int .i64)) 26 w' w.heap.size (fun _ => True) (.slice (some ⟨go7, 0, none⟩) x6_6.length co7) x6_7) ∧ Aside0 (Below w.heap.size w w') ∧ Aside0 (w'.cell? ⟨go7, (x28_1 : Int).toNat, none⟩ = some (.slice (some ad326) (rd_L1 x6_3 x28_1).length c325_0) ∧ rd_L1 x6_7 x28_1 = rd_L1 x6_3 x28_1))
                                          case atStart => exact ⟨(x6_6), H', ⟨Nat.le_refl _⟩, ⟨by (try simp only [hl6_1]); (try simp only [hl6_3]); (try simp only [hl6_5]); (try simp only [hl6_6]); (with_reducible repeat (first | apply Kd.S_alloc | apply Kd.S_drewN | apply Kd.S_drew)); exact HO_6.out⟩, ⟨hb_⟩, ⟨⟨SET.out.1, by first | exact SET.out.2 | rfl⟩⟩⟩
                                          case round =>
                                            clear H'
                                            obtain ⟨x6_7, HA, HK7, HO_6, HB, SET⟩ := hrel
                                            have hl6_7 := (Kd.S_reads' HO_6.out).1
                                            rw [hl6_7] at HO_6
                                            (try simp only [hl6_7])
                                            cases gk with
                                            | zero => exact absurd HA.out (by simp [impl_polynomials_at_Graph_vertexFactor_1.l6])
                                            | succ k7 =>
                                              have H := HA.out
                                              clear HA
                                              simp only [impl_polynomials_at_Graph_vertexFactor_1.l6] at H
                                              obtain ⟨c41, H⟩ := itn_ H
                                              have c41b0 := decide_eq_true c41
                                              clear c41
                                              obtain ⟨c42, H⟩ := itn_ H
                                              have c42b0 := decide_eq_true c42
                                              (try (have c42z0 := c42b0; simp only [hl6_1, hl6_3, hl6_5, hl6_6, hl6_7] at c42z0))
                                              clear c42
                                              by_cases c43 : ((rd_L1 x6_7 (Go.bits .or .i64 x28_1 (ji28))).length : Int) ≤ (wrap64 (x74_5 + x87_6))
                                              · rw [if_pos c43] at H
                                                have c43b0 := decide_eq_true c43
                                                (try (have c43z0 := c43b0; simp only [hl6_1, hl6_3, hl6_5, hl6_6, hl6_7] at c43z0))
                                                clear c43
                                                obtain ⟨c44, H⟩ := itn_ H
                                                have LMc44 := Aside0.mk c44
                                                clear c44
                                                obtain ⟨y332, Ny332, H⟩ : ∃ y332 : List Int, Aside0 (y332 = ((rd_L1 x6_7 (Go.bits .or .i64 x28_1 (ji28))) ++ [0])) ∧ (impl_polynomials_at_Graph_vertexFactor_1.l6 k7 l0 (l0.length : Int) (x6_7.set ((Go.bits .or .i64 x28_1 (ji28)) : Int).toNat y332) x28_1 x8_2 x43_3 x11_4 (Go.bits .or .i64 x28_1 (ji28)) x74_5 (rd (rd_L1 x6_3 x28_1) x74_5) x87_6 (rd (rd_L1 (rd_L2 l0 x8_2) x43_3) x87_6) (y314.length : Int) x28_1 (l0.length : Int) x43_3 (rd_L1 x6_3 x28_1) ((rd_L1 x6_3 x28_1).length : Int) x74_5 (rd_L1 (rd_L2 l0 x8_2) x43_3) ((rd_L1 (rd_L2 l0 x8_2) x43_3).length : Int) x87_6) = some r := ⟨_, ⟨rfl⟩, H⟩
                                                obtain ⟨y335, Ny335, H⟩ : ∃ y335 : List (List Int), Aside0 (y335 = (x6_7.set ((Go.bits .or .i64 x28_1 (ji28)) : Int).toNat y332)) ∧ (impl_polynomials_at_Graph_vertexFactor_1.l6 k7 l0 (l0.length : Int) y335 x28_1 x8_2 x43_3 x11_4 (Go.bits .or .i64 x28_1 (ji28)) x74_5 (rd (rd_L1 x6_3 x28_1) x74_5) x87_6 (rd (rd_L1 (rd_L2 l0 x8_2) x43_3) x87_6) (y314.length : Int) x28_1 (l0.length : Int) x43_3 (rd_L1 x6_3 x28_1) ((rd_L1 x6_3 x28_1).length : Int) x74_5 (rd_L1 (rd_L2 l0 x8_2) x43_3) ((rd_L1 (rd_L2 l0 x8_2) x43_3).length : Int) x87_6) = some r := ⟨_, ⟨rfl⟩, H⟩
                                                have H' := Aside0.mk H
                                                clear H
                                                have p330 : 0 ≤ ((Go.bits .or .i64 x28_1 (ji28)) : Int) := od_
                                                have q330 : (Go.bits .or .i64 x28_1 (ji28)) < (x6_7.length : Int) := od_
                                                obtain ⟨ad330, A330_0, c330_0, e330, hx330_0, hl330_0, hi330_0⟩ := at_L1 (Kd.S_reads' HO_6.out).2.2 (Go.bits .or .i64 x28_1 (ji28)) p330 q330
                                                obtain rfl : (⟨go7, 0, none⟩ : Addr) = ad330 := (by injection e330)
                                                obtain ⟨ce330, hce330, hMe330, hcc330⟩ := Kd.S_get HO_6.out [] (Go.bits .or .i64 x28_1 (ji28)) p330 (by first | exact q330 | exact od_ | (have e_ := (Kd.S_reads' HO_6.out).1; omega))
                                                obtain ⟨ve330_0, rfl, ge330_0⟩ := hMe330
                                                have hv330_0 := hcc330 0 _ rfl
                                                rw [Nat.add_zero, show ((Kd.slice 2 (Kd.int .i64))).sz = 1 from rfl, Nat.mul_one] at hv330_0
                                                replace hv330_0 := Option.some.inj (hv330_0.symm.trans hx330_0)
                                                rw [hv330_0] at ge330_0
                                                have HL330_0 := Aside0.mk (show Kd.R (Kd.int .i64) 2 _ _ _ _ (rd_L1 x6_7 (Go.bits .or .i64 x28_1 (ji28))) from ge330_0)
                                                clear hv330_0 ge330_0
                                                have HX330_0 := Aside0.mk hx330_0
                                                clear hcc330 hce330
                                                (first | simp only [add_plain] at hx330_0 | simp only [add_at] at hx330_0 | simp only [Addr.add, Nat.zero_add] at hx330_0 | skip)
                                                have HR330_0 := Aside0.mk hi330_0
                                                have HC330_0 := Aside0.mk hl330_0
                                                clear hi330_0 hl330_0
                                                replace p330 := eq_true p330
                                                replace q330 := eq_true q330
                                                have p331 : 0 ≤ ((Go.bits .or .i64 x28_1 (ji28)) : Int) := od_
                                                have q331 : (Go.bits .or .i64 x28_1 (ji28)) < (x6_7.length : Int) := od_
                                                obtain ⟨ad331, A331_0, c331_0, e331, hx331_0, hl331_0, hi331_0⟩ := at_L1 (Kd.S_reads' HO_6.out).2.2 (Go.bits .or .i64 x28_1 (ji28)) p331 q331
                                                obtain rfl : (⟨go7, 0, none⟩ : Addr) = ad331 := (by injection e331)
                                                obtain ⟨ce331, hce331, hMe331, hcc331⟩ := Kd.S_get HO_6.out [] (Go.bits .or .i64 x28_1 (ji28)) p331 (by first | exact q331 | exact od_ | (have e_ := (Kd.S_reads' HO_6.out).1; omega))
                                                obtain ⟨ve331_0, rfl, ge331_0⟩ := hMe331
                                                have hv331_0 := hcc331 0 _ rfl
                                                rw [Nat.add_zero, show ((Kd.slice 2 (Kd.int .i64))).sz = 1 from rfl, Nat.mul_one] at hv331_0
                                                replace hv331_0 := Option.some.inj (hv331_0.symm.trans hx331_0)
                                                rw [hv331_0] at ge331_0
                                                have HL331_0 := Aside0.mk (show Kd.R (Kd.int .i64) 2 _ _ _ _ (rd_L1 x6_7 (Go.bits .or .i64 x28_1 (ji28))) from ge331_0)
                                                clear hv331_0 ge331_0
                                                have HX331_0 := Aside0.mk hx331_0
                                                clear hcc331 hce331
                                                (first | simp only [add_plain] at hx331_0 | simp only [add_at] at hx331_0 | simp only [Addr.add, Nat.zero_add] at hx331_0 | skip)
                                                have HR331_0 := Aside0.mk hi331_0
                                                have HC331_0 := Aside0.mk hl331_0
                                                clear hi331_0 hl331_0
                                                replace p331 := eq_true p331
                                                replace q331 := eq_true q331
                                                have ea_ := Option.some.inj (hx330_0.symm.trans hx331_0)
                                                injection ea_ with ea_ en_ ec_
                                                subst ea_
                                                subst ec_
                                                clear en_
                                                obtain ⟨oki46, ce46, hcl46, hM46, hcc46, _, hokS, hH46⟩ := Kd.S_elem HO_6.out [] ((Go.bits .or .i64 x28_1 (ji28)) : Int) (od_) (by have h_ : ((Go.bits .or .i64 x28_1 (ji28)) : Int) < ((x6_7.length : Int) : Int) := od_; first | exact h_ | (have e_ := (Kd.S_reads' HO_6.out).1; omega) | simpa using h_)
                                                obtain ⟨ve46_0, rfl, ge46_0⟩ := hM46
                                                have hv46 := hcc46 0 _ rfl
                                                have hX46 := HX331_0.out
                                                (try simp only [add_plain] at hX46)
                                                (try simp only [Nat.add_zero] at hv46)
                                                (try rw [show ((Kd.slice 2 (Kd.int .i64))).sz = 1 from rfl, Nat.mul_one] at hv46)
                                                replace hv46 := Option.some.inj (hv46.symm.trans hX46)
                                                subst hv46
                                                clear hX46 hcc46 hcl46
                                                have HOKS := Aside0.mk hokS
                                                clear hokS
                                                have UU46 := Aside0.mk (show Kd.R (Kd.int .i64) 2 _ w.heap.size oki46 (.slice A330_0 (rd_L1 x6_7 (Go.bits .or .i64 x28_1 (ji28))).length c330_0) (rd_L1 x6_7 (Go.bits .or .i64 x28_1 (ji28))) from ge46_0)
                                                have HH46 := Aside0.mk hH46
                                                have HN46 := Aside0.mk (Kd.S_reads' HO_6.out).1
                                                clear hH46 ge46_0
                                                go_wp2_with (first | ((with_reducible refine gate_builtin (b := .append) (xs := #[.tmp 106, .tmp 107]) rfl ?_); at_builtin; refine Kd.R_append (Kd.int .i64) (w0 := w) w.heap.size rfl (.tmp 106) (.tmp 107) 26 2 (.int .i64 0) 8 rfl Try.underlying26 info2 rfl (by decide) (by omega) (.slice A330_0 (rd_L1 x6_7 (Go.bits .or .i64 x28_1 (ji28))).length c330_0) (rd_L1 x6_7 (Go.bits .or .i64 x28_1 (ji28))) 0 [.int .i64 0] (fun k_ => oki46 k_ ∨ ((fun _ => True)) k_ ∧ wr.heap.size ≤ k_) (fun _ => False) rfl rfl ?aP (fun _ hk => hk.elim) ?aF ?aO ?aB ?aS ?aL ?_; (case aP => exact rfl); (case aB => exact hb_); (case aF => exact (fun k_ hk => .inr ⟨trivial, hk⟩)); (case aO => exact (by (with_reducible repeat (first | apply Kd.R_alloc | apply Kd.R_drewN | apply Kd.R_drew)); exact Kd.R_mono UU46.out (fun _ hk => .inl hk))); (case aS => exact (below_size hb_)); (case aL => have := LMc44.out; omega); intro v333 w47 ho hb hg hat; rw [← Ny332.out] at ho; replace SET := Aside0.mk (And.intro (impl_polynomials_at_Graph_vertexFactor_1.cell_grown hg SET.out.1 (fun e_ => (HOKS.out _ (UU46.out.1 _ e_.symm)).2 rfl)) SET.out.2); clear HOKS; replace HB := Aside0.mk (hb); replace HH46 := Aside0.mk (Kd.H_grown (Kd.H_widen (by repeat (first | exact HH46.out | refine Kd.H_alloc ?_ _ | refine Kd.H_drewN ?_ _ | refine Kd.H_drew ?_))) hg (fun k_ e_ => .inl (UU46.out.1 k_ e_))); have HO334 := Aside0.mk (ho); clear HO_6 UU46 HL330_0 HL331_0; clear ho hb hg hat; have p45 : 0 ≤ ((Go.bits .or .i64 x28_1 (ji28)) : Int) := od_; have q45 : ((Go.bits .or .i64 x28_1 (ji28)) : Int) < ((x6_7.length : Int) : Int) := od_; replace p45 := eq_true p45; replace q45 := eq_true q45; obtain ⟨Ao50, co50, eo50⟩ := Kd.R_slice HO334.out; subst eo50; obtain ⟨_, _, hraw48, _, _, hcc48, _⟩ := Kd.H_raw HH46.out (od_) (by have h_ : ((Go.bits .or .i64 x28_1 (ji28)) : Int) < ((x6_7.length : Int) : Int) := od_; first | exact h_ | (have e_ := (HN46.out); omega) | simpa using h_); obtain ⟨_, hfr48⟩ := Kd.H_at HH46.out (od_) (by have h_ : ((Go.bits .or .i64 x28_1 (ji28)) : Int) < ((x6_7.length : Int) : Int) := od_; first | exact h_ | (have e_ := (HN46.out); omega) | simpa using h_); have hx48_0 := hcc48 0 _ rfl; have hf48_0 := hfr48 0; (try simp only [Nat.add_zero] at hx48_0 hf48_0); (try rw [show ((Kd.slice 2 (Kd.int .i64))).sz = 1 from rfl, Nat.mul_one] at hx48_0); (try rw [show ((Kd.slice 2 (Kd.int .i64))).sz = 1 from rfl, Nat.mul_one] at hf48_0); have HP48 := Kd.S_seg0 HH46.out (od_) (by have h_ : ((Go.bits .or .i64 x28_1 (ji28)) : Int) < ((x6_7.length : Int) : Int) := od_; first | exact h_ | (have e_ := (HN46.out); omega) | simpa using h_) (seg := [.slice Ao50 y332.length co50]) (j := 0) (show 1 ≤ 1 from by decide) (x' := y332) (Kd.M_row HO334.out) (fun _ hk => hk); (try simp only [show ((Kd.slice 2 (Kd.int .i64))).sz = 1 from rfl, Nat.mul_one, Nat.add_zero] at HP48); clear hcc48 hfr48) | ((with_reducible refine gate_store (t := 26) (p := 109) rfl ?_); refine store_event (t := 26) (p := 109) (v := ?vo_w49) (w1 := (w47.setCell ⟨go7, ((Go.bits .or .i64 x28_1 (ji28)) : Int).toNat, none⟩ (.slice Ao50 y332.length co50))) ?hg ?ho ?hn ?hr ?_; (case ho => rfl); (case hg => rfl); (case hn => rfl); (case hr => first | (go_simp; done) | (go_simp; rfl)); intro w49 hw; have hg : w47.grownBy w49 (some go7) := (by rw [hw]; exact HP48.2); have hp_ : Kd.S (Kd.slice 2 (Kd.int .i64)) 26 w49 w.heap.size (fun _ => True) (.slice (some ⟨go7, 0, none⟩) x6_7.length co7) y335 := (by rw [hw, Ny335.out]; exact HP48.1); replace SET := Aside0.mk (And.intro ((congrArg (fun z_ => World.cell? z_ ⟨go7, (x28_1 : Int).toNat, none⟩) hw).trans (impl_polynomials_at_Graph_vertexFactor_1.cell_set_ne SET.out.1 (fun e_ => NE.out e_.symm))) ((congrArg (fun z_ => rd_L1 z_ x28_1) Ny335.out).trans ((impl_polynomials_at_Graph_vertexFactor_1.rd_L1_set_ne (fun e_ => NE.out e_)).trans SET.out.2))); clear HP48; replace HB := Aside0.mk ((by rw [hw]; exact below_set HB.out GB7.out : Below w.heap.size w w49)); have HO_6 := Aside0.mk (hp_); clear HO334 HH46; clear hg hw hp_ hraw48))
                                                (try simp only [← hl6_7])
                                                first | (first | go_roundg k7 | (refine Handed.intro k7 ?measure ?_; rotate_left; go_step; (try simp only [add_plain]); (repeat apply Exists.intro); refine ⟨?rel, rfl⟩)) | ((try subst hji28); (try subst hji21); (try subst hji3); (first | go_roundg k7 | (refine Handed.intro k7 ?measure ?_; rotate_left; go_step; (try simp only [add_plain]); (repeat apply Exists.intro); refine ⟨?rel, rfl⟩)))
                                                case measure => have := HK1.out; have := HK2.out; have := HK3.out; have := HK4.out; have := HK5.out; have := HK6.out; have := HK7.out; omega
                                                case rel => exact ⟨(y335), H', ⟨by have := HK1.out; have := HK2.out; have := HK3.out; have := HK4.out; have := HK5.out; have := HK6.out; have := HK7.out; omega⟩, ⟨by (try simp only [hl6_1]); (try simp only [hl6_3]); (try simp only [hl6_5]); (try simp only [hl6_6]); (try simp only [hl6_7]); (with_reducible repeat (first | apply Kd.S_alloc | apply Kd.S_drewN | apply Kd.S_drew)); exact HO_6.out⟩, ⟨hb_⟩, ⟨⟨SET.out.1, by first | exact SET.out.2 | rfl⟩⟩⟩
                                              · rw [if_neg c43] at H
                                                have c43b0 := decide_eq_false c43
                                                (try (have c43z0 := c43b0; simp only [hl6_1, hl6_3, hl6_5, hl6_6, hl6_7] at c43z0))
                                                clear c43
                                                obtain ⟨ji51, hji51⟩ : ∃ j_ : Int, (wrap64 (x74_5 + x87_6)) = j_ := ⟨_, rfl⟩
                                                (try rw [hji51])
                                                replace H : (if 0 ≤ (ji51) then (if (ji51) < ((rd_L1 x6_7 (Go.bits .or .i64 x28_1 (ji28))).length : Int) then ((impl_Graph_vertexFactor_1.f (wrap64 ((rd (rd_L1 x6_7 (Go.bits .or .i64 x28_1 (ji28))) (ji51)) + (wrap64 ((wrap64 (x11_4 * (rd (rd_L1 x6_3 x28_1) x74_5))) * (rd (rd_L1 (rd_L2 l0 x8_2) x43_3) x87_6)))))).bind fun t339 => (impl_polynomials_at_Graph_vertexFactor_1.l5 k7 l0 (l0.length : Int) (x6_7.set ((Go.bits .or .i64 x28_1 (ji28)) : Int).toNat ((rd_L1 x6_7 (Go.bits .or .i64 x28_1 (ji28))).set ((ji51) : Int).toNat t339)) x28_1 x8_2 x43_3 x11_4 (Go.bits .or .i64 x28_1 (ji28)) x74_5 (rd (rd_L1 x6_3 x28_1) x74_5) (y314.length : Int) x28_1 (l0.length : Int) x43_3 (rd_L1 x6_3 x28_1) ((rd_L1 x6_3 x28_1).length : Int) x74_5 (rd_L1 (rd_L2 l0 x8_2) x43_3) ((rd_L1 (rd_L2 l0 x8_2) x43_3).length : Int) (wrap64 (x87_6 + 1)))) else (none)) else (none)) = some r := by first | (rw [hji51] at H; exact H) | (simp only [hji51] at H ⊢; exact H)
                                                (try rw [hji51] at c43b0)
                                                have hji51w : (IntKind.i64.wrap (x74_5 + x87_6)) = ji51 := (i64_w _).trans hji51
                                                obtain ⟨c52, H⟩ := itn_ H
                                                have c52b0 := decide_eq_true c52
                                                clear c52
                                                obtain ⟨c53, H⟩ := itn_ H
                                                have c53b0 := decide_eq_true c53
                                                (try (have c53z0 := c53b0; simp only [hl6_1, hl6_3, hl6_5, hl6_6, hl6_7] at c53z0))
                                                clear c53
                                                obtain ⟨t339, A54, H⟩ := bnd_ H
                                                obtain ⟨y340, Ny340, H⟩ : ∃ y340 : List Int, Aside0 (y340 = ((rd_L1 x6_7 (Go.bits .or .i64 x28_1 (ji28))).set ((ji51) : Int).toNat t339)) ∧ (impl_polynomials_at_Graph_vertexFactor_1.l5 k7 l0 (l0.length : Int) (x6_7.set ((Go.bits .or .i64 x28_1 (ji28)) : Int).toNat y340) x28_1 x8_2 x43_3 x11_4 (Go.bits .or .i64 x28_1 (ji28)) x74_5 (rd (rd_L1 x6_3 x28_1) x74_5) (y314.length : Int) x28_1 (l0.length : Int) x43_3 (rd_L1 x6_3 x28_1) ((rd_L1 x6_3 x28_1).length : Int) x74_5 (rd_L1 (rd_L2 l0 x8_2) x43_3) ((rd_L1 (rd_L2 l0 x8_2) x43_3).length : Int) (wrap64 (x87_6 + 1))) = some r := ⟨_, ⟨rfl⟩, H⟩
                                                obtain ⟨y342, Ny342, H⟩ : ∃ y342 : List (List Int), Aside0 (y342 = (x6_7.set ((Go.bits .or .i64 x28_1 (ji28)) : Int).toNat y340)) ∧ (impl_polynomials_at_Graph_vertexFactor_1.l5 k7 l0 (l0.length : Int) y342 x28_1 x8_2 x43_3 x11_4 (Go.bits .or .i64 x28_1 (ji28)) x74_5 (rd (rd_L1 x6_3 x28_1) x74_5) (y314.length : Int) x28_1 (l0.length : Int) x43_3 (rd_L1 x6_3 x28_1) ((rd_L1 x6_3 x28_1).length : Int) x74_5 (rd_L1 (rd_L2 l0 x8_2) x43_3) ((rd_L1 (rd_L2 l0 x8_2) x43_3).length : Int) (wrap64 (x87_6 + 1))) = some r := ⟨_, ⟨rfl⟩, H⟩
                                                have H' := Aside0.mk H
                                                clear H
                                                have p330 : 0 ≤ ((Go.bits .or .i64 x28_1 (ji28)) : Int) := od_
                                                have q330 : (Go.bits .or .i64 x28_1 (ji28)) < (x6_7.length : Int) := od_
                                                obtain ⟨ad330, A330_0, c330_0, e330, hx330_0, hl330_0, hi330_0⟩ := at_L1 (Kd.S_reads' HO_6.out).2.2 (Go.bits .or .i64 x28_1 (ji28)) p330 q330
                                                obtain rfl : (⟨go7, 0, none⟩ : Addr) = ad330 := (by injection e330)
                                                obtain ⟨ce330, hce330, hMe330, hcc330⟩ := Kd.S_get HO_6.out [] (Go.bits .or .i64 x28_1 (ji28)) p330 (by first | exact q330 | exact od_ | (have e_ := (Kd.S_reads' HO_6.out).1; omega))
                                                obtain ⟨ve330_0, rfl, ge330_0⟩ := hMe330
                                                have hv330_0 := hcc330 0 _ rfl
                                                rw [Nat.add_zero, show ((Kd.slice 2 (Kd.int .i64))).sz = 1 from rfl, Nat.mul_one] at hv330_0
                                                replace hv330_0 := Option.some.inj (hv330_0.symm.trans hx330_0)
                                                rw [hv330_0] at ge330_0
                                                have HL330_0 := Aside0.mk (show Kd.R (Kd.int .i64) 2 _ _ _ _ (rd_L1 x6_7 (Go.bits .or .i64 x28_1 (ji28))) from ge330_0)
                                                clear hv330_0 ge330_0
                                                have HX330_0 := Aside0.mk hx330_0
                                                clear hcc330 hce330
                                                (first | simp only [add_plain] at hx330_0 | simp only [add_at] at hx330_0 | simp only [Addr.add, Nat.zero_add] at hx330_0 | skip)
                                                have HR330_0 := Aside0.mk hi330_0
                                                have HC330_0 := Aside0.mk hl330_0
                                                clear hi330_0 hl330_0
                                                replace p330 := eq_true p330
                                                replace q330 := eq_true q330
                                                try go_wp2
                                                have n0_ := Aside0.mk (Kd.S_drew HO_6.out)
                                                have n1_ := Aside0.mk (Kd.R_drew HL330_0.out)
                                                have n2_ := Aside0.mk (Kd.C_drew HR330_0.out)
                                                have n3_ := Aside0.mk (below_drew1 HB.out)
                                                clear HO_6
                                                clear HL330_0
                                                clear HR330_0
                                                clear HB
                                                have HO_6 := n0_
                                                have HL330_0 := n1_
                                                have HR330_0 := n2_
                                                have HB := n3_
                                                clear n0_ n1_ n2_ n3_
                                                have p336 : 0 ≤ ((Go.bits .or .i64 x28_1 (ji28)) : Int) := od_
                                                have q336 : (Go.bits .or .i64 x28_1 (ji28)) < (x6_7.length : Int) := od_
                                                obtain ⟨ad336, A336_0, c336_0, e336, hx336_0, hl336_0, hi336_0⟩ := at_L1 (Kd.S_reads' HO_6.out).2.2 (Go.bits .or .i64 x28_1 (ji28)) p336 q336
                                                obtain rfl : (⟨go7, 0, none⟩ : Addr) = ad336 := (by injection e336)
                                                obtain ⟨ce336, hce336, hMe336, hcc336⟩ := Kd.S_get HO_6.out [] (Go.bits .or .i64 x28_1 (ji28)) p336 (by first | exact q336 | exact od_ | (have e_ := (Kd.S_reads' HO_6.out).1; omega))
                                                obtain ⟨ve336_0, rfl, ge336_0⟩ := hMe336
                                                have hv336_0 := hcc336 0 _ rfl
                                                rw [Nat.add_zero, show ((Kd.slice 2 (Kd.int .i64))).sz = 1 from rfl, Nat.mul_one] at hv336_0
                                                replace hv336_0 := Option.some.inj (hv336_0.symm.trans hx336_0)
                                                rw [hv336_0] at ge336_0
                                                have HL336_0 := Aside0.mk (show Kd.R (Kd.int .i64) 2 _ _ _ _ (rd_L1 x6_7 (Go.bits .or .i64 x28_1 (ji28))) from ge336_0)
                                                clear hv336_0 ge336_0
                                                have HX336_0 := Aside0.mk hx336_0
                                                clear hcc336 hce336
                                                (first | simp only [add_plain] at hx336_0 | simp only [add_at] at hx336_0 | simp only [Addr.add, Nat.zero_add] at hx336_0 | skip)
                                                have HR336_0 := Aside0.mk hi336_0
                                                have HC336_0 := Aside0.mk hl336_0
                                                clear hi336_0 hl336_0
                                                replace p336 := eq_true p336
                                                replace q336 := eq_true q336
                                                have p337 : 0 ≤ ((Go.bits .or .i64 x28_1 (ji28)) : Int) := od_
                                                have q337 : (Go.bits .or .i64 x28_1 (ji28)) < (x6_7.length : Int) := od_
                                                obtain ⟨ad337, A337_0, c337_0, e337, hx337_0, hl337_0, hi337_0⟩ := at_L1 (Kd.S_reads' HO_6.out).2.2 (Go.bits .or .i64 x28_1 (ji28)) p337 q337
                                                obtain rfl : (⟨go7, 0, none⟩ : Addr) = ad337 := (by injection e337)
                                                obtain ⟨ce337, hce337, hMe337, hcc337⟩ := Kd.S_get HO_6.out [] (Go.bits .or .i64 x28_1 (ji28)) p337 (by first | exact q337 | exact od_ | (have e_ := (Kd.S_reads' HO_6.out).1; omega))
                                                obtain ⟨ve337_0, rfl, ge337_0⟩ := hMe337
                                                have hv337_0 := hcc337 0 _ rfl
                                                rw [Nat.add_zero, show ((Kd.slice 2 (Kd.int .i64))).sz = 1 from rfl, Nat.mul_one] at hv337_0
                                                replace hv337_0 := Option.some.inj (hv337_0.symm.trans hx337_0)
                                                rw [hv337_0] at ge337_0
                                                have HL337_0 := Aside0.mk (show Kd.R (Kd.int .i64) 2 _ _ _ _ (rd_L1 x6_7 (Go.bits .or .i64 x28_1 (ji28))) from ge337_0)
                                                clear hv337_0 ge337_0
                                                have HX337_0 := Aside0.mk hx337_0
                                                clear hcc337 hce337
                                                (first | simp only [add_plain] at hx337_0 | simp only [add_at] at hx337_0 | simp only [Addr.add, Nat.zero_add] at hx337_0 | skip)
                                                have HR337_0 := Aside0.mk hi337_0
                                                have HC337_0 := Aside0.mk hl337_0
                                                clear hi337_0 hl337_0
                                                replace p337 := eq_true p337
                                                replace q337 := eq_true q337
                                                have ea_ := Option.some.inj (hx336_0.symm.trans hx337_0)
                                                injection ea_ with ea_ en_ ec_
                                                subst ea_
                                                subst ec_
                                                clear en_
                                                have p338 : 0 ≤ ((ji51) : Int) := od_
                                                have q338 : (ji51) < ((rd_L1 x6_7 (Go.bits .or .i64 x28_1 (ji28))).length : Int) := od_
                                                obtain ⟨go55, co55, eo55, gb55, gl55, cl55, HG55⟩ := Kd.R_form HL336_0.out (by omega)
                                                (first | cases eo55 | (injection eo55 with ea_ en_ ec_; (first | subst ea_ | (injection ea_ with ea_; subst ea_)); subst ec_; clear en_))
                                                have GB55 := Aside0.mk gb55
                                                skip
                                                clear gb55 gl55 HG55
                                                obtain ⟨ad338, e338, hx338_0⟩ := Kd.at_int (by repeat (first | (with_reducible exact HR337_0.out) | (with_reducible refine Kd.C_alloc ?_ _) | (with_reducible refine Kd.C_drewN ?_ _) | (with_reducible refine Kd.C_drew ?_) | exact HR337_0.out)) (ji51) p338 q338
                                                cases e338
                                                (first | simp only [add_plain] at hx338_0 | skip)
                                                replace p338 := eq_true p338
                                                replace q338 := eq_true q338
                                                refine start_ (n := 26) (S := fun w' => w'.cell? ⟨go7, ((Go.bits .or .i64 x28_1 (ji28))).toNat, none⟩ = some (.slice (some ⟨go55, 0, none⟩) (rd_L1 x6_7 (Go.bits .or .i64 x28_1 (ji28))).length c336_0) ∧ w'.cell? ⟨go7, ((Go.bits .or .i64 x28_1 (ji28))).toNat, none⟩ = some (.slice (some ⟨go55, 0, none⟩) (rd_L1 x6_7 (Go.bits .or .i64 x28_1 (ji28))).length c336_0) ∧ w'.cell? ⟨go55, ((ji51)).toNat, none⟩ = some (.int .i64 (rd (rd_L1 x6_7 (Go.bits .or .i64 x28_1 (ji28))) (ji51)))) (ds := [25]) #[false, false, false, false, false, false, false, false, false, false, false, false, false, false, false, false, false, false, false, false, false, false, false, false, false, false] (by kernel_rfl) rfl rfl ⟨hx336_0, hx337_0, hx338_0⟩ (fun hHeld => ?_); refine with_tabW impl_polynomials_at_Graph_vertexFactor_1.tab32 impl_polynomials_at_Graph_vertexFactor_1.bits32 (fun HT_ HW_ => ?_)
                                                replace SET := Aside0.mk (show (World.cell? wr.drew _ = _) ∧ _ from SET.out)
                                                generalize wr.drew = w56 at SET HO_6 HL330_0 HR330_0 HB HL336_0 HL337_0 HR336_0 HR337_0 HX336_0 HX337_0 hx336_0 hx337_0 hx338_0 hHeld ⊢
                                                refine pk_ 0 26 110 1 ?_
                                                refine pk_ 1 26 111 3 ?_
                                                refine pk_ 2 26 112 7 ?_
                                                refine pk_ 4 26 114 23 ?_
                                                refine pk_ 5 26 115 55 ?_
                                                refine pk_ 6 26 116 119 ?_
                                                refine pk_ 7 26 117 247 ?_
                                                refine pk_ 8 26 118 503 ?_
                                                refine pk_ 9 26 119 1015 ?_
                                                refine pk_ 10 26 120 2039 ?_
                                                refine pk_ 12 26 122 6135 ?_
                                                refine pk_ 13 26 123 14327 ?_
                                                refine pk_ 14 26 124 30711 ?_
                                                refine pk_ 17 26 127 161783 ?_
                                                refine pk_ 18 26 128 423927 ?_
                                                refine pk_ 19 26 129 948215 ?_
                                                refine pk_ 20 26 130 1996791 ?_
                                                refine pk_ 21 26 131 4093943 ?_
                                                refine tk_ 3 26 113 4093951 hHeld ?_
                                                refine tk_ 11 26 121 4095999 hHeld ?_
                                                refine pk_ 15 26 125 4128767 ?_
                                                refine tk_ 16 26 126 4194303 hHeld ?_
                                                refine pk_ 22 26 132 8388607 ?_
                                                refine one_ (i := 23) (N := some 133) #[true, true, true, true, true, true, true, true, true, true, true, true, true, true, true, true, true, true, true, true, true, true, true, true, false, false] rfl rfl (one_of HT_.out (by kernel_rfl)) (by decide) (fun K hK => ?_)
                                                refine goesFR_ Try.func91 (by kernel_rfl) rfl (lb := #[]) #[.int .i64 (wrap64 ((rd (rd_L1 x6_7 (Go.bits .or .i64 x28_1 (ji28))) (ji51)) + (wrap64 ((wrap64 (x11_4 * (rd (rd_L1 x6_3 x28_1) x74_5))) * (rd (rd_L1 (rd_L2 l0 x8_2) x43_3) x87_6)))))] (by rfl) rfl rfl (by first | rfl | (simp; done)) (by (try simp only [List.map_toArray, List.map_cons, List.map_nil, List.append_toArray, List.cons_append, List.nil_append]); first | done | (simp only [hji28, hji51]; rfl) | rfl | (simp only [List.length_drop, List.length_take]; rfl)) ?_
                                                with_reducible refine (impl_Graph_vertexFactor_1.calls (wrap64 ((rd (rd_L1 x6_7 (Go.bits .or .i64 x28_1 (ji28))) (ji51)) + (wrap64 ((wrap64 (x11_4 * (rd (rd_L1 x6_3 x28_1) x74_5))) * (rd (rd_L1 (rd_L2 l0 x8_2) x43_3) x87_6))))) t339 _ A54.out).mono ?_
                                                rintro e w' ⟨rfl, ⟨nd, rfl⟩⟩
                                                refine ⟨_, rfl, ?_⟩
                                                have p55 : 0 ≤ ((ji51) : Int) := od_
                                                have q55 : ((ji51) : Int) < (((rd_L1 x6_7 (Go.bits .or .i64 x28_1 (ji28))).length : Int) : Int) := od_
                                                obtain ⟨hx55_0, hf55_0⟩ := Kd.R_celln 0 HL336_0.out ((ji51) : Int) p55 q55
                                                replace p55 := eq_true p55
                                                replace q55 := eq_true q55
                                                have hq57 : ((Go.bits .or .i64 x28_1 (ji28)) : Int) < (x6_7.length : Int) := (by have h_ : ((Go.bits .or .i64 x28_1 (ji28)) : Int) < ((x6_7.length : Int) : Int) := od_; first | exact h_ | (have e_ := (Kd.S_reads' HO_6.out).1; omega) | simpa only [List.length_set, List.length_set] using h_)
                                                obtain ⟨oki57, ce57, hcl57, hM57, hcc57, hok57, hbk57⟩ := Kd.S_borrow HO_6.out [] ((Go.bits .or .i64 x28_1 (ji28)) : Int) (od_) (by first | exact hq57 | (have e_ := (Kd.S_reads' HO_6.out).1; have h_ := hq57; omega))
                                                obtain ⟨ve57_0, rfl, ge57_0⟩ := hM57
                                                have hv57 := hcc57 0 _ rfl
                                                rw [Nat.add_zero, show ((Kd.slice 2 (Kd.int .i64))).sz = 1 from rfl, Nat.mul_one] at hv57
                                                replace hv57 := Option.some.inj (hv57.symm.trans HX336_0.out)
                                                subst hv57
                                                clear hcc57 hcl57
                                                replace ge57_0 := (show Kd.R (Kd.int .i64) 2 _ _ _ _ (rd_L1 x6_7 (Go.bits .or .i64 x28_1 (ji28))) from ge57_0)
                                                have HP57 := Kd.R_putg ge57_0 ((ji51) : Int) t339
                                                rw [← Ny340.out] at HP57
                                                have HS57 := hbk57 HP57.2 (fun k_ e_ => by injection e_ with e_; subst e_; exact ge57_0.1 _ rfl) (x' := y340) (Kd.M_row HP57.1)
                                                rw [← Ny342.out] at HS57
                                                have HQ57 := Aside0.mk HS57
                                                have NGS := Aside0.mk (show go7 ≠ go55 from fun e_ => (hok57 go55 (ge57_0.1 _ rfl)).2 (congrArg some e_.symm))
                                                clear HP57 HS57 hbk57 hok57
                                                refine hK.out _ _ ⟨hHeld.1, hHeld.2.1, hHeld.2.2⟩ (fun hHeld => ?_)
                                                clear hK K
                                                refine norm_ (a' := ?_) ?_ ?_
                                                rotate_left
                                                · show Act.put _ (some 133) _ = _
                                                  simp only [Act.put, nf_]
                                                  rfl
                                                refine pk_ 24 26 134 33554431 ?_
                                                refine last_ (i := 25) (N := none) #[true, true, true, true, true, true, true, true, true, true, true, true, true, true, true, true, true, true, true, true, true, true, true, true, true, true] rfl rfl (one_of HT_.out (by kernel_rfl)) (by decide) (fun K hK => ?_)
                                                refine skip_ (w1 := ?_) (by rfl) rfl ?_ ?_
                                                rotate_left
                                                · go_simp
                                                  rfl
                                                refine hK.out _ _ ?_
                                                clear hK K
                                                refine done_ (done_of HT_.out (by kernel_rfl)) ?_
                                                try go_wp2
                                                (try simp only [← hl6_6, ← hl6_7])
                                                first | (first | go_roundg k7 | (refine Handed.intro k7 ?measure ?_; rotate_left; go_step; (try simp only [add_plain]); (repeat apply Exists.intro); refine ⟨?rel, rfl⟩)) | ((try subst hji51); (try subst hji28); (try subst hji21); (try subst hji3); (first | go_roundg k7 | (refine Handed.intro k7 ?measure ?_; rotate_left; go_step; (try simp only [add_plain]); (repeat apply Exists.intro); refine ⟨?rel, rfl⟩)))
                                                case measure => have := HK1.out; have := HK2.out; have := HK3.out; have := HK4.out; have := HK5.out; have := HK6.out; have := HK7.out; omega
                                                case rel => exact ⟨(y342), (wrap64 (x87_6 + 1)), es_, H', ⟨by have := HK1.out; have := HK2.out; have := HK3.out; have := HK4.out; have := HK5.out; have := HK6.out; have := HK7.out; omega⟩, ⟨by (try simp only [hl6_1]); (try simp only [hl6_3]); (try simp only [hl6_5]); (try simp only [hl6_6]); (try simp only [hl6_7]); (with_reducible repeat (first | apply Kd.S_alloc | apply Kd.S_drewN | apply Kd.S_drew)); exact HQ57.out⟩, ⟨by repeat (first | (with_reducible first | exact HB.out | apply below_alloc | apply pw_below_drewN | apply below_drew1 | refine below_set ?_ GB55.out) | exact HB.out)⟩, ⟨⟨by first | exact impl_polynomials_at_Graph_vertexFactor_1.cell_far SET.out.1 NGS.out | exact impl_polynomials_at_Graph_vertexFactor_1.cell_far (show World.cell? (World.drewN _ _) _ = _ from SET.out.1) NGS.out, (congrArg (fun z_ => rd_L1 z_ x28_1) Ny342.out).trans ((impl_polynomials_at_Graph_vertexFactor_1.rd_L1_set_ne (fun e_ => NE.out e_)).trans SET.out.2)⟩⟩⟩
                                        · rw [if_neg c38] at H
                                          have c38b0 := decide_eq_false c38
                                          (try (have c38z0 := c38b0; simp only [hl6_1, hl6_3, hl6_5, hl6_6] at c38z0))
                                          clear c38
                                          have H' := Aside0.mk H
                                          clear H
                                          go_wp2
                                          (try simp only [← hl6_5, ← hl6_6])
                                          first | (first | go_roundg k6 | (refine Handed.intro k6 ?measure ?_; rotate_left; go_step; (try simp only [add_plain]); (repeat apply Exists.intro); refine ⟨?rel, rfl⟩)) | ((try subst hji28); (try subst hji21); (try subst hji3); (first | go_roundg k6 | (refine Handed.intro k6 ?measure ?_; rotate_left; go_step; (try simp only [add_plain]); (repeat apply Exists.intro); refine ⟨?rel, rfl⟩)))
                                          case measure => have := HK1.out; have := HK2.out; have := HK3.out; have := HK4.out; have := HK5.out; have := HK6.out; omega
                                          case rel => exact ⟨(x6_6), (wrap64 (x74_5 + 1)), es_, H', ⟨by have := HK1.out; have := HK2.out; have := HK3.out; have := HK4.out; have := HK5.out; have := HK6.out; omega⟩, ⟨by (try simp only [hl6_1]); (try simp only [hl6_3]); (try simp only [hl6_5]); (try simp only [hl6_6]); (with_reducible repeat (first | apply Kd.S_alloc | apply Kd.S_drewN | apply Kd.S_drew)); exact HO_6.out⟩, ⟨hb_⟩, ⟨⟨SET.out.1, by first | exact SET.out.2 | rfl⟩⟩⟩
                                  · rw [if_neg c31] at H
                                    have c31b0 := decide_eq_false c31
                                    (try (have c31z0 := c31b0; simp only [hl6_1, hl6_3, hl6_5] at c31z0))
                                    clear c31
                                    have H' := Aside0.mk H
                                    clear H
                                    go_wp2
                                    (try simp only [← hl6_3, ← hl6_5])
                                    first | (first | go_roundg k5 | (refine Handed.intro k5 ?measure ?_; rotate_left; go_step; (try simp only [add_plain]); (repeat apply Exists.intro); refine ⟨?rel, rfl⟩)) | ((try subst hji28); (try subst hji21); (try subst hji3); (first | go_roundg k5 | (refine Handed.intro k5 ?measure ?_; rotate_left; go_step; (try simp only [add_plain]); (repeat apply Exists.intro); refine ⟨?rel, rfl⟩)))
                                    case measure => have := HK1.out; have := HK2.out; have := HK3.out; have := HK4.out; have := HK5.out; omega
                                    case rel => exact ⟨(x6_5), (wrap64 (x43_3 + 1)), es_, H', ⟨by have := HK1.out; have := HK2.out; have := HK3.out; have := HK4.out; have := HK5.out; omega⟩, ⟨by (try simp only [hl6_1]); (try simp only [hl6_3]); (try simp only [hl6_5]); (with_reducible repeat (first | apply Kd.S_alloc | apply Kd.S_drewN | apply Kd.S_drew)); exact HO_6.out⟩, ⟨hb_⟩⟩
                    · rw [if_neg c19] at H
                      have c19b0 := decide_eq_false c19
                      (try (have c19z0 := c19b0; simp only [hl6_1, hl6_3] at c19z0))
                      clear c19
                      have H' := Aside0.mk H
                      clear H
                      go_wp2
                      (try simp only [← hl6_1, ← hl6_3])
                      first | (first | go_roundg k3 | (refine Handed.intro k3 ?measure ?_; rotate_left; go_step; (try simp only [add_plain]); (repeat apply Exists.intro); refine ⟨?rel, rfl⟩)) | ((try subst hji3); (first | go_roundg k3 | (refine Handed.intro k3 ?measure ?_; rotate_left; go_step; (try simp only [add_plain]); (repeat apply Exists.intro); refine ⟨?rel, rfl⟩)))
                      case measure => have := HK1.out; have := HK2.out; have := HK3.out; omega
                      case rel => exact ⟨(x6_3), (wrap64 (x28_1 + 1)), es_, H', ⟨by have := HK1.out; have := HK2.out; have := HK3.out; omega⟩, ⟨by (try simp only [hl6_1]); (try simp only [hl6_3]); (with_reducible repeat (first | apply Kd.S_alloc | apply Kd.S_drewN | apply Kd.S_drew)); exact HO_6.out⟩, ⟨hb_⟩⟩
        · rw [if_neg c15] at H
          have c15b0 := decide_eq_false c15
          (try (have c15z0 := c15b0; simp only [hl6_1] at c15z0))
          clear c15
          obtain ⟨c59, H⟩ := itn_ H
          have c59b0 := eq_true c59
          have c59b1 := decide_eq_true c59
          clear c59
          skip
          (try rw [hji3])
          replace H : (if 0 ≤ (wrap64 ((ji3) - 1)) then (if (wrap64 ((ji3) - 1)) < (x6_1.length : Int) then ((impl_trimmed.f k1 (rd_L1 x6_1 (wrap64 ((ji3) - 1)))).bind fun t322 => (some t322)) else (none)) else (none)) = some r := by first | (rw [hji3] at H; exact H) | (simp only [hji3] at H ⊢; exact H)
          have hji3_ : (IntKind.i64.wrap (1 * 2 ^ min (l0.length : Int).toNat 64)) = ji3 := hji3
          have hji3z : (l0.length : Int) ≤ 64 → (IntKind.i64.wrap (1 * 2 ^ (l0.length : Int).toNat)) = ji3 := shl_small hji3
          have hji3p : (IntKind.i64.wrap (1 * 2 ^ min l0.length 64)) = ji3 := hji3_
          have hji3q : (l0.length : Int) ≤ 64 → (IntKind.i64.wrap (1 * 2 ^ l0.length)) = ji3 := hji3z
          have hji3r : (IntKind.i64.wrap (2 ^ min l0.length 64)) = ji3 := by have h_ := hji3p; rw [Int.one_mul] at h_; exact h_
          have hji3s : (l0.length : Int) ≤ 64 → (IntKind.i64.wrap (2 ^ l0.length)) = ji3 := fun hle_ => by have h_ := hji3q hle_; rw [Int.one_mul] at h_; exact h_
          have hji3u : (IntKind.i64.wrap (2 ^ min (l0.length : Int).toNat 64)) = ji3 := by have h_ := hji3_; rw [Int.one_mul] at h_; exact h_
          have hji3v : (l0.length : Int) ≤ 64 → (IntKind.i64.wrap (2 ^ (l0.length : Int).toNat)) = ji3 := fun hle_ => by have h_ := hji3z hle_; rw [Int.one_mul] at h_; exact h_
          have hji3y : (wrap64 (1 * 2 ^ min (l0.length : Int).toNat 64)) = ji3 := (i64_w _).symm.trans hji3_
          have hji3x : (l0.length : Int) ≤ 64 → (wrap64 (1 * 2 ^ (l0.length : Int).toNat)) = ji3 := fun h_ => (i64_w _).symm.trans (hji3z h_)
          obtain ⟨ji60, hji60⟩ : ∃ j_ : Int, (wrap64 ((ji3) - 1)) = j_ := ⟨_, rfl⟩
          (try rw [hji60])
          replace H : (if 0 ≤ (ji60) then (if (ji60) < (x6_1.length : Int) then ((impl_trimmed.f k1 (rd_L1 x6_1 (ji60))).bind fun t322 => (some t322)) else (none)) else (none)) = some r := by first | (rw [hji60] at H; exact H) | (simp only [hji60] at H ⊢; exact H)
          have hji60w : (IntKind.i64.wrap ((ji3) - 1)) = ji60 := (i64_w _).trans hji60
          obtain ⟨c61, H⟩ := itn_ H
          have c61b0 := decide_eq_true c61
          clear c61
          obtain ⟨c62, H⟩ := itn_ H
          have c62b0 := decide_eq_true c62
          (try (have c62z0 := c62b0; simp only [hl6_1] at c62z0))
          clear c62
          obtain ⟨t322, A63, H⟩ := bnd_ H
          obtain rfl := Option.some.inj H
          have p321 : 0 ≤ ((ji60) : Int) := od_
          have q321 : (ji60) < (x6_1.length : Int) := od_
          obtain ⟨ad321, A321_0, c321_0, e321, hx321_0, hl321_0, hi321_0⟩ := at_L1 (Kd.S_reads' HO_6.out).2.2 (ji60) p321 q321
          obtain rfl : (⟨go7, 0, none⟩ : Addr) = ad321 := (by injection e321)
          obtain ⟨ce321, hce321, hMe321, hcc321⟩ := Kd.S_get HO_6.out [] (ji60) p321 (by first | exact q321 | exact od_ | (have e_ := (Kd.S_reads' HO_6.out).1; omega))
          obtain ⟨ve321_0, rfl, ge321_0⟩ := hMe321
          have hv321_0 := hcc321 0 _ rfl
          rw [Nat.add_zero, show ((Kd.slice 2 (Kd.int .i64))).sz = 1 from rfl, Nat.mul_one] at hv321_0
          replace hv321_0 := Option.some.inj (hv321_0.symm.trans hx321_0)
          rw [hv321_0] at ge321_0
          have HL321_0 := Aside0.mk (show Kd.R (Kd.int .i64) 2 _ _ _ _ (rd_L1 x6_1 (ji60)) from ge321_0)
          clear hv321_0 ge321_0
          have HX321_0 := Aside0.mk hx321_0
          clear hcc321 hce321
          (first | simp only [add_plain] at hx321_0 | simp only [add_at] at hx321_0 | simp only [Addr.add, Nat.zero_add] at hx321_0 | skip)
          have HR321_0 := Aside0.mk hi321_0
          have HC321_0 := Aside0.mk hl321_0
          clear hi321_0 hl321_0
          replace p321 := eq_true p321
          replace q321 := eq_true q321
          go_wp2_with (first | ((with_reducible refine gate_callee (f := 98) rfl ?_); refine goesL_ (some 145) rfl rfl Try.func98 (by kernel_rfl) rfl #[.slice A321_0 (rd_L1 x6_1 (ji60)).length c321_0] rfl (by (try simp only [List.map_toArray, List.map_cons, List.map_nil]); first | done | (simp only [hji60]; rfl) | rfl | (simp only [List.length_drop, List.length_take]; rfl)) ?_; (with_reducible refine (impl_trimmed.calls k1 (fun k_ => some k_ = (.slice A321_0 (rd_L1 x6_1 (ji60)).length c321_0 : Value).ownBlock) _ _ (rd_L1 x6_1 (ji60)) t322 _ ?side1 A63.out).mono ?_); (case side1 => exact Kd.R_V (Kd.R_tight rfl (HL321_0.out))); rintro e w64 ⟨v323, rfl, ho0, hb⟩; refine ⟨_, rfl, ?_⟩; replace HO_6 := Aside0.mk (Kd.S_elder' (Kd.S_below HO_6.out bgo_) (Kd.R_base ho0) hb); have HO324 := Aside0.mk (Kd.R_lower (Kd.R_new' (Kd.R_mono (ok' := fun k_ => True) ho0 (fun _ hk_ => trivial)) (Kd.R_lt (by (with_reducible repeat (first | apply Kd.R_alloc | apply Kd.R_drewN | apply Kd.R_drew)); exact HL321_0.out))) (below_size hb_)); replace HL321_0 := Aside0.mk (Kd.R_elder' (by (with_reducible repeat (first | apply Kd.R_alloc | apply Kd.R_drewN | apply Kd.R_drew)); exact HL321_0.out) (Kd.R_base ho0) hb); replace HR321_0 := Aside0.mk (Kd.C_below (by repeat (first | (with_reducible exact HR321_0.out) | (with_reducible refine Kd.C_alloc ?_ _) | (with_reducible refine Kd.C_drewN ?_ _) | (with_reducible refine Kd.C_drew ?_) | exact HR321_0.out)) hb); replace HX321_0 := Aside0.mk (pw_cell_below hb HX321_0.out); replace HB := Aside0.mk (below_step hb_ hb); (try clear hb); (try clear hb2); (try clear hk); (try clear hi); (try clear ho0)))
          go_ret
          exact ⟨_, by first | rfl | (simp [errW_none, errW_some] <;> rfl) | (simp only [← hji3, ← hji3, ← hji60]; first | rfl | (simp [errW_none, errW_some] <;> rfl)) | (simp [*, errW_none, errW_some] <;> rfl), by (with_reducible repeat (first | apply Kd.R_alloc | apply Kd.R_drewN | apply Kd.R_drew)); exact Kd.R_mono HO324.out (fun _ hk => trivial), hb_⟩
  · rw [if_neg c4] at H
    exact absurd H (by simp)

/-! ### impl_Graph_vertexFactor: function 47 -/
theorem impl_Graph_vertexFactor.cell_grown {w w1 : World} {row : Option Nat} {a : Addr} {v : Value} (hg : w.grownBy w1 row) (h : w.cell? a = some v) (hne : some a.block ≠ row) : w1.cell? a = some v := by
 have hl := World.block_lt_of_cell? w _ h
 unfold World.cell? at h ⊢
 rw [hg.block a.block hl hne]
 exact h
theorem impl_Graph_vertexFactor.add_blk_ {a : Addr} {n : Nat} : (a.add n).block = a.block := by unfold Addr.add; split <;> rfl
mutual
def impl_Graph_vertexFactor.l0 : Nat → List (List (List Int)) → List Int → List (List Int) → Int → Int → Option (List Int)
  | 0, _, _, _, _, _ => none
  | k + 1, x3, x4, x15, x16, x17 => if x17 < x16 then (if 0 ≤ x17 then (if x17 < (x15.length : Int) then (impl_Graph_vertexFactor.l1 k x3 x4 x17 (([] : List (List Int))) x15 x16 x17 (rd_L1 x15 x17) ((rd_L1 x15 x17).length : Int) 0) else (none)) else (none)) else ((impl_polynomials_at_Graph_vertexFactor_1.f k x3).bind fun t314 => (some t314))
def impl_Graph_vertexFactor.l1 : Nat → List (List (List Int)) → List Int → Int → List (List Int) → List (List Int) → Int → Int → List Int → Int → Int → Option (List Int)
  | 0, _, _, _, _, _, _, _, _, _, _ => none
  | k + 1, x3, x4, x5, x7, x15, x16, x17, x23, x24, x25 => if x25 < x24 then (if 0 ≤ x25 then (if x25 < (x23.length : Int) then (if x5 = x25 then (if 0 ≤ x5 then (if x5 < (x4.length : Int) then (if x7.length < 5864062014805 then (impl_Graph_vertexFactor.l1 k x3 x4 x5 (x7 ++ [(([1, wrap64 (-(rd x23 x25)), wrap64 ((rd x4 x5) - 1)] : List Int))]) x15 x16 x17 x23 x24 (wrap64 (x25 + 1))) else (none)) else (none)) else (none)) else (if x7.length < 5864062014805 then (impl_Graph_vertexFactor.l1 k x3 x4 x5 (x7 ++ [(([0, wrap64 (-(rd x23 x25)), 0] : List Int))]) x15 x16 x17 x23 x24 (wrap64 (x25 + 1))) else (none))) else (none)) else (none)) else (if x3.length < 5864062014805 then (impl_Graph_vertexFactor.l0 k (x3 ++ [x7]) x4 x15 x16 (wrap64 (x17 + 1))) else (none))
end
def impl_Graph_vertexFactor.f (k : Nat) (a0_0 : Int) (l0_1 : List (List Int)) : Option (List Int) := (impl_Graph_degrees.f k a0_0 l0_1).bind fun t308 => ((impl_Graph_adjacency.f k a0_0 l0_1).bind fun t311 => (impl_Graph_vertexFactor.l0 k (([] : List (List (List Int)))) t308 t311 (t311.length : Int) 0))
set_option maxHeartbeats 8000000 in
set_option maxRecDepth 100000 in
theorem impl_Graph_vertexFactor.calls (k : Nat) (a0_0 : Int) (A0_1 : Option Addr) (c0_1 : Nat) (l0_1 : List (List Int)) (r : List Int) (w : World) (hr0_1 : Kd.C (Kd.slice 2 (Kd.int .i64)) w A0_1 l0_1.length l0_1) (hc0_1 : l0_1.length ≤ c0_1) (h : impl_Graph_vertexFactor.f k a0_0 l0_1 = some r) :
    Calls Try.prog 47 #[.agg #[.int .i64 a0_0, .slice A0_1 l0_1.length c0_1]] w fun e w' => ∃ v0_ : Value, e = .returned (v0_) ∧ Kd.R (Kd.int .i64) 2 w' w.heap.size (fun _ => True) v0_ r ∧ Below w.heap.size w w' := by
  have hu29 := Try.underlying29
  have HR0_1 := Aside0.mk hr0_1
  have HC0_1 := Aside0.mk hc0_1
  clear hr0_1 hc0_1
  have HB := Aside0.mk (Below.refl w.heap.size w)
  have H : ((impl_Graph_degrees.f k a0_0 l0_1).bind fun t308 => ((impl_Graph_adjacency.f k a0_0 l0_1).bind fun t311 => (impl_Graph_vertexFactor.l0 k (([] : List (List (List Int)))) t308 t311 (t311.length : Int) 0))) = some r := h
  clear h
  obtain ⟨y305, Ny305, H⟩ : ∃ y305 : List (List (List Int)), Aside0 (y305 = (([] : List (List (List Int))))) ∧ ((impl_Graph_degrees.f k a0_0 l0_1).bind fun t308 => ((impl_Graph_adjacency.f k a0_0 l0_1).bind fun t311 => (impl_Graph_vertexFactor.l0 k y305 t308 t311 (t311.length : Int) 0))) = some r := ⟨_, ⟨rfl⟩, H⟩
  obtain ⟨t308, A2, H⟩ := bnd_ H
  obtain ⟨t311, A3, H⟩ := bnd_ H
  have H' := Aside0.mk H
  clear H
  go_enter Try.func47, Try.ntmps47
  go_wp2_with (first | ((with_reducible refine gate_dst (N := 1) rfl ?_); refine box_event ?hg (N := 1) ?hd (cs := #[.int .i64 a0_0, .slice A0_1 l0_1.length c0_1]) (t := 29) ?hr ?_; (case hd => rfl); (case hg => rfl); (case hr => first | (go_simp; done) | (go_simp; rfl)); intro gb304 hg w4 hbox hb; have BK304 := Aside0.mk (hbox); have GW304 := Aside0.mk ((by rw [hg]; exact (below_size hb_) : w.heap.size ≤ gb304)); have GE304 := Aside0.mk ((by rw [hg]; exact (below_size hb_) : w.heap.size ≤ gb304)); replace HB := Aside0.mk (below_step hb_ hb); clear hb hbox hg) | ((with_reducible refine gate_dst (N := 11) rfl ?_); refine Kd.R_lit (Kd.slice 26 (Kd.slice 2 (Kd.int .i64))) _ 22 ?hg (N := 11) ?hd (xs := ([] : List (List (List Int)))) (inner := []) (ok := fun _ => True) (okp := fun _ => True) ?hr ?hp (fun _ hk => hk) trivial (Below.refl _ _) (Nat.le_refl _) (by simp) ?_; (case hd => rfl); (case hg => rfl); (case hr => first | (go_simp; done) | (go_simp; rfl)); (case hp => exact (Reps.none _ _)); intro v306 w5 ho6 hb hg_ hnew_; clear hg_ hnew_; (first | rw [← Ny305.out] at ho6 | (simp only [Int.reduceToNat] at ho6; rw [← Ny305.out] at ho6)); have HO307 := Aside0.mk (Kd.R_lower ho6 (below_size hbs_)); replace BK304 := Aside0.mk (blk_below (g := gb304) (o := .cells #[.int .i64 a0_0, .slice A0_1 l0_1.length c0_1] 29 (0, 0)) (blk_below BK304.out bgo_) hb); replace HB := Aside0.mk (below_step hbs_ hb); clear hb ho6; have hcz7_0 : w5.cell? ⟨gb304, 0, none⟩ = some (.int .i64 a0_0) := (blk_cell BK304.out 0).trans rfl; have hcz7_1 : w5.cell? ⟨gb304, 1, none⟩ = some (.slice A0_1 l0_1.length c0_1) := (blk_cell BK304.out 1).trans rfl; have hfz7_0 := blk_frozen BK304.out 0; have hfz7_1 := blk_frozen BK304.out 1) | ((with_reducible refine gate_callee (f := 88) rfl ?_); refine goesL_ (some 13) rfl rfl Try.func88 (by kernel_rfl) rfl #[.agg #[.int .i64 a0_0, .slice A0_1 l0_1.length c0_1]] rfl arg_ ?_; (with_reducible refine (impl_Graph_degrees.calls k a0_0 _ _ l0_1 t308 _ ?side1 ?side2 A2.out).mono ?_); (case side1 => exact Kd.C_below (Kd.C_below HR0_1.out HB.out) bgo_); (case side2 => exact HC0_1.out); rintro e w8 ⟨v309, rfl, ho0, hb⟩; refine ⟨_, rfl, ?_⟩; replace HO307 := Aside0.mk (Kd.R_elder' (Kd.R_below HO307.out bgo_) (Kd.R_base ho0) hb); have HO310 := Aside0.mk (Kd.R_lower ho0 (below_size hbs_)); replace BK304 := Aside0.mk (blk_below (g := gb304) (o := .cells #[.int .i64 a0_0, .slice A0_1 l0_1.length c0_1] 29 (0, 0)) (blk_below BK304.out bgo_) hb); replace HB := Aside0.mk (below_step hbs_ hb); (try clear hb); (try clear hb2); (try clear hk); (try clear hi); (try clear ho0); have hcz9_0 : w8.cell? ⟨gb304, 0, none⟩ = some (.int .i64 a0_0) := (blk_cell BK304.out 0).trans rfl; have hcz9_1 : w8.cell? ⟨gb304, 1, none⟩ = some (.slice A0_1 l0_1.length c0_1) := (blk_cell BK304.out 1).trans rfl; have hfz9_0 := blk_frozen BK304.out 0; have hfz9_1 := blk_frozen BK304.out 1) | ((with_reducible refine gate_callee (f := 89) rfl ?_); refine goesL_ (some 15) rfl rfl Try.func89 (by kernel_rfl) rfl #[.agg #[.int .i64 a0_0, .slice A0_1 l0_1.length c0_1]] rfl arg_ ?_; (with_reducible refine (impl_Graph_adjacency.calls k a0_0 _ _ l0_1 t311 _ ?side1 ?side2 A3.out).mono ?_); (case side1 => exact Kd.C_below (Kd.C_below HR0_1.out HB.out) bgo_); (case side2 => exact HC0_1.out); rintro e w10 ⟨v312, rfl, ho0, hb⟩; refine ⟨_, rfl, ?_⟩; replace HO307 := Aside0.mk (Kd.R_elder' (Kd.R_below HO307.out bgo_) (Kd.S_base ho0) hb); have HO313 := Aside0.mk (Kd.S_lower (Kd.S_new' ho0 (Kd.R_lt (Kd.R_below HO310.out bgo_))) (below_size hbs_)); replace HO310 := Aside0.mk (Kd.R_below (Kd.R_below HO310.out bgo_) hb); replace BK304 := Aside0.mk (blk_below (g := gb304) (o := .cells #[.int .i64 a0_0, .slice A0_1 l0_1.length c0_1] 29 (0, 0)) (blk_below BK304.out bgo_) hb); replace HB := Aside0.mk (below_step hbs_ hb); (try clear hb); (try clear hb2); (try clear hk); (try clear hi); (try clear ho0); obtain ⟨Ao11, co11, eo11⟩ := Kd.S_slice HO313.out; subst eo11))
  go_loopg [3, 17] k (fun kq v3 v17 w' => ∃ (x3_1 : List (List (List Int))) (x17_1 : Int), v17 = .int .i64 x17_1 ∧ Aside0 (impl_Graph_vertexFactor.l0 kq x3_1 t308 t311 (t311.length : Int) x17_1 = some r) ∧ Aside0 (kq ≤ k) ∧ Aside0 (Kd.R (Kd.slice 26 (Kd.slice 2 (Kd.int .i64))) 22 w' w.heap.size (fun k_ => some k_ ≠ (v309 : Value).ownBlock ∧ some k_ ≠ ((.slice Ao11 t311.length co11) : Value).ownBlock) v3 x3_1) ∧ Aside0 (Kd.R (Kd.int .i64) 2 w' w.heap.size (fun _ => True) v309 t308) ∧ Aside0 (Kd.S (Kd.slice 2 (Kd.int .i64)) 26 w' w.heap.size (fun k_ => some k_ ≠ (v309 : Value).ownBlock) (.slice Ao11 t311.length co11) t311) ∧ Aside0 (w'.heap[gb304]? = some (.cells #[.int .i64 a0_0, (.slice A0_1 l0_1.length c0_1)] 29 (0, 0))) ∧ Aside0 (Below w.heap.size w w'))
  case atStart => exact ⟨(y305), (0), es_, H', ⟨Nat.le_refl _⟩, ⟨by (with_reducible repeat (first | apply Kd.R_alloc | apply Kd.R_drewN | apply Kd.R_drew)); exact Kd.R_mono HO307.out (fun _ hk => ⟨hk.1.2, hk.2⟩)⟩, ⟨Kd.R_below HO310.out bgo_⟩, ⟨by (with_reducible repeat (first | apply Kd.S_alloc | apply Kd.S_drewN | apply Kd.S_drew)); exact Kd.S_mono HO313.out (fun _ hk => hk.2)⟩, ⟨blk_below BK304.out bgo_⟩, ⟨hbs_⟩⟩
  case round =>
    clear H'
    obtain ⟨x3_1, x17_1, rfl, HA, HK1, HO_3, HO_4, HO_15, BK304, HB⟩ := hrel
    cases gk with
    | zero => exact absurd HA.out (by simp [impl_Graph_vertexFactor.l0])
    | succ k1 =>
      have H := HA.out
      clear HA
      simp only [impl_Graph_vertexFactor.l0] at H
      by_cases c12 : x17_1 < (t311.length : Int)
      · rw [if_pos c12] at H
        have c12b0 := decide_eq_true c12
        clear c12
        obtain ⟨c13, H⟩ := itn_ H
        have c13b0 := decide_eq_true c13
        clear c13
        obtain ⟨c14, H⟩ := itn_ H
        have c14b0 := decide_eq_true c14
        clear c14
        obtain ⟨y318, Ny318, H⟩ : ∃ y318 : List (List Int), Aside0 (y318 = (([] : List (List Int)))) ∧ (impl_Graph_vertexFactor.l1 k1 x3_1 t308 x17_1 y318 t311 (t311.length : Int) x17_1 (rd_L1 t311 x17_1) ((rd_L1 t311 x17_1).length : Int) 0) = some r := ⟨_, ⟨rfl⟩, H⟩
        have H' := Aside0.mk H
        clear H
        have p317 : 0 ≤ (x17_1 : Int) := od_
        have q317 : x17_1 < (t311.length : Int) := od_
        obtain ⟨ad317, A317_0, c317_0, e317, hx317_0, hl317_0, hi317_0⟩ := at_L1 (Kd.S_reads' HO_15.out).2.2 x17_1 p317 q317
        cases e317
        obtain ⟨ce317, hce317, hMe317, hcc317⟩ := Kd.S_get HO_15.out [] x17_1 p317 (by first | exact q317 | exact od_ | (have e_ := (Kd.S_reads' HO_15.out).1; omega))
        obtain ⟨ve317_0, rfl, ge317_0⟩ := hMe317
        have hv317_0 := hcc317 0 _ rfl
        rw [Nat.add_zero, show ((Kd.slice 2 (Kd.int .i64))).sz = 1 from rfl, Nat.mul_one] at hv317_0
        replace hv317_0 := Option.some.inj (hv317_0.symm.trans hx317_0)
        rw [hv317_0] at ge317_0
        have HL317_0 := Aside0.mk (show Kd.R (Kd.int .i64) 2 _ _ _ _ (rd_L1 t311 x17_1) from ge317_0)
        clear hv317_0 ge317_0
        clear hcc317 hce317
        have HR317_0 := Aside0.mk hi317_0
        have SET := Aside0.mk hx317_0
        have HC317_0 := Aside0.mk hl317_0
        clear hi317_0 hl317_0
        replace p317 := eq_true p317
        replace q317 := eq_true q317
        go_wp2_with (first | ((with_reducible refine gate_dst (N := 22) rfl ?_); refine Kd.S_lit (Kd.slice 2 (Kd.int .i64)) _ 26 ?hg (N := 22) ?hd (xs := ([] : List (List Int))) (inner := []) (ok := fun _ => True) (okp := fun _ => True) ?hr ?hp (fun _ hk => hk) trivial (Below.refl _ _) (Nat.le_refl _) (by simp) ?_; (case hd => rfl); (case hg => rfl); (case hr => first | (go_simp; done) | (go_simp; rfl)); (case hp => exact (Reps.none _ _)); intro v319 w15 ho16 hb hg_ hnew_; clear hg_ hnew_; (first | rw [← Ny318.out] at ho16 | (simp only [Int.reduceToNat] at ho16; rw [← Ny318.out] at ho16)); replace HO_3 := Aside0.mk (Kd.R_elder' (Kd.R_below HO_3.out bgo_) (Kd.S_base ho16) hb); have HO320 := Aside0.mk (Kd.S_lower (Kd.S_new' (Kd.S_new' (Kd.S_new' ho16 (Kd.R_lt (Kd.R_below HO_4.out bgo_))) (Kd.S_lt (Kd.S_below HO_15.out bgo_))) (Kd.R_lt (by (with_reducible repeat (first | apply Kd.R_alloc | apply Kd.R_drewN | apply Kd.R_drew)); exact HL317_0.out))) (below_size hbs_)); replace HO_4 := Aside0.mk (Kd.R_below (Kd.R_below HO_4.out bgo_) hb); replace HO_15 := Aside0.mk (Kd.S_elder' (Kd.S_below HO_15.out bgo_) (Kd.S_base ho16) hb); replace HL317_0 := Aside0.mk (Kd.R_below (by (with_reducible repeat (first | apply Kd.R_alloc | apply Kd.R_drewN | apply Kd.R_drew)); exact HL317_0.out) hb); replace SET := Aside0.mk (pw_cell_below hb (pw_cell_below bgo_ SET.out)); replace BK304 := Aside0.mk (blk_below (g := gb304) (o := .cells #[.int .i64 a0_0, .slice A0_1 l0_1.length c0_1] 29 (0, 0)) (blk_below BK304.out bgo_) hb); replace HR317_0 := Aside0.mk (Kd.C_below (by repeat (first | (with_reducible exact HR317_0.out) | (with_reducible refine Kd.C_alloc ?_ _) | (with_reducible refine Kd.C_drewN ?_ _) | (with_reducible refine Kd.C_drew ?_) | exact HR317_0.out)) hb); replace HB := Aside0.mk (below_step hbs_ hb); clear hb ho16))
        go_loopg [7, 25] k1 (fun kq v7 v25 w' => ∃ (x7_2 : List (List Int)) (x25_2 : Int), v25 = .int .i64 x25_2 ∧ Aside0 (impl_Graph_vertexFactor.l1 kq x3_1 t308 x17_1 x7_2 t311 (t311.length : Int) x17_1 (rd_L1 t311 x17_1) ((rd_L1 t311 x17_1).length : Int) x25_2 = some r) ∧ Aside0 (kq ≤ k1) ∧ Aside0 (Kd.R (Kd.slice 26 (Kd.slice 2 (Kd.int .i64))) 22 w' w.heap.size (fun k_ => some k_ ≠ (v309 : Value).ownBlock ∧ some k_ ≠ (v7 : Value).ownBlock ∧ some k_ ≠ ((.slice (some ad317) t311.length co11) : Value).ownBlock) u3 x3_1) ∧ Aside0 (Kd.R (Kd.int .i64) 2 w' w.heap.size (fun _ => True) v309 t308) ∧ Aside0 (Kd.S (Kd.slice 2 (Kd.int .i64)) 26 w' w.heap.size (fun k_ => some k_ ≠ (v309 : Value).ownBlock ∧ some k_ ≠ ((.slice (some ad317) t311.length co11) : Value).ownBlock) v7 x7_2) ∧ Aside0 (Kd.S (Kd.slice 2 (Kd.int .i64)) 26 w' w.heap.size (fun k_ => some k_ ≠ (v309 : Value).ownBlock ∧ some k_ ≠ (v7 : Value).ownBlock) (.slice (some ad317) t311.length co11) t311) ∧ Aside0 (w'.heap[gb304]? = some (.cells #[.int .i64 a0_0, (.slice A0_1 l0_1.length c0_1)] 29 (0, 0))) ∧ Aside0 (Below w.heap.size w w') ∧ Aside0 (w'.cell? (ad317.add (x17_1 : Int).toNat) = some (.slice A317_0 (rd_L1 t311 x17_1).length c317_0)))
        case atStart => exact ⟨(y318), (0), es_, H', ⟨Nat.le_refl _⟩, ⟨by (with_reducible repeat (first | apply Kd.R_alloc | apply Kd.R_drewN | apply Kd.R_drew)); exact Kd.R_mono HO_3.out (fun _ hk => ⟨hk.1.1, ⟨hk.2, hk.1.2⟩⟩)⟩, ⟨Kd.R_below HO_4.out bgo_⟩, ⟨by (with_reducible repeat (first | apply Kd.S_alloc | apply Kd.S_drewN | apply Kd.S_drew)); exact Kd.S_mono HO320.out (fun _ hk => ⟨hk.1.1.2, hk.1.2⟩)⟩, ⟨Kd.S_below HO_15.out bgo_⟩, ⟨blk_below BK304.out bgo_⟩, ⟨hbs_⟩, ⟨pw_cell_below bgo_ SET.out⟩⟩
        case round =>
          clear H'
          obtain ⟨x7_2, x25_2, rfl, HA, HK2, HO_3, HO_4, HO_7, HO_15, BK304, HB, SET⟩ := hrel
          cases gk with
          | zero => exact absurd HA.out (by simp [impl_Graph_vertexFactor.l1])
          | succ k2 =>
            have H := HA.out
            clear HA
            simp only [impl_Graph_vertexFactor.l1] at H
            by_cases c17 : x25_2 < ((rd_L1 t311 x17_1).length : Int)
            · rw [if_pos c17] at H
              have c17b0 := decide_eq_true c17
              clear c17
              obtain ⟨c18, H⟩ := itn_ H
              have c18b0 := decide_eq_true c18
              clear c18
              obtain ⟨c19, H⟩ := itn_ H
              have c19b0 := decide_eq_true c19
              clear c19
              obtain ⟨y322, Ny322, H⟩ : ∃ y322 : List Int, Aside0 (y322 = (([0, wrap64 (-(rd (rd_L1 t311 x17_1) x25_2)), 0] : List Int))) ∧ (if x17_1 = x25_2 then (if 0 ≤ x17_1 then (if x17_1 < (t308.length : Int) then (if x7_2.length < 5864062014805 then (impl_Graph_vertexFactor.l1 k2 x3_1 t308 x17_1 (x7_2 ++ [(([1, wrap64 (-(rd (rd_L1 t311 x17_1) x25_2)), wrap64 ((rd t308 x17_1) - 1)] : List Int))]) t311 (t311.length : Int) x17_1 (rd_L1 t311 x17_1) ((rd_L1 t311 x17_1).length : Int) (wrap64 (x25_2 + 1))) else (none)) else (none)) else (none)) else (if x7_2.length < 5864062014805 then (impl_Graph_vertexFactor.l1 k2 x3_1 t308 x17_1 (x7_2 ++ [y322]) t311 (t311.length : Int) x17_1 (rd_L1 t311 x17_1) ((rd_L1 t311 x17_1).length : Int) (wrap64 (x25_2 + 1))) else (none))) = some r := ⟨_, ⟨rfl⟩, H⟩
              by_cases c20 : x17_1 = x25_2
              · rw [if_pos c20] at H
                have c20b0 : (x17_1 == x25_2) = true := beq_iff_eq.mpr c20
                have c20b1 : (x17_1 != x25_2) = false := bne_eq_false_iff_eq.mpr c20
                clear c20
                obtain ⟨c21, H⟩ := itn_ H
                have c21b0 := decide_eq_true c21
                clear c21
                obtain ⟨c22, H⟩ := itn_ H
                have c22b0 := decide_eq_true c22
                clear c22
                obtain ⟨y326, Ny326, H⟩ : ∃ y326 : List Int, Aside0 (y326 = (([1, wrap64 (-(rd (rd_L1 t311 x17_1) x25_2)), wrap64 ((rd t308 x17_1) - 1)] : List Int))) ∧ (if x7_2.length < 5864062014805 then (impl_Graph_vertexFactor.l1 k2 x3_1 t308 x17_1 (x7_2 ++ [y326]) t311 (t311.length : Int) x17_1 (rd_L1 t311 x17_1) ((rd_L1 t311 x17_1).length : Int) (wrap64 (x25_2 + 1))) else (none)) = some r := ⟨_, ⟨rfl⟩, H⟩
                obtain ⟨c23, H⟩ := itn_ H
                have LMc23 := Aside0.mk c23
                clear c23
                obtain ⟨y329, Ny329, H⟩ : ∃ y329 : List (List Int), Aside0 (y329 = (x7_2 ++ [y326])) ∧ (impl_Graph_vertexFactor.l1 k2 x3_1 t308 x17_1 y329 t311 (t311.length : Int) x17_1 (rd_L1 t311 x17_1) ((rd_L1 t311 x17_1).length : Int) (wrap64 (x25_2 + 1))) = some r := ⟨_, ⟨rfl⟩, H⟩
                have H' := Aside0.mk H
                clear H
                have p321 : 0 ≤ (x25_2 : Int) := od_
                have q321 : x25_2 < ((rd_L1 t311 x17_1).length : Int) := od_
                obtain ⟨adS, AS, cS, eS, hxS, hlS, hiS⟩ := at_L1 (Kd.S_reads' HO_15.out).2.2 x17_1 (of_eq_true p317) (of_eq_true q317)
                obtain rfl : ad317 = adS := (by injection eS)
                have eqS_ := Option.some.inj (hxS.symm.trans SET.out)
                injection eqS_ with eaS_ _ _
                rw [eaS_] at hiS
                obtain ⟨ad321, e321, hx321_0⟩ := Kd.at_int hiS x25_2 p321 q321
                cases e321
                clear hiS hxS hlS eS eaS_
                replace p321 := eq_true p321
                replace q321 := eq_true q321
                go_wp2_with (first | ((with_reducible refine gate_dst (N := 32) rfl ?_); refine Kd.R_lit (Kd.int .i64) _ 2 ?hg (N := 32) ?hd (xs := ([0, wrap64 (-(rd (rd_L1 t311 x17_1) x25_2)), 0] : List Int)) (inner := [.int .i64 0, .int .i64 (wrap64 (-(rd (rd_L1 t311 x17_1) x25_2))), .int .i64 0]) (ok := fun _ => True) (okp := fun _ => True) ?hr ?hp (fun _ hk => hk) trivial (Below.refl _ _) (Nat.le_refl _) (by simp) ?_; (case hd => rfl); (case hg => rfl); (case hr => first | (go_simp; done) | (go_simp; rfl)); (case hp => exact (Reps.one (show Kd.M (Kd.int .i64) _ _ _ 0 [.int .i64 0] from rfl) (Reps.one (show Kd.M (Kd.int .i64) _ _ _ (wrap64 (-(rd (rd_L1 t311 x17_1) x25_2))) [.int .i64 (wrap64 (-(rd (rd_L1 t311 x17_1) x25_2)))] from rfl) (Reps.one (show Kd.M (Kd.int .i64) _ _ _ 0 [.int .i64 0] from rfl) (Reps.none _ _))))); intro v323 w24 ho25 hb hg_ hnew_; clear hg_ hnew_; (first | rw [← Ny322.out] at ho25 | (simp only [Int.reduceToNat] at ho25; rw [← Ny322.out] at ho25)); replace HO_3 := Aside0.mk (Kd.R_elder' (Kd.R_below HO_3.out bgo_) (Kd.R_base ho25) hb); replace HO_7 := Aside0.mk (Kd.S_elder' (Kd.S_below HO_7.out bgo_) (Kd.R_base ho25) hb); replace HO_15 := Aside0.mk (Kd.S_elder' (Kd.S_below HO_15.out bgo_) (Kd.R_base ho25) hb); have HO324 := Aside0.mk (Kd.R_lower (Kd.R_new' ho25 (Kd.R_lt (Kd.R_below HO_4.out bgo_))) (below_size hbs_)); replace HO_4 := Aside0.mk (Kd.R_elder' (Kd.R_below HO_4.out bgo_) (Kd.R_base ho25) hb); replace SET := Aside0.mk (pw_cell_below hb (pw_cell_below bgo_ SET.out)); replace BK304 := Aside0.mk (blk_below (g := gb304) (o := .cells #[.int .i64 a0_0, .slice A0_1 l0_1.length c0_1] 29 (0, 0)) (blk_below BK304.out bgo_) hb); replace HB := Aside0.mk (below_step hbs_ hb); clear hb ho25; obtain ⟨Ao26, co26, eo26⟩ := Kd.R_slice HO_4.out; subst eo26; have p325 : 0 ≤ (x17_1 : Int) := od_; have q325 : x17_1 < (t308.length : Int) := od_; obtain ⟨ad325, e325, hx325_0⟩ := Kd.at_int (Kd.R_reads' HO_4.out).2.2 x17_1 p325 q325; cases e325; replace p325 := eq_true p325; replace q325 := eq_true q325) | ((with_reducible refine gate_dst (N := 43) rfl ?_); refine Kd.R_lit (Kd.int .i64) _ 2 ?hg (N := 43) ?hd (xs := ([1, wrap64 (-(rd (rd_L1 t311 x17_1) x25_2)), wrap64 ((rd t308 x17_1) - 1)] : List Int)) (inner := [.int .i64 1, .int .i64 (wrap64 (-(rd (rd_L1 t311 x17_1) x25_2))), .int .i64 (wrap64 ((rd t308 x17_1) - 1))]) (ok := fun _ => True) (okp := fun _ => True) ?hr ?hp (fun _ hk => hk) trivial (Below.refl _ _) (Nat.le_refl _) (by simp) ?_; (case hd => rfl); (case hg => rfl); (case hr => first | (go_simp; done) | (go_simp; rfl)); (case hp => exact (Reps.one (show Kd.M (Kd.int .i64) _ _ _ 1 [.int .i64 1] from rfl) (Reps.one (show Kd.M (Kd.int .i64) _ _ _ (wrap64 (-(rd (rd_L1 t311 x17_1) x25_2))) [.int .i64 (wrap64 (-(rd (rd_L1 t311 x17_1) x25_2)))] from rfl) (Reps.one (show Kd.M (Kd.int .i64) _ _ _ (wrap64 ((rd t308 x17_1) - 1)) [.int .i64 (wrap64 ((rd t308 x17_1) - 1))] from rfl) (Reps.none _ _))))); intro v327 w27 ho28 hb hg_ hnew_; clear hg_ hnew_; (first | rw [← Ny326.out] at ho28 | (simp only [Int.reduceToNat] at ho28; rw [← Ny326.out] at ho28)); replace HO_3 := Aside0.mk (Kd.R_elder' (Kd.R_below HO_3.out bgo_) (Kd.R_base ho28) hb); replace HO_7 := Aside0.mk (Kd.S_elder' (Kd.S_below HO_7.out bgo_) (Kd.R_base ho28) hb); replace HO_15 := Aside0.mk (Kd.S_elder' (Kd.S_below HO_15.out bgo_) (Kd.R_base ho28) hb); have HO328 := Aside0.mk (Kd.R_lower (Kd.R_new' (Kd.R_new' ho28 (Kd.R_lt (Kd.R_below HO_4.out bgo_))) (Kd.R_lt (Kd.R_below HO324.out bgo_))) (below_size hbs_)); replace HO_4 := Aside0.mk (Kd.R_elder' (Kd.R_below HO_4.out bgo_) (Kd.R_base ho28) hb); replace HO324 := Aside0.mk (Kd.R_elder' (Kd.R_below HO324.out bgo_) (Kd.R_base ho28) hb); replace SET := Aside0.mk (pw_cell_below hb (pw_cell_below bgo_ SET.out)); replace BK304 := Aside0.mk (blk_below (g := gb304) (o := .cells #[.int .i64 a0_0, .slice A0_1 l0_1.length c0_1] 29 (0, 0)) (blk_below BK304.out bgo_) hb); replace HB := Aside0.mk (below_step hbs_ hb); clear hb ho28; obtain ⟨Ao30, co30, eo30⟩ := Kd.R_slice HO328.out; subst eo30) | ((with_reducible refine gate_builtin (b := .append) (xs := #[.tmp 44, .tmp 46]) rfl ?_); at_builtin; refine Kd.S_append (Kd.slice 2 (Kd.int .i64)) (w0 := w) w.heap.size rfl (.tmp 44) (.tmp 46) 22 26 (.slice none 0 0) 24 rfl Try.underlying22 info26 rfl (by decide) (by omega) u7 x7_2 y326 [.slice Ao30 y326.length co30] (fun k_ => some k_ ≠ (.slice (some ad325) t308.length co26 : Value).ownBlock ∧ some k_ ≠ (.slice (some ad317) t311.length co11 : Value).ownBlock ∧ some k_ ≠ (v323 : Value).ownBlock) (fun k_ => some k_ = (.slice Ao30 y326.length co30 : Value).ownBlock) rfl rfl ?aP (fun k_ hk_ => ((Kd.R_mono (ok' := fun k_ => ((fun k_ => some k_ ≠ (.slice (some ad325) t308.length co26 : Value).ownBlock ∧ some k_ ≠ (.slice (some ad317) t311.length co11 : Value).ownBlock ∧ some k_ ≠ (v323 : Value).ownBlock)) k_ ∧ some k_ ≠ (u7 : Value).ownBlock) (Kd.R_apart' (Kd.R_apart' (HO328.out) (Kd.S_typed HO_15.out) (by decide)) (Kd.S_typed HO_7.out) (by decide)) (fun k_ hk => ⟨⟨hk.1.1.1.2, ⟨hk.1.2, hk.1.1.2⟩⟩, hk.2⟩))).1 k_ hk_.symm) ?aF ?aO ?aB ?aS ?aL ?_; (case aP => exact Kd.M_row (Kd.R_mono (Kd.R_tight rfl (Kd.R_mono (ok' := fun k_ => ((fun k_ => some k_ ≠ (.slice (some ad325) t308.length co26 : Value).ownBlock ∧ some k_ ≠ (.slice (some ad317) t311.length co11 : Value).ownBlock ∧ some k_ ≠ (v323 : Value).ownBlock)) k_ ∧ some k_ ≠ (u7 : Value).ownBlock) (Kd.R_apart' (Kd.R_apart' (HO328.out) (Kd.S_typed HO_15.out) (by decide)) (Kd.S_typed HO_7.out) (by decide)) (fun k_ hk => ⟨⟨hk.1.1.1.2, ⟨hk.1.2, hk.1.1.2⟩⟩, hk.2⟩))) (fun _ h_ => h_))); (case aB => exact hbs_); (case aF => exact (fun k_ hk => ⟨Kd.fresh' (Kd.R_lt (Kd.R_below HO_4.out bgo_)) k_ hk, Kd.fresh' (Kd.S_lt (Kd.S_below HO_15.out bgo_)) k_ hk, Kd.fresh' (Kd.R_lt (Kd.R_below HO324.out bgo_)) k_ hk⟩)); (case aO => exact (by (with_reducible repeat (first | apply Kd.S_alloc | apply Kd.S_drewN | apply Kd.S_drew)); exact Kd.S_mono HO_7.out (fun k_ hk => ⟨⟨hk.1.1.1, ⟨hk.1.1.2, hk.1.2⟩⟩, fun e_ => hk.2 e_⟩))); (case aS => exact (below_size hbs_)); (case aL => have := LMc23.out; omega); intro v330 w29 ho hb hg hat; replace SET := Aside0.mk (impl_Graph_vertexFactor.cell_grown hg (pw_cell_below bgo_ SET.out) (by rw [impl_Graph_vertexFactor.add_blk_]; have h_ := (Kd.S_R HO_15.out).1 ad317.block rfl; first | exact h_.1.2 | exact h_.1.1.2 | exact h_.2 | exact h_.1.1.1.2)); rw [← Ny329.out] at ho; replace HO_3 := Aside0.mk (Kd.R_after (ok := (fun k_ => some k_ ≠ (.slice (some ad325) t308.length co26 : Value).ownBlock ∧ some k_ ≠ (.slice (some ad317) t311.length co11 : Value).ownBlock ∧ some k_ ≠ (v323 : Value).ownBlock ∧ some k_ ≠ (.slice Ao30 y326.length co30 : Value).ownBlock)) (by (with_reducible repeat (first | apply Kd.R_alloc | apply Kd.R_drewN | apply Kd.R_drew)); exact Kd.R_mono HO_3.out (fun _ hk => ⟨⟨hk.1.1.1, ⟨hk.1.1.2.2, ⟨hk.1.2, hk.2⟩⟩⟩, hk.1.1.2.1⟩)) hg hat); replace HO_4 := Aside0.mk (Kd.R_over' (Kd.R_below HO_4.out bgo_) (Kd.S_typed (Kd.S_below HO_7.out bgo_)) (by decide) hg); replace HO_15 := Aside0.mk (Kd.S_after (ok := (fun k_ => some k_ ≠ (.slice (some ad325) t308.length co26 : Value).ownBlock ∧ some k_ ≠ (v323 : Value).ownBlock ∧ some k_ ≠ (.slice Ao30 y326.length co30 : Value).ownBlock)) (by (with_reducible repeat (first | apply Kd.S_alloc | apply Kd.S_drewN | apply Kd.S_drew)); exact Kd.S_mono HO_15.out (fun _ hk => ⟨⟨hk.1.1.1, ⟨hk.1.2, hk.2⟩⟩, hk.1.1.2⟩)) hg hat); replace BK304 := Aside0.mk (blk_grown (g := gb304) (o := .cells #[.int .i64 a0_0, .slice A0_1 l0_1.length c0_1] 29 (0, 0)) (blk_below BK304.out bgo_) hg (Kd.S_ne HO_7.out BK304.out (by decide))); replace HO324 := Aside0.mk (Kd.R_over' (Kd.R_below HO324.out bgo_) (Kd.S_typed (Kd.S_below HO_7.out bgo_)) (by decide) hg); replace HB := Aside0.mk (hb); have HO331 := Aside0.mk (ho); clear HO_7 HO328; clear ho hb hg hat))
                first | go_roundg k2 | (refine Handed.intro k2 ?measure ?_; rotate_left; go_step; (try simp only [add_plain]); (repeat apply Exists.intro); refine ⟨?rel, rfl⟩)
                case measure => have := HK1.out; have := HK2.out; omega
                case rel => exact ⟨(y329), (wrap64 (x25_2 + 1)), es_, H', ⟨by have := HK1.out; have := HK2.out; omega⟩, ⟨by (with_reducible repeat (first | apply Kd.R_alloc | apply Kd.R_drewN | apply Kd.R_drew)); exact Kd.R_mono HO_3.out (fun _ hk => ⟨hk.1.1, ⟨hk.2, hk.1.2.1⟩⟩)⟩, ⟨by (with_reducible repeat (first | apply Kd.R_alloc | apply Kd.R_drewN | apply Kd.R_drew)); exact Kd.R_mono HO_4.out (fun _ hk => trivial)⟩, ⟨by (with_reducible repeat (first | apply Kd.S_alloc | apply Kd.S_drewN | apply Kd.S_drew)); exact Kd.S_mono HO331.out (fun _ hk => ⟨hk.1, hk.2.1⟩)⟩, ⟨by (with_reducible repeat (first | apply Kd.S_alloc | apply Kd.S_drewN | apply Kd.S_drew)); exact Kd.S_mono HO_15.out (fun _ hk => ⟨hk.1.1, hk.2⟩)⟩, ⟨blk_below BK304.out bgo_⟩, ⟨hbs_⟩, ⟨pw_cell_below bgo_ SET.out⟩⟩
              · rw [if_neg c20] at H
                have c20b0 : (x17_1 == x25_2) = false := beq_eq_false_iff_ne.mpr c20
                have c20b1 : (x17_1 != x25_2) = true := bne_iff_ne.mpr c20
                obtain ⟨c31, H⟩ := itn_ H
                have LMc31 := Aside0.mk c31
                clear c31
                obtain ⟨y332, Ny332, H⟩ : ∃ y332 : List (List Int), Aside0 (y332 = (x7_2 ++ [y322])) ∧ (impl_Graph_vertexFactor.l1 k2 x3_1 t308 x17_1 y332 t311 (t311.length : Int) x17_1 (rd_L1 t311 x17_1) ((rd_L1 t311 x17_1).length : Int) (wrap64 (x25_2 + 1))) = some r := ⟨_, ⟨rfl⟩, H⟩
                have H' := Aside0.mk H
                clear H
                have p321 : 0 ≤ (x25_2 : Int) := od_
                have q321 : x25_2 < ((rd_L1 t311 x17_1).length : Int) := od_
                obtain ⟨adS, AS, cS, eS, hxS, hlS, hiS⟩ := at_L1 (Kd.S_reads' HO_15.out).2.2 x17_1 (of_eq_true p317) (of_eq_true q317)
                obtain rfl : ad317 = adS := (by injection eS)
                have eqS_ := Option.some.inj (hxS.symm.trans SET.out)
                injection eqS_ with eaS_ _ _
                rw [eaS_] at hiS
                obtain ⟨ad321, e321, hx321_0⟩ := Kd.at_int hiS x25_2 p321 q321
                cases e321
                clear hiS hxS hlS eS eaS_
                replace p321 := eq_true p321
                replace q321 := eq_true q321
                go_wp2_with (first | ((with_reducible refine gate_dst (N := 32) rfl ?_); refine Kd.R_lit (Kd.int .i64) _ 2 ?hg (N := 32) ?hd (xs := ([0, wrap64 (-(rd (rd_L1 t311 x17_1) x25_2)), 0] : List Int)) (inner := [.int .i64 0, .int .i64 (wrap64 (-(rd (rd_L1 t311 x17_1) x25_2))), .int .i64 0]) (ok := fun _ => True) (okp := fun _ => True) ?hr ?hp (fun _ hk => hk) trivial (Below.refl _ _) (Nat.le_refl _) (by simp) ?_; (case hd => rfl); (case hg => rfl); (case hr => first | (go_simp; done) | (go_simp; rfl)); (case hp => exact (Reps.one (show Kd.M (Kd.int .i64) _ _ _ 0 [.int .i64 0] from rfl) (Reps.one (show Kd.M (Kd.int .i64) _ _ _ (wrap64 (-(rd (rd_L1 t311 x17_1) x25_2))) [.int .i64 (wrap64 (-(rd (rd_L1 t311 x17_1) x25_2)))] from rfl) (Reps.one (show Kd.M (Kd.int .i64) _ _ _ 0 [.int .i64 0] from rfl) (Reps.none _ _))))); intro v323 w32 ho33 hb hg_ hnew_; clear hg_ hnew_; (first | rw [← Ny322.out] at ho33 | (simp only [Int.reduceToNat] at ho33; rw [← Ny322.out] at ho33)); replace HO_3 := Aside0.mk (Kd.R_elder' (Kd.R_below HO_3.out bgo_) (Kd.R_base ho33) hb); replace HO_7 := Aside0.mk (Kd.S_elder' (Kd.S_below HO_7.out bgo_) (Kd.R_base ho33) hb); replace HO_15 := Aside0.mk (Kd.S_elder' (Kd.S_below HO_15.out bgo_) (Kd.R_base ho33) hb); have HO324 := Aside0.mk (Kd.R_lower (Kd.R_new' ho33 (Kd.R_lt (Kd.R_below HO_4.out bgo_))) (below_size hbs_)); replace HO_4 := Aside0.mk (Kd.R_elder' (Kd.R_below HO_4.out bgo_) (Kd.R_base ho33) hb); replace SET := Aside0.mk (pw_cell_below hb (pw_cell_below bgo_ SET.out)); replace BK304 := Aside0.mk (blk_below (g := gb304) (o := .cells #[.int .i64 a0_0, .slice A0_1 l0_1.length c0_1] 29 (0, 0)) (blk_below BK304.out bgo_) hb); replace HB := Aside0.mk (below_step hbs_ hb); clear hb ho33; obtain ⟨Ao35, co35, eo35⟩ := Kd.R_slice HO324.out; subst eo35) | ((with_reducible refine gate_builtin (b := .append) (xs := #[.tmp 44, .tmp 46]) rfl ?_); at_builtin; refine Kd.S_append (Kd.slice 2 (Kd.int .i64)) (w0 := w) w.heap.size rfl (.tmp 44) (.tmp 46) 22 26 (.slice none 0 0) 24 rfl Try.underlying22 info26 rfl (by decide) (by omega) u7 x7_2 y322 [.slice Ao35 y322.length co35] (fun k_ => some k_ ≠ (v309 : Value).ownBlock ∧ some k_ ≠ (.slice (some ad317) t311.length co11 : Value).ownBlock) (fun k_ => some k_ = (.slice Ao35 y322.length co35 : Value).ownBlock) rfl rfl ?aP (fun k_ hk_ => ((Kd.R_mono (ok' := fun k_ => ((fun k_ => some k_ ≠ (v309 : Value).ownBlock ∧ some k_ ≠ (.slice (some ad317) t311.length co11 : Value).ownBlock)) k_ ∧ some k_ ≠ (u7 : Value).ownBlock) (Kd.R_apart' (Kd.R_apart' (HO324.out) (Kd.S_typed HO_15.out) (by decide)) (Kd.S_typed HO_7.out) (by decide)) (fun k_ hk => ⟨⟨hk.1.1.2, hk.1.2⟩, hk.2⟩))).1 k_ hk_.symm) ?aF ?aO ?aB ?aS ?aL ?_; (case aP => exact Kd.M_row (Kd.R_mono (Kd.R_tight rfl (Kd.R_mono (ok' := fun k_ => ((fun k_ => some k_ ≠ (v309 : Value).ownBlock ∧ some k_ ≠ (.slice (some ad317) t311.length co11 : Value).ownBlock)) k_ ∧ some k_ ≠ (u7 : Value).ownBlock) (Kd.R_apart' (Kd.R_apart' (HO324.out) (Kd.S_typed HO_15.out) (by decide)) (Kd.S_typed HO_7.out) (by decide)) (fun k_ hk => ⟨⟨hk.1.1.2, hk.1.2⟩, hk.2⟩))) (fun _ h_ => h_))); (case aB => exact hbs_); (case aF => exact (fun k_ hk => ⟨Kd.fresh' (Kd.R_lt (Kd.R_below HO_4.out bgo_)) k_ hk, Kd.fresh' (Kd.S_lt (Kd.S_below HO_15.out bgo_)) k_ hk⟩)); (case aO => exact (by (with_reducible repeat (first | apply Kd.S_alloc | apply Kd.S_drewN | apply Kd.S_drew)); exact Kd.S_mono HO_7.out (fun k_ hk => ⟨⟨hk.1.1, hk.1.2⟩, fun e_ => hk.2 e_⟩))); (case aS => exact (below_size hbs_)); (case aL => have := LMc31.out; omega); intro v333 w34 ho hb hg hat; replace SET := Aside0.mk (impl_Graph_vertexFactor.cell_grown hg (pw_cell_below bgo_ SET.out) (by rw [impl_Graph_vertexFactor.add_blk_]; have h_ := (Kd.S_R HO_15.out).1 ad317.block rfl; first | exact h_.1.2 | exact h_.1.1.2 | exact h_.2 | exact h_.1.1.1.2)); rw [← Ny332.out] at ho; replace HO_3 := Aside0.mk (Kd.R_after (ok := (fun k_ => some k_ ≠ (v309 : Value).ownBlock ∧ some k_ ≠ (.slice (some ad317) t311.length co11 : Value).ownBlock ∧ some k_ ≠ (.slice Ao35 y322.length co35 : Value).ownBlock)) (by (with_reducible repeat (first | apply Kd.R_alloc | apply Kd.R_drewN | apply Kd.R_drew)); exact Kd.R_mono HO_3.out (fun _ hk => ⟨⟨hk.1.1, ⟨hk.1.2.2, hk.2⟩⟩, hk.1.2.1⟩)) hg hat); replace HO_4 := Aside0.mk (Kd.R_over' (Kd.R_below HO_4.out bgo_) (Kd.S_typed (Kd.S_below HO_7.out bgo_)) (by decide) hg); replace HO_15 := Aside0.mk (Kd.S_after (ok := (fun k_ => some k_ ≠ (v309 : Value).ownBlock ∧ some k_ ≠ (.slice Ao35 y322.length co35 : Value).ownBlock)) (by (with_reducible repeat (first | apply Kd.S_alloc | apply Kd.S_drewN | apply Kd.S_drew)); exact Kd.S_mono HO_15.out (fun _ hk => ⟨⟨hk.1.1, hk.2⟩, hk.1.2⟩)) hg hat); replace BK304 := Aside0.mk (blk_grown (g := gb304) (o := .cells #[.int .i64 a0_0, .slice A0_1 l0_1.length c0_1] 29 (0, 0)) (blk_below BK304.out bgo_) hg (Kd.S_ne HO_7.out BK304.out (by decide))); replace HB := Aside0.mk (hb); have HO334 := Aside0.mk (ho); clear HO_7 HO324; clear ho hb hg hat))
                first | go_roundg k2 | (refine Handed.intro k2 ?measure ?_; rotate_left; go_step; (try simp only [add_plain]); (repeat apply Exists.intro); refine ⟨?rel, rfl⟩)
                case measure => have := HK1.out; have := HK2.out; omega
                case rel => exact ⟨(y332), (wrap64 (x25_2 + 1)), es_, H', ⟨by have := HK1.out; have := HK2.out; omega⟩, ⟨by (with_reducible repeat (first | apply Kd.R_alloc | apply Kd.R_drewN | apply Kd.R_drew)); exact Kd.R_mono HO_3.out (fun _ hk => ⟨hk.1.1, ⟨hk.2, hk.1.2.1⟩⟩)⟩, ⟨by (with_reducible repeat (first | apply Kd.R_alloc | apply Kd.R_drewN | apply Kd.R_drew)); exact Kd.R_mono HO_4.out (fun _ hk => trivial)⟩, ⟨Kd.S_below HO334.out bgo_⟩, ⟨by (with_reducible repeat (first | apply Kd.S_alloc | apply Kd.S_drewN | apply Kd.S_drew)); exact Kd.S_mono HO_15.out (fun _ hk => ⟨hk.1.1, hk.2⟩)⟩, ⟨blk_below BK304.out bgo_⟩, ⟨hbs_⟩, ⟨pw_cell_below bgo_ SET.out⟩⟩
            · rw [if_neg c17] at H
              have c17b0 := decide_eq_false c17
              clear c17
              obtain ⟨c36, H⟩ := itn_ H
              have LMc36 := Aside0.mk c36
              clear c36
              obtain ⟨y335, Ny335, H⟩ : ∃ y335 : List (List (List Int)), Aside0 (y335 = (x3_1 ++ [x7_2])) ∧ (impl_Graph_vertexFactor.l0 k2 y335 t308 t311 (t311.length : Int) (wrap64 (x17_1 + 1))) = some r := ⟨_, ⟨rfl⟩, H⟩
              have H' := Aside0.mk H
              clear H
              obtain ⟨Ao38, co38, eo38⟩ := Kd.S_slice HO_7.out
              subst eo38
              go_wp2_with (first | ((with_reducible refine gate_builtin (b := .append) (xs := #[.tmp 49, .tmp 51]) rfl ?_); at_builtin; refine Kd.R_append (Kd.slice 26 (Kd.slice 2 (Kd.int .i64))) (w0 := w) w.heap.size rfl (.tmp 49) (.tmp 51) 88 22 (.slice none 0 0) 24 rfl Try.underlying88 info22 rfl (by decide) (by omega) u3 x3_1 x7_2 [.slice Ao38 x7_2.length co38] (fun k_ => some k_ ≠ (v309 : Value).ownBlock ∧ some k_ ≠ (.slice (some ad317) t311.length co11 : Value).ownBlock) (fun k_ => ((fun k_ => some k_ ≠ (v309 : Value).ownBlock ∧ some k_ ≠ (.slice (some ad317) t311.length co11 : Value).ownBlock)) k_ ∧ some k_ ≠ (u3 : Value).ownBlock) rfl rfl ?aP (fun _ hk => hk) ?aF ?aO ?aB ?aS ?aL ?_; (case aP => exact Kd.M_row (Kd.R_mono (Kd.R_apart' ((Kd.S_R HO_7.out)) (Kd.R_typed HO_3.out) (by decide)) (fun k_ hk => ⟨⟨hk.1.1, hk.1.2⟩, hk.2⟩))); (case aB => exact hbs_); (case aF => exact (fun k_ hk => ⟨Kd.fresh' (Kd.R_lt (Kd.R_below HO_4.out bgo_)) k_ hk, Kd.fresh' (Kd.S_lt (Kd.S_below HO_15.out bgo_)) k_ hk⟩)); (case aO => exact (by (with_reducible repeat (first | apply Kd.R_alloc | apply Kd.R_drewN | apply Kd.R_drew)); exact Kd.R_mono HO_3.out (fun _ hk => ⟨hk.1, hk.2.2⟩))); (case aS => exact (below_size hbs_)); (case aL => have := LMc36.out; omega); intro v336 w37 ho hb hg hat; rw [← Ny335.out] at ho; replace HO_4 := Aside0.mk (Kd.R_over' (Kd.R_below HO_4.out bgo_) (Kd.R_typed (Kd.R_below HO_3.out bgo_)) (by decide) hg); replace HO_15 := Aside0.mk (Kd.S_over' (Kd.S_below HO_15.out bgo_) (Kd.R_typed (Kd.R_below HO_3.out bgo_)) (by decide) hg); replace BK304 := Aside0.mk (blk_grown (g := gb304) (o := .cells #[.int .i64 a0_0, .slice A0_1 l0_1.length c0_1] 29 (0, 0)) (blk_below BK304.out bgo_) hg (Kd.R_ne HO_3.out BK304.out (by decide))); replace HB := Aside0.mk (hb); have HO337 := Aside0.mk (ho); clear HO_3 HO_7; clear ho hb hg hat))
              first | go_roundg k2 | (refine Handed.intro k2 ?measure ?_; rotate_left; go_step; (try simp only [add_plain]); (repeat apply Exists.intro); refine ⟨?rel, rfl⟩)
              case measure => have := HK1.out; have := HK2.out; omega
              case rel => exact ⟨(y335), (wrap64 (x17_1 + 1)), es_, H', ⟨by have := HK1.out; have := HK2.out; omega⟩, ⟨Kd.R_below HO337.out bgo_⟩, ⟨Kd.R_below HO_4.out bgo_⟩, ⟨by (with_reducible repeat (first | apply Kd.S_alloc | apply Kd.S_drewN | apply Kd.S_drew)); exact Kd.S_mono HO_15.out (fun _ hk => hk.1)⟩, ⟨blk_below BK304.out bgo_⟩, ⟨hbs_⟩⟩
      · rw [if_neg c12] at H
        have c12b0 := decide_eq_false c12
        clear c12
        obtain ⟨t314, A39, H⟩ := bnd_ H
        obtain rfl := Option.some.inj H
        obtain ⟨Ao40, co40, eo40⟩ := Kd.R_slice HO_3.out
        subst eo40
        go_wp2_with (first | ((with_reducible refine gate_callee (f := 90) rfl ?_); refine goesL_ (some 55) rfl rfl Try.func90 (by kernel_rfl) rfl #[.slice Ao40 x3_1.length co40, .func (.func 91) #[] #[]] rfl arg_ ?_; (with_reducible refine (impl_polynomials_at_Graph_vertexFactor_1.calls k1 _ _ x3_1  t314 _ ?side1 ?side2 A39.out).mono ?_); (case side1 => exact Kd.C_below (Kd.R_reads' HO_3.out).2.2 bgo_); (case side2 => exact (Kd.R_reads' HO_3.out).2.1); rintro e w41 ⟨v315, rfl, ho0, hb⟩; refine ⟨_, rfl, ?_⟩; replace HO_3 := Aside0.mk (Kd.R_elder' (Kd.R_below HO_3.out bgo_) (Kd.R_base ho0) hb); replace HO_15 := Aside0.mk (Kd.S_elder' (Kd.S_below HO_15.out bgo_) (Kd.R_base ho0) hb); have HO316 := Aside0.mk (Kd.R_lower (Kd.R_new' ho0 (Kd.R_lt (Kd.R_below HO_4.out bgo_))) (below_size hbs_)); replace HO_4 := Aside0.mk (Kd.R_elder' (Kd.R_below HO_4.out bgo_) (Kd.R_base ho0) hb); replace BK304 := Aside0.mk (blk_below (g := gb304) (o := .cells #[.int .i64 a0_0, .slice A0_1 l0_1.length c0_1] 29 (0, 0)) (blk_below BK304.out bgo_) hb); replace HB := Aside0.mk (below_step hbs_ hb); (try clear hb); (try clear hb2); (try clear hk); (try clear hi); (try clear ho0)))
        go_ret
        exact ⟨_, er_, by (with_reducible repeat (first | apply Kd.R_alloc | apply Kd.R_drewN | apply Kd.R_drew)); exact Kd.R_mono HO316.out (fun _ hk => trivial), hbs_⟩

/-! ### impl_VertexFactor: function 13 -/
def impl_VertexFactor.f (k : Nat) (a0_0 : Int) (l0_1 : List (List Int)) : Option (List Int × Int) := (impl_IsGraph.f k a0_0 l0_1).bind fun t339 => (if t339 = true then ((impl_Graph_vertexFactor.f k a0_0 l0_1).bind fun t340 => (some (t340, 0))) else (some (([] : List Int), 1)))
set_option maxHeartbeats 8000000 in
set_option maxRecDepth 100000 in
theorem impl_VertexFactor.calls (k : Nat) (a0_0 : Int) (A0_1 : Option Addr) (c0_1 : Nat) (l0_1 : List (List Int)) (r1 : List Int) (r2 : Int) (w : World) (hr0_1 : Kd.C (Kd.slice 2 (Kd.int .i64)) w A0_1 l0_1.length l0_1) (hc0_1 : l0_1.length ≤ c0_1) (h : impl_VertexFactor.f k a0_0 l0_1 = some (r1, r2)) :
    Calls Try.prog 13 #[.agg #[.int .i64 a0_0, .slice A0_1 l0_1.length c0_1]] w fun e w' => ∃ v0_ : Value, e = .returned (.tuple #[v0_, .int .i64 r2]) ∧ Kd.R (Kd.int .i64) 2 w' w.heap.size (fun _ => True) v0_ r1 ∧ Below w.heap.size w w' := by
  have hu29 := Try.underlying29
  have HR0_1 := Aside0.mk hr0_1
  have HC0_1 := Aside0.mk hc0_1
  clear hr0_1 hc0_1
  have HB := Aside0.mk (Below.refl w.heap.size w)
  have H : ((impl_IsGraph.f k a0_0 l0_1).bind fun t339 => (if t339 = true then ((impl_Graph_vertexFactor.f k a0_0 l0_1).bind fun t340 => (some (t340, 0))) else (some (([] : List Int), 1)))) = some (r1, r2) := h
  clear h
  obtain ⟨t339, A2, H⟩ := bnd_ H
  by_cases c3 : t339 = true
  · subst c3
    have H1 : ((impl_Graph_vertexFactor.f k a0_0 l0_1).bind fun t340 => (some (t340, 0))) = some (r1, r2) := by rw [if_pos rfl] at H; exact H
    clear H
    have H := H1
    clear H1
    obtain ⟨t340, A4, H⟩ := bnd_ H
    simp only [Option.some.injEq, Prod.mk.injEq] at H
    obtain ⟨rfl, rfl⟩ := H
    go_enter Try.func13, Try.ntmps13
    go_wp2_with (first | ((with_reducible refine gate_dst (N := 1) rfl ?_); refine box_event ?hg (N := 1) ?hd (cs := #[.int .i64 a0_0, .slice A0_1 l0_1.length c0_1]) (t := 29) ?hr ?_; (case hd => rfl); (case hg => rfl); (case hr => first | (go_simp; done) | (go_simp; rfl)); intro gb338 hg w5 hbox hb; have BK338 := Aside0.mk (hbox); have GW338 := Aside0.mk ((by rw [hg]; exact (below_size hb_) : w.heap.size ≤ gb338)); have GE338 := Aside0.mk ((by rw [hg]; exact (below_size hb_) : w.heap.size ≤ gb338)); replace HB := Aside0.mk (below_step hb_ hb); clear hb hbox hg; have hcz6_0 : w5.cell? ⟨gb338, 0, none⟩ = some (.int .i64 a0_0) := (blk_cell BK338.out 0).trans rfl; have hcz6_1 : w5.cell? ⟨gb338, 1, none⟩ = some (.slice A0_1 l0_1.length c0_1) := (blk_cell BK338.out 1).trans rfl; have hfz6_0 := blk_frozen BK338.out 0; have hfz6_1 := blk_frozen BK338.out 1) | ((with_reducible refine gate_callee (f := 46) rfl ?_); refine goesL_ (some 5) rfl rfl Try.func46 (by kernel_rfl) rfl #[.agg #[.int .i64 a0_0, .slice A0_1 l0_1.length c0_1]] rfl arg_ ?_; (with_reducible refine (impl_IsGraph.calls k a0_0 _ _ l0_1 true _ ?side1 ?side2 A2.out).mono ?_); (case side1 => exact Kd.C_below (Kd.C_below HR0_1.out HB.out) bgo_); (case side2 => exact HC0_1.out); rintro e w7 ⟨rfl, hb⟩; refine ⟨_, rfl, ?_⟩; replace BK338 := Aside0.mk (blk_below (g := gb338) (o := .cells #[.int .i64 a0_0, .slice A0_1 l0_1.length c0_1] 29 (0, 0)) (blk_below BK338.out bgo_) hb); replace HB := Aside0.mk (below_step hbs_ hb); (try clear hb); (try clear hb2); (try clear hk); (try clear hi); have hcz8_0 : w7.cell? ⟨gb338, 0, none⟩ = some (.int .i64 a0_0) := (blk_cell BK338.out 0).trans rfl; have hcz8_1 : w7.cell? ⟨gb338, 1, none⟩ = some (.slice A0_1 l0_1.length c0_1) := (blk_cell BK338.out 1).trans rfl; have hfz8_0 := blk_frozen BK338.out 0; have hfz8_1 := blk_frozen BK338.out 1) | ((with_reducible refine gate_callee (f := 47) rfl ?_); refine goesL_ (some 8) rfl rfl Try.func47 (by kernel_rfl) rfl #[.agg #[.int .i64 a0_0, .slice A0_1 l0_1.length c0_1]] rfl arg_ ?_; (with_reducible refine (impl_Graph_vertexFactor.calls k a0_0 _ _ l0_1 t340 _ ?side1 ?side2 A4.out).mono ?_); (case side1 => exact Kd.C_below (Kd.C_below HR0_1.out HB.out) bgo_); (case side2 => exact HC0_1.out); rintro e w9 ⟨v341, rfl, ho0, hb⟩; refine ⟨_, rfl, ?_⟩; have HO342 := Aside0.mk (Kd.R_lower ho0 (below_size hbs_)); replace BK338 := Aside0.mk (blk_below (g := gb338) (o := .cells #[.int .i64 a0_0, .slice A0_1 l0_1.length c0_1] 29 (0, 0)) (blk_below BK338.out bgo_) hb); replace HB := Aside0.mk (below_step hbs_ hb); (try clear hb); (try clear hb2); (try clear hk); (try clear hi); (try clear ho0)))
    go_ret2
    exact ⟨_, er_, (Kd.R_below HO342.out bgo_), hbs_⟩
  · replace c3 := Bool.eq_false_iff.mpr c3
    subst c3
    have H1 : (some (([] : List Int), 1)) = some (r1, r2) := by rw [if_neg (show ¬ (false = true) by decide)] at H; exact H
    clear H
    have H := H1
    clear H1
    simp only [Option.some.injEq, Prod.mk.injEq] at H
    obtain ⟨rfl, rfl⟩ := H
    go_enter Try.func13, Try.ntmps13
    go_wp2_with (first | ((with_reducible refine gate_dst (N := 1) rfl ?_); refine box_event ?hg (N := 1) ?hd (cs := #[.int .i64 a0_0, .slice A0_1 l0_1.length c0_1]) (t := 29) ?hr ?_; (case hd => rfl); (case hg => rfl); (case hr => first | (go_simp; done) | (go_simp; rfl)); intro gb338 hg w10 hbox hb; have BK338 := Aside0.mk (hbox); have GW338 := Aside0.mk ((by rw [hg]; exact (below_size hb_) : w.heap.size ≤ gb338)); have GE338 := Aside0.mk ((by rw [hg]; exact (below_size hb_) : w.heap.size ≤ gb338)); replace HB := Aside0.mk (below_step hb_ hb); clear hb hbox hg; have hcz11_0 : w10.cell? ⟨gb338, 0, none⟩ = some (.int .i64 a0_0) := (blk_cell BK338.out 0).trans rfl; have hcz11_1 : w10.cell? ⟨gb338, 1, none⟩ = some (.slice A0_1 l0_1.length c0_1) := (blk_cell BK338.out 1).trans rfl; have hfz11_0 := blk_frozen BK338.out 0; have hfz11_1 := blk_frozen BK338.out 1) | ((with_reducible refine gate_callee (f := 46) rfl ?_); refine goesL_ (some 5) rfl rfl Try.func46 (by kernel_rfl) rfl #[.agg #[.int .i64 a0_0, .slice A0_1 l0_1.length c0_1]] rfl arg_ ?_; (with_reducible refine (impl_IsGraph.calls k a0_0 _ _ l0_1 false _ ?side1 ?side2 A2.out).mono ?_); (case side1 => exact Kd.C_below (Kd.C_below HR0_1.out HB.out) bgo_); (case side2 => exact HC0_1.out); rintro e w12 ⟨rfl, hb⟩; refine ⟨_, rfl, ?_⟩; replace BK338 := Aside0.mk (blk_below (g := gb338) (o := .cells #[.int .i64 a0_0, .slice A0_1 l0_1.length c0_1] 29 (0, 0)) (blk_below BK338.out bgo_) hb); replace HB := Aside0.mk (below_step hbs_ hb); (try clear hb); (try clear hb2); (try clear hk); (try clear hi)))
    go_ret2
    exact ⟨_, er_, by first | exact Kd.R_nil _ _ _ _ _ | exact Kd.N_nil _ _ _ _ _ | exact Kd.V_nil _ _ _ _ _ | exact Kd.Q_nil _ _ _ _ _ | exact Kd.S_nil _ _ _ _ _, hbs_⟩

/-! ### laws_eqInt64S: function 14 -/
def laws_eqInt64S.l0 : Nat → List Int → List Int → Int → Option (Bool)
  | 0, _, _, _ => none
  | k + 1, x0, x1, x5 => if x5 < (x0.length : Int) then (if 0 ≤ x5 then (if x5 < (x1.length : Int) then (if (rd x0 x5) = (rd x1 x5) then (laws_eqInt64S.l0 k x0 x1 (wrap64 (x5 + 1))) else (some false)) else (none)) else (none)) else (some true)
def laws_eqInt64S.f (k : Nat) (l0 : List Int) (l1 : List Int) : Option (Bool) := if (l0.length : Int) = (l1.length : Int) then (laws_eqInt64S.l0 k l0 l1 0) else (some false)
set_option maxHeartbeats 8000000 in
set_option maxRecDepth 100000 in
theorem laws_eqInt64S.calls (k : Nat) (A0 : Option Addr) (c0 : Nat) (l0 : List Int) (A1 : Option Addr) (c1 : Nat) (l1 : List Int) (r : Bool) (w : World) (hr0 : Kd.C (Kd.int .i64) w A0 l0.length l0) (hc0 : l0.length ≤ c0) (hr1 : Kd.C (Kd.int .i64) w A1 l1.length l1) (hc1 : l1.length ≤ c1) (h : laws_eqInt64S.f k l0 l1 = some r) :
    Calls Try.prog 14 #[.slice A0 l0.length c0, .slice A1 l1.length c1] w fun e w' => e = .returned (.bool r) ∧ Drawn0 w w' := by
  have HR0 := Aside0.mk hr0
  have HC0 := Aside0.mk hc0
  clear hr0 hc0
  have HR1 := Aside0.mk hr1
  have HC1 := Aside0.mk hc1
  clear hr1 hc1
  have H : (if (l0.length : Int) = (l1.length : Int) then (laws_eqInt64S.l0 k l0 l1 0) else (some false)) = some r := h
  clear h
  by_cases c3 : (l0.length : Int) = (l1.length : Int)
  · rw [if_pos c3] at H
    have c3b0 : ((l0.length : Int) == (l1.length : Int)) = true := beq_iff_eq.mpr c3
    have c3b1 : ((l0.length : Int) != (l1.length : Int)) = false := bne_eq_false_iff_eq.mpr c3
    have c3b2 : (l0.length == l1.length) = true := by first | simpa using c3 | (simp at c3 ⊢; omega)
    clear c3
    have H' := Aside0.mk H
    clear H
    go_enter Try.func14, Try.ntmps14
    go_wp2
    repeat (go_quiet (fail); try go_wp2)
    go_loopg [5] k (fun kq v5 w' => ∃ (x5_1 : Int), v5 = .int .i64 x5_1 ∧ Aside0 (laws_eqInt64S.l0 kq l0 l1 x5_1 = some r) ∧ Aside0 (kq ≤ k) ∧ Drawn0 w w')
    case atStart => exact ⟨(0), es_, H', ⟨Nat.le_refl _⟩, by repeat (first | exact Drawn0.refl _ | apply Drawn0.step)⟩
    case round =>
      clear H'
      obtain ⟨x5_1, rfl, HA, HK1, ⟨m1, rfl⟩⟩ := hrel
      cases gk with
      | zero => exact absurd HA.out (by simp [laws_eqInt64S.l0])
      | succ k1 =>
        have H := HA.out
        clear HA
        simp only [laws_eqInt64S.l0] at H
        by_cases c4 : x5_1 < (l0.length : Int)
        · rw [if_pos c4] at H
          have c4b0 := decide_eq_true c4
          clear c4
          obtain ⟨c5, H⟩ := itn_ H
          have c5b0 := decide_eq_true c5
          clear c5
          obtain ⟨c6, H⟩ := itn_ H
          have c6b0 := decide_eq_true c6
          clear c6
          by_cases c7 : (rd l0 x5_1) = (rd l1 x5_1)
          · rw [if_pos c7] at H
            have c7b0 : ((rd l0 x5_1) == (rd l1 x5_1)) = true := beq_iff_eq.mpr c7
            have c7b1 : ((rd l0 x5_1) != (rd l1 x5_1)) = false := bne_eq_false_iff_eq.mpr c7
            clear c7
            have H' := Aside0.mk H
            clear H
            have p343 : 0 ≤ (x5_1 : Int) := od_
            have q343 : x5_1 < (l0.length : Int) := od_
            obtain ⟨ad343, e343, hx343_0⟩ := Kd.at_int HR0.out x5_1 p343 q343
            cases e343
            replace p343 := eq_true p343
            replace q343 := eq_true q343
            have p344 : 0 ≤ (x5_1 : Int) := od_
            have q344 : x5_1 < (l1.length : Int) := od_
            obtain ⟨ad344, e344, hx344_0⟩ := Kd.at_int HR1.out x5_1 p344 q344
            cases e344
            replace p344 := eq_true p344
            replace q344 := eq_true q344
            go_wp2
            repeat (go_quiet (fail); try go_wp2)
            go_roundg k1
            case measure => have := HK1.out; omega
            case rel => exact ⟨(wrap64 (x5_1 + 1)), es_, H', ⟨by have := HK1.out; omega⟩, by repeat (first | exact Drawn0.refl _ | apply Drawn0.step)⟩
          · rw [if_neg c7] at H
            have c7b0 : ((rd l0 x5_1) == (rd l1 x5_1)) = false := beq_eq_false_iff_ne.mpr c7
            have c7b1 : ((rd l0 x5_1) != (rd l1 x5_1)) = true := bne_iff_ne.mpr c7
            obtain rfl := Option.some.inj H
            have p343 : 0 ≤ (x5_1 : Int) := od_
            have q343 : x5_1 < (l0.length : Int) := od_
            obtain ⟨ad343, e343, hx343_0⟩ := Kd.at_int HR0.out x5_1 p343 q343
            cases e343
            replace p343 := eq_true p343
            replace q343 := eq_true q343
            have p344 : 0 ≤ (x5_1 : Int) := od_
            have q344 : x5_1 < (l1.length : Int) := od_
            obtain ⟨ad344, e344, hx344_0⟩ := Kd.at_int HR1.out x5_1 p344 q344
            cases e344
            replace p344 := eq_true p344
            replace q344 := eq_true q344
            go_wp2
            repeat (go_quiet (fail); try go_wp2)
            go_ret
            exact ⟨es_, by repeat (first | exact Drawn0.refl _ | apply Drawn0.step)⟩
        · rw [if_neg c4] at H
          have c4b0 := decide_eq_false c4
          clear c4
          obtain rfl := Option.some.inj H
          go_wp2
          repeat (go_quiet (fail); try go_wp2)
          go_ret
          exact ⟨es_, by repeat (first | exact Drawn0.refl _ | apply Drawn0.step)⟩
  · rw [if_neg c3] at H
    have c3b0 : ((l0.length : Int) == (l1.length : Int)) = false := beq_eq_false_iff_ne.mpr c3
    have c3b1 : ((l0.length : Int) != (l1.length : Int)) = true := bne_iff_ne.mpr c3
    have c3b2 : (l0.length == l1.length) = false := by first | simpa using c3 | (simp at c3 ⊢; omega)
    obtain rfl := Option.some.inj H
    go_enter Try.func14, Try.ntmps14
    go_wp2
    repeat (go_quiet (fail); try go_wp2)
    go_ret
    exact ⟨es_, by repeat (first | exact Drawn0.refl _ | apply Drawn0.step)⟩

/-! ### laws_eqInt64SS: function 26 -/
def laws_eqInt64SS.l0 : Nat → List (List Int) → List (List Int) → Int → Option (Bool)
  | 0, _, _, _ => none
  | k + 1, x0, x1, x5 => if x5 < (x0.length : Int) then (if 0 ≤ x5 then (if x5 < (x1.length : Int) then ((laws_eqInt64S.f k (rd_L1 x0 x5) (rd_L1 x1 x5)).bind fun t347 => (if t347 = true then (laws_eqInt64SS.l0 k x0 x1 (wrap64 (x5 + 1))) else (some false))) else (none)) else (none)) else (some true)
def laws_eqInt64SS.f (k : Nat) (l0 : List (List Int)) (l1 : List (List Int)) : Option (Bool) := if (l0.length : Int) = (l1.length : Int) then (laws_eqInt64SS.l0 k l0 l1 0) else (some false)
set_option maxHeartbeats 8000000 in
set_option maxRecDepth 100000 in
theorem laws_eqInt64SS.calls (k : Nat) (A0 : Option Addr) (c0 : Nat) (l0 : List (List Int)) (A1 : Option Addr) (c1 : Nat) (l1 : List (List Int)) (r : Bool) (w : World) (hr0 : Kd.C (Kd.slice 2 (Kd.int .i64)) w A0 l0.length l0) (hc0 : l0.length ≤ c0) (hr1 : Kd.C (Kd.slice 2 (Kd.int .i64)) w A1 l1.length l1) (hc1 : l1.length ≤ c1) (h : laws_eqInt64SS.f k l0 l1 = some r) :
    Calls Try.prog 26 #[.slice A0 l0.length c0, .slice A1 l1.length c1] w fun e w' => e = .returned (.bool r) ∧ Drawn0 w w' := by
  have HR0 := Aside0.mk hr0
  have HC0 := Aside0.mk hc0
  clear hr0 hc0
  have HR1 := Aside0.mk hr1
  have HC1 := Aside0.mk hc1
  clear hr1 hc1
  have H : (if (l0.length : Int) = (l1.length : Int) then (laws_eqInt64SS.l0 k l0 l1 0) else (some false)) = some r := h
  clear h
  by_cases c3 : (l0.length : Int) = (l1.length : Int)
  · rw [if_pos c3] at H
    have c3b0 : ((l0.length : Int) == (l1.length : Int)) = true := beq_iff_eq.mpr c3
    have c3b1 : ((l0.length : Int) != (l1.length : Int)) = false := bne_eq_false_iff_eq.mpr c3
    have c3b2 : (l0.length == l1.length) = true := by first | simpa using c3 | (simp at c3 ⊢; omega)
    clear c3
    have H' := Aside0.mk H
    clear H
    go_enter Try.func26, Try.ntmps26
    go_wp2
    repeat (go_quiet (fail); try go_wp2)
    go_loopg [5] k (fun kq v5 w' => ∃ (x5_1 : Int), v5 = .int .i64 x5_1 ∧ Aside0 (laws_eqInt64SS.l0 kq l0 l1 x5_1 = some r) ∧ Aside0 (kq ≤ k) ∧ Drawn0 w w')
    case atStart => exact ⟨(0), es_, H', ⟨Nat.le_refl _⟩, by repeat (first | exact Drawn0.refl _ | apply Drawn0.step)⟩
    case round =>
      clear H'
      obtain ⟨x5_1, rfl, HA, HK1, ⟨m1, rfl⟩⟩ := hrel
      cases gk with
      | zero => exact absurd HA.out (by simp [laws_eqInt64SS.l0])
      | succ k1 =>
        have H := HA.out
        clear HA
        simp only [laws_eqInt64SS.l0] at H
        by_cases c4 : x5_1 < (l0.length : Int)
        · rw [if_pos c4] at H
          have c4b0 := decide_eq_true c4
          clear c4
          obtain ⟨c5, H⟩ := itn_ H
          have c5b0 := decide_eq_true c5
          clear c5
          obtain ⟨c6, H⟩ := itn_ H
          have c6b0 := decide_eq_true c6
          clear c6
          obtain ⟨t347, A7, H⟩ := bnd_ H
          by_cases c8 : t347 = true
          · subst c8
            have H1 : (laws_eqInt64SS.l0 k1 l0 l1 (wrap64 (x5_1 + 1))) = some r := by rw [if_pos rfl] at H; exact H
            clear H
            have H := H1
            clear H1
            have H' := Aside0.mk H
            clear H
            have p345 : 0 ≤ (x5_1 : Int) := od_
            have q345 : x5_1 < (l0.length : Int) := od_
            obtain ⟨ad345, A345_0, c345_0, e345, hx345_0, hl345_0, hi345_0⟩ := at_L1 HR0.out x5_1 p345 q345
            cases e345
            have HR345_0 := Aside0.mk hi345_0
            have HC345_0 := Aside0.mk hl345_0
            clear hi345_0 hl345_0
            replace p345 := eq_true p345
            replace q345 := eq_true q345
            have p346 : 0 ≤ (x5_1 : Int) := od_
            have q346 : x5_1 < (l1.length : Int) := od_
            obtain ⟨ad346, A346_0, c346_0, e346, hx346_0, hl346_0, hi346_0⟩ := at_L1 HR1.out x5_1 p346 q346
            cases e346
            have HR346_0 := Aside0.mk hi346_0
            have HC346_0 := Aside0.mk hl346_0
            clear hi346_0 hl346_0
            replace p346 := eq_true p346
            replace q346 := eq_true q346
            go_wp2_with (first | (go_at_call 14; (with_reducible refine (laws_eqInt64S.calls k1 _ _ (rd_L1 l0 x5_1) _ _ (rd_L1 l1 x5_1) true _ ?side1 ?side2 ?side3 ?side4 A7.out).mono ?_); (case side1 => exact Kd.C_below HR345_0.out bgo_); (case side2 => exact HC345_0.out); (case side3 => exact Kd.C_below HR346_0.out bgo_); (case side4 => exact HC346_0.out); rintro e w' ⟨rfl, ⟨nd, rfl⟩⟩; (try first | exact ⟨rfl, _, World.drewN_drewN _ _ _⟩ | exact ⟨rfl, _, Eq.trans (World.drewN_drewN _ _ _) (congrArg (World.drewN _) (Nat.add_assoc _ _ _))⟩)))
            repeat (go_quiet (first | (go_at_call 14; (with_reducible refine (laws_eqInt64S.calls k1 _ _ (rd_L1 l0 x5_1) _ _ (rd_L1 l1 x5_1) true _ ?side1 ?side2 ?side3 ?side4 A7.out).mono ?_); (case side1 => exact Kd.C_below HR345_0.out bgo_); (case side2 => exact HC345_0.out); (case side3 => exact Kd.C_below HR346_0.out bgo_); (case side4 => exact HC346_0.out); rintro e w' ⟨rfl, ⟨nd, rfl⟩⟩; (try first | exact ⟨rfl, _, World.drewN_drewN _ _ _⟩ | exact ⟨rfl, _, Eq.trans (World.drewN_drewN _ _ _) (congrArg (World.drewN _) (Nat.add_assoc _ _ _))⟩))); try go_wp2_with (first | (go_at_call 14; (with_reducible refine (laws_eqInt64S.calls k1 _ _ (rd_L1 l0 x5_1) _ _ (rd_L1 l1 x5_1) true _ ?side1 ?side2 ?side3 ?side4 A7.out).mono ?_); (case side1 => exact Kd.C_below HR345_0.out bgo_); (case side2 => exact HC345_0.out); (case side3 => exact Kd.C_below HR346_0.out bgo_); (case side4 => exact HC346_0.out); rintro e w' ⟨rfl, ⟨nd, rfl⟩⟩; (try first | exact ⟨rfl, _, World.drewN_drewN _ _ _⟩ | exact ⟨rfl, _, Eq.trans (World.drewN_drewN _ _ _) (congrArg (World.drewN _) (Nat.add_assoc _ _ _))⟩))))
            go_roundg k1
            case measure => have := HK1.out; omega
            case rel => exact ⟨(wrap64 (x5_1 + 1)), es_, H', ⟨by have := HK1.out; omega⟩, by repeat (first | exact Drawn0.refl _ | apply Drawn0.step)⟩
          · replace c8 := Bool.eq_false_iff.mpr c8
            subst c8
            have H1 : (some false) = some r := by rw [if_neg (show ¬ (false = true) by decide)] at H; exact H
            clear H
            have H := H1
            clear H1
            obtain rfl := Option.some.inj H
            have p345 : 0 ≤ (x5_1 : Int) := od_
            have q345 : x5_1 < (l0.length : Int) := od_
            obtain ⟨ad345, A345_0, c345_0, e345, hx345_0, hl345_0, hi345_0⟩ := at_L1 HR0.out x5_1 p345 q345
            cases e345
            have HR345_0 := Aside0.mk hi345_0
            have HC345_0 := Aside0.mk hl345_0
            clear hi345_0 hl345_0
            replace p345 := eq_true p345
            replace q345 := eq_true q345
            have p346 : 0 ≤ (x5_1 : Int) := od_
            have q346 : x5_1 < (l1.length : Int) := od_
            obtain ⟨ad346, A346_0, c346_0, e346, hx346_0, hl346_0, hi346_0⟩ := at_L1 HR1.out x5_1 p346 q346
            cases e346
            have HR346_0 := Aside0.mk hi346_0
            have HC346_0 := Aside0.mk hl346_0
            clear hi346_0 hl346_0
            replace p346 := eq_true p346
            replace q346 := eq_true q346
            go_wp2_with (first | (go_at_call 14; (with_reducible refine (laws_eqInt64S.calls k1 _ _ (rd_L1 l0 x5_1) _ _ (rd_L1 l1 x5_1) false _ ?side1 ?side2 ?side3 ?side4 A7.out).mono ?_); (case side1 => exact Kd.C_below HR345_0.out bgo_); (case side2 => exact HC345_0.out); (case side3 => exact Kd.C_below HR346_0.out bgo_); (case side4 => exact HC346_0.out); rintro e w' ⟨rfl, ⟨nd, rfl⟩⟩; (try first | exact ⟨rfl, _, World.drewN_drewN _ _ _⟩ | exact ⟨rfl, _, Eq.trans (World.drewN_drewN _ _ _) (congrArg (World.drewN _) (Nat.add_assoc _ _ _))⟩)))
            repeat (go_quiet (first | (go_at_call 14; (with_reducible refine (laws_eqInt64S.calls k1 _ _ (rd_L1 l0 x5_1) _ _ (rd_L1 l1 x5_1) false _ ?side1 ?side2 ?side3 ?side4 A7.out).mono ?_); (case side1 => exact Kd.C_below HR345_0.out bgo_); (case side2 => exact HC345_0.out); (case side3 => exact Kd.C_below HR346_0.out bgo_); (case side4 => exact HC346_0.out); rintro e w' ⟨rfl, ⟨nd, rfl⟩⟩; (try first | exact ⟨rfl, _, World.drewN_drewN _ _ _⟩ | exact ⟨rfl, _, Eq.trans (World.drewN_drewN _ _ _) (congrArg (World.drewN _) (Nat.add_assoc _ _ _))⟩))); try go_wp2_with (first | (go_at_call 14; (with_reducible refine (laws_eqInt64S.calls k1 _ _ (rd_L1 l0 x5_1) _ _ (rd_L1 l1 x5_1) false _ ?side1 ?side2 ?side3 ?side4 A7.out).mono ?_); (case side1 => exact Kd.C_below HR345_0.out bgo_); (case side2 => exact HC345_0.out); (case side3 => exact Kd.C_below HR346_0.out bgo_); (case side4 => exact HC346_0.out); rintro e w' ⟨rfl, ⟨nd, rfl⟩⟩; (try first | exact ⟨rfl, _, World.drewN_drewN _ _ _⟩ | exact ⟨rfl, _, Eq.trans (World.drewN_drewN _ _ _) (congrArg (World.drewN _) (Nat.add_assoc _ _ _))⟩))))
            go_ret
            exact ⟨es_, by repeat (first | exact Drawn0.refl _ | apply Drawn0.step)⟩
        · rw [if_neg c4] at H
          have c4b0 := decide_eq_false c4
          clear c4
          obtain rfl := Option.some.inj H
          go_wp2
          repeat (go_quiet (fail); try go_wp2)
          go_ret
          exact ⟨es_, by repeat (first | exact Drawn0.refl _ | apply Drawn0.step)⟩
  · rw [if_neg c3] at H
    have c3b0 : ((l0.length : Int) == (l1.length : Int)) = false := beq_eq_false_iff_ne.mpr c3
    have c3b1 : ((l0.length : Int) != (l1.length : Int)) = true := bne_iff_ne.mpr c3
    have c3b2 : (l0.length == l1.length) = false := by first | simpa using c3 | (simp at c3 ⊢; omega)
    obtain rfl := Option.some.inj H
    go_enter Try.func26, Try.ntmps26
    go_wp2
    repeat (go_quiet (fail); try go_wp2)
    go_ret
    exact ⟨es_, by repeat (first | exact Drawn0.refl _ | apply Drawn0.step)⟩

/-! ### laws_eqGraph: function 15 -/
def laws_eqGraph.f (k : Nat) (a0_0 : Int) (l0_1 : List (List Int)) (a1_0 : Int) (l1_1 : List (List Int)) : Option (Bool) := if a0_0 = a1_0 then ((laws_eqInt64SS.f k l0_1 l1_1).bind fun t350 => (if t350 = true then (some true) else (some false))) else (some false)
set_option maxHeartbeats 8000000 in
set_option maxRecDepth 100000 in
theorem laws_eqGraph.calls (k : Nat) (a0_0 : Int) (A0_1 : Option Addr) (c0_1 : Nat) (l0_1 : List (List Int)) (a1_0 : Int) (A1_1 : Option Addr) (c1_1 : Nat) (l1_1 : List (List Int)) (r : Bool) (w : World) (hr0_1 : Kd.C (Kd.slice 2 (Kd.int .i64)) w A0_1 l0_1.length l0_1) (hc0_1 : l0_1.length ≤ c0_1) (hr1_1 : Kd.C (Kd.slice 2 (Kd.int .i64)) w A1_1 l1_1.length l1_1) (hc1_1 : l1_1.length ≤ c1_1) (h : laws_eqGraph.f k a0_0 l0_1 a1_0 l1_1 = some r) :
    Calls Try.prog 15 #[.agg #[.int .i64 a0_0, .slice A0_1 l0_1.length c0_1], .agg #[.int .i64 a1_0, .slice A1_1 l1_1.length c1_1]] w fun e w' => e = .returned (.bool r) ∧ Below w.heap.size w w' := by
  have hu29 := Try.underlying29
  have HR0_1 := Aside0.mk hr0_1
  have HC0_1 := Aside0.mk hc0_1
  clear hr0_1 hc0_1
  have HR1_1 := Aside0.mk hr1_1
  have HC1_1 := Aside0.mk hc1_1
  clear hr1_1 hc1_1
  have HB := Aside0.mk (Below.refl w.heap.size w)
  have H : (if a0_0 = a1_0 then ((laws_eqInt64SS.f k l0_1 l1_1).bind fun t350 => (if t350 = true then (some true) else (some false))) else (some false)) = some r := h
  clear h
  by_cases c3 : a0_0 = a1_0
  · rw [if_pos c3] at H
    have c3b0 : (a0_0 == a1_0) = true := beq_iff_eq.mpr c3
    have c3b1 : (a0_0 != a1_0) = false := bne_eq_false_iff_eq.mpr c3
    clear c3
    obtain ⟨t350, A4, H⟩ := bnd_ H
    by_cases c5 : t350 = true
    · subst c5
      have H1 : (some true) = some r := by rw [if_pos rfl] at H; exact H
      clear H
      have H := H1
      clear H1
      obtain rfl := Option.some.inj H
      go_enter Try.func15, Try.ntmps15
      go_wp2_with (first | ((with_reducible refine gate_dst (N := 2) rfl ?_); refine box_event ?hg (N := 2) ?hd (cs := #[.int .i64 a0_0, .slice A0_1 l0_1.length c0_1]) (t := 29) ?hr ?_; (case hd => rfl); (case hg => rfl); (case hr => first | (go_simp; done) | (go_simp; rfl)); intro gb348 hg w6 hbox hb; have BK348 := Aside0.mk (hbox); have GW348 := Aside0.mk ((by rw [hg]; exact (below_size hb_) : w.heap.size ≤ gb348)); have GE348 := Aside0.mk ((by rw [hg]; exact (below_size hb_) : w.heap.size ≤ gb348)); replace HB := Aside0.mk (below_step hb_ hb); clear hb hbox hg) | ((with_reducible refine gate_dst (N := 3) rfl ?_); refine box_event ?hg (N := 3) ?hd (cs := #[.int .i64 a1_0, .slice A1_1 l1_1.length c1_1]) (t := 29) ?hr ?_; (case hd => rfl); (case hg => rfl); (case hr => first | (go_simp; done) | (go_simp; rfl)); intro gb349 hg w7 hbox hb; have BK349 := Aside0.mk (hbox); have GW349 := Aside0.mk ((by rw [hg]; exact (below_size hbs_) : w.heap.size ≤ gb349)); have GE349 := Aside0.mk ((by rw [hg]; exact (below_size hbs_) : w.heap.size ≤ gb349)); replace HB := Aside0.mk (below_step hbs_ hb); have NB348_349 := Aside0.mk ((by rw [hg]; exact Nat.ne_of_lt (blk_lt (g := gb348) (o := .cells #[.int .i64 a0_0, .slice A0_1 l0_1.length c0_1] 29 (0, 0)) (blk_below BK348.out bgo_)) : gb348 ≠ gb349)); have NB349_348 := Aside0.mk ((by rw [hg]; exact Nat.ne_of_gt (blk_lt (g := gb348) (o := .cells #[.int .i64 a0_0, .slice A0_1 l0_1.length c0_1] 29 (0, 0)) (blk_below BK348.out bgo_)) : gb349 ≠ gb348)); replace BK348 := Aside0.mk (blk_below (g := gb348) (o := .cells #[.int .i64 a0_0, .slice A0_1 l0_1.length c0_1] 29 (0, 0)) (blk_below BK348.out bgo_) hb); clear hb hbox hg; have hnb8 := NB348_349.out; have hnc8 := NB349_348.out; have hcz9_0 : w7.cell? ⟨gb348, 0, none⟩ = some (.int .i64 a0_0) := (blk_cell BK348.out 0).trans rfl; have hcz9_1 : w7.cell? ⟨gb348, 1, none⟩ = some (.slice A0_1 l0_1.length c0_1) := (blk_cell BK348.out 1).trans rfl; have hfz9_0 := blk_frozen BK348.out 0; have hfz9_1 := blk_frozen BK348.out 1; have hcz10_0 : w7.cell? ⟨gb349, 0, none⟩ = some (.int .i64 a1_0) := (blk_cell BK349.out 0).trans rfl; have hcz10_1 : w7.cell? ⟨gb349, 1, none⟩ = some (.slice A1_1 l1_1.length c1_1) := (blk_cell BK349.out 1).trans rfl; have hfz10_0 := blk_frozen BK349.out 0; have hfz10_1 := blk_frozen BK349.out 1) | ((with_reducible refine gate_callee (f := 26) rfl ?_); refine goesL_ (some 14) rfl rfl Try.func26 (by kernel_rfl) rfl #[.slice A0_1 l0_1.length c0_1, .slice A1_1 l1_1.length c1_1] rfl arg_ ?_; (with_reducible refine (laws_eqInt64SS.calls k _ _ l0_1 _ _ l1_1 true _ ?side1 ?side2 ?side3 ?side4 A4.out).mono ?_); (case side1 => exact Kd.C_below (Kd.C_below HR0_1.out HB.out) bgo_); (case side2 => exact HC0_1.out); (case side3 => exact Kd.C_below (Kd.C_below HR1_1.out HB.out) bgo_); (case side4 => exact HC1_1.out); rintro e w' ⟨rfl, ⟨nd, rfl⟩⟩; refine ⟨_, rfl, ?_⟩))
      go_ret
      exact ⟨er_, hbs_⟩
    · replace c5 := Bool.eq_false_iff.mpr c5
      subst c5
      have H1 : (some false) = some r := by rw [if_neg (show ¬ (false = true) by decide)] at H; exact H
      clear H
      have H := H1
      clear H1
      obtain rfl := Option.some.inj H
      go_enter Try.func15, Try.ntmps15
      go_wp2_with (first | ((with_reducible refine gate_dst (N := 2) rfl ?_); refine box_event ?hg (N := 2) ?hd (cs := #[.int .i64 a0_0, .slice A0_1 l0_1.length c0_1]) (t := 29) ?hr ?_; (case hd => rfl); (case hg => rfl); (case hr => first | (go_simp; done) | (go_simp; rfl)); intro gb348 hg w11 hbox hb; have BK348 := Aside0.mk (hbox); have GW348 := Aside0.mk ((by rw [hg]; exact (below_size hb_) : w.heap.size ≤ gb348)); have GE348 := Aside0.mk ((by rw [hg]; exact (below_size hb_) : w.heap.size ≤ gb348)); replace HB := Aside0.mk (below_step hb_ hb); clear hb hbox hg) | ((with_reducible refine gate_dst (N := 3) rfl ?_); refine box_event ?hg (N := 3) ?hd (cs := #[.int .i64 a1_0, .slice A1_1 l1_1.length c1_1]) (t := 29) ?hr ?_; (case hd => rfl); (case hg => rfl); (case hr => first | (go_simp; done) | (go_simp; rfl)); intro gb349 hg w12 hbox hb; have BK349 := Aside0.mk (hbox); have GW349 := Aside0.mk ((by rw [hg]; exact (below_size hbs_) : w.heap.size ≤ gb349)); have GE349 := Aside0.mk ((by rw [hg]; exact (below_size hbs_) : w.heap.size ≤ gb349)); replace HB := Aside0.mk (below_step hbs_ hb); have NB348_349 := Aside0.mk ((by rw [hg]; exact Nat.ne_of_lt (blk_lt (g := gb348) (o := .cells #[.int .i64 a0_0, .slice A0_1 l0_1.length c0_1] 29 (0, 0)) (blk_below BK348.out bgo_)) : gb348 ≠ gb349)); have NB349_348 := Aside0.mk ((by rw [hg]; exact Nat.ne_of_gt (blk_lt (g := gb348) (o := .cells #[.int .i64 a0_0, .slice A0_1 l0_1.length c0_1] 29 (0, 0)) (blk_below BK348.out bgo_)) : gb349 ≠ gb348)); replace BK348 := Aside0.mk (blk_below (g := gb348) (o := .cells #[.int .i64 a0_0, .slice A0_1 l0_1.length c0_1] 29 (0, 0)) (blk_below BK348.out bgo_) hb); clear hb hbox hg; have hnb13 := NB348_349.out; have hnc13 := NB349_348.out; have hcz14_0 : w12.cell? ⟨gb348, 0, none⟩ = some (.int .i64 a0_0) := (blk_cell BK348.out 0).trans rfl; have hcz14_1 : w12.cell? ⟨gb348, 1, none⟩ = some (.slice A0_1 l0_1.length c0_1) := (blk_cell BK348.out 1).trans rfl; have hfz14_0 := blk_frozen BK348.out 0; have hfz14_1 := blk_frozen BK348.out 1; have hcz15_0 : w12.cell? ⟨gb349, 0, none⟩ = some (.int .i64 a1_0) := (blk_cell BK349.out 0).trans rfl; have hcz15_1 : w12.cell? ⟨gb349, 1, none⟩ = some (.slice A1_1 l1_1.length c1_1) := (blk_cell BK349.out 1).trans rfl; have hfz15_0 := blk_frozen BK349.out 0; have hfz15_1 := blk_frozen BK349.out 1) | ((with_reducible refine gate_callee (f := 26) rfl ?_); refine goesL_ (some 14) rfl rfl Try.func26 (by kernel_rfl) rfl #[.slice A0_1 l0_1.length c0_1, .slice A1_1 l1_1.length c1_1] rfl arg_ ?_; (with_reducible refine (laws_eqInt64SS.calls k _ _ l0_1 _ _ l1_1 false _ ?side1 ?side2 ?side3 ?side4 A4.out).mono ?_); (case side1 => exact Kd.C_below (Kd.C_below HR0_1.out HB.out) bgo_); (case side2 => exact HC0_1.out); (case side3 => exact Kd.C_below (Kd.C_below HR1_1.out HB.out) bgo_); (case side4 => exact HC1_1.out); rintro e w' ⟨rfl, ⟨nd, rfl⟩⟩; refine ⟨_, rfl, ?_⟩))
      go_ret
      exact ⟨er_, hbs_⟩
  · rw [if_neg c3] at H
    have c3b0 : (a0_0 == a1_0) = false := beq_eq_false_iff_ne.mpr c3
    have c3b1 : (a0_0 != a1_0) = true := bne_iff_ne.mpr c3
    obtain rfl := Option.some.inj H
    go_enter Try.func15, Try.ntmps15
    go_wp2_with (first | ((with_reducible refine gate_dst (N := 2) rfl ?_); refine box_event ?hg (N := 2) ?hd (cs := #[.int .i64 a0_0, .slice A0_1 l0_1.length c0_1]) (t := 29) ?hr ?_; (case hd => rfl); (case hg => rfl); (case hr => first | (go_simp; done) | (go_simp; rfl)); intro gb348 hg w16 hbox hb; have BK348 := Aside0.mk (hbox); have GW348 := Aside0.mk ((by rw [hg]; exact (below_size hb_) : w.heap.size ≤ gb348)); have GE348 := Aside0.mk ((by rw [hg]; exact (below_size hb_) : w.heap.size ≤ gb348)); replace HB := Aside0.mk (below_step hb_ hb); clear hb hbox hg) | ((with_reducible refine gate_dst (N := 3) rfl ?_); refine box_event ?hg (N := 3) ?hd (cs := #[.int .i64 a1_0, .slice A1_1 l1_1.length c1_1]) (t := 29) ?hr ?_; (case hd => rfl); (case hg => rfl); (case hr => first | (go_simp; done) | (go_simp; rfl)); intro gb349 hg w17 hbox hb; have BK349 := Aside0.mk (hbox); have GW349 := Aside0.mk ((by rw [hg]; exact (below_size hbs_) : w.heap.size ≤ gb349)); have GE349 := Aside0.mk ((by rw [hg]; exact (below_size hbs_) : w.heap.size ≤ gb349)); replace HB := Aside0.mk (below_step hbs_ hb); have NB348_349 := Aside0.mk ((by rw [hg]; exact Nat.ne_of_lt (blk_lt (g := gb348) (o := .cells #[.int .i64 a0_0, .slice A0_1 l0_1.length c0_1] 29 (0, 0)) (blk_below BK348.out bgo_)) : gb348 ≠ gb349)); have NB349_348 := Aside0.mk ((by rw [hg]; exact Nat.ne_of_gt (blk_lt (g := gb348) (o := .cells #[.int .i64 a0_0, .slice A0_1 l0_1.length c0_1] 29 (0, 0)) (blk_below BK348.out bgo_)) : gb349 ≠ gb348)); replace BK348 := Aside0.mk (blk_below (g := gb348) (o := .cells #[.int .i64 a0_0, .slice A0_1 l0_1.length c0_1] 29 (0, 0)) (blk_below BK348.out bgo_) hb); clear hb hbox hg; have hnb18 := NB348_349.out; have hnc18 := NB349_348.out; have hcz19_0 : w17.cell? ⟨gb348, 0, none⟩ = some (.int .i64 a0_0) := (blk_cell BK348.out 0).trans rfl; have hcz19_1 : w17.cell? ⟨gb348, 1, none⟩ = some (.slice A0_1 l0_1.length c0_1) := (blk_cell BK348.out 1).trans rfl; have hfz19_0 := blk_frozen BK348.out 0; have hfz19_1 := blk_frozen BK348.out 1; have hcz20_0 : w17.cell? ⟨gb349, 0, none⟩ = some (.int .i64 a1_0) := (blk_cell BK349.out 0).trans rfl; have hcz20_1 : w17.cell? ⟨gb349, 1, none⟩ = some (.slice A1_1 l1_1.length c1_1) := (blk_cell BK349.out 1).trans rfl; have hfz20_0 := blk_frozen BK349.out 0; have hfz20_1 := blk_frozen BK349.out 1))
    go_ret
    exact ⟨er_, hbs_⟩

/-! ### laws_markInt64S: function 17 -/
def laws_markInt64S.l0 : Nat → List Int → Int → Int → Option (Int × List Int)
  | 0, _, _, _ => none
  | k + 1, x0, x1, x5 => if x5 < (x0.length : Int) then (if 0 ≤ x5 then (laws_markInt64S.l0 k (x0.set (x5 : Int).toNat x1) (wrap64 (x1 + 1)) (wrap64 (x5 + 1))) else (none)) else (some (x1, x0))
def laws_markInt64S.f (k : Nat) (l0 : List Int) (a1 : Int) : Option (Int × List Int) := laws_markInt64S.l0 k l0 a1 0
set_option maxHeartbeats 8000000 in
set_option maxRecDepth 100000 in
theorem laws_markInt64S.calls (k : Nat) (P0_ : Nat → Prop) (u9000_ : Value) (l0 : List Int) (a1 : Int) (r1 : Int) (r2 : List Int) (w0 w : World) (hB : Below w0.heap.size w0 w) (ho0 : Kd.R (Kd.int .i64) 2 w w0.heap.size P0_ u9000_ l0) (h : laws_markInt64S.f k l0 a1 = some (r1, r2)) :
    Calls Try.prog 17 #[u9000_, .int .i64 a1] w fun e w' => e = .returned (.int .i64 r1) ∧ Kd.R (Kd.int .i64) 2 w' w0.heap.size (fun k_ => (P0_ k_ ∨ w.heap.size ≤ k_)) u9000_ r2 ∧ Below w0.heap.size w0 w' ∧ Kept w w' (fun k_ => P0_ k_) := by
  have HO0 := Aside0.mk (show Kd.R (Kd.int .i64) 2 w w0.heap.size (fun k_ => (P0_ k_ ∨ w.heap.size ≤ k_)) u9000_ l0 from Kd.R_mono ho0 (fun k_ hk => (.inl hk)))
  have HK := Aside0.mk (Kept.refl w (fun k_ => P0_ k_))
  have HW0 := Aside0.mk hB.size
  have HB := Aside0.mk hB
  clear hB
  have H : (laws_markInt64S.l0 k l0 a1 0) = some (r1, r2) := h
  clear h
  have H' := Aside0.mk H
  clear H
  go_enter Try.func17, Try.ntmps17
  go_wp2
  go_loopg [1, 5] k (fun kq v1 v5 w' => ∃ (x0_1 : List Int) (x1_1 : Int) (x5_1 : Int), v1 = .int .i64 x1_1 ∧ v5 = .int .i64 x5_1 ∧ Aside0 (laws_markInt64S.l0 kq x0_1 x1_1 x5_1 = some (r1, r2)) ∧ Aside0 (kq ≤ k) ∧ Aside0 (Kd.R (Kd.int .i64) 2 w' w0.heap.size (fun k_ => (P0_ k_ ∨ w.heap.size ≤ k_)) u9000_ x0_1) ∧ Aside0 (Kept w w' (fun k_ => P0_ k_)) ∧ Aside0 (Below w0.heap.size w0 w'))
  case atStart => exact ⟨(l0), (a1), (0), es_, es_, H', ⟨Nat.le_refl _⟩, ⟨Kd.R_below HO0.out bgo_⟩, ⟨by repeat (first | (with_reducible first | exact HK.out | apply Kept.alloc | apply Kept.drewN | apply Kept.drew) | exact HK.out)⟩, ⟨hb_⟩⟩
  case round =>
    clear H'
    obtain ⟨x0_1, x1_1, x5_1, rfl, rfl, HA, HK1, HO_0, HK, HB⟩ := hrel
    cases gk with
    | zero => exact absurd HA.out (by simp [laws_markInt64S.l0])
    | succ k1 =>
      have H := HA.out
      clear HA
      simp only [laws_markInt64S.l0] at H
      by_cases c3 : x5_1 < (x0_1.length : Int)
      · rw [if_pos c3] at H
        have c3b0 := decide_eq_true c3
        clear c3
        obtain ⟨c4, H⟩ := itn_ H
        have c4b0 := decide_eq_true c4
        clear c4
        obtain ⟨y351, Ny351, H⟩ : ∃ y351 : List Int, Aside0 (y351 = (x0_1.set (x5_1 : Int).toNat x1_1)) ∧ (laws_markInt64S.l0 k1 y351 (wrap64 (x1_1 + 1)) (wrap64 (x5_1 + 1))) = some (r1, r2) := ⟨_, ⟨rfl⟩, H⟩
        have H' := Aside0.mk H
        clear H
        obtain ⟨Ao6, co6, eo6⟩ := Kd.R_slice HO_0.out
        subst eo6
        have p5 : 0 ≤ (x5_1 : Int) := od_
        have q5 : (x5_1 : Int) < ((x0_1.length : Int) : Int) := od_
        obtain ⟨go5, co5, eo5, gb5, gl5, cl5, HG5⟩ := Kd.R_form HO_0.out (by omega)
        (first | cases eo5 | (injection eo5 with ea_ en_ ec_; (first | subst ea_ | (injection ea_ with ea_; subst ea_)); subst ec_; clear en_))
        have GB5 := Aside0.mk gb5
        have GG5 := Aside0.mk HG5
        clear gb5 gl5 HG5
        have HMgo5 := Aside0.mk (show (P0_ go5 ∨ w.heap.size ≤ go5) from (HO_0.out.1 _ rfl))
        obtain ⟨hx5_0, hf5_0⟩ := Kd.R_celln 0 HO_0.out (x5_1 : Int) p5 q5
        replace p5 := eq_true p5
        replace q5 := eq_true q5
        have HP7 := Kd.R_putg HO_0.out (x5_1 : Int) x1_1
        go_wp2_with (first | ((with_reducible refine gate_store (t := 2) (p := 15) rfl ?_); refine store_event (t := 2) (p := 15) (v := ?vo_w8) (w1 := (wr.setCell ⟨go5, (x5_1 : Int).toNat, none⟩ (.int .i64 x1_1))) ?hg ?ho ?hn ?hr ?_; (case ho => rfl); (case hg => rfl); (case hn => rfl); (case hr => first | (go_simp; done) | (go_simp; rfl)); intro w8 hw; have hg : wr.grownBy w8 (some go5) := (by rw [hw]; exact HP7.2); have hp_ : Kd.R (Kd.int .i64) 2 w8 w0.heap.size (fun k_ => (P0_ k_ ∨ w.heap.size ≤ k_)) (.slice (some ⟨go5, 0, none⟩) x0_1.length co6) y351 := (by rw [hw, Ny351.out]; exact HP7.1); clear HP7; replace HB := Aside0.mk ((by rw [hw]; exact below_set (HB.out) GB5.out : Below w0.heap.size w0 w8)); replace HK := Aside0.mk (Kept.of_grown (S := (fun k_ => P0_ k_)) hg (by repeat (first | (with_reducible first | exact HK.out | apply Kept.alloc | apply Kept.drewN | apply Kept.drew) | exact HK.out)) (fun k_ e_ => (HO_0.out.1 k_ e_))); replace HO_0 := Aside0.mk (hp_); clear hg hw hp_))
        first | go_roundg k1 | (refine Handed.intro k1 ?measure ?_; rotate_left; go_step; (try simp only [add_plain]); (repeat apply Exists.intro); refine ⟨?rel, rfl⟩)
        case measure => have := HK1.out; omega
        case rel => exact ⟨(y351), (wrap64 (x1_1 + 1)), (wrap64 (x5_1 + 1)), es_, es_, H', ⟨by have := HK1.out; omega⟩, ⟨Kd.R_below HO_0.out bgo_⟩, ⟨by repeat (first | (with_reducible first | exact HK.out | apply Kept.alloc | apply Kept.drewN | apply Kept.drew) | exact HK.out)⟩, ⟨hb_⟩⟩
      · rw [if_neg c3] at H
        have c3b0 := decide_eq_false c3
        clear c3
        simp only [Option.some.injEq, Prod.mk.injEq] at H
        obtain ⟨rfl, rfl⟩ := H
        obtain ⟨Ao9, co9, eo9⟩ := Kd.R_slice HO_0.out
        subst eo9
        go_wp2
        go_ret
        exact ⟨er_, (Kd.R_below HO_0.out bgo_), hb_, by repeat (first | (with_reducible first | exact HK.out | apply Kept.alloc | apply Kept.drewN | apply Kept.drew) | exact HK.out)⟩

/-! ### laws_markInt64SS: function 27 -/
def laws_markInt64SS.l0 : Nat → List (List Int) → Int → Int → Option (Int × List (List Int))
  | 0, _, _, _ => none
  | k + 1, x0, x1, x3 => if x3 < (x0.length : Int) then (if 0 ≤ x3 then ((laws_markInt64S.f k (rd_L1 x0 x3) x1).bind fun b => (laws_markInt64SS.l0 k (x0.set (x3 : Int).toNat b.2) b.1 (wrap64 (x3 + 1)))) else (none)) else (some (x1, x0))
def laws_markInt64SS.f (k : Nat) (l0 : List (List Int)) (a1 : Int) : Option (Int × List (List Int)) := laws_markInt64SS.l0 k l0 a1 0
set_option maxHeartbeats 8000000 in
set_option maxRecDepth 100000 in
theorem laws_markInt64SS.calls (k : Nat) (P0_ : Nat → Prop) (u9000_ : Value) (l0 : List (List Int)) (a1 : Int) (r1 : Int) (r2 : List (List Int)) (w0 w : World) (hB : Below w0.heap.size w0 w) (ho0 : Kd.S (Kd.slice 2 (Kd.int .i64)) 26 w w0.heap.size P0_ u9000_ l0) (h : laws_markInt64SS.f k l0 a1 = some (r1, r2)) :
    Calls Try.prog 27 #[u9000_, .int .i64 a1] w fun e w' => e = .returned (.int .i64 r1) ∧ Kd.S (Kd.slice 2 (Kd.int .i64)) 26 w' w0.heap.size P0_ u9000_ r2 ∧ Below w0.heap.size w0 w' ∧ Kept w w' (fun k_ => P0_ k_) := by
  obtain ⟨Ao, co, eo⟩ := Kd.S_slice ho0
  subst eo
  have HO := Aside0.mk ho0
  have HB := Aside0.mk hB
  have HK := Aside0.mk (Kept.refl w P0_)
  have H' := Aside0.mk (show laws_markInt64SS.l0 k l0 a1 0 = some (r1, r2) from h)
  clear ho0 hB h
  go_enter Try.func27, Try.ntmps27
  go_wp2
  go_loopg [1, 5] k (fun kq v1 v5 w' => ∃ (x0 : List (List Int)) (x1 : Int) (x3 : Int), v1 = .int .i64 x1 ∧ v5 = .int .i64 x3 ∧ Aside0 (laws_markInt64SS.l0 kq x0 x1 x3 = some (r1, r2)) ∧ Aside0 (kq ≤ k) ∧ Aside0 (Kd.S (Kd.slice 2 (Kd.int .i64)) 26 w' w0.heap.size P0_ (.slice Ao l0.length co) x0) ∧ Aside0 (Kept w w' P0_) ∧ Aside0 (Below w0.heap.size w0 w'))
  case atStart => exact ⟨l0, a1, 0, rfl, rfl, H', ⟨Nat.le_refl _⟩, HO, HK, HB⟩
  case round =>
    clear H' HO HK HB
    obtain ⟨x0, x1, x3, rfl, rfl, HA, HK1, HO, HK, HB⟩ := hrel
    cases gk with
    | zero => exact absurd HA.out (by simp [laws_markInt64SS.l0])
    | succ k1 =>
      have hlen : l0.length = x0.length := (Kd.S_reads' HO.out).1
      have H := HA.out
      clear HA
      simp only [laws_markInt64SS.l0] at H
      by_cases c1 : x3 < (x0.length : Int)
      · rw [if_pos c1] at H
        have c1b0 : decide (x3 < (l0.length : Int)) = true := decide_eq_true (by omega)
        obtain ⟨c2, H⟩ := itn_ H
        have c2b0 := decide_eq_true c2
        replace H := Option.bind_eq_some_iff.mp H
        obtain ⟨⟨t1, t2⟩, A0, H⟩ := H
        have H' := Aside0.mk H
        clear H
        obtain ⟨le, hle⟩ : ∃ le_ : List Int, List.getD x0 x3.toNat [] = le_ := ⟨_, rfl⟩
        have A := Aside0.mk (show laws_markInt64S.f k1 le x1 = some (t1, t2) from by rw [← hle]; exact A0)
        clear A0
        obtain ⟨g, cap, eg, _, _, _⟩ := Kd.S_form HO.out (by omega)
        have eg' : Ao = some ⟨g, 0, none⟩ := by injection eg
        subst eg'
        clear eg
        obtain ⟨oki, ce, hcl, hM, hcc, hfr, hoki, hH⟩ := Kd.S_elem HO.out [] x3 c2 (by omega)
        rw [hle] at hM
        obtain ⟨ve, rfl, hR⟩ := hM
        have hx := hcc 0 _ rfl
        simp only [show (Kd.slice 2 (Kd.int .i64)).sz = 1 from rfl, Nat.mul_one, Nat.add_zero] at hx
        obtain ⟨Ae, cE, ee⟩ := Kd.R_slice hR
        subst ee
        have HR := Aside0.mk hR
        have HH := Aside0.mk hH
        have HI := Aside0.mk hoki
        clear hR hH hoki hcc hfr hcl
        have p2 : (0 ≤ x3) = True := eq_true c2
        have q2 : (x3 < (l0.length : Int)) = True := eq_true (by omega)
        clear hlen c1 c2 hle
        go_wp2_with (first | ((with_reducible refine gate_callee (f := 17) rfl ?_); refine goesL_ (some 17) rfl rfl Try.func17 (by kernel_rfl) rfl #[.slice Ae le.length cE, .int .i64 x1] rfl arg_ ?_; (with_reducible refine (laws_markInt64S.calls k1 oki (.slice Ae le.length cE) le x1 t1 t2 w0 _ HB.out HR.out A.out).mono ?_); rintro e w5 ⟨rfl, hy, hb, hkp⟩; refine ⟨_, rfl, ?_⟩; have n0_ := Aside0.mk (Kd.H_back (Kd.H_step HH.out (fun k_ hk hn hl => hkp.2 k_ hl hn)) (x' := t2) (okp := oki) ⟨.slice Ae le.length cE, rfl, Kd.R_reok rfl hy (fun k_ e_ => HR.out.1 k_ e_)⟩ (fun _ h_ => h_)); have n1_ := Aside0.mk (Kept.then_ HK.out hkp (fun k_ hk => .inl (HI.out k_ hk).1)); have n2_ := Aside0.mk hb; clear HO HK HB HR HH HI hy hb hkp; have HO := n0_; have HK := n1_; have HB := n2_; clear n0_ n1_ n2_))
        go_roundg k1
        case measure => have := HK1.out; omega
        case rel => exact ⟨x0.set x3.toNat t2, t1, wrap64 (x3 + 1), rfl, (by first | rfl | (simp; done)), H', ⟨by have := HK1.out; omega⟩, HO, HK, HB⟩
      · rw [if_neg c1] at H
        have c1b0 : decide (x3 < (l0.length : Int)) = false := decide_eq_false (by omega)
        simp only [Option.some.injEq, Prod.mk.injEq] at H
        obtain ⟨rfl, rfl⟩ := H
        clear hlen c1
        go_wp2
        go_ret
        exact ⟨rfl, HO.out, HB.out, HK.out⟩

/-! ### laws_markGraph: function 16 -/
def laws_markGraph.f (k : Nat) (a0_0 : Int) (l0_1 : List (List Int)) (a1 : Int) : Option (Int × List (List Int)) := laws_markInt64SS.f k l0_1 a1
set_option maxHeartbeats 8000000 in
set_option maxRecDepth 100000 in
theorem laws_markGraph.calls (k : Nat) (a0_0 : Int) (P0_1_ : Nat → Prop) (u9000_ : Value) (l0_1 : List (List Int)) (a1 : Int) (r1 : Int) (r2 : List (List Int)) (w0 w : World) (hB : Below w0.heap.size w0 w) (ho0_1 : Kd.S (Kd.slice 2 (Kd.int .i64)) 26 w w0.heap.size P0_1_ u9000_ l0_1) (h : laws_markGraph.f k a0_0 l0_1 a1 = some (r1, r2)) :
    Calls Try.prog 16 #[.agg #[.int .i64 a0_0, u9000_], .int .i64 a1] w fun e w' => e = .returned (.int .i64 r1) ∧ Kd.S (Kd.slice 2 (Kd.int .i64)) 26 w' w0.heap.size P0_1_ u9000_ r2 ∧ Below w0.heap.size w0 w' ∧ Kept w w' (fun k_ => P0_1_ k_) := by
  have hu29 := Try.underlying29
  obtain ⟨Ao, co, eo⟩ := Kd.S_slice ho0_1
  subst eo
  have HO := Aside0.mk ho0_1
  have HB := Aside0.mk hB
  have A := Aside0.mk (show laws_markInt64SS.f k l0_1 a1 = some (r1, r2) from h)
  clear ho0_1 hB h
  go_enter Try.func16, Try.ntmps16
  go_upto_region 1 with (first | ((with_reducible refine gate_dst (N := 2) rfl ?_); refine box_event ?hg (N := 2) ?hd (cs := #[.int .i64 a0_0, .slice Ao l0_1.length co]) (t := 29) ?hr ?_; (case hd => rfl); (case hg => rfl); (case hr => first | (go_simp; done) | (go_simp; rfl)); intro gb hg w3 hbox hb; have n0_ := Aside0.mk (below_step HB.out hb); have n1_ := Aside0.mk (Kd.S_below HO.out hb); have n2_ := Aside0.mk hbox; have n3_ := Aside0.mk hb; clear HB HO; have HB := n0_; have HO := n1_; have BK := n2_; have HN := n3_; clear n0_ n1_ n2_ n3_ hb hbox hg))
  (try simp only [Act.put, List.setIfInBounds_toArray, List.set_cons_zero, List.set_cons_succ])
  have hc0 : w3.cell? ⟨gb, 0, none⟩ = some (.int .i64 a0_0) := (blk_cell BK.out 0).trans rfl
  have hc1 : w3.cell? ⟨gb, 1, none⟩ = some (.slice Ao l0_1.length co) := (blk_cell BK.out 1).trans rfl
  have hf0 := blk_frozen BK.out 0
  have hf1 := blk_frozen BK.out 1
  go_wp2_with (first | ((with_reducible refine gate_callee (f := 27) rfl ?_); refine goesL_ (some 8) rfl rfl Try.func27 (by kernel_rfl) rfl #[.slice Ao l0_1.length co, .int .i64 a1] rfl (by (try simp only [List.map_toArray, List.map_cons, List.map_nil]); first | done | rfl) ?_; (with_reducible refine (laws_markInt64SS.calls k P0_1_ (.slice Ao l0_1.length co) l0_1 a1 r1 r2 w0 _ HB.out HO.out A.out).mono ?_); rintro e w5 ⟨rfl, hy, hb, hkp⟩; refine ⟨_, rfl, ?_⟩; have n0_ := Aside0.mk hy; have n1_ := Aside0.mk (Kept.then_ (Kept.of_below HN.out (fun k_ => P0_1_ k_)) hkp (fun k_ hk => .inl hk)); have n2_ := Aside0.mk hb; clear HO HB hy hb hkp; have HO := n0_; have HK := n1_; have HB := n2_; clear n0_ n1_ n2_))
  go_ret
  exact ⟨rfl, HO.out, HB.out, HK.out⟩

/-! ### laws_heldInt64S: function 18 -/
def laws_heldInt64S.l0 : Nat → List Int → Int → Int → Option (Int)
  | 0, _, _, _ => none
  | k + 1, x0, x1, x5 => if x5 < (x0.length : Int) then (if 0 ≤ x5 then (if (rd x0 x5) = x1 then (laws_heldInt64S.l0 k x0 (wrap64 (x1 + 1)) (wrap64 (x5 + 1))) else (some (-1))) else (none)) else (some x1)
def laws_heldInt64S.f (k : Nat) (l0 : List Int) (a1 : Int) : Option (Int) := laws_heldInt64S.l0 k l0 a1 0
set_option maxHeartbeats 8000000 in
set_option maxRecDepth 100000 in
theorem laws_heldInt64S.calls (k : Nat) (A0 : Option Addr) (c0 : Nat) (l0 : List Int) (a1 : Int) (r : Int) (w : World) (hr0 : Kd.C (Kd.int .i64) w A0 l0.length l0) (hc0 : l0.length ≤ c0) (h : laws_heldInt64S.f k l0 a1 = some r) :
    Calls Try.prog 18 #[.slice A0 l0.length c0, .int .i64 a1] w fun e w' => e = .returned (.int .i64 r) ∧ Drawn0 w w' := by
  have HR0 := Aside0.mk hr0
  have HC0 := Aside0.mk hc0
  clear hr0 hc0
  have H : (laws_heldInt64S.l0 k l0 a1 0) = some r := h
  clear h
  have H' := Aside0.mk H
  clear H
  go_enter Try.func18, Try.ntmps18
  go_wp2
  go_loopg [1, 5] k (fun kq v1 v5 w' => ∃ (x1_1 : Int) (x5_1 : Int), v1 = .int .i64 x1_1 ∧ v5 = .int .i64 x5_1 ∧ Aside0 (laws_heldInt64S.l0 kq l0 x1_1 x5_1 = some r) ∧ Aside0 (kq ≤ k) ∧ Drawn0 w w')
  case atStart => exact ⟨(a1), (0), es_, es_, H', ⟨Nat.le_refl _⟩, by repeat (first | exact Drawn0.refl _ | apply Drawn0.step)⟩
  case round =>
    clear H'
    obtain ⟨x1_1, x5_1, rfl, rfl, HA, HK1, ⟨m1, rfl⟩⟩ := hrel
    cases gk with
    | zero => exact absurd HA.out (by simp [laws_heldInt64S.l0])
    | succ k1 =>
      have H := HA.out
      clear HA
      simp only [laws_heldInt64S.l0] at H
      by_cases c3 : x5_1 < (l0.length : Int)
      · rw [if_pos c3] at H
        have c3b0 := decide_eq_true c3
        clear c3
        obtain ⟨c4, H⟩ := itn_ H
        have c4b0 := decide_eq_true c4
        clear c4
        by_cases c5 : (rd l0 x5_1) = x1_1
        · rw [if_pos c5] at H
          have c5b0 : ((rd l0 x5_1) == x1_1) = true := beq_iff_eq.mpr c5
          have c5b1 : ((rd l0 x5_1) != x1_1) = false := bne_eq_false_iff_eq.mpr c5
          clear c5
          have H' := Aside0.mk H
          clear H
          have p352 : 0 ≤ (x5_1 : Int) := od_
          have q352 : x5_1 < (l0.length : Int) := od_
          obtain ⟨ad352, e352, hx352_0⟩ := Kd.at_int HR0.out x5_1 p352 q352
          cases e352
          replace p352 := eq_true p352
          replace q352 := eq_true q352
          go_wp2
          go_roundg k1
          case measure => have := HK1.out; omega
          case rel => exact ⟨(wrap64 (x1_1 + 1)), (wrap64 (x5_1 + 1)), es_, es_, H', ⟨by have := HK1.out; omega⟩, by repeat (first | exact Drawn0.refl _ | apply Drawn0.step)⟩
        · rw [if_neg c5] at H
          have c5b0 : ((rd l0 x5_1) == x1_1) = false := beq_eq_false_iff_ne.mpr c5
          have c5b1 : ((rd l0 x5_1) != x1_1) = true := bne_iff_ne.mpr c5
          obtain rfl := Option.some.inj H
          have p352 : 0 ≤ (x5_1 : Int) := od_
          have q352 : x5_1 < (l0.length : Int) := od_
          obtain ⟨ad352, e352, hx352_0⟩ := Kd.at_int HR0.out x5_1 p352 q352
          cases e352
          replace p352 := eq_true p352
          replace q352 := eq_true q352
          go_wp2
          go_ret
          exact ⟨es_, by repeat (first | exact Drawn0.refl _ | apply Drawn0.step)⟩
      · rw [if_neg c3] at H
        have c3b0 := decide_eq_false c3
        clear c3
        obtain rfl := Option.some.inj H
        go_wp2
        go_ret
        exact ⟨es_, by repeat (first | exact Drawn0.refl _ | apply Drawn0.step)⟩

end Go.Proofs.Ytipigagbgpoecaa.G
