/- The printed functions that this law reaches, and their contracts: part 2. -/
-- printed by this repo's wip/printer out of the kit's print with its own changes
import Derived.Test.YtkadhadceongiaaC1
namespace Go.Proofs.Ytkadhadceongiaa.G
open Go.RowKit Go.Proofs.YtkadhadceongiaaW.PrintWords Go.Proofs.YtkadhadceongiaaW.PrintLast Go.Proofs.YtkadhadceongiaaW.PrintMore
attribute [local go_sem] max2_int min2_int max_two min_two max_three min_three max_four min_four   -- for this text's walks alone
set_option linter.unusedVariables false
set_option linter.unusedSimpArgs false

/-! ### spec_l04Draw: function 103 -/
def spec_l04Draw.l0 : Nat → Int → List Int → Int → Int → Int → List (List Int) → Int → List (List Int) → Int → List (List Int) → Option (Int × (List (List Int)) × Int × (List (List Int)) × Int × Int)
 | 0, _, _, _, _, _, _, _, _, _, _ => none
 | k + 1, x5, x1000, x1001, x1002, x395000, x395001, x405000, x405001, x405002, x405003 => if x5 < (x395001.length : Int) then ((spec_l04Turn.f k x1000 x1001 x1002 x405002).bind fun bt405 => (if x405003.length < 5864062014805 then (spec_l04Draw.l0 k (wrap64 (x5 + 1)) x1000 bt405.2.1 bt405.2.2 x395000 x395001 x405000 x405001 x405002 (x405003 ++ [bt405.1])) else (none))) else ((spec_l01Next.f x1000 x1001 x1002 40).bind fun bt413 => (if bt413.1 = 0 then ((spec_l01Pick.f x1000 bt413.2.1 bt413.2.2 (([0, 5, wrap64 (x405002 + 1)] : List Int))).bind fun bt419 => (some (x405000, x405001, bt419.1, x405003, bt419.2.1, bt419.2.2))) else (if bt413.1 = 1 then ((spec_l04Turn.f k x1000 bt413.2.1 bt413.2.2 x405002).bind fun bt422 => (if x405003.length < 5864062014805 then (some (x405000, x405001, x405002, (x405003 ++ [bt422.1]), bt422.2.1, bt422.2.2)) else (none))) else (if bt413.1 = 2 then (if (x405003.length : Int) > 0 then (if 0 ≤ x405002 then (if (x405002 : Int).toNat ≤ 35184372088832 then (if 0 < (x405003.length : Int) then (some (x405000, x405001, x405002, (x405003.set (0 : Int).toNat (List.replicate (x405002 : Int).toNat 0)), bt413.2.1, bt413.2.2)) else (none)) else (none)) else (none)) else (some (x405000, x405001, x405002, x405003, bt413.2.1, bt413.2.2))) else (some (x405000, x405001, x405002, x405003, bt413.2.1, bt413.2.2))))))
def spec_l04Draw.f (k : Nat) (s0_0 : List Int) (s0_1 : Int) (s0_2 : Int) : Option (Int × (List (List Int)) × Int × (List (List Int)) × Int × Int) := (spec_l04Small.f k s0_0 s0_1 s0_2).bind fun bt388 => ((spec_l01Pick.f s0_0 bt388.2.2.1 bt388.2.2.2 (([1, 2, 2, 2, 3, 3, 4] : List Int))).bind fun bt398 => (spec_l04Draw.l0 k 0 s0_0 bt398.2.1 bt398.2.2 bt388.1 bt388.2.1 bt388.1 bt388.2.1 bt398.1 (([] : List (List Int)))))
def spec_l04Draw.T2 : Bool × List (List Nat × List Nat) := (true, [([], []), ([], []), ([], []), ([1, 2], [1, 2]), ([], []), ([0, 3, 4], [0, 3, 4]), ([], []), ([6, 5, 3, 0, 1, 2, 3, 4, 5, 6], [5, 6])])
def spec_l04Draw.B2 : List Nat := [0, 0, 0, 6, 0, 31, 0, 127]
theorem spec_l04Draw.tab2 : rtab .any (opsOf Try.f103 2) = spec_l04Draw.T2 := by kernel_rfl
theorem spec_l04Draw.bits2 : waitsOk spec_l04Draw.T2.2 spec_l04Draw.B2 = true := by kernel_rfl
def spec_l04Draw.T6 : Bool × List (List Nat × List Nat) := (true, [([], []), ([0], [0]), ([], []), ([], []), ([3], [3]), ([2, 4], [2, 4]), ([5], [5]), ([1, 6, 5], [1, 6]), ([0, 1, 2, 3, 4, 5, 6, 7], []), ([8, 7, 7, 0, 1, 2, 3, 4, 5, 6, 7], [7, 8])])
def spec_l04Draw.B6 : List Nat := [0, 1, 0, 0, 8, 28, 60, 127, 255, 511]
theorem spec_l04Draw.tab6 : rtab .any (opsOf Try.f103 6) = spec_l04Draw.T6 := by kernel_rfl
theorem spec_l04Draw.bits6 : waitsOk spec_l04Draw.T6.2 spec_l04Draw.B6 = true := by kernel_rfl
def spec_l04Draw.T11 : Bool × List (List Nat × List Nat) := (true, [([], []), ([0], [0]), ([], []), ([], []), ([3], [3]), ([2, 4], [2, 4]), ([5], [5]), ([1, 6, 5], [1, 6]), ([0, 1, 2, 3, 4, 5, 6, 7], []), ([8, 7, 7, 0, 1, 2, 3, 4, 5, 6, 7], [7, 8])])
def spec_l04Draw.B11 : List Nat := [0, 1, 0, 0, 8, 28, 60, 127, 255, 511]
theorem spec_l04Draw.tab11 : rtab .any (opsOf Try.f103 11) = spec_l04Draw.T11 := by kernel_rfl
theorem spec_l04Draw.bits11 : waitsOk spec_l04Draw.T11.2 spec_l04Draw.B11 = true := by kernel_rfl
set_option maxHeartbeats 8000000 in
set_option maxRecDepth 100000 in
theorem spec_l04Draw.calls (k : Nat) (g : Nat) (s0_0 : List Int) (s0_1 : Int) (s0_2 : Int) (r1 : Int) (r2 : List (List Int)) (r3 : Int) (r4 : List (List Int)) (r5 : Int) (r6 : Int) (w0 w : World) (hI : IsS131 w0 w g s0_0 s0_1 s0_2) (hB : Below w0.heap.size w0 w) (h : spec_l04Draw.f k s0_0 s0_1 s0_2 = some (r1, r2, r3, r4, r5, r6)) :
  Calls Try.prog 103 #[.pointer (some ⟨g, 0, none⟩)] w fun e w' => ∃ v1_ v3_ : Value, e = .returned (.agg #[.int .i64 r1, v1_, .int .i64 r3, v3_]) ∧ Kd.V (Kd.slice 2 (Kd.int .i64)) 29 w' w.heap.size (fun k_ => (w.heap.size ≤ k_) ∧ some k_ ≠ (v3_ : Value).ownBlock) v1_ r2 ∧ Kd.N (Kd.slice 2 (Kd.int .i64)) 29 w' w.heap.size (fun k_ => (w.heap.size ≤ k_)) v3_ r4 ∧ IsS131 w0 w' g s0_0 r5 r6 ∧ Below w0.heap.size w0 w' ∧ KeepBut w w' g none := by
 have hu28 := Try.underlying28
 have hu26 := Try.underlying26
 have HI0 := m_ hI
 have HK := m_ (KeepBut.refl w g none)
 have HL := m_ hB.size
 clear hI
 have HW0 := m_ hB.size
 have HB := m_ hB
 clear hB
 have H : ((spec_l04Small.f k s0_0 s0_1 s0_2).bind fun bt388 => ((spec_l01Pick.f s0_0 bt388.2.2.1 bt388.2.2.2 (([1, 2, 2, 2, 3, 3, 4] : List Int))).bind fun bt398 => (spec_l04Draw.l0 k 0 s0_0 bt398.2.1 bt398.2.2 bt388.1 bt388.2.1 bt388.1 bt388.2.1 bt398.1 (([] : List (List Int)))))) = some (r1, r2, r3, r4, r5, r6) := h
 clear h
 obtain ⟨⟨t388, t389, t392, t393⟩, A2, H⟩ := bnd_ H
 dsimp only at H
 obtain ⟨y395, Ny395, H⟩ : ∃ y395 : List Int, Aside0 (y395 = (([1, 2, 2, 2, 3, 3, 4] : List Int))) ∧ ((spec_l01Pick.f s0_0 t392 t393 y395).bind fun bt398 => (spec_l04Draw.l0 k 0 s0_0 bt398.2.1 bt398.2.2 t388 t389 t388 t389 bt398.1 (([] : List (List Int))))) = some (r1, r2, r3, r4, r5, r6) := ⟨_, ⟨rfl⟩, H⟩
 obtain ⟨⟨t398, t399, t400⟩, A3, H⟩ := bnd_ H
 dsimp only at H
 obtain ⟨y401, Ny401, H⟩ : ∃ y401 : List (List Int), Aside0 (y401 = (([] : List (List Int)))) ∧ (spec_l04Draw.l0 k 0 s0_0 t399 t400 t388 t389 t388 t389 t398 y401) = some (r1, r2, r3, r4, r5, r6) := ⟨_, ⟨rfl⟩, H⟩
 have H' := m_ H
 clear H
 go_enter Try.func103, Try.ntmps103
 try go_wp2_with (first | ((with_reducible refine gate_dst (N := 2) rfl ?_); refine bx_ (N := 2) (cs := #[.int .i64 0, .slice none 0 0, .int .i64 0, .slice none 0 0]) (t := 28) ?_; intro gb387 hg w4 hbox hb; replace HB := m_ (below_step IsS131.hb_ hb); have BK387 := m_ (hbox); have GW387 := m_ ((by rw [hg]; exact (keep_size (w := w) (g := g) (row := none) kp_) : w.heap.size ≤ gb387)); have GE387 := m_ (Nat.le_trans HW0.out GW387.out); replace HK := m_ (KeepBut.trans kp_ (KeepBut.of_below hb g none) (.inl rfl)); have NB0_387 := m_ ((by rw [hg]; exact Nat.ne_of_lt (IsS131.lt (show IsS131 w0 _ g s0_0 s0_1 s0_2 from IsS131.go_)) : g ≠ gb387)); have NB387_0 := m_ NB0_387.out.symm; replace HI0 := m_ (IsS131.below IsS131.go_ hb); clear hb hbox hg) | ((with_reducible refine gate_callee (f := 202) rfl ?_); refine gl_ (some 7) Try.func202 #[.pointer (some ⟨g, 0, none⟩)] ?_; (with_reducible refine (spec_l04Small.calls k g s0_0 s0_1 s0_2 t388 t389 t392 t393 w0 _ ?side1 ?side2 A2.out).mono ?_); (case side1 => exact IsS131.gs_); (case side2 => exact IsS131.hs_); rintro e w5 ⟨v390, rfl, ho0, hi, hb, hk⟩; refine ⟨_, rfl, ?_⟩; have HO391 := m_ (Kd.V_lower (Kd.V_mono (ok' := fun k_ => (w.heap.size ≤ k_) ∧ k_ ≠ gb387 ∧ k_ ≠ g) ho0 (fun k_ hk_ => ⟨(Nat.le_trans (keep_size (w := w) (g := g) (row := none) kp_) hk_), (Kd.freshB (g := gb387) (o := .cells #[.int .i64 0, .slice none 0 0, .int .i64 0, .slice none 0 0] 28 (0, 0)) (blk_below BK387.out bgo_) k_ hk_), (IsS131.fresh IsS131.gs_ k_ hk_)⟩)) (keep_size (w := w) (g := g) (row := none) kp_)); replace BK387 := m_ (KeepBut.blk hk (blk_below BK387.out bgo_) NB387_0.out (by simp)); replace HK := m_ (KeepBut.trans kp_ hk (.inl rfl)); replace HB := m_ (hb); replace HI0 := m_ (hi); clear hi hb hk; (try clear ho0)) | ((with_reducible refine gate_dst (N := 3) rfl ?_); refine bx_ (N := 3) (cs := #[.int .i64 0, .slice none 0 0]) (t := 26) ?_; intro gb394 hg w6 hbox hb; replace HO391 := m_ (Kd.V_below (Kd.V_elderB (Kd.V_below HO391.out bgo_) gb394 (Nat.le_of_eq hg.symm)) hb); replace HB := m_ (below_step IsS131.hs_ hb); have BK394 := m_ (hbox); have GW394 := m_ ((by rw [hg]; exact (keep_size (w := w) (g := g) (row := none) kp_) : w.heap.size ≤ gb394)); have GE394 := m_ (Nat.le_trans HW0.out GW394.out); replace HK := m_ (KeepBut.trans kp_ (KeepBut.of_below hb g none) (.inl rfl)); have NB387_394 := m_ ((by rw [hg]; exact Nat.ne_of_lt (blk_lt (blk_below BK387.out bgo_)) : gb387 ≠ gb394)); have NB394_387 := m_ NB387_394.out.symm; replace BK387 := m_ (bb_ BK387.out hb); have NB0_394 := m_ ((by rw [hg]; exact Nat.ne_of_lt (IsS131.lt (show IsS131 w0 _ g s0_0 t392 t393 from IsS131.gs_)) : g ≠ gb394)); have NB394_0 := m_ NB0_394.out.symm; replace HI0 := m_ (IsS131.below IsS131.gs_ hb); clear hb hbox hg; have hnb7 := NB394_387.out; have hnc7 := NB387_394.out; have hnb8 := NB394_0.out; have hnc8 := NB0_394.out; have hcz9_0 := bc0_ BK394.out; have hcz9_1 := bc1_ BK394.out; have hfz9_0 := blk_frozen BK394.out 0; have hfz9_1 := blk_frozen BK394.out 1; obtain ⟨Ao10, co10, eo10⟩ := Kd.V_slice HO391.out; subst eo10))
 have n0_ : Aside0 (Kd.V (Kd.slice 2 (Kd.int .i64)) 29 ((w6.setCell ⟨gb394, 0, none⟩ (.int .i64 t388)).setCell ⟨gb394, 1, none⟩ (.slice Ao10 t389.length co10)) w.heap.size (fun k_ => (w.heap.size ≤ k_) ∧ k_ ≠ gb387 ∧ k_ ≠ g ∧ k_ ≠ gb394) (.slice Ao10 t389.length co10) t389) := ⟨by (with_reducible repeat (first | apply Kd.V_alloc | apply Kd.V_drewN | apply Kd.V_drew)); exact Kd.V_mono (Kd.V_far (p := ⟨gb394, 1, none⟩) (Kd.V_far (p := ⟨gb394, 0, none⟩) (Kd.V_mono HO391.out (fun k_ hk => (⟨hk, hk.2⟩ : _ ∧ k_ ≠ gb394))) (fun _ hk => hk.2) (.int .i64 t388)) (fun _ hk => hk.2) (.slice Ao10 t389.length co10)) (fun _ hk => ⟨hk.1.1.1, ⟨hk.1.1.2.1, ⟨hk.1.1.2.2, hk.1.2⟩⟩⟩)⟩
 have n1_ : Aside0 (((w6.setCell ⟨gb394, 0, none⟩ (.int .i64 t388)).setCell ⟨gb394, 1, none⟩ (.slice Ao10 t389.length co10)).heap[gb387]? = some (.cells #[.int .i64 0, .slice none 0 0, .int .i64 0, .slice none 0 0] 28 (0, 0))) := ⟨bk_⟩
 have n2_ : Aside0 (((w6.setCell ⟨gb394, 0, none⟩ (.int .i64 t388)).setCell ⟨gb394, 1, none⟩ (.slice Ao10 t389.length co10)).heap[gb394]? = some (.cells #[.int .i64 t388, .slice Ao10 t389.length co10] 26 (0, 0))) := ⟨by (with_reducible repeat (first | refine blk_drewN ?_ _ | refine blk_drew ?_ | refine blk_alloc ?_ _)); refine blk_put (cs := #[.int .i64 t388, .slice none 0 0]) ?_ 1 _ rfl; (with_reducible repeat (first | refine blk_drewN ?_ _ | refine blk_drew ?_ | refine blk_alloc ?_ _)); refine blk_put (cs := #[.int .i64 0, .slice none 0 0]) ?_ 0 _ rfl; (with_reducible repeat (first | refine blk_drewN ?_ _ | refine blk_drew ?_ | refine blk_alloc ?_ _)); exact BK394.out⟩
 have n3_ : Aside0 (IsS131 w0 ((w6.setCell ⟨gb394, 0, none⟩ (.int .i64 t388)).setCell ⟨gb394, 1, none⟩ (.slice Ao10 t389.length co10)) g s0_0 t392 t393) := ⟨IsS131.gs_⟩
 have n4_ : Aside0 (KeepBut w ((w6.setCell ⟨gb394, 0, none⟩ (.int .i64 t388)).setCell ⟨gb394, 1, none⟩ (.slice Ao10 t389.length co10)) g none) := ⟨kp_⟩
 have n5_ : Aside0 (Below w0.heap.size w0 ((w6.setCell ⟨gb394, 0, none⟩ (.int .i64 t388)).setCell ⟨gb394, 1, none⟩ (.slice Ao10 t389.length co10))) := ⟨IsS131.hs_⟩
 (try clear HO391)
 (try clear BK387)
 (try clear BK394)
 (try clear HI0)
 (try clear HK)
 (try clear HB)
 generalize ((w6.setCell ⟨gb394, 0, none⟩ (.int .i64 t388)).setCell ⟨gb394, 1, none⟩ (.slice Ao10 t389.length co10)) = w11 at n0_ n1_ n2_ n3_ n4_ n5_ ⊢
 have HO391 := n0_
 have BK387 := n1_
 have BK394 := n2_
 have HI0 := n3_
 have HK := n4_
 have HB := n5_
 clear n0_ n1_ n2_ n3_ n4_ n5_
 replace HO391 := m_ (Kd.V_drew HO391.out)
 replace BK387 := m_ (blk_drew BK387.out)
 replace BK394 := m_ (blk_drew BK394.out)
 replace HI0 := m_ (IsS131.drew HI0.out)
 replace HK := m_ (keep_drew HK.out)
 replace HB := m_ (below_drew1 HB.out)
 refine start_ (n := 8) (S := fun w' => w'.cell? ⟨gb394, 0, none⟩ = some (.int .i64 t388) ∧ w'.cell? ⟨gb394, 1, none⟩ = some (.slice Ao10 t389.length co10)) (ds := []) #[false, false, false, false, false, false, false, false] (by kernel_rfl) rfl rfl ⟨bc0_ BK394.out, bc1_ BK394.out⟩ (fun hHeld => ?_); refine with_tabW spec_l04Draw.tab2 spec_l04Draw.bits2 (fun HT_ HW_ => ?_)
 generalize w11.drew = w12 at HO391 BK387 BK394 HI0 HK HB hHeld ⊢
 refine pk_ 1 8 9 2 ?_
 refine tk_ 0 8 8 3 hHeld ?_
 refine join_ (σ := Value × Value × Nat) 1 #[true, true, true, true, true, true, true, false] (fun s_ => [(10, s_.1), (11, .int .i64 t398), (12, s_.2.1), (4, .pointer (some ⟨s_.2.2, 0, none⟩)), (13, .agg #[.int .i64 t388, .slice Ao10 t389.length co10, .int .i64 t398, s_.2.1])]) (fun s_ w' => (w'.cell? ⟨gb394, 0, none⟩ = some (.int .i64 t388) ∧ w'.cell? ⟨gb394, 1, none⟩ = some (.slice Ao10 t389.length co10)) ∧ (Kd.V (Kd.slice 2 (Kd.int .i64)) 29 w' w.heap.size (fun k_ => (w.heap.size ≤ k_) ∧ some k_ ≠ (s_.1 : Value).ownBlock ∧ some k_ ≠ (s_.2.1 : Value).ownBlock ∧ k_ ≠ g ∧ k_ ≠ gb387 ∧ k_ ≠ gb394 ∧ k_ ≠ s_.2.2) (.slice Ao10 t389.length co10) t389) ∧ (Kd.R (Kd.int .i64) 2 w' w.heap.size (fun k_ => (w.heap.size ≤ k_)) s_.1 y395) ∧ (Kd.N (Kd.slice 2 (Kd.int .i64)) 29 w' w.heap.size (fun k_ => (w.heap.size ≤ k_) ∧ some k_ ≠ (s_.1 : Value).ownBlock ∧ k_ ≠ g ∧ k_ ≠ gb387 ∧ k_ ≠ gb394 ∧ k_ ≠ s_.2.2) s_.2.1 y401) ∧ (w'.heap[gb387]? = some (.cells #[.int .i64 0, .slice none 0 0, .int .i64 0, .slice none 0 0] 28 (0, 0))) ∧ (w'.heap[gb394]? = some (.cells #[.int .i64 t388, .slice Ao10 t389.length co10] 26 (0, 0))) ∧ (w'.heap[s_.2.2]? = some (.cells #[.int .i64 0, .slice none 0 0, .int .i64 0, .slice none 0 0] 28 (0, 0))) ∧ (w.heap.size ≤ s_.2.2) ∧ (w0.heap.size ≤ s_.2.2) ∧ (g ≠ s_.2.2) ∧ (s_.2.2 ≠ g) ∧ (gb387 ≠ s_.2.2) ∧ (s_.2.2 ≠ gb387) ∧ (gb394 ≠ s_.2.2) ∧ (s_.2.2 ≠ gb394) ∧ (IsS131 w0 w' g s0_0 t399 t400) ∧ (KeepBut w w' g none) ∧ (Below w0.heap.size w0 w')) ?_ ?_
 rotate_left
 ·intro hJ2_3_4_6
  refine join_ (σ := Value × Value) 2 #[true, true, true, true, true, true, false, false] (fun s_ => [(10, s_.1), (11, .int .i64 t398), (12, s_.2), (13, .agg #[.int .i64 t388, .slice Ao10 t389.length co10, .int .i64 t398, s_.2])]) (fun s_ w' => (w'.cell? ⟨gb394, 0, none⟩ = some (.int .i64 t388) ∧ w'.cell? ⟨gb394, 1, none⟩ = some (.slice Ao10 t389.length co10)) ∧ (Kd.V (Kd.slice 2 (Kd.int .i64)) 29 w' w.heap.size (fun k_ => (w.heap.size ≤ k_) ∧ some k_ ≠ (s_.1 : Value).ownBlock ∧ some k_ ≠ (s_.2 : Value).ownBlock ∧ k_ ≠ g ∧ k_ ≠ gb387 ∧ k_ ≠ gb394) (.slice Ao10 t389.length co10) t389) ∧ (Kd.R (Kd.int .i64) 2 w' w.heap.size (fun k_ => (w.heap.size ≤ k_)) s_.1 y395) ∧ (Kd.N (Kd.slice 2 (Kd.int .i64)) 29 w' w.heap.size (fun k_ => (w.heap.size ≤ k_) ∧ some k_ ≠ (s_.1 : Value).ownBlock ∧ k_ ≠ g ∧ k_ ≠ gb387 ∧ k_ ≠ gb394) s_.2 y401) ∧ (w'.heap[gb387]? = some (.cells #[.int .i64 0, .slice none 0 0, .int .i64 0, .slice none 0 0] 28 (0, 0))) ∧ (w'.heap[gb394]? = some (.cells #[.int .i64 t388, .slice Ao10 t389.length co10] 26 (0, 0))) ∧ (IsS131 w0 w' g s0_0 t399 t400) ∧ (KeepBut w w' g none) ∧ (Below w0.heap.size w0 w')) ?_ ?_
  rotate_left
  ·intro hJ2_3_4
   refine join_ (σ := Value × Nat) 3 #[true, true, true, true, false, false, true, false] (fun s_ => [(10, s_.1), (11, .int .i64 t398), (4, .pointer (some ⟨s_.2, 0, none⟩))]) (fun s_ w' => (w'.cell? ⟨gb394, 0, none⟩ = some (.int .i64 t388) ∧ w'.cell? ⟨gb394, 1, none⟩ = some (.slice Ao10 t389.length co10)) ∧ (Kd.V (Kd.slice 2 (Kd.int .i64)) 29 w' w.heap.size (fun k_ => (w.heap.size ≤ k_) ∧ some k_ ≠ (s_.1 : Value).ownBlock ∧ k_ ≠ g ∧ k_ ≠ gb387 ∧ k_ ≠ gb394 ∧ k_ ≠ s_.2) (.slice Ao10 t389.length co10) t389) ∧ (Kd.R (Kd.int .i64) 2 w' w.heap.size (fun k_ => (w.heap.size ≤ k_)) s_.1 y395) ∧ (w'.heap[gb387]? = some (.cells #[.int .i64 0, .slice none 0 0, .int .i64 0, .slice none 0 0] 28 (0, 0))) ∧ (w'.heap[gb394]? = some (.cells #[.int .i64 t388, .slice Ao10 t389.length co10] 26 (0, 0))) ∧ (w'.heap[s_.2]? = some (.cells #[.int .i64 0, .slice none 0 0, .int .i64 0, .slice none 0 0] 28 (0, 0))) ∧ (w.heap.size ≤ s_.2) ∧ (w0.heap.size ≤ s_.2) ∧ (g ≠ s_.2) ∧ (s_.2 ≠ g) ∧ (gb387 ≠ s_.2) ∧ (s_.2 ≠ gb387) ∧ (gb394 ≠ s_.2) ∧ (s_.2 ≠ gb394) ∧ (IsS131 w0 w' g s0_0 t399 t400) ∧ (KeepBut w w' g none) ∧ (Below w0.heap.size w0 w')) ?_ ?_
   rotate_left
   ·intro hJ2_3_6
    refine join_ (σ := Value × Value × Nat) 3 #[true, true, true, false, true, false, true, false] (fun s_ => [(10, s_.1), (12, s_.2.1), (4, .pointer (some ⟨s_.2.2, 0, none⟩))]) (fun s_ w' => (w'.cell? ⟨gb394, 0, none⟩ = some (.int .i64 t388) ∧ w'.cell? ⟨gb394, 1, none⟩ = some (.slice Ao10 t389.length co10)) ∧ (Kd.V (Kd.slice 2 (Kd.int .i64)) 29 w' w.heap.size (fun k_ => (w.heap.size ≤ k_) ∧ some k_ ≠ (s_.1 : Value).ownBlock ∧ some k_ ≠ (s_.2.1 : Value).ownBlock ∧ k_ ≠ g ∧ k_ ≠ gb387 ∧ k_ ≠ gb394 ∧ k_ ≠ s_.2.2) (.slice Ao10 t389.length co10) t389) ∧ (Kd.R (Kd.int .i64) 2 w' w.heap.size (fun k_ => (w.heap.size ≤ k_)) s_.1 y395) ∧ (Kd.N (Kd.slice 2 (Kd.int .i64)) 29 w' w.heap.size (fun k_ => (w.heap.size ≤ k_) ∧ some k_ ≠ (s_.1 : Value).ownBlock ∧ k_ ≠ g ∧ k_ ≠ gb387 ∧ k_ ≠ gb394 ∧ k_ ≠ s_.2.2) s_.2.1 y401) ∧ (w'.heap[gb387]? = some (.cells #[.int .i64 0, .slice none 0 0, .int .i64 0, .slice none 0 0] 28 (0, 0))) ∧ (w'.heap[gb394]? = some (.cells #[.int .i64 t388, .slice Ao10 t389.length co10] 26 (0, 0))) ∧ (w'.heap[s_.2.2]? = some (.cells #[.int .i64 0, .slice none 0 0, .int .i64 0, .slice none 0 0] 28 (0, 0))) ∧ (w.heap.size ≤ s_.2.2) ∧ (w0.heap.size ≤ s_.2.2) ∧ (g ≠ s_.2.2) ∧ (s_.2.2 ≠ g) ∧ (gb387 ≠ s_.2.2) ∧ (s_.2.2 ≠ gb387) ∧ (gb394 ≠ s_.2.2) ∧ (s_.2.2 ≠ gb394) ∧ (IsS131 w0 w' g s0_0 t392 t393) ∧ (KeepBut w w' g none) ∧ (Below w0.heap.size w0 w')) ?_ ?_
    rotate_left
    ·intro hJ2_4_6
     refine join_ (σ := Value) 4 #[true, true, true, true, false, false, false, false] (fun s_ => [(10, s_), (11, .int .i64 t398)]) (fun s_ w' => (w'.cell? ⟨gb394, 0, none⟩ = some (.int .i64 t388) ∧ w'.cell? ⟨gb394, 1, none⟩ = some (.slice Ao10 t389.length co10)) ∧ (Kd.V (Kd.slice 2 (Kd.int .i64)) 29 w' w.heap.size (fun k_ => (w.heap.size ≤ k_) ∧ some k_ ≠ (s_ : Value).ownBlock ∧ k_ ≠ g ∧ k_ ≠ gb387 ∧ k_ ≠ gb394) (.slice Ao10 t389.length co10) t389) ∧ (Kd.R (Kd.int .i64) 2 w' w.heap.size (fun k_ => (w.heap.size ≤ k_)) s_ y395) ∧ (w'.heap[gb387]? = some (.cells #[.int .i64 0, .slice none 0 0, .int .i64 0, .slice none 0 0] 28 (0, 0))) ∧ (w'.heap[gb394]? = some (.cells #[.int .i64 t388, .slice Ao10 t389.length co10] 26 (0, 0))) ∧ (IsS131 w0 w' g s0_0 t399 t400) ∧ (KeepBut w w' g none) ∧ (Below w0.heap.size w0 w')) ?_ ?_
     rotate_left
     ·intro hJ2_3
      refine join_ (σ := Value × Value) 4 #[true, true, true, false, true, false, false, false] (fun s_ => [(10, s_.1), (12, s_.2)]) (fun s_ w' => (w'.cell? ⟨gb394, 0, none⟩ = some (.int .i64 t388) ∧ w'.cell? ⟨gb394, 1, none⟩ = some (.slice Ao10 t389.length co10)) ∧ (Kd.V (Kd.slice 2 (Kd.int .i64)) 29 w' w.heap.size (fun k_ => (w.heap.size ≤ k_) ∧ some k_ ≠ (s_.1 : Value).ownBlock ∧ some k_ ≠ (s_.2 : Value).ownBlock ∧ k_ ≠ g ∧ k_ ≠ gb387 ∧ k_ ≠ gb394) (.slice Ao10 t389.length co10) t389) ∧ (Kd.R (Kd.int .i64) 2 w' w.heap.size (fun k_ => (w.heap.size ≤ k_)) s_.1 y395) ∧ (Kd.N (Kd.slice 2 (Kd.int .i64)) 29 w' w.heap.size (fun k_ => (w.heap.size ≤ k_) ∧ some k_ ≠ (s_.1 : Value).ownBlock ∧ k_ ≠ g ∧ k_ ≠ gb387 ∧ k_ ≠ gb394) s_.2 y401) ∧ (w'.heap[gb387]? = some (.cells #[.int .i64 0, .slice none 0 0, .int .i64 0, .slice none 0 0] 28 (0, 0))) ∧ (w'.heap[gb394]? = some (.cells #[.int .i64 t388, .slice Ao10 t389.length co10] 26 (0, 0))) ∧ (IsS131 w0 w' g s0_0 t392 t393) ∧ (KeepBut w w' g none) ∧ (Below w0.heap.size w0 w')) ?_ ?_
      rotate_left
      ·intro hJ2_4
       refine join_ (σ := Value × Nat) 4 #[true, true, true, false, false, false, true, false] (fun s_ => [(10, s_.1), (4, .pointer (some ⟨s_.2, 0, none⟩))]) (fun s_ w' => (w'.cell? ⟨gb394, 0, none⟩ = some (.int .i64 t388) ∧ w'.cell? ⟨gb394, 1, none⟩ = some (.slice Ao10 t389.length co10)) ∧ (Kd.V (Kd.slice 2 (Kd.int .i64)) 29 w' w.heap.size (fun k_ => (w.heap.size ≤ k_) ∧ some k_ ≠ (s_.1 : Value).ownBlock ∧ k_ ≠ g ∧ k_ ≠ gb387 ∧ k_ ≠ gb394 ∧ k_ ≠ s_.2) (.slice Ao10 t389.length co10) t389) ∧ (Kd.R (Kd.int .i64) 2 w' w.heap.size (fun k_ => (w.heap.size ≤ k_)) s_.1 y395) ∧ (w'.heap[gb387]? = some (.cells #[.int .i64 0, .slice none 0 0, .int .i64 0, .slice none 0 0] 28 (0, 0))) ∧ (w'.heap[gb394]? = some (.cells #[.int .i64 t388, .slice Ao10 t389.length co10] 26 (0, 0))) ∧ (w'.heap[s_.2]? = some (.cells #[.int .i64 0, .slice none 0 0, .int .i64 0, .slice none 0 0] 28 (0, 0))) ∧ (w.heap.size ≤ s_.2) ∧ (w0.heap.size ≤ s_.2) ∧ (g ≠ s_.2) ∧ (s_.2 ≠ g) ∧ (gb387 ≠ s_.2) ∧ (s_.2 ≠ gb387) ∧ (gb394 ≠ s_.2) ∧ (s_.2 ≠ gb394) ∧ (IsS131 w0 w' g s0_0 t392 t393) ∧ (KeepBut w w' g none) ∧ (Below w0.heap.size w0 w')) ?_ ?_
       rotate_left
       ·intro hJ2_6
        refine join_ (σ := Value × Nat) 4 #[true, true, false, false, true, false, true, false] (fun s_ => [(12, s_.1), (4, .pointer (some ⟨s_.2, 0, none⟩))]) (fun s_ w' => (w'.cell? ⟨gb394, 0, none⟩ = some (.int .i64 t388) ∧ w'.cell? ⟨gb394, 1, none⟩ = some (.slice Ao10 t389.length co10)) ∧ (Kd.V (Kd.slice 2 (Kd.int .i64)) 29 w' w.heap.size (fun k_ => (w.heap.size ≤ k_) ∧ some k_ ≠ (s_.1 : Value).ownBlock ∧ k_ ≠ g ∧ k_ ≠ gb387 ∧ k_ ≠ gb394 ∧ k_ ≠ s_.2) (.slice Ao10 t389.length co10) t389) ∧ (Kd.N (Kd.slice 2 (Kd.int .i64)) 29 w' w.heap.size (fun k_ => (w.heap.size ≤ k_) ∧ k_ ≠ g ∧ k_ ≠ gb387 ∧ k_ ≠ gb394 ∧ k_ ≠ s_.2) s_.1 y401) ∧ (w'.heap[gb387]? = some (.cells #[.int .i64 0, .slice none 0 0, .int .i64 0, .slice none 0 0] 28 (0, 0))) ∧ (w'.heap[gb394]? = some (.cells #[.int .i64 t388, .slice Ao10 t389.length co10] 26 (0, 0))) ∧ (w'.heap[s_.2]? = some (.cells #[.int .i64 0, .slice none 0 0, .int .i64 0, .slice none 0 0] 28 (0, 0))) ∧ (w.heap.size ≤ s_.2) ∧ (w0.heap.size ≤ s_.2) ∧ (g ≠ s_.2) ∧ (s_.2 ≠ g) ∧ (gb387 ≠ s_.2) ∧ (s_.2 ≠ gb387) ∧ (gb394 ≠ s_.2) ∧ (s_.2 ≠ gb394) ∧ (IsS131 w0 w' g s0_0 t392 t393) ∧ (KeepBut w w' g none) ∧ (Below w0.heap.size w0 w')) ?_ ?_
        rotate_left
        ·intro hJ4_6
         refine join_ (σ := Value) 5 #[true, true, true, false, false, false, false, false] (fun s_ => [(10, s_)]) (fun s_ w' => (w'.cell? ⟨gb394, 0, none⟩ = some (.int .i64 t388) ∧ w'.cell? ⟨gb394, 1, none⟩ = some (.slice Ao10 t389.length co10)) ∧ (Kd.V (Kd.slice 2 (Kd.int .i64)) 29 w' w.heap.size (fun k_ => (w.heap.size ≤ k_) ∧ some k_ ≠ (s_ : Value).ownBlock ∧ k_ ≠ g ∧ k_ ≠ gb387 ∧ k_ ≠ gb394) (.slice Ao10 t389.length co10) t389) ∧ (Kd.R (Kd.int .i64) 2 w' w.heap.size (fun k_ => (w.heap.size ≤ k_)) s_ y395) ∧ (w'.heap[gb387]? = some (.cells #[.int .i64 0, .slice none 0 0, .int .i64 0, .slice none 0 0] 28 (0, 0))) ∧ (w'.heap[gb394]? = some (.cells #[.int .i64 t388, .slice Ao10 t389.length co10] 26 (0, 0))) ∧ (IsS131 w0 w' g s0_0 t392 t393) ∧ (KeepBut w w' g none) ∧ (Below w0.heap.size w0 w')) ?_ ?_
         rotate_left
         ·intro hJ2
          refine join_ (σ := Value) 5 #[true, true, false, false, true, false, false, false] (fun s_ => [(12, s_)]) (fun s_ w' => (w'.cell? ⟨gb394, 0, none⟩ = some (.int .i64 t388) ∧ w'.cell? ⟨gb394, 1, none⟩ = some (.slice Ao10 t389.length co10)) ∧ (Kd.V (Kd.slice 2 (Kd.int .i64)) 29 w' w.heap.size (fun k_ => (w.heap.size ≤ k_) ∧ some k_ ≠ (s_ : Value).ownBlock ∧ k_ ≠ g ∧ k_ ≠ gb387 ∧ k_ ≠ gb394) (.slice Ao10 t389.length co10) t389) ∧ (Kd.N (Kd.slice 2 (Kd.int .i64)) 29 w' w.heap.size (fun k_ => (w.heap.size ≤ k_) ∧ k_ ≠ g ∧ k_ ≠ gb387 ∧ k_ ≠ gb394) s_ y401) ∧ (w'.heap[gb387]? = some (.cells #[.int .i64 0, .slice none 0 0, .int .i64 0, .slice none 0 0] 28 (0, 0))) ∧ (w'.heap[gb394]? = some (.cells #[.int .i64 t388, .slice Ao10 t389.length co10] 26 (0, 0))) ∧ (IsS131 w0 w' g s0_0 t392 t393) ∧ (KeepBut w w' g none) ∧ (Below w0.heap.size w0 w')) ?_ ?_
          rotate_left
          ·intro hJ4
           refine join_ (σ := Nat) 5 #[true, true, false, false, false, false, true, false] (fun s_ => [(4, .pointer (some ⟨s_, 0, none⟩))]) (fun s_ w' => (w'.cell? ⟨gb394, 0, none⟩ = some (.int .i64 t388) ∧ w'.cell? ⟨gb394, 1, none⟩ = some (.slice Ao10 t389.length co10)) ∧ (Kd.V (Kd.slice 2 (Kd.int .i64)) 29 w' w.heap.size (fun k_ => (w.heap.size ≤ k_) ∧ k_ ≠ g ∧ k_ ≠ gb387 ∧ k_ ≠ gb394 ∧ k_ ≠ s_) (.slice Ao10 t389.length co10) t389) ∧ (w'.heap[gb387]? = some (.cells #[.int .i64 0, .slice none 0 0, .int .i64 0, .slice none 0 0] 28 (0, 0))) ∧ (w'.heap[gb394]? = some (.cells #[.int .i64 t388, .slice Ao10 t389.length co10] 26 (0, 0))) ∧ (w'.heap[s_]? = some (.cells #[.int .i64 0, .slice none 0 0, .int .i64 0, .slice none 0 0] 28 (0, 0))) ∧ (w.heap.size ≤ s_) ∧ (w0.heap.size ≤ s_) ∧ (g ≠ s_) ∧ (s_ ≠ g) ∧ (gb387 ≠ s_) ∧ (s_ ≠ gb387) ∧ (gb394 ≠ s_) ∧ (s_ ≠ gb394) ∧ (IsS131 w0 w' g s0_0 t392 t393) ∧ (KeepBut w w' g none) ∧ (Below w0.heap.size w0 w')) ?_ ?_
           rotate_left
           ·intro hJ6
            refine three_ (i := 2) (j := 4) (k := 6) (Ni := some 10) (Nj := some 12) (Nk := some 4) #[true, true, true, false, false, false, false, false] #[true, true, false, false, true, false, false, false] #[true, true, false, false, false, false, true, false] rfl rfl rfl rfl rfl rfl (three_of HT_.out (by kernel_rfl)) (by decide) (by decide) (by decide) (fun K hK => ?_) (fun K hK => ?_) (fun K hK => ?_)
            ·skip
             refine Kd.R_lit_step (Kd.int .i64) _ 2 ?hg (N := 10) ?hd (xs := ([1, 2, 2, 2, 3, 3, 4] : List Int)) (inner := [.int .i64 1, .int .i64 2, .int .i64 2, .int .i64 2, .int .i64 3, .int .i64 3, .int .i64 4]) (ok := fun _ => True) (okp := fun _ => True) ?hr ?hp (fun _ hk => hk) trivial (Below.refl _ _) (Nat.le_refl _) (by simp) ?_; (case hd => rfl); (case hg => rfl); (case hr => first | (go_simp; done) | (go_simp; rfl)); (case hp => exact (Reps.one (show Kd.M (Kd.int .i64) _ _ _ 1 [.int .i64 1] from rfl) (Reps.one (show Kd.M (Kd.int .i64) _ _ _ 2 [.int .i64 2] from rfl) (Reps.one (show Kd.M (Kd.int .i64) _ _ _ 2 [.int .i64 2] from rfl) (Reps.one (show Kd.M (Kd.int .i64) _ _ _ 2 [.int .i64 2] from rfl) (Reps.one (show Kd.M (Kd.int .i64) _ _ _ 3 [.int .i64 3] from rfl) (Reps.one (show Kd.M (Kd.int .i64) _ _ _ 3 [.int .i64 3] from rfl) (Reps.one (show Kd.M (Kd.int .i64) _ _ _ 4 [.int .i64 4] from rfl) (Reps.none _ _)))))))))
             intro v396 w13 ho14 hb hg_ hnew_
             clear hg_ hnew_
             rw [← Ny395.out] at ho14
             replace HO391 := m_ (Kd.V_elder' (Kd.V_below HO391.out bgo_) (Kd.R_base ho14) hb)
             have HO397 := m_ (Kd.R_lower (Kd.R_newM (M := fun k_ => (w.heap.size ≤ k_)) ho14 (keep_size (w := w) (g := g) (row := none) kp_) (fun k_ h_ => h_)) (keep_size (w := w) (g := g) (row := none) kp_))
             replace BK387 := m_ (bb_ BK387.out hb)
             replace BK394 := m_ (bb_ BK394.out hb)
             replace HK := m_ (KeepBut.trans kp_ (KeepBut.of_below hb g none) (.inl rfl))
             replace HB := m_ (below_step IsS131.hs_ hb)
             replace HI0 := m_ (IsS131.below IsS131.gs_ hb)
             clear hb ho14
             refine hK.out _ _ ⟨bc0_ BK394.out, bc1_ BK394.out⟩ (fun hHeld => ?_)
             clear hK K
             refine nm_ ?_
             exact nj_ (hJ2 (v396) _ ⟨hHeld, (Kd.V_below (Kd.V_mono HO391.out (fun _ hk => ⟨hk.1.1, ⟨hk.2, ⟨hk.1.2.2.1, ⟨hk.1.2.1, hk.1.2.2.2⟩⟩⟩⟩)) bgo_), (Kd.R_below (Kd.R_mono HO397.out (fun _ hk => hk.1)) bgo_), (blk_below BK387.out bgo_), (blk_below BK394.out bgo_), IsS131.gs_, kp_, IsS131.hs_⟩)
            ·skip
             refine Kd.N_lit_step (Kd.slice 2 (Kd.int .i64)) _ 29 ?hg (N' := 12) ?hd (xs := ([] : List (List Int))) (inner := []) (ok := (fun k_ => (w.heap.size ≤ k_) ∧ k_ ≠ gb387 ∧ k_ ≠ gb394 ∧ k_ ≠ g)) (okp := (fun k_ => (w.heap.size ≤ k_) ∧ k_ ≠ gb387 ∧ k_ ≠ gb394 ∧ k_ ≠ g)) ?hr ?hp (fun _ hk => hk) ((show ∀ k_, w12.heap.size ≤ k_ → (fun k_ => (w.heap.size ≤ k_) ∧ k_ ≠ gb387 ∧ k_ ≠ gb394 ∧ k_ ≠ g) k_ from fun k_ hk => ⟨(Nat.le_trans (keep_size (w := w) (g := g) (row := none) kp_) hk), Kd.freshB (g := gb387) (o := .cells #[.int .i64 0, .slice none 0 0, .int .i64 0, .slice none 0 0] 28 (0, 0)) (blk_below BK387.out bgo_) k_ hk, Kd.freshB (g := gb394) (o := .cells #[.int .i64 t388, .slice Ao10 t389.length co10] 26 (0, 0)) (blk_below BK394.out bgo_) k_ hk, IsS131.fresh IsS131.gs_ k_ hk⟩) _ (Nat.le_refl _)) (Below.refl _ _) (Nat.le_refl _) (by simp) ?_; (case hd => rfl); (case hg => rfl); (case hr => first | (go_simp; done) | (go_simp; rfl)); (case hp => exact (Reps.none _ _))
             intro v402 w13 ho14 hb hg_ hnew_
             clear hg_ hnew_
             rw [← Ny401.out] at ho14
             replace HO391 := m_ (Kd.V_elder' (Kd.V_below HO391.out bgo_) (Kd.N_base ho14) hb)
             have HO403 := m_ (Kd.N_lower ho14 (keep_size (w := w) (g := g) (row := none) kp_))
             replace BK387 := m_ (bb_ BK387.out hb)
             replace BK394 := m_ (bb_ BK394.out hb)
             replace HK := m_ (KeepBut.trans kp_ (KeepBut.of_below hb g none) (.inl rfl))
             replace HB := m_ (below_step IsS131.hs_ hb)
             replace HI0 := m_ (IsS131.below IsS131.gs_ hb)
             clear hb ho14
             refine hK.out _ _ ⟨bc0_ BK394.out, bc1_ BK394.out⟩ (fun hHeld => ?_)
             clear hK K
             refine nm_ ?_
             exact nj_ (hJ4 (v402) _ ⟨hHeld, (Kd.V_below (Kd.V_mono HO391.out (fun _ hk => ⟨hk.1.1, ⟨hk.2, ⟨hk.1.2.2.1, ⟨hk.1.2.1, hk.1.2.2.2⟩⟩⟩⟩)) bgo_), (Kd.N_below (Kd.N_mono HO403.out (fun _ hk => ⟨hk.1, ⟨hk.2.2.2, ⟨hk.2.1, hk.2.2.1⟩⟩⟩)) bgo_), (blk_below BK387.out bgo_), (blk_below BK394.out bgo_), IsS131.gs_, kp_, IsS131.hs_⟩)
            ·skip
             refine box_step ?hg (N := 4) ?hd (cs := #[.int .i64 0, .slice none 0 0, .int .i64 0, .slice none 0 0]) (t := 28) ?hr ?_; (case hd => rfl); (case hg => rfl); (case hr => first | (go_simp; done) | (go_simp; rfl))
             intro gb404 hg w13 hbox hb
             replace HO391 := m_ (Kd.V_below (Kd.V_elderB (Kd.V_below HO391.out bgo_) gb404 (Nat.le_of_eq hg.symm)) hb)
             replace HB := m_ (below_step IsS131.hs_ hb)
             have BK404 := m_ (hbox)
             have GW404 := m_ ((by rw [hg]; exact (keep_size (w := w) (g := g) (row := none) kp_) : w.heap.size ≤ gb404))
             have GE404 := m_ ((Nat.le_trans HW0.out (by rw [hg]; exact (keep_size (w := w) (g := g) (row := none) kp_) : w.heap.size ≤ gb404) : w0.heap.size ≤ gb404))
             replace HK := m_ (KeepBut.trans kp_ (KeepBut.of_below hb g none) (.inl rfl))
             have NB387_404 := m_ ((by rw [hg]; exact Nat.ne_of_lt (blk_lt (blk_below BK387.out bgo_)) : gb387 ≠ gb404))
             have NB404_387 := m_ NB387_404.out.symm
             replace BK387 := m_ (bb_ BK387.out hb)
             have NB394_404 := m_ ((by rw [hg]; exact Nat.ne_of_lt (blk_lt (blk_below BK394.out bgo_)) : gb394 ≠ gb404))
             have NB404_394 := m_ NB394_404.out.symm
             replace BK394 := m_ (bb_ BK394.out hb)
             have NB0_404 := m_ ((by rw [hg]; exact Nat.ne_of_lt (IsS131.lt (show IsS131 w0 _ g s0_0 t392 t393 from IsS131.gs_)) : g ≠ gb404))
             have NB404_0 := m_ NB0_404.out.symm
             replace HI0 := m_ (IsS131.below IsS131.gs_ hb)
             clear hb hbox hg
             refine hK.out _ _ ⟨bc0_ BK394.out, bc1_ BK394.out⟩ (fun hHeld => ?_)
             clear hK K
             refine nm_ ?_
             exact nj_ (hJ6 (gb404) _ ⟨hHeld, (Kd.V_below (Kd.V_mono HO391.out (fun _ hk => ⟨hk.1.1, ⟨hk.1.2.2.1, ⟨hk.1.2.1, ⟨hk.1.2.2.2, hk.2⟩⟩⟩⟩)) bgo_), (blk_below BK387.out bgo_), (blk_below BK394.out bgo_), (blk_below BK404.out bgo_), GW404.out, GE404.out, NB0_404.out, NB404_0.out, NB387_404.out, NB404_387.out, NB394_404.out, NB404_394.out, IsS131.gs_, kp_, IsS131.hs_⟩)
           ·skip
            rintro gb404 w14 ⟨hS_, h0_, h1_, h2_, h3_, h4_, h5_, h6_, h7_, h8_, h9_, h10_, h11_, h12_, h13_, h14_⟩
            try dsimp only at hS_ h0_ h1_ h2_ h3_ h4_ h5_ h6_ h7_ h8_ h9_ h10_ h11_ h12_ h13_ h14_
            have n0_ := m_ h0_
            have n1_ := m_ h1_
            have n2_ := m_ h2_
            have n3_ := m_ h3_
            have n4_ := m_ h4_
            have n5_ := m_ h5_
            have n6_ := m_ h6_
            have n7_ := m_ h7_
            have n8_ := m_ h8_
            have n9_ := m_ h9_
            have n10_ := m_ h10_
            have n11_ := m_ h11_
            have n12_ := m_ h12_
            have n13_ := m_ h13_
            have n14_ := m_ h14_
            clear HO391
            clear BK387
            clear BK394
            clear HI0
            clear HK
            clear HB
            clear h0_ h1_ h2_ h3_ h4_ h5_ h6_ h7_ h8_ h9_ h10_ h11_ h12_ h13_ h14_
            have HO391 := n0_
            have BK387 := n1_
            have BK394 := n2_
            have BK404 := n3_
            have GW404 := n4_
            have GE404 := n5_
            have NB0_404 := n6_
            have NB404_0 := n7_
            have NB387_404 := n8_
            have NB404_387 := n9_
            have NB394_404 := n10_
            have NB404_394 := n11_
            have HI0 := n12_
            have HK := n13_
            have HB := n14_
            clear n0_ n1_ n2_ n3_ n4_ n5_ n6_ n7_ n8_ n9_ n10_ n11_ n12_ n13_ n14_
            have hHeld := hS_
            refine norm_ (a' := ?_) ?_ ?_
            rotate_left
            ·simp only [putAll, Act.put, List.setIfInBounds_toArray, List.set_cons_zero, List.set_cons_succ]
             rfl
            refine two_ (i := 2) (j := 4) (Ni := some 10) (Nj := some 12) #[true, true, true, false, false, false, true, false] #[true, true, false, false, true, false, true, false] rfl rfl rfl rfl (two_of HT_.out (by kernel_rfl)) (by decide) (by decide) (fun K hK => ?_) (fun K hK => ?_)
            ·skip
             refine Kd.R_lit_step (Kd.int .i64) _ 2 ?hg (N := 10) ?hd (xs := ([1, 2, 2, 2, 3, 3, 4] : List Int)) (inner := [.int .i64 1, .int .i64 2, .int .i64 2, .int .i64 2, .int .i64 3, .int .i64 3, .int .i64 4]) (ok := fun _ => True) (okp := fun _ => True) ?hr ?hp (fun _ hk => hk) trivial (Below.refl _ _) (Nat.le_refl _) (by simp) ?_; (case hd => rfl); (case hg => rfl); (case hr => first | (go_simp; done) | (go_simp; rfl)); (case hp => exact (Reps.one (show Kd.M (Kd.int .i64) _ _ _ 1 [.int .i64 1] from rfl) (Reps.one (show Kd.M (Kd.int .i64) _ _ _ 2 [.int .i64 2] from rfl) (Reps.one (show Kd.M (Kd.int .i64) _ _ _ 2 [.int .i64 2] from rfl) (Reps.one (show Kd.M (Kd.int .i64) _ _ _ 2 [.int .i64 2] from rfl) (Reps.one (show Kd.M (Kd.int .i64) _ _ _ 3 [.int .i64 3] from rfl) (Reps.one (show Kd.M (Kd.int .i64) _ _ _ 3 [.int .i64 3] from rfl) (Reps.one (show Kd.M (Kd.int .i64) _ _ _ 4 [.int .i64 4] from rfl) (Reps.none _ _)))))))))
             intro v396 w15 ho16 hb hg_ hnew_
             clear hg_ hnew_
             rw [← Ny395.out] at ho16
             replace HO391 := m_ (Kd.V_elder' (Kd.V_below HO391.out bgo_) (Kd.R_base ho16) hb)
             have HO397 := m_ (Kd.R_lower (Kd.R_newM (M := fun k_ => (w.heap.size ≤ k_)) ho16 (keep_size (w := w) (g := g) (row := none) kp_) (fun k_ h_ => h_)) (keep_size (w := w) (g := g) (row := none) kp_))
             replace BK387 := m_ (bb_ BK387.out hb)
             replace BK394 := m_ (bb_ BK394.out hb)
             replace BK404 := m_ (bb_ BK404.out hb)
             replace HK := m_ (KeepBut.trans kp_ (KeepBut.of_below hb g none) (.inl rfl))
             replace HB := m_ (below_step IsS131.hs_ hb)
             replace HI0 := m_ (IsS131.below IsS131.gs_ hb)
             clear hb ho16
             refine hK.out _ _ ⟨bc0_ BK394.out, bc1_ BK394.out⟩ (fun hHeld => ?_)
             clear hK K
             refine nm_ ?_
             exact nj_ (hJ2_6 (v396, gb404) _ ⟨hHeld, (Kd.V_below (Kd.V_mono HO391.out (fun _ hk => ⟨hk.1.1, ⟨hk.2, ⟨hk.1.2.1, ⟨hk.1.2.2.1, ⟨hk.1.2.2.2.1, hk.1.2.2.2.2⟩⟩⟩⟩⟩)) bgo_), (Kd.R_below (Kd.R_mono HO397.out (fun _ hk => hk.1)) bgo_), (blk_below BK387.out bgo_), (blk_below BK394.out bgo_), (blk_below BK404.out bgo_), GW404.out, GE404.out, NB0_404.out, NB404_0.out, NB387_404.out, NB404_387.out, NB394_404.out, NB404_394.out, IsS131.gs_, kp_, IsS131.hs_⟩)
            ·skip
             refine Kd.N_lit_step (Kd.slice 2 (Kd.int .i64)) _ 29 ?hg (N' := 12) ?hd (xs := ([] : List (List Int))) (inner := []) (ok := (fun k_ => (w.heap.size ≤ k_) ∧ k_ ≠ gb387 ∧ k_ ≠ gb394 ∧ k_ ≠ gb404 ∧ k_ ≠ g)) (okp := (fun k_ => (w.heap.size ≤ k_) ∧ k_ ≠ gb387 ∧ k_ ≠ gb394 ∧ k_ ≠ gb404 ∧ k_ ≠ g)) ?hr ?hp (fun _ hk => hk) ((show ∀ k_, w14.heap.size ≤ k_ → (fun k_ => (w.heap.size ≤ k_) ∧ k_ ≠ gb387 ∧ k_ ≠ gb394 ∧ k_ ≠ gb404 ∧ k_ ≠ g) k_ from fun k_ hk => ⟨(Nat.le_trans (keep_size (w := w) (g := g) (row := none) kp_) hk), Kd.freshB (g := gb387) (o := .cells #[.int .i64 0, .slice none 0 0, .int .i64 0, .slice none 0 0] 28 (0, 0)) (blk_below BK387.out bgo_) k_ hk, Kd.freshB (g := gb394) (o := .cells #[.int .i64 t388, .slice Ao10 t389.length co10] 26 (0, 0)) (blk_below BK394.out bgo_) k_ hk, Kd.freshB (g := gb404) (o := .cells #[.int .i64 0, .slice none 0 0, .int .i64 0, .slice none 0 0] 28 (0, 0)) (blk_below BK404.out bgo_) k_ hk, IsS131.fresh IsS131.gs_ k_ hk⟩) _ (Nat.le_refl _)) (Below.refl _ _) (Nat.le_refl _) (by simp) ?_; (case hd => rfl); (case hg => rfl); (case hr => first | (go_simp; done) | (go_simp; rfl)); (case hp => exact (Reps.none _ _))
             intro v402 w15 ho16 hb hg_ hnew_
             clear hg_ hnew_
             rw [← Ny401.out] at ho16
             replace HO391 := m_ (Kd.V_elder' (Kd.V_below HO391.out bgo_) (Kd.N_base ho16) hb)
             have HO403 := m_ (Kd.N_lower ho16 (keep_size (w := w) (g := g) (row := none) kp_))
             replace BK387 := m_ (bb_ BK387.out hb)
             replace BK394 := m_ (bb_ BK394.out hb)
             replace BK404 := m_ (bb_ BK404.out hb)
             replace HK := m_ (KeepBut.trans kp_ (KeepBut.of_below hb g none) (.inl rfl))
             replace HB := m_ (below_step IsS131.hs_ hb)
             replace HI0 := m_ (IsS131.below IsS131.gs_ hb)
             clear hb ho16
             refine hK.out _ _ ⟨bc0_ BK394.out, bc1_ BK394.out⟩ (fun hHeld => ?_)
             clear hK K
             refine nm_ ?_
             exact nj_ (hJ4_6 (v402, gb404) _ ⟨hHeld, (Kd.V_below (Kd.V_mono HO391.out (fun _ hk => ⟨hk.1.1, ⟨hk.2, ⟨hk.1.2.1, ⟨hk.1.2.2.1, ⟨hk.1.2.2.2.1, hk.1.2.2.2.2⟩⟩⟩⟩⟩)) bgo_), (Kd.N_below (Kd.N_mono HO403.out (fun _ hk => ⟨hk.1, ⟨hk.2.2.2.2, ⟨hk.2.1, ⟨hk.2.2.1, hk.2.2.2.1⟩⟩⟩⟩)) bgo_), (blk_below BK387.out bgo_), (blk_below BK394.out bgo_), (blk_below BK404.out bgo_), GW404.out, GE404.out, NB0_404.out, NB404_0.out, NB387_404.out, NB404_387.out, NB394_404.out, NB404_394.out, IsS131.gs_, kp_, IsS131.hs_⟩)
          ·skip
           rintro v402 w15 ⟨hS_, h0_, h1_, h2_, h3_, h4_, h5_, h6_⟩
           try dsimp only at hS_ h0_ h1_ h2_ h3_ h4_ h5_ h6_
           have n0_ := m_ h0_
           have n1_ := m_ h1_
           have n2_ := m_ h2_
           have n3_ := m_ h3_
           have n4_ := m_ h4_
           have n5_ := m_ h5_
           have n6_ := m_ h6_
           clear HO391
           clear BK387
           clear BK394
           clear HI0
           clear HK
           clear HB
           clear h0_ h1_ h2_ h3_ h4_ h5_ h6_
           have HO391 := n0_
           have HO403 := n1_
           have BK387 := n2_
           have BK394 := n3_
           have HI0 := n4_
           have HK := n5_
           have HB := n6_
           clear n0_ n1_ n2_ n3_ n4_ n5_ n6_
           have hHeld := hS_
           refine norm_ (a' := ?_) ?_ ?_
           rotate_left
           ·simp only [putAll, Act.put, List.setIfInBounds_toArray, List.set_cons_zero, List.set_cons_succ]
            rfl
           refine two_ (i := 2) (j := 6) (Ni := some 10) (Nj := some 4) #[true, true, true, false, true, false, false, false] #[true, true, false, false, true, false, true, false] rfl rfl rfl rfl (two_of HT_.out (by kernel_rfl)) (by decide) (by decide) (fun K hK => ?_) (fun K hK => ?_)
           ·skip
            refine Kd.R_lit_step (Kd.int .i64) _ 2 ?hg (N := 10) ?hd (xs := ([1, 2, 2, 2, 3, 3, 4] : List Int)) (inner := [.int .i64 1, .int .i64 2, .int .i64 2, .int .i64 2, .int .i64 3, .int .i64 3, .int .i64 4]) (ok := fun _ => True) (okp := fun _ => True) ?hr ?hp (fun _ hk => hk) trivial (Below.refl _ _) (Nat.le_refl _) (by simp) ?_; (case hd => rfl); (case hg => rfl); (case hr => first | (go_simp; done) | (go_simp; rfl)); (case hp => exact (Reps.one (show Kd.M (Kd.int .i64) _ _ _ 1 [.int .i64 1] from rfl) (Reps.one (show Kd.M (Kd.int .i64) _ _ _ 2 [.int .i64 2] from rfl) (Reps.one (show Kd.M (Kd.int .i64) _ _ _ 2 [.int .i64 2] from rfl) (Reps.one (show Kd.M (Kd.int .i64) _ _ _ 2 [.int .i64 2] from rfl) (Reps.one (show Kd.M (Kd.int .i64) _ _ _ 3 [.int .i64 3] from rfl) (Reps.one (show Kd.M (Kd.int .i64) _ _ _ 3 [.int .i64 3] from rfl) (Reps.one (show Kd.M (Kd.int .i64) _ _ _ 4 [.int .i64 4] from rfl) (Reps.none _ _)))))))))
            intro v396 w16 ho17 hb hg_ hnew_
            clear hg_ hnew_
            rw [← Ny395.out] at ho17
            replace HO391 := m_ (Kd.V_elder' (Kd.V_below HO391.out bgo_) (Kd.R_base ho17) hb)
            replace HO403 := m_ (Kd.N_elder' (Kd.N_below HO403.out bgo_) (Kd.R_base ho17) hb)
            have HO397 := m_ (Kd.R_lower (Kd.R_newM (M := fun k_ => (w.heap.size ≤ k_)) ho17 (keep_size (w := w) (g := g) (row := none) kp_) (fun k_ h_ => h_)) (keep_size (w := w) (g := g) (row := none) kp_))
            replace BK387 := m_ (bb_ BK387.out hb)
            replace BK394 := m_ (bb_ BK394.out hb)
            replace HK := m_ (KeepBut.trans kp_ (KeepBut.of_below hb g none) (.inl rfl))
            replace HB := m_ (below_step IsS131.hs_ hb)
            replace HI0 := m_ (IsS131.below IsS131.gs_ hb)
            clear hb ho17
            refine hK.out _ _ ⟨bc0_ BK394.out, bc1_ BK394.out⟩ (fun hHeld => ?_)
            clear hK K
            refine nm_ ?_
            exact nj_ (hJ2_4 (v396, v402) _ ⟨hHeld, (Kd.V_below (Kd.V_mono HO391.out (fun _ hk => ⟨hk.1.1, ⟨hk.2, ⟨hk.1.2.1, ⟨hk.1.2.2.1, ⟨hk.1.2.2.2.1, hk.1.2.2.2.2⟩⟩⟩⟩⟩)) bgo_), (Kd.R_below (Kd.R_mono HO397.out (fun _ hk => hk.1)) bgo_), (Kd.N_below (Kd.N_mono HO403.out (fun _ hk => ⟨hk.1.1, ⟨hk.2, ⟨hk.1.2.1, ⟨hk.1.2.2.1, hk.1.2.2.2⟩⟩⟩⟩)) bgo_), (blk_below BK387.out bgo_), (blk_below BK394.out bgo_), IsS131.gs_, kp_, IsS131.hs_⟩)
           ·skip
            refine box_step ?hg (N := 4) ?hd (cs := #[.int .i64 0, .slice none 0 0, .int .i64 0, .slice none 0 0]) (t := 28) ?hr ?_; (case hd => rfl); (case hg => rfl); (case hr => first | (go_simp; done) | (go_simp; rfl))
            intro gb404 hg w16 hbox hb
            replace HO391 := m_ (Kd.V_below (Kd.V_elderB (Kd.V_below HO391.out bgo_) gb404 (Nat.le_of_eq hg.symm)) hb)
            replace HO403 := m_ (Kd.N_below (Kd.N_elderB (Kd.N_below HO403.out bgo_) gb404 (Nat.le_of_eq hg.symm)) hb)
            replace HB := m_ (below_step IsS131.hs_ hb)
            have BK404 := m_ (hbox)
            have GW404 := m_ ((by rw [hg]; exact (keep_size (w := w) (g := g) (row := none) kp_) : w.heap.size ≤ gb404))
            have GE404 := m_ ((Nat.le_trans HW0.out (by rw [hg]; exact (keep_size (w := w) (g := g) (row := none) kp_) : w.heap.size ≤ gb404) : w0.heap.size ≤ gb404))
            replace HK := m_ (KeepBut.trans kp_ (KeepBut.of_below hb g none) (.inl rfl))
            have NB387_404 := m_ ((by rw [hg]; exact Nat.ne_of_lt (blk_lt (blk_below BK387.out bgo_)) : gb387 ≠ gb404))
            have NB404_387 := m_ NB387_404.out.symm
            replace BK387 := m_ (bb_ BK387.out hb)
            have NB394_404 := m_ ((by rw [hg]; exact Nat.ne_of_lt (blk_lt (blk_below BK394.out bgo_)) : gb394 ≠ gb404))
            have NB404_394 := m_ NB394_404.out.symm
            replace BK394 := m_ (bb_ BK394.out hb)
            have NB0_404 := m_ ((by rw [hg]; exact Nat.ne_of_lt (IsS131.lt (show IsS131 w0 _ g s0_0 t392 t393 from IsS131.gs_)) : g ≠ gb404))
            have NB404_0 := m_ NB0_404.out.symm
            replace HI0 := m_ (IsS131.below IsS131.gs_ hb)
            clear hb hbox hg
            refine hK.out _ _ ⟨bc0_ BK394.out, bc1_ BK394.out⟩ (fun hHeld => ?_)
            clear hK K
            refine nm_ ?_
            exact nj_ (hJ4_6 (v402, gb404) _ ⟨hHeld, (Kd.V_below (Kd.V_mono HO391.out (fun _ hk => ⟨hk.1.1, ⟨hk.1.2.1, ⟨hk.1.2.2.1, ⟨hk.1.2.2.2.1, ⟨hk.1.2.2.2.2, hk.2⟩⟩⟩⟩⟩)) bgo_), (Kd.N_below (Kd.N_mono HO403.out (fun _ hk => ⟨hk.1.1, ⟨hk.1.2.1, ⟨hk.1.2.2.1, ⟨hk.1.2.2.2, hk.2⟩⟩⟩⟩)) bgo_), (blk_below BK387.out bgo_), (blk_below BK394.out bgo_), (blk_below BK404.out bgo_), GW404.out, GE404.out, NB0_404.out, NB404_0.out, NB387_404.out, NB404_387.out, NB394_404.out, NB404_394.out, IsS131.gs_, kp_, IsS131.hs_⟩)
         ·skip
          rintro v396 w15 ⟨hS_, h0_, h1_, h2_, h3_, h4_, h5_, h6_⟩
          try dsimp only at hS_ h0_ h1_ h2_ h3_ h4_ h5_ h6_
          have n0_ := m_ h0_
          have n1_ := m_ h1_
          have n2_ := m_ h2_
          have n3_ := m_ h3_
          have n4_ := m_ h4_
          have n5_ := m_ h5_
          have n6_ := m_ h6_
          clear HO391
          clear BK387
          clear BK394
          clear HI0
          clear HK
          clear HB
          clear h0_ h1_ h2_ h3_ h4_ h5_ h6_
          have HO391 := n0_
          have HO397 := n1_
          have BK387 := n2_
          have BK394 := n3_
          have HI0 := n4_
          have HK := n5_
          have HB := n6_
          clear n0_ n1_ n2_ n3_ n4_ n5_ n6_
          have hHeld := hS_
          obtain ⟨Ao16, co16, eo16⟩ := Kd.R_slice HO397.out
          subst eo16
          refine norm_ (a' := ?_) ?_ ?_
          rotate_left
          ·simp only [putAll, Act.put, List.setIfInBounds_toArray, List.set_cons_zero, List.set_cons_succ]
           rfl
          refine three_ (i := 3) (j := 4) (k := 6) (Ni := some 11) (Nj := some 12) (Nk := some 4) #[true, true, true, true, false, false, false, false] #[true, true, true, false, true, false, false, false] #[true, true, true, false, false, false, true, false] rfl rfl rfl rfl rfl rfl (three_of HT_.out (by kernel_rfl)) (by decide) (by decide) (by decide) (fun K hK => ?_) (fun K hK => ?_) (fun K hK => ?_)
          ·skip
           refine goes_ Try.func144 (by kernel_rfl) rfl #[.pointer (some ⟨g, 0, none⟩), .slice Ao16 y395.length co16] (by rfl) rfl rfl arg_ ?_
           with_reducible refine (spec_l01Pick.calls g s0_0 t392 t393 _ _ y395 t398 t399 t400 w0 _ ?side1 ?side2 ?side3 ?side4 ?side5 A3.out).mono ?_
           (case side1 => exact IsS131.gs_)
           (case side2 => exact IsS131.hs_)
           (case side3 => exact Kd.C_below (Kd.R_reads' HO397.out).2.2 bgo_)
           (case side4 => exact (Kd.R_reads' HO397.out).2.1)
           (case side5 => exact far_slice (IsS131.own_ne HI0.out HO397.out (by decide)))
           rintro e w17 ⟨rfl, hi, hb, hk⟩
           refine ⟨_, rfl, ?_⟩
           replace BK387 := m_ (KeepBut.blk hk (blk_below BK387.out bgo_) NB387_0.out (by simp))
           replace HO391 := m_ (Kd.V_mono (Kd.V_keep (Kd.V_mono (ok := fun k_ => (((w.heap.size ≤ k_)) ∧ (some k_ ≠ (.slice Ao16 y395.length co16 : Value).ownBlock ∧ (k_ ≠ g ∧ (k_ ≠ gb387 ∧ k_ ≠ gb394))))) (Kd.V_below HO391.out bgo_) (fun k_ hk_ => (⟨hk_, hk_.2.2.1⟩ : _ ∧ k_ ≠ g))) hk (fun _ h => h.2)) (fun _ h => h.1))
           replace BK394 := m_ (KeepBut.blk hk (blk_below BK394.out bgo_) NB394_0.out (by simp))
           replace HO397 := m_ (Kd.R_mono (Kd.R_keep (IsS131.apart (show IsS131 w0 _ g s0_0 t392 t393 from IsS131.gs_) (Kd.R_below HO397.out bgo_) (by decide)) hk (fun _ h => h.2)) (fun _ h => h.1))
           replace HK := m_ (KeepBut.trans kp_ hk (.inl rfl))
           replace HB := m_ (hb)
           replace HI0 := m_ (hi)
           refine hK.out _ _ ⟨bc0_ BK394.out, bc1_ BK394.out⟩ (fun hHeld => ?_)
           clear hK K
           refine nm_ ?_
           exact nj_ (hJ2_3 (.slice Ao16 y395.length co16) _ ⟨hHeld, (Kd.V_below HO391.out bgo_), (Kd.R_below HO397.out bgo_), (blk_below BK387.out bgo_), (blk_below BK394.out bgo_), IsS131.gs_, kp_, IsS131.hs_⟩)
          ·skip
           refine Kd.N_lit_step (Kd.slice 2 (Kd.int .i64)) _ 29 ?hg (N' := 12) ?hd (xs := ([] : List (List Int))) (inner := []) (ok := (fun k_ => (w.heap.size ≤ k_) ∧ some k_ ≠ ((.slice Ao16 y395.length co16) : Value).ownBlock ∧ k_ ≠ gb387 ∧ k_ ≠ gb394 ∧ k_ ≠ g)) (okp := (fun k_ => (w.heap.size ≤ k_) ∧ some k_ ≠ ((.slice Ao16 y395.length co16) : Value).ownBlock ∧ k_ ≠ gb387 ∧ k_ ≠ gb394 ∧ k_ ≠ g)) ?hr ?hp (fun _ hk => hk) ((show ∀ k_, w15.heap.size ≤ k_ → (fun k_ => (w.heap.size ≤ k_) ∧ some k_ ≠ ((.slice Ao16 y395.length co16) : Value).ownBlock ∧ k_ ≠ gb387 ∧ k_ ≠ gb394 ∧ k_ ≠ g) k_ from fun k_ hk => ⟨(Nat.le_trans (keep_size (w := w) (g := g) (row := none) kp_) hk), Kd.fresh' (Kd.R_lt (Kd.R_below HO397.out bgo_)) k_ hk, Kd.freshB (g := gb387) (o := .cells #[.int .i64 0, .slice none 0 0, .int .i64 0, .slice none 0 0] 28 (0, 0)) (blk_below BK387.out bgo_) k_ hk, Kd.freshB (g := gb394) (o := .cells #[.int .i64 t388, .slice Ao10 t389.length co10] 26 (0, 0)) (blk_below BK394.out bgo_) k_ hk, IsS131.fresh IsS131.gs_ k_ hk⟩) _ (Nat.le_refl _)) (Below.refl _ _) (Nat.le_refl _) (by simp) ?_; (case hd => rfl); (case hg => rfl); (case hr => first | (go_simp; done) | (go_simp; rfl)); (case hp => exact (Reps.none _ _))
           intro v402 w16 ho17 hb hg_ hnew_
           clear hg_ hnew_
           rw [← Ny401.out] at ho17
           replace HO391 := m_ (Kd.V_elder' (Kd.V_below HO391.out bgo_) (Kd.N_base ho17) hb)
           replace HO397 := m_ (Kd.R_below (Kd.R_below HO397.out bgo_) hb)
           have HO403 := m_ (Kd.N_lower ho17 (keep_size (w := w) (g := g) (row := none) kp_))
           replace BK387 := m_ (bb_ BK387.out hb)
           replace BK394 := m_ (bb_ BK394.out hb)
           replace HK := m_ (KeepBut.trans kp_ (KeepBut.of_below hb g none) (.inl rfl))
           replace HB := m_ (below_step IsS131.hs_ hb)
           replace HI0 := m_ (IsS131.below IsS131.gs_ hb)
           clear hb ho17
           refine hK.out _ _ ⟨bc0_ BK394.out, bc1_ BK394.out⟩ (fun hHeld => ?_)
           clear hK K
           refine nm_ ?_
           exact nj_ (hJ2_4 ((.slice Ao16 y395.length co16), v402) _ ⟨hHeld, (Kd.V_below (Kd.V_mono HO391.out (fun _ hk => ⟨hk.1.1, ⟨hk.1.2.1, ⟨hk.2, ⟨hk.1.2.2.1, ⟨hk.1.2.2.2.1, hk.1.2.2.2.2⟩⟩⟩⟩⟩)) bgo_), (Kd.R_below HO397.out bgo_), (Kd.N_below (Kd.N_mono HO403.out (fun _ hk => ⟨hk.1, ⟨hk.2.1, ⟨hk.2.2.2.2, ⟨hk.2.2.1, hk.2.2.2.1⟩⟩⟩⟩)) bgo_), (blk_below BK387.out bgo_), (blk_below BK394.out bgo_), IsS131.gs_, kp_, IsS131.hs_⟩)
          ·skip
           refine box_step ?hg (N := 4) ?hd (cs := #[.int .i64 0, .slice none 0 0, .int .i64 0, .slice none 0 0]) (t := 28) ?hr ?_; (case hd => rfl); (case hg => rfl); (case hr => first | (go_simp; done) | (go_simp; rfl))
           intro gb404 hg w16 hbox hb
           replace HO391 := m_ (Kd.V_below (Kd.V_elderB (Kd.V_below HO391.out bgo_) gb404 (Nat.le_of_eq hg.symm)) hb)
           replace HO397 := m_ (Kd.R_below (Kd.R_below HO397.out bgo_) hb)
           replace HB := m_ (below_step IsS131.hs_ hb)
           have BK404 := m_ (hbox)
           have GW404 := m_ ((by rw [hg]; exact (keep_size (w := w) (g := g) (row := none) kp_) : w.heap.size ≤ gb404))
           have GE404 := m_ ((Nat.le_trans HW0.out (by rw [hg]; exact (keep_size (w := w) (g := g) (row := none) kp_) : w.heap.size ≤ gb404) : w0.heap.size ≤ gb404))
           replace HK := m_ (KeepBut.trans kp_ (KeepBut.of_below hb g none) (.inl rfl))
           have NB387_404 := m_ ((by rw [hg]; exact Nat.ne_of_lt (blk_lt (blk_below BK387.out bgo_)) : gb387 ≠ gb404))
           have NB404_387 := m_ NB387_404.out.symm
           replace BK387 := m_ (bb_ BK387.out hb)
           have NB394_404 := m_ ((by rw [hg]; exact Nat.ne_of_lt (blk_lt (blk_below BK394.out bgo_)) : gb394 ≠ gb404))
           have NB404_394 := m_ NB394_404.out.symm
           replace BK394 := m_ (bb_ BK394.out hb)
           have NB0_404 := m_ ((by rw [hg]; exact Nat.ne_of_lt (IsS131.lt (show IsS131 w0 _ g s0_0 t392 t393 from IsS131.gs_)) : g ≠ gb404))
           have NB404_0 := m_ NB0_404.out.symm
           replace HI0 := m_ (IsS131.below IsS131.gs_ hb)
           clear hb hbox hg
           refine hK.out _ _ ⟨bc0_ BK394.out, bc1_ BK394.out⟩ (fun hHeld => ?_)
           clear hK K
           refine nm_ ?_
           exact nj_ (hJ2_6 ((.slice Ao16 y395.length co16), gb404) _ ⟨hHeld, (Kd.V_below (Kd.V_mono HO391.out (fun _ hk => ⟨hk.1.1, ⟨hk.1.2.1, ⟨hk.1.2.2.1, ⟨hk.1.2.2.2.1, ⟨hk.1.2.2.2.2, hk.2⟩⟩⟩⟩⟩)) bgo_), (Kd.R_below HO397.out bgo_), (blk_below BK387.out bgo_), (blk_below BK394.out bgo_), (blk_below BK404.out bgo_), GW404.out, GE404.out, NB0_404.out, NB404_0.out, NB387_404.out, NB404_387.out, NB394_404.out, NB404_394.out, IsS131.gs_, kp_, IsS131.hs_⟩)
        ·skip
         rintro ⟨v402, gb404⟩ w16 ⟨hS_, h0_, h1_, h2_, h3_, h4_, h5_, h6_, h7_, h8_, h9_, h10_, h11_, h12_, h13_, h14_, h15_⟩
         try dsimp only at hS_ h0_ h1_ h2_ h3_ h4_ h5_ h6_ h7_ h8_ h9_ h10_ h11_ h12_ h13_ h14_ h15_
         have n0_ := m_ h0_
         have n1_ := m_ h1_
         have n2_ := m_ h2_
         have n3_ := m_ h3_
         have n4_ := m_ h4_
         have n5_ := m_ h5_
         have n6_ := m_ h6_
         have n7_ := m_ h7_
         have n8_ := m_ h8_
         have n9_ := m_ h9_
         have n10_ := m_ h10_
         have n11_ := m_ h11_
         have n12_ := m_ h12_
         have n13_ := m_ h13_
         have n14_ := m_ h14_
         have n15_ := m_ h15_
         clear HO391
         clear BK387
         clear BK394
         clear HI0
         clear HK
         clear HB
         clear h0_ h1_ h2_ h3_ h4_ h5_ h6_ h7_ h8_ h9_ h10_ h11_ h12_ h13_ h14_ h15_
         have HO391 := n0_
         have HO403 := n1_
         have BK387 := n2_
         have BK394 := n3_
         have BK404 := n4_
         have GW404 := n5_
         have GE404 := n6_
         have NB0_404 := n7_
         have NB404_0 := n8_
         have NB387_404 := n9_
         have NB404_387 := n10_
         have NB394_404 := n11_
         have NB404_394 := n12_
         have HI0 := n13_
         have HK := n14_
         have HB := n15_
         clear n0_ n1_ n2_ n3_ n4_ n5_ n6_ n7_ n8_ n9_ n10_ n11_ n12_ n13_ n14_ n15_
         have hHeld := hS_
         refine norm_ (a' := ?_) ?_ ?_
         rotate_left
         ·simp only [putAll, Act.put, List.setIfInBounds_toArray, List.set_cons_zero, List.set_cons_succ]
          rfl
         refine on_ 2 8 (some 10) 87 (fun K hK => ?_)
         refine Kd.R_lit_step (Kd.int .i64) _ 2 ?hg (N := 10) ?hd (xs := ([1, 2, 2, 2, 3, 3, 4] : List Int)) (inner := [.int .i64 1, .int .i64 2, .int .i64 2, .int .i64 2, .int .i64 3, .int .i64 3, .int .i64 4]) (ok := fun _ => True) (okp := fun _ => True) ?hr ?hp (fun _ hk => hk) trivial (Below.refl _ _) (Nat.le_refl _) (by simp) ?_; (case hd => rfl); (case hg => rfl); (case hr => first | (go_simp; done) | (go_simp; rfl)); (case hp => exact (Reps.one (show Kd.M (Kd.int .i64) _ _ _ 1 [.int .i64 1] from rfl) (Reps.one (show Kd.M (Kd.int .i64) _ _ _ 2 [.int .i64 2] from rfl) (Reps.one (show Kd.M (Kd.int .i64) _ _ _ 2 [.int .i64 2] from rfl) (Reps.one (show Kd.M (Kd.int .i64) _ _ _ 2 [.int .i64 2] from rfl) (Reps.one (show Kd.M (Kd.int .i64) _ _ _ 3 [.int .i64 3] from rfl) (Reps.one (show Kd.M (Kd.int .i64) _ _ _ 3 [.int .i64 3] from rfl) (Reps.one (show Kd.M (Kd.int .i64) _ _ _ 4 [.int .i64 4] from rfl) (Reps.none _ _)))))))))
         intro v396 w17 ho18 hb hg_ hnew_
         clear hg_ hnew_
         rw [← Ny395.out] at ho18
         replace HO391 := m_ (Kd.V_elder' (Kd.V_below HO391.out bgo_) (Kd.R_base ho18) hb)
         replace HO403 := m_ (Kd.N_elder' (Kd.N_below HO403.out bgo_) (Kd.R_base ho18) hb)
         have HO397 := m_ (Kd.R_lower (Kd.R_newM (M := fun k_ => (w.heap.size ≤ k_)) ho18 (keep_size (w := w) (g := g) (row := none) kp_) (fun k_ h_ => h_)) (keep_size (w := w) (g := g) (row := none) kp_))
         replace BK387 := m_ (bb_ BK387.out hb)
         replace BK394 := m_ (bb_ BK394.out hb)
         replace BK404 := m_ (bb_ BK404.out hb)
         replace HK := m_ (KeepBut.trans kp_ (KeepBut.of_below hb g none) (.inl rfl))
         replace HB := m_ (below_step IsS131.hs_ hb)
         replace HI0 := m_ (IsS131.below IsS131.gs_ hb)
         clear hb ho18
         refine hK.out _ _ ⟨bc0_ BK394.out, bc1_ BK394.out⟩ (fun hHeld => ?_)
         clear hK K
         refine nm_ ?_
         exact nj_ (hJ2_4_6 (v396, v402, gb404) _ ⟨hHeld, (Kd.V_below (Kd.V_mono HO391.out (fun _ hk => ⟨hk.1.1, ⟨hk.2, ⟨hk.1.2.1, ⟨hk.1.2.2.1, ⟨hk.1.2.2.2.1, ⟨hk.1.2.2.2.2.1, hk.1.2.2.2.2.2⟩⟩⟩⟩⟩⟩)) bgo_), (Kd.R_below (Kd.R_mono HO397.out (fun _ hk => hk.1)) bgo_), (Kd.N_below (Kd.N_mono HO403.out (fun _ hk => ⟨hk.1.1, ⟨hk.2, ⟨hk.1.2.1, ⟨hk.1.2.2.1, ⟨hk.1.2.2.2.1, hk.1.2.2.2.2⟩⟩⟩⟩⟩)) bgo_), (blk_below BK387.out bgo_), (blk_below BK394.out bgo_), (blk_below BK404.out bgo_), GW404.out, GE404.out, NB0_404.out, NB404_0.out, NB387_404.out, NB404_387.out, NB394_404.out, NB404_394.out, IsS131.gs_, kp_, IsS131.hs_⟩)
       ·skip
        rintro ⟨v396, gb404⟩ w16 ⟨hS_, h0_, h1_, h2_, h3_, h4_, h5_, h6_, h7_, h8_, h9_, h10_, h11_, h12_, h13_, h14_, h15_⟩
        try dsimp only at hS_ h0_ h1_ h2_ h3_ h4_ h5_ h6_ h7_ h8_ h9_ h10_ h11_ h12_ h13_ h14_ h15_
        have n0_ := m_ h0_
        have n1_ := m_ h1_
        have n2_ := m_ h2_
        have n3_ := m_ h3_
        have n4_ := m_ h4_
        have n5_ := m_ h5_
        have n6_ := m_ h6_
        have n7_ := m_ h7_
        have n8_ := m_ h8_
        have n9_ := m_ h9_
        have n10_ := m_ h10_
        have n11_ := m_ h11_
        have n12_ := m_ h12_
        have n13_ := m_ h13_
        have n14_ := m_ h14_
        have n15_ := m_ h15_
        clear HO391
        clear BK387
        clear BK394
        clear HI0
        clear HK
        clear HB
        clear h0_ h1_ h2_ h3_ h4_ h5_ h6_ h7_ h8_ h9_ h10_ h11_ h12_ h13_ h14_ h15_
        have HO391 := n0_
        have HO397 := n1_
        have BK387 := n2_
        have BK394 := n3_
        have BK404 := n4_
        have GW404 := n5_
        have GE404 := n6_
        have NB0_404 := n7_
        have NB404_0 := n8_
        have NB387_404 := n9_
        have NB404_387 := n10_
        have NB394_404 := n11_
        have NB404_394 := n12_
        have HI0 := n13_
        have HK := n14_
        have HB := n15_
        clear n0_ n1_ n2_ n3_ n4_ n5_ n6_ n7_ n8_ n9_ n10_ n11_ n12_ n13_ n14_ n15_
        have hHeld := hS_
        obtain ⟨Ao17, co17, eo17⟩ := Kd.R_slice HO397.out
        subst eo17
        refine norm_ (a' := ?_) ?_ ?_
        rotate_left
        ·simp only [putAll, Act.put, List.setIfInBounds_toArray, List.set_cons_zero, List.set_cons_succ]
         rfl
        refine two_ (i := 3) (j := 4) (Ni := some 11) (Nj := some 12) #[true, true, true, true, false, false, true, false] #[true, true, true, false, true, false, true, false] rfl rfl rfl rfl (two_of HT_.out (by kernel_rfl)) (by decide) (by decide) (fun K hK => ?_) (fun K hK => ?_)
        ·skip
         refine goes_ Try.func144 (by kernel_rfl) rfl #[.pointer (some ⟨g, 0, none⟩), .slice Ao17 y395.length co17] (by rfl) rfl rfl arg_ ?_
         with_reducible refine (spec_l01Pick.calls g s0_0 t392 t393 _ _ y395 t398 t399 t400 w0 _ ?side1 ?side2 ?side3 ?side4 ?side5 A3.out).mono ?_
         (case side1 => exact IsS131.gs_)
         (case side2 => exact IsS131.hs_)
         (case side3 => exact Kd.C_below (Kd.R_reads' HO397.out).2.2 bgo_)
         (case side4 => exact (Kd.R_reads' HO397.out).2.1)
         (case side5 => exact far_slice (IsS131.own_ne HI0.out HO397.out (by decide)))
         rintro e w18 ⟨rfl, hi, hb, hk⟩
         refine ⟨_, rfl, ?_⟩
         replace BK387 := m_ (KeepBut.blk hk (blk_below BK387.out bgo_) NB387_0.out (by simp))
         replace HO391 := m_ (Kd.V_mono (Kd.V_keep (Kd.V_mono (ok := fun k_ => (((w.heap.size ≤ k_)) ∧ (some k_ ≠ (.slice Ao17 y395.length co17 : Value).ownBlock ∧ (k_ ≠ g ∧ (k_ ≠ gb387 ∧ (k_ ≠ gb394 ∧ k_ ≠ gb404)))))) (Kd.V_below HO391.out bgo_) (fun k_ hk_ => (⟨hk_, hk_.2.2.1⟩ : _ ∧ k_ ≠ g))) hk (fun _ h => h.2)) (fun _ h => h.1))
         replace BK394 := m_ (KeepBut.blk hk (blk_below BK394.out bgo_) NB394_0.out (by simp))
         replace HO397 := m_ (Kd.R_mono (Kd.R_keep (IsS131.apart (show IsS131 w0 _ g s0_0 t392 t393 from IsS131.gs_) (Kd.R_below HO397.out bgo_) (by decide)) hk (fun _ h => h.2)) (fun _ h => h.1))
         replace BK404 := m_ (KeepBut.blk hk (blk_below BK404.out bgo_) NB404_0.out (by simp))
         replace HK := m_ (KeepBut.trans kp_ hk (.inl rfl))
         replace HB := m_ (hb)
         replace HI0 := m_ (hi)
         refine hK.out _ _ ⟨bc0_ BK394.out, bc1_ BK394.out⟩ (fun hHeld => ?_)
         clear hK K
         refine nm_ ?_
         exact nj_ (hJ2_3_6 (.slice Ao17 y395.length co17, gb404) _ ⟨hHeld, (Kd.V_below HO391.out bgo_), (Kd.R_below HO397.out bgo_), (blk_below BK387.out bgo_), (blk_below BK394.out bgo_), (blk_below BK404.out bgo_), GW404.out, GE404.out, NB0_404.out, NB404_0.out, NB387_404.out, NB404_387.out, NB394_404.out, NB404_394.out, IsS131.gs_, kp_, IsS131.hs_⟩)
        ·skip
         refine Kd.N_lit_step (Kd.slice 2 (Kd.int .i64)) _ 29 ?hg (N' := 12) ?hd (xs := ([] : List (List Int))) (inner := []) (ok := (fun k_ => (w.heap.size ≤ k_) ∧ some k_ ≠ ((.slice Ao17 y395.length co17) : Value).ownBlock ∧ k_ ≠ gb387 ∧ k_ ≠ gb394 ∧ k_ ≠ gb404 ∧ k_ ≠ g)) (okp := (fun k_ => (w.heap.size ≤ k_) ∧ some k_ ≠ ((.slice Ao17 y395.length co17) : Value).ownBlock ∧ k_ ≠ gb387 ∧ k_ ≠ gb394 ∧ k_ ≠ gb404 ∧ k_ ≠ g)) ?hr ?hp (fun _ hk => hk) ((show ∀ k_, w16.heap.size ≤ k_ → (fun k_ => (w.heap.size ≤ k_) ∧ some k_ ≠ ((.slice Ao17 y395.length co17) : Value).ownBlock ∧ k_ ≠ gb387 ∧ k_ ≠ gb394 ∧ k_ ≠ gb404 ∧ k_ ≠ g) k_ from fun k_ hk => ⟨(Nat.le_trans (keep_size (w := w) (g := g) (row := none) kp_) hk), Kd.fresh' (Kd.R_lt (Kd.R_below HO397.out bgo_)) k_ hk, Kd.freshB (g := gb387) (o := .cells #[.int .i64 0, .slice none 0 0, .int .i64 0, .slice none 0 0] 28 (0, 0)) (blk_below BK387.out bgo_) k_ hk, Kd.freshB (g := gb394) (o := .cells #[.int .i64 t388, .slice Ao10 t389.length co10] 26 (0, 0)) (blk_below BK394.out bgo_) k_ hk, Kd.freshB (g := gb404) (o := .cells #[.int .i64 0, .slice none 0 0, .int .i64 0, .slice none 0 0] 28 (0, 0)) (blk_below BK404.out bgo_) k_ hk, IsS131.fresh IsS131.gs_ k_ hk⟩) _ (Nat.le_refl _)) (Below.refl _ _) (Nat.le_refl _) (by simp) ?_; (case hd => rfl); (case hg => rfl); (case hr => first | (go_simp; done) | (go_simp; rfl)); (case hp => exact (Reps.none _ _))
         intro v402 w17 ho18 hb hg_ hnew_
         clear hg_ hnew_
         rw [← Ny401.out] at ho18
         replace HO391 := m_ (Kd.V_elder' (Kd.V_below HO391.out bgo_) (Kd.N_base ho18) hb)
         replace HO397 := m_ (Kd.R_below (Kd.R_below HO397.out bgo_) hb)
         have HO403 := m_ (Kd.N_lower ho18 (keep_size (w := w) (g := g) (row := none) kp_))
         replace BK387 := m_ (bb_ BK387.out hb)
         replace BK394 := m_ (bb_ BK394.out hb)
         replace BK404 := m_ (bb_ BK404.out hb)
         replace HK := m_ (KeepBut.trans kp_ (KeepBut.of_below hb g none) (.inl rfl))
         replace HB := m_ (below_step IsS131.hs_ hb)
         replace HI0 := m_ (IsS131.below IsS131.gs_ hb)
         clear hb ho18
         refine hK.out _ _ ⟨bc0_ BK394.out, bc1_ BK394.out⟩ (fun hHeld => ?_)
         clear hK K
         refine nm_ ?_
         exact nj_ (hJ2_4_6 ((.slice Ao17 y395.length co17), v402, gb404) _ ⟨hHeld, (Kd.V_below (Kd.V_mono HO391.out (fun _ hk => ⟨hk.1.1, ⟨hk.1.2.1, ⟨hk.2, ⟨hk.1.2.2.1, ⟨hk.1.2.2.2.1, ⟨hk.1.2.2.2.2.1, hk.1.2.2.2.2.2⟩⟩⟩⟩⟩⟩)) bgo_), (Kd.R_below HO397.out bgo_), (Kd.N_below (Kd.N_mono HO403.out (fun _ hk => ⟨hk.1, ⟨hk.2.1, ⟨hk.2.2.2.2.2, ⟨hk.2.2.1, ⟨hk.2.2.2.1, hk.2.2.2.2.1⟩⟩⟩⟩⟩)) bgo_), (blk_below BK387.out bgo_), (blk_below BK394.out bgo_), (blk_below BK404.out bgo_), GW404.out, GE404.out, NB0_404.out, NB404_0.out, NB387_404.out, NB404_387.out, NB394_404.out, NB404_394.out, IsS131.gs_, kp_, IsS131.hs_⟩)
      ·skip
       rintro ⟨v396, v402⟩ w17 ⟨hS_, h0_, h1_, h2_, h3_, h4_, h5_, h6_, h7_⟩
       try dsimp only at hS_ h0_ h1_ h2_ h3_ h4_ h5_ h6_ h7_
       have n0_ := m_ h0_
       have n1_ := m_ h1_
       have n2_ := m_ h2_
       have n3_ := m_ h3_
       have n4_ := m_ h4_
       have n5_ := m_ h5_
       have n6_ := m_ h6_
       have n7_ := m_ h7_
       clear HO391
       clear BK387
       clear BK394
       clear HI0
       clear HK
       clear HB
       clear h0_ h1_ h2_ h3_ h4_ h5_ h6_ h7_
       have HO391 := n0_
       have HO397 := n1_
       have HO403 := n2_
       have BK387 := n3_
       have BK394 := n4_
       have HI0 := n5_
       have HK := n6_
       have HB := n7_
       clear n0_ n1_ n2_ n3_ n4_ n5_ n6_ n7_
       have hHeld := hS_
       obtain ⟨Ao18, co18, eo18⟩ := Kd.R_slice HO397.out
       subst eo18
       refine norm_ (a' := ?_) ?_ ?_
       rotate_left
       ·simp only [putAll, Act.put, List.setIfInBounds_toArray, List.set_cons_zero, List.set_cons_succ]
        rfl
       refine two_ (i := 3) (j := 6) (Ni := some 11) (Nj := some 4) #[true, true, true, true, true, false, false, false] #[true, true, true, false, true, false, true, false] rfl rfl rfl rfl (two_of HT_.out (by kernel_rfl)) (by decide) (by decide) (fun K hK => ?_) (fun K hK => ?_)
       ·skip
        refine goes_ Try.func144 (by kernel_rfl) rfl #[.pointer (some ⟨g, 0, none⟩), .slice Ao18 y395.length co18] (by rfl) rfl rfl arg_ ?_
        with_reducible refine (spec_l01Pick.calls g s0_0 t392 t393 _ _ y395 t398 t399 t400 w0 _ ?side1 ?side2 ?side3 ?side4 ?side5 A3.out).mono ?_
        (case side1 => exact IsS131.gs_)
        (case side2 => exact IsS131.hs_)
        (case side3 => exact Kd.C_below (Kd.R_reads' HO397.out).2.2 bgo_)
        (case side4 => exact (Kd.R_reads' HO397.out).2.1)
        (case side5 => exact far_slice (IsS131.own_ne HI0.out HO397.out (by decide)))
        rintro e w19 ⟨rfl, hi, hb, hk⟩
        refine ⟨_, rfl, ?_⟩
        replace BK387 := m_ (KeepBut.blk hk (blk_below BK387.out bgo_) NB387_0.out (by simp))
        replace HO391 := m_ (Kd.V_mono (Kd.V_keep (Kd.V_mono (ok := fun k_ => (((w.heap.size ≤ k_)) ∧ (some k_ ≠ (.slice Ao18 y395.length co18 : Value).ownBlock ∧ (some k_ ≠ (v402 : Value).ownBlock ∧ (k_ ≠ g ∧ (k_ ≠ gb387 ∧ k_ ≠ gb394)))))) (Kd.V_below HO391.out bgo_) (fun k_ hk_ => (⟨hk_, hk_.2.2.2.1⟩ : _ ∧ k_ ≠ g))) hk (fun _ h => h.2)) (fun _ h => h.1))
        replace BK394 := m_ (KeepBut.blk hk (blk_below BK394.out bgo_) NB394_0.out (by simp))
        replace HO397 := m_ (Kd.R_mono (Kd.R_keep (IsS131.apart (show IsS131 w0 _ g s0_0 t392 t393 from IsS131.gs_) (Kd.R_below HO397.out bgo_) (by decide)) hk (fun _ h => h.2)) (fun _ h => h.1))
        replace HO403 := m_ (Kd.N_mono (Kd.N_keep (Kd.N_mono (ok := fun k_ => (((w.heap.size ≤ k_)) ∧ (some k_ ≠ (.slice Ao18 y395.length co18 : Value).ownBlock ∧ (k_ ≠ g ∧ (k_ ≠ gb387 ∧ k_ ≠ gb394))))) (Kd.N_below HO403.out bgo_) (fun k_ hk_ => (⟨hk_, hk_.2.2.1⟩ : _ ∧ k_ ≠ g))) hk (fun _ h => h.2)) (fun _ h => h.1))
        replace HK := m_ (KeepBut.trans kp_ hk (.inl rfl))
        replace HB := m_ (hb)
        replace HI0 := m_ (hi)
        obtain ⟨Ao20, co20, eo20⟩ := Kd.N_slice HO403.out
        subst eo20
        refine hK.out _ _ ⟨bc0_ BK394.out, bc1_ BK394.out⟩ (fun hHeld => ?_)
        clear hK K
        refine nm_ ?_
        refine pk_ 5 8 13 63 ?_
        exact nj_ (hJ2_3_4 (.slice Ao18 y395.length co18, .slice Ao20 y401.length co20) _ ⟨hHeld, (Kd.V_below HO391.out bgo_), (Kd.R_below HO397.out bgo_), (Kd.N_below HO403.out bgo_), (blk_below BK387.out bgo_), (blk_below BK394.out bgo_), IsS131.gs_, kp_, IsS131.hs_⟩)
       ·skip
        refine box_step ?hg (N := 4) ?hd (cs := #[.int .i64 0, .slice none 0 0, .int .i64 0, .slice none 0 0]) (t := 28) ?hr ?_; (case hd => rfl); (case hg => rfl); (case hr => first | (go_simp; done) | (go_simp; rfl))
        intro gb404 hg w18 hbox hb
        replace HO391 := m_ (Kd.V_below (Kd.V_elderB (Kd.V_below HO391.out bgo_) gb404 (Nat.le_of_eq hg.symm)) hb)
        replace HO397 := m_ (Kd.R_below (Kd.R_below HO397.out bgo_) hb)
        replace HO403 := m_ (Kd.N_below (Kd.N_elderB (Kd.N_below HO403.out bgo_) gb404 (Nat.le_of_eq hg.symm)) hb)
        replace HB := m_ (below_step IsS131.hs_ hb)
        have BK404 := m_ (hbox)
        have GW404 := m_ ((by rw [hg]; exact (keep_size (w := w) (g := g) (row := none) kp_) : w.heap.size ≤ gb404))
        have GE404 := m_ ((Nat.le_trans HW0.out (by rw [hg]; exact (keep_size (w := w) (g := g) (row := none) kp_) : w.heap.size ≤ gb404) : w0.heap.size ≤ gb404))
        replace HK := m_ (KeepBut.trans kp_ (KeepBut.of_below hb g none) (.inl rfl))
        have NB387_404 := m_ ((by rw [hg]; exact Nat.ne_of_lt (blk_lt (blk_below BK387.out bgo_)) : gb387 ≠ gb404))
        have NB404_387 := m_ NB387_404.out.symm
        replace BK387 := m_ (bb_ BK387.out hb)
        have NB394_404 := m_ ((by rw [hg]; exact Nat.ne_of_lt (blk_lt (blk_below BK394.out bgo_)) : gb394 ≠ gb404))
        have NB404_394 := m_ NB394_404.out.symm
        replace BK394 := m_ (bb_ BK394.out hb)
        have NB0_404 := m_ ((by rw [hg]; exact Nat.ne_of_lt (IsS131.lt (show IsS131 w0 _ g s0_0 t392 t393 from IsS131.gs_)) : g ≠ gb404))
        have NB404_0 := m_ NB0_404.out.symm
        replace HI0 := m_ (IsS131.below IsS131.gs_ hb)
        clear hb hbox hg
        refine hK.out _ _ ⟨bc0_ BK394.out, bc1_ BK394.out⟩ (fun hHeld => ?_)
        clear hK K
        refine nm_ ?_
        exact nj_ (hJ2_4_6 ((.slice Ao18 y395.length co18), v402, gb404) _ ⟨hHeld, (Kd.V_below (Kd.V_mono HO391.out (fun _ hk => ⟨hk.1.1, ⟨hk.1.2.1, ⟨hk.1.2.2.1, ⟨hk.1.2.2.2.1, ⟨hk.1.2.2.2.2.1, ⟨hk.1.2.2.2.2.2, hk.2⟩⟩⟩⟩⟩⟩)) bgo_), (Kd.R_below HO397.out bgo_), (Kd.N_below (Kd.N_mono HO403.out (fun _ hk => ⟨hk.1.1, ⟨hk.1.2.1, ⟨hk.1.2.2.1, ⟨hk.1.2.2.2.1, ⟨hk.1.2.2.2.2, hk.2⟩⟩⟩⟩⟩)) bgo_), (blk_below BK387.out bgo_), (blk_below BK394.out bgo_), (blk_below BK404.out bgo_), GW404.out, GE404.out, NB0_404.out, NB404_0.out, NB387_404.out, NB404_387.out, NB394_404.out, NB404_394.out, IsS131.gs_, kp_, IsS131.hs_⟩)
     ·skip
      rintro v396 w17 ⟨hS_, h0_, h1_, h2_, h3_, h4_, h5_, h6_⟩
      try dsimp only at hS_ h0_ h1_ h2_ h3_ h4_ h5_ h6_
      have n0_ := m_ h0_
      have n1_ := m_ h1_
      have n2_ := m_ h2_
      have n3_ := m_ h3_
      have n4_ := m_ h4_
      have n5_ := m_ h5_
      have n6_ := m_ h6_
      clear HO391
      clear BK387
      clear BK394
      clear HI0
      clear HK
      clear HB
      clear h0_ h1_ h2_ h3_ h4_ h5_ h6_
      have HO391 := n0_
      have HO397 := n1_
      have BK387 := n2_
      have BK394 := n3_
      have HI0 := n4_
      have HK := n5_
      have HB := n6_
      clear n0_ n1_ n2_ n3_ n4_ n5_ n6_
      have hHeld := hS_
      refine norm_ (a' := ?_) ?_ ?_
      rotate_left
      ·simp only [putAll, Act.put, List.setIfInBounds_toArray, List.set_cons_zero, List.set_cons_succ]
       rfl
      refine two_ (i := 4) (j := 6) (Ni := some 12) (Nj := some 4) #[true, true, true, true, true, false, false, false] #[true, true, true, true, false, false, true, false] rfl rfl rfl rfl (two_of HT_.out (by kernel_rfl)) (by decide) (by decide) (fun K hK => ?_) (fun K hK => ?_)
      ·skip
       refine Kd.N_lit_step (Kd.slice 2 (Kd.int .i64)) _ 29 ?hg (N' := 12) ?hd (xs := ([] : List (List Int))) (inner := []) (ok := (fun k_ => (w.heap.size ≤ k_) ∧ some k_ ≠ (v396 : Value).ownBlock ∧ k_ ≠ gb387 ∧ k_ ≠ gb394 ∧ k_ ≠ g)) (okp := (fun k_ => (w.heap.size ≤ k_) ∧ some k_ ≠ (v396 : Value).ownBlock ∧ k_ ≠ gb387 ∧ k_ ≠ gb394 ∧ k_ ≠ g)) ?hr ?hp (fun _ hk => hk) ((show ∀ k_, w17.heap.size ≤ k_ → (fun k_ => (w.heap.size ≤ k_) ∧ some k_ ≠ (v396 : Value).ownBlock ∧ k_ ≠ gb387 ∧ k_ ≠ gb394 ∧ k_ ≠ g) k_ from fun k_ hk => ⟨(Nat.le_trans (keep_size (w := w) (g := g) (row := none) kp_) hk), Kd.fresh' (Kd.R_lt (Kd.R_below HO397.out bgo_)) k_ hk, Kd.freshB (g := gb387) (o := .cells #[.int .i64 0, .slice none 0 0, .int .i64 0, .slice none 0 0] 28 (0, 0)) (blk_below BK387.out bgo_) k_ hk, Kd.freshB (g := gb394) (o := .cells #[.int .i64 t388, .slice Ao10 t389.length co10] 26 (0, 0)) (blk_below BK394.out bgo_) k_ hk, IsS131.fresh IsS131.gs_ k_ hk⟩) _ (Nat.le_refl _)) (Below.refl _ _) (Nat.le_refl _) (by simp) ?_; (case hd => rfl); (case hg => rfl); (case hr => first | (go_simp; done) | (go_simp; rfl)); (case hp => exact (Reps.none _ _))
       intro v402 w18 ho19 hb hg_ hnew_
       clear hg_ hnew_
       rw [← Ny401.out] at ho19
       replace HO391 := m_ (Kd.V_elder' (Kd.V_below HO391.out bgo_) (Kd.N_base ho19) hb)
       replace HO397 := m_ (Kd.R_below (Kd.R_below HO397.out bgo_) hb)
       have HO403 := m_ (Kd.N_lower ho19 (keep_size (w := w) (g := g) (row := none) kp_))
       replace BK387 := m_ (bb_ BK387.out hb)
       replace BK394 := m_ (bb_ BK394.out hb)
       replace HK := m_ (KeepBut.trans kp_ (KeepBut.of_below hb g none) (.inl rfl))
       replace HB := m_ (below_step IsS131.hs_ hb)
       replace HI0 := m_ (IsS131.below IsS131.gs_ hb)
       clear hb ho19
       obtain ⟨Ao20, co20, eo20⟩ := Kd.N_slice HO403.out
       subst eo20
       refine hK.out _ _ ⟨bc0_ BK394.out, bc1_ BK394.out⟩ (fun hHeld => ?_)
       clear hK K
       refine nm_ ?_
       refine pk_ 5 8 13 63 ?_
       exact nj_ (hJ2_3_4 (v396, .slice Ao20 y401.length co20) _ ⟨hHeld, (Kd.V_below (Kd.V_mono HO391.out (fun _ hk => ⟨hk.1.1, ⟨hk.1.2.1, ⟨hk.2, ⟨hk.1.2.2.1, ⟨hk.1.2.2.2.1, hk.1.2.2.2.2⟩⟩⟩⟩⟩)) bgo_), (Kd.R_below HO397.out bgo_), (Kd.N_below (Kd.N_mono HO403.out (fun _ hk => ⟨hk.1, ⟨hk.2.1, ⟨hk.2.2.2.2, ⟨hk.2.2.1, hk.2.2.2.1⟩⟩⟩⟩)) bgo_), (blk_below BK387.out bgo_), (blk_below BK394.out bgo_), IsS131.gs_, kp_, IsS131.hs_⟩)
      ·skip
       refine box_step ?hg (N := 4) ?hd (cs := #[.int .i64 0, .slice none 0 0, .int .i64 0, .slice none 0 0]) (t := 28) ?hr ?_; (case hd => rfl); (case hg => rfl); (case hr => first | (go_simp; done) | (go_simp; rfl))
       intro gb404 hg w18 hbox hb
       replace HO391 := m_ (Kd.V_below (Kd.V_elderB (Kd.V_below HO391.out bgo_) gb404 (Nat.le_of_eq hg.symm)) hb)
       replace HO397 := m_ (Kd.R_below (Kd.R_below HO397.out bgo_) hb)
       replace HB := m_ (below_step IsS131.hs_ hb)
       have BK404 := m_ (hbox)
       have GW404 := m_ ((by rw [hg]; exact (keep_size (w := w) (g := g) (row := none) kp_) : w.heap.size ≤ gb404))
       have GE404 := m_ ((Nat.le_trans HW0.out (by rw [hg]; exact (keep_size (w := w) (g := g) (row := none) kp_) : w.heap.size ≤ gb404) : w0.heap.size ≤ gb404))
       replace HK := m_ (KeepBut.trans kp_ (KeepBut.of_below hb g none) (.inl rfl))
       have NB387_404 := m_ ((by rw [hg]; exact Nat.ne_of_lt (blk_lt (blk_below BK387.out bgo_)) : gb387 ≠ gb404))
       have NB404_387 := m_ NB387_404.out.symm
       replace BK387 := m_ (bb_ BK387.out hb)
       have NB394_404 := m_ ((by rw [hg]; exact Nat.ne_of_lt (blk_lt (blk_below BK394.out bgo_)) : gb394 ≠ gb404))
       have NB404_394 := m_ NB394_404.out.symm
       replace BK394 := m_ (bb_ BK394.out hb)
       have NB0_404 := m_ ((by rw [hg]; exact Nat.ne_of_lt (IsS131.lt (show IsS131 w0 _ g s0_0 t399 t400 from IsS131.gs_)) : g ≠ gb404))
       have NB404_0 := m_ NB0_404.out.symm
       replace HI0 := m_ (IsS131.below IsS131.gs_ hb)
       clear hb hbox hg
       refine hK.out _ _ ⟨bc0_ BK394.out, bc1_ BK394.out⟩ (fun hHeld => ?_)
       clear hK K
       refine nm_ ?_
       exact nj_ (hJ2_3_6 (v396, gb404) _ ⟨hHeld, (Kd.V_below (Kd.V_mono HO391.out (fun _ hk => ⟨hk.1.1, ⟨hk.1.2.1, ⟨hk.1.2.2.1, ⟨hk.1.2.2.2.1, ⟨hk.1.2.2.2.2, hk.2⟩⟩⟩⟩⟩)) bgo_), (Kd.R_below HO397.out bgo_), (blk_below BK387.out bgo_), (blk_below BK394.out bgo_), (blk_below BK404.out bgo_), GW404.out, GE404.out, NB0_404.out, NB404_0.out, NB387_404.out, NB404_387.out, NB394_404.out, NB404_394.out, IsS131.gs_, kp_, IsS131.hs_⟩)
    ·skip
     rintro ⟨v396, v402, gb404⟩ w18 ⟨hS_, h0_, h1_, h2_, h3_, h4_, h5_, h6_, h7_, h8_, h9_, h10_, h11_, h12_, h13_, h14_, h15_, h16_⟩
     try dsimp only at hS_ h0_ h1_ h2_ h3_ h4_ h5_ h6_ h7_ h8_ h9_ h10_ h11_ h12_ h13_ h14_ h15_ h16_
     have n0_ := m_ h0_
     have n1_ := m_ h1_
     have n2_ := m_ h2_
     have n3_ := m_ h3_
     have n4_ := m_ h4_
     have n5_ := m_ h5_
     have n6_ := m_ h6_
     have n7_ := m_ h7_
     have n8_ := m_ h8_
     have n9_ := m_ h9_
     have n10_ := m_ h10_
     have n11_ := m_ h11_
     have n12_ := m_ h12_
     have n13_ := m_ h13_
     have n14_ := m_ h14_
     have n15_ := m_ h15_
     have n16_ := m_ h16_
     clear HO391
     clear BK387
     clear BK394
     clear HI0
     clear HK
     clear HB
     clear h0_ h1_ h2_ h3_ h4_ h5_ h6_ h7_ h8_ h9_ h10_ h11_ h12_ h13_ h14_ h15_ h16_
     have HO391 := n0_
     have HO397 := n1_
     have HO403 := n2_
     have BK387 := n3_
     have BK394 := n4_
     have BK404 := n5_
     have GW404 := n6_
     have GE404 := n7_
     have NB0_404 := n8_
     have NB404_0 := n9_
     have NB387_404 := n10_
     have NB404_387 := n11_
     have NB394_404 := n12_
     have NB404_394 := n13_
     have HI0 := n14_
     have HK := n15_
     have HB := n16_
     clear n0_ n1_ n2_ n3_ n4_ n5_ n6_ n7_ n8_ n9_ n10_ n11_ n12_ n13_ n14_ n15_ n16_
     have hHeld := hS_
     obtain ⟨Ao19, co19, eo19⟩ := Kd.R_slice HO397.out
     subst eo19
     refine norm_ (a' := ?_) ?_ ?_
     rotate_left
     ·simp only [putAll, Act.put, List.setIfInBounds_toArray, List.set_cons_zero, List.set_cons_succ]
      rfl
     refine on_ 3 8 (some 11) 95 (fun K hK => ?_)
     refine goes_ Try.func144 (by kernel_rfl) rfl #[.pointer (some ⟨g, 0, none⟩), .slice Ao19 y395.length co19] (by rfl) rfl rfl arg_ ?_
     with_reducible refine (spec_l01Pick.calls g s0_0 t392 t393 _ _ y395 t398 t399 t400 w0 _ ?side1 ?side2 ?side3 ?side4 ?side5 A3.out).mono ?_
     (case side1 => exact IsS131.gs_)
     (case side2 => exact IsS131.hs_)
     (case side3 => exact Kd.C_below (Kd.R_reads' HO397.out).2.2 bgo_)
     (case side4 => exact (Kd.R_reads' HO397.out).2.1)
     (case side5 => exact far_slice (IsS131.own_ne HI0.out HO397.out (by decide)))
     rintro e w20 ⟨rfl, hi, hb, hk⟩
     refine ⟨_, rfl, ?_⟩
     replace BK387 := m_ (KeepBut.blk hk (blk_below BK387.out bgo_) NB387_0.out (by simp))
     replace HO391 := m_ (Kd.V_mono (Kd.V_keep (Kd.V_mono (ok := fun k_ => (((w.heap.size ≤ k_)) ∧ (some k_ ≠ (.slice Ao19 y395.length co19 : Value).ownBlock ∧ (some k_ ≠ (v402 : Value).ownBlock ∧ (k_ ≠ g ∧ (k_ ≠ gb387 ∧ (k_ ≠ gb394 ∧ k_ ≠ gb404))))))) (Kd.V_below HO391.out bgo_) (fun k_ hk_ => (⟨hk_, hk_.2.2.2.1⟩ : _ ∧ k_ ≠ g))) hk (fun _ h => h.2)) (fun _ h => h.1))
     replace BK394 := m_ (KeepBut.blk hk (blk_below BK394.out bgo_) NB394_0.out (by simp))
     replace HO397 := m_ (Kd.R_mono (Kd.R_keep (IsS131.apart (show IsS131 w0 _ g s0_0 t392 t393 from IsS131.gs_) (Kd.R_below HO397.out bgo_) (by decide)) hk (fun _ h => h.2)) (fun _ h => h.1))
     replace HO403 := m_ (Kd.N_mono (Kd.N_keep (Kd.N_mono (ok := fun k_ => (((w.heap.size ≤ k_)) ∧ (some k_ ≠ (.slice Ao19 y395.length co19 : Value).ownBlock ∧ (k_ ≠ g ∧ (k_ ≠ gb387 ∧ (k_ ≠ gb394 ∧ k_ ≠ gb404)))))) (Kd.N_below HO403.out bgo_) (fun k_ hk_ => (⟨hk_, hk_.2.2.1⟩ : _ ∧ k_ ≠ g))) hk (fun _ h => h.2)) (fun _ h => h.1))
     replace BK404 := m_ (KeepBut.blk hk (blk_below BK404.out bgo_) NB404_0.out (by simp))
     replace HK := m_ (KeepBut.trans kp_ hk (.inl rfl))
     replace HB := m_ (hb)
     replace HI0 := m_ (hi)
     obtain ⟨Ao21, co21, eo21⟩ := Kd.N_slice HO403.out
     subst eo21
     refine hK.out _ _ ⟨bc0_ BK394.out, bc1_ BK394.out⟩ (fun hHeld => ?_)
     clear hK K
     refine nm_ ?_
     refine pk_ 5 8 13 127 ?_
     exact nj_ (hJ2_3_4_6 (.slice Ao19 y395.length co19, .slice Ao21 y401.length co21, gb404) _ ⟨hHeld, (Kd.V_below HO391.out bgo_), (Kd.R_below HO397.out bgo_), (Kd.N_below HO403.out bgo_), (blk_below BK387.out bgo_), (blk_below BK394.out bgo_), (blk_below BK404.out bgo_), GW404.out, GE404.out, NB0_404.out, NB404_0.out, NB387_404.out, NB404_387.out, NB394_404.out, NB404_394.out, IsS131.gs_, kp_, IsS131.hs_⟩)
   ·skip
    rintro ⟨v396, gb404⟩ w18 ⟨hS_, h0_, h1_, h2_, h3_, h4_, h5_, h6_, h7_, h8_, h9_, h10_, h11_, h12_, h13_, h14_, h15_⟩
    try dsimp only at hS_ h0_ h1_ h2_ h3_ h4_ h5_ h6_ h7_ h8_ h9_ h10_ h11_ h12_ h13_ h14_ h15_
    have n0_ := m_ h0_
    have n1_ := m_ h1_
    have n2_ := m_ h2_
    have n3_ := m_ h3_
    have n4_ := m_ h4_
    have n5_ := m_ h5_
    have n6_ := m_ h6_
    have n7_ := m_ h7_
    have n8_ := m_ h8_
    have n9_ := m_ h9_
    have n10_ := m_ h10_
    have n11_ := m_ h11_
    have n12_ := m_ h12_
    have n13_ := m_ h13_
    have n14_ := m_ h14_
    have n15_ := m_ h15_
    clear HO391
    clear BK387
    clear BK394
    clear HI0
    clear HK
    clear HB
    clear h0_ h1_ h2_ h3_ h4_ h5_ h6_ h7_ h8_ h9_ h10_ h11_ h12_ h13_ h14_ h15_
    have HO391 := n0_
    have HO397 := n1_
    have BK387 := n2_
    have BK394 := n3_
    have BK404 := n4_
    have GW404 := n5_
    have GE404 := n6_
    have NB0_404 := n7_
    have NB404_0 := n8_
    have NB387_404 := n9_
    have NB404_387 := n10_
    have NB394_404 := n11_
    have NB404_394 := n12_
    have HI0 := n13_
    have HK := n14_
    have HB := n15_
    clear n0_ n1_ n2_ n3_ n4_ n5_ n6_ n7_ n8_ n9_ n10_ n11_ n12_ n13_ n14_ n15_
    have hHeld := hS_
    refine norm_ (a' := ?_) ?_ ?_
    rotate_left
    ·simp only [putAll, Act.put, List.setIfInBounds_toArray, List.set_cons_zero, List.set_cons_succ]
     rfl
    refine on_ 4 8 (some 12) 95 (fun K hK => ?_)
    refine Kd.N_lit_step (Kd.slice 2 (Kd.int .i64)) _ 29 ?hg (N' := 12) ?hd (xs := ([] : List (List Int))) (inner := []) (ok := (fun k_ => (w.heap.size ≤ k_) ∧ some k_ ≠ (v396 : Value).ownBlock ∧ k_ ≠ gb387 ∧ k_ ≠ gb394 ∧ k_ ≠ gb404 ∧ k_ ≠ g)) (okp := (fun k_ => (w.heap.size ≤ k_) ∧ some k_ ≠ (v396 : Value).ownBlock ∧ k_ ≠ gb387 ∧ k_ ≠ gb394 ∧ k_ ≠ gb404 ∧ k_ ≠ g)) ?hr ?hp (fun _ hk => hk) ((show ∀ k_, w18.heap.size ≤ k_ → (fun k_ => (w.heap.size ≤ k_) ∧ some k_ ≠ (v396 : Value).ownBlock ∧ k_ ≠ gb387 ∧ k_ ≠ gb394 ∧ k_ ≠ gb404 ∧ k_ ≠ g) k_ from fun k_ hk => ⟨(Nat.le_trans (keep_size (w := w) (g := g) (row := none) kp_) hk), Kd.fresh' (Kd.R_lt (Kd.R_below HO397.out bgo_)) k_ hk, Kd.freshB (g := gb387) (o := .cells #[.int .i64 0, .slice none 0 0, .int .i64 0, .slice none 0 0] 28 (0, 0)) (blk_below BK387.out bgo_) k_ hk, Kd.freshB (g := gb394) (o := .cells #[.int .i64 t388, .slice Ao10 t389.length co10] 26 (0, 0)) (blk_below BK394.out bgo_) k_ hk, Kd.freshB (g := gb404) (o := .cells #[.int .i64 0, .slice none 0 0, .int .i64 0, .slice none 0 0] 28 (0, 0)) (blk_below BK404.out bgo_) k_ hk, IsS131.fresh IsS131.gs_ k_ hk⟩) _ (Nat.le_refl _)) (Below.refl _ _) (Nat.le_refl _) (by simp) ?_; (case hd => rfl); (case hg => rfl); (case hr => first | (go_simp; done) | (go_simp; rfl)); (case hp => exact (Reps.none _ _))
    intro v402 w19 ho20 hb hg_ hnew_
    clear hg_ hnew_
    rw [← Ny401.out] at ho20
    replace HO391 := m_ (Kd.V_elder' (Kd.V_below HO391.out bgo_) (Kd.N_base ho20) hb)
    replace HO397 := m_ (Kd.R_below (Kd.R_below HO397.out bgo_) hb)
    have HO403 := m_ (Kd.N_lower ho20 (keep_size (w := w) (g := g) (row := none) kp_))
    replace BK387 := m_ (bb_ BK387.out hb)
    replace BK394 := m_ (bb_ BK394.out hb)
    replace BK404 := m_ (bb_ BK404.out hb)
    replace HK := m_ (KeepBut.trans kp_ (KeepBut.of_below hb g none) (.inl rfl))
    replace HB := m_ (below_step IsS131.hs_ hb)
    replace HI0 := m_ (IsS131.below IsS131.gs_ hb)
    clear hb ho20
    obtain ⟨Ao21, co21, eo21⟩ := Kd.N_slice HO403.out
    subst eo21
    refine hK.out _ _ ⟨bc0_ BK394.out, bc1_ BK394.out⟩ (fun hHeld => ?_)
    clear hK K
    refine nm_ ?_
    refine pk_ 5 8 13 127 ?_
    exact nj_ (hJ2_3_4_6 (v396, .slice Ao21 y401.length co21, gb404) _ ⟨hHeld, (Kd.V_below (Kd.V_mono HO391.out (fun _ hk => ⟨hk.1.1, ⟨hk.1.2.1, ⟨hk.2, ⟨hk.1.2.2.1, ⟨hk.1.2.2.2.1, ⟨hk.1.2.2.2.2.1, hk.1.2.2.2.2.2⟩⟩⟩⟩⟩⟩)) bgo_), (Kd.R_below HO397.out bgo_), (Kd.N_below (Kd.N_mono HO403.out (fun _ hk => ⟨hk.1, ⟨hk.2.1, ⟨hk.2.2.2.2.2, ⟨hk.2.2.1, ⟨hk.2.2.2.1, hk.2.2.2.2.1⟩⟩⟩⟩⟩)) bgo_), (blk_below BK387.out bgo_), (blk_below BK394.out bgo_), (blk_below BK404.out bgo_), GW404.out, GE404.out, NB0_404.out, NB404_0.out, NB387_404.out, NB404_387.out, NB394_404.out, NB404_394.out, IsS131.gs_, kp_, IsS131.hs_⟩)
  ·skip
   rintro ⟨v396, v402⟩ w20 ⟨hS_, h0_, h1_, h2_, h3_, h4_, h5_, h6_, h7_⟩
   try dsimp only at hS_ h0_ h1_ h2_ h3_ h4_ h5_ h6_ h7_
   have n0_ := m_ h0_
   have n1_ := m_ h1_
   have n2_ := m_ h2_
   have n3_ := m_ h3_
   have n4_ := m_ h4_
   have n5_ := m_ h5_
   have n6_ := m_ h6_
   have n7_ := m_ h7_
   clear HO391
   clear BK387
   clear BK394
   clear HI0
   clear HK
   clear HB
   clear h0_ h1_ h2_ h3_ h4_ h5_ h6_ h7_
   have HO391 := n0_
   have HO397 := n1_
   have HO403 := n2_
   have BK387 := n3_
   have BK394 := n4_
   have HI0 := n5_
   have HK := n6_
   have HB := n7_
   clear n0_ n1_ n2_ n3_ n4_ n5_ n6_ n7_
   have hHeld := hS_
   obtain ⟨Ao21, co21, eo21⟩ := Kd.N_slice HO403.out
   subst eo21
   refine norm_ (a' := ?_) ?_ ?_
   rotate_left
   ·simp only [putAll, Act.put, List.setIfInBounds_toArray, List.set_cons_zero, List.set_cons_succ]
    rfl
   refine on_ 6 8 (some 4) 127 (fun K hK => ?_)
   refine box_step ?hg (N := 4) ?hd (cs := #[.int .i64 0, .slice none 0 0, .int .i64 0, .slice none 0 0]) (t := 28) ?hr ?_; (case hd => rfl); (case hg => rfl); (case hr => first | (go_simp; done) | (go_simp; rfl))
   intro gb404 hg w22 hbox hb
   replace HO391 := m_ (Kd.V_below (Kd.V_elderB (Kd.V_below HO391.out bgo_) gb404 (Nat.le_of_eq hg.symm)) hb)
   replace HO397 := m_ (Kd.R_below (Kd.R_below HO397.out bgo_) hb)
   replace HO403 := m_ (Kd.N_below (Kd.N_elderB (Kd.N_below HO403.out bgo_) gb404 (Nat.le_of_eq hg.symm)) hb)
   replace HB := m_ (below_step IsS131.hs_ hb)
   have BK404 := m_ (hbox)
   have GW404 := m_ ((by rw [hg]; exact (keep_size (w := w) (g := g) (row := none) kp_) : w.heap.size ≤ gb404))
   have GE404 := m_ ((Nat.le_trans HW0.out (by rw [hg]; exact (keep_size (w := w) (g := g) (row := none) kp_) : w.heap.size ≤ gb404) : w0.heap.size ≤ gb404))
   replace HK := m_ (KeepBut.trans kp_ (KeepBut.of_below hb g none) (.inl rfl))
   have NB387_404 := m_ ((by rw [hg]; exact Nat.ne_of_lt (blk_lt (blk_below BK387.out bgo_)) : gb387 ≠ gb404))
   have NB404_387 := m_ NB387_404.out.symm
   replace BK387 := m_ (bb_ BK387.out hb)
   have NB394_404 := m_ ((by rw [hg]; exact Nat.ne_of_lt (blk_lt (blk_below BK394.out bgo_)) : gb394 ≠ gb404))
   have NB404_394 := m_ NB394_404.out.symm
   replace BK394 := m_ (bb_ BK394.out hb)
   have NB0_404 := m_ ((by rw [hg]; exact Nat.ne_of_lt (IsS131.lt (show IsS131 w0 _ g s0_0 t399 t400 from IsS131.gs_)) : g ≠ gb404))
   have NB404_0 := m_ NB0_404.out.symm
   replace HI0 := m_ (IsS131.below IsS131.gs_ hb)
   clear hb hbox hg
   refine hK.out _ _ ⟨bc0_ BK394.out, bc1_ BK394.out⟩ (fun hHeld => ?_)
   clear hK K
   refine nm_ ?_
   exact nj_ (hJ2_3_4_6 (v396, .slice Ao21 y401.length co21, gb404) _ ⟨hHeld, (Kd.V_below (Kd.V_mono HO391.out (fun _ hk => ⟨hk.1.1, ⟨hk.1.2.1, ⟨hk.1.2.2.1, ⟨hk.1.2.2.2.1, ⟨hk.1.2.2.2.2.1, ⟨hk.1.2.2.2.2.2, hk.2⟩⟩⟩⟩⟩⟩)) bgo_), (Kd.R_below HO397.out bgo_), (Kd.N_below (Kd.N_mono HO403.out (fun _ hk => ⟨hk.1.1, ⟨hk.1.2.1, ⟨hk.1.2.2.1, ⟨hk.1.2.2.2.1, ⟨hk.1.2.2.2.2, hk.2⟩⟩⟩⟩⟩)) bgo_), (blk_below BK387.out bgo_), (blk_below BK394.out bgo_), (blk_below BK404.out bgo_), GW404.out, GE404.out, NB0_404.out, NB404_0.out, NB387_404.out, NB404_387.out, NB394_404.out, NB404_394.out, IsS131.gs_, kp_, IsS131.hs_⟩)
 rintro ⟨v396, v402, gb404⟩ w21 ⟨hS_, h0_, h1_, h2_, h3_, h4_, h5_, h6_, h7_, h8_, h9_, h10_, h11_, h12_, h13_, h14_, h15_, h16_⟩
 try dsimp only at hS_ h0_ h1_ h2_ h3_ h4_ h5_ h6_ h7_ h8_ h9_ h10_ h11_ h12_ h13_ h14_ h15_ h16_
 have n0_ := m_ h0_
 have n1_ := m_ h1_
 have n2_ := m_ h2_
 have n3_ := m_ h3_
 have n4_ := m_ h4_
 have n5_ := m_ h5_
 have n6_ := m_ h6_
 have n7_ := m_ h7_
 have n8_ := m_ h8_
 have n9_ := m_ h9_
 have n10_ := m_ h10_
 have n11_ := m_ h11_
 have n12_ := m_ h12_
 have n13_ := m_ h13_
 have n14_ := m_ h14_
 have n15_ := m_ h15_
 have n16_ := m_ h16_
 clear HO391
 clear BK387
 clear BK394
 clear HI0
 clear HK
 clear HB
 clear h0_ h1_ h2_ h3_ h4_ h5_ h6_ h7_ h8_ h9_ h10_ h11_ h12_ h13_ h14_ h15_ h16_
 have HO391 := n0_
 have HO397 := n1_
 have HO403 := n2_
 have BK387 := n3_
 have BK394 := n4_
 have BK404 := n5_
 have GW404 := n6_
 have GE404 := n7_
 have NB0_404 := n8_
 have NB404_0 := n9_
 have NB387_404 := n10_
 have NB404_387 := n11_
 have NB394_404 := n12_
 have NB404_394 := n13_
 have HI0 := n14_
 have HK := n15_
 have HB := n16_
 clear n0_ n1_ n2_ n3_ n4_ n5_ n6_ n7_ n8_ n9_ n10_ n11_ n12_ n13_ n14_ n15_ n16_
 have hHeld := hS_
 obtain ⟨Ao22, co22, eo22⟩ := Kd.N_slice HO403.out
 subst eo22
 refine norm_ (a' := ?_) ?_ ?_
 rotate_left
 ·simp only [putAll, Act.put, List.setIfInBounds_toArray, List.set_cons_zero, List.set_cons_succ]
  rfl
 refine on_ 7 8 none 255 (fun K hK => ?_)
 have hs23 : w21.cell? ⟨gb404, 0, none⟩ = some (.int .i64 0) := bc0_ BK404.out
 have hfs23 := blk_frozen BK404.out 0
 have hns23_0 := NB387_404.out
 have hns23_1 := NB394_404.out
 have hms23_0 := NB404_387.out
 have hms23_1 := NB404_394.out
 have hs24 : w21.cell? ⟨gb404, 1, none⟩ = some (.slice none 0 0) := bc1_ BK404.out
 have hfs24 := blk_frozen BK404.out 1
 have hns24_0 := NB387_404.out
 have hns24_1 := NB394_404.out
 have hms24_0 := NB404_387.out
 have hms24_1 := NB404_394.out
 have hs25 : w21.cell? ⟨gb404, 2, none⟩ = some (.int .i64 0) := bc2_ BK404.out
 have hfs25 := blk_frozen BK404.out 2
 have hns25_0 := NB387_404.out
 have hns25_1 := NB394_404.out
 have hms25_0 := NB404_387.out
 have hms25_1 := NB404_394.out
 have hs26 : w21.cell? ⟨gb404, 3, none⟩ = some (.slice none 0 0) := bc3_ BK404.out
 have hfs26 := blk_frozen BK404.out 3
 have hns26_0 := NB387_404.out
 have hns26_1 := NB394_404.out
 have hms26_0 := NB404_387.out
 have hms26_1 := NB404_394.out
 refine skip_ (w1 := ?_) (by rfl) rfl ?_ ?_
 rotate_left
 ·go_simp
  rfl
 refine hK.out _ _ ⟨((cell_far (p := ⟨gb404, _, none⟩) NB394_404.out _).trans (((cell_far (p := ⟨gb404, _, none⟩) NB394_404.out _).trans (((cell_far (p := ⟨gb404, _, none⟩) NB394_404.out _).trans (((cell_far (p := ⟨gb404, _, none⟩) NB394_404.out _).trans (hHeld.1)))))))), ((cell_far (p := ⟨gb404, _, none⟩) NB394_404.out _).trans (((cell_far (p := ⟨gb404, _, none⟩) NB394_404.out _).trans (((cell_far (p := ⟨gb404, _, none⟩) NB394_404.out _).trans (((cell_far (p := ⟨gb404, _, none⟩) NB394_404.out _).trans (hHeld.2))))))))⟩ (fun hHeld => ?_)
 clear hK K
 refine done_ (done_of HT_.out (by kernel_rfl)) ?_
 try go_wp2
 go_loopg [5] k (fun kq v5 w' => ∃ (x5_1 : Int) (x1001_1 : Int) (x1002_1 : Int) (x405003_1 : List (List Int)) (u405003 : Value), v5 = .int .i64 x5_1 ∧ Aside0 (spec_l04Draw.l0 kq x5_1 s0_0 x1001_1 x1002_1 t388 t389 t388 t389 t398 x405003_1 = some (r1, r2, r3, r4, r5, r6)) ∧ Aside0 (kq ≤ k) ∧ Aside0 (Kd.V (Kd.slice 2 (Kd.int .i64)) 29 w' w.heap.size (fun k_ => (w.heap.size ≤ k_) ∧ some k_ ≠ (u405003 : Value).ownBlock ∧ k_ ≠ gb387 ∧ k_ ≠ gb394 ∧ k_ ≠ gb404 ∧ k_ ≠ g) (.slice Ao10 t389.length co10) t389) ∧ Aside0 (Kd.V (Kd.slice 2 (Kd.int .i64)) 29 w' w.heap.size (fun k_ => (w.heap.size ≤ k_) ∧ some k_ ≠ (u405003 : Value).ownBlock ∧ k_ ≠ gb387 ∧ k_ ≠ gb394 ∧ k_ ≠ gb404 ∧ k_ ≠ g) (.slice Ao10 t389.length co10) t389) ∧ Aside0 (Kd.N (Kd.slice 2 (Kd.int .i64)) 29 w' w.heap.size (fun k_ => (w.heap.size ≤ k_) ∧ k_ ≠ gb387 ∧ k_ ≠ gb394 ∧ k_ ≠ gb404 ∧ k_ ≠ g) u405003 x405003_1) ∧ Aside0 (w'.heap[gb387]? = some (.cells #[.int .i64 0, (.slice none 0 0), .int .i64 0, (.slice none 0 0)] 28 (0, 0))) ∧ Aside0 (w'.heap[gb394]? = some (.cells #[.int .i64 t388, (.slice Ao10 t389.length co10)] 26 (0, 0))) ∧ Aside0 (w'.heap[gb404]? = some (.cells #[.int .i64 t388, (.slice Ao10 t389.length co10), .int .i64 t398, u405003] 28 (0, 0))) ∧ Aside0 (IsS131 w0 w' g s0_0 x1001_1 x1002_1) ∧ Aside0 (KeepBut w w' g none) ∧ Aside0 (Below w0.heap.size w0 w'))
 case atStart => exact ⟨(0), (t399), (t400), (y401), (.slice Ao22 y401.length co22), es_, H', ⟨Nat.le_refl _⟩, ⟨by (with_reducible repeat (first | apply Kd.V_alloc | apply Kd.V_drewN | apply Kd.V_drew)); exact Kd.V_mono (Kd.V_far (p := ⟨gb404, 3, none⟩) (Kd.V_far (p := ⟨gb404, 2, none⟩) (Kd.V_far (p := ⟨gb404, 1, none⟩) (Kd.V_far (p := ⟨gb404, 0, none⟩) (Kd.V_mono HO391.out (fun k_ hk => (⟨hk, hk.2.2.2.2.2.2⟩ : _ ∧ k_ ≠ gb404))) (fun _ hk => hk.2) (.int .i64 t388)) (fun _ hk => hk.2) (.slice Ao10 t389.length co10)) (fun _ hk => hk.2) (.int .i64 t398)) (fun _ hk => hk.2) (.slice Ao22 y401.length co22)) (fun _ hk => ⟨hk.1.1, ⟨hk.1.2.2.1, ⟨hk.1.2.2.2.2.1, ⟨hk.1.2.2.2.2.2.1, ⟨hk.1.2.2.2.2.2.2, hk.1.2.2.2.1⟩⟩⟩⟩⟩)⟩, ⟨by (with_reducible repeat (first | apply Kd.V_alloc | apply Kd.V_drewN | apply Kd.V_drew)); exact Kd.V_mono (Kd.V_far (p := ⟨gb404, 3, none⟩) (Kd.V_far (p := ⟨gb404, 2, none⟩) (Kd.V_far (p := ⟨gb404, 1, none⟩) (Kd.V_far (p := ⟨gb404, 0, none⟩) (Kd.V_mono HO391.out (fun k_ hk => (⟨hk, hk.2.2.2.2.2.2⟩ : _ ∧ k_ ≠ gb404))) (fun _ hk => hk.2) (.int .i64 t388)) (fun _ hk => hk.2) (.slice Ao10 t389.length co10)) (fun _ hk => hk.2) (.int .i64 t398)) (fun _ hk => hk.2) (.slice Ao22 y401.length co22)) (fun _ hk => ⟨hk.1.1, ⟨hk.1.2.2.1, ⟨hk.1.2.2.2.2.1, ⟨hk.1.2.2.2.2.2.1, ⟨hk.1.2.2.2.2.2.2, hk.1.2.2.2.1⟩⟩⟩⟩⟩)⟩, ⟨by (with_reducible repeat (first | apply Kd.N_alloc | apply Kd.N_drewN | apply Kd.N_drew)); exact Kd.N_mono (Kd.N_far (p := ⟨gb404, 3, none⟩) (Kd.N_far (p := ⟨gb404, 2, none⟩) (Kd.N_far (p := ⟨gb404, 1, none⟩) (Kd.N_far (p := ⟨gb404, 0, none⟩) (Kd.N_mono HO403.out (fun k_ hk => (⟨hk, hk.2.2.2.2.2⟩ : _ ∧ k_ ≠ gb404))) (fun _ hk => hk.2) (.int .i64 t388)) (fun _ hk => hk.2) (.slice Ao10 t389.length co10)) (fun _ hk => hk.2) (.int .i64 t398)) (fun _ hk => hk.2) (.slice Ao22 y401.length co22)) (fun _ hk => ⟨hk.1.1, ⟨hk.1.2.2.2.1, ⟨hk.1.2.2.2.2.1, ⟨hk.1.2.2.2.2.2, hk.1.2.2.1⟩⟩⟩⟩)⟩, ⟨bk_⟩, ⟨bk_⟩, ⟨by (with_reducible repeat (first | refine blk_drewN ?_ _ | refine blk_drew ?_ | refine blk_alloc ?_ _)); refine blk_put (cs := #[.int .i64 t388, .slice Ao10 t389.length co10, .int .i64 t398, .slice none 0 0]) ?_ 3 _ rfl; (with_reducible repeat (first | refine blk_drewN ?_ _ | refine blk_drew ?_ | refine blk_alloc ?_ _)); refine blk_put (cs := #[.int .i64 t388, .slice Ao10 t389.length co10, .int .i64 0, .slice none 0 0]) ?_ 2 _ rfl; (with_reducible repeat (first | refine blk_drewN ?_ _ | refine blk_drew ?_ | refine blk_alloc ?_ _)); refine blk_put (cs := #[.int .i64 t388, .slice none 0 0, .int .i64 0, .slice none 0 0]) ?_ 1 _ rfl; (with_reducible repeat (first | refine blk_drewN ?_ _ | refine blk_drew ?_ | refine blk_alloc ?_ _)); refine blk_put (cs := #[.int .i64 0, .slice none 0 0, .int .i64 0, .slice none 0 0]) ?_ 0 _ rfl; (with_reducible repeat (first | refine blk_drewN ?_ _ | refine blk_drew ?_ | refine blk_alloc ?_ _)); exact BK404.out⟩, ⟨IsS131.gs_⟩, ⟨kp_⟩, ⟨IsS131.hs_⟩⟩
 case round =>
  clear H'
  obtain ⟨x5_1, x1001_1, x1002_1, x405003_1, u405003, rfl, HA, HK1, HO_395001, HO_405001, HO_405003, BK387, BK394, BK404, HI0, HK, HB⟩ := hrel
  cases gk with
  | zero => exact absurd HA.out (by simp [spec_l04Draw.l0])
  | succ k1 =>
   have H := HA.out
   clear HA
   simp only [spec_l04Draw.l0] at H
   by_cases c27 : x5_1 < (t389.length : Int)
   ·rw [if_pos c27] at H
    have c27b0 := decide_eq_true c27
    clear c27
    obtain ⟨⟨t405, t408, t409⟩, A28, H⟩ := bnd_ H
    dsimp only at H
    obtain ⟨c29, H⟩ := itn_ H
    have LMc29 := m_ c29
    clear c29
    obtain ⟨y410, Ny410, H⟩ : ∃ y410 : List (List Int), Aside0 (y410 = (x405003_1 ++ [t405])) ∧ (spec_l04Draw.l0 k1 (wrap64 (x5_1 + 1)) s0_0 t408 t409 t388 t389 t388 t389 t398 y410) = some (r1, r2, r3, r4, r5, r6) := ⟨_, ⟨rfl⟩, H⟩
    have H' := m_ H
    clear H
    have hnb30 := NB394_387.out
    have hnc30 := NB387_394.out
    have hnb31 := NB394_404.out
    have hnc31 := NB404_394.out
    have hnb32 := NB394_0.out
    have hnc32 := NB0_394.out
    have hcz33_0 := bc0_ BK394.out
    have hcz33_1 := bc1_ BK394.out
    have hfz33_0 := blk_frozen BK394.out 0
    have hfz33_1 := blk_frozen BK394.out 1
    try go_wp2
    replace HO_395001 := m_ (Kd.V_drew HO_395001.out)
    replace HO_405001 := m_ (Kd.V_drew HO_405001.out)
    replace HO_405003 := m_ (Kd.N_drew HO_405003.out)
    replace BK387 := m_ (blk_drew BK387.out)
    replace BK394 := m_ (blk_drew BK394.out)
    replace BK404 := m_ (blk_drew BK404.out)
    replace HI0 := m_ (IsS131.drew HI0.out)
    replace HK := m_ (keep_drew HK.out)
    replace HB := m_ (below_drew1 HB.out)
    refine start_ (n := 10) (S := fun w' => w'.cell? ⟨gb404, 0, none⟩ = some (.int .i64 t388) ∧ w'.cell? ⟨gb404, 1, none⟩ = some (.slice Ao10 t389.length co10) ∧ w'.cell? ⟨gb404, 2, none⟩ = some (.int .i64 t398) ∧ w'.cell? ⟨gb404, 3, none⟩ = some (u405003)) (ds := [9]) #[false, false, false, false, false, false, false, false, false, false] (by kernel_rfl) rfl rfl ⟨bc0_ BK404.out, bc1_ BK404.out, bc2_ BK404.out, bc3_ BK404.out⟩ (fun hHeld => ?_); refine with_tabW spec_l04Draw.tab6 spec_l04Draw.bits6 (fun HT_ HW_ => ?_)
    generalize wr.drew = w34 at HO_395001 HO_405001 HO_405003 BK387 BK394 BK404 HI0 HK HB hHeld ⊢
    refine pk_ 0 10 21 1 ?_
    refine pk_ 2 10 23 5 ?_
    refine pk_ 3 10 24 13 ?_
    refine tk_ 1 10 22 15 hHeld ?_
    refine tk_ 4 10 25 31 hHeld ?_
    refine on_ 5 10 (some 26) 63 (fun K hK => ?_)
    refine goes_ Try.func203 (by kernel_rfl) rfl #[.pointer (some ⟨g, 0, none⟩), .int .i64 t398] (by rfl) rfl rfl arg_ ?_
    with_reducible refine (spec_l04Turn.calls k1 g s0_0 x1001_1 x1002_1 t398 t405 t408 t409 w0 _ ?side1 ?side2 A28.out).mono ?_
    (case side1 => exact IsS131.gs_)
    (case side2 => exact IsS131.hs_)
    rintro e w35 ⟨v406, rfl, ho0, hi, hb, hk⟩
    refine ⟨_, rfl, ?_⟩
    replace HO_395001 := m_ (Kd.V_mono (Kd.V_told (Kd.V_oldK (Kd.V_mono (ok := fun k_ => (((w.heap.size ≤ k_)) ∧ (some k_ ≠ (u405003 : Value).ownBlock ∧ (k_ ≠ gb387 ∧ (k_ ≠ gb394 ∧ (k_ ≠ gb404 ∧ k_ ≠ g)))))) (Kd.V_below HO_395001.out bgo_) (fun k_ hk_ => (⟨hk_, hk_.2.2.2.2.2⟩ : _ ∧ k_ ≠ g))) hk) (Kd.R_base ho0)) (fun _ h_ => h_.1))
    replace HO_405001 := m_ (Kd.V_mono (Kd.V_told (Kd.V_oldK (Kd.V_mono (ok := fun k_ => (((w.heap.size ≤ k_)) ∧ (some k_ ≠ (u405003 : Value).ownBlock ∧ (k_ ≠ gb387 ∧ (k_ ≠ gb394 ∧ (k_ ≠ gb404 ∧ k_ ≠ g)))))) (Kd.V_below HO_405001.out bgo_) (fun k_ hk_ => (⟨hk_, hk_.2.2.2.2.2⟩ : _ ∧ k_ ≠ g))) hk) (Kd.R_base ho0)) (fun _ h_ => h_.1))
    replace HO_405003 := m_ (Kd.N_mono (Kd.N_told (Kd.N_oldK (Kd.N_mono (ok := fun k_ => (((w.heap.size ≤ k_)) ∧ (k_ ≠ gb387 ∧ (k_ ≠ gb394 ∧ (k_ ≠ gb404 ∧ k_ ≠ g))))) (Kd.N_below HO_405003.out bgo_) (fun k_ hk_ => (⟨hk_, hk_.2.2.2.2⟩ : _ ∧ k_ ≠ g))) hk) (Kd.R_base ho0)) (fun _ h_ => h_.1))
    replace BK387 := m_ (KeepBut.blk hk (blk_below BK387.out bgo_) NB387_0.out (by simp))
    replace BK394 := m_ (KeepBut.blk hk (blk_below BK394.out bgo_) NB394_0.out (by simp))
    replace BK404 := m_ (KeepBut.blk hk (blk_below BK404.out bgo_) NB404_0.out (by simp))
    have HO407 := m_ (Kd.R_lower (Kd.R_newM (M := fun k_ => (w.heap.size ≤ k_)) ho0 (keep_size (w := w) (g := g) (row := none) kp_) (fun k_ h_ => h_)) (keep_size (w := w) (g := g) (row := none) kp_))
    replace HK := m_ (KeepBut.trans kp_ hk (.inl rfl))
    replace HB := m_ (hb)
    replace HI0 := m_ (hi)
    (try clear ho0)
    obtain ⟨Ao37, co37, eo37⟩ := Kd.R_slice HO407.out
    subst eo37
    refine hK.out _ _ ⟨bc0_ BK404.out, bc1_ BK404.out, bc2_ BK404.out, bc3_ BK404.out⟩ (fun hHeld => ?_)
    clear hK K
    refine nm_ ?_
    refine on_ 6 10 (some 27) 127 (fun K hK => ?_)
    refine value_ (w1 := ?_) (v := ?_) (by rfl) rfl ?_ ?_
    rotate_left 2
    ·go_simp
     constructor
     ·rfl
     ·rfl
    refine hK.out _ _ ⟨(blk_cell (blk_alloc BK404.out _) 0).trans rfl, (blk_cell (blk_alloc BK404.out _) 1).trans rfl, (blk_cell (blk_alloc BK404.out _) 2).trans rfl, (blk_cell (blk_alloc BK404.out _) 3).trans rfl⟩ (fun hHeld => ?_)
    clear hK K
    refine nm_ ?_
    refine on_ 7 10 (some 28) 255 (fun K hK => ?_)
    refine Kd.N_append_step (Kd.slice 2 (Kd.int .i64)) w.heap.size (by rfl) (.tmp 22) (.tmp 27) 24 29 (.slice none 0 0) 24 rfl Try.underlying24 info29 rfl (by decide) (by omega) u405003 x405003_1 t405 [.slice Ao37 t405.length co37] (fun k_ => (w.heap.size ≤ k_) ∧ k_ ≠ gb387 ∧ k_ ≠ gb394 ∧ k_ ≠ gb404 ∧ k_ ≠ g) (fun k_ => ((fun k_ => (w.heap.size ≤ k_) ∧ k_ ≠ gb387 ∧ k_ ≠ gb394 ∧ k_ ≠ gb404 ∧ k_ ≠ g)) k_ ∧ some k_ ≠ (u405003 : Value).ownBlock) rfl rfl ?aP (fun _ hk => hk) ?aF ?aO (Below.refl _ _) ?aS ?aL ?_
    (case aP => exact (Kd.FK_slice_mk (Kd.R_reads' (Kd.R_mono (ok' := (fun k_ => ((fun k_ => (w.heap.size ≤ k_) ∧ k_ ≠ gb387 ∧ k_ ≠ gb394 ∧ k_ ≠ gb404 ∧ k_ ≠ g)) k_ ∧ some k_ ≠ (u405003 : Value).ownBlock)) (IsS131.apart HI0.out (Kd.R_types (Kd.R_types (Kd.R_types (Kd.R_apart' (HO407.out) (Kd.N_typed HO_405003.out) (by decide)) BK387.out (by decide)) BK394.out (by decide)) BK404.out (by decide)) (by decide)) (fun k_ hk => ⟨⟨hk.1.1.1.1.1.1, ⟨hk.1.1.1.2, ⟨hk.1.1.2, ⟨hk.1.2, hk.2⟩⟩⟩⟩, hk.1.1.1.1.2⟩))).2.1 (Kd.R_F (Kd.R_mono (ok' := (fun k_ => ((fun k_ => (w.heap.size ≤ k_) ∧ k_ ≠ gb387 ∧ k_ ≠ gb394 ∧ k_ ≠ gb404 ∧ k_ ≠ g)) k_ ∧ some k_ ≠ (u405003 : Value).ownBlock)) (IsS131.apart HI0.out (Kd.R_types (Kd.R_types (Kd.R_types (Kd.R_apart' (HO407.out) (Kd.N_typed HO_405003.out) (by decide)) BK387.out (by decide)) BK394.out (by decide)) BK404.out (by decide)) (by decide)) (fun k_ hk => ⟨⟨hk.1.1.1.1.1.1, ⟨hk.1.1.1.2, ⟨hk.1.1.2, ⟨hk.1.2, hk.2⟩⟩⟩⟩, hk.1.1.1.1.2⟩)))))
    (case aF => exact (fun k_ hk => ⟨(Nat.le_trans (keep_size (w := w) (g := g) (row := none) kp_) hk), Kd.freshB (g := gb387) (o := .cells #[.int .i64 0, .slice none 0 0, .int .i64 0, .slice none 0 0] 28 (0, 0)) (blk_below BK387.out bgo_) k_ hk, Kd.freshB (g := gb394) (o := .cells #[.int .i64 t388, .slice Ao10 t389.length co10] 26 (0, 0)) (blk_below BK394.out bgo_) k_ hk, Kd.freshB (g := gb404) (o := .cells #[.int .i64 t388, .slice Ao10 t389.length co10, .int .i64 t398, u405003] 28 (0, 0)) (blk_below BK404.out bgo_) k_ hk, IsS131.fresh IsS131.gs_ k_ hk⟩))
    (case aO => exact (Kd.N_below (Kd.N_mono HO_405003.out (fun _ hk => ⟨hk.1.1, ⟨hk.1.2.1, ⟨hk.1.2.2.1, ⟨hk.1.2.2.2.1, hk.1.2.2.2.2⟩⟩⟩⟩)) bgo_))
    (case aS => exact (keep_size (w := w) (g := g) (row := none) kp_))
    (case aL => have := LMc29.out; omega)
    intro v411 w36 ho hb hg hat
    rw [← Ny410.out] at ho
    replace HO_395001 := m_ (Kd.V_afterv (ok := (fun k_ => (w.heap.size ≤ k_) ∧ some k_ ≠ (.slice Ao37 t405.length co37 : Value).ownBlock ∧ k_ ≠ gb387 ∧ k_ ≠ gb394 ∧ k_ ≠ gb404 ∧ k_ ≠ g)) (Kd.V_below (Kd.V_mono HO_395001.out (fun _ hk => ⟨⟨hk.1.1, ⟨hk.2, ⟨hk.1.2.2.1, ⟨hk.1.2.2.2.1, ⟨hk.1.2.2.2.2.1, hk.1.2.2.2.2.2⟩⟩⟩⟩⟩, hk.1.2.1⟩)) bgo_) hg hat)
    replace HO_405001 := m_ (Kd.V_afterv (ok := (fun k_ => (w.heap.size ≤ k_) ∧ some k_ ≠ (.slice Ao37 t405.length co37 : Value).ownBlock ∧ k_ ≠ gb387 ∧ k_ ≠ gb394 ∧ k_ ≠ gb404 ∧ k_ ≠ g)) (Kd.V_below (Kd.V_mono HO_405001.out (fun _ hk => ⟨⟨hk.1.1, ⟨hk.2, ⟨hk.1.2.2.1, ⟨hk.1.2.2.2.1, ⟨hk.1.2.2.2.2.1, hk.1.2.2.2.2.2⟩⟩⟩⟩⟩, hk.1.2.1⟩)) bgo_) hg hat)
    replace BK387 := m_ (blk_grown (blk_below BK387.out bgo_) hg (Kd.N_ne HO_405003.out BK387.out (by decide)))
    replace BK394 := m_ (blk_grown (blk_below BK394.out bgo_) hg (Kd.N_ne HO_405003.out BK394.out (by decide)))
    replace BK404 := m_ (blk_grown (blk_below BK404.out bgo_) hg (Kd.N_ne HO_405003.out BK404.out (by decide)))
    replace HB := m_ (below_weaken IsS131.hs_ HL.out hb)
    replace HI0 := m_ (IsS131.grown IsS131.gs_ hg (IsS131.own_neN HI0.out HO_405003.out (by decide)))
    replace HK := m_ (KeepBut.trans kp_ (KeepBut.of_grown hg g) (Kd.N_base2 HO_405003.out))
    have HO412 := m_ (ho)
    (try clear HO_405003)
    (try clear HO407)
    clear ho hb hg hat
    obtain ⟨Ao38, co38, eo38⟩ := Kd.N_slice HO412.out
    subst eo38
    refine hK.out _ _ ⟨bc0_ BK404.out, bc1_ BK404.out, bc2_ BK404.out, bc3_ BK404.out⟩ (fun hHeld => ?_)
    clear hK K
    refine nm_ ?_
    refine pk_ 8 10 29 511 ?_
    refine last_ (i := 9) (N := none) #[true, true, true, true, true, true, true, true, true, true] rfl rfl (one_of HT_.out (by kernel_rfl)) (by decide) (fun K hK => ?_)
    have hs39 : w36.cell? ⟨gb404, 3, none⟩ = some (u405003) := bc3_ BK404.out
    have hfs39 := blk_frozen BK404.out 3
    have hns39_0 := NB387_404.out
    have hns39_1 := NB394_404.out
    have hms39_0 := NB404_387.out
    have hms39_1 := NB404_394.out
    refine skip_ (w1 := ?_) (by rfl) rfl ?_ ?_
    rotate_left
    ·go_simp
     rfl
    refine hK.out _ _ ?_
    clear hK K
    refine done_ (done_of HT_.out (by kernel_rfl)) ?_
    try go_wp2
    go_roundg k1
    case measure => have := HK1.out; omega
    case rel => exact ⟨(wrap64 (x5_1 + 1)), (t408), (t409), (y410), (.slice Ao38 y410.length co38), es_, H', ⟨by have := HK1.out; omega⟩, ⟨by (with_reducible repeat (first | apply Kd.V_alloc | apply Kd.V_drewN | apply Kd.V_drew)); exact Kd.V_mono (Kd.V_far (p := ⟨gb404, 3, none⟩) (Kd.V_mono HO_395001.out (fun k_ hk => (⟨hk, hk.1.2.2.2.2.1⟩ : _ ∧ k_ ≠ gb404))) (fun _ hk => hk.2) (.slice Ao38 y410.length co38)) (fun _ hk => ⟨hk.1.1.1, ⟨hk.1.2, ⟨hk.1.1.2.2.1, ⟨hk.1.1.2.2.2.1, ⟨hk.1.1.2.2.2.2.1, hk.1.1.2.2.2.2.2⟩⟩⟩⟩⟩)⟩, ⟨by (with_reducible repeat (first | apply Kd.V_alloc | apply Kd.V_drewN | apply Kd.V_drew)); exact Kd.V_mono (Kd.V_far (p := ⟨gb404, 3, none⟩) (Kd.V_mono HO_405001.out (fun k_ hk => (⟨hk, hk.1.2.2.2.2.1⟩ : _ ∧ k_ ≠ gb404))) (fun _ hk => hk.2) (.slice Ao38 y410.length co38)) (fun _ hk => ⟨hk.1.1.1, ⟨hk.1.2, ⟨hk.1.1.2.2.1, ⟨hk.1.1.2.2.2.1, ⟨hk.1.1.2.2.2.2.1, hk.1.1.2.2.2.2.2⟩⟩⟩⟩⟩)⟩, ⟨by (with_reducible repeat (first | apply Kd.N_alloc | apply Kd.N_drewN | apply Kd.N_drew)); exact Kd.N_mono (Kd.N_far (p := ⟨gb404, 3, none⟩) (Kd.N_mono HO412.out (fun k_ hk => (⟨hk, hk.2.2.2.1⟩ : _ ∧ k_ ≠ gb404))) (fun _ hk => hk.2) (.slice Ao38 y410.length co38)) (fun _ hk => ⟨hk.1.1, ⟨hk.1.2.1, ⟨hk.1.2.2.1, ⟨hk.1.2.2.2.1, hk.1.2.2.2.2⟩⟩⟩⟩)⟩, ⟨bk_⟩, ⟨bk_⟩, ⟨by (with_reducible repeat (first | refine blk_drewN ?_ _ | refine blk_drew ?_ | refine blk_alloc ?_ _)); refine blk_put (cs := #[.int .i64 t388, .slice Ao10 t389.length co10, .int .i64 t398, u405003]) ?_ 3 _ rfl; (with_reducible repeat (first | refine blk_drewN ?_ _ | refine blk_drew ?_ | refine blk_alloc ?_ _)); exact BK404.out⟩, ⟨IsS131.gs_⟩, ⟨kp_⟩, ⟨IsS131.hs_⟩⟩
   ·rw [if_neg c27] at H
    have c27b0 := decide_eq_false c27
    clear c27
    obtain ⟨⟨t413, t414, t415⟩, A40, H⟩ := bnd_ H
    dsimp only at H
    by_cases c41 : t413 = 0
    ·rw [if_pos c41] at H
     have c41b0 : (t413 == 0) = true := beq_iff_eq.mpr c41
     have c41b1 : (t413 != 0) = false := bne_eq_false_iff_eq.mpr c41
     clear c41
     obtain ⟨y416, Ny416, H⟩ : ∃ y416 : List Int, Aside0 (y416 = (([0, 5, wrap64 (t398 + 1)] : List Int))) ∧ ((spec_l01Pick.f s0_0 t414 t415 y416).bind fun bt419 => (some (t388, t389, bt419.1, x405003_1, bt419.2.1, bt419.2.2))) = some (r1, r2, r3, r4, r5, r6) := ⟨_, ⟨rfl⟩, H⟩
     obtain ⟨⟨t419, t420, t421⟩, A42, H⟩ := bnd_ H
     dsimp only at H
     simp only [Option.some.injEq, Prod.mk.injEq] at H
     obtain ⟨rfl, rfl, rfl, rfl, rfl, rfl⟩ := H
     have hnb43 := NB394_387.out
     have hnc43 := NB387_394.out
     have hnb44 := NB394_404.out
     have hnc44 := NB404_394.out
     have hnb45 := NB394_0.out
     have hnc45 := NB0_394.out
     have hcz46_0 := bc0_ BK394.out
     have hcz46_1 := bc1_ BK394.out
     have hfz46_0 := blk_frozen BK394.out 0
     have hfz46_1 := blk_frozen BK394.out 1
     go_wp2_with (first | ((with_reducible refine gate_callee (f := 171) rfl ?_); refine gl_ (some 31) Try.func171 #[.pointer (some ⟨g, 0, none⟩), .int .i64 40] ?_; (with_reducible refine (spec_l01Next.calls g s0_0 x1001_1 x1002_1 40 t413 t414 t415 w0 _ ?side1 ?side2 A40.out).mono ?_); (case side1 => exact IsS131.gs_); (case side2 => exact IsS131.hs_); rintro e w47 ⟨rfl, hi, hb, hk⟩; refine ⟨_, rfl, ?_⟩; replace HO_395001 := m_ (Kd.V_mono (Kd.V_keep (Kd.V_mono (ok := fun k_ => (((w.heap.size ≤ k_)) ∧ (some k_ ≠ (u405003 : Value).ownBlock ∧ (k_ ≠ gb387 ∧ (k_ ≠ gb394 ∧ (k_ ≠ gb404 ∧ k_ ≠ g)))))) (Kd.V_below HO_395001.out bgo_) (fun k_ hk_ => (⟨hk_, hk_.2.2.2.2.2⟩ : _ ∧ k_ ≠ g))) hk (fun _ h => h.2)) (fun _ h => h.1)); replace HO_405001 := m_ (Kd.V_mono (Kd.V_keep (Kd.V_mono (ok := fun k_ => (((w.heap.size ≤ k_)) ∧ (some k_ ≠ (u405003 : Value).ownBlock ∧ (k_ ≠ gb387 ∧ (k_ ≠ gb394 ∧ (k_ ≠ gb404 ∧ k_ ≠ g)))))) (Kd.V_below HO_405001.out bgo_) (fun k_ hk_ => (⟨hk_, hk_.2.2.2.2.2⟩ : _ ∧ k_ ≠ g))) hk (fun _ h => h.2)) (fun _ h => h.1)); replace HO_405003 := m_ (Kd.N_mono (Kd.N_keep (Kd.N_mono (ok := fun k_ => (((w.heap.size ≤ k_)) ∧ (k_ ≠ gb387 ∧ (k_ ≠ gb394 ∧ (k_ ≠ gb404 ∧ k_ ≠ g))))) (Kd.N_below HO_405003.out bgo_) (fun k_ hk_ => (⟨hk_, hk_.2.2.2.2⟩ : _ ∧ k_ ≠ g))) hk (fun _ h => h.2)) (fun _ h => h.1)); replace BK387 := m_ (KeepBut.blk hk (blk_below BK387.out bgo_) NB387_0.out (by simp)); replace BK394 := m_ (KeepBut.blk hk (blk_below BK394.out bgo_) NB394_0.out (by simp)); replace BK404 := m_ (KeepBut.blk hk (blk_below BK404.out bgo_) NB404_0.out (by simp)); replace HK := m_ (KeepBut.trans kp_ hk (.inl rfl)); replace HB := m_ (hb); replace HI0 := m_ (hi); clear hi hb hk; have hnb48 := NB404_387.out; have hnc48 := NB387_404.out; have hnb49 := NB404_0.out; have hnc49 := NB0_404.out; have hcz50_0 := bc0_ BK404.out; have hcz50_1 := bc1_ BK404.out; have hcz50_2 := bc2_ BK404.out; have hcz50_3 := bc3_ BK404.out; have hfz50_0 := blk_frozen BK404.out 0; have hfz50_1 := blk_frozen BK404.out 1; have hfz50_2 := blk_frozen BK404.out 2; have hfz50_3 := blk_frozen BK404.out 3) | ((with_reducible refine gate_dst (N := 38) rfl ?_); refine Kd.R_lit (Kd.int .i64) _ 2 ?hg (N := 38) ?hd (xs := ([0, 5, wrap64 (t398 + 1)] : List Int)) (inner := [.int .i64 0, .int .i64 5, .int .i64 (wrap64 (t398 + 1))]) (ok := fun _ => True) (okp := fun _ => True) ?hr ?hp (fun _ hk => hk) trivial (Below.refl _ _) (Nat.le_refl _) (by simp) ?_; (case hd => rfl); (case hg => rfl); (case hr => first | (go_simp; done) | (go_simp; rfl)); (case hp => exact (Reps.one (show Kd.M (Kd.int .i64) _ _ _ 0 [.int .i64 0] from rfl) (Reps.one (show Kd.M (Kd.int .i64) _ _ _ 5 [.int .i64 5] from rfl) (Reps.one (show Kd.M (Kd.int .i64) _ _ _ (wrap64 (t398 + 1)) [.int .i64 (wrap64 (t398 + 1))] from rfl) (Reps.none _ _))))); intro v417 w51 ho52 hb hg_ hnew_; clear hg_ hnew_; rw [← Ny416.out] at ho52; replace HO_395001 := m_ (Kd.V_elder' (Kd.V_below HO_395001.out bgo_) (Kd.R_base ho52) hb); replace HO_405001 := m_ (Kd.V_elder' (Kd.V_below HO_405001.out bgo_) (Kd.R_base ho52) hb); replace HO_405003 := m_ (Kd.N_elder' (Kd.N_below HO_405003.out bgo_) (Kd.R_base ho52) hb); have HO418 := m_ (Kd.R_lower (Kd.R_newM (M := fun k_ => (w.heap.size ≤ k_)) ho52 (keep_size (w := w) (g := g) (row := none) kp_) (fun k_ h_ => h_)) (keep_size (w := w) (g := g) (row := none) kp_)); replace BK387 := m_ (bb_ BK387.out hb); replace BK394 := m_ (bb_ BK394.out hb); replace BK404 := m_ (bb_ BK404.out hb); replace HK := m_ (KeepBut.trans kp_ (KeepBut.of_below hb g none) (.inl rfl)); replace HB := m_ (below_step IsS131.hs_ hb); replace HI0 := m_ (IsS131.below IsS131.gs_ hb); clear hb ho52; obtain ⟨Ao53, co53, eo53⟩ := Kd.R_slice HO418.out; subst eo53) | ((with_reducible refine gate_callee (f := 144) rfl ?_); refine gl_ (some 39) Try.func144 #[.pointer (some ⟨g, 0, none⟩), .slice Ao53 y416.length co53] ?_; (with_reducible refine (spec_l01Pick.calls g s0_0 t414 t415 _ _ y416 t419 t420 t421 w0 _ ?side1 ?side2 ?side3 ?side4 ?side5 A42.out).mono ?_); (case side1 => exact IsS131.gs_); (case side2 => exact IsS131.hs_); (case side3 => exact Kd.C_below (Kd.R_reads' HO418.out).2.2 bgo_); (case side4 => exact (Kd.R_reads' HO418.out).2.1); (case side5 => exact far_slice (IsS131.own_ne HI0.out HO418.out (by decide))); rintro e w54 ⟨rfl, hi, hb, hk⟩; refine ⟨_, rfl, ?_⟩; replace HO_395001 := m_ (Kd.V_mono (Kd.V_keep (Kd.V_mono (ok := fun k_ => ((((w.heap.size ≤ k_)) ∧ (some k_ ≠ (u405003 : Value).ownBlock ∧ (k_ ≠ gb387 ∧ (k_ ≠ gb394 ∧ (k_ ≠ gb404 ∧ k_ ≠ g))))) ∧ some k_ ≠ (.slice Ao53 y416.length co53 : Value).ownBlock)) (Kd.V_below HO_395001.out bgo_) (fun k_ hk_ => (⟨hk_, hk_.1.2.2.2.2.2⟩ : _ ∧ k_ ≠ g))) hk (fun _ h => h.2)) (fun _ h => h.1)); replace HO_405001 := m_ (Kd.V_mono (Kd.V_keep (Kd.V_mono (ok := fun k_ => ((((w.heap.size ≤ k_)) ∧ (some k_ ≠ (u405003 : Value).ownBlock ∧ (k_ ≠ gb387 ∧ (k_ ≠ gb394 ∧ (k_ ≠ gb404 ∧ k_ ≠ g))))) ∧ some k_ ≠ (.slice Ao53 y416.length co53 : Value).ownBlock)) (Kd.V_below HO_405001.out bgo_) (fun k_ hk_ => (⟨hk_, hk_.1.2.2.2.2.2⟩ : _ ∧ k_ ≠ g))) hk (fun _ h => h.2)) (fun _ h => h.1)); replace HO_405003 := m_ (Kd.N_mono (Kd.N_keep (Kd.N_mono (ok := fun k_ => ((((w.heap.size ≤ k_)) ∧ (k_ ≠ gb387 ∧ (k_ ≠ gb394 ∧ (k_ ≠ gb404 ∧ k_ ≠ g)))) ∧ some k_ ≠ (.slice Ao53 y416.length co53 : Value).ownBlock)) (Kd.N_below HO_405003.out bgo_) (fun k_ hk_ => (⟨hk_, hk_.1.2.2.2.2⟩ : _ ∧ k_ ≠ g))) hk (fun _ h => h.2)) (fun _ h => h.1)); replace BK387 := m_ (KeepBut.blk hk (blk_below BK387.out bgo_) NB387_0.out (by simp)); replace BK394 := m_ (KeepBut.blk hk (blk_below BK394.out bgo_) NB394_0.out (by simp)); replace BK404 := m_ (KeepBut.blk hk (blk_below BK404.out bgo_) NB404_0.out (by simp)); replace HO418 := m_ (Kd.R_mono (Kd.R_keep (IsS131.apart (show IsS131 w0 _ g s0_0 t414 t415 from IsS131.gs_) (Kd.R_below HO418.out bgo_) (by decide)) hk (fun _ h => h.2)) (fun _ h => h.1)); replace HK := m_ (KeepBut.trans kp_ hk (.inl rfl)); replace HB := m_ (hb); replace HI0 := m_ (hi); clear hi hb hk; have hcz55_0 := bc0_ BK404.out; have hcz55_1 := bc1_ BK404.out; have hcz55_2 := bc2_ BK404.out; have hcz55_3 := bc3_ BK404.out; have hfz55_0 := blk_frozen BK404.out 0; have hfz55_1 := blk_frozen BK404.out 1; have hfz55_2 := blk_frozen BK404.out 2; have hfz55_3 := blk_frozen BK404.out 3; have hnb56 := NB387_0.out; have hnc56 := NB0_387.out; have hcz57_0 := bc0_ BK387.out; have hcz57_1 := bc1_ BK387.out; have hcz57_2 := bc2_ BK387.out; have hcz57_3 := bc3_ BK387.out; have hfz57_0 := blk_frozen BK387.out 0; have hfz57_1 := blk_frozen BK387.out 1; have hfz57_2 := blk_frozen BK387.out 2; have hfz57_3 := blk_frozen BK387.out 3; obtain ⟨Ao58, co58, eo58⟩ := Kd.N_slice HO_405003.out; subst eo58))
     refine bodyPost_ret (results_cell_row rfl _ _ gb387 28 #[.int .i64 t388, .slice Ao10 t389.length co10, .int .i64 t419, .slice Ao58 x405003_1.length co58] (0, 0) _ rfl (by (with_reducible repeat (first | refine blk_drewN ?_ _ | refine blk_drew ?_ | refine blk_alloc ?_ _)); refine blk_put (cs := #[.int .i64 t388, .slice Ao10 t389.length co10, .int .i64 t419, .slice none 0 0]) ?_ 3 _ rfl; (with_reducible repeat (first | refine blk_drewN ?_ _ | refine blk_drew ?_ | refine blk_alloc ?_ _)); refine blk_put (cs := #[.int .i64 t388, .slice Ao10 t389.length co10, .int .i64 0, .slice none 0 0]) ?_ 2 _ rfl; (with_reducible repeat (first | refine blk_drewN ?_ _ | refine blk_drew ?_ | refine blk_alloc ?_ _)); refine blk_put (cs := #[.int .i64 t388, .slice none 0 0, .int .i64 0, .slice none 0 0]) ?_ 1 _ rfl; (with_reducible repeat (first | refine blk_drewN ?_ _ | refine blk_drew ?_ | refine blk_alloc ?_ _)); refine blk_put (cs := #[.int .i64 0, .slice none 0 0, .int .i64 0, .slice none 0 0]) ?_ 0 _ rfl; (with_reducible repeat (first | refine blk_drewN ?_ _ | refine blk_drew ?_ | refine blk_alloc ?_ _)); refine blk_far ?_ NB387_404.out _; (with_reducible repeat (first | refine blk_drewN ?_ _ | refine blk_drew ?_ | refine blk_alloc ?_ _)); exact BK387.out) Try.underlying28 rfl (by kernel_rfl)) rfl ?_
     exact ⟨_, _, er_, by (with_reducible repeat (first | apply Kd.V_alloc | apply Kd.V_drewN | apply Kd.V_drew)); exact Kd.V_mono (Kd.V_far (p := ⟨gb387, 3, none⟩) (Kd.V_far (p := ⟨gb387, 2, none⟩) (Kd.V_far (p := ⟨gb387, 1, none⟩) (Kd.V_far (p := ⟨gb387, 0, none⟩) (Kd.V_far (p := ⟨gb404, 2, none⟩) (Kd.V_mono (Kd.V_mono HO_405001.out (fun k_ hk => (⟨hk, hk.1.2.2.2.2.1⟩ : _ ∧ k_ ≠ gb404))) (fun k_ hk => (⟨hk, hk.1.1.2.2.1⟩ : _ ∧ k_ ≠ gb387))) (fun _ hk => hk.1.2) (.int .i64 t419)) (fun _ hk => hk.2) (.int .i64 t388)) (fun _ hk => hk.2) (.slice Ao10 t389.length co10)) (fun _ hk => hk.2) (.int .i64 t419)) (fun _ hk => hk.2) (.slice Ao58 x405003_1.length co58)) (fun _ hk => ⟨hk.1.1.1.1, hk.1.1.1.2.1⟩), by (with_reducible repeat (first | apply Kd.N_alloc | apply Kd.N_drewN | apply Kd.N_drew)); exact Kd.N_mono (Kd.N_far (p := ⟨gb387, 3, none⟩) (Kd.N_far (p := ⟨gb387, 2, none⟩) (Kd.N_far (p := ⟨gb387, 1, none⟩) (Kd.N_far (p := ⟨gb387, 0, none⟩) (Kd.N_far (p := ⟨gb404, 2, none⟩) (Kd.N_mono (Kd.N_mono HO_405003.out (fun k_ hk => (⟨hk, hk.1.2.2.2.1⟩ : _ ∧ k_ ≠ gb404))) (fun k_ hk => (⟨hk, hk.1.1.2.1⟩ : _ ∧ k_ ≠ gb387))) (fun _ hk => hk.1.2) (.int .i64 t419)) (fun _ hk => hk.2) (.int .i64 t388)) (fun _ hk => hk.2) (.slice Ao10 t389.length co10)) (fun _ hk => hk.2) (.int .i64 t419)) (fun _ hk => hk.2) (.slice Ao58 x405003_1.length co58)) (fun _ hk => hk.1.1.1.1), IsS131.gs_, IsS131.hs_, kp_⟩
    ·rw [if_neg c41] at H
     have c41b0 : (t413 == 0) = false := beq_eq_false_iff_ne.mpr c41
     have c41b1 : (t413 != 0) = true := bne_iff_ne.mpr c41
     by_cases c59 : t413 = 1
     ·rw [if_pos c59] at H
      have c59b0 : (t413 == 1) = true := beq_iff_eq.mpr c59
      have c59b1 : (t413 != 1) = false := bne_eq_false_iff_eq.mpr c59
      clear c59
      obtain ⟨⟨t422, t425, t426⟩, A60, H⟩ := bnd_ H
      dsimp only at H
      obtain ⟨c61, H⟩ := itn_ H
      have LMc61 := m_ c61
      clear c61
      obtain ⟨y427, Ny427, H⟩ : ∃ y427 : List (List Int), Aside0 (y427 = (x405003_1 ++ [t422])) ∧ (some (t388, t389, t398, y427, t425, t426)) = some (r1, r2, r3, r4, r5, r6) := ⟨_, ⟨rfl⟩, H⟩
      simp only [Option.some.injEq, Prod.mk.injEq] at H
      obtain ⟨rfl, rfl, rfl, rfl, rfl, rfl⟩ := H
      have hnb62 := NB394_387.out
      have hnc62 := NB387_394.out
      have hnb63 := NB394_404.out
      have hnc63 := NB404_394.out
      have hnb64 := NB394_0.out
      have hnc64 := NB0_394.out
      have hcz65_0 := bc0_ BK394.out
      have hcz65_1 := bc1_ BK394.out
      have hfz65_0 := blk_frozen BK394.out 0
      have hfz65_1 := blk_frozen BK394.out 1
      try go_wp2_with (first | ((with_reducible refine gate_callee (f := 171) rfl ?_); refine gl_ (some 31) Try.func171 #[.pointer (some ⟨g, 0, none⟩), .int .i64 40] ?_; (with_reducible refine (spec_l01Next.calls g s0_0 x1001_1 x1002_1 40 t413 t414 t415 w0 _ ?side1 ?side2 A40.out).mono ?_); (case side1 => exact IsS131.gs_); (case side2 => exact IsS131.hs_); rintro e w66 ⟨rfl, hi, hb, hk⟩; refine ⟨_, rfl, ?_⟩; replace HO_395001 := m_ (Kd.V_mono (Kd.V_keep (Kd.V_mono (ok := fun k_ => (((w.heap.size ≤ k_)) ∧ (some k_ ≠ (u405003 : Value).ownBlock ∧ (k_ ≠ gb387 ∧ (k_ ≠ gb394 ∧ (k_ ≠ gb404 ∧ k_ ≠ g)))))) (Kd.V_below HO_395001.out bgo_) (fun k_ hk_ => (⟨hk_, hk_.2.2.2.2.2⟩ : _ ∧ k_ ≠ g))) hk (fun _ h => h.2)) (fun _ h => h.1)); replace HO_405001 := m_ (Kd.V_mono (Kd.V_keep (Kd.V_mono (ok := fun k_ => (((w.heap.size ≤ k_)) ∧ (some k_ ≠ (u405003 : Value).ownBlock ∧ (k_ ≠ gb387 ∧ (k_ ≠ gb394 ∧ (k_ ≠ gb404 ∧ k_ ≠ g)))))) (Kd.V_below HO_405001.out bgo_) (fun k_ hk_ => (⟨hk_, hk_.2.2.2.2.2⟩ : _ ∧ k_ ≠ g))) hk (fun _ h => h.2)) (fun _ h => h.1)); replace HO_405003 := m_ (Kd.N_mono (Kd.N_keep (Kd.N_mono (ok := fun k_ => (((w.heap.size ≤ k_)) ∧ (k_ ≠ gb387 ∧ (k_ ≠ gb394 ∧ (k_ ≠ gb404 ∧ k_ ≠ g))))) (Kd.N_below HO_405003.out bgo_) (fun k_ hk_ => (⟨hk_, hk_.2.2.2.2⟩ : _ ∧ k_ ≠ g))) hk (fun _ h => h.2)) (fun _ h => h.1)); replace BK387 := m_ (KeepBut.blk hk (blk_below BK387.out bgo_) NB387_0.out (by simp)); replace BK394 := m_ (KeepBut.blk hk (blk_below BK394.out bgo_) NB394_0.out (by simp)); replace BK404 := m_ (KeepBut.blk hk (blk_below BK404.out bgo_) NB404_0.out (by simp)); replace HK := m_ (KeepBut.trans kp_ hk (.inl rfl)); replace HB := m_ (hb); replace HI0 := m_ (hi); clear hi hb hk))
      replace HO_395001 := m_ (Kd.V_drew HO_395001.out)
      replace HO_405001 := m_ (Kd.V_drew HO_405001.out)
      replace HO_405003 := m_ (Kd.N_drew HO_405003.out)
      replace BK387 := m_ (blk_drew BK387.out)
      replace BK394 := m_ (blk_drew BK394.out)
      replace BK404 := m_ (blk_drew BK404.out)
      replace HI0 := m_ (IsS131.drew HI0.out)
      replace HK := m_ (keep_drew HK.out)
      replace HB := m_ (below_drew1 HB.out)
      refine start_ (n := 10) (S := fun w' => w'.cell? ⟨gb404, 0, none⟩ = some (.int .i64 t388) ∧ w'.cell? ⟨gb404, 1, none⟩ = some (.slice Ao10 t389.length co10) ∧ w'.cell? ⟨gb404, 2, none⟩ = some (.int .i64 t398) ∧ w'.cell? ⟨gb404, 3, none⟩ = some (u405003)) (ds := [9]) #[false, false, false, false, false, false, false, false, false, false] (by kernel_rfl) rfl rfl ⟨bc0_ BK404.out, bc1_ BK404.out, bc2_ BK404.out, bc3_ BK404.out⟩ (fun hHeld => ?_); refine with_tabW spec_l04Draw.tab11 spec_l04Draw.bits11 (fun HT_ HW_ => ?_)
      generalize w66.drew = w67 at HO_395001 HO_405001 HO_405003 BK387 BK394 BK404 HI0 HK HB hHeld ⊢
      refine pk_ 0 10 43 1 ?_
      refine pk_ 2 10 45 5 ?_
      refine pk_ 3 10 46 13 ?_
      refine tk_ 1 10 44 15 hHeld ?_
      refine tk_ 4 10 47 31 hHeld ?_
      refine on_ 5 10 (some 48) 63 (fun K hK => ?_)
      refine goes_ Try.func203 (by kernel_rfl) rfl #[.pointer (some ⟨g, 0, none⟩), .int .i64 t398] (by rfl) rfl rfl arg_ ?_
      with_reducible refine (spec_l04Turn.calls k1 g s0_0 t414 t415 t398 t422 t425 t426 w0 _ ?side1 ?side2 A60.out).mono ?_
      (case side1 => exact IsS131.gs_)
      (case side2 => exact IsS131.hs_)
      rintro e w68 ⟨v423, rfl, ho0, hi, hb, hk⟩
      refine ⟨_, rfl, ?_⟩
      replace HO_395001 := m_ (Kd.V_mono (Kd.V_told (Kd.V_oldK (Kd.V_mono (ok := fun k_ => (((w.heap.size ≤ k_)) ∧ (some k_ ≠ (u405003 : Value).ownBlock ∧ (k_ ≠ gb387 ∧ (k_ ≠ gb394 ∧ (k_ ≠ gb404 ∧ k_ ≠ g)))))) (Kd.V_below HO_395001.out bgo_) (fun k_ hk_ => (⟨hk_, hk_.2.2.2.2.2⟩ : _ ∧ k_ ≠ g))) hk) (Kd.R_base ho0)) (fun _ h_ => h_.1))
      replace HO_405001 := m_ (Kd.V_mono (Kd.V_told (Kd.V_oldK (Kd.V_mono (ok := fun k_ => (((w.heap.size ≤ k_)) ∧ (some k_ ≠ (u405003 : Value).ownBlock ∧ (k_ ≠ gb387 ∧ (k_ ≠ gb394 ∧ (k_ ≠ gb404 ∧ k_ ≠ g)))))) (Kd.V_below HO_405001.out bgo_) (fun k_ hk_ => (⟨hk_, hk_.2.2.2.2.2⟩ : _ ∧ k_ ≠ g))) hk) (Kd.R_base ho0)) (fun _ h_ => h_.1))
      replace HO_405003 := m_ (Kd.N_mono (Kd.N_told (Kd.N_oldK (Kd.N_mono (ok := fun k_ => (((w.heap.size ≤ k_)) ∧ (k_ ≠ gb387 ∧ (k_ ≠ gb394 ∧ (k_ ≠ gb404 ∧ k_ ≠ g))))) (Kd.N_below HO_405003.out bgo_) (fun k_ hk_ => (⟨hk_, hk_.2.2.2.2⟩ : _ ∧ k_ ≠ g))) hk) (Kd.R_base ho0)) (fun _ h_ => h_.1))
      replace BK387 := m_ (KeepBut.blk hk (blk_below BK387.out bgo_) NB387_0.out (by simp))
      replace BK394 := m_ (KeepBut.blk hk (blk_below BK394.out bgo_) NB394_0.out (by simp))
      replace BK404 := m_ (KeepBut.blk hk (blk_below BK404.out bgo_) NB404_0.out (by simp))
      have HO424 := m_ (Kd.R_lower (Kd.R_newM (M := fun k_ => (w.heap.size ≤ k_)) ho0 (keep_size (w := w) (g := g) (row := none) kp_) (fun k_ h_ => h_)) (keep_size (w := w) (g := g) (row := none) kp_))
      replace HK := m_ (KeepBut.trans kp_ hk (.inl rfl))
      replace HB := m_ (hb)
      replace HI0 := m_ (hi)
      (try clear ho0)
      obtain ⟨Ao70, co70, eo70⟩ := Kd.R_slice HO424.out
      subst eo70
      refine hK.out _ _ ⟨bc0_ BK404.out, bc1_ BK404.out, bc2_ BK404.out, bc3_ BK404.out⟩ (fun hHeld => ?_)
      clear hK K
      refine nm_ ?_
      refine on_ 6 10 (some 49) 127 (fun K hK => ?_)
      refine value_ (w1 := ?_) (v := ?_) (by rfl) rfl ?_ ?_
      rotate_left 2
      ·go_simp
       constructor
       ·rfl
       ·rfl
      refine hK.out _ _ ⟨(blk_cell (blk_alloc BK404.out _) 0).trans rfl, (blk_cell (blk_alloc BK404.out _) 1).trans rfl, (blk_cell (blk_alloc BK404.out _) 2).trans rfl, (blk_cell (blk_alloc BK404.out _) 3).trans rfl⟩ (fun hHeld => ?_)
      clear hK K
      refine nm_ ?_
      refine on_ 7 10 (some 50) 255 (fun K hK => ?_)
      refine Kd.N_append_step (Kd.slice 2 (Kd.int .i64)) w.heap.size (by rfl) (.tmp 44) (.tmp 49) 24 29 (.slice none 0 0) 24 rfl Try.underlying24 info29 rfl (by decide) (by omega) u405003 x405003_1 t422 [.slice Ao70 t422.length co70] (fun k_ => (w.heap.size ≤ k_) ∧ k_ ≠ gb387 ∧ k_ ≠ gb394 ∧ k_ ≠ gb404 ∧ k_ ≠ g) (fun k_ => ((fun k_ => (w.heap.size ≤ k_) ∧ k_ ≠ gb387 ∧ k_ ≠ gb394 ∧ k_ ≠ gb404 ∧ k_ ≠ g)) k_ ∧ some k_ ≠ (u405003 : Value).ownBlock) rfl rfl ?aP (fun _ hk => hk) ?aF ?aO (Below.refl _ _) ?aS ?aL ?_
      (case aP => exact (Kd.FK_slice_mk (Kd.R_reads' (Kd.R_mono (ok' := (fun k_ => ((fun k_ => (w.heap.size ≤ k_) ∧ k_ ≠ gb387 ∧ k_ ≠ gb394 ∧ k_ ≠ gb404 ∧ k_ ≠ g)) k_ ∧ some k_ ≠ (u405003 : Value).ownBlock)) (IsS131.apart HI0.out (Kd.R_types (Kd.R_types (Kd.R_types (Kd.R_apart' (HO424.out) (Kd.N_typed HO_405003.out) (by decide)) BK387.out (by decide)) BK394.out (by decide)) BK404.out (by decide)) (by decide)) (fun k_ hk => ⟨⟨hk.1.1.1.1.1.1, ⟨hk.1.1.1.2, ⟨hk.1.1.2, ⟨hk.1.2, hk.2⟩⟩⟩⟩, hk.1.1.1.1.2⟩))).2.1 (Kd.R_F (Kd.R_mono (ok' := (fun k_ => ((fun k_ => (w.heap.size ≤ k_) ∧ k_ ≠ gb387 ∧ k_ ≠ gb394 ∧ k_ ≠ gb404 ∧ k_ ≠ g)) k_ ∧ some k_ ≠ (u405003 : Value).ownBlock)) (IsS131.apart HI0.out (Kd.R_types (Kd.R_types (Kd.R_types (Kd.R_apart' (HO424.out) (Kd.N_typed HO_405003.out) (by decide)) BK387.out (by decide)) BK394.out (by decide)) BK404.out (by decide)) (by decide)) (fun k_ hk => ⟨⟨hk.1.1.1.1.1.1, ⟨hk.1.1.1.2, ⟨hk.1.1.2, ⟨hk.1.2, hk.2⟩⟩⟩⟩, hk.1.1.1.1.2⟩)))))
      (case aF => exact (fun k_ hk => ⟨(Nat.le_trans (keep_size (w := w) (g := g) (row := none) kp_) hk), Kd.freshB (g := gb387) (o := .cells #[.int .i64 0, .slice none 0 0, .int .i64 0, .slice none 0 0] 28 (0, 0)) (blk_below BK387.out bgo_) k_ hk, Kd.freshB (g := gb394) (o := .cells #[.int .i64 t388, .slice Ao10 t389.length co10] 26 (0, 0)) (blk_below BK394.out bgo_) k_ hk, Kd.freshB (g := gb404) (o := .cells #[.int .i64 t388, .slice Ao10 t389.length co10, .int .i64 t398, u405003] 28 (0, 0)) (blk_below BK404.out bgo_) k_ hk, IsS131.fresh IsS131.gs_ k_ hk⟩))
      (case aO => exact (Kd.N_below (Kd.N_mono HO_405003.out (fun _ hk => ⟨hk.1.1, ⟨hk.1.2.1, ⟨hk.1.2.2.1, ⟨hk.1.2.2.2.1, hk.1.2.2.2.2⟩⟩⟩⟩)) bgo_))
      (case aS => exact (keep_size (w := w) (g := g) (row := none) kp_))
      (case aL => have := LMc61.out; omega)
      intro v428 w69 ho hb hg hat
      rw [← Ny427.out] at ho
      replace HO_395001 := m_ (Kd.V_afterv (ok := (fun k_ => (w.heap.size ≤ k_) ∧ some k_ ≠ (.slice Ao70 t422.length co70 : Value).ownBlock ∧ k_ ≠ gb387 ∧ k_ ≠ gb394 ∧ k_ ≠ gb404 ∧ k_ ≠ g)) (Kd.V_below (Kd.V_mono HO_395001.out (fun _ hk => ⟨⟨hk.1.1, ⟨hk.2, ⟨hk.1.2.2.1, ⟨hk.1.2.2.2.1, ⟨hk.1.2.2.2.2.1, hk.1.2.2.2.2.2⟩⟩⟩⟩⟩, hk.1.2.1⟩)) bgo_) hg hat)
      replace HO_405001 := m_ (Kd.V_afterv (ok := (fun k_ => (w.heap.size ≤ k_) ∧ some k_ ≠ (.slice Ao70 t422.length co70 : Value).ownBlock ∧ k_ ≠ gb387 ∧ k_ ≠ gb394 ∧ k_ ≠ gb404 ∧ k_ ≠ g)) (Kd.V_below (Kd.V_mono HO_405001.out (fun _ hk => ⟨⟨hk.1.1, ⟨hk.2, ⟨hk.1.2.2.1, ⟨hk.1.2.2.2.1, ⟨hk.1.2.2.2.2.1, hk.1.2.2.2.2.2⟩⟩⟩⟩⟩, hk.1.2.1⟩)) bgo_) hg hat)
      replace BK387 := m_ (blk_grown (blk_below BK387.out bgo_) hg (Kd.N_ne HO_405003.out BK387.out (by decide)))
      replace BK394 := m_ (blk_grown (blk_below BK394.out bgo_) hg (Kd.N_ne HO_405003.out BK394.out (by decide)))
      replace BK404 := m_ (blk_grown (blk_below BK404.out bgo_) hg (Kd.N_ne HO_405003.out BK404.out (by decide)))
      replace HB := m_ (below_weaken IsS131.hs_ HL.out hb)
      replace HI0 := m_ (IsS131.grown IsS131.gs_ hg (IsS131.own_neN HI0.out HO_405003.out (by decide)))
      replace HK := m_ (KeepBut.trans kp_ (KeepBut.of_grown hg g) (Kd.N_base2 HO_405003.out))
      have HO429 := m_ (ho)
      (try clear HO_405003)
      (try clear HO424)
      clear ho hb hg hat
      obtain ⟨Ao71, co71, eo71⟩ := Kd.N_slice HO429.out
      subst eo71
      refine hK.out _ _ ⟨bc0_ BK404.out, bc1_ BK404.out, bc2_ BK404.out, bc3_ BK404.out⟩ (fun hHeld => ?_)
      clear hK K
      refine nm_ ?_
      refine pk_ 8 10 51 511 ?_
      refine last_ (i := 9) (N := none) #[true, true, true, true, true, true, true, true, true, true] rfl rfl (one_of HT_.out (by kernel_rfl)) (by decide) (fun K hK => ?_)
      have hs72 : w69.cell? ⟨gb404, 3, none⟩ = some (u405003) := bc3_ BK404.out
      have hfs72 := blk_frozen BK404.out 3
      have hns72_0 := NB387_404.out
      have hns72_1 := NB394_404.out
      have hms72_0 := NB404_387.out
      have hms72_1 := NB404_394.out
      refine skip_ (w1 := ?_) (by rfl) rfl ?_ ?_
      rotate_left
      ·go_simp
       rfl
      refine hK.out _ _ ?_
      clear hK K
      refine done_ (done_of HT_.out (by kernel_rfl)) ?_
      have hnb73 := NB404_387.out
      have hnc73 := NB387_404.out
      have hnb74 := NB404_0.out
      have hnc74 := NB0_404.out
      have hcz75_0 := bc0_ BK404.out
      have hcz75_1 := bc1_ BK404.out
      have hcz75_2 := bc2_ BK404.out
      have hcz75_3 := bc3_ BK404.out
      have hfz75_0 := blk_frozen BK404.out 0
      have hfz75_1 := blk_frozen BK404.out 1
      have hfz75_2 := blk_frozen BK404.out 2
      have hfz75_3 := blk_frozen BK404.out 3
      have hnb76 := NB387_0.out
      have hnc76 := NB0_387.out
      have hcz77_0 := bc0_ BK387.out
      have hcz77_1 := bc1_ BK387.out
      have hcz77_2 := bc2_ BK387.out
      have hcz77_3 := bc3_ BK387.out
      have hfz77_0 := blk_frozen BK387.out 0
      have hfz77_1 := blk_frozen BK387.out 1
      have hfz77_2 := blk_frozen BK387.out 2
      have hfz77_3 := blk_frozen BK387.out 3
      try go_wp2
      refine bodyPost_ret (results_cell_row rfl _ _ gb387 28 #[.int .i64 t388, .slice Ao10 t389.length co10, .int .i64 t398, .slice Ao71 y427.length co71] (0, 0) _ rfl (by (with_reducible repeat (first | refine blk_drewN ?_ _ | refine blk_drew ?_ | refine blk_alloc ?_ _)); refine blk_put (cs := #[.int .i64 t388, .slice Ao10 t389.length co10, .int .i64 t398, .slice none 0 0]) ?_ 3 _ rfl; (with_reducible repeat (first | refine blk_drewN ?_ _ | refine blk_drew ?_ | refine blk_alloc ?_ _)); refine blk_put (cs := #[.int .i64 t388, .slice Ao10 t389.length co10, .int .i64 0, .slice none 0 0]) ?_ 2 _ rfl; (with_reducible repeat (first | refine blk_drewN ?_ _ | refine blk_drew ?_ | refine blk_alloc ?_ _)); refine blk_put (cs := #[.int .i64 t388, .slice none 0 0, .int .i64 0, .slice none 0 0]) ?_ 1 _ rfl; (with_reducible repeat (first | refine blk_drewN ?_ _ | refine blk_drew ?_ | refine blk_alloc ?_ _)); refine blk_put (cs := #[.int .i64 0, .slice none 0 0, .int .i64 0, .slice none 0 0]) ?_ 0 _ rfl; (with_reducible repeat (first | refine blk_drewN ?_ _ | refine blk_drew ?_ | refine blk_alloc ?_ _)); refine blk_far ?_ NB387_404.out _; (with_reducible repeat (first | refine blk_drewN ?_ _ | refine blk_drew ?_ | refine blk_alloc ?_ _)); exact BK387.out) Try.underlying28 rfl (by kernel_rfl)) rfl ?_
      exact ⟨_, _, er_, by (with_reducible repeat (first | apply Kd.V_alloc | apply Kd.V_drewN | apply Kd.V_drew)); exact Kd.V_mono (Kd.V_far (p := ⟨gb387, 3, none⟩) (Kd.V_far (p := ⟨gb387, 2, none⟩) (Kd.V_far (p := ⟨gb387, 1, none⟩) (Kd.V_far (p := ⟨gb387, 0, none⟩) (Kd.V_far (p := ⟨gb404, 3, none⟩) (Kd.V_mono (Kd.V_mono HO_405001.out (fun k_ hk => (⟨hk, hk.1.2.2.2.2.1⟩ : _ ∧ k_ ≠ gb404))) (fun k_ hk => (⟨hk, hk.1.1.2.2.1⟩ : _ ∧ k_ ≠ gb387))) (fun _ hk => hk.1.2) (.slice Ao71 y427.length co71)) (fun _ hk => hk.2) (.int .i64 t388)) (fun _ hk => hk.2) (.slice Ao10 t389.length co10)) (fun _ hk => hk.2) (.int .i64 t398)) (fun _ hk => hk.2) (.slice Ao71 y427.length co71)) (fun _ hk => ⟨hk.1.1.1.1, hk.1.1.2⟩), by (with_reducible repeat (first | apply Kd.N_alloc | apply Kd.N_drewN | apply Kd.N_drew)); exact Kd.N_mono (Kd.N_far (p := ⟨gb387, 3, none⟩) (Kd.N_far (p := ⟨gb387, 2, none⟩) (Kd.N_far (p := ⟨gb387, 1, none⟩) (Kd.N_far (p := ⟨gb387, 0, none⟩) (Kd.N_far (p := ⟨gb404, 3, none⟩) (Kd.N_mono (Kd.N_mono HO429.out (fun k_ hk => (⟨hk, hk.2.2.2.1⟩ : _ ∧ k_ ≠ gb404))) (fun k_ hk => (⟨hk, hk.1.2.1⟩ : _ ∧ k_ ≠ gb387))) (fun _ hk => hk.1.2) (.slice Ao71 y427.length co71)) (fun _ hk => hk.2) (.int .i64 t388)) (fun _ hk => hk.2) (.slice Ao10 t389.length co10)) (fun _ hk => hk.2) (.int .i64 t398)) (fun _ hk => hk.2) (.slice Ao71 y427.length co71)) (fun _ hk => hk.1.1.1), IsS131.gs_, IsS131.hs_, kp_⟩
     ·rw [if_neg c59] at H
      have c59b0 : (t413 == 1) = false := beq_eq_false_iff_ne.mpr c59
      have c59b1 : (t413 != 1) = true := bne_iff_ne.mpr c59
      by_cases c78 : t413 = 2
      ·rw [if_pos c78] at H
       have c78b0 : (t413 == 2) = true := beq_iff_eq.mpr c78
       have c78b1 : (t413 != 2) = false := bne_eq_false_iff_eq.mpr c78
       clear c78
       by_cases c79 : (x405003_1.length : Int) > 0
       ·rw [if_pos c79] at H
        have c79b0 := decide_eq_true c79
        have c79b1 : decide (0 < x405003_1.length) = true := decide_eq_true (by omega)
        clear c79
        obtain ⟨c80, H⟩ := itn_ H
        have c80b0 := eq_true c80
        have c80b1 := decide_eq_true c80
        clear c80
        obtain ⟨c81, H⟩ := itn_ H
        have c81b0 := eq_true c81
        have c81b1 := decide_eq_true c81
        clear c81
        obtain ⟨y430, Ny430, H⟩ : ∃ y430 : List Int, Aside0 (y430 = (List.replicate (t398 : Int).toNat 0)) ∧ (if 0 < (x405003_1.length : Int) then (some (t388, t389, t398, (x405003_1.set (0 : Int).toNat y430), t414, t415)) else (none)) = some (r1, r2, r3, r4, r5, r6) := ⟨_, ⟨rfl⟩, H⟩
        obtain ⟨c82, H⟩ := itn_ H
        have c82b0 := decide_eq_true c82
        have c82b1 : decide (0 < x405003_1.length) = true := decide_eq_true (by omega)
        clear c82
        obtain ⟨y433, Ny433, H⟩ : ∃ y433 : List (List Int), Aside0 (y433 = (x405003_1.set (0 : Int).toNat y430)) ∧ (some (t388, t389, t398, y433, t414, t415)) = some (r1, r2, r3, r4, r5, r6) := ⟨_, ⟨rfl⟩, H⟩
        simp only [Option.some.injEq, Prod.mk.injEq] at H
        obtain ⟨rfl, rfl, rfl, rfl, rfl, rfl⟩ := H
        have hnb84 := NB394_387.out
        have hnc84 := NB387_394.out
        have hnb85 := NB394_404.out
        have hnc85 := NB404_394.out
        have hnb86 := NB394_0.out
        have hnc86 := NB0_394.out
        have hcz87_0 := bc0_ BK394.out
        have hcz87_1 := bc1_ BK394.out
        have hfz87_0 := blk_frozen BK394.out 0
        have hfz87_1 := blk_frozen BK394.out 1
        try go_wp2_with (first | ((with_reducible refine gate_callee (f := 171) rfl ?_); refine gl_ (some 31) Try.func171 #[.pointer (some ⟨g, 0, none⟩), .int .i64 40] ?_; (with_reducible refine (spec_l01Next.calls g s0_0 x1001_1 x1002_1 40 t413 t414 t415 w0 _ ?side1 ?side2 A40.out).mono ?_); (case side1 => exact IsS131.gs_); (case side2 => exact IsS131.hs_); rintro e w88 ⟨rfl, hi, hb, hk⟩; refine ⟨_, rfl, ?_⟩; replace HO_395001 := m_ (Kd.V_mono (Kd.V_keep (Kd.V_mono (ok := fun k_ => (((w.heap.size ≤ k_)) ∧ (some k_ ≠ (u405003 : Value).ownBlock ∧ (k_ ≠ gb387 ∧ (k_ ≠ gb394 ∧ (k_ ≠ gb404 ∧ k_ ≠ g)))))) (Kd.V_below HO_395001.out bgo_) (fun k_ hk_ => (⟨hk_, hk_.2.2.2.2.2⟩ : _ ∧ k_ ≠ g))) hk (fun _ h => h.2)) (fun _ h => h.1)); replace HO_405001 := m_ (Kd.V_mono (Kd.V_keep (Kd.V_mono (ok := fun k_ => (((w.heap.size ≤ k_)) ∧ (some k_ ≠ (u405003 : Value).ownBlock ∧ (k_ ≠ gb387 ∧ (k_ ≠ gb394 ∧ (k_ ≠ gb404 ∧ k_ ≠ g)))))) (Kd.V_below HO_405001.out bgo_) (fun k_ hk_ => (⟨hk_, hk_.2.2.2.2.2⟩ : _ ∧ k_ ≠ g))) hk (fun _ h => h.2)) (fun _ h => h.1)); replace HO_405003 := m_ (Kd.N_mono (Kd.N_keep (Kd.N_mono (ok := fun k_ => (((w.heap.size ≤ k_)) ∧ (k_ ≠ gb387 ∧ (k_ ≠ gb394 ∧ (k_ ≠ gb404 ∧ k_ ≠ g))))) (Kd.N_below HO_405003.out bgo_) (fun k_ hk_ => (⟨hk_, hk_.2.2.2.2⟩ : _ ∧ k_ ≠ g))) hk (fun _ h => h.2)) (fun _ h => h.1)); replace BK387 := m_ (KeepBut.blk hk (blk_below BK387.out bgo_) NB387_0.out (by simp)); replace BK394 := m_ (KeepBut.blk hk (blk_below BK394.out bgo_) NB394_0.out (by simp)); replace BK404 := m_ (KeepBut.blk hk (blk_below BK404.out bgo_) NB404_0.out (by simp)); replace HK := m_ (KeepBut.trans kp_ hk (.inl rfl)); replace HB := m_ (hb); replace HI0 := m_ (hi); clear hi hb hk; have hnb89 := NB404_387.out; have hnc89 := NB387_404.out; have hnb90 := NB404_0.out; have hnc90 := NB0_404.out; have hcz91_0 := bc0_ BK404.out; have hcz91_1 := bc1_ BK404.out; have hcz91_2 := bc2_ BK404.out; have hcz91_3 := bc3_ BK404.out; have hfz91_0 := blk_frozen BK404.out 0; have hfz91_1 := blk_frozen BK404.out 1; have hfz91_2 := blk_frozen BK404.out 2; have hfz91_3 := blk_frozen BK404.out 3; obtain ⟨Ao92, co92, eo92⟩ := Kd.N_slice HO_405003.out; subst eo92))
        replace HO_395001 := m_ (Kd.V_drew HO_395001.out)
        replace HO_405001 := m_ (Kd.V_drew HO_405001.out)
        replace HO_405003 := m_ (Kd.N_drew HO_405003.out)
        replace BK387 := m_ (blk_drew BK387.out)
        replace BK394 := m_ (blk_drew BK394.out)
        replace BK404 := m_ (blk_drew BK404.out)
        replace HI0 := m_ (IsS131.drew HI0.out)
        replace HK := m_ (keep_drew HK.out)
        replace HB := m_ (below_drew1 HB.out)
        refine start_ (n := 7) (S := fun w' => w'.cell? ⟨gb404, 0, none⟩ = some (.int .i64 t388) ∧ w'.cell? ⟨gb404, 1, none⟩ = some (.slice Ao10 t389.length co10) ∧ w'.cell? ⟨gb404, 2, none⟩ = some (.int .i64 t398) ∧ w'.cell? ⟨gb404, 3, none⟩ = some (.slice Ao92 x405003_1.length co92)) (ds := [6]) #[false, false, false, false, false, false, false] (by kernel_rfl) rfl rfl ⟨bc0_ BK404.out, bc1_ BK404.out, bc2_ BK404.out, bc3_ BK404.out⟩ (fun hHeld => ?_)
        generalize w88.drew = w93 at HO_395001 HO_405001 HO_405003 BK387 BK394 BK404 HI0 HK HB hHeld ⊢
        refine pure_ (i := 0) (N := some 58) (v := ?_) (a' := ?_) #[true, false, false, false, false, false, false] rfl rfl (by kernel_rfl) (fun _ _ _ h => h) (Or.inl ⟨by rfl, ?_⟩) ?_ ?_
        rotate_left
        ·intro w'
         go_simp
         with_reducible rfl
        rotate_left
        ·simp only [Act.put, nf_]
         rfl
        refine pure_ (i := 2) (N := some 60) (v := ?_) (a' := ?_) #[true, false, true, false, false, false, false] rfl rfl (by kernel_rfl) (fun _ _ _ h => h) (Or.inl ⟨by rfl, ?_⟩) ?_ ?_
        rotate_left
        ·intro w'
         go_simp
         with_reducible rfl
        rotate_left
        ·simp only [Act.put, nf_]
         rfl
        refine take_ (i := 1) (N := some 59) (v := ?_) (a' := ?_) #[true, true, true, false, false, false, false] rfl rfl (by kernel_rfl) (fun _ _ _ h => h) (Or.inl ⟨by rfl, ?_⟩) hHeld ?_ ?_
        rotate_left
        ·rintro w' ⟨s0, s1, s2, s3⟩
         go_simp
         with_reducible rfl
        rotate_left
        ·simp only [Act.put, nf_]
         rfl
        refine take_ (i := 3) (N := some 61) (v := ?_) (a' := ?_) #[true, true, true, true, false, false, false] rfl rfl (by kernel_rfl) (fun _ _ _ h => h) (Or.inl ⟨by rfl, ?_⟩) hHeld ?_ ?_
        rotate_left
        ·rintro w' ⟨s0, s1, s2, s3⟩
         go_simp
         with_reducible rfl
        rotate_left
        ·simp only [Act.put, nf_]
         rfl
        refine one_ (i := 4) (N := some 62) #[true, true, true, true, true, false, false] rfl rfl (by kernel_rfl) (by decide) (fun K hK => ?_)
        refine Kd.R_make_step (Kd.int .i64) _ 2 (by rfl) (N := 62) rfl 29 _ _ rfl t398 rfl rfl Try.underlying29 (.int .i64 0) 8 info2 rfl (by decide) (by omega) 0 (ok := fun _ => True) (okp := fun _ => True) rfl (fun _ hk => hk) trivial (od_) (Nat.le_trans (Nat.mul_le_mul_right _ (od_ : t398.toNat ≤ 35184372088832)) (by omega)) (Below.refl _ _) (Nat.le_refl _) ?_
        intro v431 w94 ho95 hb hg_ hnew_
        clear hg_ hnew_
        rw [← Ny430.out] at ho95
        replace HO_395001 := m_ (Kd.V_elder' (Kd.V_below HO_395001.out bgo_) (Kd.R_base ho95) hb)
        replace HO_405001 := m_ (Kd.V_elder' (Kd.V_below HO_405001.out bgo_) (Kd.R_base ho95) hb)
        replace HO_405003 := m_ (Kd.N_elder' (Kd.N_below HO_405003.out bgo_) (Kd.R_base ho95) hb)
        have HO432 := m_ (Kd.R_lower (Kd.R_newM (M := fun k_ => (w.heap.size ≤ k_)) ho95 (keep_size (w := w) (g := g) (row := none) kp_) (fun k_ h_ => h_)) (keep_size (w := w) (g := g) (row := none) kp_))
        replace BK387 := m_ (bb_ BK387.out hb)
        replace BK394 := m_ (bb_ BK394.out hb)
        replace BK404 := m_ (bb_ BK404.out hb)
        replace HK := m_ (KeepBut.trans kp_ (KeepBut.of_below hb g none) (.inl rfl))
        replace HB := m_ (below_step IsS131.hs_ hb)
        replace HI0 := m_ (IsS131.below IsS131.gs_ hb)
        clear hb ho95
        have p83 : 0 ≤ (0 : Int) := (by omega)
        have q83 : (0 : Int) < ((x405003_1.length : Int) : Int) := od_
        have qi83 : (0 < x405003_1.length) = True := eq_true (by omega)
        obtain ⟨go83, co83, eo83, gb83, gl83, cl83, HG83⟩ := Kd.N_form HO_405003.out (by omega)
        (first | cases eo83 | (injection eo83 with ea_ en_ ec_; (first | subst ea_ | (injection ea_ with ea_; subst ea_)); subst ec_; clear en_))
        have GB83 := m_ gb83
        have GG83 := m_ HG83
        clear gb83 gl83 HG83
        obtain ⟨ce83, hcl83, hM83, hcc83, hfr83⟩ := Kd.N_elem HO_405003.out [] (0 : Int) p83 q83
        obtain ⟨ua83_0, uc83_0, rfl, ul83_0, ge83_0⟩ := Kd.FK_slice_open hM83
        have hx83_0 := hcc83 0 _ rfl
        have hf83_0 := hfr83 0
        (try simp only [show ((Kd.slice 2 (Kd.int .i64))).sz = 1 from rfl, Nat.mul_one, Nat.add_zero] at hx83_0)
        (try simp only [show ((Kd.slice 2 (Kd.int .i64))).sz = 1 from rfl, Nat.mul_one, Nat.add_zero] at hf83_0)
        clear hcl83 hcc83 hfr83; (try clear hM83)
        (try rw [show ((0 : Int)).toNat = 0 from rfl] at hx83_0)
        (try simp only [Nat.reduceMul, Nat.zero_mul, Nat.zero_add, Nat.reduceAdd] at hx83_0)
        (try rw [show ((0 : Int)).toNat = 0 from rfl] at hf83_0)
        (try simp only [Nat.reduceMul, Nat.zero_mul, Nat.zero_add, Nat.reduceAdd] at hf83_0)
        replace p83 := eq_true p83
        replace q83 := eq_true q83
        obtain ⟨Ao431, co431, eo431⟩ := Kd.R_slice HO432.out
        subst eo431
        have HN0_go83 := m_ (show g ≠ go83 from by have h_ := IsS131.own_neN HI0.out HO_405003.out (by decide); intro e_; exact h_ (by rw [e_]; rfl))
        have HX96 := m_ (show Kd.N (Kd.slice 2 (Kd.int .i64)) 29 _ w.heap.size (fun k_ => (w.heap.size ≤ k_) ∧ some k_ ≠ ((.slice Ao431 y430.length co431) : Value).ownBlock ∧ k_ ≠ gb387 ∧ k_ ≠ gb394 ∧ k_ ≠ gb404 ∧ k_ ≠ g) (.slice (some ⟨go83, 0, none⟩) x405003_1.length co92) x405003_1 from (Kd.N_mono (HO_405003.out) (fun k_ hk => ⟨hk.1.1, ⟨hk.2, ⟨hk.1.2.1, ⟨hk.1.2.2.1, ⟨hk.1.2.2.2.1, hk.1.2.2.2.2⟩⟩⟩⟩⟩)))
        replace HX96 := m_ (show Kd.N (Kd.slice 2 (Kd.int .i64)) 29 _ w.heap.size (fun k_ => (w.heap.size ≤ k_) ∧ k_ ≠ gb387 ∧ k_ ≠ gb394 ∧ k_ ≠ gb404 ∧ k_ ≠ g) (.slice (some ⟨go83, 0, none⟩) x405003_1.length co92) x405003_1 from Kd.N_mono HX96.out (fun k_ hk => ⟨hk.1, ⟨hk.2.2.1, ⟨hk.2.2.2.1, ⟨hk.2.2.2.2.1, hk.2.2.2.2.2⟩⟩⟩⟩))
        obtain ⟨ce96, hcl96, hM96, hcc96, hfr96⟩ := Kd.N_elem HX96.out [] (0 : Int) (by omega) (by have h_ : (0 : Int) < ((x405003_1.length : Int) : Int) := od_; first | exact h_ | (have e_ := (Kd.N_reads' HO_405003.out).1; omega) | simpa using h_)
        obtain ⟨ua96_0, uc96_0, rfl, ul96_0, ge96_0⟩ := Kd.FK_slice_open hM96
        have z_ := IsS131.apart HI0.out (Kd.R_types (Kd.R_types (Kd.R_types (Kd.R_apart' (HO432.out) (Kd.N_typed HO_405003.out) (by decide)) BK387.out (by decide)) BK394.out (by decide)) BK404.out (by decide)) (by decide)
        have y_ : Kd.R (Kd.int .i64) 2 _ w.heap.size (fun k_ => ((fun k_ => (w.heap.size ≤ k_) ∧ k_ ≠ gb387 ∧ k_ ≠ gb394 ∧ k_ ≠ gb404 ∧ k_ ≠ g)) k_ ∧ k_ ≠ go83) (.slice Ao431 y430.length co431) y430 := Kd.R_mono z_ (fun k_ hk => ⟨⟨hk.1.1.1.1.1.1, ⟨hk.1.1.1.2, ⟨hk.1.1.2, ⟨hk.1.2, hk.2⟩⟩⟩⟩, fun e_ => (hk.1.1.1.1.2) (by rw [e_]; rfl)⟩)
        have HP96 := (Kd.N_seg HX96.out (0 : Int) (by omega) (by have h_ : (0 : Int) < ((x405003_1.length : Int) : Int) := od_; first | exact h_ | (have e_ := (Kd.N_reads' HO_405003.out).1; omega) | simpa using h_) (seg := [(.slice Ao431 y430.length co431)]) (j := 0) hcl96 hcc96 (show 1 ≤ 1 from by decide) (x' := y430) (Kd.FK_slice_mk (Kd.R_reads' y_).2.1 (Kd.R_F y_)) (fun _ hk => hk)).1
        (try simp only [show ((Kd.slice 2 (Kd.int .i64))).sz = 1 from rfl, Nat.mul_one, Nat.add_zero] at HP96)
        rw [← Ny433.out] at HP96
        have HQ96 := m_ HP96
        clear hcl96 hcc96 hfr96; (try clear hM96); (try clear HP96)
        refine hK.out _ _ ⟨bc0_ BK404.out, bc1_ BK404.out, bc2_ BK404.out, bc3_ BK404.out⟩ (fun hHeld => ?_)
        clear hK K
        refine nm_ ?_
        refine pure_ (i := 5) (N := some 63) (v := ?_) (a' := ?_) #[true, true, true, true, true, true, false] rfl rfl (by kernel_rfl) (fun _ _ _ h => h) (Or.inl ⟨by rfl, ?_⟩) ?_ ?_
        rotate_left
        ·intro w'
         go_simp
         with_reducible rfl
        rotate_left
        ·simp only [Act.put, nf_]
         rfl
        refine last_ (i := 6) (N := none) #[true, true, true, true, true, true, true] rfl rfl (by kernel_rfl) (by decide) (fun K hK => ?_)
        refine skip_ (w1 := ?_) (by rfl) rfl ?_ ?_
        rotate_left
        ·go_simp
         rfl
        refine hK.out _ _ ?_
        clear hK K
        refine done_ (by kernel_rfl) ?_
        have n0_ : Aside0 (Kd.V (Kd.slice 2 (Kd.int .i64)) 29 (w94.setCell ⟨go83, 0, none⟩ ((.slice Ao431 y430.length co431))) w.heap.size (fun k_ => (w.heap.size ≤ k_) ∧ some k_ ≠ (.slice (some ⟨go83, 0, none⟩) x405003_1.length co92 : Value).ownBlock ∧ k_ ≠ gb387 ∧ k_ ≠ gb394 ∧ k_ ≠ gb404 ∧ k_ ≠ g) (.slice Ao10 t389.length co10) t389) := ⟨by (with_reducible repeat (first | apply Kd.V_alloc | apply Kd.V_drewN | apply Kd.V_drew)); exact Kd.V_mono (Kd.V_far (p := ⟨go83, 0, none⟩) (Kd.V_mono HO_395001.out (fun k_ hk => (⟨hk, fun e_ => hk.1.2.1 (by rw [e_]; rfl)⟩ : _ ∧ k_ ≠ go83))) (fun _ hk => hk.2) ((.slice Ao431 y430.length co431))) (fun _ hk => ⟨hk.1.1.1, ⟨hk.1.1.2.1, ⟨hk.1.1.2.2.1, ⟨hk.1.1.2.2.2.1, ⟨hk.1.1.2.2.2.2.1, hk.1.1.2.2.2.2.2⟩⟩⟩⟩⟩)⟩
        have n1_ : Aside0 (Kd.V (Kd.slice 2 (Kd.int .i64)) 29 (w94.setCell ⟨go83, 0, none⟩ ((.slice Ao431 y430.length co431))) w.heap.size (fun k_ => (w.heap.size ≤ k_) ∧ some k_ ≠ (.slice (some ⟨go83, 0, none⟩) x405003_1.length co92 : Value).ownBlock ∧ k_ ≠ gb387 ∧ k_ ≠ gb394 ∧ k_ ≠ gb404 ∧ k_ ≠ g) (.slice Ao10 t389.length co10) t389) := ⟨by (with_reducible repeat (first | apply Kd.V_alloc | apply Kd.V_drewN | apply Kd.V_drew)); exact Kd.V_mono (Kd.V_far (p := ⟨go83, 0, none⟩) (Kd.V_mono HO_405001.out (fun k_ hk => (⟨hk, fun e_ => hk.1.2.1 (by rw [e_]; rfl)⟩ : _ ∧ k_ ≠ go83))) (fun _ hk => hk.2) ((.slice Ao431 y430.length co431))) (fun _ hk => ⟨hk.1.1.1, ⟨hk.1.1.2.1, ⟨hk.1.1.2.2.1, ⟨hk.1.1.2.2.2.1, ⟨hk.1.1.2.2.2.2.1, hk.1.1.2.2.2.2.2⟩⟩⟩⟩⟩)⟩
        have n2_ : Aside0 (Kd.N (Kd.slice 2 (Kd.int .i64)) 29 (w94.setCell ⟨go83, 0, none⟩ ((.slice Ao431 y430.length co431))) w.heap.size (fun k_ => (w.heap.size ≤ k_) ∧ k_ ≠ gb387 ∧ k_ ≠ gb394 ∧ k_ ≠ gb404 ∧ k_ ≠ g) (.slice (some ⟨go83, 0, none⟩) x405003_1.length co92) y433) := ⟨by (with_reducible repeat (first | apply Kd.N_alloc | apply Kd.N_drewN | apply Kd.N_drew)); exact HQ96.out⟩
        have n3_ : Aside0 ((w94.setCell ⟨go83, 0, none⟩ ((.slice Ao431 y430.length co431))).heap[gb387]? = some (.cells #[.int .i64 0, .slice none 0 0, .int .i64 0, .slice none 0 0] 28 (0, 0))) := ⟨by (with_reducible repeat (first | refine blk_drewN ?_ _ | refine blk_drew ?_ | refine blk_alloc ?_ _)); refine blk_far ?_ (by have h_ := Kd.N_away HO_405003.out (fun _ hk => hk.1.2.1); intro e_; exact h_ (by rw [e_]; rfl)) _; (with_reducible repeat (first | refine blk_drewN ?_ _ | refine blk_drew ?_ | refine blk_alloc ?_ _)); exact BK387.out⟩
        have n4_ : Aside0 ((w94.setCell ⟨go83, 0, none⟩ ((.slice Ao431 y430.length co431))).heap[gb394]? = some (.cells #[.int .i64 t388, .slice Ao10 t389.length co10] 26 (0, 0))) := ⟨by (with_reducible repeat (first | refine blk_drewN ?_ _ | refine blk_drew ?_ | refine blk_alloc ?_ _)); refine blk_far ?_ (by have h_ := Kd.N_away HO_405003.out (fun _ hk => hk.1.2.2.1); intro e_; exact h_ (by rw [e_]; rfl)) _; (with_reducible repeat (first | refine blk_drewN ?_ _ | refine blk_drew ?_ | refine blk_alloc ?_ _)); exact BK394.out⟩
        have n5_ : Aside0 ((w94.setCell ⟨go83, 0, none⟩ ((.slice Ao431 y430.length co431))).heap[gb404]? = some (.cells #[.int .i64 t388, .slice Ao10 t389.length co10, .int .i64 t398, .slice (some ⟨go83, 0, none⟩) x405003_1.length co92] 28 (0, 0))) := ⟨by (with_reducible repeat (first | refine blk_drewN ?_ _ | refine blk_drew ?_ | refine blk_alloc ?_ _)); refine blk_far ?_ (by have h_ := Kd.N_away HO_405003.out (fun _ hk => hk.1.2.2.2.1); intro e_; exact h_ (by rw [e_]; rfl)) _; (with_reducible repeat (first | refine blk_drewN ?_ _ | refine blk_drew ?_ | refine blk_alloc ?_ _)); exact BK404.out⟩
        have n6_ : Aside0 (IsS131 w0 (w94.setCell ⟨go83, 0, none⟩ ((.slice Ao431 y430.length co431))) g s0_0 t414 t415) := ⟨IsS131.gs_⟩
        have n7_ : Aside0 (KeepBut w (w94.setCell ⟨go83, 0, none⟩ ((.slice Ao431 y430.length co431))) g none) := ⟨kp_⟩
        have n8_ : Aside0 (Below w0.heap.size w0 (w94.setCell ⟨go83, 0, none⟩ ((.slice Ao431 y430.length co431)))) := ⟨by repeat (first | (with_reducible first | exact HB.out | apply below_alloc | apply pw_below_drewN | apply below_drew1 | refine below_set ?_ (Nat.le_trans HL.out GB83.out) | refine below_set ?_ (IsS131.ge HI0.out) | refine below_set ?_ GE387.out | refine below_set ?_ GE394.out | refine below_set ?_ GE404.out) | exact HB.out)⟩
        (try clear HO_395001)
        (try clear HO_405001)
        (try clear HO_405003)
        (try clear BK387)
        (try clear BK394)
        (try clear BK404)
        (try clear HI0)
        (try clear HK)
        (try clear HB)
        generalize (w94.setCell ⟨go83, 0, none⟩ ((.slice Ao431 y430.length co431))) = w97 at n0_ n1_ n2_ n3_ n4_ n5_ n6_ n7_ n8_ ⊢
        have HO_395001 := n0_
        have HO_405001 := n1_
        have HO_405003 := n2_
        have BK387 := n3_
        have BK394 := n4_
        have BK404 := n5_
        have HI0 := n6_
        have HK := n7_
        have HB := n8_
        clear n0_ n1_ n2_ n3_ n4_ n5_ n6_ n7_ n8_
        have hcz98_0 := bc0_ BK404.out
        have hcz98_1 := bc1_ BK404.out
        have hcz98_2 := bc2_ BK404.out
        have hcz98_3 := bc3_ BK404.out
        have hfz98_0 := blk_frozen BK404.out 0
        have hfz98_1 := blk_frozen BK404.out 1
        have hfz98_2 := blk_frozen BK404.out 2
        have hfz98_3 := blk_frozen BK404.out 3
        have hnb99 := NB387_0.out
        have hnc99 := NB0_387.out
        have hcz100_0 := bc0_ BK387.out
        have hcz100_1 := bc1_ BK387.out
        have hcz100_2 := bc2_ BK387.out
        have hcz100_3 := bc3_ BK387.out
        have hfz100_0 := blk_frozen BK387.out 0
        have hfz100_1 := blk_frozen BK387.out 1
        have hfz100_2 := blk_frozen BK387.out 2
        have hfz100_3 := blk_frozen BK387.out 3
        try go_wp2
        refine bodyPost_ret (results_cell_row rfl _ _ gb387 28 #[.int .i64 t388, .slice Ao10 t389.length co10, .int .i64 t398, .slice (some ⟨go83, 0, none⟩) x405003_1.length co92] (0, 0) _ rfl (by (with_reducible repeat (first | refine blk_drewN ?_ _ | refine blk_drew ?_ | refine blk_alloc ?_ _)); refine blk_put (cs := #[.int .i64 t388, .slice Ao10 t389.length co10, .int .i64 t398, .slice none 0 0]) ?_ 3 _ rfl; (with_reducible repeat (first | refine blk_drewN ?_ _ | refine blk_drew ?_ | refine blk_alloc ?_ _)); refine blk_put (cs := #[.int .i64 t388, .slice Ao10 t389.length co10, .int .i64 0, .slice none 0 0]) ?_ 2 _ rfl; (with_reducible repeat (first | refine blk_drewN ?_ _ | refine blk_drew ?_ | refine blk_alloc ?_ _)); refine blk_put (cs := #[.int .i64 t388, .slice none 0 0, .int .i64 0, .slice none 0 0]) ?_ 1 _ rfl; (with_reducible repeat (first | refine blk_drewN ?_ _ | refine blk_drew ?_ | refine blk_alloc ?_ _)); refine blk_put (cs := #[.int .i64 0, .slice none 0 0, .int .i64 0, .slice none 0 0]) ?_ 0 _ rfl; (with_reducible repeat (first | refine blk_drewN ?_ _ | refine blk_drew ?_ | refine blk_alloc ?_ _)); exact BK387.out) Try.underlying28 rfl (by kernel_rfl)) rfl ?_
        exact ⟨_, _, er_, by (with_reducible repeat (first | apply Kd.V_alloc | apply Kd.V_drewN | apply Kd.V_drew)); exact Kd.V_mono (Kd.V_far (p := ⟨gb387, 3, none⟩) (Kd.V_far (p := ⟨gb387, 2, none⟩) (Kd.V_far (p := ⟨gb387, 1, none⟩) (Kd.V_far (p := ⟨gb387, 0, none⟩) (Kd.V_mono HO_405001.out (fun k_ hk => (⟨hk, hk.2.2.1⟩ : _ ∧ k_ ≠ gb387))) (fun _ hk => hk.2) (.int .i64 t388)) (fun _ hk => hk.2) (.slice Ao10 t389.length co10)) (fun _ hk => hk.2) (.int .i64 t398)) (fun _ hk => hk.2) (.slice (some ⟨go83, 0, none⟩) x405003_1.length co92)) (fun _ hk => ⟨hk.1.1, hk.1.2.1⟩), by (with_reducible repeat (first | apply Kd.N_alloc | apply Kd.N_drewN | apply Kd.N_drew)); exact Kd.N_mono (Kd.N_far (p := ⟨gb387, 3, none⟩) (Kd.N_far (p := ⟨gb387, 2, none⟩) (Kd.N_far (p := ⟨gb387, 1, none⟩) (Kd.N_far (p := ⟨gb387, 0, none⟩) (Kd.N_mono HO_405003.out (fun k_ hk => (⟨hk, hk.2.1⟩ : _ ∧ k_ ≠ gb387))) (fun _ hk => hk.2) (.int .i64 t388)) (fun _ hk => hk.2) (.slice Ao10 t389.length co10)) (fun _ hk => hk.2) (.int .i64 t398)) (fun _ hk => hk.2) (.slice (some ⟨go83, 0, none⟩) x405003_1.length co92)) (fun _ hk => hk.1.1), IsS131.gs_, IsS131.hs_, kp_⟩
       ·rw [if_neg c79] at H
        have c79b0 := decide_eq_false c79
        have c79b1 : decide (0 < x405003_1.length) = false := decide_eq_false (by omega)
        clear c79
        simp only [Option.some.injEq, Prod.mk.injEq] at H
        obtain ⟨rfl, rfl, rfl, rfl, rfl, rfl⟩ := H
        have hnb101 := NB394_387.out
        have hnc101 := NB387_394.out
        have hnb102 := NB394_404.out
        have hnc102 := NB404_394.out
        have hnb103 := NB394_0.out
        have hnc103 := NB0_394.out
        have hcz104_0 := bc0_ BK394.out
        have hcz104_1 := bc1_ BK394.out
        have hfz104_0 := blk_frozen BK394.out 0
        have hfz104_1 := blk_frozen BK394.out 1
        go_wp2_with (first | ((with_reducible refine gate_callee (f := 171) rfl ?_); refine gl_ (some 31) Try.func171 #[.pointer (some ⟨g, 0, none⟩), .int .i64 40] ?_; (with_reducible refine (spec_l01Next.calls g s0_0 x1001_1 x1002_1 40 t413 t414 t415 w0 _ ?side1 ?side2 A40.out).mono ?_); (case side1 => exact IsS131.gs_); (case side2 => exact IsS131.hs_); rintro e w105 ⟨rfl, hi, hb, hk⟩; refine ⟨_, rfl, ?_⟩; replace HO_395001 := m_ (Kd.V_mono (Kd.V_keep (Kd.V_mono (ok := fun k_ => (((w.heap.size ≤ k_)) ∧ (some k_ ≠ (u405003 : Value).ownBlock ∧ (k_ ≠ gb387 ∧ (k_ ≠ gb394 ∧ (k_ ≠ gb404 ∧ k_ ≠ g)))))) (Kd.V_below HO_395001.out bgo_) (fun k_ hk_ => (⟨hk_, hk_.2.2.2.2.2⟩ : _ ∧ k_ ≠ g))) hk (fun _ h => h.2)) (fun _ h => h.1)); replace HO_405001 := m_ (Kd.V_mono (Kd.V_keep (Kd.V_mono (ok := fun k_ => (((w.heap.size ≤ k_)) ∧ (some k_ ≠ (u405003 : Value).ownBlock ∧ (k_ ≠ gb387 ∧ (k_ ≠ gb394 ∧ (k_ ≠ gb404 ∧ k_ ≠ g)))))) (Kd.V_below HO_405001.out bgo_) (fun k_ hk_ => (⟨hk_, hk_.2.2.2.2.2⟩ : _ ∧ k_ ≠ g))) hk (fun _ h => h.2)) (fun _ h => h.1)); replace HO_405003 := m_ (Kd.N_mono (Kd.N_keep (Kd.N_mono (ok := fun k_ => (((w.heap.size ≤ k_)) ∧ (k_ ≠ gb387 ∧ (k_ ≠ gb394 ∧ (k_ ≠ gb404 ∧ k_ ≠ g))))) (Kd.N_below HO_405003.out bgo_) (fun k_ hk_ => (⟨hk_, hk_.2.2.2.2⟩ : _ ∧ k_ ≠ g))) hk (fun _ h => h.2)) (fun _ h => h.1)); replace BK387 := m_ (KeepBut.blk hk (blk_below BK387.out bgo_) NB387_0.out (by simp)); replace BK394 := m_ (KeepBut.blk hk (blk_below BK394.out bgo_) NB394_0.out (by simp)); replace BK404 := m_ (KeepBut.blk hk (blk_below BK404.out bgo_) NB404_0.out (by simp)); replace HK := m_ (KeepBut.trans kp_ hk (.inl rfl)); replace HB := m_ (hb); replace HI0 := m_ (hi); clear hi hb hk; have hnb106 := NB404_387.out; have hnc106 := NB387_404.out; have hnb107 := NB404_0.out; have hnc107 := NB0_404.out; have hcz108_0 := bc0_ BK404.out; have hcz108_1 := bc1_ BK404.out; have hcz108_2 := bc2_ BK404.out; have hcz108_3 := bc3_ BK404.out; have hfz108_0 := blk_frozen BK404.out 0; have hfz108_1 := blk_frozen BK404.out 1; have hfz108_2 := blk_frozen BK404.out 2; have hfz108_3 := blk_frozen BK404.out 3; obtain ⟨Ao109, co109, eo109⟩ := Kd.N_slice HO_405003.out; subst eo109; have hnb110 := NB387_0.out; have hnc110 := NB0_387.out; have hcz111_0 := bc0_ BK387.out; have hcz111_1 := bc1_ BK387.out; have hcz111_2 := bc2_ BK387.out; have hcz111_3 := bc3_ BK387.out; have hfz111_0 := blk_frozen BK387.out 0; have hfz111_1 := blk_frozen BK387.out 1; have hfz111_2 := blk_frozen BK387.out 2; have hfz111_3 := blk_frozen BK387.out 3))
        refine bodyPost_ret (results_cell_row rfl _ _ gb387 28 #[.int .i64 t388, .slice Ao10 t389.length co10, .int .i64 t398, .slice Ao109 x405003_1.length co109] (0, 0) _ rfl (by (with_reducible repeat (first | refine blk_drewN ?_ _ | refine blk_drew ?_ | refine blk_alloc ?_ _)); refine blk_put (cs := #[.int .i64 t388, .slice Ao10 t389.length co10, .int .i64 t398, .slice none 0 0]) ?_ 3 _ rfl; (with_reducible repeat (first | refine blk_drewN ?_ _ | refine blk_drew ?_ | refine blk_alloc ?_ _)); refine blk_put (cs := #[.int .i64 t388, .slice Ao10 t389.length co10, .int .i64 0, .slice none 0 0]) ?_ 2 _ rfl; (with_reducible repeat (first | refine blk_drewN ?_ _ | refine blk_drew ?_ | refine blk_alloc ?_ _)); refine blk_put (cs := #[.int .i64 t388, .slice none 0 0, .int .i64 0, .slice none 0 0]) ?_ 1 _ rfl; (with_reducible repeat (first | refine blk_drewN ?_ _ | refine blk_drew ?_ | refine blk_alloc ?_ _)); refine blk_put (cs := #[.int .i64 0, .slice none 0 0, .int .i64 0, .slice none 0 0]) ?_ 0 _ rfl; (with_reducible repeat (first | refine blk_drewN ?_ _ | refine blk_drew ?_ | refine blk_alloc ?_ _)); exact BK387.out) Try.underlying28 rfl (by kernel_rfl)) rfl ?_
        exact ⟨_, _, er_, by (with_reducible repeat (first | apply Kd.V_alloc | apply Kd.V_drewN | apply Kd.V_drew)); exact Kd.V_mono (Kd.V_far (p := ⟨gb387, 3, none⟩) (Kd.V_far (p := ⟨gb387, 2, none⟩) (Kd.V_far (p := ⟨gb387, 1, none⟩) (Kd.V_far (p := ⟨gb387, 0, none⟩) (Kd.V_mono HO_405001.out (fun k_ hk => (⟨hk, hk.2.2.1⟩ : _ ∧ k_ ≠ gb387))) (fun _ hk => hk.2) (.int .i64 t388)) (fun _ hk => hk.2) (.slice Ao10 t389.length co10)) (fun _ hk => hk.2) (.int .i64 t398)) (fun _ hk => hk.2) (.slice Ao109 x405003_1.length co109)) (fun _ hk => ⟨hk.1.1, hk.1.2.1⟩), by (with_reducible repeat (first | apply Kd.N_alloc | apply Kd.N_drewN | apply Kd.N_drew)); exact Kd.N_mono (Kd.N_far (p := ⟨gb387, 3, none⟩) (Kd.N_far (p := ⟨gb387, 2, none⟩) (Kd.N_far (p := ⟨gb387, 1, none⟩) (Kd.N_far (p := ⟨gb387, 0, none⟩) (Kd.N_mono HO_405003.out (fun k_ hk => (⟨hk, hk.2.1⟩ : _ ∧ k_ ≠ gb387))) (fun _ hk => hk.2) (.int .i64 t388)) (fun _ hk => hk.2) (.slice Ao10 t389.length co10)) (fun _ hk => hk.2) (.int .i64 t398)) (fun _ hk => hk.2) (.slice Ao109 x405003_1.length co109)) (fun _ hk => hk.1.1), IsS131.gs_, IsS131.hs_, kp_⟩
      ·rw [if_neg c78] at H
       have c78b0 : (t413 == 2) = false := beq_eq_false_iff_ne.mpr c78
       have c78b1 : (t413 != 2) = true := bne_iff_ne.mpr c78
       simp only [Option.some.injEq, Prod.mk.injEq] at H
       obtain ⟨rfl, rfl, rfl, rfl, rfl, rfl⟩ := H
       have hnb112 := NB394_387.out
       have hnc112 := NB387_394.out
       have hnb113 := NB394_404.out
       have hnc113 := NB404_394.out
       have hnb114 := NB394_0.out
       have hnc114 := NB0_394.out
       have hcz115_0 := bc0_ BK394.out
       have hcz115_1 := bc1_ BK394.out
       have hfz115_0 := blk_frozen BK394.out 0
       have hfz115_1 := blk_frozen BK394.out 1
       go_wp2_with (first | ((with_reducible refine gate_callee (f := 171) rfl ?_); refine gl_ (some 31) Try.func171 #[.pointer (some ⟨g, 0, none⟩), .int .i64 40] ?_; (with_reducible refine (spec_l01Next.calls g s0_0 x1001_1 x1002_1 40 t413 t414 t415 w0 _ ?side1 ?side2 A40.out).mono ?_); (case side1 => exact IsS131.gs_); (case side2 => exact IsS131.hs_); rintro e w116 ⟨rfl, hi, hb, hk⟩; refine ⟨_, rfl, ?_⟩; replace HO_395001 := m_ (Kd.V_mono (Kd.V_keep (Kd.V_mono (ok := fun k_ => (((w.heap.size ≤ k_)) ∧ (some k_ ≠ (u405003 : Value).ownBlock ∧ (k_ ≠ gb387 ∧ (k_ ≠ gb394 ∧ (k_ ≠ gb404 ∧ k_ ≠ g)))))) (Kd.V_below HO_395001.out bgo_) (fun k_ hk_ => (⟨hk_, hk_.2.2.2.2.2⟩ : _ ∧ k_ ≠ g))) hk (fun _ h => h.2)) (fun _ h => h.1)); replace HO_405001 := m_ (Kd.V_mono (Kd.V_keep (Kd.V_mono (ok := fun k_ => (((w.heap.size ≤ k_)) ∧ (some k_ ≠ (u405003 : Value).ownBlock ∧ (k_ ≠ gb387 ∧ (k_ ≠ gb394 ∧ (k_ ≠ gb404 ∧ k_ ≠ g)))))) (Kd.V_below HO_405001.out bgo_) (fun k_ hk_ => (⟨hk_, hk_.2.2.2.2.2⟩ : _ ∧ k_ ≠ g))) hk (fun _ h => h.2)) (fun _ h => h.1)); replace HO_405003 := m_ (Kd.N_mono (Kd.N_keep (Kd.N_mono (ok := fun k_ => (((w.heap.size ≤ k_)) ∧ (k_ ≠ gb387 ∧ (k_ ≠ gb394 ∧ (k_ ≠ gb404 ∧ k_ ≠ g))))) (Kd.N_below HO_405003.out bgo_) (fun k_ hk_ => (⟨hk_, hk_.2.2.2.2⟩ : _ ∧ k_ ≠ g))) hk (fun _ h => h.2)) (fun _ h => h.1)); replace BK387 := m_ (KeepBut.blk hk (blk_below BK387.out bgo_) NB387_0.out (by simp)); replace BK394 := m_ (KeepBut.blk hk (blk_below BK394.out bgo_) NB394_0.out (by simp)); replace BK404 := m_ (KeepBut.blk hk (blk_below BK404.out bgo_) NB404_0.out (by simp)); replace HK := m_ (KeepBut.trans kp_ hk (.inl rfl)); replace HB := m_ (hb); replace HI0 := m_ (hi); clear hi hb hk; have hnb117 := NB404_387.out; have hnc117 := NB387_404.out; have hnb118 := NB404_0.out; have hnc118 := NB0_404.out; have hcz119_0 := bc0_ BK404.out; have hcz119_1 := bc1_ BK404.out; have hcz119_2 := bc2_ BK404.out; have hcz119_3 := bc3_ BK404.out; have hfz119_0 := blk_frozen BK404.out 0; have hfz119_1 := blk_frozen BK404.out 1; have hfz119_2 := blk_frozen BK404.out 2; have hfz119_3 := blk_frozen BK404.out 3; have hnb120 := NB387_0.out; have hnc120 := NB0_387.out; have hcz121_0 := bc0_ BK387.out; have hcz121_1 := bc1_ BK387.out; have hcz121_2 := bc2_ BK387.out; have hcz121_3 := bc3_ BK387.out; have hfz121_0 := blk_frozen BK387.out 0; have hfz121_1 := blk_frozen BK387.out 1; have hfz121_2 := blk_frozen BK387.out 2; have hfz121_3 := blk_frozen BK387.out 3; obtain ⟨Ao122, co122, eo122⟩ := Kd.N_slice HO_405003.out; subst eo122))
       refine bodyPost_ret (results_cell_row rfl _ _ gb387 28 #[.int .i64 t388, .slice Ao10 t389.length co10, .int .i64 t398, .slice Ao122 x405003_1.length co122] (0, 0) _ rfl (by (with_reducible repeat (first | refine blk_drewN ?_ _ | refine blk_drew ?_ | refine blk_alloc ?_ _)); refine blk_put (cs := #[.int .i64 t388, .slice Ao10 t389.length co10, .int .i64 t398, .slice none 0 0]) ?_ 3 _ rfl; (with_reducible repeat (first | refine blk_drewN ?_ _ | refine blk_drew ?_ | refine blk_alloc ?_ _)); refine blk_put (cs := #[.int .i64 t388, .slice Ao10 t389.length co10, .int .i64 0, .slice none 0 0]) ?_ 2 _ rfl; (with_reducible repeat (first | refine blk_drewN ?_ _ | refine blk_drew ?_ | refine blk_alloc ?_ _)); refine blk_put (cs := #[.int .i64 t388, .slice none 0 0, .int .i64 0, .slice none 0 0]) ?_ 1 _ rfl; (with_reducible repeat (first | refine blk_drewN ?_ _ | refine blk_drew ?_ | refine blk_alloc ?_ _)); refine blk_put (cs := #[.int .i64 0, .slice none 0 0, .int .i64 0, .slice none 0 0]) ?_ 0 _ rfl; (with_reducible repeat (first | refine blk_drewN ?_ _ | refine blk_drew ?_ | refine blk_alloc ?_ _)); exact BK387.out) Try.underlying28 rfl (by kernel_rfl)) rfl ?_
       exact ⟨_, _, er_, by (with_reducible repeat (first | apply Kd.V_alloc | apply Kd.V_drewN | apply Kd.V_drew)); exact Kd.V_mono (Kd.V_far (p := ⟨gb387, 3, none⟩) (Kd.V_far (p := ⟨gb387, 2, none⟩) (Kd.V_far (p := ⟨gb387, 1, none⟩) (Kd.V_far (p := ⟨gb387, 0, none⟩) (Kd.V_mono HO_405001.out (fun k_ hk => (⟨hk, hk.2.2.1⟩ : _ ∧ k_ ≠ gb387))) (fun _ hk => hk.2) (.int .i64 t388)) (fun _ hk => hk.2) (.slice Ao10 t389.length co10)) (fun _ hk => hk.2) (.int .i64 t398)) (fun _ hk => hk.2) (.slice Ao122 x405003_1.length co122)) (fun _ hk => ⟨hk.1.1, hk.1.2.1⟩), by (with_reducible repeat (first | apply Kd.N_alloc | apply Kd.N_drewN | apply Kd.N_drew)); exact Kd.N_mono (Kd.N_far (p := ⟨gb387, 3, none⟩) (Kd.N_far (p := ⟨gb387, 2, none⟩) (Kd.N_far (p := ⟨gb387, 1, none⟩) (Kd.N_far (p := ⟨gb387, 0, none⟩) (Kd.N_mono HO_405003.out (fun k_ hk => (⟨hk, hk.2.1⟩ : _ ∧ k_ ≠ gb387))) (fun _ hk => hk.2) (.int .i64 t388)) (fun _ hk => hk.2) (.slice Ao10 t389.length co10)) (fun _ hk => hk.2) (.int .i64 t398)) (fun _ hk => hk.2) (.slice Ao122 x405003_1.length co122)) (fun _ hk => hk.1.1), IsS131.gs_, IsS131.hs_, kp_⟩

/-! ### spec_l01Ends: function 152 -/
def spec_l01Ends.f (a0_0 : Int) (l0_1 : List (List Int)) (a1 : Int) : Option (Int × Int) := if 0 ≤ (wrap64 (Int.tdiv a1 2)) then (if (wrap64 (Int.tdiv a1 2)) < (l0_1.length : Int) then (if (Int.tmod a1 2) = 1 then (if 1 < ((rd_L2 l0_1 (wrap64 (Int.tdiv a1 2))).length : Int) then (if 0 < ((rd_L2 l0_1 (wrap64 (Int.tdiv a1 2))).length : Int) then (some (rd (rd_L2 l0_1 (wrap64 (Int.tdiv a1 2))) 1, rd (rd_L2 l0_1 (wrap64 (Int.tdiv a1 2))) 0)) else (none)) else (none)) else (if 0 < ((rd_L2 l0_1 (wrap64 (Int.tdiv a1 2))).length : Int) then (if 1 < ((rd_L2 l0_1 (wrap64 (Int.tdiv a1 2))).length : Int) then (some (rd (rd_L2 l0_1 (wrap64 (Int.tdiv a1 2))) 0, rd (rd_L2 l0_1 (wrap64 (Int.tdiv a1 2))) 1)) else (none)) else (none))) else (none)) else (none)
set_option maxHeartbeats 8000000 in
set_option maxRecDepth 100000 in
theorem spec_l01Ends.calls (a0_0 : Int) (A0_1 : Option Addr) (c0_1 : Nat) (l0_1 : List (List Int)) (a1 : Int) (r1 : Int) (r2 : Int) (w : World) (hr0_1 : Kd.C (Kd.slice 2 (Kd.int .i64)) w A0_1 l0_1.length l0_1) (hc0_1 : l0_1.length ≤ c0_1) (h : spec_l01Ends.f a0_0 l0_1 a1 = some (r1, r2)) :
  Calls Try.prog 152 #[.agg #[.int .i64 a0_0, .slice A0_1 l0_1.length c0_1], .int .i64 a1] w fun e w' => e = .returned (.tuple #[.int .i64 r1, .int .i64 r2]) ∧ Below w.heap.size w w' := by
 have hu26 := Try.underlying26
 have HR0_1 := m_ hr0_1
 have HC0_1 := m_ hc0_1
 clear hr0_1 hc0_1
 have HB := m_ (Below.refl w.heap.size w)
 have H : (if 0 ≤ (wrap64 (Int.tdiv a1 2)) then (if (wrap64 (Int.tdiv a1 2)) < (l0_1.length : Int) then (if (Int.tmod a1 2) = 1 then (if 1 < ((rd_L2 l0_1 (wrap64 (Int.tdiv a1 2))).length : Int) then (if 0 < ((rd_L2 l0_1 (wrap64 (Int.tdiv a1 2))).length : Int) then (some (rd (rd_L2 l0_1 (wrap64 (Int.tdiv a1 2))) 1, rd (rd_L2 l0_1 (wrap64 (Int.tdiv a1 2))) 0)) else (none)) else (none)) else (if 0 < ((rd_L2 l0_1 (wrap64 (Int.tdiv a1 2))).length : Int) then (if 1 < ((rd_L2 l0_1 (wrap64 (Int.tdiv a1 2))).length : Int) then (some (rd (rd_L2 l0_1 (wrap64 (Int.tdiv a1 2))) 0, rd (rd_L2 l0_1 (wrap64 (Int.tdiv a1 2))) 1)) else (none)) else (none))) else (none)) else (none)) = some (r1, r2) := h
 clear h
 obtain ⟨ji3, hji3⟩ : ∃ j_ : Int, (wrap64 (Int.tdiv a1 2)) = j_ := ⟨_, rfl⟩
 (try rw [hji3])
 replace H : (if 0 ≤ (ji3) then (if (ji3) < (l0_1.length : Int) then (if (Int.tmod a1 2) = 1 then (if 1 < ((rd_L2 l0_1 (ji3)).length : Int) then (if 0 < ((rd_L2 l0_1 (ji3)).length : Int) then (some (rd (rd_L2 l0_1 (ji3)) 1, rd (rd_L2 l0_1 (ji3)) 0)) else (none)) else (none)) else (if 0 < ((rd_L2 l0_1 (ji3)).length : Int) then (if 1 < ((rd_L2 l0_1 (ji3)).length : Int) then (some (rd (rd_L2 l0_1 (ji3)) 0, rd (rd_L2 l0_1 (ji3)) 1)) else (none)) else (none))) else (none)) else (none)) = some (r1, r2) := by first | (rw [hji3] at H; exact H) | (simp only [hji3] at H ⊢; exact H)
 have hji3w : (IntKind.i64.wrap (Int.tdiv a1 2)) = ji3 := (i64_w _).trans hji3
 by_cases c4 : 0 ≤ (ji3)
 ·rw [if_pos c4] at H
  have c4b0 := decide_eq_true c4
  clear c4
  obtain ⟨c5, H⟩ := itn_ H
  have c5b0 := decide_eq_true c5
  clear c5
  by_cases c6 : (Int.tmod a1 2) = 1
  ·rw [if_pos c6] at H
   have c6b0 : ((Int.tmod a1 2) == 1) = true := beq_iff_eq.mpr c6
   have c6b1 : ((Int.tmod a1 2) != 1) = false := bne_eq_false_iff_eq.mpr c6
   clear c6
   obtain ⟨c7, H⟩ := itn_ H
   have c7b0 := decide_eq_true c7
   have c7b1 : decide (1 < (rd_L2 l0_1 (ji3)).length) = true := decide_eq_true (by omega)
   clear c7
   obtain ⟨c8, H⟩ := itn_ H
   have c8b0 := decide_eq_true c8
   have c8b1 : decide (0 < (rd_L2 l0_1 (ji3)).length) = true := decide_eq_true (by omega)
   clear c8
   simp only [Option.some.injEq, Prod.mk.injEq] at H
   obtain ⟨rfl, rfl⟩ := H
   go_enter Try.func152, Try.ntmps152
   go_wp2_with (first | ((with_reducible refine gate_dst (N := 2) rfl ?_); refine bx_ (N := 2) (cs := #[.int .i64 a0_0, .slice A0_1 l0_1.length c0_1]) (t := 26) ?_; intro gb434 hg w9 hbox hb; have BK434 := m_ (hbox); have GW434 := m_ ((by rw [hg]; exact (below_size hb_) : w.heap.size ≤ gb434)); have GE434 := m_ ((by rw [hg]; exact (below_size hb_) : w.heap.size ≤ gb434)); replace HB := m_ (below_step hb_ hb); clear hb hbox hg; have hcz10_0 := bc0_ BK434.out; have hcz10_1 := bc1_ BK434.out; have hfz10_0 := blk_frozen BK434.out 0; have hfz10_1 := blk_frozen BK434.out 1; have p435 : 0 ≤ ((ji3) : Int) := od_; have q435 : (ji3) < (l0_1.length : Int) := od_; obtain ⟨ad435, A435_0, c435_0, e435, hx435_0, hl435_0, hi435_0⟩ := at_L2 HR0_1.out (ji3) p435 q435; cases e435; replace hx435_0 := (HB.out.cell (World.block_lt_of_cell? w _ hx435_0)).trans hx435_0; have HR435_0 := m_ hi435_0; have HC435_0 := m_ hl435_0; clear hi435_0 hl435_0; replace p435 := eq_true p435; replace q435 := eq_true q435; have p436 : 0 ≤ (1 : Int) := (by omega); have q436 : 1 < ((rd_L2 l0_1 (ji3)).length : Int) := od_; obtain ⟨ad436, e436, hx436_0⟩ := Kd.at_int HR435_0.out 1 p436 q436; cases e436; (try simp only [show (1 : Int).toNat = 1 from rfl, Nat.reduceMul, Nat.reduceEqDiff, Go.Addr.add, ↓reduceIte] at hx436_0); have qi436 : (1 < (rd_L2 l0_1 (ji3)).length) = True := eq_true (by omega); (try rw [show ((1 : Int)).toNat = 1 from rfl] at hx436_0); replace hx436_0 := (HB.out.cell (World.block_lt_of_cell? w _ hx436_0)).trans hx436_0; replace p436 := eq_true p436; replace q436 := eq_true q436; have p437 : 0 ≤ (0 : Int) := (by omega); have q437 : 0 < ((rd_L2 l0_1 (ji3)).length : Int) := od_; obtain ⟨ad437, e437, hx437_0⟩ := Kd.at_int HR435_0.out 0 p437 q437; obtain rfl : ad436 = ad437 := (by injection e437); have qi437 : (0 < (rd_L2 l0_1 (ji3)).length) = True := eq_true (by omega); (try rw [show ((0 : Int)).toNat = 0 from rfl] at hx437_0); (try rw [Addr.add_zero'] at hx437_0); replace hx437_0 := (HB.out.cell (World.block_lt_of_cell? w _ hx437_0)).trans hx437_0; replace p437 := eq_true p437; replace q437 := eq_true q437))
   repeat (go_quiet (first | ((with_reducible refine gate_dst (N := 2) rfl ?_); refine bx_ (N := 2) (cs := #[.int .i64 a0_0, .slice A0_1 l0_1.length c0_1]) (t := 26) ?_; intro gb434 hg w9 hbox hb; have BK434 := m_ (hbox); have GW434 := m_ ((by rw [hg]; exact (below_size hb_) : w.heap.size ≤ gb434)); have GE434 := m_ ((by rw [hg]; exact (below_size hb_) : w.heap.size ≤ gb434)); replace HB := m_ (below_step hb_ hb); clear hb hbox hg; have hcz10_0 := bc0_ BK434.out; have hcz10_1 := bc1_ BK434.out; have hfz10_0 := blk_frozen BK434.out 0; have hfz10_1 := blk_frozen BK434.out 1; have p435 : 0 ≤ ((ji3) : Int) := od_; have q435 : (ji3) < (l0_1.length : Int) := od_; obtain ⟨ad435, A435_0, c435_0, e435, hx435_0, hl435_0, hi435_0⟩ := at_L2 HR0_1.out (ji3) p435 q435; cases e435; replace hx435_0 := (HB.out.cell (World.block_lt_of_cell? w _ hx435_0)).trans hx435_0; have HR435_0 := m_ hi435_0; have HC435_0 := m_ hl435_0; clear hi435_0 hl435_0; replace p435 := eq_true p435; replace q435 := eq_true q435; have p436 : 0 ≤ (1 : Int) := (by omega); have q436 : 1 < ((rd_L2 l0_1 (ji3)).length : Int) := od_; obtain ⟨ad436, e436, hx436_0⟩ := Kd.at_int HR435_0.out 1 p436 q436; cases e436; (try simp only [show (1 : Int).toNat = 1 from rfl, Nat.reduceMul, Nat.reduceEqDiff, Go.Addr.add, ↓reduceIte] at hx436_0); have qi436 : (1 < (rd_L2 l0_1 (ji3)).length) = True := eq_true (by omega); (try rw [show ((1 : Int)).toNat = 1 from rfl] at hx436_0); replace hx436_0 := (HB.out.cell (World.block_lt_of_cell? w _ hx436_0)).trans hx436_0; replace p436 := eq_true p436; replace q436 := eq_true q436; have p437 : 0 ≤ (0 : Int) := (by omega); have q437 : 0 < ((rd_L2 l0_1 (ji3)).length : Int) := od_; obtain ⟨ad437, e437, hx437_0⟩ := Kd.at_int HR435_0.out 0 p437 q437; obtain rfl : ad436 = ad437 := (by injection e437); have qi437 : (0 < (rd_L2 l0_1 (ji3)).length) = True := eq_true (by omega); (try rw [show ((0 : Int)).toNat = 0 from rfl] at hx437_0); (try rw [Addr.add_zero'] at hx437_0); replace hx437_0 := (HB.out.cell (World.block_lt_of_cell? w _ hx437_0)).trans hx437_0; replace p437 := eq_true p437; replace q437 := eq_true q437)); try go_wp2_with (first | ((with_reducible refine gate_dst (N := 2) rfl ?_); refine bx_ (N := 2) (cs := #[.int .i64 a0_0, .slice A0_1 l0_1.length c0_1]) (t := 26) ?_; intro gb434 hg w9 hbox hb; have BK434 := m_ (hbox); have GW434 := m_ ((by rw [hg]; exact (below_size hb_) : w.heap.size ≤ gb434)); have GE434 := m_ ((by rw [hg]; exact (below_size hb_) : w.heap.size ≤ gb434)); replace HB := m_ (below_step hb_ hb); clear hb hbox hg; have hcz10_0 := bc0_ BK434.out; have hcz10_1 := bc1_ BK434.out; have hfz10_0 := blk_frozen BK434.out 0; have hfz10_1 := blk_frozen BK434.out 1; have p435 : 0 ≤ ((ji3) : Int) := od_; have q435 : (ji3) < (l0_1.length : Int) := od_; obtain ⟨ad435, A435_0, c435_0, e435, hx435_0, hl435_0, hi435_0⟩ := at_L2 HR0_1.out (ji3) p435 q435; cases e435; replace hx435_0 := (HB.out.cell (World.block_lt_of_cell? w _ hx435_0)).trans hx435_0; have HR435_0 := m_ hi435_0; have HC435_0 := m_ hl435_0; clear hi435_0 hl435_0; replace p435 := eq_true p435; replace q435 := eq_true q435; have p436 : 0 ≤ (1 : Int) := (by omega); have q436 : 1 < ((rd_L2 l0_1 (ji3)).length : Int) := od_; obtain ⟨ad436, e436, hx436_0⟩ := Kd.at_int HR435_0.out 1 p436 q436; cases e436; (try simp only [show (1 : Int).toNat = 1 from rfl, Nat.reduceMul, Nat.reduceEqDiff, Go.Addr.add, ↓reduceIte] at hx436_0); have qi436 : (1 < (rd_L2 l0_1 (ji3)).length) = True := eq_true (by omega); (try rw [show ((1 : Int)).toNat = 1 from rfl] at hx436_0); replace hx436_0 := (HB.out.cell (World.block_lt_of_cell? w _ hx436_0)).trans hx436_0; replace p436 := eq_true p436; replace q436 := eq_true q436; have p437 : 0 ≤ (0 : Int) := (by omega); have q437 : 0 < ((rd_L2 l0_1 (ji3)).length : Int) := od_; obtain ⟨ad437, e437, hx437_0⟩ := Kd.at_int HR435_0.out 0 p437 q437; obtain rfl : ad436 = ad437 := (by injection e437); have qi437 : (0 < (rd_L2 l0_1 (ji3)).length) = True := eq_true (by omega); (try rw [show ((0 : Int)).toNat = 0 from rfl] at hx437_0); (try rw [Addr.add_zero'] at hx437_0); replace hx437_0 := (HB.out.cell (World.block_lt_of_cell? w _ hx437_0)).trans hx437_0; replace p437 := eq_true p437; replace q437 := eq_true q437)))
   go_ret2
   exact ⟨by first | rfl | (simp [errW_none, errW_some] <;> rfl) | (simp only [← hji3]; first | rfl | (simp [errW_none, errW_some] <;> rfl)) | (simp [*, errW_none, errW_some] <;> rfl), hbs_⟩
  ·rw [if_neg c6] at H
   have c6b0 : ((Int.tmod a1 2) == 1) = false := beq_eq_false_iff_ne.mpr c6
   have c6b1 : ((Int.tmod a1 2) != 1) = true := bne_iff_ne.mpr c6
   obtain ⟨c11, H⟩ := itn_ H
   have c11b0 := decide_eq_true c11
   have c11b1 : decide (0 < (rd_L2 l0_1 (ji3)).length) = true := decide_eq_true (by omega)
   clear c11
   obtain ⟨c12, H⟩ := itn_ H
   have c12b0 := decide_eq_true c12
   have c12b1 : decide (1 < (rd_L2 l0_1 (ji3)).length) = true := decide_eq_true (by omega)
   clear c12
   simp only [Option.some.injEq, Prod.mk.injEq] at H
   obtain ⟨rfl, rfl⟩ := H
   go_enter Try.func152, Try.ntmps152
   go_wp2_with (first | ((with_reducible refine gate_dst (N := 2) rfl ?_); refine bx_ (N := 2) (cs := #[.int .i64 a0_0, .slice A0_1 l0_1.length c0_1]) (t := 26) ?_; intro gb434 hg w13 hbox hb; have BK434 := m_ (hbox); have GW434 := m_ ((by rw [hg]; exact (below_size hb_) : w.heap.size ≤ gb434)); have GE434 := m_ ((by rw [hg]; exact (below_size hb_) : w.heap.size ≤ gb434)); replace HB := m_ (below_step hb_ hb); clear hb hbox hg; have hcz14_0 := bc0_ BK434.out; have hcz14_1 := bc1_ BK434.out; have hfz14_0 := blk_frozen BK434.out 0; have hfz14_1 := blk_frozen BK434.out 1; have p435 : 0 ≤ ((ji3) : Int) := od_; have q435 : (ji3) < (l0_1.length : Int) := od_; obtain ⟨ad435, A435_0, c435_0, e435, hx435_0, hl435_0, hi435_0⟩ := at_L2 HR0_1.out (ji3) p435 q435; cases e435; replace hx435_0 := (HB.out.cell (World.block_lt_of_cell? w _ hx435_0)).trans hx435_0; have HR435_0 := m_ hi435_0; have HC435_0 := m_ hl435_0; clear hi435_0 hl435_0; replace p435 := eq_true p435; replace q435 := eq_true q435; have p438 : 0 ≤ (0 : Int) := (by omega); have q438 : 0 < ((rd_L2 l0_1 (ji3)).length : Int) := od_; obtain ⟨ad438, e438, hx438_0⟩ := Kd.at_int HR435_0.out 0 p438 q438; cases e438; have qi438 : (0 < (rd_L2 l0_1 (ji3)).length) = True := eq_true (by omega); (try rw [show ((0 : Int)).toNat = 0 from rfl] at hx438_0); (try rw [Addr.add_zero'] at hx438_0); replace hx438_0 := (HB.out.cell (World.block_lt_of_cell? w _ hx438_0)).trans hx438_0; replace p438 := eq_true p438; replace q438 := eq_true q438; have p439 : 0 ≤ (1 : Int) := (by omega); have q439 : 1 < ((rd_L2 l0_1 (ji3)).length : Int) := od_; obtain ⟨ad439, e439, hx439_0⟩ := Kd.at_int HR435_0.out 1 p439 q439; obtain rfl : ad438 = ad439 := (by injection e439); (try simp only [show (1 : Int).toNat = 1 from rfl, Nat.reduceMul, Nat.reduceEqDiff, Go.Addr.add, ↓reduceIte] at hx439_0); have qi439 : (1 < (rd_L2 l0_1 (ji3)).length) = True := eq_true (by omega); (try rw [show ((1 : Int)).toNat = 1 from rfl] at hx439_0); replace hx439_0 := (HB.out.cell (World.block_lt_of_cell? w _ hx439_0)).trans hx439_0; replace p439 := eq_true p439; replace q439 := eq_true q439))
   repeat (go_quiet (first | ((with_reducible refine gate_dst (N := 2) rfl ?_); refine bx_ (N := 2) (cs := #[.int .i64 a0_0, .slice A0_1 l0_1.length c0_1]) (t := 26) ?_; intro gb434 hg w13 hbox hb; have BK434 := m_ (hbox); have GW434 := m_ ((by rw [hg]; exact (below_size hb_) : w.heap.size ≤ gb434)); have GE434 := m_ ((by rw [hg]; exact (below_size hb_) : w.heap.size ≤ gb434)); replace HB := m_ (below_step hb_ hb); clear hb hbox hg; have hcz14_0 := bc0_ BK434.out; have hcz14_1 := bc1_ BK434.out; have hfz14_0 := blk_frozen BK434.out 0; have hfz14_1 := blk_frozen BK434.out 1; have p435 : 0 ≤ ((ji3) : Int) := od_; have q435 : (ji3) < (l0_1.length : Int) := od_; obtain ⟨ad435, A435_0, c435_0, e435, hx435_0, hl435_0, hi435_0⟩ := at_L2 HR0_1.out (ji3) p435 q435; cases e435; replace hx435_0 := (HB.out.cell (World.block_lt_of_cell? w _ hx435_0)).trans hx435_0; have HR435_0 := m_ hi435_0; have HC435_0 := m_ hl435_0; clear hi435_0 hl435_0; replace p435 := eq_true p435; replace q435 := eq_true q435; have p438 : 0 ≤ (0 : Int) := (by omega); have q438 : 0 < ((rd_L2 l0_1 (ji3)).length : Int) := od_; obtain ⟨ad438, e438, hx438_0⟩ := Kd.at_int HR435_0.out 0 p438 q438; cases e438; have qi438 : (0 < (rd_L2 l0_1 (ji3)).length) = True := eq_true (by omega); (try rw [show ((0 : Int)).toNat = 0 from rfl] at hx438_0); (try rw [Addr.add_zero'] at hx438_0); replace hx438_0 := (HB.out.cell (World.block_lt_of_cell? w _ hx438_0)).trans hx438_0; replace p438 := eq_true p438; replace q438 := eq_true q438; have p439 : 0 ≤ (1 : Int) := (by omega); have q439 : 1 < ((rd_L2 l0_1 (ji3)).length : Int) := od_; obtain ⟨ad439, e439, hx439_0⟩ := Kd.at_int HR435_0.out 1 p439 q439; obtain rfl : ad438 = ad439 := (by injection e439); (try simp only [show (1 : Int).toNat = 1 from rfl, Nat.reduceMul, Nat.reduceEqDiff, Go.Addr.add, ↓reduceIte] at hx439_0); have qi439 : (1 < (rd_L2 l0_1 (ji3)).length) = True := eq_true (by omega); (try rw [show ((1 : Int)).toNat = 1 from rfl] at hx439_0); replace hx439_0 := (HB.out.cell (World.block_lt_of_cell? w _ hx439_0)).trans hx439_0; replace p439 := eq_true p439; replace q439 := eq_true q439)); try go_wp2_with (first | ((with_reducible refine gate_dst (N := 2) rfl ?_); refine bx_ (N := 2) (cs := #[.int .i64 a0_0, .slice A0_1 l0_1.length c0_1]) (t := 26) ?_; intro gb434 hg w13 hbox hb; have BK434 := m_ (hbox); have GW434 := m_ ((by rw [hg]; exact (below_size hb_) : w.heap.size ≤ gb434)); have GE434 := m_ ((by rw [hg]; exact (below_size hb_) : w.heap.size ≤ gb434)); replace HB := m_ (below_step hb_ hb); clear hb hbox hg; have hcz14_0 := bc0_ BK434.out; have hcz14_1 := bc1_ BK434.out; have hfz14_0 := blk_frozen BK434.out 0; have hfz14_1 := blk_frozen BK434.out 1; have p435 : 0 ≤ ((ji3) : Int) := od_; have q435 : (ji3) < (l0_1.length : Int) := od_; obtain ⟨ad435, A435_0, c435_0, e435, hx435_0, hl435_0, hi435_0⟩ := at_L2 HR0_1.out (ji3) p435 q435; cases e435; replace hx435_0 := (HB.out.cell (World.block_lt_of_cell? w _ hx435_0)).trans hx435_0; have HR435_0 := m_ hi435_0; have HC435_0 := m_ hl435_0; clear hi435_0 hl435_0; replace p435 := eq_true p435; replace q435 := eq_true q435; have p438 : 0 ≤ (0 : Int) := (by omega); have q438 : 0 < ((rd_L2 l0_1 (ji3)).length : Int) := od_; obtain ⟨ad438, e438, hx438_0⟩ := Kd.at_int HR435_0.out 0 p438 q438; cases e438; have qi438 : (0 < (rd_L2 l0_1 (ji3)).length) = True := eq_true (by omega); (try rw [show ((0 : Int)).toNat = 0 from rfl] at hx438_0); (try rw [Addr.add_zero'] at hx438_0); replace hx438_0 := (HB.out.cell (World.block_lt_of_cell? w _ hx438_0)).trans hx438_0; replace p438 := eq_true p438; replace q438 := eq_true q438; have p439 : 0 ≤ (1 : Int) := (by omega); have q439 : 1 < ((rd_L2 l0_1 (ji3)).length : Int) := od_; obtain ⟨ad439, e439, hx439_0⟩ := Kd.at_int HR435_0.out 1 p439 q439; obtain rfl : ad438 = ad439 := (by injection e439); (try simp only [show (1 : Int).toNat = 1 from rfl, Nat.reduceMul, Nat.reduceEqDiff, Go.Addr.add, ↓reduceIte] at hx439_0); have qi439 : (1 < (rd_L2 l0_1 (ji3)).length) = True := eq_true (by omega); (try rw [show ((1 : Int)).toNat = 1 from rfl] at hx439_0); replace hx439_0 := (HB.out.cell (World.block_lt_of_cell? w _ hx439_0)).trans hx439_0; replace p439 := eq_true p439; replace q439 := eq_true q439)))
   go_ret2
   exact ⟨by first | rfl | (simp [errW_none, errW_some] <;> rfl) | (simp only [← hji3]; first | rfl | (simp [errW_none, errW_some] <;> rfl)) | (simp [*, errW_none, errW_some] <;> rfl), hbs_⟩
 ·rw [if_neg c4] at H
  exact absurd H (by simp)

/-! ### spec_l02Closed: function 192 -/
def spec_l02Closed.l0 : Nat → List Int → Int → Int → List (List Int) → Option (Bool)
 | 0, _, _, _, _ => none
 | k + 1, x1, x5, x441000, x441001 => if x5 < (x1.length : Int) then (if 0 ≤ x5 then ((spec_l01Ends.f x441000 x441001 (rd x1 x5)).bind fun bt442 => (if (x1.length : Int) = 0 then (none) else (if 0 ≤ (Int.tmod (wrap64 (x5 + 1)) (x1.length : Int)) then (if (Int.tmod (wrap64 (x5 + 1)) (x1.length : Int)) < (x1.length : Int) then ((spec_l01Ends.f x441000 x441001 (rd x1 (Int.tmod (wrap64 (x5 + 1)) (x1.length : Int)))).bind fun bt445 => (if bt445.1 = bt442.2 then (spec_l02Closed.l0 k x1 (wrap64 (x5 + 1)) x441000 x441001) else (some false))) else (none)) else (none)))) else (none)) else (some (decide ((x1.length : Int) > 0)))
def spec_l02Closed.f (k : Nat) (a0_0 : Int) (l0_1 : List (List Int)) (l1 : List Int) : Option (Bool) := spec_l02Closed.l0 k l1 0 a0_0 l0_1
def spec_l02Closed.T4 : Bool × List (List Nat × List Nat) := (true, [([], []), ([], []), ([], []), ([1, 2], [1, 2]), ([3], [3]), ([0, 4], [0, 4]), ([5], [5]), ([6], [6]), ([6], [6]), ([7, 5, 0, 1, 2, 3, 4, 5, 6, 7], [7]), ([8, 9, 0, 1, 2, 3, 4, 5, 6, 7, 8, 9], [8])])
def spec_l02Closed.B4 : List Nat := [0, 0, 0, 6, 14, 31, 63, 127, 127, 255, 1023]
theorem spec_l02Closed.tab4 : rtab .any (opsOf Try.f192 4) = spec_l02Closed.T4 := by kernel_rfl
theorem spec_l02Closed.bits4 : waitsOk spec_l02Closed.T4.2 spec_l02Closed.B4 = true := by kernel_rfl
def spec_l02Closed.T5 : Bool × List (List Nat × List Nat) := (true, [([], []), ([], []), ([], []), ([2], [2]), ([], []), ([4], [4]), ([3, 5], [3, 5]), ([1, 6], [1, 6]), ([7], [7]), ([0, 8], [0, 8]), ([9], [9]), ([10], [10]), ([10], [10]), ([11, 9, 0, 1, 2, 3, 4, 5, 6, 7, 8, 9, 10, 11], [11]), ([12, 13, 0, 1, 2, 3, 4, 5, 6, 7, 8, 9, 10, 11, 12, 13], [12])])
def spec_l02Closed.B5 : List Nat := [0, 0, 0, 4, 0, 16, 60, 126, 254, 511, 1023, 2047, 2047, 4095, 16383]
theorem spec_l02Closed.tab5 : rtab .any (opsOf Try.f192 5) = spec_l02Closed.T5 := by kernel_rfl
theorem spec_l02Closed.bits5 : waitsOk spec_l02Closed.T5.2 spec_l02Closed.B5 = true := by kernel_rfl
set_option maxHeartbeats 8000000 in
set_option maxRecDepth 100000 in
theorem spec_l02Closed.calls (k : Nat) (a0_0 : Int) (A0_1 : Option Addr) (c0_1 : Nat) (l0_1 : List (List Int)) (A1 : Option Addr) (c1 : Nat) (l1 : List Int) (r : Bool) (w : World) (hr0_1 : Kd.C (Kd.slice 2 (Kd.int .i64)) w A0_1 l0_1.length l0_1) (hc0_1 : l0_1.length ≤ c0_1) (hr1 : Kd.C (Kd.int .i64) w A1 l1.length l1) (hc1 : l1.length ≤ c1) (h : spec_l02Closed.f k a0_0 l0_1 l1 = some r) :
  Calls Try.prog 192 #[.agg #[.int .i64 a0_0, .slice A0_1 l0_1.length c0_1], .slice A1 l1.length c1] w fun e w' => e = .returned (.bool r) ∧ Below w.heap.size w w' := by
 have hu26 := Try.underlying26
 have HR0_1 := m_ hr0_1
 have HC0_1 := m_ hc0_1
 clear hr0_1 hc0_1
 have HR1 := m_ hr1
 have HC1 := m_ hc1
 clear hr1 hc1
 have HB := m_ (Below.refl w.heap.size w)
 have H : (spec_l02Closed.l0 k l1 0 a0_0 l0_1) = some r := h
 clear h
 have H' := m_ H
 clear H
 go_enter Try.func192, Try.ntmps192
 go_wp2_with (first | ((with_reducible refine gate_dst (N := 2) rfl ?_); refine bx_ (N := 2) (cs := #[.int .i64 a0_0, .slice A0_1 l0_1.length c0_1]) (t := 26) ?_; intro gb440 hg w3 hbox hb; have BK440 := m_ (hbox); have GW440 := m_ ((by rw [hg]; exact (below_size hb_) : w.heap.size ≤ gb440)); have GE440 := m_ ((by rw [hg]; exact (below_size hb_) : w.heap.size ≤ gb440)); replace HB := m_ (below_step hb_ hb); clear hb hbox hg))
 go_loopg [5] k (fun kq v5 w' => ∃ (x5_1 : Int), v5 = .int .i64 x5_1 ∧ Aside0 (spec_l02Closed.l0 kq l1 x5_1 a0_0 l0_1 = some r) ∧ Aside0 (kq ≤ k) ∧ Aside0 (w'.heap[gb440]? = some (.cells #[.int .i64 a0_0, (.slice A0_1 l0_1.length c0_1)] 26 (0, 0))) ∧ Aside0 (Below w.heap.size w w'))
 case atStart => exact ⟨(0), es_, H', ⟨Nat.le_refl _⟩, ⟨blk_below BK440.out bgo_⟩, ⟨hbs_⟩⟩
 case round =>
  clear H'
  obtain ⟨x5_1, rfl, HA, HK1, BK440, HB⟩ := hrel
  cases gk with
  | zero => exact absurd HA.out (by simp [spec_l02Closed.l0])
  | succ k1 =>
   have H := HA.out
   clear HA
   simp only [spec_l02Closed.l0] at H
   by_cases c4 : x5_1 < (l1.length : Int)
   ·rw [if_pos c4] at H
    have c4b0 := decide_eq_true c4
    clear c4
    obtain ⟨c5, H⟩ := itn_ H
    have c5b0 := decide_eq_true c5
    clear c5
    obtain ⟨⟨t442, t443⟩, A6, H⟩ := bnd_ H
    dsimp only at H
    by_cases c7 : (l1.length : Int) = 0
    ·rw [if_pos c7] at H
     exact absurd H (by simp)
    ·rw [if_neg c7] at H
     have c7b0 : ((l1.length : Int) == 0) = false := beq_eq_false_iff_ne.mpr c7
     have c7b1 : ((l1.length : Int) != 0) = true := bne_iff_ne.mpr c7
     have c7b2 : ¬ (l1 = []) := fun h_ => c7 (by rw [h_]; rfl)
     obtain ⟨ji8, hji8⟩ : ∃ j_ : Int, (Int.tmod (wrap64 (x5_1 + 1)) (l1.length : Int)) = j_ := ⟨_, rfl⟩
     (try rw [hji8])
     replace H : (if 0 ≤ (ji8) then (if (ji8) < (l1.length : Int) then ((spec_l01Ends.f a0_0 l0_1 (rd l1 (ji8))).bind fun bt445 => (if bt445.1 = t443 then (spec_l02Closed.l0 k1 l1 (wrap64 (x5_1 + 1)) a0_0 l0_1) else (some false))) else (none)) else (none)) = some r := by first | (rw [hji8] at H; exact H) | (simp only [hji8] at H ⊢; exact H)
     (try rw [hji8] at A6)
     obtain ⟨c9, H⟩ := itn_ H
     have c9b0 := decide_eq_true c9
     clear c9
     obtain ⟨c10, H⟩ := itn_ H
     have c10b0 := decide_eq_true c10
     clear c10
     obtain ⟨⟨t445, t446⟩, A11, H⟩ := bnd_ H
     dsimp only at H
     by_cases c12 : t445 = t443
     ·rw [if_pos c12] at H
      have c12b0 : (t445 == t443) = true := beq_iff_eq.mpr c12
      have c12b1 : (t445 != t443) = false := bne_eq_false_iff_eq.mpr c12
      clear c12
      have H' := m_ H
      clear H
      try go_wp2
      replace BK440 := m_ (blk_drew BK440.out)
      replace HB := m_ (below_drew1 HB.out)
      have p441 : 0 ≤ (x5_1 : Int) := od_
      have q441 : x5_1 < (l1.length : Int) := od_
      obtain ⟨ad441, e441, hx441_0⟩ := Kd.at_int HR1.out x5_1 p441 q441
      have hw441_0 := hx441_0
      cases e441
      (try replace hx441_0 := (HB.out.cell (World.block_lt_of_cell? w _ hx441_0)).trans hx441_0)
      replace p441 := eq_true p441
      replace q441 := eq_true q441
      refine start_ (n := 11) (S := fun w' => w'.cell? ⟨gb440, 0, none⟩ = some (.int .i64 a0_0) ∧ w'.cell? ⟨gb440, 1, none⟩ = some (.slice A0_1 l0_1.length c0_1) ∧ w'.cell? (ad441.add (x5_1).toNat) = some (.int .i64 (rd l1 x5_1))) (ds := []) #[false, false, false, false, false, false, false, false, false, false, false] (by kernel_rfl) rfl rfl ⟨bc0_ BK440.out, bc1_ BK440.out, ((HB.out.cell (World.block_lt_of_cell? _ _ hw441_0)).trans hw441_0)⟩ (fun hHeld => ?_); refine with_tabW spec_l02Closed.tab4 spec_l02Closed.bits4 (fun HT_ HW_ => ?_)
      generalize wr.drew = w13 at BK440 HB hx441_0 hHeld ⊢
      refine pk_ 1 11 18 2 ?_
      refine pk_ 2 11 19 6 ?_
      refine pk_ 3 11 20 14 ?_
      refine tk_ 0 11 17 15 hHeld ?_
      refine tk_ 4 11 21 31 hHeld ?_
      refine on_ 5 11 (some 22) 63 (fun K hK => ?_)
      refine goes_ Try.func152 (by kernel_rfl) rfl #[.agg #[.int .i64 a0_0, .slice A0_1 l0_1.length c0_1], .int .i64 (rd l1 x5_1)] (by rfl) rfl rfl arg_ ?_
      with_reducible refine (spec_l01Ends.calls a0_0 _ _ l0_1 (rd l1 x5_1) t442 t443 _ ?side1 ?side2 A6.out).mono ?_
      (case side1 => exact Kd.C_below (Kd.C_below HR0_1.out HB.out) bgo_)
      (case side2 => exact HC0_1.out)
      rintro e w14 ⟨rfl, hb⟩
      refine ⟨_, rfl, ?_⟩
      replace BK440 := m_ (bb_ BK440.out hb)
      replace HB := m_ (below_step hbs_ hb)
      refine hK.out _ _ ⟨bc0_ BK440.out, bc1_ BK440.out, ((HB.out.cell (World.block_lt_of_cell? _ _ hw441_0)).trans hw441_0)⟩ (fun hHeld => ?_)
      clear hK K
      refine nm_ ?_
      refine pk_ 6 11 16 127 ?_
      refine pk_ 7 11 23 255 ?_
      refine pk_ 8 11 24 511 ?_
      refine pk_ 9 11 6 1023 ?_
      refine pk_ 10 11 7 2047 ?_
      refine done_ (done_of HT_.out (by kernel_rfl)) ?_
      try go_wp2
      replace BK440 := m_ (blk_drew BK440.out)
      replace HB := m_ (below_drew1 HB.out)
      have p444 : 0 ≤ ((ji8) : Int) := od_
      have q444 : (ji8) < (l1.length : Int) := od_
      obtain ⟨ad444, e444, hx444_0⟩ := Kd.at_int HR1.out (ji8) p444 q444
      have hw444_0 := hx444_0
      obtain rfl : ad441 = ad444 := (by injection e444)
      (try replace hx444_0 := (HB.out.cell (World.block_lt_of_cell? w _ hx444_0)).trans hx444_0)
      replace p444 := eq_true p444
      replace q444 := eq_true q444
      refine start_ (n := 15) (S := fun w' => w'.cell? ⟨gb440, 0, none⟩ = some (.int .i64 a0_0) ∧ w'.cell? ⟨gb440, 1, none⟩ = some (.slice A0_1 l0_1.length c0_1) ∧ w'.cell? (ad441.add ((ji8)).toNat) = some (.int .i64 (rd l1 (ji8)))) (ds := []) #[false, false, false, false, false, false, false, false, false, false, false, false, false, false, false] (by kernel_rfl) rfl rfl ⟨bc0_ BK440.out, bc1_ BK440.out, ((HB.out.cell (World.block_lt_of_cell? _ _ hw444_0)).trans hw444_0)⟩ (fun hHeld => ?_); refine with_tabW spec_l02Closed.tab5 spec_l02Closed.bits5 (fun HT_ HW_ => ?_)
      generalize w14.drew = w15 at BK440 HB hx444_0 hHeld ⊢
      refine pk_ 1 15 27 2 ?_
      refine pk_ 2 15 28 6 ?_
      refine pk_ 3 15 29 14 ?_
      refine pk_ 4 15 30 30 ?_
      refine pk_ 5 15 31 62 ?_
      refine pk_ 6 15 32 126 ?_
      refine pk_ 7 15 33 254 ?_
      refine tk_ 0 15 26 255 hHeld ?_
      refine tk_ 8 15 34 511 hHeld ?_
      refine on_ 9 15 (some 35) 1023 (fun K hK => ?_)
      refine goes_ Try.func152 (by kernel_rfl) rfl #[.agg #[.int .i64 a0_0, .slice A0_1 l0_1.length c0_1], .int .i64 (rd l1 (ji8))] (by rfl) rfl rfl (by (try simp only [List.map_toArray, List.map_cons, List.map_nil]); first | done | (simp only [hji8]; rfl) | rfl | (simp only [List.length_drop, List.length_take]; rfl)) ?_
      with_reducible refine (spec_l01Ends.calls a0_0 _ _ l0_1 (rd l1 (ji8)) t445 t446 _ ?side1 ?side2 A11.out).mono ?_
      (case side1 => exact Kd.C_below (Kd.C_below HR0_1.out HB.out) bgo_)
      (case side2 => exact HC0_1.out)
      rintro e w16 ⟨rfl, hb⟩
      refine ⟨_, rfl, ?_⟩
      replace BK440 := m_ (bb_ BK440.out hb)
      replace HB := m_ (below_step hbs_ hb)
      refine hK.out _ _ ⟨bc0_ BK440.out, bc1_ BK440.out, ((HB.out.cell (World.block_lt_of_cell? _ _ hw444_0)).trans hw444_0)⟩ (fun hHeld => ?_)
      clear hK K
      refine nm_ ?_
      refine pk_ 10 15 25 2047 ?_
      refine pk_ 11 15 36 4095 ?_
      refine pk_ 12 15 37 8191 ?_
      refine pk_ 13 15 8 16383 ?_
      refine pk_ 14 15 9 32767 ?_
      refine done_ (done_of HT_.out (by kernel_rfl)) ?_
      try go_wp2
      first | (go_roundg k1) | ((try subst hji8); (go_roundg k1))
      case measure => have := HK1.out; omega
      case rel => exact ⟨(wrap64 (x5_1 + 1)), es_, H', ⟨by have := HK1.out; omega⟩, ⟨blk_below BK440.out bgo_⟩, ⟨hbs_⟩⟩
     ·rw [if_neg c12] at H
      have c12b0 : (t445 == t443) = false := beq_eq_false_iff_ne.mpr c12
      have c12b1 : (t445 != t443) = true := bne_iff_ne.mpr c12
      obtain rfl := Option.some.inj H
      try go_wp2
      replace BK440 := m_ (blk_drew BK440.out)
      replace HB := m_ (below_drew1 HB.out)
      have p441 : 0 ≤ (x5_1 : Int) := od_
      have q441 : x5_1 < (l1.length : Int) := od_
      obtain ⟨ad441, e441, hx441_0⟩ := Kd.at_int HR1.out x5_1 p441 q441
      have hw441_0 := hx441_0
      cases e441
      (try replace hx441_0 := (HB.out.cell (World.block_lt_of_cell? w _ hx441_0)).trans hx441_0)
      replace p441 := eq_true p441
      replace q441 := eq_true q441
      refine start_ (n := 11) (S := fun w' => w'.cell? ⟨gb440, 0, none⟩ = some (.int .i64 a0_0) ∧ w'.cell? ⟨gb440, 1, none⟩ = some (.slice A0_1 l0_1.length c0_1) ∧ w'.cell? (ad441.add (x5_1).toNat) = some (.int .i64 (rd l1 x5_1))) (ds := []) #[false, false, false, false, false, false, false, false, false, false, false] (by kernel_rfl) rfl rfl ⟨bc0_ BK440.out, bc1_ BK440.out, ((HB.out.cell (World.block_lt_of_cell? _ _ hw441_0)).trans hw441_0)⟩ (fun hHeld => ?_); refine with_tabW spec_l02Closed.tab4 spec_l02Closed.bits4 (fun HT_ HW_ => ?_)
      generalize wr.drew = w17 at BK440 HB hx441_0 hHeld ⊢
      refine pk_ 1 11 18 2 ?_
      refine pk_ 2 11 19 6 ?_
      refine pk_ 3 11 20 14 ?_
      refine tk_ 0 11 17 15 hHeld ?_
      refine tk_ 4 11 21 31 hHeld ?_
      refine on_ 5 11 (some 22) 63 (fun K hK => ?_)
      refine goes_ Try.func152 (by kernel_rfl) rfl #[.agg #[.int .i64 a0_0, .slice A0_1 l0_1.length c0_1], .int .i64 (rd l1 x5_1)] (by rfl) rfl rfl arg_ ?_
      with_reducible refine (spec_l01Ends.calls a0_0 _ _ l0_1 (rd l1 x5_1) t442 t443 _ ?side1 ?side2 A6.out).mono ?_
      (case side1 => exact Kd.C_below (Kd.C_below HR0_1.out HB.out) bgo_)
      (case side2 => exact HC0_1.out)
      rintro e w18 ⟨rfl, hb⟩
      refine ⟨_, rfl, ?_⟩
      replace BK440 := m_ (bb_ BK440.out hb)
      replace HB := m_ (below_step hbs_ hb)
      refine hK.out _ _ ⟨bc0_ BK440.out, bc1_ BK440.out, ((HB.out.cell (World.block_lt_of_cell? _ _ hw441_0)).trans hw441_0)⟩ (fun hHeld => ?_)
      clear hK K
      refine nm_ ?_
      refine pk_ 6 11 16 127 ?_
      refine pk_ 7 11 23 255 ?_
      refine pk_ 8 11 24 511 ?_
      refine pk_ 9 11 6 1023 ?_
      refine pk_ 10 11 7 2047 ?_
      refine done_ (done_of HT_.out (by kernel_rfl)) ?_
      try go_wp2
      replace BK440 := m_ (blk_drew BK440.out)
      replace HB := m_ (below_drew1 HB.out)
      have p444 : 0 ≤ ((ji8) : Int) := od_
      have q444 : (ji8) < (l1.length : Int) := od_
      obtain ⟨ad444, e444, hx444_0⟩ := Kd.at_int HR1.out (ji8) p444 q444
      have hw444_0 := hx444_0
      obtain rfl : ad441 = ad444 := (by injection e444)
      (try replace hx444_0 := (HB.out.cell (World.block_lt_of_cell? w _ hx444_0)).trans hx444_0)
      replace p444 := eq_true p444
      replace q444 := eq_true q444
      refine start_ (n := 15) (S := fun w' => w'.cell? ⟨gb440, 0, none⟩ = some (.int .i64 a0_0) ∧ w'.cell? ⟨gb440, 1, none⟩ = some (.slice A0_1 l0_1.length c0_1) ∧ w'.cell? (ad441.add ((ji8)).toNat) = some (.int .i64 (rd l1 (ji8)))) (ds := []) #[false, false, false, false, false, false, false, false, false, false, false, false, false, false, false] (by kernel_rfl) rfl rfl ⟨bc0_ BK440.out, bc1_ BK440.out, ((HB.out.cell (World.block_lt_of_cell? _ _ hw444_0)).trans hw444_0)⟩ (fun hHeld => ?_); refine with_tabW spec_l02Closed.tab5 spec_l02Closed.bits5 (fun HT_ HW_ => ?_)
      generalize w18.drew = w19 at BK440 HB hx444_0 hHeld ⊢
      refine pk_ 1 15 27 2 ?_
      refine pk_ 2 15 28 6 ?_
      refine pk_ 3 15 29 14 ?_
      refine pk_ 4 15 30 30 ?_
      refine pk_ 5 15 31 62 ?_
      refine pk_ 6 15 32 126 ?_
      refine pk_ 7 15 33 254 ?_
      refine tk_ 0 15 26 255 hHeld ?_
      refine tk_ 8 15 34 511 hHeld ?_
      refine on_ 9 15 (some 35) 1023 (fun K hK => ?_)
      refine goes_ Try.func152 (by kernel_rfl) rfl #[.agg #[.int .i64 a0_0, .slice A0_1 l0_1.length c0_1], .int .i64 (rd l1 (ji8))] (by rfl) rfl rfl (by (try simp only [List.map_toArray, List.map_cons, List.map_nil]); first | done | (simp only [hji8]; rfl) | rfl | (simp only [List.length_drop, List.length_take]; rfl)) ?_
      with_reducible refine (spec_l01Ends.calls a0_0 _ _ l0_1 (rd l1 (ji8)) t445 t446 _ ?side1 ?side2 A11.out).mono ?_
      (case side1 => exact Kd.C_below (Kd.C_below HR0_1.out HB.out) bgo_)
      (case side2 => exact HC0_1.out)
      rintro e w20 ⟨rfl, hb⟩
      refine ⟨_, rfl, ?_⟩
      replace BK440 := m_ (bb_ BK440.out hb)
      replace HB := m_ (below_step hbs_ hb)
      refine hK.out _ _ ⟨bc0_ BK440.out, bc1_ BK440.out, ((HB.out.cell (World.block_lt_of_cell? _ _ hw444_0)).trans hw444_0)⟩ (fun hHeld => ?_)
      clear hK K
      refine nm_ ?_
      refine pk_ 10 15 25 2047 ?_
      refine pk_ 11 15 36 4095 ?_
      refine pk_ 12 15 37 8191 ?_
      refine pk_ 13 15 8 16383 ?_
      refine pk_ 14 15 9 32767 ?_
      refine done_ (done_of HT_.out (by kernel_rfl)) ?_
      try go_wp2
      go_ret
      exact ⟨by first | rfl | (simp [errW_none, errW_some] <;> rfl) | (simp only [← hji8]; first | rfl | (simp [errW_none, errW_some] <;> rfl)) | (simp [*, errW_none, errW_some] <;> rfl), hbs_⟩
   ·rw [if_neg c4] at H
    have c4b0 := decide_eq_false c4
    clear c4
    obtain rfl := Option.some.inj H
    go_wp2
    go_ret
    exact ⟨er_, hbs_⟩

end Go.Proofs.Ytkadhadceongiaa.G
