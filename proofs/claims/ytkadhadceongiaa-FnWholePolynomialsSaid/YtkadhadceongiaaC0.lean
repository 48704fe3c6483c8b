/- The printed functions that this law reaches, and their contracts: part 0. -/
-- printed by this repo's wip/printer out of the kit's print with its own changes
import Derived.Test.YtkadhadceongiaaG0
namespace Go.Proofs.Ytkadhadceongiaa.G
open Go.RowKit Go.Proofs.YtkadhadceongiaaW.PrintWords Go.Proofs.YtkadhadceongiaaW.PrintLast Go.Proofs.YtkadhadceongiaaW.PrintMore
attribute [local go_sem] max2_int min2_int max_two min_two max_three min_three max_four min_four   -- for this text's walks alone
set_option linter.unusedVariables false
set_option linter.unusedSimpArgs false

theorem nf_ : (∀ (l : List Value) (i : Nat) (a : Value), l.toArray.setIfInBounds i a = (l.set i a).toArray) ∧ (∀ (x : Value) (l : List Value) (a : Value), (x :: l).set 0 a = a :: l) ∧ (∀ (x : Value) (l : List Value) (n : Nat) (a : Value), (x :: l).set (n + 1) a = x :: l.set n a) ∧ (∀ n : Int, IntKind.i64.wrap n = wrap64 n) ∧ (∀ n : Int, IntKind.i32.wrap n = wrap32 n) :=
 ⟨fun l i a => List.setIfInBounds_toArray l i a, fun _ _ _ => rfl, fun _ _ _ _ => rfl, i64_w, i32_w⟩

/-! ### laws_big: function 9 -/
def laws_big.f (l0 : List Int) : Option (Bool) := some (decide ((l0.length : Int) > 4096))
set_option maxHeartbeats 8000000 in
set_option maxRecDepth 100000 in
theorem laws_big.calls (A0 : Option Addr) (c0 : Nat) (l0 : List Int) (r : Bool) (w : World) (hr0 : Kd.C (Kd.int .u8) w A0 l0.length l0) (hc0 : l0.length ≤ c0) (h : laws_big.f l0 = some r) :
  Calls Try.prog 9 #[.slice A0 l0.length c0] w fun e w' => e = .returned (.bool r) ∧ Drawn0 w w' := by
 have HR0 := Aside0.mk hr0
 have HC0 := Aside0.mk hc0
 clear hr0 hc0
 have H : (some (decide ((l0.length : Int) > 4096))) = some r := h
 clear h
 obtain rfl := Option.some.inj H
 go_enter Try.func9, Try.ntmps9
 go_wp2
 go_ret
 exact ⟨es_, by repeat (first | exact Drawn0.refl _ | apply Drawn0.step)⟩

/-! ### laws_likeInts: function 13 -/
def laws_likeInts.l0 : Nat → List Int → List Int → Int → Option (Bool)
 | 0, _, _, _ => none
 | k + 1, x0, x1, x5 => if x5 < (x0.length : Int) then (if 0 ≤ x5 then (if x5 < (x1.length : Int) then (if (rd x0 x5) = (rd x1 x5) then (laws_likeInts.l0 k x0 x1 (wrap64 (x5 + 1))) else (some false)) else (none)) else (none)) else (some true)
def laws_likeInts.f (k : Nat) (l0 : List Int) (l1 : List Int) : Option (Bool) := if (l0.length : Int) = (l1.length : Int) then (laws_likeInts.l0 k l0 l1 0) else (some false)
set_option maxHeartbeats 8000000 in
set_option maxRecDepth 100000 in
theorem laws_likeInts.calls (k : Nat) (A0 : Option Addr) (c0 : Nat) (l0 : List Int) (A1 : Option Addr) (c1 : Nat) (l1 : List Int) (r : Bool) (w : World) (hr0 : Kd.C (Kd.int .i64) w A0 l0.length l0) (hc0 : l0.length ≤ c0) (hr1 : Kd.C (Kd.int .i64) w A1 l1.length l1) (hc1 : l1.length ≤ c1) (h : laws_likeInts.f k l0 l1 = some r) :
  Calls Try.prog 13 #[.slice A0 l0.length c0, .slice A1 l1.length c1] w fun e w' => e = .returned (.bool r) ∧ Drawn0 w w' := by
 have HR0 := Aside0.mk hr0
 have HC0 := Aside0.mk hc0
 clear hr0 hc0
 have HR1 := Aside0.mk hr1
 have HC1 := Aside0.mk hc1
 clear hr1 hc1
 have H : (if (l0.length : Int) = (l1.length : Int) then (laws_likeInts.l0 k l0 l1 0) else (some false)) = some r := h
 clear h
 by_cases c3 : (l0.length : Int) = (l1.length : Int)
 ·rw [if_pos c3] at H
  have c3b0 : ((l0.length : Int) == (l1.length : Int)) = true := beq_iff_eq.mpr c3
  have c3b1 : ((l0.length : Int) != (l1.length : Int)) = false := bne_eq_false_iff_eq.mpr c3
  have c3b2 : (l0.length == l1.length) = true := by first | simpa using c3 | (simp at c3 ⊢; omega)
  clear c3
  have H' := Aside0.mk H
  clear H
  go_enter Try.func13, Try.ntmps13
  go_wp2
  go_loopg [5] k (fun kq v5 w' => ∃ (x5_1 : Int), v5 = .int .i64 x5_1 ∧ Aside0 (laws_likeInts.l0 kq l0 l1 x5_1 = some r) ∧ Aside0 (kq ≤ k) ∧ Drawn0 w w')
  case atStart => exact ⟨(0), es_, H', ⟨Nat.le_refl _⟩, by repeat (first | exact Drawn0.refl _ | apply Drawn0.step)⟩
  case round =>
   clear H'
   obtain ⟨x5_1, rfl, HA, HK1, ⟨m1, rfl⟩⟩ := hrel
   cases gk with
   | zero => exact absurd HA.out (by simp [laws_likeInts.l0])
   | succ k1 =>
    have H := HA.out
    clear HA
    simp only [laws_likeInts.l0] at H
    by_cases c4 : x5_1 < (l0.length : Int)
    ·rw [if_pos c4] at H
     have c4b0 := decide_eq_true c4
     clear c4
     obtain ⟨c5, H⟩ := itn_ H
     have c5b0 := decide_eq_true c5
     clear c5
     obtain ⟨c6, H⟩ := itn_ H
     have c6b0 := decide_eq_true c6
     clear c6
     by_cases c7 : (rd l0 x5_1) = (rd l1 x5_1)
     ·rw [if_pos c7] at H
      have c7b0 : ((rd l0 x5_1) == (rd l1 x5_1)) = true := beq_iff_eq.mpr c7
      have c7b1 : ((rd l0 x5_1) != (rd l1 x5_1)) = false := bne_eq_false_iff_eq.mpr c7
      clear c7
      have H' := Aside0.mk H
      clear H
      have p101 : 0 ≤ (x5_1 : Int) := od_
      have q101 : x5_1 < (l0.length : Int) := od_
      obtain ⟨ad101, e101, hx101_0⟩ := Kd.at_int HR0.out x5_1 p101 q101
      cases e101
      replace p101 := eq_true p101
      replace q101 := eq_true q101
      have p102 : 0 ≤ (x5_1 : Int) := od_
      have q102 : x5_1 < (l1.length : Int) := od_
      obtain ⟨ad102, e102, hx102_0⟩ := Kd.at_int HR1.out x5_1 p102 q102
      cases e102
      replace p102 := eq_true p102
      replace q102 := eq_true q102
      go_wp2
      repeat (go_quiet (fail); try go_wp2)
      go_roundg k1
      case measure => have := HK1.out; omega
      case rel => exact ⟨(wrap64 (x5_1 + 1)), es_, H', ⟨by have := HK1.out; omega⟩, by repeat (first | exact Drawn0.refl _ | apply Drawn0.step)⟩
     ·rw [if_neg c7] at H
      have c7b0 : ((rd l0 x5_1) == (rd l1 x5_1)) = false := beq_eq_false_iff_ne.mpr c7
      have c7b1 : ((rd l0 x5_1) != (rd l1 x5_1)) = true := bne_iff_ne.mpr c7
      obtain rfl := Option.some.inj H
      have p101 : 0 ≤ (x5_1 : Int) := od_
      have q101 : x5_1 < (l0.length : Int) := od_
      obtain ⟨ad101, e101, hx101_0⟩ := Kd.at_int HR0.out x5_1 p101 q101
      cases e101
      replace p101 := eq_true p101
      replace q101 := eq_true q101
      have p102 : 0 ≤ (x5_1 : Int) := od_
      have q102 : x5_1 < (l1.length : Int) := od_
      obtain ⟨ad102, e102, hx102_0⟩ := Kd.at_int HR1.out x5_1 p102 q102
      cases e102
      replace p102 := eq_true p102
      replace q102 := eq_true q102
      go_wp2
      repeat (go_quiet (fail); try go_wp2)
      go_ret
      exact ⟨es_, by repeat (first | exact Drawn0.refl _ | apply Drawn0.step)⟩
    ·rw [if_neg c4] at H
     have c4b0 := decide_eq_false c4
     clear c4
     obtain rfl := Option.some.inj H
     go_wp2
     go_ret
     exact ⟨es_, by repeat (first | exact Drawn0.refl _ | apply Drawn0.step)⟩
 ·rw [if_neg c3] at H
  have c3b0 : ((l0.length : Int) == (l1.length : Int)) = false := beq_eq_false_iff_ne.mpr c3
  have c3b1 : ((l0.length : Int) != (l1.length : Int)) = true := bne_iff_ne.mpr c3
  have c3b2 : (l0.length == l1.length) = false := by first | simpa using c3 | (simp at c3 ⊢; omega)
  obtain rfl := Option.some.inj H
  go_enter Try.func13, Try.ntmps13
  go_wp2
  go_ret
  exact ⟨es_, by repeat (first | exact Drawn0.refl _ | apply Drawn0.step)⟩

def IsS131 (w0 W : World) (g : Nat) (f0 : List Int) (f1 : Int) (f2 : Int) : Prop := ∃ A0 c0, W.heap[g]? = some (.cells #[.slice A0 f0.length c0, .int .i64 f1, .int .u64 f2] 131 (0, 0)) ∧ w0.heap.size ≤ g ∧ Kd.C (Kd.int .u8) w0 A0 f0.length f0
theorem IsS131.grown {w0 W : World} {g : Nat} {f0 : List Int} {f1 : Int} {f2 : Int} {W1 : World} {row : Option Nat} (h : IsS131 w0 W g f0 f1 f2) (hw : W.grownBy W1 row) (hne : some g ≠ row) : IsS131 w0 W1 g f0 f1 f2 := by
 obtain ⟨A0, c0, hb, hg, hr0⟩ := h
 exact ⟨A0, c0, blk_grown hb hw hne, hg, hr0⟩
theorem IsS131.below {w0 W : World} {g : Nat} {f0 : List Int} {f1 : Int} {f2 : Int} {W1 : World} (h : IsS131 w0 W g f0 f1 f2) (hw : Below W.heap.size W W1) : IsS131 w0 W1 g f0 f1 f2 := h.grown (grown_of_below hw none) (by simp)
theorem IsS131.alloc {w0 W : World} {g : Nat} {f0 : List Int} {f1 : Int} {f2 : Int} (h : IsS131 w0 W g f0 f1 f2) (o : Obj) : IsS131 w0 (W.alloc o) g f0 f1 f2 := h.below (below_alloc (Below.refl _ _) o)
theorem IsS131.drewN {w0 W : World} {g : Nat} {f0 : List Int} {f1 : Int} {f2 : Int} (h : IsS131 w0 W g f0 f1 f2) (m : Nat) : IsS131 w0 (W.drewN m) g f0 f1 f2 := h
theorem IsS131.drew {w0 W : World} {g : Nat} {f0 : List Int} {f1 : Int} {f2 : Int} (h : IsS131 w0 W g f0 f1 f2) : IsS131 w0 W.drew g f0 f1 f2 := h
theorem IsS131.apart {w0 W : World} {g : Nat} {f0 : List Int} {f1 : Int} {f2 : Int} {α : Type} {d : Kd α} {e : Nat} {base : Nat} {ok : Nat → Prop} {v : Value} {xs : List α} (h : IsS131 w0 W g f0 f1 f2) (ho : d.R e W base ok v xs) (ht : ∀ q, q ∈ e :: d.E → q ≠ 131) : d.R e W base (fun k => ok k ∧ k ≠ g) v xs := by
 obtain ⟨A0, c0, hb, hg, hr0⟩ := h
 exact Kd.R_types ho hb ht
theorem IsS131.own_ne {w0 W : World} {g : Nat} {f0 : List Int} {f1 : Int} {f2 : Int} {α : Type} {d : Kd α} {e : Nat} {base : Nat} {ok : Nat → Prop} {v : Value} {xs : List α} (h : IsS131 w0 W g f0 f1 f2) (ho : d.R e W base ok v xs) (ht : e ≠ 131) : some g ≠ v.ownBlock := by
 obtain ⟨A0, c0, hb, hg, hr0⟩ := h
 exact Kd.R_ne ho hb ht
theorem IsS131.apartS {w0 W : World} {g : Nat} {f0 : List Int} {f1 : Int} {f2 : Int} {α : Type} {d : Kd α} {e : Nat} {base : Nat} {ok : Nat → Prop} {v : Value} {xs : List α} (h : IsS131 w0 W g f0 f1 f2) (ho : d.S e W base ok v xs) (ht : ∀ q, q ∈ e :: d.E → q ≠ 131) : d.S e W base (fun k => ok k ∧ k ≠ g) v xs := by
 obtain ⟨A0, c0, hb, hg, hr0⟩ := h
 exact Kd.S_types ho hb ht
theorem IsS131.own_neS {w0 W : World} {g : Nat} {f0 : List Int} {f1 : Int} {f2 : Int} {α : Type} {d : Kd α} {e : Nat} {base : Nat} {ok : Nat → Prop} {v : Value} {xs : List α} (h : IsS131 w0 W g f0 f1 f2) (ho : d.S e W base ok v xs) (ht : e ≠ 131) : some g ≠ v.ownBlock := by
 obtain ⟨A0, c0, hb, hg, hr0⟩ := h
 exact Kd.S_ne ho hb ht
theorem IsS131.ge {w0 W : World} {g : Nat} {f0 : List Int} {f1 : Int} {f2 : Int} (h : IsS131 w0 W g f0 f1 f2) : w0.heap.size ≤ g := by
 obtain ⟨A0, c0, hb, hg, hr0⟩ := h
 exact hg
theorem cellS131_0 {W : World} {g : Nat} {A0 : Option Addr} {c0 : Nat} {f0 : List Int} {f1 : Int} {f2 : Int} (h : W.heap[g]? = some (.cells #[.slice A0 f0.length c0, .int .i64 f1, .int .u64 f2] 131 (0, 0))) : W.cell? ⟨g, 0, none⟩ = some (.slice A0 f0.length c0) := (blk_cell h 0).trans rfl
theorem cellS131_1 {W : World} {g : Nat} {A0 : Option Addr} {c0 : Nat} {f0 : List Int} {f1 : Int} {f2 : Int} (h : W.heap[g]? = some (.cells #[.slice A0 f0.length c0, .int .i64 f1, .int .u64 f2] 131 (0, 0))) : W.cell? ⟨g, 1, none⟩ = some (.int .i64 f1) := (blk_cell h 1).trans rfl
theorem IsS131.set_1 {w0 W : World} {g : Nat} {f0 : List Int} {f1 : Int} {f2 : Int} (h : IsS131 w0 W g f0 f1 f2) (x : Int) : IsS131 w0 (W.setCell ⟨g, 1, none⟩ (.int .i64 x)) g f0 x f2 := by
 obtain ⟨A0, c0, hb, hg, hr0⟩ := h
 exact ⟨A0, c0, by simpa using blk_set hb 1 (.int .i64 x), hg, hr0⟩
theorem cellS131_2 {W : World} {g : Nat} {A0 : Option Addr} {c0 : Nat} {f0 : List Int} {f1 : Int} {f2 : Int} (h : W.heap[g]? = some (.cells #[.slice A0 f0.length c0, .int .i64 f1, .int .u64 f2] 131 (0, 0))) : W.cell? ⟨g, 2, none⟩ = some (.int .u64 f2) := (blk_cell h 2).trans rfl
theorem IsS131.set_2 {w0 W : World} {g : Nat} {f0 : List Int} {f1 : Int} {f2 : Int} (h : IsS131 w0 W g f0 f1 f2) (x : Int) : IsS131 w0 (W.setCell ⟨g, 2, none⟩ (.int .u64 x)) g f0 f1 x := by
 obtain ⟨A0, c0, hb, hg, hr0⟩ := h
 exact ⟨A0, c0, by simpa using blk_set hb 2 (.int .u64 x), hg, hr0⟩
theorem IsS131.go_ {w0 W : World} {g : Nat} {f0 : List Int} {f1 : Int} {f2 : Int} (q : IsS131 w0 W g f0 f1 f2 := by repeat (first | (with_reducible first | exact Aside0.out (by assumption) | apply IsS131.alloc | apply IsS131.drewN | apply IsS131.drew | apply IsS131.set_1 | apply IsS131.set_2) | exact Aside0.out (by assumption))) : IsS131 w0 W g f0 f1 f2 := q
theorem IsS131.hb_ {b : Nat} {w W : World} (q : Below b w W := by repeat (first | (with_reducible first | exact HB.out | apply below_alloc | apply pw_below_drewN | apply below_drew1 | refine below_set ?_ (IsS131.ge (Aside0.out (by assumption)))) | exact HB.out)) : Below b w W := q
/-! ### spec_l01From: function 102 -/
def spec_l01From.l0 : Nat → List Int → Int → List Int → Int → Int → Option (List Int × Int × Int)
 | 0, _, _, _, _, _ => none
 | k + 1, x0, x4, x104000, x104001, x104002 => if x4 < (x0.length : Int) then (if x4 < 4096 then (if 0 ≤ x4 then (spec_l01From.l0 k x0 (wrap64 (x4 + 1)) x104000 x104001 (IntKind.u64.wrap ((IntKind.u64.wrap ((IntKind.u64.wrap (x104002 * 1099511628211)) + (IntKind.u64.wrap (rd x0 x4)))) + 109))) else (none)) else (some (x104000, x104001, x104002))) else (some (x104000, x104001, x104002))
def spec_l01From.f (k : Nat) (l0 : List Int) : Option (List Int × Int × Int) := spec_l01From.l0 k l0 0 l0 0 (IntKind.u64.wrap (12981 + (IntKind.u64.wrap ((l0.length : Int)))))
def spec_l01From.T5 : Bool × List (List Nat × List Nat) := (true, [([], []), ([], []), ([1], [1]), ([2], [2]), ([3], [3]), ([4], [4]), ([], []), ([], []), ([6, 7], [6, 7]), ([8], [8]), ([9], [9]), ([5, 10], [5, 10]), ([11], [11]), ([0, 0, 1, 2, 3, 4, 5, 6, 7, 8, 9, 10, 11, 12], [0]), ([13, 0, 1, 2, 3, 4, 5, 6, 7, 8, 9, 10, 11, 12], [13]), ([14, 12, 0, 1, 2, 3, 4, 5, 6, 7, 8, 9, 10, 11, 12], [12, 14])])
def spec_l01From.B5 : List Nat := [0, 0, 2, 6, 14, 30, 0, 0, 192, 448, 960, 2046, 4094, 8191, 16383, 32767]
theorem spec_l01From.tab5 : rtab .any (opsOf Try.f102 5) = spec_l01From.T5 := by kernel_rfl
theorem spec_l01From.bits5 : waitsOk spec_l01From.T5.2 spec_l01From.B5 = true := by kernel_rfl
set_option maxHeartbeats 8000000 in
set_option maxRecDepth 100000 in
theorem spec_l01From.calls (k : Nat) (A0 : Option Addr) (c0 : Nat) (l0 : List Int) (r1 : List Int) (r2 : Int) (r3 : Int) (w0 w : World) (hB : Below w0.heap.size w0 w) (hr0 : Kd.C (Kd.int .u8) w0 A0 l0.length l0) (hc0 : l0.length ≤ c0) (h : spec_l01From.f k l0 = some (r1, r2, r3)) :
  Calls Try.prog 102 #[.slice A0 l0.length c0] w fun e w' => ∃ g_ : Nat, e = .returned (.pointer (some ⟨g_, 0, none⟩)) ∧ IsS131 w0 w' g_ r1 r2 r3 ∧ Below w0.heap.size w0 w' ∧ Below w.heap.size w w' := by
 have hu131 := Try.underlying131
 have HR0 := Aside0.mk hr0
 have HC0 := Aside0.mk hc0
 clear hr0 hc0
 have HBW := Aside0.mk (Below.refl w.heap.size w)
 have HW0 := Aside0.mk hB.size
 have HB := Aside0.mk hB
 clear hB
 have H : (spec_l01From.l0 k l0 0 l0 0 (IntKind.u64.wrap (12981 + (IntKind.u64.wrap ((l0.length : Int)))))) = some (r1, r2, r3) := h
 clear h
 have H' := Aside0.mk H
 clear H
 go_enter Try.func102, Try.ntmps102
 go_wp2_with (first | ((with_reducible refine gate_dst (N := 11) rfl ?_); refine box_event ?hg (N := 11) ?hd (cs := #[.slice A0 l0.length c0, .int .i64 0, .int .u64 (IntKind.u64.wrap (12981 + (IntKind.u64.wrap ((l0.length : Int)))))]) (t := 131) ?hr ?_; (case hd => rfl); (case hg => rfl); (case hr => first | (go_simp; done) | (go_simp; rfl)); intro gb103 hg w2 hbox hb; replace HB := Aside0.mk (below_step hb_ hb); have BK103 := Aside0.mk (hbox); have GW103 := Aside0.mk ((by rw [hg]; exact (below_size hw_) : w.heap.size ≤ gb103)); have GE103 := Aside0.mk ((Nat.le_trans HW0.out (by rw [hg]; exact (below_size hw_) : w.heap.size ≤ gb103) : w0.heap.size ≤ gb103)); replace HBW := Aside0.mk (below_step HBW.out hb); clear hb hbox hg))
 go_loopg [4] k (fun kq v4 w' => ∃ (x4_1 : Int) (x104002_1 : Int), v4 = .int .i64 x4_1 ∧ Aside0 (spec_l01From.l0 kq l0 x4_1 l0 0 x104002_1 = some (r1, r2, r3)) ∧ Aside0 (kq ≤ k) ∧ Aside0 (w'.heap[gb103]? = some (.cells #[(.slice A0 l0.length c0), .int .i64 0, .int .u64 x104002_1] 131 (0, 0))) ∧ Aside0 (Below w0.heap.size w0 w') ∧ Aside0 (Below w.heap.size w w'))
 case atStart => exact ⟨(0), (IntKind.u64.wrap (12981 + (IntKind.u64.wrap ((l0.length : Int))))), es_, H', ⟨Nat.le_refl _⟩, ⟨blk_below BK103.out bgo_⟩, ⟨hbs_⟩, ⟨hw_⟩⟩
 case round =>
  clear H'
  obtain ⟨x4_1, x104002_1, rfl, HA, HK1, BK103, HB, HBW⟩ := hrel
  cases gk with
  | zero => exact absurd HA.out (by simp [spec_l01From.l0])
  | succ k1 =>
   have H := HA.out
   clear HA
   simp only [spec_l01From.l0] at H
   by_cases c3 : x4_1 < (l0.length : Int)
   ·rw [if_pos c3] at H
    have c3b0 := decide_eq_true c3
    clear c3
    by_cases c4 : x4_1 < 4096
    ·rw [if_pos c4] at H
     have c4b0 := decide_eq_true c4
     clear c4
     obtain ⟨c5, H⟩ := itn_ H
     have c5b0 := decide_eq_true c5
     clear c5
     have H' := Aside0.mk H
     clear H
     try go_wp2
     have n0_ := Aside0.mk (blk_drew BK103.out)
     have n1_ := Aside0.mk (below_drew1 HB.out)
     clear BK103
     clear HB
     have BK103 := n0_
     have HB := n1_
     clear n0_ n1_
     have p104 : 0 ≤ (x4_1 : Int) := od_
     have q104 : x4_1 < (l0.length : Int) := od_
     obtain ⟨ad104, e104, hx104_0⟩ := Kd.at_int HR0.out x4_1 p104 q104
     have hw104_0 := hx104_0
     cases e104
     replace hx104_0 := pw_cell_below HB.out hx104_0
     replace p104 := eq_true p104
     replace q104 := eq_true q104
     refine start_ (n := 16) (S := fun w' => w'.cell? ⟨gb103, 0, none⟩ = some (.slice (some ad104) l0.length c0) ∧ w'.cell? ⟨gb103, 1, none⟩ = some (.int .i64 0) ∧ w'.cell? ⟨gb103, 2, none⟩ = some (.int .u64 x104002_1) ∧ w'.cell? (ad104.add (x4_1).toNat) = some (.int .u8 (rd l0 x4_1))) (ds := [15]) #[false, false, false, false, false, false, false, false, false, false, false, false, false, false, false, false] (by kernel_rfl) rfl rfl ⟨(blk_cell BK103.out 0).trans rfl, (blk_cell BK103.out 1).trans rfl, (blk_cell BK103.out 2).trans rfl, ((HB.out.cell (World.block_lt_of_cell? _ _ hw104_0)).trans hw104_0)⟩ (fun hHeld => ?_); refine with_tabW spec_l01From.tab5 spec_l01From.bits5 (fun HT_ HW_ => ?_)
     replace HBW := Aside0.mk (below_drew HBW.out)
     generalize wr.drew = w6 at BK103 HB HBW hx104_0 hHeld ⊢
     refine pk_ 0 16 22 1 ?_
     refine pk_ 1 16 23 3 ?_
     refine pk_ 2 16 24 7 ?_
     refine pk_ 3 16 25 15 ?_
     refine pk_ 6 16 28 79 ?_
     refine pk_ 7 16 29 207 ?_
     refine pk_ 8 16 30 463 ?_
     refine tk_ 4 16 26 479 hHeld ?_
     refine pk_ 5 16 27 511 ?_
     refine tk_ 9 16 31 1023 hHeld ?_
     refine pk_ 10 16 32 2047 ?_
     refine pk_ 11 16 33 4095 ?_
     refine pk_ 12 16 34 8191 ?_
     refine pk_ 13 16 35 16383 ?_
     refine pk_ 14 16 36 32767 ?_
     refine last_ (i := 15) (N := none) #[true, true, true, true, true, true, true, true, true, true, true, true, true, true, true, true] rfl rfl (one_of HT_.out (by kernel_rfl)) (by decide) (fun K hK => ?_)
     have hs7 : w6.cell? ⟨gb103, 2, none⟩ = some (.int .u64 x104002_1) := (blk_cell BK103.out 2).trans rfl
     have hfs7 := blk_frozen BK103.out 2
     refine skip_ (w1 := ?_) (by rfl) rfl ?_ ?_
     rotate_left
     ·go_simp
      rfl
     refine hK.out _ _ ?_
     clear hK K
     refine done_ (done_of HT_.out (by kernel_rfl)) ?_
     try go_wp2
     go_roundg k1
     case measure => have := HK1.out; omega
     case rel => exact ⟨(wrap64 (x4_1 + 1)), (IntKind.u64.wrap ((IntKind.u64.wrap ((IntKind.u64.wrap (x104002_1 * 1099511628211)) + (IntKind.u64.wrap (rd l0 x4_1)))) + 109)), es_, H', ⟨by have := HK1.out; omega⟩, ⟨by (with_reducible repeat (first | refine blk_drewN ?_ _ | refine blk_drew ?_ | refine blk_alloc ?_ _)); refine blk_put (cs := #[.slice (some ad104) l0.length c0, .int .i64 0, .int .u64 x104002_1]) ?_ 2 _ rfl; (with_reducible repeat (first | refine blk_drewN ?_ _ | refine blk_drew ?_ | refine blk_alloc ?_ _)); exact BK103.out⟩, ⟨hbs_⟩, ⟨hw_⟩⟩
    ·rw [if_neg c4] at H
     have c4b0 := decide_eq_false c4
     clear c4
     simp only [Option.some.injEq, Prod.mk.injEq] at H
     obtain ⟨rfl, rfl, rfl⟩ := H
     go_wp2
     go_ret
     exact ⟨_, rfl, (show IsS131 w0 _ gb103 l0 0 x104002_1 from ⟨_, _, (blk_below BK103.out bgo_), GE103.out, HR0.out⟩), hbs_, hw_⟩
   ·rw [if_neg c3] at H
    have c3b0 := decide_eq_false c3
    clear c3
    simp only [Option.some.injEq, Prod.mk.injEq] at H
    obtain ⟨rfl, rfl, rfl⟩ := H
    go_wp2
    go_ret
    exact ⟨_, rfl, (show IsS131 w0 _ gb103 l0 0 x104002_1 from ⟨_, _, (blk_below BK103.out bgo_), GE103.out, HR0.out⟩), hbs_, hw_⟩

/-! ### spec_l01Next: function 171 -/
def spec_l01Next.f (s0_0 : List Int) (s0_1 : Int) (s0_2 : Int) (a1 : Int) : Option (Int × Int × Int) := if a1 < 1 then (some (0, s0_1, s0_2)) else (if s0_1 < (s0_0.length : Int) then (if 0 ≤ s0_1 then (if a1 = 0 then (none) else (some (Int.tmod (wrap64 ((wrap64 (Go.bits .and .u64 ((IntKind.u64.wrap ((IntKind.u64.wrap (s0_2 * 6364136223846793005)) + 1442695040888963407)) / 2147483648) 1073741823)) + (wrap64 (rd s0_0 s0_1)))) a1, wrap64 (s0_1 + 1), IntKind.u64.wrap ((IntKind.u64.wrap (s0_2 * 6364136223846793005)) + 1442695040888963407)))) else (none)) else (if a1 = 0 then (none) else (some (Int.tmod (wrap64 (Go.bits .and .u64 ((IntKind.u64.wrap ((IntKind.u64.wrap (s0_2 * 6364136223846793005)) + 1442695040888963407)) / 2147483648) 1073741823)) a1, s0_1, IntKind.u64.wrap ((IntKind.u64.wrap (s0_2 * 6364136223846793005)) + 1442695040888963407)))))
set_option maxHeartbeats 8000000 in
set_option maxRecDepth 100000 in
theorem spec_l01Next.calls (g : Nat) (s0_0 : List Int) (s0_1 : Int) (s0_2 : Int) (a1 : Int) (r1 : Int) (r2 : Int) (r3 : Int) (w0 w : World) (hI : IsS131 w0 w g s0_0 s0_1 s0_2) (hB : Below w0.heap.size w0 w) (h : spec_l01Next.f s0_0 s0_1 s0_2 a1 = some (r1, r2, r3)) :
  Calls Try.prog 171 #[.pointer (some ⟨g, 0, none⟩), .int .i64 a1] w fun e w' => e = .returned (.int .i64 r1) ∧ IsS131 w0 w' g s0_0 r2 r3 ∧ Below w0.heap.size w0 w' ∧ KeepBut w w' g none := by
 have HI0 := Aside0.mk hI
 have HK := Aside0.mk (KeepBut.refl w g none)
 have HL := Aside0.mk hB.size
 clear hI
 have HW0 := Aside0.mk hB.size
 have HB := Aside0.mk hB
 clear hB
 have H : (if a1 < 1 then (some (0, s0_1, s0_2)) else (if s0_1 < (s0_0.length : Int) then (if 0 ≤ s0_1 then (if a1 = 0 then (none) else (some (Int.tmod (wrap64 ((wrap64 (Go.bits .and .u64 ((IntKind.u64.wrap ((IntKind.u64.wrap (s0_2 * 6364136223846793005)) + 1442695040888963407)) / 2147483648) 1073741823)) + (wrap64 (rd s0_0 s0_1)))) a1, wrap64 (s0_1 + 1), IntKind.u64.wrap ((IntKind.u64.wrap (s0_2 * 6364136223846793005)) + 1442695040888963407)))) else (none)) else (if a1 = 0 then (none) else (some (Int.tmod (wrap64 (Go.bits .and .u64 ((IntKind.u64.wrap ((IntKind.u64.wrap (s0_2 * 6364136223846793005)) + 1442695040888963407)) / 2147483648) 1073741823)) a1, s0_1, IntKind.u64.wrap ((IntKind.u64.wrap (s0_2 * 6364136223846793005)) + 1442695040888963407)))))) = some (r1, r2, r3) := h
 clear h
 by_cases c3 : a1 < 1
 ·rw [if_pos c3] at H
  have c3b0 := decide_eq_true c3
  clear c3
  simp only [Option.some.injEq, Prod.mk.injEq] at H
  obtain ⟨rfl, rfl, rfl⟩ := H
  go_enter Try.func171, Try.ntmps171
  go_wp2
  go_ret
  exact ⟨er_, IsS131.go_, IsS131.hb_, by repeat (first | (with_reducible first | exact HK.out | apply KeepBut.set_ | apply keep_drewN | apply keep_drew | apply keep_alloc) | exact HK.out)⟩
 ·rw [if_neg c3] at H
  have c3b0 := decide_eq_false c3
  clear c3
  by_cases c4 : s0_1 < (s0_0.length : Int)
  ·rw [if_pos c4] at H
   have c4b0 := decide_eq_true c4
   clear c4
   obtain ⟨c5, H⟩ := itn_ H
   have c5b0 := decide_eq_true c5
   clear c5
   by_cases c6 : a1 = 0
   ·rw [if_pos c6] at H
    exact absurd H (by simp)
   ·rw [if_neg c6] at H
    have c6b0 : (a1 == 0) = false := beq_eq_false_iff_ne.mpr c6
    have c6b1 : (a1 != 0) = true := bne_iff_ne.mpr c6
    simp only [Option.some.injEq, Prod.mk.injEq] at H
    obtain ⟨rfl, rfl, rfl⟩ := H
    obtain ⟨ASz7_0, cSz7_0, HGz7, hgz7, HSz7_0⟩ := HI0.out
    have hcz7_0 := cellS131_0 HGz7
    have hcz7_1 := cellS131_1 HGz7
    have hcz7_2 := cellS131_2 HGz7
    have hfz7_1 := blk_frozen HGz7 1
    have hfz7_2 := blk_frozen HGz7 2
    clear HGz7 hgz7
    have p105 : 0 ≤ (s0_1 : Int) := od_
    have q105 : s0_1 < (s0_0.length : Int) := od_
    obtain ⟨ad105, e105, hx105_0⟩ := Kd.at_int HSz7_0 s0_1 p105 q105
    cases e105
    have hn105_0 : ad105.block ≠ g := Nat.ne_of_lt (Nat.lt_of_lt_of_le (by have := World.block_lt_of_cell? _ _ hx105_0; first | rwa [add_block] at this | exact this) (IsS131.ge HI0.out))
    replace hx105_0 := pw_cell_below HB.out hx105_0
    replace hx105_0 := (cell_far (p := ⟨g, 2, none⟩) (by first | (rw [add_block]; exact hn105_0) | (show (Addr.add _ _).block ≠ _; rw [add_block]; exact hn105_0) | exact hn105_0) (.int .u64 (IntKind.u64.wrap ((IntKind.u64.wrap (s0_2 * 6364136223846793005)) + 1442695040888963407)))).trans hx105_0
    (try have hy105_0 := fun (n_ : Nat) => (show (((w.drewN n_).setCell ⟨g, 2, none⟩ (.int .u64 (IntKind.u64.wrap ((IntKind.u64.wrap (s0_2 * 6364136223846793005)) + 1442695040888963407))))).cell? _ = some _ from hx105_0))
    clear hn105_0
    replace p105 := eq_true p105
    replace q105 := eq_true q105
    go_enter Try.func171, Try.ntmps171
    go_wp2
    repeat (go_quiet (fail); try go_wp2)
    go_ret
    exact ⟨er_, IsS131.go_, IsS131.hb_, by repeat (first | (with_reducible first | exact HK.out | apply KeepBut.set_ | apply keep_drewN | apply keep_drew | apply keep_alloc) | exact HK.out)⟩
  ·rw [if_neg c4] at H
   have c4b0 := decide_eq_false c4
   clear c4
   by_cases c8 : a1 = 0
   ·rw [if_pos c8] at H
    exact absurd H (by simp)
   ·rw [if_neg c8] at H
    have c8b0 : (a1 == 0) = false := beq_eq_false_iff_ne.mpr c8
    have c8b1 : (a1 != 0) = true := bne_iff_ne.mpr c8
    simp only [Option.some.injEq, Prod.mk.injEq] at H
    obtain ⟨rfl, rfl, rfl⟩ := H
    obtain ⟨ASz9_0, cSz9_0, HGz9, hgz9, HSz9_0⟩ := HI0.out
    have hcz9_0 := cellS131_0 HGz9
    have hcz9_1 := cellS131_1 HGz9
    have hcz9_2 := cellS131_2 HGz9
    have hfz9_1 := blk_frozen HGz9 1
    have hfz9_2 := blk_frozen HGz9 2
    clear HGz9 hgz9
    go_enter Try.func171, Try.ntmps171
    go_wp2
    repeat (go_quiet (fail); try go_wp2)
    go_ret
    exact ⟨er_, IsS131.go_, IsS131.hb_, by repeat (first | (with_reducible first | exact HK.out | apply KeepBut.set_ | apply keep_drewN | apply keep_drew | apply keep_alloc) | exact HK.out)⟩

/-! ### spec_l01Pick: function 144 -/
def spec_l01Pick.f (s0_0 : List Int) (s0_1 : Int) (s0_2 : Int) (l1 : List Int) : Option (Int × Int × Int) := (spec_l01Next.f s0_0 s0_1 s0_2 (l1.length : Int)).bind fun bt106 => (if 0 ≤ bt106.1 then (if bt106.1 < (l1.length : Int) then (some (rd l1 bt106.1, bt106.2.1, bt106.2.2)) else (none)) else (none))
set_option maxHeartbeats 8000000 in
set_option maxRecDepth 100000 in
theorem spec_l01Pick.calls (g : Nat) (s0_0 : List Int) (s0_1 : Int) (s0_2 : Int) (A1 : Option Addr) (c1 : Nat) (l1 : List Int) (r1 : Int) (r2 : Int) (r3 : Int) (w0 w : World) (hI : IsS131 w0 w g s0_0 s0_1 s0_2) (hB : Below w0.heap.size w0 w) (hr1 : Kd.C (Kd.int .i64) w A1 l1.length l1) (hc1 : l1.length ≤ c1) (hf1 : ∀ ad, A1 = some ad → 0 < l1.length → ad.block ≠ g) (h : spec_l01Pick.f s0_0 s0_1 s0_2 l1 = some (r1, r2, r3)) :
  Calls Try.prog 144 #[.pointer (some ⟨g, 0, none⟩), .slice A1 l1.length c1] w fun e w' => e = .returned (.int .i64 r1) ∧ IsS131 w0 w' g s0_0 r2 r3 ∧ Below w0.heap.size w0 w' ∧ KeepBut w w' g none := by
 have HR1 := Aside0.mk hr1
 have HC1 := Aside0.mk hc1
 clear hr1 hc1
 have HI0 := Aside0.mk hI
 have HK := Aside0.mk (KeepBut.refl w g none)
 have HL := Aside0.mk hB.size
 clear hI
 have HW0 := Aside0.mk hB.size
 have HB := Aside0.mk hB
 clear hB
 have H : ((spec_l01Next.f s0_0 s0_1 s0_2 (l1.length : Int)).bind fun bt106 => (if 0 ≤ bt106.1 then (if bt106.1 < (l1.length : Int) then (some (rd l1 bt106.1, bt106.2.1, bt106.2.2)) else (none)) else (none))) = some (r1, r2, r3) := h
 clear h
 obtain ⟨⟨t106, t107, t108⟩, A3, H⟩ := bnd_ H
 dsimp only at H
 by_cases c4 : 0 ≤ t106
 ·rw [if_pos c4] at H
  have c4b0 := decide_eq_true c4
  clear c4
  obtain ⟨c5, H⟩ := itn_ H
  have c5b0 := decide_eq_true c5
  clear c5
  simp only [Option.some.injEq, Prod.mk.injEq] at H
  obtain ⟨rfl, rfl, rfl⟩ := H
  go_enter Try.func144, Try.ntmps144
  go_wp2_with (first | ((with_reducible refine gate_callee (f := 171) rfl ?_); refine goesL_ (some 9) rfl rfl Try.func171 (by kernel_rfl) rfl #[.pointer (some ⟨g, 0, none⟩), .int .i64 (l1.length : Int)] rfl arg_ ?_; (with_reducible refine (spec_l01Next.calls g s0_0 s0_1 s0_2 (l1.length : Int) t106 t107 t108 w0 _ ?side1 ?side2 A3.out).mono ?_); (case side1 => exact IsS131.go_); (case side2 => exact IsS131.hb_); rintro e w6 ⟨rfl, hi, hb, hk⟩; refine ⟨_, rfl, ?_⟩; replace HK := Aside0.mk (KeepBut.trans (by repeat (first | (with_reducible first | exact HK.out | apply KeepBut.set_ | apply keep_drewN | apply keep_drew | apply keep_alloc) | exact HK.out)) hk (.inl rfl)); replace HB := Aside0.mk (hb); replace HI0 := Aside0.mk (hi); (try clear hb); (try clear hb2); (try clear hk); (try clear hi); have p109 : 0 ≤ (t106 : Int) := od_; have q109 : t106 < (l1.length : Int) := od_; obtain ⟨ad109, e109, hx109_0⟩ := Kd.at_int HR1.out t106 p109 q109; cases e109; replace hx109_0 := keep_cell HK.out hx109_0 (by first | (rw [add_block]; exact hf1 _ rfl (by omega)) | exact hf1 _ rfl (by omega) | exact hf1 ad109 rfl (by omega)); replace p109 := eq_true p109; replace q109 := eq_true q109))
  go_ret
  exact ⟨er_, IsS131.go_, IsS131.hb_, by repeat (first | (with_reducible first | exact HK.out | apply KeepBut.set_ | apply keep_drewN | apply keep_drew | apply keep_alloc) | exact HK.out)⟩
 ·rw [if_neg c4] at H
  exact absurd H (by simp)

/-! ### spec_l01Own: function 113 -/
def spec_l01Own.f (l0 : List Int) : Option (List Int) := (some (([] : List Int) : List Int)).bind fun y110 => (if y110.length + l0.length < 17592186044416 then (some (y110 ++ l0)) else (none))
set_option maxHeartbeats 8000000 in
set_option maxRecDepth 100000 in
theorem spec_l01Own.calls (A0 : Option Addr) (c0 : Nat) (l0 : List Int) (r : List Int) (w : World) (hr0 : Kd.C (Kd.int .i64) w A0 l0.length l0) (hc0 : l0.length ≤ c0) (h : spec_l01Own.f l0 = some r) :
  Calls Try.prog 113 #[.slice A0 l0.length c0] w fun e w' => ∃ v0_ : Value, e = .returned (v0_) ∧ Kd.R (Kd.int .i64) 2 w' w.heap.size (fun _ => True) v0_ r ∧ Below w.heap.size w w' := by
 have HR0 := Aside0.mk hr0
 have HC0 := Aside0.mk hc0
 clear hr0 hc0
 have HB := Aside0.mk (Below.refl w.heap.size w)
 have H : ((some (([] : List Int) : List Int)).bind fun y110 => (if y110.length + l0.length < 17592186044416 then (some (y110 ++ l0)) else (none))) = some r := h
 clear h
 obtain ⟨y110, Ny110, H⟩ : ∃ y110 : List Int, Aside0 (y110 = (([] : List Int))) ∧ (if y110.length + l0.length < 17592186044416 then (some (y110 ++ l0)) else (none)) = some r := ⟨_, ⟨rfl⟩, H⟩
 by_cases c2 : y110.length + l0.length < 17592186044416
 ·rw [if_pos c2] at H
  have LMc2 := Aside0.mk c2
  clear c2
  obtain ⟨y113, Ny113, H⟩ : ∃ y113 : List Int, Aside0 (y113 = (y110 ++ l0)) ∧ (some y113) = some r := ⟨_, ⟨rfl⟩, H⟩
  obtain rfl := Option.some.inj H
  go_enter Try.func113, Try.ntmps113
  go_wp2_with (first | ((with_reducible refine gate_dst (N := 3) rfl ?_); refine Kd.R_lit (Kd.int .i64) _ 2 ?hg (N := 3) ?hd (xs := ([] : List Int)) (inner := []) (ok := fun _ => True) (okp := fun _ => True) ?hr ?hp (fun _ hk => hk) trivial (Below.refl _ _) (Nat.le_refl _) (by simp) ?_; (case hd => rfl); (case hg => rfl); (case hr => first | (go_simp; done) | (go_simp; rfl)); (case hp => exact (Reps.none _ _)); intro v111 w3 ho4 hb hg_ hnew_; clear hg_ hnew_; (first | rw [← Ny110.out] at ho4 | (simp only [Int.reduceToNat] at ho4; rw [← Ny110.out] at ho4)); have HO112 := Aside0.mk (Kd.R_lower ho4 (below_size hb_)); replace HB := Aside0.mk (below_step hb_ hb); clear hb ho4) | ((with_reducible refine gate_builtin (b := .append) (xs := #[.tmp 3, .tmp 4]) rfl ?_); at_builtin; refine Kd.R_append_rows (Kd.int .i64) (w0 := w) w.heap.size rfl (.tmp 3) (.tmp 4) 29 2 (.int .i64 0) 8 rfl Try.underlying29 info2 rfl (by decide) (by omega) v111 y110 l0 _ _ _ (fun _ => True) (fun _ => False) rfl rfl ?aO ?aR (fun _ _ h => h) (fun _ h => h.elim) ?aF ?aB ?aS ?aL ?_; (case aR => repeat (first | exact (Kd.C_below HR0.out HB.out) | (with_reducible refine Kd.C_alloc ?_ _) | (with_reducible refine Kd.C_drewN ?_ _) | (with_reducible refine Kd.C_drew ?_))); (case aB => exact hb_); (case aF => exact (fun _ _ => trivial)); (case aO => exact (Kd.R_below HO112.out bgo_)); (case aS => exact (below_size hb_)); (case aL => have := LMc2.out; omega); intro v114 w5 ho hb hg hat; rw [← Ny113.out] at ho; replace HB := Aside0.mk (hb); have HO115 := Aside0.mk (ho); clear HO112; clear ho hb hg hat))
  go_ret
  exact ⟨_, er_, (Kd.R_below HO115.out bgo_), hb_⟩
 ·rw [if_neg c2] at H
  exact absurd H (by simp)

/-! ### spec_l01Rough: function 161 -/
def spec_l01Rough.l0 : Nat → List Int → List Int → Int → Int → Option (List Int × Int × Int)
 | 0, _, _, _, _ => none
 | k + 1, x5, x1000, x1001, x1002 => if (x5.length : Int) ≤ 40 then (if x5.length < 17592186044416 then (spec_l01Rough.l0 k (x5 ++ [1]) x1000 x1001 x1002) else (none)) else (some (x5, x1001, x1002))
def spec_l01Rough.f (k : Nat) (s0_0 : List Int) (s0_1 : Int) (s0_2 : Int) (l1 : List Int) : Option (List Int × Int × Int) := (spec_l01Next.f s0_0 s0_1 s0_2 30).bind fun bt116 => (if bt116.1 = 0 then ((spec_l01Own.f l1).bind fun t119 => (if t119.length < 17592186044416 then (some ((t119 ++ [0]), bt116.2.1, bt116.2.2)) else (none))) else (if bt116.1 = 1 then ((spec_l01Own.f l1).bind fun t125 => ((spec_l01Pick.f s0_0 bt116.2.1 bt116.2.2 (([1000000000000001, (-1000000000000001)] : List Int))).bind fun bt131 => (if t125.length < 17592186044416 then (some ((t125 ++ [bt131.1]), bt131.2.1, bt131.2.2)) else (none)))) else (if bt116.1 = 2 then ((spec_l01Own.f l1).bind fun t137 => ((spec_l01Pick.f s0_0 bt116.2.1 bt116.2.2 (([1000000000000000, (-1000000000000000), 333333333333333] : List Int))).bind fun bt143 => (if t137.length < 17592186044416 then (some ((t137 ++ [bt143.1]), bt143.2.1, bt143.2.2)) else (none)))) else (if bt116.1 = 3 then ((spec_l01Own.f l1).bind fun t149 => (spec_l01Rough.l0 k t149 s0_0 bt116.2.1 bt116.2.2)) else (some (l1, bt116.2.1, bt116.2.2))))))
set_option maxHeartbeats 8000000 in
set_option maxRecDepth 100000 in
theorem spec_l01Rough.calls (k : Nat) (g : Nat) (s0_0 : List Int) (s0_1 : Int) (s0_2 : Int) (P1_ : Nat → Prop) (u9000_ : Value) (l1 : List Int) (r1 : List Int) (r2 : Int) (r3 : Int) (w0 w : World) (hI : IsS131 w0 w g s0_0 s0_1 s0_2) (hB : Below w0.heap.size w0 w) (ho1 : Kd.R (Kd.int .i64) 2 w w0.heap.size P1_ u9000_ l1) (h : spec_l01Rough.f k s0_0 s0_1 s0_2 l1 = some (r1, r2, r3)) :
  Calls Try.prog 161 #[.pointer (some ⟨g, 0, none⟩), u9000_] w fun e w' => ∃ v0_ : Value, e = .returned (v0_) ∧ Kd.R (Kd.int .i64) 2 w' w0.heap.size (fun k_ => (P1_ k_ ∨ w.heap.size ≤ k_)) v0_ r1 ∧ IsS131 w0 w' g s0_0 r2 r3 ∧ Below w0.heap.size w0 w' ∧ Kept w w' (fun k_ => (P1_ k_) ∨ k_ = g) := by
 have HO1 := Aside0.mk (show Kd.R (Kd.int .i64) 2 w w0.heap.size (fun k_ => (P1_ k_ ∨ w.heap.size ≤ k_)) u9000_ l1 from Kd.R_mono ho1 (fun k_ hk => (.inl hk)))
 have HI0 := Aside0.mk hI
 have HL := Aside0.mk hB.size
 clear hI
 have HK := Aside0.mk (Kept.refl w (fun k_ => (P1_ k_) ∨ k_ = g))
 have HW0 := Aside0.mk hB.size
 have HB := Aside0.mk hB
 clear hB
 have H : ((spec_l01Next.f s0_0 s0_1 s0_2 30).bind fun bt116 => (if bt116.1 = 0 then ((spec_l01Own.f l1).bind fun t119 => (if t119.length < 17592186044416 then (some ((t119 ++ [0]), bt116.2.1, bt116.2.2)) else (none))) else (if bt116.1 = 1 then ((spec_l01Own.f l1).bind fun t125 => ((spec_l01Pick.f s0_0 bt116.2.1 bt116.2.2 (([1000000000000001, (-1000000000000001)] : List Int))).bind fun bt131 => (if t125.length < 17592186044416 then (some ((t125 ++ [bt131.1]), bt131.2.1, bt131.2.2)) else (none)))) else (if bt116.1 = 2 then ((spec_l01Own.f l1).bind fun t137 => ((spec_l01Pick.f s0_0 bt116.2.1 bt116.2.2 (([1000000000000000, (-1000000000000000), 333333333333333] : List Int))).bind fun bt143 => (if t137.length < 17592186044416 then (some ((t137 ++ [bt143.1]), bt143.2.1, bt143.2.2)) else (none)))) else (if bt116.1 = 3 then ((spec_l01Own.f l1).bind fun t149 => (spec_l01Rough.l0 k t149 s0_0 bt116.2.1 bt116.2.2)) else (some (l1, bt116.2.1, bt116.2.2))))))) = some (r1, r2, r3) := h
 clear h
 obtain ⟨⟨t116, t117, t118⟩, A3, H⟩ := bnd_ H
 dsimp only at H
 by_cases c4 : t116 = 0
 ·rw [if_pos c4] at H
  have c4b0 : (t116 == 0) = true := beq_iff_eq.mpr c4
  have c4b1 : (t116 != 0) = false := bne_eq_false_iff_eq.mpr c4
  clear c4
  obtain ⟨t119, A5, H⟩ := bnd_ H
  obtain ⟨c6, H⟩ := itn_ H
  have LMc6 := Aside0.mk c6
  clear c6
  obtain ⟨y122, Ny122, H⟩ : ∃ y122 : List Int, Aside0 (y122 = (t119 ++ [0])) ∧ (some (y122, t117, t118)) = some (r1, r2, r3) := ⟨_, ⟨rfl⟩, H⟩
  simp only [Option.some.injEq, Prod.mk.injEq] at H
  obtain ⟨rfl, rfl, rfl⟩ := H
  go_enter Try.func161, Try.ntmps161
  go_wp2_with (first | ((with_reducible refine gate_callee (f := 171) rfl ?_); refine goesL_ (some 7) rfl rfl Try.func171 (by kernel_rfl) rfl #[.pointer (some ⟨g, 0, none⟩), .int .i64 30] rfl arg_ ?_; (with_reducible refine (spec_l01Next.calls g s0_0 s0_1 s0_2 30 t116 t117 t118 w0 _ ?side1 ?side2 A3.out).mono ?_); (case side1 => exact IsS131.go_); (case side2 => exact IsS131.hb_); rintro e w7 ⟨rfl, hi, hb, hk⟩; refine ⟨_, rfl, ?_⟩; replace HO1 := Aside0.mk (Kd.R_mono (Kd.R_keep (IsS131.apart (show IsS131 w0 _ g s0_0 s0_1 s0_2 from IsS131.go_) (Kd.R_below HO1.out bgo_) (by decide)) hk (fun _ h => h.2)) (fun _ h => h.1)); replace HK := Aside0.mk (Kept.of_keep (S := (fun k_ => (P1_ k_) ∨ k_ = g)) (by repeat (first | (with_reducible first | exact HK.out | apply Kept.alloc | apply Kept.drewN | apply Kept.drew | refine Kept.setCell ?_ (.inl (.inr rfl)) _) | exact HK.out)) hk (.inl (.inr rfl))); replace HB := Aside0.mk (hb); replace HI0 := Aside0.mk (hi); (try clear hb); (try clear hb2); (try clear hk); (try clear hi); obtain ⟨Ao8, co8, eo8⟩ := Kd.R_slice HO1.out; subst eo8) | ((with_reducible refine gate_callee (f := 113) rfl ?_); refine goesL_ (some 11) rfl rfl Try.func113 (by kernel_rfl) rfl #[.slice Ao8 l1.length co8] rfl arg_ ?_; (with_reducible refine (spec_l01Own.calls _ _ l1 t119 _ ?side1 ?side2 A5.out).mono ?_); (case side1 => exact Kd.C_below (Kd.R_reads' HO1.out).2.2 bgo_); (case side2 => exact (Kd.R_reads' HO1.out).2.1); rintro e w9 ⟨v120, rfl, ho0, hb⟩; refine ⟨_, rfl, ?_⟩; have HO121 := Aside0.mk (Kd.R_lower (Kd.R_new' (Kd.R_newM (M := fun k_ => (P1_ k_ ∨ w.heap.size ≤ k_)) ho0 (by first | exact HK.out.1 | exact (show Kept w _ (fun k_ => (P1_ k_) ∨ k_ = g) from by repeat (first | (with_reducible first | exact HK.out | apply Kept.alloc | apply Kept.drewN | apply Kept.drew | refine Kept.setCell ?_ (.inl (.inr rfl)) _) | exact HK.out)).1) (fun k_ h_ => .inr h_)) (Kd.R_lt (Kd.R_below HO1.out bgo_))) (below_size IsS131.hb_)); replace HO1 := Aside0.mk (Kd.R_elder' (Kd.R_below HO1.out bgo_) (Kd.R_base ho0) hb); replace HK := Aside0.mk (Kept.below (S := (fun k_ => (P1_ k_) ∨ k_ = g)) (by repeat (first | (with_reducible first | exact HK.out | apply Kept.alloc | apply Kept.drewN | apply Kept.drew | refine Kept.setCell ?_ (.inl (.inr rfl)) _) | exact HK.out)) hb); replace HB := Aside0.mk (below_step IsS131.hb_ hb); replace HI0 := Aside0.mk (IsS131.below IsS131.go_ hb); (try clear hb); (try clear hb2); (try clear hk); (try clear hi); (try clear ho0)) | ((with_reducible refine gate_builtin (b := .append) (xs := #[.tmp 11, .tmp 12]) rfl ?_); at_builtin; refine Kd.R_append (Kd.int .i64) (w0 := w0) w0.heap.size rfl (.tmp 11) (.tmp 12) 29 2 (.int .i64 0) 8 rfl Try.underlying29 info2 rfl (by decide) (by omega) v120 t119 0 [.int .i64 0] (fun k_ => (P1_ k_ ∨ w.heap.size ≤ k_) ∧ some k_ ≠ (.slice Ao8 l1.length co8 : Value).ownBlock) (fun _ => False) rfl rfl ?aP (fun _ hk => hk.elim) ?aF ?aO ?aB ?aS ?aL ?_; (case aP => exact rfl); (case aB => exact IsS131.hb_); (case aF => exact (fun k_ hk => ⟨(.inr (Nat.le_trans (by first | exact HK.out.1 | exact (show Kept w _ (fun k_ => (P1_ k_) ∨ k_ = g) from by repeat (first | (with_reducible first | exact HK.out | apply Kept.alloc | apply Kept.drewN | apply Kept.drew | refine Kept.setCell ?_ (.inl (.inr rfl)) _) | exact HK.out)).1) hk)), Kd.fresh' (Kd.R_lt (Kd.R_below HO1.out bgo_)) k_ hk⟩)); (case aO => exact (by (with_reducible repeat (first | apply Kd.R_alloc | apply Kd.R_drewN | apply Kd.R_drew)); exact Kd.R_mono HO121.out (fun _ hk => ⟨hk.1.1, hk.2⟩))); (case aS => exact (below_size IsS131.hb_)); (case aL => have := LMc6.out; omega); intro v123 w10 ho hb hg hat; rw [← Ny122.out] at ho; replace HI0 := Aside0.mk (IsS131.grown IsS131.go_ hg (IsS131.own_ne HI0.out HO121.out (by decide))); replace HO1 := Aside0.mk (Kd.R_after (ok := (fun k_ => (P1_ k_ ∨ w.heap.size ≤ k_))) (Kd.R_below HO1.out bgo_) hg hat); replace HB := Aside0.mk (hb); replace HK := Aside0.mk (Kept.of_grown (S := (fun k_ => (P1_ k_) ∨ k_ = g)) hg (by repeat (first | (with_reducible first | exact HK.out | apply Kept.alloc | apply Kept.drewN | apply Kept.drew | refine Kept.setCell ?_ (.inl (.inr rfl)) _) | exact HK.out)) (fun k_ e_ => Or.imp_left Or.inl ((HO121.out.1 k_ e_).1.1))); have HO124 := Aside0.mk (ho); clear HO121; clear ho hb hg hat))
  go_ret
  exact ⟨_, er_, by (with_reducible repeat (first | apply Kd.R_alloc | apply Kd.R_drewN | apply Kd.R_drew)); exact Kd.R_mono HO124.out (fun _ hk => hk.1), IsS131.go_, IsS131.hb_, by repeat (first | (with_reducible first | exact HK.out | apply Kept.alloc | apply Kept.drewN | apply Kept.drew | refine Kept.setCell ?_ (.inl (.inr rfl)) _) | exact HK.out)⟩
 ·rw [if_neg c4] at H
  have c4b0 : (t116 == 0) = false := beq_eq_false_iff_ne.mpr c4
  have c4b1 : (t116 != 0) = true := bne_iff_ne.mpr c4
  by_cases c11 : t116 = 1
  ·rw [if_pos c11] at H
   have c11b0 : (t116 == 1) = true := beq_iff_eq.mpr c11
   have c11b1 : (t116 != 1) = false := bne_eq_false_iff_eq.mpr c11
   clear c11
   obtain ⟨t125, A12, H⟩ := bnd_ H
   obtain ⟨y128, Ny128, H⟩ : ∃ y128 : List Int, Aside0 (y128 = (([1000000000000001, (-1000000000000001)] : List Int))) ∧ ((spec_l01Pick.f s0_0 t117 t118 y128).bind fun bt131 => (if t125.length < 17592186044416 then (some ((t125 ++ [bt131.1]), bt131.2.1, bt131.2.2)) else (none))) = some (r1, r2, r3) := ⟨_, ⟨rfl⟩, H⟩
   obtain ⟨⟨t131, t132, t133⟩, A13, H⟩ := bnd_ H
   dsimp only at H
   obtain ⟨c14, H⟩ := itn_ H
   have LMc14 := Aside0.mk c14
   clear c14
   obtain ⟨y134, Ny134, H⟩ : ∃ y134 : List Int, Aside0 (y134 = (t125 ++ [t131])) ∧ (some (y134, t132, t133)) = some (r1, r2, r3) := ⟨_, ⟨rfl⟩, H⟩
   simp only [Option.some.injEq, Prod.mk.injEq] at H
   obtain ⟨rfl, rfl, rfl⟩ := H
   go_enter Try.func161, Try.ntmps161
   go_wp2_with (first | ((with_reducible refine gate_callee (f := 171) rfl ?_); refine goesL_ (some 7) rfl rfl Try.func171 (by kernel_rfl) rfl #[.pointer (some ⟨g, 0, none⟩), .int .i64 30] rfl arg_ ?_; (with_reducible refine (spec_l01Next.calls g s0_0 s0_1 s0_2 30 t116 t117 t118 w0 _ ?side1 ?side2 A3.out).mono ?_); (case side1 => exact IsS131.go_); (case side2 => exact IsS131.hb_); rintro e w15 ⟨rfl, hi, hb, hk⟩; refine ⟨_, rfl, ?_⟩; replace HO1 := Aside0.mk (Kd.R_mono (Kd.R_keep (IsS131.apart (show IsS131 w0 _ g s0_0 s0_1 s0_2 from IsS131.go_) (Kd.R_below HO1.out bgo_) (by decide)) hk (fun _ h => h.2)) (fun _ h => h.1)); replace HK := Aside0.mk (Kept.of_keep (S := (fun k_ => (P1_ k_) ∨ k_ = g)) (by repeat (first | (with_reducible first | exact HK.out | apply Kept.alloc | apply Kept.drewN | apply Kept.drew | refine Kept.setCell ?_ (.inl (.inr rfl)) _) | exact HK.out)) hk (.inl (.inr rfl))); replace HB := Aside0.mk (hb); replace HI0 := Aside0.mk (hi); (try clear hb); (try clear hb2); (try clear hk); (try clear hi); obtain ⟨Ao16, co16, eo16⟩ := Kd.R_slice HO1.out; subst eo16) | ((with_reducible refine gate_callee (f := 113) rfl ?_); refine goesL_ (some 17) rfl rfl Try.func113 (by kernel_rfl) rfl #[.slice Ao16 l1.length co16] rfl arg_ ?_; (with_reducible refine (spec_l01Own.calls _ _ l1 t125 _ ?side1 ?side2 A12.out).mono ?_); (case side1 => exact Kd.C_below (Kd.R_reads' HO1.out).2.2 bgo_); (case side2 => exact (Kd.R_reads' HO1.out).2.1); rintro e w17 ⟨v126, rfl, ho0, hb⟩; refine ⟨_, rfl, ?_⟩; have HO127 := Aside0.mk (Kd.R_lower (Kd.R_new' (Kd.R_newM (M := fun k_ => (P1_ k_ ∨ w.heap.size ≤ k_)) ho0 (by first | exact HK.out.1 | exact (show Kept w _ (fun k_ => (P1_ k_) ∨ k_ = g) from by repeat (first | (with_reducible first | exact HK.out | apply Kept.alloc | apply Kept.drewN | apply Kept.drew | refine Kept.setCell ?_ (.inl (.inr rfl)) _) | exact HK.out)).1) (fun k_ h_ => .inr h_)) (Kd.R_lt (Kd.R_below HO1.out bgo_))) (below_size IsS131.hb_)); replace HO1 := Aside0.mk (Kd.R_elder' (Kd.R_below HO1.out bgo_) (Kd.R_base ho0) hb); replace HK := Aside0.mk (Kept.below (S := (fun k_ => (P1_ k_) ∨ k_ = g)) (by repeat (first | (with_reducible first | exact HK.out | apply Kept.alloc | apply Kept.drewN | apply Kept.drew | refine Kept.setCell ?_ (.inl (.inr rfl)) _) | exact HK.out)) hb); replace HB := Aside0.mk (below_step IsS131.hb_ hb); replace HI0 := Aside0.mk (IsS131.below IsS131.go_ hb); (try clear hb); (try clear hb2); (try clear hk); (try clear hi); (try clear ho0)) | ((with_reducible refine gate_dst (N := 19) rfl ?_); refine Kd.R_lit (Kd.int .i64) _ 2 ?hg (N := 19) ?hd (xs := ([1000000000000001, (-1000000000000001)] : List Int)) (inner := [.int .i64 1000000000000001, .int .i64 (-1000000000000001)]) (ok := fun _ => True) (okp := fun _ => True) ?hr ?hp (fun _ hk => hk) trivial (Below.refl _ _) (Nat.le_refl _) (by simp) ?_; (case hd => rfl); (case hg => rfl); (case hr => first | (go_simp; done) | (go_simp; rfl)); (case hp => exact (Reps.one (show Kd.M (Kd.int .i64) _ _ _ 1000000000000001 [.int .i64 1000000000000001] from rfl) (Reps.one (show Kd.M (Kd.int .i64) _ _ _ (-1000000000000001) [.int .i64 (-1000000000000001)] from rfl) (Reps.none _ _)))); intro v129 w18 ho19 hb hg_ hnew_; clear hg_ hnew_; (first | rw [← Ny128.out] at ho19 | (simp only [Int.reduceToNat] at ho19; rw [← Ny128.out] at ho19)); have HO130 := Aside0.mk (Kd.R_lower (Kd.R_new' (Kd.R_new' (Kd.R_newM (M := fun k_ => (P1_ k_ ∨ w.heap.size ≤ k_)) ho19 (by first | exact HK.out.1 | exact (show Kept w _ (fun k_ => (P1_ k_) ∨ k_ = g) from by repeat (first | (with_reducible first | exact HK.out | apply Kept.alloc | apply Kept.drewN | apply Kept.drew | refine Kept.setCell ?_ (.inl (.inr rfl)) _) | exact HK.out)).1) (fun k_ h_ => .inr h_)) (Kd.R_lt (Kd.R_below HO1.out bgo_))) (Kd.R_lt (Kd.R_below HO127.out bgo_))) (below_size IsS131.hb_)); replace HO1 := Aside0.mk (Kd.R_elder' (Kd.R_below HO1.out bgo_) (Kd.R_base ho19) hb); replace HO127 := Aside0.mk (Kd.R_elder' (Kd.R_below HO127.out bgo_) (Kd.R_base ho19) hb); replace HK := Aside0.mk (Kept.below (S := (fun k_ => (P1_ k_) ∨ k_ = g)) (by repeat (first | (with_reducible first | exact HK.out | apply Kept.alloc | apply Kept.drewN | apply Kept.drew | refine Kept.setCell ?_ (.inl (.inr rfl)) _) | exact HK.out)) hb); replace HB := Aside0.mk (below_step IsS131.hb_ hb); replace HI0 := Aside0.mk (IsS131.below IsS131.go_ hb); clear hb ho19; obtain ⟨Ao20, co20, eo20⟩ := Kd.R_slice HO130.out; subst eo20) | ((with_reducible refine gate_callee (f := 144) rfl ?_); refine goesL_ (some 20) rfl rfl Try.func144 (by kernel_rfl) rfl #[.pointer (some ⟨g, 0, none⟩), .slice Ao20 y128.length co20] rfl arg_ ?_; (with_reducible refine (spec_l01Pick.calls g s0_0 t117 t118 _ _ y128 t131 t132 t133 w0 _ ?side1 ?side2 ?side3 ?side4 ?side5 A13.out).mono ?_); (case side1 => exact IsS131.go_); (case side2 => exact IsS131.hb_); (case side3 => exact Kd.C_below (Kd.R_reads' HO130.out).2.2 bgo_); (case side4 => exact (Kd.R_reads' HO130.out).2.1); (case side5 => exact far_slice (IsS131.own_ne HI0.out HO130.out (by decide))); rintro e w21 ⟨rfl, hi, hb, hk⟩; refine ⟨_, rfl, ?_⟩; replace HO1 := Aside0.mk (Kd.R_mono (Kd.R_keep (IsS131.apart (show IsS131 w0 _ g s0_0 t117 t118 from IsS131.go_) (Kd.R_below HO1.out bgo_) (by decide)) hk (fun _ h => h.2)) (fun _ h => h.1)); replace HO127 := Aside0.mk (Kd.R_mono (Kd.R_keep (IsS131.apart (show IsS131 w0 _ g s0_0 t117 t118 from IsS131.go_) (Kd.R_below HO127.out bgo_) (by decide)) hk (fun _ h => h.2)) (fun _ h => h.1)); replace HO130 := Aside0.mk (Kd.R_mono (Kd.R_keep (IsS131.apart (show IsS131 w0 _ g s0_0 t117 t118 from IsS131.go_) (Kd.R_below HO130.out bgo_) (by decide)) hk (fun _ h => h.2)) (fun _ h => h.1)); replace HK := Aside0.mk (Kept.of_keep (S := (fun k_ => (P1_ k_) ∨ k_ = g)) (by repeat (first | (with_reducible first | exact HK.out | apply Kept.alloc | apply Kept.drewN | apply Kept.drew | refine Kept.setCell ?_ (.inl (.inr rfl)) _) | exact HK.out)) hk (.inl (.inr rfl))); replace HB := Aside0.mk (hb); replace HI0 := Aside0.mk (hi); (try clear hb); (try clear hb2); (try clear hk); (try clear hi)) | ((with_reducible refine gate_builtin (b := .append) (xs := #[.tmp 17, .tmp 21]) rfl ?_); at_builtin; refine Kd.R_append (Kd.int .i64) (w0 := w0) w0.heap.size rfl (.tmp 17) (.tmp 21) 29 2 (.int .i64 0) 8 rfl Try.underlying29 info2 rfl (by decide) (by omega) v126 t125 t131 [.int .i64 t131] (fun k_ => (P1_ k_ ∨ w.heap.size ≤ k_) ∧ some k_ ≠ (.slice Ao16 l1.length co16 : Value).ownBlock ∧ some k_ ≠ (.slice Ao20 y128.length co20 : Value).ownBlock) (fun _ => False) rfl rfl ?aP (fun _ hk => hk.elim) ?aF ?aO ?aB ?aS ?aL ?_; (case aP => exact rfl); (case aB => exact IsS131.hb_); (case aF => exact (fun k_ hk => ⟨(.inr (Nat.le_trans (by first | exact HK.out.1 | exact (show Kept w _ (fun k_ => (P1_ k_) ∨ k_ = g) from by repeat (first | (with_reducible first | exact HK.out | apply Kept.alloc | apply Kept.drewN | apply Kept.drew | refine Kept.setCell ?_ (.inl (.inr rfl)) _) | exact HK.out)).1) hk)), Kd.fresh' (Kd.R_lt (Kd.R_below HO1.out bgo_)) k_ hk, Kd.fresh' (Kd.R_lt (Kd.R_below HO130.out bgo_)) k_ hk⟩)); (case aO => exact (by (with_reducible repeat (first | apply Kd.R_alloc | apply Kd.R_drewN | apply Kd.R_drew)); exact Kd.R_mono HO127.out (fun _ hk => ⟨hk.1.1.1, ⟨hk.1.2, hk.2⟩⟩))); (case aS => exact (below_size IsS131.hb_)); (case aL => have := LMc14.out; omega); intro v135 w22 ho hb hg hat; rw [← Ny134.out] at ho; replace HI0 := Aside0.mk (IsS131.grown IsS131.go_ hg (IsS131.own_ne HI0.out HO127.out (by decide))); replace HO1 := Aside0.mk (Kd.R_after (ok := (fun k_ => (P1_ k_ ∨ w.heap.size ≤ k_) ∧ some k_ ≠ (.slice Ao20 y128.length co20 : Value).ownBlock)) (by (with_reducible repeat (first | apply Kd.R_alloc | apply Kd.R_drewN | apply Kd.R_drew)); exact Kd.R_mono HO1.out (fun _ hk => ⟨⟨hk.1.1, hk.2⟩, hk.1.2⟩)) hg hat); replace HO130 := Aside0.mk (Kd.R_after (ok := (fun k_ => (P1_ k_ ∨ w.heap.size ≤ k_) ∧ some k_ ≠ (.slice Ao16 l1.length co16 : Value).ownBlock)) (by (with_reducible repeat (first | apply Kd.R_alloc | apply Kd.R_drewN | apply Kd.R_drew)); exact Kd.R_mono HO130.out (fun _ hk => ⟨⟨hk.1.1.1, hk.1.2⟩, hk.2⟩)) hg hat); replace HB := Aside0.mk (hb); replace HK := Aside0.mk (Kept.of_grown (S := (fun k_ => (P1_ k_) ∨ k_ = g)) hg (by repeat (first | (with_reducible first | exact HK.out | apply Kept.alloc | apply Kept.drewN | apply Kept.drew | refine Kept.setCell ?_ (.inl (.inr rfl)) _) | exact HK.out)) (fun k_ e_ => Or.imp_left Or.inl ((HO127.out.1 k_ e_).1.1.1))); have HO136 := Aside0.mk (ho); clear HO127; clear ho hb hg hat))
   go_ret
   exact ⟨_, er_, by (with_reducible repeat (first | apply Kd.R_alloc | apply Kd.R_drewN | apply Kd.R_drew)); exact Kd.R_mono HO136.out (fun _ hk => hk.1), IsS131.go_, IsS131.hb_, by repeat (first | (with_reducible first | exact HK.out | apply Kept.alloc | apply Kept.drewN | apply Kept.drew | refine Kept.setCell ?_ (.inl (.inr rfl)) _) | exact HK.out)⟩
  ·rw [if_neg c11] at H
   have c11b0 : (t116 == 1) = false := beq_eq_false_iff_ne.mpr c11
   have c11b1 : (t116 != 1) = true := bne_iff_ne.mpr c11
   by_cases c23 : t116 = 2
   ·rw [if_pos c23] at H
    have c23b0 : (t116 == 2) = true := beq_iff_eq.mpr c23
    have c23b1 : (t116 != 2) = false := bne_eq_false_iff_eq.mpr c23
    clear c23
    obtain ⟨t137, A24, H⟩ := bnd_ H
    obtain ⟨y140, Ny140, H⟩ : ∃ y140 : List Int, Aside0 (y140 = (([1000000000000000, (-1000000000000000), 333333333333333] : List Int))) ∧ ((spec_l01Pick.f s0_0 t117 t118 y140).bind fun bt143 => (if t137.length < 17592186044416 then (some ((t137 ++ [bt143.1]), bt143.2.1, bt143.2.2)) else (none))) = some (r1, r2, r3) := ⟨_, ⟨rfl⟩, H⟩
    obtain ⟨⟨t143, t144, t145⟩, A25, H⟩ := bnd_ H
    dsimp only at H
    obtain ⟨c26, H⟩ := itn_ H
    have LMc26 := Aside0.mk c26
    clear c26
    obtain ⟨y146, Ny146, H⟩ : ∃ y146 : List Int, Aside0 (y146 = (t137 ++ [t143])) ∧ (some (y146, t144, t145)) = some (r1, r2, r3) := ⟨_, ⟨rfl⟩, H⟩
    simp only [Option.some.injEq, Prod.mk.injEq] at H
    obtain ⟨rfl, rfl, rfl⟩ := H
    go_enter Try.func161, Try.ntmps161
    go_wp2_with (first | ((with_reducible refine gate_callee (f := 171) rfl ?_); refine goesL_ (some 7) rfl rfl Try.func171 (by kernel_rfl) rfl #[.pointer (some ⟨g, 0, none⟩), .int .i64 30] rfl arg_ ?_; (with_reducible refine (spec_l01Next.calls g s0_0 s0_1 s0_2 30 t116 t117 t118 w0 _ ?side1 ?side2 A3.out).mono ?_); (case side1 => exact IsS131.go_); (case side2 => exact IsS131.hb_); rintro e w27 ⟨rfl, hi, hb, hk⟩; refine ⟨_, rfl, ?_⟩; replace HO1 := Aside0.mk (Kd.R_mono (Kd.R_keep (IsS131.apart (show IsS131 w0 _ g s0_0 s0_1 s0_2 from IsS131.go_) (Kd.R_below HO1.out bgo_) (by decide)) hk (fun _ h => h.2)) (fun _ h => h.1)); replace HK := Aside0.mk (Kept.of_keep (S := (fun k_ => (P1_ k_) ∨ k_ = g)) (by repeat (first | (with_reducible first | exact HK.out | apply Kept.alloc | apply Kept.drewN | apply Kept.drew | refine Kept.setCell ?_ (.inl (.inr rfl)) _) | exact HK.out)) hk (.inl (.inr rfl))); replace HB := Aside0.mk (hb); replace HI0 := Aside0.mk (hi); (try clear hb); (try clear hb2); (try clear hk); (try clear hi); obtain ⟨Ao28, co28, eo28⟩ := Kd.R_slice HO1.out; subst eo28) | ((with_reducible refine gate_callee (f := 113) rfl ?_); refine goesL_ (some 26) rfl rfl Try.func113 (by kernel_rfl) rfl #[.slice Ao28 l1.length co28] rfl arg_ ?_; (with_reducible refine (spec_l01Own.calls _ _ l1 t137 _ ?side1 ?side2 A24.out).mono ?_); (case side1 => exact Kd.C_below (Kd.R_reads' HO1.out).2.2 bgo_); (case side2 => exact (Kd.R_reads' HO1.out).2.1); rintro e w29 ⟨v138, rfl, ho0, hb⟩; refine ⟨_, rfl, ?_⟩; have HO139 := Aside0.mk (Kd.R_lower (Kd.R_new' (Kd.R_newM (M := fun k_ => (P1_ k_ ∨ w.heap.size ≤ k_)) ho0 (by first | exact HK.out.1 | exact (show Kept w _ (fun k_ => (P1_ k_) ∨ k_ = g) from by repeat (first | (with_reducible first | exact HK.out | apply Kept.alloc | apply Kept.drewN | apply Kept.drew | refine Kept.setCell ?_ (.inl (.inr rfl)) _) | exact HK.out)).1) (fun k_ h_ => .inr h_)) (Kd.R_lt (Kd.R_below HO1.out bgo_))) (below_size IsS131.hb_)); replace HO1 := Aside0.mk (Kd.R_elder' (Kd.R_below HO1.out bgo_) (Kd.R_base ho0) hb); replace HK := Aside0.mk (Kept.below (S := (fun k_ => (P1_ k_) ∨ k_ = g)) (by repeat (first | (with_reducible first | exact HK.out | apply Kept.alloc | apply Kept.drewN | apply Kept.drew | refine Kept.setCell ?_ (.inl (.inr rfl)) _) | exact HK.out)) hb); replace HB := Aside0.mk (below_step IsS131.hb_ hb); replace HI0 := Aside0.mk (IsS131.below IsS131.go_ hb); (try clear hb); (try clear hb2); (try clear hk); (try clear hi); (try clear ho0)) | ((with_reducible refine gate_dst (N := 28) rfl ?_); refine Kd.R_lit (Kd.int .i64) _ 2 ?hg (N := 28) ?hd (xs := ([1000000000000000, (-1000000000000000), 333333333333333] : List Int)) (inner := [.int .i64 1000000000000000, .int .i64 (-1000000000000000), .int .i64 333333333333333]) (ok := fun _ => True) (okp := fun _ => True) ?hr ?hp (fun _ hk => hk) trivial (Below.refl _ _) (Nat.le_refl _) (by simp) ?_; (case hd => rfl); (case hg => rfl); (case hr => first | (go_simp; done) | (go_simp; rfl)); (case hp => exact (Reps.one (show Kd.M (Kd.int .i64) _ _ _ 1000000000000000 [.int .i64 1000000000000000] from rfl) (Reps.one (show Kd.M (Kd.int .i64) _ _ _ (-1000000000000000) [.int .i64 (-1000000000000000)] from rfl) (Reps.one (show Kd.M (Kd.int .i64) _ _ _ 333333333333333 [.int .i64 333333333333333] from rfl) (Reps.none _ _))))); intro v141 w30 ho31 hb hg_ hnew_; clear hg_ hnew_; (first | rw [← Ny140.out] at ho31 | (simp only [Int.reduceToNat] at ho31; rw [← Ny140.out] at ho31)); have HO142 := Aside0.mk (Kd.R_lower (Kd.R_new' (Kd.R_new' (Kd.R_newM (M := fun k_ => (P1_ k_ ∨ w.heap.size ≤ k_)) ho31 (by first | exact HK.out.1 | exact (show Kept w _ (fun k_ => (P1_ k_) ∨ k_ = g) from by repeat (first | (with_reducible first | exact HK.out | apply Kept.alloc | apply Kept.drewN | apply Kept.drew | refine Kept.setCell ?_ (.inl (.inr rfl)) _) | exact HK.out)).1) (fun k_ h_ => .inr h_)) (Kd.R_lt (Kd.R_below HO1.out bgo_))) (Kd.R_lt (Kd.R_below HO139.out bgo_))) (below_size IsS131.hb_)); replace HO1 := Aside0.mk (Kd.R_elder' (Kd.R_below HO1.out bgo_) (Kd.R_base ho31) hb); replace HO139 := Aside0.mk (Kd.R_elder' (Kd.R_below HO139.out bgo_) (Kd.R_base ho31) hb); replace HK := Aside0.mk (Kept.below (S := (fun k_ => (P1_ k_) ∨ k_ = g)) (by repeat (first | (with_reducible first | exact HK.out | apply Kept.alloc | apply Kept.drewN | apply Kept.drew | refine Kept.setCell ?_ (.inl (.inr rfl)) _) | exact HK.out)) hb); replace HB := Aside0.mk (below_step IsS131.hb_ hb); replace HI0 := Aside0.mk (IsS131.below IsS131.go_ hb); clear hb ho31; obtain ⟨Ao32, co32, eo32⟩ := Kd.R_slice HO142.out; subst eo32) | ((with_reducible refine gate_callee (f := 144) rfl ?_); refine goesL_ (some 29) rfl rfl Try.func144 (by kernel_rfl) rfl #[.pointer (some ⟨g, 0, none⟩), .slice Ao32 y140.length co32] rfl arg_ ?_; (with_reducible refine (spec_l01Pick.calls g s0_0 t117 t118 _ _ y140 t143 t144 t145 w0 _ ?side1 ?side2 ?side3 ?side4 ?side5 A25.out).mono ?_); (case side1 => exact IsS131.go_); (case side2 => exact IsS131.hb_); (case side3 => exact Kd.C_below (Kd.R_reads' HO142.out).2.2 bgo_); (case side4 => exact (Kd.R_reads' HO142.out).2.1); (case side5 => exact far_slice (IsS131.own_ne HI0.out HO142.out (by decide))); rintro e w33 ⟨rfl, hi, hb, hk⟩; refine ⟨_, rfl, ?_⟩; replace HO1 := Aside0.mk (Kd.R_mono (Kd.R_keep (IsS131.apart (show IsS131 w0 _ g s0_0 t117 t118 from IsS131.go_) (Kd.R_below HO1.out bgo_) (by decide)) hk (fun _ h => h.2)) (fun _ h => h.1)); replace HO139 := Aside0.mk (Kd.R_mono (Kd.R_keep (IsS131.apart (show IsS131 w0 _ g s0_0 t117 t118 from IsS131.go_) (Kd.R_below HO139.out bgo_) (by decide)) hk (fun _ h => h.2)) (fun _ h => h.1)); replace HO142 := Aside0.mk (Kd.R_mono (Kd.R_keep (IsS131.apart (show IsS131 w0 _ g s0_0 t117 t118 from IsS131.go_) (Kd.R_below HO142.out bgo_) (by decide)) hk (fun _ h => h.2)) (fun _ h => h.1)); replace HK := Aside0.mk (Kept.of_keep (S := (fun k_ => (P1_ k_) ∨ k_ = g)) (by repeat (first | (with_reducible first | exact HK.out | apply Kept.alloc | apply Kept.drewN | apply Kept.drew | refine Kept.setCell ?_ (.inl (.inr rfl)) _) | exact HK.out)) hk (.inl (.inr rfl))); replace HB := Aside0.mk (hb); replace HI0 := Aside0.mk (hi); (try clear hb); (try clear hb2); (try clear hk); (try clear hi)) | ((with_reducible refine gate_builtin (b := .append) (xs := #[.tmp 26, .tmp 30]) rfl ?_); at_builtin; refine Kd.R_append (Kd.int .i64) (w0 := w0) w0.heap.size rfl (.tmp 26) (.tmp 30) 29 2 (.int .i64 0) 8 rfl Try.underlying29 info2 rfl (by decide) (by omega) v138 t137 t143 [.int .i64 t143] (fun k_ => (P1_ k_ ∨ w.heap.size ≤ k_) ∧ some k_ ≠ (.slice Ao28 l1.length co28 : Value).ownBlock ∧ some k_ ≠ (.slice Ao32 y140.length co32 : Value).ownBlock) (fun _ => False) rfl rfl ?aP (fun _ hk => hk.elim) ?aF ?aO ?aB ?aS ?aL ?_; (case aP => exact rfl); (case aB => exact IsS131.hb_); (case aF => exact (fun k_ hk => ⟨(.inr (Nat.le_trans (by first | exact HK.out.1 | exact (show Kept w _ (fun k_ => (P1_ k_) ∨ k_ = g) from by repeat (first | (with_reducible first | exact HK.out | apply Kept.alloc | apply Kept.drewN | apply Kept.drew | refine Kept.setCell ?_ (.inl (.inr rfl)) _) | exact HK.out)).1) hk)), Kd.fresh' (Kd.R_lt (Kd.R_below HO1.out bgo_)) k_ hk, Kd.fresh' (Kd.R_lt (Kd.R_below HO142.out bgo_)) k_ hk⟩)); (case aO => exact (by (with_reducible repeat (first | apply Kd.R_alloc | apply Kd.R_drewN | apply Kd.R_drew)); exact Kd.R_mono HO139.out (fun _ hk => ⟨hk.1.1.1, ⟨hk.1.2, hk.2⟩⟩))); (case aS => exact (below_size IsS131.hb_)); (case aL => have := LMc26.out; omega); intro v147 w34 ho hb hg hat; rw [← Ny146.out] at ho; replace HI0 := Aside0.mk (IsS131.grown IsS131.go_ hg (IsS131.own_ne HI0.out HO139.out (by decide))); replace HO1 := Aside0.mk (Kd.R_after (ok := (fun k_ => (P1_ k_ ∨ w.heap.size ≤ k_) ∧ some k_ ≠ (.slice Ao32 y140.length co32 : Value).ownBlock)) (by (with_reducible repeat (first | apply Kd.R_alloc | apply Kd.R_drewN | apply Kd.R_drew)); exact Kd.R_mono HO1.out (fun _ hk => ⟨⟨hk.1.1, hk.2⟩, hk.1.2⟩)) hg hat); replace HO142 := Aside0.mk (Kd.R_after (ok := (fun k_ => (P1_ k_ ∨ w.heap.size ≤ k_) ∧ some k_ ≠ (.slice Ao28 l1.length co28 : Value).ownBlock)) (by (with_reducible repeat (first | apply Kd.R_alloc | apply Kd.R_drewN | apply Kd.R_drew)); exact Kd.R_mono HO142.out (fun _ hk => ⟨⟨hk.1.1.1, hk.1.2⟩, hk.2⟩)) hg hat); replace HB := Aside0.mk (hb); replace HK := Aside0.mk (Kept.of_grown (S := (fun k_ => (P1_ k_) ∨ k_ = g)) hg (by repeat (first | (with_reducible first | exact HK.out | apply Kept.alloc | apply Kept.drewN | apply Kept.drew | refine Kept.setCell ?_ (.inl (.inr rfl)) _) | exact HK.out)) (fun k_ e_ => Or.imp_left Or.inl ((HO139.out.1 k_ e_).1.1.1))); have HO148 := Aside0.mk (ho); clear HO139; clear ho hb hg hat))
    go_ret
    exact ⟨_, er_, by (with_reducible repeat (first | apply Kd.R_alloc | apply Kd.R_drewN | apply Kd.R_drew)); exact Kd.R_mono HO148.out (fun _ hk => hk.1), IsS131.go_, IsS131.hb_, by repeat (first | (with_reducible first | exact HK.out | apply Kept.alloc | apply Kept.drewN | apply Kept.drew | refine Kept.setCell ?_ (.inl (.inr rfl)) _) | exact HK.out)⟩
   ·rw [if_neg c23] at H
    have c23b0 : (t116 == 2) = false := beq_eq_false_iff_ne.mpr c23
    have c23b1 : (t116 != 2) = true := bne_iff_ne.mpr c23
    by_cases c35 : t116 = 3
    ·rw [if_pos c35] at H
     have c35b0 : (t116 == 3) = true := beq_iff_eq.mpr c35
     have c35b1 : (t116 != 3) = false := bne_eq_false_iff_eq.mpr c35
     clear c35
     obtain ⟨t149, A36, H⟩ := bnd_ H
     have H' := Aside0.mk H
     clear H
     go_enter Try.func161, Try.ntmps161
     go_wp2_with (first | ((with_reducible refine gate_callee (f := 171) rfl ?_); refine goesL_ (some 7) rfl rfl Try.func171 (by kernel_rfl) rfl #[.pointer (some ⟨g, 0, none⟩), .int .i64 30] rfl arg_ ?_; (with_reducible refine (spec_l01Next.calls g s0_0 s0_1 s0_2 30 t116 t117 t118 w0 _ ?side1 ?side2 A3.out).mono ?_); (case side1 => exact IsS131.go_); (case side2 => exact IsS131.hb_); rintro e w37 ⟨rfl, hi, hb, hk⟩; refine ⟨_, rfl, ?_⟩; replace HO1 := Aside0.mk (Kd.R_mono (Kd.R_keep (IsS131.apart (show IsS131 w0 _ g s0_0 s0_1 s0_2 from IsS131.go_) (Kd.R_below HO1.out bgo_) (by decide)) hk (fun _ h => h.2)) (fun _ h => h.1)); replace HK := Aside0.mk (Kept.of_keep (S := (fun k_ => (P1_ k_) ∨ k_ = g)) (by repeat (first | (with_reducible first | exact HK.out | apply Kept.alloc | apply Kept.drewN | apply Kept.drew | refine Kept.setCell ?_ (.inl (.inr rfl)) _) | exact HK.out)) hk (.inl (.inr rfl))); replace HB := Aside0.mk (hb); replace HI0 := Aside0.mk (hi); (try clear hb); (try clear hb2); (try clear hk); (try clear hi); obtain ⟨Ao38, co38, eo38⟩ := Kd.R_slice HO1.out; subst eo38) | ((with_reducible refine gate_callee (f := 113) rfl ?_); refine goesL_ (some 35) rfl rfl Try.func113 (by kernel_rfl) rfl #[.slice Ao38 l1.length co38] rfl arg_ ?_; (with_reducible refine (spec_l01Own.calls _ _ l1 t149 _ ?side1 ?side2 A36.out).mono ?_); (case side1 => exact Kd.C_below (Kd.R_reads' HO1.out).2.2 bgo_); (case side2 => exact (Kd.R_reads' HO1.out).2.1); rintro e w39 ⟨v150, rfl, ho0, hb⟩; refine ⟨_, rfl, ?_⟩; have HO151 := Aside0.mk (Kd.R_lower (Kd.R_new' (Kd.R_newM (M := fun k_ => (P1_ k_ ∨ w.heap.size ≤ k_)) ho0 (by first | exact HK.out.1 | exact (show Kept w _ (fun k_ => (P1_ k_) ∨ k_ = g) from by repeat (first | (with_reducible first | exact HK.out | apply Kept.alloc | apply Kept.drewN | apply Kept.drew | refine Kept.setCell ?_ (.inl (.inr rfl)) _) | exact HK.out)).1) (fun k_ h_ => .inr h_)) (Kd.R_lt (Kd.R_below HO1.out bgo_))) (below_size IsS131.hb_)); replace HO1 := Aside0.mk (Kd.R_elder' (Kd.R_below HO1.out bgo_) (Kd.R_base ho0) hb); replace HK := Aside0.mk (Kept.below (S := (fun k_ => (P1_ k_) ∨ k_ = g)) (by repeat (first | (with_reducible first | exact HK.out | apply Kept.alloc | apply Kept.drewN | apply Kept.drew | refine Kept.setCell ?_ (.inl (.inr rfl)) _) | exact HK.out)) hb); replace HB := Aside0.mk (below_step IsS131.hb_ hb); replace HI0 := Aside0.mk (IsS131.below IsS131.go_ hb); (try clear hb); (try clear hb2); (try clear hk); (try clear hi); (try clear ho0)))
     go_loopg [5] k (fun kq v5 w' => ∃ (x5_1 : List Int), Aside0 (spec_l01Rough.l0 kq x5_1 s0_0 t117 t118 = some (r1, r2, r3)) ∧ Aside0 (kq ≤ k) ∧ Aside0 (Kd.R (Kd.int .i64) 2 w' w0.heap.size (fun k_ => (P1_ k_ ∨ w.heap.size ≤ k_)) v5 x5_1) ∧ Aside0 (IsS131 w0 w' g s0_0 t117 t118) ∧ Aside0 (Kept w w' (fun k_ => (P1_ k_) ∨ k_ = g)) ∧ Aside0 (Below w0.heap.size w0 w'))
     case atStart => exact ⟨(t149), H', ⟨Nat.le_refl _⟩, ⟨by (with_reducible repeat (first | apply Kd.R_alloc | apply Kd.R_drewN | apply Kd.R_drew)); exact Kd.R_mono HO151.out (fun _ hk => hk.1.1)⟩, ⟨IsS131.go_⟩, ⟨by repeat (first | (with_reducible first | exact HK.out | apply Kept.alloc | apply Kept.drewN | apply Kept.drew | refine Kept.setCell ?_ (.inl (.inr rfl)) _) | exact HK.out)⟩, ⟨IsS131.hb_⟩⟩
     case round =>
      clear H'
      obtain ⟨x5_1, HA, HK1, HO_5, HI0, HK, HB⟩ := hrel
      cases gk with
      | zero => exact absurd HA.out (by simp [spec_l01Rough.l0])
      | succ k1 =>
       have H := HA.out
       clear HA
       simp only [spec_l01Rough.l0] at H
       by_cases c40 : (x5_1.length : Int) ≤ 40
       ·rw [if_pos c40] at H
        have c40b0 := decide_eq_true c40
        have c40b1 : decide (x5_1.length ≤ 40) = true := decide_eq_true (by omega)
        clear c40
        obtain ⟨c41, H⟩ := itn_ H
        have LMc41 := Aside0.mk c41
        clear c41
        obtain ⟨y152, Ny152, H⟩ : ∃ y152 : List Int, Aside0 (y152 = (x5_1 ++ [1])) ∧ (spec_l01Rough.l0 k1 y152 s0_0 t117 t118) = some (r1, r2, r3) := ⟨_, ⟨rfl⟩, H⟩
        have H' := Aside0.mk H
        clear H
        obtain ⟨Ao42, co42, eo42⟩ := Kd.R_slice HO_5.out
        subst eo42
        go_wp2_with (first | ((with_reducible refine gate_builtin (b := .append) (xs := #[.tmp 39, .tmp 40]) rfl ?_); at_builtin; refine Kd.R_append (Kd.int .i64) (w0 := w0) w0.heap.size rfl (.tmp 39) (.tmp 40) 29 2 (.int .i64 0) 8 rfl Try.underlying29 info2 rfl (by decide) (by omega) (.slice Ao42 x5_1.length co42) x5_1 1 [.int .i64 1] (fun k_ => (P1_ k_ ∨ w.heap.size ≤ k_)) (fun _ => False) rfl rfl ?aP (fun _ hk => hk.elim) ?aF ?aO ?aB ?aS ?aL ?_; (case aP => exact rfl); (case aB => exact IsS131.hb_); (case aF => exact (fun k_ hk => (.inr (Nat.le_trans (by first | exact HK.out.1 | exact (show Kept w _ (fun k_ => (P1_ k_) ∨ k_ = g) from by repeat (first | (with_reducible first | exact HK.out | apply Kept.alloc | apply Kept.drewN | apply Kept.drew | refine Kept.setCell ?_ (.inl (.inr rfl)) _) | exact HK.out)).1) hk)))); (case aO => exact (Kd.R_below HO_5.out bgo_)); (case aS => exact (below_size IsS131.hb_)); (case aL => have := LMc41.out; omega); intro v153 w43 ho hb hg hat; rw [← Ny152.out] at ho; replace HI0 := Aside0.mk (IsS131.grown IsS131.go_ hg (IsS131.own_ne HI0.out HO_5.out (by decide))); replace HB := Aside0.mk (hb); replace HK := Aside0.mk (Kept.of_grown (S := (fun k_ => (P1_ k_) ∨ k_ = g)) hg (by repeat (first | (with_reducible first | exact HK.out | apply Kept.alloc | apply Kept.drewN | apply Kept.drew | refine Kept.setCell ?_ (.inl (.inr rfl)) _) | exact HK.out)) (fun k_ e_ => Or.imp_left Or.inl ((HO_5.out.1 k_ e_)))); have HO154 := Aside0.mk (ho); clear HO_5; clear ho hb hg hat))
        first | go_roundg k1 | (refine Handed.intro k1 ?measure ?_; rotate_left; go_step; (try simp only [add_plain]); (repeat apply Exists.intro); refine ⟨?rel, rfl⟩)
        case measure => have := HK1.out; omega
        case rel => exact ⟨(y152), H', ⟨by have := HK1.out; omega⟩, ⟨Kd.R_below HO154.out bgo_⟩, ⟨IsS131.go_⟩, ⟨by repeat (first | (with_reducible first | exact HK.out | apply Kept.alloc | apply Kept.drewN | apply Kept.drew | refine Kept.setCell ?_ (.inl (.inr rfl)) _) | exact HK.out)⟩, ⟨IsS131.hb_⟩⟩
       ·rw [if_neg c40] at H
        have c40b0 := decide_eq_false c40
        have c40b1 : decide (x5_1.length ≤ 40) = false := decide_eq_false (by omega)
        clear c40
        simp only [Option.some.injEq, Prod.mk.injEq] at H
        obtain ⟨rfl, rfl, rfl⟩ := H
        obtain ⟨Ao44, co44, eo44⟩ := Kd.R_slice HO_5.out
        subst eo44
        go_wp2
        go_ret
        exact ⟨_, er_, (Kd.R_below HO_5.out bgo_), IsS131.go_, IsS131.hb_, by repeat (first | (with_reducible first | exact HK.out | apply Kept.alloc | apply Kept.drewN | apply Kept.drew | refine Kept.setCell ?_ (.inl (.inr rfl)) _) | exact HK.out)⟩
    ·rw [if_neg c35] at H
     have c35b0 : (t116 == 3) = false := beq_eq_false_iff_ne.mpr c35
     have c35b1 : (t116 != 3) = true := bne_iff_ne.mpr c35
     simp only [Option.some.injEq, Prod.mk.injEq] at H
     obtain ⟨rfl, rfl, rfl⟩ := H
     go_enter Try.func161, Try.ntmps161
     go_wp2_with (first | ((with_reducible refine gate_callee (f := 171) rfl ?_); refine goesL_ (some 7) rfl rfl Try.func171 (by kernel_rfl) rfl #[.pointer (some ⟨g, 0, none⟩), .int .i64 30] rfl arg_ ?_; (with_reducible refine (spec_l01Next.calls g s0_0 s0_1 s0_2 30 t116 t117 t118 w0 _ ?side1 ?side2 A3.out).mono ?_); (case side1 => exact IsS131.go_); (case side2 => exact IsS131.hb_); rintro e w45 ⟨rfl, hi, hb, hk⟩; refine ⟨_, rfl, ?_⟩; replace HO1 := Aside0.mk (Kd.R_mono (Kd.R_keep (IsS131.apart (show IsS131 w0 _ g s0_0 s0_1 s0_2 from IsS131.go_) (Kd.R_below HO1.out bgo_) (by decide)) hk (fun _ h => h.2)) (fun _ h => h.1)); replace HK := Aside0.mk (Kept.of_keep (S := (fun k_ => (P1_ k_) ∨ k_ = g)) (by repeat (first | (with_reducible first | exact HK.out | apply Kept.alloc | apply Kept.drewN | apply Kept.drew | refine Kept.setCell ?_ (.inl (.inr rfl)) _) | exact HK.out)) hk (.inl (.inr rfl))); replace HB := Aside0.mk (hb); replace HI0 := Aside0.mk (hi); (try clear hb); (try clear hb2); (try clear hk); (try clear hi)))
     go_ret
     exact ⟨_, er_, (Kd.R_below HO1.out bgo_), IsS131.go_, IsS131.hb_, by repeat (first | (with_reducible first | exact HK.out | apply Kept.alloc | apply Kept.drewN | apply Kept.drew | refine Kept.setCell ?_ (.inl (.inr rfl)) _) | exact HK.out)⟩

/-! ### spec_l01Trim: function 175 -/
def spec_l01Trim.l0 : Nat → List Int → Int → Option (List Int)
 | 0, _, _ => none
 | k + 1, x0, x3 => if x3 > 0 then (if 0 ≤ (wrap64 (x3 - 1)) then (if (wrap64 (x3 - 1)) < (x0.length : Int) then (if (rd x0 (wrap64 (x3 - 1))) = 0 then (spec_l01Trim.l0 k x0 (wrap64 (x3 - 1))) else (if 0 ≤ x3 then (if x3 ≤ (x0.length : Int) then ((spec_l01Own.f (x0.take (x3 : Int).toNat)).bind fun t157 => (some t157)) else (none)) else (none))) else (none)) else (none)) else (if 0 ≤ x3 then (if x3 ≤ (x0.length : Int) then ((spec_l01Own.f (x0.take (x3 : Int).toNat)).bind fun t161 => (some t161)) else (none)) else (none))
def spec_l01Trim.f (k : Nat) (l0 : List Int) : Option (List Int) := spec_l01Trim.l0 k l0 (l0.length : Int)
set_option maxHeartbeats 8000000 in
set_option maxRecDepth 100000 in
theorem spec_l01Trim.calls (k : Nat) (A0 : Option Addr) (c0 : Nat) (l0 : List Int) (r : List Int) (w : World) (hr0 : Kd.C (Kd.int .i64) w A0 l0.length l0) (hc0 : l0.length ≤ c0) (h : spec_l01Trim.f k l0 = some r) :
  Calls Try.prog 175 #[.slice A0 l0.length c0] w fun e w' => ∃ v0_ : Value, e = .returned (v0_) ∧ Kd.R (Kd.int .i64) 2 w' w.heap.size (fun _ => True) v0_ r ∧ Below w.heap.size w w' := by
 have HR0 := Aside0.mk hr0
 have HC0 := Aside0.mk hc0
 clear hr0 hc0
 have HB := Aside0.mk (Below.refl w.heap.size w)
 have H : (spec_l01Trim.l0 k l0 (l0.length : Int)) = some r := h
 clear h
 have H' := Aside0.mk H
 clear H
 go_enter Try.func175, Try.ntmps175
 go_wp2
 go_loopg [3] k (fun kq v3 w' => ∃ (x3_1 : Int), v3 = .int .i64 x3_1 ∧ Aside0 (spec_l01Trim.l0 kq l0 x3_1 = some r) ∧ Aside0 (kq ≤ k) ∧ Aside0 (Below w.heap.size w w'))
 case atStart => exact ⟨((l0.length : Int)), es_, H', ⟨Nat.le_refl _⟩, ⟨hb_⟩⟩
 case round =>
  clear H'
  obtain ⟨x3_1, rfl, HA, HK1, HB⟩ := hrel
  cases gk with
  | zero => exact absurd HA.out (by simp [spec_l01Trim.l0])
  | succ k1 =>
   have H := HA.out
   clear HA
   simp only [spec_l01Trim.l0] at H
   by_cases c2 : x3_1 > 0
   ·rw [if_pos c2] at H
    have c2b0 := decide_eq_true c2
    clear c2
    obtain ⟨ji3, hji3⟩ : ∃ j_ : Int, (wrap64 (x3_1 - 1)) = j_ := ⟨_, rfl⟩
    (try rw [hji3])
    replace H : (if 0 ≤ (ji3) then (if (ji3) < (l0.length : Int) then (if (rd l0 (ji3)) = 0 then (spec_l01Trim.l0 k1 l0 ji3) else (if 0 ≤ x3_1 then (if x3_1 ≤ (l0.length : Int) then ((spec_l01Own.f (l0.take (x3_1 : Int).toNat)).bind fun t157 => (some t157)) else (none)) else (none))) else (none)) else (none)) = some r := by first | (rw [hji3] at H; exact H) | (simp only [hji3] at H ⊢; exact H)
    have hji3w : (IntKind.i64.wrap (x3_1 - 1)) = ji3 := (i64_w _).trans hji3
    obtain ⟨c4, H⟩ := itn_ H
    have c4b0 := decide_eq_true c4
    clear c4
    obtain ⟨c5, H⟩ := itn_ H
    have c5b0 := decide_eq_true c5
    clear c5
    by_cases c6 : (rd l0 (ji3)) = 0
    ·rw [if_pos c6] at H
     have c6b0 : ((rd l0 (ji3)) == 0) = true := beq_iff_eq.mpr c6
     have c6b1 : ((rd l0 (ji3)) != 0) = false := bne_eq_false_iff_eq.mpr c6
     clear c6
     have H' := Aside0.mk H
     clear H
     have p155 : 0 ≤ ((ji3) : Int) := od_
     have q155 : (ji3) < (l0.length : Int) := od_
     obtain ⟨ad155, e155, hx155_0⟩ := Kd.at_int HR0.out (ji3) p155 q155
     cases e155
     (try replace hx155_0 := (HB.out.cell (World.block_lt_of_cell? w _ hx155_0)).trans hx155_0)
     replace p155 := eq_true p155
     replace q155 := eq_true q155
     go_wp2
     first | (go_roundg k1) | ((try subst hji3); (go_roundg k1))
     case measure => have := HK1.out; omega
     case rel => exact ⟨(ji3), (by first | rfl | (simp; done) | (simp only [← hji3] <;> (first | rfl | simp)) | (simp [*]; done)), H', ⟨by have := HK1.out; omega⟩, ⟨hb_⟩⟩
    ·rw [if_neg c6] at H
     have c6b0 : ((rd l0 (ji3)) == 0) = false := beq_eq_false_iff_ne.mpr c6
     have c6b1 : ((rd l0 (ji3)) != 0) = true := bne_iff_ne.mpr c6
     obtain ⟨c7, H⟩ := itn_ H
     have c7b0 := eq_true c7
     have c7b1 := decide_eq_true c7
     clear c7
     obtain ⟨c8, H⟩ := itn_ H
     have c8b0 := eq_true c8
     have c8b1 := decide_eq_true c8
     clear c8
     obtain ⟨t157, A9, H⟩ := bnd_ H
     obtain rfl := Option.some.inj H
     have p155 : 0 ≤ ((ji3) : Int) := od_
     have q155 : (ji3) < (l0.length : Int) := od_
     obtain ⟨ad155, e155, hx155_0⟩ := Kd.at_int HR0.out (ji3) p155 q155
     cases e155
     (try replace hx155_0 := (HB.out.cell (World.block_lt_of_cell? w _ hx155_0)).trans hx155_0)
     replace p155 := eq_true p155
     replace q155 := eq_true q155
     obtain ⟨i010, hi010, _, hsz10, _⟩ := info_parts info2
     obtain ⟨hcut10, hA10, hC10⟩ := print_take_of (P := Try.prog) (Value.int .i64) 0 29 2 .i64 Try.underlying29 hi010 hsz10 (some ad155) c0 l0 x3_1 (od_) (od_) HC0.out
     have HR156 := Aside0.mk (Kd.C_of_reads (h1 := fun _ => rfl) (hA10 _ (Kd.reads_of_C HR0.out)))
     have HC156 := Aside0.mk hC10
     clear hA10 hC10 hi010 hsz10
     go_wp2_with (first | ((with_reducible refine gate_callee (f := 113) rfl ?_); refine goesL_ (some 21) rfl rfl Try.func113 (by kernel_rfl) rfl #[.slice (some ad155) (l0.take (x3_1 : Int).toNat).length c0] rfl (by (try simp only [List.map_toArray, List.map_cons, List.map_nil]); first | done | (rw [show (l0.take (x3_1 : Int).toNat).length = x3_1.toNat from (by rw [List.length_take]; have h_ : (x3_1 : Int) ≤ (l0.length : Int) := od_; omega)] <;> rfl) | rfl | (simp only [List.length_drop, List.length_take]; rfl)) ?_; (with_reducible refine (spec_l01Own.calls _ _ (l0.take (x3_1 : Int).toNat) t157 _ ?side1 ?side2 A9.out).mono ?_); (case side1 => exact Kd.C_below (Kd.C_below HR156.out HB.out) bgo_); (case side2 => exact HC156.out); rintro e w11 ⟨v158, rfl, ho0, hb⟩; refine ⟨_, rfl, ?_⟩; have HO159 := Aside0.mk (Kd.R_lower ho0 (below_size hb_)); replace HB := Aside0.mk (below_step hb_ hb); (try clear hb); (try clear hb2); (try clear hk); (try clear hi); (try clear ho0)))
     go_ret
     exact ⟨_, by first | rfl | (simp [errW_none, errW_some] <;> rfl) | (simp only [← hji3]; first | rfl | (simp [errW_none, errW_some] <;> rfl)) | (simp [*, errW_none, errW_some] <;> rfl), (Kd.R_below HO159.out bgo_), hb_⟩
   ·rw [if_neg c2] at H
    have c2b0 := decide_eq_false c2
    clear c2
    by_cases c12 : 0 ≤ x3_1
    ·rw [if_pos c12] at H
     have c12b0 := eq_true c12
     have c12b1 := decide_eq_true c12
     clear c12
     obtain ⟨c13, H⟩ := itn_ H
     have c13b0 := eq_true c13
     have c13b1 := decide_eq_true c13
     clear c13
     obtain ⟨t161, A14, H⟩ := bnd_ H
     obtain rfl := Option.some.inj H
     obtain ⟨i015, hi015, _, hsz15, _⟩ := info_parts info2
     obtain ⟨hcut15, hA15, hC15⟩ := print_take_of (P := Try.prog) (Value.int .i64) 0 29 2 .i64 Try.underlying29 hi015 hsz15 A0 c0 l0 x3_1 (od_) (od_) HC0.out
     have HR160 := Aside0.mk (Kd.C_of_reads (h1 := fun _ => rfl) (hA15 _ (Kd.reads_of_C HR0.out)))
     have HC160 := Aside0.mk hC15
     clear hA15 hC15 hi015 hsz15
     go_wp2_with (first | ((with_reducible refine gate_callee (f := 113) rfl ?_); refine goesL_ (some 21) rfl rfl Try.func113 (by kernel_rfl) rfl #[.slice A0 (l0.take (x3_1 : Int).toNat).length c0] rfl (by (try simp only [List.map_toArray, List.map_cons, List.map_nil]); first | done | (rw [show (l0.take (x3_1 : Int).toNat).length = x3_1.toNat from (by rw [List.length_take]; have h_ : (x3_1 : Int) ≤ (l0.length : Int) := od_; omega)] <;> rfl) | rfl | (simp only [List.length_drop, List.length_take]; rfl)) ?_; (with_reducible refine (spec_l01Own.calls _ _ (l0.take (x3_1 : Int).toNat) t161 _ ?side1 ?side2 A14.out).mono ?_); (case side1 => exact Kd.C_below (Kd.C_below HR160.out HB.out) bgo_); (case side2 => exact HC160.out); rintro e w16 ⟨v162, rfl, ho0, hb⟩; refine ⟨_, rfl, ?_⟩; have HO163 := Aside0.mk (Kd.R_lower ho0 (below_size hb_)); replace HB := Aside0.mk (below_step hb_ hb); (try clear hb); (try clear hb2); (try clear hk); (try clear hi); (try clear ho0)))
     go_ret
     exact ⟨_, er_, (Kd.R_below HO163.out bgo_), hb_⟩
    ·rw [if_neg c12] at H
     exact absurd H (by simp)

/-! ### spec_l01DrawPoly: function 162 -/
def spec_l01DrawPoly.l0 : Nat → List Int → Int → Int → List Int → Int → Int → Option (List Int × Int × Int)
 | 0, _, _, _, _, _, _ => none
 | k + 1, x5, x6, x7, x1000, x1001, x1002 => if x7 > 0 then ((spec_l01Next.f x1000 x1001 x1002 (wrap64 ((wrap64 (2 * x6)) + 1))).bind fun bt176 => ((spec_l01Pick.f x1000 bt176.2.1 bt176.2.2 (([0, 1, 1] : List Int))).bind fun bt182 => (if x5.length < 17592186044416 then (spec_l01DrawPoly.l0 k (x5 ++ [wrap64 ((wrap64 (bt176.1 - x6)) * bt182.1)]) x6 (wrap64 (x7 - 1)) x1000 bt182.2.1 bt182.2.2) else (none)))) else ((spec_l01Trim.f k x5).bind fun t188 => (some (t188, x1001, x1002)))
def spec_l01DrawPoly.f (k : Nat) (s0_0 : List Int) (s0_1 : Int) (s0_2 : Int) (a1 : Int) : Option (List Int × Int × Int) := (spec_l01Pick.f s0_0 s0_1 s0_2 (([1, 3, 9, 100, 1000000] : List Int))).bind fun bt170 => ((spec_l01Next.f s0_0 bt170.2.1 bt170.2.2 (wrap64 (a1 + 1))).bind fun bt173 => (spec_l01DrawPoly.l0 k (([] : List Int)) bt170.1 bt173.1 s0_0 bt173.2.1 bt173.2.2))
set_option maxHeartbeats 8000000 in
set_option maxRecDepth 100000 in
theorem spec_l01DrawPoly.calls (k : Nat) (g : Nat) (s0_0 : List Int) (s0_1 : Int) (s0_2 : Int) (a1 : Int) (r1 : List Int) (r2 : Int) (r3 : Int) (w0 w : World) (hI : IsS131 w0 w g s0_0 s0_1 s0_2) (hB : Below w0.heap.size w0 w) (h : spec_l01DrawPoly.f k s0_0 s0_1 s0_2 a1 = some (r1, r2, r3)) :
  Calls Try.prog 162 #[.pointer (some ⟨g, 0, none⟩), .int .i64 a1] w fun e w' => ∃ v0_ : Value, e = .returned (v0_) ∧ Kd.R (Kd.int .i64) 2 w' w.heap.size (fun _ => True) v0_ r1 ∧ IsS131 w0 w' g s0_0 r2 r3 ∧ Below w0.heap.size w0 w' ∧ KeepBut w w' g none := by
 have HI0 := Aside0.mk hI
 have HK := Aside0.mk (KeepBut.refl w g none)
 have HL := Aside0.mk hB.size
 clear hI
 have HW0 := Aside0.mk hB.size
 have HB := Aside0.mk hB
 clear hB
 have H : ((spec_l01Pick.f s0_0 s0_1 s0_2 (([1, 3, 9, 100, 1000000] : List Int))).bind fun bt170 => ((spec_l01Next.f s0_0 bt170.2.1 bt170.2.2 (wrap64 (a1 + 1))).bind fun bt173 => (spec_l01DrawPoly.l0 k (([] : List Int)) bt170.1 bt173.1 s0_0 bt173.2.1 bt173.2.2))) = some (r1, r2, r3) := h
 clear h
 obtain ⟨y164, Ny164, H⟩ : ∃ y164 : List Int, Aside0 (y164 = (([] : List Int))) ∧ ((spec_l01Pick.f s0_0 s0_1 s0_2 (([1, 3, 9, 100, 1000000] : List Int))).bind fun bt170 => ((spec_l01Next.f s0_0 bt170.2.1 bt170.2.2 (wrap64 (a1 + 1))).bind fun bt173 => (spec_l01DrawPoly.l0 k y164 bt170.1 bt173.1 s0_0 bt173.2.1 bt173.2.2))) = some (r1, r2, r3) := ⟨_, ⟨rfl⟩, H⟩
 obtain ⟨y167, Ny167, H⟩ : ∃ y167 : List Int, Aside0 (y167 = (([1, 3, 9, 100, 1000000] : List Int))) ∧ ((spec_l01Pick.f s0_0 s0_1 s0_2 y167).bind fun bt170 => ((spec_l01Next.f s0_0 bt170.2.1 bt170.2.2 (wrap64 (a1 + 1))).bind fun bt173 => (spec_l01DrawPoly.l0 k y164 bt170.1 bt173.1 s0_0 bt173.2.1 bt173.2.2))) = some (r1, r2, r3) := ⟨_, ⟨rfl⟩, H⟩
 obtain ⟨⟨t170, t171, t172⟩, A3, H⟩ := bnd_ H
 dsimp only at H
 obtain ⟨⟨t173, t174, t175⟩, A4, H⟩ := bnd_ H
 dsimp only at H
 have H' := Aside0.mk H
 clear H
 go_enter Try.func162, Try.ntmps162
 go_wp2_with (first | ((with_reducible refine gate_dst (N := 8) rfl ?_); refine Kd.R_lit (Kd.int .i64) _ 2 ?hg (N := 8) ?hd (xs := ([] : List Int)) (inner := []) (ok := fun _ => True) (okp := fun _ => True) ?hr ?hp (fun _ hk => hk) trivial (Below.refl _ _) (Nat.le_refl _) (by simp) ?_; (case hd => rfl); (case hg => rfl); (case hr => first | (go_simp; done) | (go_simp; rfl)); (case hp => exact (Reps.none _ _)); intro v165 w5 ho6 hb hg_ hnew_; clear hg_ hnew_; (first | rw [← Ny164.out] at ho6 | (simp only [Int.reduceToNat] at ho6; rw [← Ny164.out] at ho6)); have HO166 := Aside0.mk (Kd.R_lower ho6 (keep_size (w := w) (g := g) (row := none) (by repeat (first | (with_reducible first | exact HK.out | apply KeepBut.set_ | apply keep_drewN | apply keep_drew | apply keep_alloc) | exact HK.out)))); replace HK := Aside0.mk (KeepBut.trans (by repeat (first | (with_reducible first | exact HK.out | apply KeepBut.set_ | apply keep_drewN | apply keep_drew | apply keep_alloc) | exact HK.out)) (KeepBut.of_below hb g none) (.inl rfl)); replace HB := Aside0.mk (below_step IsS131.hb_ hb); replace HI0 := Aside0.mk (IsS131.below IsS131.go_ hb); clear hb ho6) | ((with_reducible refine gate_dst (N := 10) rfl ?_); refine Kd.R_lit (Kd.int .i64) _ 2 ?hg (N := 10) ?hd (xs := ([1, 3, 9, 100, 1000000] : List Int)) (inner := [.int .i64 1, .int .i64 3, .int .i64 9, .int .i64 100, .int .i64 1000000]) (ok := fun _ => True) (okp := fun _ => True) ?hr ?hp (fun _ hk => hk) trivial (Below.refl _ _) (Nat.le_refl _) (by simp) ?_; (case hd => rfl); (case hg => rfl); (case hr => first | (go_simp; done) | (go_simp; rfl)); (case hp => exact (Reps.one (show Kd.M (Kd.int .i64) _ _ _ 1 [.int .i64 1] from rfl) (Reps.one (show Kd.M (Kd.int .i64) _ _ _ 3 [.int .i64 3] from rfl) (Reps.one (show Kd.M (Kd.int .i64) _ _ _ 9 [.int .i64 9] from rfl) (Reps.one (show Kd.M (Kd.int .i64) _ _ _ 100 [.int .i64 100] from rfl) (Reps.one (show Kd.M (Kd.int .i64) _ _ _ 1000000 [.int .i64 1000000] from rfl) (Reps.none _ _))))))); intro v168 w7 ho8 hb hg_ hnew_; clear hg_ hnew_; (first | rw [← Ny167.out] at ho8 | (simp only [Int.reduceToNat] at ho8; rw [← Ny167.out] at ho8)); have HO169 := Aside0.mk (Kd.R_lower (Kd.R_new' ho8 (Kd.R_lt (Kd.R_below HO166.out bgo_))) (keep_size (w := w) (g := g) (row := none) (by repeat (first | (with_reducible first | exact HK.out | apply KeepBut.set_ | apply keep_drewN | apply keep_drew | apply keep_alloc) | exact HK.out)))); replace HO166 := Aside0.mk (Kd.R_elder' (Kd.R_below HO166.out bgo_) (Kd.R_base ho8) hb); replace HK := Aside0.mk (KeepBut.trans (by repeat (first | (with_reducible first | exact HK.out | apply KeepBut.set_ | apply keep_drewN | apply keep_drew | apply keep_alloc) | exact HK.out)) (KeepBut.of_below hb g none) (.inl rfl)); replace HB := Aside0.mk (below_step IsS131.hb_ hb); replace HI0 := Aside0.mk (IsS131.below IsS131.go_ hb); clear hb ho8; obtain ⟨Ao9, co9, eo9⟩ := Kd.R_slice HO169.out; subst eo9) | ((with_reducible refine gate_callee (f := 144) rfl ?_); refine goesL_ (some 11) rfl rfl Try.func144 (by kernel_rfl) rfl #[.pointer (some ⟨g, 0, none⟩), .slice Ao9 y167.length co9] rfl arg_ ?_; (with_reducible refine (spec_l01Pick.calls g s0_0 s0_1 s0_2 _ _ y167 t170 t171 t172 w0 _ ?side1 ?side2 ?side3 ?side4 ?side5 A3.out).mono ?_); (case side1 => exact IsS131.go_); (case side2 => exact IsS131.hb_); (case side3 => exact Kd.C_below (Kd.R_reads' HO169.out).2.2 bgo_); (case side4 => exact (Kd.R_reads' HO169.out).2.1); (case side5 => exact far_slice (IsS131.own_ne HI0.out HO169.out (by decide))); rintro e w10 ⟨rfl, hi, hb, hk⟩; refine ⟨_, rfl, ?_⟩; replace HO166 := Aside0.mk (Kd.R_mono (Kd.R_keep (IsS131.apart (show IsS131 w0 _ g s0_0 s0_1 s0_2 from IsS131.go_) (Kd.R_below HO166.out bgo_) (by decide)) hk (fun _ h => h.2)) (fun _ h => h.1)); replace HO169 := Aside0.mk (Kd.R_mono (Kd.R_keep (IsS131.apart (show IsS131 w0 _ g s0_0 s0_1 s0_2 from IsS131.go_) (Kd.R_below HO169.out bgo_) (by decide)) hk (fun _ h => h.2)) (fun _ h => h.1)); replace HK := Aside0.mk (KeepBut.trans (by repeat (first | (with_reducible first | exact HK.out | apply KeepBut.set_ | apply keep_drewN | apply keep_drew | apply keep_alloc) | exact HK.out)) hk (.inl rfl)); replace HB := Aside0.mk (hb); replace HI0 := Aside0.mk (hi); (try clear hb); (try clear hb2); (try clear hk); (try clear hi)) | ((with_reducible refine gate_callee (f := 171) rfl ?_); refine goesL_ (some 15) rfl rfl Try.func171 (by kernel_rfl) rfl #[.pointer (some ⟨g, 0, none⟩), .int .i64 (wrap64 (a1 + 1))] rfl arg_ ?_; (with_reducible refine (spec_l01Next.calls g s0_0 t171 t172 (wrap64 (a1 + 1)) t173 t174 t175 w0 _ ?side1 ?side2 A4.out).mono ?_); (case side1 => exact IsS131.go_); (case side2 => exact IsS131.hb_); rintro e w11 ⟨rfl, hi, hb, hk⟩; refine ⟨_, rfl, ?_⟩; replace HO166 := Aside0.mk (Kd.R_mono (Kd.R_keep (IsS131.apart (show IsS131 w0 _ g s0_0 t171 t172 from IsS131.go_) (Kd.R_below HO166.out bgo_) (by decide)) hk (fun _ h => h.2)) (fun _ h => h.1)); replace HO169 := Aside0.mk (Kd.R_mono (Kd.R_keep (IsS131.apart (show IsS131 w0 _ g s0_0 t171 t172 from IsS131.go_) (Kd.R_below HO169.out bgo_) (by decide)) hk (fun _ h => h.2)) (fun _ h => h.1)); replace HK := Aside0.mk (KeepBut.trans (by repeat (first | (with_reducible first | exact HK.out | apply KeepBut.set_ | apply keep_drewN | apply keep_drew | apply keep_alloc) | exact HK.out)) hk (.inl rfl)); replace HB := Aside0.mk (hb); replace HI0 := Aside0.mk (hi); (try clear hb); (try clear hb2); (try clear hk); (try clear hi)))
 go_loopg [5, 7] k (fun kq v5 v7 w' => ∃ (x5_1 : List Int) (x7_1 : Int) (x1001_1 : Int) (x1002_1 : Int), v7 = .int .i64 x7_1 ∧ Aside0 (spec_l01DrawPoly.l0 kq x5_1 t170 x7_1 s0_0 x1001_1 x1002_1 = some (r1, r2, r3)) ∧ Aside0 (kq ≤ k) ∧ Aside0 (Kd.R (Kd.int .i64) 2 w' w.heap.size (fun _ => True) v5 x5_1) ∧ Aside0 (IsS131 w0 w' g s0_0 x1001_1 x1002_1) ∧ Aside0 (KeepBut w w' g none) ∧ Aside0 (Below w0.heap.size w0 w'))
 case atStart => exact ⟨(y164), (t173), (t174), (t175), es_, H', ⟨Nat.le_refl _⟩, ⟨by (with_reducible repeat (first | apply Kd.R_alloc | apply Kd.R_drewN | apply Kd.R_drew)); exact Kd.R_mono HO166.out (fun _ hk => trivial)⟩, ⟨IsS131.go_⟩, ⟨by repeat (first | (with_reducible first | exact HK.out | apply KeepBut.set_ | apply keep_drewN | apply keep_drew | apply keep_alloc) | exact HK.out)⟩, ⟨IsS131.hb_⟩⟩
 case round =>
  clear H'
  obtain ⟨x5_1, x7_1, x1001_1, x1002_1, rfl, HA, HK1, HO_5, HI0, HK, HB⟩ := hrel
  cases gk with
  | zero => exact absurd HA.out (by simp [spec_l01DrawPoly.l0])
  | succ k1 =>
   have H := HA.out
   clear HA
   simp only [spec_l01DrawPoly.l0] at H
   by_cases c12 : x7_1 > 0
   ·rw [if_pos c12] at H
    have c12b0 := decide_eq_true c12
    clear c12
    obtain ⟨⟨t176, t177, t178⟩, A13, H⟩ := bnd_ H
    dsimp only at H
    obtain ⟨y179, Ny179, H⟩ : ∃ y179 : List Int, Aside0 (y179 = (([0, 1, 1] : List Int))) ∧ ((spec_l01Pick.f s0_0 t177 t178 y179).bind fun bt182 => (if x5_1.length < 17592186044416 then (spec_l01DrawPoly.l0 k1 (x5_1 ++ [wrap64 ((wrap64 (t176 - t170)) * bt182.1)]) t170 (wrap64 (x7_1 - 1)) s0_0 bt182.2.1 bt182.2.2) else (none))) = some (r1, r2, r3) := ⟨_, ⟨rfl⟩, H⟩
    obtain ⟨⟨t182, t183, t184⟩, A14, H⟩ := bnd_ H
    dsimp only at H
    obtain ⟨c15, H⟩ := itn_ H
    have LMc15 := Aside0.mk c15
    clear c15
    obtain ⟨y185, Ny185, H⟩ : ∃ y185 : List Int, Aside0 (y185 = (x5_1 ++ [wrap64 ((wrap64 (t176 - t170)) * t182)])) ∧ (spec_l01DrawPoly.l0 k1 y185 t170 (wrap64 (x7_1 - 1)) s0_0 t183 t184) = some (r1, r2, r3) := ⟨_, ⟨rfl⟩, H⟩
    have H' := Aside0.mk H
    clear H
    go_wp2_with (first | ((with_reducible refine gate_callee (f := 171) rfl ?_); refine goesL_ (some 25) rfl rfl Try.func171 (by kernel_rfl) rfl #[.pointer (some ⟨g, 0, none⟩), .int .i64 (wrap64 ((wrap64 (2 * t170)) + 1))] rfl arg_ ?_; (with_reducible refine (spec_l01Next.calls g s0_0 x1001_1 x1002_1 (wrap64 ((wrap64 (2 * t170)) + 1)) t176 t177 t178 w0 _ ?side1 ?side2 A13.out).mono ?_); (case side1 => exact IsS131.go_); (case side2 => exact IsS131.hb_); rintro e w16 ⟨rfl, hi, hb, hk⟩; refine ⟨_, rfl, ?_⟩; replace HO_5 := Aside0.mk (Kd.R_mono (Kd.R_keep (IsS131.apart (show IsS131 w0 _ g s0_0 x1001_1 x1002_1 from IsS131.go_) (Kd.R_below HO_5.out bgo_) (by decide)) hk (fun _ h => h.2)) (fun _ h => h.1)); replace HK := Aside0.mk (KeepBut.trans (by repeat (first | (with_reducible first | exact HK.out | apply KeepBut.set_ | apply keep_drewN | apply keep_drew | apply keep_alloc) | exact HK.out)) hk (.inl rfl)); replace HB := Aside0.mk (hb); replace HI0 := Aside0.mk (hi); (try clear hb); (try clear hb2); (try clear hk); (try clear hi)) | ((with_reducible refine gate_dst (N := 29) rfl ?_); refine Kd.R_lit (Kd.int .i64) _ 2 ?hg (N := 29) ?hd (xs := ([0, 1, 1] : List Int)) (inner := [.int .i64 0, .int .i64 1, .int .i64 1]) (ok := fun _ => True) (okp := fun _ => True) ?hr ?hp (fun _ hk => hk) trivial (Below.refl _ _) (Nat.le_refl _) (by simp) ?_; (case hd => rfl); (case hg => rfl); (case hr => first | (go_simp; done) | (go_simp; rfl)); (case hp => exact (Reps.one (show Kd.M (Kd.int .i64) _ _ _ 0 [.int .i64 0] from rfl) (Reps.one (show Kd.M (Kd.int .i64) _ _ _ 1 [.int .i64 1] from rfl) (Reps.one (show Kd.M (Kd.int .i64) _ _ _ 1 [.int .i64 1] from rfl) (Reps.none _ _))))); intro v180 w17 ho18 hb hg_ hnew_; clear hg_ hnew_; (first | rw [← Ny179.out] at ho18 | (simp only [Int.reduceToNat] at ho18; rw [← Ny179.out] at ho18)); have HO181 := Aside0.mk (Kd.R_lower (Kd.R_new' ho18 (Kd.R_lt (Kd.R_below HO_5.out bgo_))) (keep_size (w := w) (g := g) (row := none) (by repeat (first | (with_reducible first | exact HK.out | apply KeepBut.set_ | apply keep_drewN | apply keep_drew | apply keep_alloc) | exact HK.out)))); replace HO_5 := Aside0.mk (Kd.R_elder' (Kd.R_below HO_5.out bgo_) (Kd.R_base ho18) hb); replace HK := Aside0.mk (KeepBut.trans (by repeat (first | (with_reducible first | exact HK.out | apply KeepBut.set_ | apply keep_drewN | apply keep_drew | apply keep_alloc) | exact HK.out)) (KeepBut.of_below hb g none) (.inl rfl)); replace HB := Aside0.mk (below_step IsS131.hb_ hb); replace HI0 := Aside0.mk (IsS131.below IsS131.go_ hb); clear hb ho18; obtain ⟨Ao19, co19, eo19⟩ := Kd.R_slice HO181.out; subst eo19) | ((with_reducible refine gate_callee (f := 144) rfl ?_); refine goesL_ (some 30) rfl rfl Try.func144 (by kernel_rfl) rfl #[.pointer (some ⟨g, 0, none⟩), .slice Ao19 y179.length co19] rfl arg_ ?_; (with_reducible refine (spec_l01Pick.calls g s0_0 t177 t178 _ _ y179 t182 t183 t184 w0 _ ?side1 ?side2 ?side3 ?side4 ?side5 A14.out).mono ?_); (case side1 => exact IsS131.go_); (case side2 => exact IsS131.hb_); (case side3 => exact Kd.C_below (Kd.R_reads' HO181.out).2.2 bgo_); (case side4 => exact (Kd.R_reads' HO181.out).2.1); (case side5 => exact far_slice (IsS131.own_ne HI0.out HO181.out (by decide))); rintro e w20 ⟨rfl, hi, hb, hk⟩; refine ⟨_, rfl, ?_⟩; replace HO_5 := Aside0.mk (Kd.R_mono (Kd.R_keep (IsS131.apart (show IsS131 w0 _ g s0_0 t177 t178 from IsS131.go_) (Kd.R_below HO_5.out bgo_) (by decide)) hk (fun _ h => h.2)) (fun _ h => h.1)); replace HO181 := Aside0.mk (Kd.R_mono (Kd.R_keep (IsS131.apart (show IsS131 w0 _ g s0_0 t177 t178 from IsS131.go_) (Kd.R_below HO181.out bgo_) (by decide)) hk (fun _ h => h.2)) (fun _ h => h.1)); replace HK := Aside0.mk (KeepBut.trans (by repeat (first | (with_reducible first | exact HK.out | apply KeepBut.set_ | apply keep_drewN | apply keep_drew | apply keep_alloc) | exact HK.out)) hk (.inl rfl)); replace HB := Aside0.mk (hb); replace HI0 := Aside0.mk (hi); (try clear hb); (try clear hb2); (try clear hk); (try clear hi)) | ((with_reducible refine gate_builtin (b := .append) (xs := #[.tmp 20, .tmp 32]) rfl ?_); at_builtin; refine Kd.R_append (Kd.int .i64) w.heap.size rfl (.tmp 20) (.tmp 32) 29 2 (.int .i64 0) 8 rfl Try.underlying29 info2 rfl (by decide) (by omega) u5 x5_1 (wrap64 ((wrap64 (t176 - t170)) * t182)) [.int .i64 (wrap64 ((wrap64 (t176 - t170)) * t182))] (fun k_ => some k_ ≠ (.slice Ao19 y179.length co19 : Value).ownBlock) (fun _ => False) rfl rfl ?aP (fun _ hk => hk.elim) ?aF ?aO (Below.refl _ _) ?aS ?aL ?_; (case aP => exact rfl); (case aF => exact (fun k_ hk => Kd.fresh' (Kd.R_lt (Kd.R_below HO181.out bgo_)) k_ hk)); (case aO => exact (by (with_reducible repeat (first | apply Kd.R_alloc | apply Kd.R_drewN | apply Kd.R_drew)); exact Kd.R_mono HO_5.out (fun _ hk => hk.2))); (case aS => exact (keep_size (w := w) (g := g) (row := none) (by repeat (first | (with_reducible first | exact HK.out | apply KeepBut.set_ | apply keep_drewN | apply keep_drew | apply keep_alloc) | exact HK.out)))); (case aL => have := LMc15.out; omega); intro v186 w21 ho hb hg hat; rw [← Ny185.out] at ho; replace HO181 := Aside0.mk (Kd.R_after (ok := (fun _ => True)) (Kd.R_below HO181.out bgo_) hg hat); replace HB := Aside0.mk (below_weaken IsS131.hb_ HL.out hb); replace HI0 := Aside0.mk (IsS131.grown IsS131.go_ hg (IsS131.own_ne HI0.out HO_5.out (by decide))); replace HK := Aside0.mk (KeepBut.trans (by repeat (first | (with_reducible first | exact HK.out | apply KeepBut.set_ | apply keep_drewN | apply keep_drew | apply keep_alloc) | exact HK.out)) (KeepBut.of_grown hg g) (Kd.R_base2 HO_5.out)); have HO187 := Aside0.mk (ho); clear HO_5; clear ho hb hg hat))
    first | go_roundg k1 | (refine Handed.intro k1 ?measure ?_; rotate_left; go_step; (try simp only [add_plain]); (repeat apply Exists.intro); refine ⟨?rel, rfl⟩)
    case measure => have := HK1.out; omega
    case rel => exact ⟨(y185), (wrap64 (x7_1 - 1)), (t183), (t184), es_, H', ⟨by have := HK1.out; omega⟩, ⟨by (with_reducible repeat (first | apply Kd.R_alloc | apply Kd.R_drewN | apply Kd.R_drew)); exact Kd.R_mono HO187.out (fun _ hk => trivial)⟩, ⟨IsS131.go_⟩, ⟨by repeat (first | (with_reducible first | exact HK.out | apply KeepBut.set_ | apply keep_drewN | apply keep_drew | apply keep_alloc) | exact HK.out)⟩, ⟨IsS131.hb_⟩⟩
   ·rw [if_neg c12] at H
    have c12b0 := decide_eq_false c12
    clear c12
    obtain ⟨t188, A22, H⟩ := bnd_ H
    simp only [Option.some.injEq, Prod.mk.injEq] at H
    obtain ⟨rfl, rfl, rfl⟩ := H
    obtain ⟨Ao23, co23, eo23⟩ := Kd.R_slice HO_5.out
    subst eo23
    go_wp2_with (first | ((with_reducible refine gate_callee (f := 175) rfl ?_); refine goesL_ (some 35) rfl rfl Try.func175 (by kernel_rfl) rfl #[.slice Ao23 x5_1.length co23] rfl arg_ ?_; (with_reducible refine (spec_l01Trim.calls k1 _ _ x5_1 t188 _ ?side1 ?side2 A22.out).mono ?_); (case side1 => exact Kd.C_below (Kd.R_reads' HO_5.out).2.2 bgo_); (case side2 => exact (Kd.R_reads' HO_5.out).2.1); rintro e w24 ⟨v189, rfl, ho0, hb⟩; refine ⟨_, rfl, ?_⟩; have HO190 := Aside0.mk (Kd.R_lower (Kd.R_new' ho0 (Kd.R_lt (Kd.R_below HO_5.out bgo_))) (keep_size (w := w) (g := g) (row := none) (by repeat (first | (with_reducible first | exact HK.out | apply KeepBut.set_ | apply keep_drewN | apply keep_drew | apply keep_alloc) | exact HK.out)))); replace HO_5 := Aside0.mk (Kd.R_elder' (Kd.R_below HO_5.out bgo_) (Kd.R_base ho0) hb); replace HK := Aside0.mk (KeepBut.trans (by repeat (first | (with_reducible first | exact HK.out | apply KeepBut.set_ | apply keep_drewN | apply keep_drew | apply keep_alloc) | exact HK.out)) (KeepBut.of_below hb g none) (.inl rfl)); replace HB := Aside0.mk (below_step IsS131.hb_ hb); replace HI0 := Aside0.mk (IsS131.below IsS131.go_ hb); (try clear hb); (try clear hb2); (try clear hk); (try clear hi); (try clear ho0)))
    go_ret
    exact ⟨_, er_, by (with_reducible repeat (first | apply Kd.R_alloc | apply Kd.R_drewN | apply Kd.R_drew)); exact Kd.R_mono HO190.out (fun _ hk => trivial), IsS131.go_, IsS131.hb_, by repeat (first | (with_reducible first | exact HK.out | apply KeepBut.set_ | apply keep_drewN | apply keep_drew | apply keep_alloc) | exact HK.out)⟩

/-! ### spec_DrawMultiplyWhole: function 57 -/
def spec_DrawMultiplyWhole.f (k : Nat) (l0 : List Int) : Option (List Int × List Int) := (spec_l01From.f k l0).bind fun bt191 => ((spec_l01Pick.f bt191.1 bt191.2.1 bt191.2.2 (([3, 6, 24] : List Int))).bind fun bt198 => ((spec_l01DrawPoly.f k bt191.1 bt198.2.1 bt198.2.2 bt198.1).bind fun bt201 => ((spec_l01Rough.f k bt191.1 bt201.2.1 bt201.2.2 bt201.1).bind fun bt206 => ((spec_l01DrawPoly.f k bt191.1 bt206.2.1 bt206.2.2 bt198.1).bind fun bt211 => ((spec_l01Rough.f k bt191.1 bt211.2.1 bt211.2.2 bt211.1).bind fun bt216 => (some (bt206.1, bt216.1)))))))
set_option maxHeartbeats 8000000 in
set_option maxRecDepth 100000 in
theorem spec_DrawMultiplyWhole.calls (k : Nat) (A0 : Option Addr) (c0 : Nat) (l0 : List Int) (r1 : List Int) (r2 : List Int) (w : World) (hr0 : Kd.C (Kd.int .u8) w A0 l0.length l0) (hc0 : l0.length ≤ c0) (h : spec_DrawMultiplyWhole.f k l0 = some (r1, r2)) :
  Calls Try.prog 57 #[.slice A0 l0.length c0] w fun e w' => ∃ v0_ v1_ : Value, e = .returned (.tuple #[v0_, v1_]) ∧ Kd.R (Kd.int .i64) 2 w' w.heap.size (fun k_ => some k_ ≠ (v1_ : Value).ownBlock) v0_ r1 ∧ Kd.R (Kd.int .i64) 2 w' w.heap.size (fun k_ => some k_ ≠ (v0_ : Value).ownBlock) v1_ r2 ∧ Below w.heap.size w w' := by
 have HR0 := Aside0.mk hr0
 have HC0 := Aside0.mk hc0
 clear hr0 hc0
 have HB := Aside0.mk (Below.refl w.heap.size w)
 have H : ((spec_l01From.f k l0).bind fun bt191 => ((spec_l01Pick.f bt191.1 bt191.2.1 bt191.2.2 (([3, 6, 24] : List Int))).bind fun bt198 => ((spec_l01DrawPoly.f k bt191.1 bt198.2.1 bt198.2.2 bt198.1).bind fun bt201 => ((spec_l01Rough.f k bt191.1 bt201.2.1 bt201.2.2 bt201.1).bind fun bt206 => ((spec_l01DrawPoly.f k bt191.1 bt206.2.1 bt206.2.2 bt198.1).bind fun bt211 => ((spec_l01Rough.f k bt191.1 bt211.2.1 bt211.2.2 bt211.1).bind fun bt216 => (some (bt206.1, bt216.1)))))))) = some (r1, r2) := h
 clear h
 obtain ⟨⟨t191, t192, t193⟩, A2, H⟩ := bnd_ H
 dsimp only at H
 obtain ⟨y195, Ny195, H⟩ : ∃ y195 : List Int, Aside0 (y195 = (([3, 6, 24] : List Int))) ∧ ((spec_l01Pick.f t191 t192 t193 y195).bind fun bt198 => ((spec_l01DrawPoly.f k t191 bt198.2.1 bt198.2.2 bt198.1).bind fun bt201 => ((spec_l01Rough.f k t191 bt201.2.1 bt201.2.2 bt201.1).bind fun bt206 => ((spec_l01DrawPoly.f k t191 bt206.2.1 bt206.2.2 bt198.1).bind fun bt211 => ((spec_l01Rough.f k t191 bt211.2.1 bt211.2.2 bt211.1).bind fun bt216 => (some (bt206.1, bt216.1))))))) = some (r1, r2) := ⟨_, ⟨rfl⟩, H⟩
 obtain ⟨⟨t198, t199, t200⟩, A3, H⟩ := bnd_ H
 dsimp only at H
 obtain ⟨⟨t201, t204, t205⟩, A4, H⟩ := bnd_ H
 dsimp only at H
 obtain ⟨⟨t206, t209, t210⟩, A5, H⟩ := bnd_ H
 dsimp only at H
 obtain ⟨⟨t211, t214, t215⟩, A6, H⟩ := bnd_ H
 dsimp only at H
 obtain ⟨⟨t216, t219, t220⟩, A7, H⟩ := bnd_ H
 dsimp only at H
 simp only [Option.some.injEq, Prod.mk.injEq] at H
 obtain ⟨rfl, rfl⟩ := H
 go_enter Try.func57, Try.ntmps57
 go_wp2_with (first | ((with_reducible refine gate_callee (f := 102) rfl ?_); refine goesL_ (some 8) rfl rfl Try.func102 (by kernel_rfl) rfl #[.slice A0 l0.length c0] rfl arg_ ?_; (with_reducible refine (spec_l01From.calls k _ _ l0 t191 t192 t193 w _ ?side1 ?side2 ?side3 A2.out).mono ?_); (case side1 => exact hb_); (case side2 => exact HR0.out); (case side3 => exact HC0.out); rintro e w8 ⟨g194, rfl, hi, hb, hb2⟩; refine ⟨_, rfl, ?_⟩; replace HB := Aside0.mk (hb); have HI194 := Aside0.mk (hi); (try clear hb); (try clear hb2); (try clear hk); (try clear hi)) | ((with_reducible refine gate_dst (N := 10) rfl ?_); refine Kd.R_lit (Kd.int .i64) _ 2 ?hg (N := 10) ?hd (xs := ([3, 6, 24] : List Int)) (inner := [.int .i64 3, .int .i64 6, .int .i64 24]) (ok := fun _ => True) (okp := fun _ => True) ?hr ?hp (fun _ hk => hk) trivial (Below.refl _ _) (Nat.le_refl _) (by simp) ?_; (case hd => rfl); (case hg => rfl); (case hr => first | (go_simp; done) | (go_simp; rfl)); (case hp => exact (Reps.one (show Kd.M (Kd.int .i64) _ _ _ 3 [.int .i64 3] from rfl) (Reps.one (show Kd.M (Kd.int .i64) _ _ _ 6 [.int .i64 6] from rfl) (Reps.one (show Kd.M (Kd.int .i64) _ _ _ 24 [.int .i64 24] from rfl) (Reps.none _ _))))); intro v196 w9 ho10 hb hg_ hnew_; clear hg_ hnew_; (first | rw [← Ny195.out] at ho10 | (simp only [Int.reduceToNat] at ho10; rw [← Ny195.out] at ho10)); have HO197 := Aside0.mk (Kd.R_lower ho10 (below_size IsS131.hb_)); replace HB := Aside0.mk (below_step IsS131.hb_ hb); replace HI194 := Aside0.mk (IsS131.below IsS131.go_ hb); clear hb ho10; obtain ⟨Ao11, co11, eo11⟩ := Kd.R_slice HO197.out; subst eo11) | ((with_reducible refine gate_callee (f := 144) rfl ?_); refine goesL_ (some 11) rfl rfl Try.func144 (by kernel_rfl) rfl #[.pointer (some ⟨g194, 0, none⟩), .slice Ao11 y195.length co11] rfl arg_ ?_; (with_reducible refine (spec_l01Pick.calls g194 t191 t192 t193 _ _ y195 t198 t199 t200 w _ ?side1 ?side2 ?side3 ?side4 ?side5 A3.out).mono ?_); (case side1 => exact IsS131.go_); (case side2 => exact IsS131.hb_); (case side3 => exact Kd.C_below (Kd.R_reads' HO197.out).2.2 bgo_); (case side4 => exact (Kd.R_reads' HO197.out).2.1); (case side5 => exact far_slice (IsS131.own_ne HI194.out HO197.out (by decide))); rintro e w12 ⟨rfl, hi, hb, hk⟩; refine ⟨_, rfl, ?_⟩; replace HO197 := Aside0.mk (Kd.R_mono (Kd.R_keep (IsS131.apart (show IsS131 w _ g194 t191 t192 t193 from IsS131.go_) (Kd.R_below HO197.out bgo_) (by decide)) hk (fun _ h => h.2)) (fun _ h => h.1)); replace HB := Aside0.mk (hb); replace HI194 := Aside0.mk (hi); (try clear hb); (try clear hb2); (try clear hk); (try clear hi)) | ((with_reducible refine gate_callee (f := 162) rfl ?_); refine goesL_ (some 15) rfl rfl Try.func162 (by kernel_rfl) rfl #[.pointer (some ⟨g194, 0, none⟩), .int .i64 t198] rfl arg_ ?_; (with_reducible refine (spec_l01DrawPoly.calls k g194 t191 t199 t200 t198 t201 t204 t205 w _ ?side1 ?side2 A4.out).mono ?_); (case side1 => exact IsS131.go_); (case side2 => exact IsS131.hb_); rintro e w13 ⟨v202, rfl, ho0, hi, hb, hk⟩; refine ⟨_, rfl, ?_⟩; have HO203 := Aside0.mk (Kd.R_lower (Kd.R_new' ho0 (Kd.R_lt (Kd.R_below HO197.out bgo_))) (below_size IsS131.hb_)); replace HO197 := Aside0.mk (Kd.R_mono (Kd.R_told (Kd.R_oldK (IsS131.apart (show IsS131 w _ g194 t191 t199 t200 from IsS131.go_) (Kd.R_below HO197.out bgo_) (by decide)) hk) (Kd.R_base ho0)) (fun _ h_ => h_.1)); replace HB := Aside0.mk (hb); replace HI194 := Aside0.mk (hi); (try clear hb); (try clear hb2); (try clear hk); (try clear hi); (try clear ho0); obtain ⟨Ao14, co14, eo14⟩ := Kd.R_slice HO203.out; subst eo14) | ((with_reducible refine gate_callee (f := 161) rfl ?_); refine goesL_ (some 16) rfl rfl Try.func161 (by kernel_rfl) rfl #[.pointer (some ⟨g194, 0, none⟩), .slice Ao14 t201.length co14] rfl arg_ ?_; (with_reducible refine (spec_l01Rough.calls k g194 t191 t204 t205 (fun k_ => some k_ = (.slice Ao14 t201.length co14 : Value).ownBlock) (.slice Ao14 t201.length co14) t201 t206 t209 t210 w _ ?side1 ?side2 ?side3 A5.out).mono ?_); (case side1 => exact IsS131.go_); (case side2 => exact IsS131.hb_); (case side3 => exact Kd.R_tight rfl HO203.out); rintro e w15 ⟨v207, rfl, ho0, hi, hb, hkp⟩; refine ⟨_, rfl, ?_⟩; have HO208 := Aside0.mk (Kd.R_mono (ok' := fun k_ => some k_ ≠ (.slice Ao11 y195.length co11 : Value).ownBlock) ho0 (fun k_ hk_ => Or.elim hk_ (fun hs_ => fun e_ => ((((IsS131.apart HI194.out HO197.out (by decide))).1 k_ e_.symm).1.2) hs_) (fun hn_ => (Kd.fresh' (Kd.R_lt (Kd.R_below HO197.out bgo_)) k_ hn_)))); replace HO197 := Aside0.mk (Kd.R_mono (ok' := fun k_ => some k_ ≠ (v207 : Value).ownBlock) (Kd.R_keptB ((IsS131.apart HI194.out HO197.out (by decide))) hkp (fun k_ hk_ hs_ => Or.elim hs_ (fun hs_ => (hk_.1.2) hs_) (fun e_ => (hk_.2) e_))) (fun k_ hk_ => fun e_ => Or.elim (ho0.1 k_ e_.symm) (fun hs_ => hk_.2.1 (by first | exact hs_ | exact .inl hs_)) (fun hn_ => Nat.not_le.2 hk_.2.2 hn_))); replace HI194 := Aside0.mk (hi); replace HB := Aside0.mk (hb); clear HO203; (try clear hb); (try clear hkp); (try clear ho0)) | ((with_reducible refine gate_callee (f := 162) rfl ?_); refine goesL_ (some 21) rfl rfl Try.func162 (by kernel_rfl) rfl #[.pointer (some ⟨g194, 0, none⟩), .int .i64 t198] rfl arg_ ?_; (with_reducible refine (spec_l01DrawPoly.calls k g194 t191 t209 t210 t198 t211 t214 t215 w _ ?side1 ?side2 A6.out).mono ?_); (case side1 => exact IsS131.go_); (case side2 => exact IsS131.hb_); rintro e w16 ⟨v212, rfl, ho0, hi, hb, hk⟩; refine ⟨_, rfl, ?_⟩; have HO213 := Aside0.mk (Kd.R_lower (Kd.R_new' (Kd.R_new' ho0 (Kd.R_lt (Kd.R_below HO197.out bgo_))) (Kd.R_lt (Kd.R_below HO208.out bgo_))) (below_size IsS131.hb_)); replace HO197 := Aside0.mk (Kd.R_mono (Kd.R_told (Kd.R_oldK (IsS131.apart (show IsS131 w _ g194 t191 t209 t210 from IsS131.go_) (Kd.R_below HO197.out bgo_) (by decide)) hk) (Kd.R_base ho0)) (fun _ h_ => h_.1)); replace HO208 := Aside0.mk (Kd.R_mono (Kd.R_told (Kd.R_oldK (IsS131.apart (show IsS131 w _ g194 t191 t209 t210 from IsS131.go_) (Kd.R_below HO208.out bgo_) (by decide)) hk) (Kd.R_base ho0)) (fun _ h_ => h_.1)); replace HB := Aside0.mk (hb); replace HI194 := Aside0.mk (hi); (try clear hb); (try clear hb2); (try clear hk); (try clear hi); (try clear ho0); obtain ⟨Ao17, co17, eo17⟩ := Kd.R_slice HO213.out; subst eo17) | ((with_reducible refine gate_callee (f := 161) rfl ?_); refine goesL_ (some 22) rfl rfl Try.func161 (by kernel_rfl) rfl #[.pointer (some ⟨g194, 0, none⟩), .slice Ao17 t211.length co17] rfl arg_ ?_; (with_reducible refine (spec_l01Rough.calls k g194 t191 t214 t215 (fun k_ => some k_ = (.slice Ao17 t211.length co17 : Value).ownBlock) (.slice Ao17 t211.length co17) t211 t216 t219 t220 w _ ?side1 ?side2 ?side3 A7.out).mono ?_); (case side1 => exact IsS131.go_); (case side2 => exact IsS131.hb_); (case side3 => exact Kd.R_tight rfl HO213.out); rintro e w18 ⟨v217, rfl, ho0, hi, hb, hkp⟩; refine ⟨_, rfl, ?_⟩; have HO218 := Aside0.mk (Kd.R_mono (ok' := fun k_ => some k_ ≠ (.slice Ao11 y195.length co11 : Value).ownBlock ∧ some k_ ≠ (v207 : Value).ownBlock) ho0 (fun k_ hk_ => ⟨Or.elim hk_ (fun hs_ => fun e_ => ((((IsS131.apart HI194.out HO197.out (by decide))).1 k_ e_.symm).1.2) hs_) (fun hn_ => (Kd.fresh' (Kd.R_lt (Kd.R_below HO197.out bgo_)) k_ hn_)), Or.elim hk_ (fun hs_ => fun e_ => ((((IsS131.apart HI194.out HO208.out (by decide))).1 k_ e_.symm).1.2) hs_) (fun hn_ => (Kd.fresh' (Kd.R_lt (Kd.R_below HO208.out bgo_)) k_ hn_))⟩)); replace HO197 := Aside0.mk (Kd.R_mono (ok' := fun k_ => some k_ ≠ (v207 : Value).ownBlock ∧ some k_ ≠ (v217 : Value).ownBlock) (Kd.R_keptB ((IsS131.apart HI194.out HO197.out (by decide))) hkp (fun k_ hk_ hs_ => Or.elim hs_ (fun hs_ => (hk_.1.2) hs_) (fun e_ => (hk_.2) e_))) (fun k_ hk_ => ⟨hk_.1.1.1, fun e_ => Or.elim (ho0.1 k_ e_.symm) (fun hs_ => hk_.2.1 (by first | exact hs_ | exact .inl hs_)) (fun hn_ => Nat.not_le.2 hk_.2.2 hn_)⟩)); replace HO208 := Aside0.mk (Kd.R_mono (ok' := fun k_ => some k_ ≠ (.slice Ao11 y195.length co11 : Value).ownBlock ∧ some k_ ≠ (v217 : Value).ownBlock) (Kd.R_keptB ((IsS131.apart HI194.out HO208.out (by decide))) hkp (fun k_ hk_ hs_ => Or.elim hs_ (fun hs_ => (hk_.1.2) hs_) (fun e_ => (hk_.2) e_))) (fun k_ hk_ => ⟨hk_.1.1.1, fun e_ => Or.elim (ho0.1 k_ e_.symm) (fun hs_ => hk_.2.1 (by first | exact hs_ | exact .inl hs_)) (fun hn_ => Nat.not_le.2 hk_.2.2 hn_)⟩)); replace HI194 := Aside0.mk (hi); replace HB := Aside0.mk (hb); clear HO213; (try clear hb); (try clear hkp); (try clear ho0)))
 go_ret2
 exact ⟨_, _, er_, by (with_reducible repeat (first | apply Kd.R_alloc | apply Kd.R_drewN | apply Kd.R_drew)); exact Kd.R_mono HO208.out (fun _ hk => hk.2), by (with_reducible repeat (first | apply Kd.R_alloc | apply Kd.R_drewN | apply Kd.R_drew)); exact Kd.R_mono HO218.out (fun _ hk => hk.2), IsS131.hb_⟩

-- NOT PRINTED: function 239 (slices_IndexFunc_int64_int64_239)

-- NOT PRINTED: function 205 (slices_ContainsFunc_int64_int64_205)

/-! ### impl_within: function 106 -/
def impl_within.f (a0 : Int) (a1 : Int) (a2 : Int) : Option (Bool) := if a0 ≥ a1 then (some (decide (a0 ≤ a2))) else (some false)
set_option maxHeartbeats 8000000 in
set_option maxRecDepth 100000 in
theorem impl_within.calls (a0 : Int) (a1 : Int) (a2 : Int) (r : Bool) (w : World) (h : impl_within.f a0 a1 a2 = some r) :
  Calls Try.prog 106 #[.int .i64 a0, .int .i64 a1, .int .i64 a2] w fun e w' => e = .returned (.bool r) ∧ Drawn0 w w' := by
 have H : (if a0 ≥ a1 then (some (decide (a0 ≤ a2))) else (some false)) = some r := h
 clear h
 by_cases c4 : a0 ≥ a1
 ·rw [if_pos c4] at H
  have c4b0 := decide_eq_true c4
  clear c4
  obtain rfl := Option.some.inj H
  go_enter Try.func106, Try.ntmps106
  go_wp2
  go_ret
  exact ⟨es_, by repeat (first | exact Drawn0.refl _ | apply Drawn0.step)⟩
 ·rw [if_neg c4] at H
  have c4b0 := decide_eq_false c4
  clear c4
  obtain rfl := Option.some.inj H
  go_enter Try.func106, Try.ntmps106
  go_wp2
  go_ret
  exact ⟨es_, by repeat (first | exact Drawn0.refl _ | apply Drawn0.step)⟩

/-! ### impl_isSmall: function 167 -/
def impl_isSmall.f (a0 : Int) : Option (Bool) := (impl_within.f a0 (-1000000000000000) 1000000000000000).bind fun t221 => (some t221)
set_option maxHeartbeats 8000000 in
set_option maxRecDepth 100000 in
theorem impl_isSmall.calls (a0 : Int) (r : Bool) (w : World) (h : impl_isSmall.f a0 = some r) :
  Calls Try.prog 167 #[.int .i64 a0] w fun e w' => e = .returned (.bool r) ∧ Drawn0 w w' := by
 have H : ((impl_within.f a0 (-1000000000000000) 1000000000000000).bind fun t221 => (some t221)) = some r := h
 clear h
 obtain ⟨t221, A2, H⟩ := bnd_ H
 obtain rfl := Option.some.inj H
 go_enter Try.func167, Try.ntmps167
 go_wp2_with (first | ((with_reducible refine gate_callee (f := 106) rfl ?_); refine goesL_ (some 4) rfl rfl Try.func106 (by kernel_rfl) rfl #[.int .i64 a0, .int .i64 (-1000000000000000), .int .i64 1000000000000000] rfl arg_ ?_; (with_reducible refine (impl_within.calls a0 (-1000000000000000) 1000000000000000 t221 _ A2.out).mono ?_); rintro e w' ⟨rfl, ⟨nd, rfl⟩⟩; refine ⟨_, rfl, ?_⟩))
 go_ret
 exact ⟨es_, by repeat (first | exact Drawn0.refl _ | apply Drawn0.step)⟩

/-! ### impl_IsWhole: function 60 -/
def impl_IsWhole.l0 : Nat → List Int → List Int → Int → Int → Option (Bool)
 | 0, _, _, _, _ => none
 | k + 1, x0, x5, x6, x7 => if x7 < x6 then (if 0 ≤ x7 then (if x7 < (x5.length : Int) then ((impl_isSmall.f (rd x5 x7)).bind fun t223 => (if t223 = true then (impl_IsWhole.l0 k x0 x5 x6 (wrap64 (x7 + 1))) else (some false))) else (none)) else (none)) else (if (x0.length : Int) ≤ 40 then (if (x0.length : Int) = 0 then (some true) else (if 0 ≤ (wrap64 ((x0.length : Int) - 1)) then (if (wrap64 ((x0.length : Int) - 1)) < (x0.length : Int) then (some ((rd x0 (wrap64 ((x0.length : Int) - 1))) != 0)) else (none)) else (none))) else (some false))
def impl_IsWhole.f (k : Nat) (l0 : List Int) : Option (Bool) := impl_IsWhole.l0 k l0 l0 (l0.length : Int) 0
set_option maxHeartbeats 8000000 in
set_option maxRecDepth 100000 in
theorem impl_IsWhole.calls (k : Nat) (A0 : Option Addr) (c0 : Nat) (l0 : List Int) (r : Bool) (w : World) (hr0 : Kd.C (Kd.int .i64) w A0 l0.length l0) (hc0 : l0.length ≤ c0) (h : impl_IsWhole.f k l0 = some r) :
  Calls Try.prog 60 #[.slice A0 l0.length c0] w fun e w' => e = .returned (.bool r) ∧ Drawn0 w w' := by
 have HR0 := Aside0.mk hr0
 have HC0 := Aside0.mk hc0
 clear hr0 hc0
 have H : (impl_IsWhole.l0 k l0 l0 (l0.length : Int) 0) = some r := h
 clear h
 have H' := Aside0.mk H
 clear H
 go_enter Try.func60, Try.ntmps60
 go_wp2
 go_loopg [7] k (fun kq v7 w' => ∃ (x7_1 : Int), v7 = .int .i64 x7_1 ∧ Aside0 (impl_IsWhole.l0 kq l0 l0 (l0.length : Int) x7_1 = some r) ∧ Aside0 (kq ≤ k) ∧ Drawn0 w w')
 case atStart => exact ⟨(0), es_, H', ⟨Nat.le_refl _⟩, by repeat (first | exact Drawn0.refl _ | apply Drawn0.step)⟩
 case round =>
  clear H'
  obtain ⟨x7_1, rfl, HA, HK1, ⟨m1, rfl⟩⟩ := hrel
  cases gk with
  | zero => exact absurd HA.out (by simp [impl_IsWhole.l0])
  | succ k1 =>
   have H := HA.out
   clear HA
   simp only [impl_IsWhole.l0] at H
   by_cases c2 : x7_1 < (l0.length : Int)
   ·rw [if_pos c2] at H
    have c2b0 := decide_eq_true c2
    clear c2
    obtain ⟨c3, H⟩ := itn_ H
    have c3b0 := decide_eq_true c3
    clear c3
    obtain ⟨c4, H⟩ := itn_ H
    have c4b0 := decide_eq_true c4
    clear c4
    obtain ⟨t223, A5, H⟩ := bnd_ H
    by_cases c6 : t223 = true
    ·subst c6
     have H1 : (impl_IsWhole.l0 k1 l0 l0 (l0.length : Int) (wrap64 (x7_1 + 1))) = some r := by rw [if_pos rfl] at H; exact H
     clear H
     have H := H1
     clear H1
     have H' := Aside0.mk H
     clear H
     have p222 : 0 ≤ (x7_1 : Int) := od_
     have q222 : x7_1 < (l0.length : Int) := od_
     obtain ⟨ad222, e222, hx222_0⟩ := Kd.at_int HR0.out x7_1 p222 q222
     cases e222
     replace p222 := eq_true p222
     replace q222 := eq_true q222
     go_wp2_with (first | ((with_reducible refine gate_callee (f := 167) rfl ?_); refine goesL_ (some 12) rfl rfl Try.func167 (by kernel_rfl) rfl #[.int .i64 (rd l0 x7_1)] rfl arg_ ?_; (with_reducible refine (impl_isSmall.calls (rd l0 x7_1) true _ A5.out).mono ?_); rintro e w' ⟨rfl, ⟨nd, rfl⟩⟩; refine ⟨_, rfl, ?_⟩))
     go_roundg k1
     case measure => have := HK1.out; omega
     case rel => exact ⟨(wrap64 (x7_1 + 1)), es_, H', ⟨by have := HK1.out; omega⟩, by repeat (first | exact Drawn0.refl _ | apply Drawn0.step)⟩
    ·replace c6 := Bool.eq_false_iff.mpr c6
     subst c6
     have H1 : (some false) = some r := by rw [if_neg (show ¬ (false = true) by decide)] at H; exact H
     clear H
     have H := H1
     clear H1
     obtain rfl := Option.some.inj H
     have p222 : 0 ≤ (x7_1 : Int) := od_
     have q222 : x7_1 < (l0.length : Int) := od_
     obtain ⟨ad222, e222, hx222_0⟩ := Kd.at_int HR0.out x7_1 p222 q222
     cases e222
     replace p222 := eq_true p222
     replace q222 := eq_true q222
     go_wp2_with (first | ((with_reducible refine gate_callee (f := 167) rfl ?_); refine goesL_ (some 12) rfl rfl Try.func167 (by kernel_rfl) rfl #[.int .i64 (rd l0 x7_1)] rfl arg_ ?_; (with_reducible refine (impl_isSmall.calls (rd l0 x7_1) false _ A5.out).mono ?_); rintro e w' ⟨rfl, ⟨nd, rfl⟩⟩; refine ⟨_, rfl, ?_⟩))
     go_ret
     exact ⟨es_, by repeat (first | exact Drawn0.refl _ | apply Drawn0.step)⟩
   ·rw [if_neg c2] at H
    have c2b0 := decide_eq_false c2
    clear c2
    by_cases c7 : (l0.length : Int) ≤ 40
    ·rw [if_pos c7] at H
     have c7b0 := decide_eq_true c7
     have c7b1 : decide (l0.length ≤ 40) = true := decide_eq_true (by omega)
     clear c7
     by_cases c8 : (l0.length : Int) = 0
     ·rw [if_pos c8] at H
      have c8b0 : ((l0.length : Int) == 0) = true := beq_iff_eq.mpr c8
      have c8b1 : ((l0.length : Int) != 0) = false := bne_eq_false_iff_eq.mpr c8
      clear c8
      obtain rfl := Option.some.inj H
      go_wp2
      go_ret
      exact ⟨es_, by repeat (first | exact Drawn0.refl _ | apply Drawn0.step)⟩
     ·rw [if_neg c8] at H
      have c8b0 : ((l0.length : Int) == 0) = false := beq_eq_false_iff_ne.mpr c8
      have c8b1 : ((l0.length : Int) != 0) = true := bne_iff_ne.mpr c8
      have c8b2 : ¬ (l0 = []) := fun h_ => c8 (by rw [h_]; rfl)
      obtain ⟨ji9, hji9⟩ : ∃ j_ : Int, (wrap64 ((l0.length : Int) - 1)) = j_ := ⟨_, rfl⟩
      (try rw [hji9])
      replace H : (if 0 ≤ (ji9) then (if (ji9) < (l0.length : Int) then (some ((rd l0 (ji9)) != 0)) else (none)) else (none)) = some r := by first | (rw [hji9] at H; exact H) | (simp only [hji9] at H ⊢; exact H)
      have hji9w : (IntKind.i64.wrap ((l0.length : Int) - 1)) = ji9 := (i64_w _).trans hji9
      obtain ⟨c10, H⟩ := itn_ H
      have c10b0 := decide_eq_true c10
      clear c10
      obtain ⟨c11, H⟩ := itn_ H
      have c11b0 := decide_eq_true c11
      clear c11
      obtain rfl := Option.some.inj H
      have p224 : 0 ≤ ((ji9) : Int) := od_
      have q224 : (ji9) < (l0.length : Int) := od_
      obtain ⟨ad224, e224, hx224_0⟩ := Kd.at_int HR0.out (ji9) p224 q224
      cases e224
      replace p224 := eq_true p224
      replace q224 := eq_true q224
      go_wp2
      go_ret
      exact ⟨by first | rfl | (simp; done) | (simp only [← hji9] <;> (first | rfl | simp)) | (simp [*]; done), by repeat (first | exact Drawn0.refl _ | apply Drawn0.step)⟩
    ·rw [if_neg c7] at H
     have c7b0 := decide_eq_false c7
     have c7b1 : decide (l0.length ≤ 40) = false := decide_eq_false (by omega)
     clear c7
     obtain rfl := Option.some.inj H
     go_wp2
     go_ret
     exact ⟨es_, by repeat (first | exact Drawn0.refl _ | apply Drawn0.step)⟩

/-! ### impl_areWhole_1: function 230 -/
def impl_areWhole_1.f (k : Nat) (l0 : List Int) : Option (Bool) := (impl_IsWhole.f k l0).bind fun t225 => (some (!t225))
set_option maxHeartbeats 8000000 in
set_option maxRecDepth 100000 in
theorem impl_areWhole_1.calls (k : Nat) (A0 : Option Addr) (c0 : Nat) (l0 : List Int) (r : Bool) (w : World) (hr0 : Kd.C (Kd.int .i64) w A0 l0.length l0) (hc0 : l0.length ≤ c0) (h : impl_areWhole_1.f k l0 = some r) :
  Calls Try.prog 230 #[.slice A0 l0.length c0] w fun e w' => e = .returned (.bool r) ∧ Drawn0 w w' := by
 have HR0 := Aside0.mk hr0
 have HC0 := Aside0.mk hc0
 clear hr0 hc0
 have H : ((impl_IsWhole.f k l0).bind fun t225 => (some (!t225))) = some r := h
 clear h
 obtain ⟨t225, A2, H⟩ := bnd_ H
 obtain rfl := Option.some.inj H
 go_enter Try.func230, Try.ntmps230
 go_wp2_with (first | ((with_reducible refine gate_callee (f := 60) rfl ?_); refine goesL_ (some 4) rfl rfl Try.func60 (by kernel_rfl) rfl #[.slice A0 l0.length c0] rfl arg_ ?_; (with_reducible refine (impl_IsWhole.calls k _ _ l0 t225 _ ?side1 ?side2 A2.out).mono ?_); (case side1 => exact Kd.C_below HR0.out bgo_); (case side2 => exact HC0.out); rintro e w' ⟨rfl, ⟨nd, rfl⟩⟩; refine ⟨_, rfl, ?_⟩))
 go_ret
 exact ⟨es_, by repeat (first | exact Drawn0.refl _ | apply Drawn0.step)⟩

/-! ### slices_IndexFunc_int64_int64_239_at_areWhole_1: function 100001 -/
def slices_IndexFunc_int64_int64_239_at_areWhole_1.l0 : Nat → List (List Int) → Int → Int → Option (Int)
 | 0, _, _, _ => none
 | k + 1, x0, x7, x8 => if x8 < x7 then (if 0 ≤ x8 then (if x8 < (x0.length : Int) then ((impl_areWhole_1.f k (rd_L2 x0 x8)).bind fun t227 => (if t227 = true then (some x8) else (slices_IndexFunc_int64_int64_239_at_areWhole_1.l0 k x0 x7 (wrap64 (x8 + 1))))) else (none)) else (none)) else (some (-1))
def slices_IndexFunc_int64_int64_239_at_areWhole_1.f (k : Nat) (l0 : List (List Int))  : Option (Int) := slices_IndexFunc_int64_int64_239_at_areWhole_1.l0 k l0 (l0.length : Int) 0
set_option maxHeartbeats 8000000 in
set_option maxRecDepth 100000 in
theorem slices_IndexFunc_int64_int64_239_at_areWhole_1.calls (k : Nat) (A0 : Option Addr) (c0 : Nat) (l0 : List (List Int))  (r : Int) (w : World) (hr0 : Kd.C (Kd.slice 2 (Kd.int .i64)) w A0 l0.length l0) (hc0 : l0.length ≤ c0) (h : slices_IndexFunc_int64_int64_239_at_areWhole_1.f k l0 = some r) :
  Calls Try.prog 239 #[.slice A0 l0.length c0, .func (.func 230) #[] #[]] w fun e w' => e = .returned (.int .i64 r) ∧ Below w.heap.size w w' := by
 have HR0 := Aside0.mk hr0
 have HC0 := Aside0.mk hc0
 clear hr0 hc0
 have HB := Aside0.mk (Below.refl w.heap.size w)
 have H : (slices_IndexFunc_int64_int64_239_at_areWhole_1.l0 k l0 (l0.length : Int) 0) = some r := h
 clear h
 have H' := Aside0.mk H
 clear H
 go_enter Try.func239, Try.ntmps239
 go_wp2
 go_loopg [8] k (fun kq v8 w' => ∃ (x8_1 : Int), v8 = .int .i64 x8_1 ∧ Aside0 (slices_IndexFunc_int64_int64_239_at_areWhole_1.l0 kq l0 (l0.length : Int) x8_1 = some r) ∧ Aside0 (kq ≤ k) ∧ Aside0 (Below w.heap.size w w'))
 case atStart => exact ⟨(0), es_, H', ⟨Nat.le_refl _⟩, ⟨hb_⟩⟩
 case round =>
  clear H'
  obtain ⟨x8_1, rfl, HA, HK1, HB⟩ := hrel
  cases gk with
  | zero => exact absurd HA.out (by simp [slices_IndexFunc_int64_int64_239_at_areWhole_1.l0])
  | succ k1 =>
   have H := HA.out
   clear HA
   simp only [slices_IndexFunc_int64_int64_239_at_areWhole_1.l0] at H
   by_cases c3 : x8_1 < (l0.length : Int)
   ·rw [if_pos c3] at H
    have c3b0 := decide_eq_true c3
    clear c3
    obtain ⟨c4, H⟩ := itn_ H
    have c4b0 := decide_eq_true c4
    clear c4
    obtain ⟨c5, H⟩ := itn_ H
    have c5b0 := decide_eq_true c5
    clear c5
    obtain ⟨t227, A6, H⟩ := bnd_ H
    by_cases c7 : t227 = true
    ·subst c7
     have H1 : (some x8_1) = some r := by rw [if_pos rfl] at H; exact H
     clear H
     have H := H1
     clear H1
     obtain rfl := Option.some.inj H
     have p226 : 0 ≤ (x8_1 : Int) := od_
     have q226 : x8_1 < (l0.length : Int) := od_
     obtain ⟨ad226, A226_0, c226_0, e226, hx226_0, hl226_0, hi226_0⟩ := at_L2 HR0.out x8_1 p226 q226
     cases e226
     (try replace hx226_0 := (HB.out.cell (World.block_lt_of_cell? w _ hx226_0)).trans hx226_0)
     have HR226_0 := Aside0.mk hi226_0
     have HC226_0 := Aside0.mk hl226_0
     clear hi226_0 hl226_0
     replace p226 := eq_true p226
     replace q226 := eq_true q226
     go_wp2_with (first | ((with_reducible refine gate_fn (t := 11) rfl ?_); refine goesF_ (some 16) rfl rfl Try.func230 (by kernel_rfl) rfl (lb := #[]) #[.slice A226_0 (rd_L2 l0 x8_1).length c226_0] rfl (by first | rfl | (simp; done)) (by (try simp only [List.map_toArray, List.map_cons, List.map_nil, List.append_toArray, List.cons_append, List.nil_append]); first | done | rfl | (simp only [List.length_drop, List.length_take]; rfl)) ?_; (with_reducible refine (impl_areWhole_1.calls k1 _ _ (rd_L2 l0 x8_1) true _ ?side1 ?side2 A6.out).mono ?_); (case side1 => exact Kd.C_below (Kd.C_below HR226_0.out HB.out) bgo_); (case side2 => exact HC226_0.out); rintro e w' ⟨rfl, ⟨nd, rfl⟩⟩; refine ⟨_, rfl, ?_⟩))
     go_ret
     exact ⟨er_, hb_⟩
    ·replace c7 := Bool.eq_false_iff.mpr c7
     subst c7
     have H1 : (slices_IndexFunc_int64_int64_239_at_areWhole_1.l0 k1 l0 (l0.length : Int) (wrap64 (x8_1 + 1))) = some r := by rw [if_neg (show ¬ (false = true) by decide)] at H; exact H
     clear H
     have H := H1
     clear H1
     have H' := Aside0.mk H
     clear H
     have p226 : 0 ≤ (x8_1 : Int) := od_
     have q226 : x8_1 < (l0.length : Int) := od_
     obtain ⟨ad226, A226_0, c226_0, e226, hx226_0, hl226_0, hi226_0⟩ := at_L2 HR0.out x8_1 p226 q226
     cases e226
     (try replace hx226_0 := (HB.out.cell (World.block_lt_of_cell? w _ hx226_0)).trans hx226_0)
     have HR226_0 := Aside0.mk hi226_0
     have HC226_0 := Aside0.mk hl226_0
     clear hi226_0 hl226_0
     replace p226 := eq_true p226
     replace q226 := eq_true q226
     go_wp2_with (first | ((with_reducible refine gate_fn (t := 11) rfl ?_); refine goesF_ (some 16) rfl rfl Try.func230 (by kernel_rfl) rfl (lb := #[]) #[.slice A226_0 (rd_L2 l0 x8_1).length c226_0] rfl (by first | rfl | (simp; done)) (by (try simp only [List.map_toArray, List.map_cons, List.map_nil, List.append_toArray, List.cons_append, List.nil_append]); first | done | rfl | (simp only [List.length_drop, List.length_take]; rfl)) ?_; (with_reducible refine (impl_areWhole_1.calls k1 _ _ (rd_L2 l0 x8_1) false _ ?side1 ?side2 A6.out).mono ?_); (case side1 => exact Kd.C_below (Kd.C_below HR226_0.out HB.out) bgo_); (case side2 => exact HC226_0.out); rintro e w' ⟨rfl, ⟨nd, rfl⟩⟩; refine ⟨_, rfl, ?_⟩))
     go_roundg k1
     case measure => have := HK1.out; omega
     case rel => exact ⟨(wrap64 (x8_1 + 1)), es_, H', ⟨by have := HK1.out; omega⟩, ⟨hb_⟩⟩
   ·rw [if_neg c3] at H
    have c3b0 := decide_eq_false c3
    clear c3
    obtain rfl := Option.some.inj H
    go_wp2
    go_ret
    exact ⟨er_, hb_⟩

/-! ### slices_ContainsFunc_int64_int64_205_at_areWhole_1: function 100000 -/
def slices_ContainsFunc_int64_int64_205_at_areWhole_1.f (k : Nat) (l0 : List (List Int))  : Option (Bool) := (slices_IndexFunc_int64_int64_239_at_areWhole_1.f k l0).bind fun t228 => (some (decide (t228 ≥ 0)))
set_option maxHeartbeats 8000000 in
set_option maxRecDepth 100000 in
theorem slices_ContainsFunc_int64_int64_205_at_areWhole_1.calls (k : Nat) (A0 : Option Addr) (c0 : Nat) (l0 : List (List Int))  (r : Bool) (w : World) (hr0 : Kd.C (Kd.slice 2 (Kd.int .i64)) w A0 l0.length l0) (hc0 : l0.length ≤ c0) (h : slices_ContainsFunc_int64_int64_205_at_areWhole_1.f k l0 = some r) :
  Calls Try.prog 205 #[.slice A0 l0.length c0, .func (.func 230) #[] #[]] w fun e w' => e = .returned (.bool r) ∧ Below w.heap.size w w' := by
 have HR0 := Aside0.mk hr0
 have HC0 := Aside0.mk hc0
 clear hr0 hc0
 have HB := Aside0.mk (Below.refl w.heap.size w)
 have H : ((slices_IndexFunc_int64_int64_239_at_areWhole_1.f k l0).bind fun t228 => (some (decide (t228 ≥ 0)))) = some r := h
 clear h
 obtain ⟨t228, A3, H⟩ := bnd_ H
 obtain rfl := Option.some.inj H
 go_enter Try.func205, Try.ntmps205
 go_wp2_with (first | ((with_reducible refine gate_callee (f := 239) rfl ?_); refine goesL_ (some 7) rfl rfl Try.func239 (by kernel_rfl) rfl #[.slice A0 l0.length c0, .func (.func 230) #[] #[]] rfl arg_ ?_; (with_reducible refine (slices_IndexFunc_int64_int64_239_at_areWhole_1.calls k _ _ l0  t228 _ ?side1 ?side2 A3.out).mono ?_); (case side1 => exact Kd.C_below HR0.out bgo_); (case side2 => exact HC0.out); rintro e w4 ⟨rfl, hb⟩; refine ⟨_, rfl, ?_⟩; replace HB := Aside0.mk (below_step hb_ hb); (try clear hb); (try clear hb2); (try clear hk); (try clear hi)))
 go_ret
 exact ⟨er_, hb_⟩

/-! ### impl_areWhole: function 163 -/
def impl_areWhole.f (k : Nat) (l0 : List (List Int)) : Option (Bool) := (slices_ContainsFunc_int64_int64_205_at_areWhole_1.f k l0).bind fun t229 => (some (!t229))
set_option maxHeartbeats 8000000 in
set_option maxRecDepth 100000 in
theorem impl_areWhole.calls (k : Nat) (A0 : Option Addr) (c0 : Nat) (l0 : List (List Int)) (r : Bool) (w : World) (hr0 : Kd.C (Kd.slice 2 (Kd.int .i64)) w A0 l0.length l0) (hc0 : l0.length ≤ c0) (h : impl_areWhole.f k l0 = some r) :
  Calls Try.prog 163 #[.slice A0 l0.length c0] w fun e w' => e = .returned (.bool r) ∧ Below w.heap.size w w' := by
 have HR0 := Aside0.mk hr0
 have HC0 := Aside0.mk hc0
 clear hr0 hc0
 have HB := Aside0.mk (Below.refl w.heap.size w)
 have H : ((slices_ContainsFunc_int64_int64_205_at_areWhole_1.f k l0).bind fun t229 => (some (!t229))) = some r := h
 clear h
 obtain ⟨t229, A2, H⟩ := bnd_ H
 obtain rfl := Option.some.inj H
 go_enter Try.func163, Try.ntmps163
 go_wp2_with (first | ((with_reducible refine gate_callee (f := 205) rfl ?_); refine goesL_ (some 4) rfl rfl Try.func205 (by kernel_rfl) rfl #[.slice A0 l0.length c0, .func (.func 230) #[] #[]] rfl arg_ ?_; (with_reducible refine (slices_ContainsFunc_int64_int64_205_at_areWhole_1.calls k _ _ l0  t229 _ ?side1 ?side2 A2.out).mono ?_); (case side1 => exact Kd.C_below HR0.out bgo_); (case side2 => exact HC0.out); rintro e w3 ⟨rfl, hb⟩; refine ⟨_, rfl, ?_⟩; replace HB := Aside0.mk (below_step hb_ hb); (try clear hb); (try clear hb2); (try clear hk); (try clear hi)))
 go_ret
 exact ⟨er_, hb_⟩

/-! ### impl_absolute: function 169 -/
def impl_absolute.f (a0 : Int) : Option (Int) := some (mx a0 (wrap64 (-a0)))
set_option maxHeartbeats 8000000 in
set_option maxRecDepth 100000 in
theorem impl_absolute.calls (a0 : Int) (r : Int) (w : World) (h : impl_absolute.f a0 = some r) :
  Calls Try.prog 169 #[.int .i64 a0] w fun e w' => e = .returned (.int .i64 r) ∧ Below w.heap.size w w' := by
 have HB := Aside0.mk (Below.refl w.heap.size w)
 have H : (some (mx a0 (wrap64 (-a0)))) = some r := h
 clear h
 obtain ⟨ji2, hji2⟩ : ∃ j_ : Int, (mx a0 (wrap64 (-a0))) = j_ := ⟨_, rfl⟩
 (try rw [hji2])
 replace H : (some ji2) = some r := by first | (rw [hji2] at H; exact H) | (simp only [hji2] at H ⊢; exact H)
 have hji2_ : (if a0 < (wrap64 (-a0)) then (wrap64 (-a0)) else a0) = ji2 := hji2
 obtain rfl := Option.some.inj H
 go_enter Try.func169, Try.ntmps169
 go_wp2
 go_ret
 exact ⟨by first | rfl | (simp [errW_none, errW_some] <;> rfl) | (simp only [← hji2]; first | rfl | (simp [errW_none, errW_some] <;> rfl)) | (simp [*, errW_none, errW_some] <;> rfl), hb_⟩

/-! ### impl_plusTimes: function 168 -/
def impl_plusTimes.j0 : Nat → Int → Int → Int → Bool → Option (Int × Bool)
 | 0, _, _, _, _ => none
 | k + 1, x0, x1, x2, x13 => if x13 = true then (some (x0, true)) else ((impl_absolute.f x1).bind fun t230 => ((impl_absolute.f x2).bind fun t231 => (if t231 = 0 then (none) else (if t230 > (wrap64 (Int.tdiv (1000000000000000 : Int) t231)) then (some (0, false)) else ((impl_isSmall.f (wrap64 (x0 + (wrap64 (x1 * x2))))).bind fun t232 => (some (wrap64 (x0 + (wrap64 (x1 * x2))), t232)))))))
def impl_plusTimes.f (k : Nat) (a0 : Int) (a1 : Int) (a2 : Int) : Option (Int × Bool) := if a1 = 0 then (impl_plusTimes.j0 k a0 a1 a2 true) else (impl_plusTimes.j0 k a0 a1 a2 (a2 == 0))
set_option maxHeartbeats 8000000 in
set_option maxRecDepth 100000 in
theorem impl_plusTimes.calls (k : Nat) (a0 : Int) (a1 : Int) (a2 : Int) (r1 : Int) (r2 : Bool) (w : World) (h : impl_plusTimes.f k a0 a1 a2 = some (r1, r2)) :
  Calls Try.prog 168 #[.int .i64 a0, .int .i64 a1, .int .i64 a2] w fun e w' => e = .returned (.tuple #[.int .i64 r1, .bool r2]) ∧ Below w.heap.size w w' := by
 have HB := Aside0.mk (Below.refl w.heap.size w)
 have H : (if a1 = 0 then (impl_plusTimes.j0 k a0 a1 a2 true) else (impl_plusTimes.j0 k a0 a1 a2 (a2 == 0))) = some (r1, r2) := h
 clear h
 have HC4 := Aside0.mk H
 clear H
 go_enter Try.func168, Try.ntmps168
 go_upto_region 1 with (fail)
 go_cut [13] (fun v13 wc => ∃ (kq : Nat) (x13_3 : Bool), v13 = .bool x13_3 ∧ Aside0 (impl_plusTimes.j0 kq a0 a1 a2 x13_3 = some (r1, r2)) ∧ Aside0 (kq ≤ k) ∧ Aside0 (Below w.heap.size w wc))
 case first =>
  have H := HC4.out
  clear HC4
  by_cases c5 : a1 = 0
  ·rw [if_pos c5] at H
   have c5b0 : (a1 == 0) = true := beq_iff_eq.mpr c5
   have c5b1 : (a1 != 0) = false := bne_eq_false_iff_eq.mpr c5
   clear c5
   (first | rw [c5b0] | (simp only [i64_w, i32_w]; rw [c5b0]) | skip)
   have H' := Aside0.mk H
   clear H
   go_wp2
   go_meet
   case rel => exact ⟨_, (true), es_, H', ⟨by first | omega | exact Nat.le_refl _⟩, ⟨hb_⟩⟩
  ·rw [if_neg c5] at H
   have c5b0 : (a1 == 0) = false := beq_eq_false_iff_ne.mpr c5
   have c5b1 : (a1 != 0) = true := bne_iff_ne.mpr c5
   (first | rw [c5b0] | (simp only [i64_w, i32_w]; rw [c5b0]) | skip)
   have H' := Aside0.mk H
   clear H
   go_wp2
   go_meet
   case rel => exact ⟨_, ((a2 == 0)), es_, H', ⟨by first | omega | exact Nat.le_refl _⟩, ⟨hb_⟩⟩
 case rest =>
  clear HC4
  obtain ⟨kq, x13_3, rfl, HA, HJ3, HB⟩ := hcut
  cases kq with
  | zero => exact absurd HA.out (by simp [impl_plusTimes.j0])
  | succ kj3 =>
   have H := HA.out
   clear HA
   simp only [impl_plusTimes.j0] at H
   by_cases c6 : x13_3 = true
   ·subst c6
    have H1 : (some (a0, true)) = some (r1, r2) := by rw [if_pos rfl] at H; exact H
    clear H
    have H := H1
    clear H1
    simp only [Option.some.injEq, Prod.mk.injEq] at H
    obtain ⟨rfl, rfl⟩ := H
    go_wp2
    go_ret2
    exact ⟨er_, hb_⟩
   ·replace c6 := Bool.eq_false_iff.mpr c6
    subst c6
    have H1 : ((impl_absolute.f a1).bind fun t230 => ((impl_absolute.f a2).bind fun t231 => (if t231 = 0 then (none) else (if t230 > (wrap64 (Int.tdiv (1000000000000000 : Int) t231)) then (some (0, false)) else ((impl_isSmall.f (wrap64 (a0 + (wrap64 (a1 * a2))))).bind fun t232 => (some (wrap64 (a0 + (wrap64 (a1 * a2))), t232))))))) = some (r1, r2) := by rw [if_neg (show ¬ (false = true) by decide)] at H; exact H
    clear H
    have H := H1
    clear H1
    obtain ⟨t230, A7, H⟩ := bnd_ H
    obtain ⟨t231, A8, H⟩ := bnd_ H
    by_cases c9 : t231 = 0
    ·rw [if_pos c9] at H
     exact absurd H (by simp)
    ·rw [if_neg c9] at H
     have c9b0 : (t231 == 0) = false := beq_eq_false_iff_ne.mpr c9
     have c9b1 : (t231 != 0) = true := bne_iff_ne.mpr c9
     by_cases c10 : t230 > (wrap64 (Int.tdiv (1000000000000000 : Int) t231))
     ·rw [if_pos c10] at H
      have c10b0 := decide_eq_true c10
      clear c10
      simp only [Option.some.injEq, Prod.mk.injEq] at H
      obtain ⟨rfl, rfl⟩ := H
      go_wp2_with (first | ((with_reducible refine gate_callee (f := 169) rfl ?_); refine goesL_ (some 16) rfl rfl Try.func169 (by kernel_rfl) rfl #[.int .i64 a1] rfl arg_ ?_; (with_reducible refine (impl_absolute.calls a1 t230 _ A7.out).mono ?_); rintro e w11 ⟨rfl, hb⟩; refine ⟨_, rfl, ?_⟩; replace HB := Aside0.mk (below_step hb_ hb); (try clear hb); (try clear hb2); (try clear hk); (try clear hi)) | ((with_reducible refine gate_callee (f := 169) rfl ?_); refine goesL_ (some 18) rfl rfl Try.func169 (by kernel_rfl) rfl #[.int .i64 a2] rfl arg_ ?_; (with_reducible refine (impl_absolute.calls a2 t231 _ A8.out).mono ?_); rintro e w12 ⟨rfl, hb⟩; refine ⟨_, rfl, ?_⟩; replace HB := Aside0.mk (below_step hb_ hb); (try clear hb); (try clear hb2); (try clear hk); (try clear hi)))
      go_ret2
      exact ⟨er_, hb_⟩
     ·rw [if_neg c10] at H
      have c10b0 := decide_eq_false c10
      clear c10
      obtain ⟨t232, A13, H⟩ := bnd_ H
      simp only [Option.some.injEq, Prod.mk.injEq] at H
      obtain ⟨rfl, rfl⟩ := H
      go_wp2_with (first | ((with_reducible refine gate_callee (f := 169) rfl ?_); refine goesL_ (some 16) rfl rfl Try.func169 (by kernel_rfl) rfl #[.int .i64 a1] rfl arg_ ?_; (with_reducible refine (impl_absolute.calls a1 t230 _ A7.out).mono ?_); rintro e w14 ⟨rfl, hb⟩; refine ⟨_, rfl, ?_⟩; replace HB := Aside0.mk (below_step hb_ hb); (try clear hb); (try clear hb2); (try clear hk); (try clear hi)) | ((with_reducible refine gate_callee (f := 169) rfl ?_); refine goesL_ (some 18) rfl rfl Try.func169 (by kernel_rfl) rfl #[.int .i64 a2] rfl arg_ ?_; (with_reducible refine (impl_absolute.calls a2 t231 _ A8.out).mono ?_); rintro e w15 ⟨rfl, hb⟩; refine ⟨_, rfl, ?_⟩; replace HB := Aside0.mk (below_step hb_ hb); (try clear hb); (try clear hb2); (try clear hk); (try clear hi)) | ((with_reducible refine gate_callee (f := 167) rfl ?_); refine goesL_ (some 28) rfl rfl Try.func167 (by kernel_rfl) rfl #[.int .i64 (wrap64 (a0 + (wrap64 (a1 * a2))))] rfl arg_ ?_; (with_reducible refine (impl_isSmall.calls (wrap64 (a0 + (wrap64 (a1 * a2)))) t232 _ A13.out).mono ?_); rintro e w' ⟨rfl, ⟨nd, rfl⟩⟩; refine ⟨_, rfl, ?_⟩))
      go_ret2
      exact ⟨er_, hb_⟩

/-! ### impl_multiply: function 164 -/
mutual
def impl_multiply.j0 : Nat → List Int → List Int → Bool → Option (List Int × Bool)
 | 0, _, _, _ => none
 | k + 1, x0, x1, x18 => if x18 = true then (some ((([] : List Int)), true)) else (if (wrap64 ((wrap64 ((x0.length : Int) + (x1.length : Int))) - 1)) > 40 then (some (([] : List Int), false)) else (impl_multiply.l0 k x0 x1 (([] : List Int)) (wrap64 ((wrap64 ((x0.length : Int) + (x1.length : Int))) - 1)) 0))
def impl_multiply.l0 : Nat → List Int → List Int → List Int → Int → Int → Option (List Int × Bool)
 | 0, _, _, _, _, _ => none
 | k + 1, x0, x1, x6, x33, x34 => if x34 < x33 then (impl_multiply.l1 k x0 x1 x6 x34 0 (mx 0 (wrap64 ((wrap64 (x34 - (x1.length : Int))) + 1))) x33 x34) else (some (x6, true))
def impl_multiply.l1 : Nat → List Int → List Int → List Int → Int → Int → Int → Int → Int → Option (List Int × Bool)
 | 0, _, _, _, _, _, _, _, _ => none
 | k + 1, x0, x1, x6, x7, x8, x10, x33, x34 => if x10 ≤ (mn x7 (wrap64 ((x0.length : Int) - 1))) then (if 0 ≤ x10 then (if x10 < (x0.length : Int) then (if 0 ≤ (wrap64 (x7 - x10)) then (if (wrap64 (x7 - x10)) < (x1.length : Int) then ((impl_plusTimes.f k x8 (rd x0 x10) (rd x1 (wrap64 (x7 - x10)))).bind fun bt241 => (if bt241.2 = true then (impl_multiply.l1 k x0 x1 x6 x7 bt241.1 (wrap64 (x10 + 1)) x33 x34) else (some (([] : List Int), false)))) else (none)) else (none)) else (none)) else (none)) else (if x6.length < 17592186044416 then (impl_multiply.l0 k x0 x1 (x6 ++ [x8]) x33 (wrap64 (x34 + 1))) else (none))
end
def impl_multiply.f (k : Nat) (l0 : List Int) (l1 : List Int) : Option (List Int × Bool) := if (l0.length : Int) = 0 then (impl_multiply.j0 k l0 l1 true) else (impl_multiply.j0 k l0 l1 ((l1.length : Int) == 0))
def impl_multiply.T13 : Bool × List (List Nat × List Nat) := (true, [([], []), ([], []), ([], []), ([1, 2], [1, 2]), ([3], [3]), ([], []), ([], []), ([], []), ([6, 7], [6, 7]), ([5, 8], [5, 8]), ([9], [9]), ([0, 4, 10], [0, 4, 10]), ([11], [11]), ([12], [12]), ([12], [12]), ([13, 11, 0, 1, 2, 3, 4, 5, 6, 7, 8, 9, 10, 11, 12, 13], [0, 13]), ([14, 15, 0, 1, 2, 3, 4, 5, 6, 7, 8, 9, 10, 11, 12, 13, 14, 15], [14])])
def impl_multiply.B13 : List Nat := [0, 0, 0, 6, 14, 0, 0, 0, 192, 480, 992, 2047, 4095, 8191, 8191, 16383, 65535]
theorem impl_multiply.tab13 : rtab .any (opsOf Try.f164 13) = impl_multiply.T13 := by kernel_rfl
theorem impl_multiply.bits13 : waitsOk impl_multiply.T13.2 impl_multiply.B13 = true := by kernel_rfl
set_option maxHeartbeats 8000000 in
set_option maxRecDepth 100000 in
theorem impl_multiply.calls (k : Nat) (A0 : Option Addr) (c0 : Nat) (l0 : List Int) (A1 : Option Addr) (c1 : Nat) (l1 : List Int) (r1 : List Int) (r2 : Bool) (w : World) (hr0 : Kd.C (Kd.int .i64) w A0 l0.length l0) (hc0 : l0.length ≤ c0) (hr1 : Kd.C (Kd.int .i64) w A1 l1.length l1) (hc1 : l1.length ≤ c1) (h : impl_multiply.f k l0 l1 = some (r1, r2)) :
  Calls Try.prog 164 #[.slice A0 l0.length c0, .slice A1 l1.length c1] w fun e w' => ∃ v0_ : Value, e = .returned (.tuple #[v0_, .bool r2]) ∧ Kd.R (Kd.int .i64) 2 w' w.heap.size (fun _ => True) v0_ r1 ∧ Below w.heap.size w w' := by
 have HR0 := Aside0.mk hr0
 have HC0 := Aside0.mk hc0
 clear hr0 hc0
 have HR1 := Aside0.mk hr1
 have HC1 := Aside0.mk hc1
 clear hr1 hc1
 have HB := Aside0.mk (Below.refl w.heap.size w)
 have H : (if (l0.length : Int) = 0 then (impl_multiply.j0 k l0 l1 true) else (impl_multiply.j0 k l0 l1 ((l1.length : Int) == 0))) = some (r1, r2) := h
 clear h
 have HC3 := Aside0.mk H
 clear H
 go_enter Try.func164, Try.ntmps164
 go_upto_region 1 with (fail)
 go_cut [18] (fun v18 wc => ∃ (kq : Nat) (x18_2 : Bool), v18 = .bool x18_2 ∧ Aside0 (impl_multiply.j0 kq l0 l1 x18_2 = some (r1, r2)) ∧ Aside0 (kq ≤ k) ∧ Aside0 (Below w.heap.size w wc))
 case first =>
  have H := HC3.out
  clear HC3
  by_cases c4 : (l0.length : Int) = 0
  ·rw [if_pos c4] at H
   have c4b0 : ((l0.length : Int) == 0) = true := beq_iff_eq.mpr c4
   have c4b1 : ((l0.length : Int) != 0) = false := bne_eq_false_iff_eq.mpr c4
   clear c4
   (first | rw [c4b0] | (simp only [i64_w, i32_w]; rw [c4b0]) | skip)
   have H' := Aside0.mk H
   clear H
   go_wp2
   go_meet
   case rel => exact ⟨_, (true), es_, H', ⟨by first | omega | exact Nat.le_refl _⟩, ⟨hb_⟩⟩
  ·rw [if_neg c4] at H
   have c4b0 : ((l0.length : Int) == 0) = false := beq_eq_false_iff_ne.mpr c4
   have c4b1 : ((l0.length : Int) != 0) = true := bne_iff_ne.mpr c4
   have c4b2 : ¬ (l0 = []) := fun h_ => c4 (by rw [h_]; rfl)
   (first | rw [c4b0] | (simp only [i64_w, i32_w]; rw [c4b0]) | skip)
   have H' := Aside0.mk H
   clear H
   go_wp2
   go_meet
   case rel => exact ⟨_, (((l1.length : Int) == 0)), es_, H', ⟨by first | omega | exact Nat.le_refl _⟩, ⟨hb_⟩⟩
 case rest =>
  clear HC3
  obtain ⟨kq, x18_2, rfl, HA, HJ2, HB⟩ := hcut
  cases kq with
  | zero => exact absurd HA.out (by simp [impl_multiply.j0])
  | succ kj2 =>
   have H := HA.out
   clear HA
   simp only [impl_multiply.j0] at H
   by_cases c5 : x18_2 = true
   ·subst c5
    have H1 : (some ((([] : List Int)), true)) = some (r1, r2) := by rw [if_pos rfl] at H; exact H
    clear H
    have H := H1
    clear H1
    obtain ⟨y233, Ny233, H⟩ : ∃ y233 : List Int, Aside0 (y233 = (([] : List Int))) ∧ (some (y233, true)) = some (r1, r2) := ⟨_, ⟨rfl⟩, H⟩
    simp only [Option.some.injEq, Prod.mk.injEq] at H
    obtain ⟨rfl, rfl⟩ := H
    go_wp2_with (first | ((with_reducible refine gate_dst (N := 19) rfl ?_); (try (refine gate_guard (by rfl) ?_; dsimp only)); refine Kd.R_lit (Kd.int .i64) _ 2 ?hg (N := 19) ?hd (xs := ([] : List Int)) (inner := []) (ok := fun _ => True) (okp := fun _ => True) ?hr ?hp (fun _ hk => hk) trivial (Below.refl _ _) (Nat.le_refl _) (by simp) ?_; (case hd => rfl); (case hg => rfl); (case hr => first | (go_simp; done) | (go_simp; rfl)); (case hp => exact (Reps.none _ _)); intro v234 w6 ho7 hb hg_ hnew_; clear hg_ hnew_; (first | rw [← Ny233.out] at ho7 | (simp only [Int.reduceToNat] at ho7; rw [← Ny233.out] at ho7)); have HO235 := Aside0.mk (Kd.R_lower ho7 (below_size hb_)); replace HB := Aside0.mk (below_step hb_ hb); clear hb ho7))
    go_ret2
    exact ⟨_, er_, (Kd.R_below HO235.out bgo_), hb_⟩
   ·replace c5 := Bool.eq_false_iff.mpr c5
    subst c5
    have H1 : (if (wrap64 ((wrap64 ((l0.length : Int) + (l1.length : Int))) - 1)) > 40 then (some (([] : List Int), false)) else (impl_multiply.l0 kj2 l0 l1 (([] : List Int)) (wrap64 ((wrap64 ((l0.length : Int) + (l1.length : Int))) - 1)) 0)) = some (r1, r2) := by rw [if_neg (show ¬ (false = true) by decide)] at H; exact H
    clear H
    have H := H1
    clear H1
    by_cases c8 : (wrap64 ((wrap64 ((l0.length : Int) + (l1.length : Int))) - 1)) > 40
    ·rw [if_pos c8] at H
     have c8b0 := decide_eq_true c8
     clear c8
     simp only [Option.some.injEq, Prod.mk.injEq] at H
     obtain ⟨rfl, rfl⟩ := H
     go_wp2
     go_ret2
     exact ⟨_, er_, by first | exact Kd.R_nil _ _ _ _ _ | exact Kd.N_nil _ _ _ _ _ | exact Kd.V_nil _ _ _ _ _ | exact Kd.Q_nil _ _ _ _ _ | exact Kd.S_nil _ _ _ _ _, hb_⟩
    ·rw [if_neg c8] at H
     have c8b0 := decide_eq_false c8
     clear c8
     obtain ⟨y236, Ny236, H⟩ : ∃ y236 : List Int, Aside0 (y236 = (([] : List Int))) ∧ (impl_multiply.l0 kj2 l0 l1 y236 (wrap64 ((wrap64 ((l0.length : Int) + (l1.length : Int))) - 1)) 0) = some (r1, r2) := ⟨_, ⟨rfl⟩, H⟩
     have H' := Aside0.mk H
     clear H
     go_wp2_with (first | ((with_reducible refine gate_dst (N := 27) rfl ?_); (try (refine gate_guard (by rfl) ?_; dsimp only)); refine Kd.R_lit (Kd.int .i64) _ 2 ?hg (N := 27) ?hd (xs := ([] : List Int)) (inner := []) (ok := fun _ => True) (okp := fun _ => True) ?hr ?hp (fun _ hk => hk) trivial (Below.refl _ _) (Nat.le_refl _) (by simp) ?_; (case hd => rfl); (case hg => rfl); (case hr => first | (go_simp; done) | (go_simp; rfl)); (case hp => exact (Reps.none _ _)); intro v237 w9 ho10 hb hg_ hnew_; clear hg_ hnew_; (first | rw [← Ny236.out] at ho10 | (simp only [Int.reduceToNat] at ho10; rw [← Ny236.out] at ho10)); have HO238 := Aside0.mk (Kd.R_lower ho10 (below_size hb_)); replace HB := Aside0.mk (below_step hb_ hb); clear hb ho10))
     go_loopg [6, 34] kj2 (fun kq v6 v34 w' => ∃ (x6_2 : List Int) (x34_2 : Int), v34 = .int .i64 x34_2 ∧ Aside0 (impl_multiply.l0 kq l0 l1 x6_2 (wrap64 ((wrap64 ((l0.length : Int) + (l1.length : Int))) - 1)) x34_2 = some (r1, r2)) ∧ Aside0 (kq ≤ kj2) ∧ Aside0 (Kd.R (Kd.int .i64) 2 w' w.heap.size (fun _ => True) v6 x6_2) ∧ Aside0 (Below w.heap.size w w'))
     case atStart => exact ⟨(y236), (0), es_, H', ⟨Nat.le_refl _⟩, ⟨Kd.R_below HO238.out bgo_⟩, ⟨hb_⟩⟩
     case round =>
      clear H'
      obtain ⟨x6_2, x34_2, rfl, HA, HK2, HO_6, HB⟩ := hrel
      cases gk with
      | zero => exact absurd HA.out (by simp [impl_multiply.l0])
      | succ k2 =>
       have H := HA.out
       clear HA
       simp only [impl_multiply.l0] at H
       by_cases c11 : x34_2 < (wrap64 ((wrap64 ((l0.length : Int) + (l1.length : Int))) - 1))
       ·rw [if_pos c11] at H
        have c11b0 := decide_eq_true c11
        clear c11
        obtain ⟨ji12, hji12⟩ : ∃ j_ : Int, (mx 0 (wrap64 ((wrap64 (x34_2 - (l1.length : Int))) + 1))) = j_ := ⟨_, rfl⟩
        (try rw [hji12])
        replace H : (impl_multiply.l1 k2 l0 l1 x6_2 x34_2 0 ji12 (wrap64 ((wrap64 ((l0.length : Int) + (l1.length : Int))) - 1)) x34_2) = some (r1, r2) := by first | (rw [hji12] at H; exact H) | (simp only [hji12] at H ⊢; exact H)
        have hji12_ : (if 0 < (wrap64 ((wrap64 (x34_2 - (l1.length : Int))) + 1)) then (wrap64 ((wrap64 (x34_2 - (l1.length : Int))) + 1)) else 0) = ji12 := hji12
        have H' := Aside0.mk H
        clear H
        go_wp2
        go_loopg [8, 10] k2 (fun kq v8 v10 w' => ∃ (x8_3 : Int) (x10_3 : Int), v8 = .int .i64 x8_3 ∧ v10 = .int .i64 x10_3 ∧ Aside0 (impl_multiply.l1 kq l0 l1 x6_2 x34_2 x8_3 x10_3 (wrap64 ((wrap64 ((l0.length : Int) + (l1.length : Int))) - 1)) x34_2 = some (r1, r2)) ∧ Aside0 (kq ≤ k2) ∧ Aside0 (Kd.R (Kd.int .i64) 2 w' w.heap.size (fun _ => True) u6 x6_2) ∧ Aside0 (Below w.heap.size w w'))
        case atStart => exact ⟨(0), (ji12), es_, (by first | rfl | (simp; done) | (simp only [← hji12] <;> (first | rfl | simp)) | (simp [*]; done)), H', ⟨Nat.le_refl _⟩, ⟨Kd.R_below HO_6.out bgo_⟩, ⟨hb_⟩⟩
        case round =>
         clear H'
         obtain ⟨x8_3, x10_3, rfl, rfl, HA, HK3, HO_6, HB⟩ := hrel
         cases gk with
         | zero => exact absurd HA.out (by simp [impl_multiply.l1])
         | succ k3 =>
          have H := HA.out
          clear HA
          simp only [impl_multiply.l1] at H
          obtain ⟨ji13, hji13⟩ : ∃ j_ : Int, (mn x34_2 (wrap64 ((l0.length : Int) - 1))) = j_ := ⟨_, rfl⟩
          (try rw [hji13])
          replace H : (if x10_3 ≤ (ji13) then (if 0 ≤ x10_3 then (if x10_3 < (l0.length : Int) then (if 0 ≤ (wrap64 (x34_2 - x10_3)) then (if (wrap64 (x34_2 - x10_3)) < (l1.length : Int) then ((impl_plusTimes.f k3 x8_3 (rd l0 x10_3) (rd l1 (wrap64 (x34_2 - x10_3)))).bind fun bt241 => (if bt241.2 = true then (impl_multiply.l1 k3 l0 l1 x6_2 x34_2 bt241.1 (wrap64 (x10_3 + 1)) (wrap64 ((wrap64 ((l0.length : Int) + (l1.length : Int))) - 1)) x34_2) else (some (([] : List Int), false)))) else (none)) else (none)) else (none)) else (none)) else (if x6_2.length < 17592186044416 then (impl_multiply.l0 k3 l0 l1 (x6_2 ++ [x8_3]) (wrap64 ((wrap64 ((l0.length : Int) + (l1.length : Int))) - 1)) (wrap64 (x34_2 + 1))) else (none))) = some (r1, r2) := by first | (rw [hji13] at H; exact H) | (simp only [hji13] at H ⊢; exact H)
          have hji13_ : (if (wrap64 ((l0.length : Int) - 1)) < x34_2 then (wrap64 ((l0.length : Int) - 1)) else x34_2) = ji13 := hji13
          by_cases c14 : x10_3 ≤ (ji13)
          ·rw [if_pos c14] at H
           have c14b0 := decide_eq_true c14
           clear c14
           obtain ⟨c15, H⟩ := itn_ H
           have c15b0 := decide_eq_true c15
           clear c15
           obtain ⟨c16, H⟩ := itn_ H
           have c16b0 := decide_eq_true c16
           clear c16
           obtain ⟨ji17, hji17⟩ : ∃ j_ : Int, (wrap64 (x34_2 - x10_3)) = j_ := ⟨_, rfl⟩
           (try rw [hji17])
           replace H : (if 0 ≤ (ji17) then (if (ji17) < (l1.length : Int) then ((impl_plusTimes.f k3 x8_3 (rd l0 x10_3) (rd l1 (ji17))).bind fun bt241 => (if bt241.2 = true then (impl_multiply.l1 k3 l0 l1 x6_2 x34_2 bt241.1 (wrap64 (x10_3 + 1)) (wrap64 ((wrap64 ((l0.length : Int) + (l1.length : Int))) - 1)) x34_2) else (some (([] : List Int), false)))) else (none)) else (none)) = some (r1, r2) := by first | (rw [hji17] at H; exact H) | (simp only [hji17] at H ⊢; exact H)
           have hji17w : (IntKind.i64.wrap (x34_2 - x10_3)) = ji17 := (i64_w _).trans hji17
           obtain ⟨c18, H⟩ := itn_ H
           have c18b0 := decide_eq_true c18
           clear c18
           obtain ⟨c19, H⟩ := itn_ H
           have c19b0 := decide_eq_true c19
           clear c19
           obtain ⟨⟨t241, t242⟩, A20, H⟩ := bnd_ H
           dsimp only at H
           by_cases c21 : t242 = true
           ·subst c21
            have H1 : (impl_multiply.l1 k3 l0 l1 x6_2 x34_2 t241 (wrap64 (x10_3 + 1)) (wrap64 ((wrap64 ((l0.length : Int) + (l1.length : Int))) - 1)) x34_2) = some (r1, r2) := by rw [if_pos rfl] at H; exact H
            clear H
            have H := H1
            clear H1
            have H' := Aside0.mk H
            clear H
            try go_wp2
            have n0_ := Aside0.mk (Kd.R_drew HO_6.out)
            have n1_ := Aside0.mk (below_drew1 HB.out)
            clear HO_6
            clear HB
            have HO_6 := n0_
            have HB := n1_
            clear n0_ n1_
            have p239 : 0 ≤ (x10_3 : Int) := od_
            have q239 : x10_3 < (l0.length : Int) := od_
            obtain ⟨ad239, e239, hx239_0⟩ := Kd.at_int HR0.out x10_3 p239 q239
            have hw239_0 := hx239_0
            cases e239
            (try replace hx239_0 := (HB.out.cell (World.block_lt_of_cell? w _ hx239_0)).trans hx239_0)
            replace p239 := eq_true p239
            replace q239 := eq_true q239
            have p240 : 0 ≤ ((ji17) : Int) := od_
            have q240 : (ji17) < (l1.length : Int) := od_
            obtain ⟨ad240, e240, hx240_0⟩ := Kd.at_int HR1.out (ji17) p240 q240
            have hw240_0 := hx240_0
            cases e240
            (try replace hx240_0 := (HB.out.cell (World.block_lt_of_cell? w _ hx240_0)).trans hx240_0)
            replace p240 := eq_true p240
            replace q240 := eq_true q240
            refine start_ (n := 17) (S := fun w' => w'.cell? (ad239.add (x10_3).toNat) = some (.int .i64 (rd l0 x10_3)) ∧ w'.cell? (ad240.add ((ji17)).toNat) = some (.int .i64 (rd l1 (ji17)))) (ds := []) #[false, false, false, false, false, false, false, false, false, false, false, false, false, false, false, false, false] (by kernel_rfl) rfl rfl ⟨((HB.out.cell (World.block_lt_of_cell? _ _ hw239_0)).trans hw239_0), ((HB.out.cell (World.block_lt_of_cell? _ _ hw240_0)).trans hw240_0)⟩ (fun hHeld => ?_); refine with_tabW impl_multiply.tab13 impl_multiply.bits13 (fun HT_ HW_ => ?_)
            generalize wr.drew = w22 at HO_6 HB hx239_0 hx240_0 hHeld ⊢
            refine pk_ 0 17 53 1 ?_
            refine pk_ 1 17 54 3 ?_
            refine pk_ 2 17 55 7 ?_
            refine pk_ 3 17 56 15 ?_
            refine pk_ 5 17 58 47 ?_
            refine pk_ 6 17 59 111 ?_
            refine pk_ 7 17 60 239 ?_
            refine pk_ 8 17 61 495 ?_
            refine pk_ 9 17 62 1007 ?_
            refine tk_ 4 17 57 1023 hHeld ?_
            refine tk_ 10 17 63 2047 hHeld ?_
            refine one_ (i := 11) (N := some 64) #[true, true, true, true, true, true, true, true, true, true, true, true, false, false, false, false, false] rfl rfl (one_of HT_.out (by kernel_rfl)) (by decide) (fun K hK => ?_)
            refine goes_ Try.func168 (by kernel_rfl) rfl #[.int .i64 x8_3, .int .i64 (rd l0 x10_3), .int .i64 (rd l1 (ji17))] (by rfl) rfl rfl (by (try simp only [List.map_toArray, List.map_cons, List.map_nil]); first | done | (simp only [hji17]; rfl) | rfl | (simp only [List.length_drop, List.length_take]; rfl)) ?_
            with_reducible refine (impl_plusTimes.calls k3 x8_3 (rd l0 x10_3) (rd l1 (ji17)) t241 true _ A20.out).mono ?_
            rintro e w23 ⟨rfl, hb⟩
            refine ⟨_, rfl, ?_⟩
            have n0_ := Aside0.mk (Kd.R_below (Kd.R_below HO_6.out bgo_) hb)
            have n1_ := Aside0.mk (below_step hb_ hb)
            clear HO_6
            clear HB
            have HO_6 := n0_
            have HB := n1_
            clear n0_ n1_
            (try clear hb)
            (try clear hb2)
            (try clear hk)
            (try clear hi)
            refine hK.out _ _ ⟨((HB.out.cell (World.block_lt_of_cell? _ _ hw239_0)).trans hw239_0), ((HB.out.cell (World.block_lt_of_cell? _ _ hw240_0)).trans hw240_0)⟩ (fun hHeld => ?_)
            clear hK K
            refine norm_ (a' := ?_) ?_ ?_
            rotate_left
            ·show Act.put _ (some 64) _ = _
             simp only [Act.put, nf_]
             rfl
            refine pk_ 12 17 52 8191 ?_
            refine pk_ 13 17 65 16383 ?_
            refine pk_ 14 17 66 32767 ?_
            refine pk_ 15 17 8 65535 ?_
            refine pk_ 16 17 9 131071 ?_
            refine done_ (done_of HT_.out (by kernel_rfl)) ?_
            try go_wp2
            first | (first | go_roundg k3 | (refine Handed.intro k3 ?measure ?_; rotate_left; go_step; (try simp only [add_plain]); (repeat apply Exists.intro); refine ⟨?rel, rfl⟩)) | ((try subst hji17); (try subst hji13); (try subst hji12); (first | go_roundg k3 | (refine Handed.intro k3 ?measure ?_; rotate_left; go_step; (try simp only [add_plain]); (repeat apply Exists.intro); refine ⟨?rel, rfl⟩)))
            case measure => have := HJ2.out; have := HK2.out; have := HK3.out; omega
            case rel => exact ⟨(t241), (wrap64 (x10_3 + 1)), es_, es_, H', ⟨by have := HJ2.out; have := HK2.out; have := HK3.out; omega⟩, ⟨Kd.R_below HO_6.out bgo_⟩, ⟨hb_⟩⟩
           ·replace c21 := Bool.eq_false_iff.mpr c21
            subst c21
            have H1 : (some (([] : List Int), false)) = some (r1, r2) := by rw [if_neg (show ¬ (false = true) by decide)] at H; exact H
            clear H
            have H := H1
            clear H1
            simp only [Option.some.injEq, Prod.mk.injEq] at H
            obtain ⟨rfl, rfl⟩ := H
            try go_wp2
            have n0_ := Aside0.mk (Kd.R_drew HO_6.out)
            have n1_ := Aside0.mk (below_drew1 HB.out)
            clear HO_6
            clear HB
            have HO_6 := n0_
            have HB := n1_
            clear n0_ n1_
            have p239 : 0 ≤ (x10_3 : Int) := od_
            have q239 : x10_3 < (l0.length : Int) := od_
            obtain ⟨ad239, e239, hx239_0⟩ := Kd.at_int HR0.out x10_3 p239 q239
            have hw239_0 := hx239_0
            cases e239
            (try replace hx239_0 := (HB.out.cell (World.block_lt_of_cell? w _ hx239_0)).trans hx239_0)
            replace p239 := eq_true p239
            replace q239 := eq_true q239
            have p240 : 0 ≤ ((ji17) : Int) := od_
            have q240 : (ji17) < (l1.length : Int) := od_
            obtain ⟨ad240, e240, hx240_0⟩ := Kd.at_int HR1.out (ji17) p240 q240
            have hw240_0 := hx240_0
            cases e240
            (try replace hx240_0 := (HB.out.cell (World.block_lt_of_cell? w _ hx240_0)).trans hx240_0)
            replace p240 := eq_true p240
            replace q240 := eq_true q240
            refine start_ (n := 17) (S := fun w' => w'.cell? (ad239.add (x10_3).toNat) = some (.int .i64 (rd l0 x10_3)) ∧ w'.cell? (ad240.add ((ji17)).toNat) = some (.int .i64 (rd l1 (ji17)))) (ds := []) #[false, false, false, false, false, false, false, false, false, false, false, false, false, false, false, false, false] (by kernel_rfl) rfl rfl ⟨((HB.out.cell (World.block_lt_of_cell? _ _ hw239_0)).trans hw239_0), ((HB.out.cell (World.block_lt_of_cell? _ _ hw240_0)).trans hw240_0)⟩ (fun hHeld => ?_); refine with_tabW impl_multiply.tab13 impl_multiply.bits13 (fun HT_ HW_ => ?_)
            generalize wr.drew = w24 at HO_6 HB hx239_0 hx240_0 hHeld ⊢
            refine pk_ 0 17 53 1 ?_
            refine pk_ 1 17 54 3 ?_
            refine pk_ 2 17 55 7 ?_
            refine pk_ 3 17 56 15 ?_
            refine pk_ 5 17 58 47 ?_
            refine pk_ 6 17 59 111 ?_
            refine pk_ 7 17 60 239 ?_
            refine pk_ 8 17 61 495 ?_
            refine pk_ 9 17 62 1007 ?_
            refine tk_ 4 17 57 1023 hHeld ?_
            refine tk_ 10 17 63 2047 hHeld ?_
            refine one_ (i := 11) (N := some 64) #[true, true, true, true, true, true, true, true, true, true, true, true, false, false, false, false, false] rfl rfl (one_of HT_.out (by kernel_rfl)) (by decide) (fun K hK => ?_)
            refine goes_ Try.func168 (by kernel_rfl) rfl #[.int .i64 x8_3, .int .i64 (rd l0 x10_3), .int .i64 (rd l1 (ji17))] (by rfl) rfl rfl (by (try simp only [List.map_toArray, List.map_cons, List.map_nil]); first | done | (simp only [hji17]; rfl) | rfl | (simp only [List.length_drop, List.length_take]; rfl)) ?_
            with_reducible refine (impl_plusTimes.calls k3 x8_3 (rd l0 x10_3) (rd l1 (ji17)) t241 false _ A20.out).mono ?_
            rintro e w25 ⟨rfl, hb⟩
            refine ⟨_, rfl, ?_⟩
            have n0_ := Aside0.mk (Kd.R_below (Kd.R_below HO_6.out bgo_) hb)
            have n1_ := Aside0.mk (below_step hb_ hb)
            clear HO_6
            clear HB
            have HO_6 := n0_
            have HB := n1_
            clear n0_ n1_
            (try clear hb)
            (try clear hb2)
            (try clear hk)
            (try clear hi)
            refine hK.out _ _ ⟨((HB.out.cell (World.block_lt_of_cell? _ _ hw239_0)).trans hw239_0), ((HB.out.cell (World.block_lt_of_cell? _ _ hw240_0)).trans hw240_0)⟩ (fun hHeld => ?_)
            clear hK K
            refine norm_ (a' := ?_) ?_ ?_
            rotate_left
            ·show Act.put _ (some 64) _ = _
             simp only [Act.put, nf_]
             rfl
            refine pk_ 12 17 52 8191 ?_
            refine pk_ 13 17 65 16383 ?_
            refine pk_ 14 17 66 32767 ?_
            refine pk_ 15 17 8 65535 ?_
            refine pk_ 16 17 9 131071 ?_
            refine done_ (done_of HT_.out (by kernel_rfl)) ?_
            try go_wp2
            go_ret2
            exact ⟨_, by first | rfl | (simp [errW_none, errW_some] <;> rfl) | (simp only [← hji12, ← hji13, ← hji17]; first | rfl | (simp [errW_none, errW_some] <;> rfl)) | (simp [*, errW_none, errW_some] <;> rfl), by first | exact Kd.R_nil _ _ _ _ _ | exact Kd.N_nil _ _ _ _ _ | exact Kd.V_nil _ _ _ _ _ | exact Kd.Q_nil _ _ _ _ _ | exact Kd.S_nil _ _ _ _ _, hb_⟩
          ·rw [if_neg c14] at H
           have c14b0 := decide_eq_false c14
           clear c14
           obtain ⟨c26, H⟩ := itn_ H
           have LMc26 := Aside0.mk c26
           clear c26
           obtain ⟨y243, Ny243, H⟩ : ∃ y243 : List Int, Aside0 (y243 = (x6_2 ++ [x8_3])) ∧ (impl_multiply.l0 k3 l0 l1 y243 (wrap64 ((wrap64 ((l0.length : Int) + (l1.length : Int))) - 1)) (wrap64 (x34_2 + 1))) = some (r1, r2) := ⟨_, ⟨rfl⟩, H⟩
           have H' := Aside0.mk H
           clear H
           go_wp2_with (first | ((with_reducible refine gate_builtin (b := .append) (xs := #[.tmp 69, .tmp 71]) rfl ?_); (try (refine gate_guard (by rfl) ?_; dsimp only)); at_builtin; refine Kd.R_append (Kd.int .i64) (w0 := w) w.heap.size rfl (.tmp 69) (.tmp 71) 29 2 (.int .i64 0) 8 rfl Try.underlying29 info2 rfl (by decide) (by omega) u6 x6_2 x8_3 [.int .i64 x8_3] (fun _ => True) (fun _ => False) rfl rfl ?aP (fun _ hk => hk.elim) ?aF ?aO ?aB ?aS ?aL ?_; (case aP => exact rfl); (case aB => exact hb_); (case aF => exact (fun _ _ => trivial)); (case aO => exact (Kd.R_below HO_6.out bgo_)); (case aS => exact (below_size hb_)); (case aL => have := LMc26.out; omega); intro v244 w27 ho hb hg hat; rw [← Ny243.out] at ho; replace HB := Aside0.mk (hb); have HO245 := Aside0.mk (ho); clear HO_6; clear ho hb hg hat))
           first | (first | go_roundg k3 | (refine Handed.intro k3 ?measure ?_; rotate_left; go_step; (try simp only [add_plain]); (repeat apply Exists.intro); refine ⟨?rel, rfl⟩)) | ((try subst hji13); (try subst hji12); (first | go_roundg k3 | (refine Handed.intro k3 ?measure ?_; rotate_left; go_step; (try simp only [add_plain]); (repeat apply Exists.intro); refine ⟨?rel, rfl⟩)))
           case measure => have := HJ2.out; have := HK2.out; have := HK3.out; omega
           case rel => exact ⟨(y243), (wrap64 (x34_2 + 1)), es_, H', ⟨by have := HJ2.out; have := HK2.out; have := HK3.out; omega⟩, ⟨Kd.R_below HO245.out bgo_⟩, ⟨hb_⟩⟩
       ·rw [if_neg c11] at H
        have c11b0 := decide_eq_false c11
        clear c11
        simp only [Option.some.injEq, Prod.mk.injEq] at H
        obtain ⟨rfl, rfl⟩ := H
        go_wp2
        go_ret2
        exact ⟨_, er_, (Kd.R_below HO_6.out bgo_), hb_⟩

/-! ### impl_MultiplyWhole: function 58 -/
def impl_MultiplyWhole.f (k : Nat) (l0 : List Int) (l1 : List Int) : Option (List Int × Int) := (impl_areWhole.f k (([l0, l1] : List (List Int)))).bind fun t249 => (if t249 = true then ((impl_multiply.f k l0 l1).bind fun bt250 => (if bt250.2 = true then (some (bt250.1, 0)) else (some (([] : List Int), 3)))) else (some (([] : List Int), 1)))
set_option maxHeartbeats 8000000 in
set_option maxRecDepth 100000 in
theorem impl_MultiplyWhole.calls (k : Nat) (P0_ : Nat → Prop) (A0 : Option Addr) (c0 : Nat) (l0 : List Int) (P1_ : Nat → Prop) (A1 : Option Addr) (c1 : Nat) (l1 : List Int) (r1 : List Int) (r2 : Int) (w : World) (hs0 : Kd.V (Kd.int .i64) 2 w w.heap.size (fun k_ => P0_ k_) (.slice A0 l0.length c0) l0) (hs1 : Kd.V (Kd.int .i64) 2 w w.heap.size (fun k_ => P1_ k_) (.slice A1 l1.length c1) l1) (h : impl_MultiplyWhole.f k l0 l1 = some (r1, r2)) :
  Calls Try.prog 58 #[.slice A0 l0.length c0, .slice A1 l1.length c1] w fun e w' => ∃ v0_ : Value, e = .returned (.tuple #[v0_, .int .i64 r2]) ∧ Kd.R (Kd.int .i64) 2 w' w.heap.size (fun k_ => (w.heap.size ≤ k_)) v0_ r1 ∧ Below w.heap.size w w' := by
 have HO0 := Aside0.mk (show Kd.V (Kd.int .i64) 2 w w.heap.size (fun k_ => ((P0_ k_ ∨ P1_ k_) ∨ w.heap.size ≤ k_)) (.slice A0 l0.length c0) l0 from Kd.V_mono hs0 (fun k_ hk => .inl (.inl hk)))
 have HO1 := Aside0.mk (show Kd.V (Kd.int .i64) 2 w w.heap.size (fun k_ => ((P0_ k_ ∨ P1_ k_) ∨ w.heap.size ≤ k_)) (.slice A1 l1.length c1) l1 from Kd.V_mono hs1 (fun k_ hk => .inl (.inr hk)))
 have HB := Aside0.mk (Below.refl w.heap.size w)
 have H : ((impl_areWhole.f k (([l0, l1] : List (List Int)))).bind fun t249 => (if t249 = true then ((impl_multiply.f k l0 l1).bind fun bt250 => (if bt250.2 = true then (some (bt250.1, 0)) else (some (([] : List Int), 3)))) else (some (([] : List Int), 1)))) = some (r1, r2) := h
 clear h
 obtain ⟨y246, Ny246, H⟩ : ∃ y246 : List (List Int), Aside0 (y246 = (([l0, l1] : List (List Int)))) ∧ ((impl_areWhole.f k y246).bind fun t249 => (if t249 = true then ((impl_multiply.f k l0 l1).bind fun bt250 => (if bt250.2 = true then (some (bt250.1, 0)) else (some (([] : List Int), 3)))) else (some (([] : List Int), 1)))) = some (r1, r2) := ⟨_, ⟨rfl⟩, H⟩
 obtain ⟨t249, A3, H⟩ := bnd_ H
 by_cases c4 : t249 = true
 ·subst c4
  have H1 : ((impl_multiply.f k l0 l1).bind fun bt250 => (if bt250.2 = true then (some (bt250.1, 0)) else (some (([] : List Int), 3)))) = some (r1, r2) := by rw [if_pos rfl] at H; exact H
  clear H
  have H := H1
  clear H1
  obtain ⟨⟨t250, t251⟩, A5, H⟩ := bnd_ H
  dsimp only at H
  by_cases c6 : t251 = true
  ·subst c6
   have H1 : (some (t250, 0)) = some (r1, r2) := by rw [if_pos rfl] at H; exact H
   clear H
   have H := H1
   clear H1
   simp only [Option.some.injEq, Prod.mk.injEq] at H
   obtain ⟨rfl, rfl⟩ := H
   go_enter Try.func58, Try.ntmps58
   go_wp2_with (first | ((with_reducible refine gate_dst (N := 10) rfl ?_); refine Kd.N_lit (Kd.slice 2 (Kd.int .i64)) _ 29 ?hg (N' := 10) ?hd (xs := ([l0, l1] : List (List Int))) (inner := [.slice A0 l0.length c0, .slice A1 l1.length c1]) (ok := (fun k_ => ((P0_ k_ ∨ P1_ k_) ∨ w.heap.size ≤ k_))) (okp := (fun k_ => ((P0_ k_ ∨ P1_ k_) ∨ w.heap.size ≤ k_))) ?hr ?hp (fun _ hk => hk) ((show ∀ k_, w.heap.size ≤ k_ → (fun k_ => ((P0_ k_ ∨ P1_ k_) ∨ w.heap.size ≤ k_)) k_ from fun k_ hk => (.inr (Nat.le_trans (below_size hb_) hk))) _ (Nat.le_refl _)) (Below.refl _ _) (Nat.le_refl _) (by simp) ?_; (case hd => rfl); (case hg => rfl); (case hr => first | (go_simp; done) | (go_simp; rfl)); (case hp => exact (Reps.one (show Kd.FK (Kd.slice 2 (Kd.int .i64)) _ _ l0 [.slice A0 l0.length c0] from (Kd.FK_slice_mk (Kd.V_reads' (Kd.V_mono (ok' := (fun k_ => ((P0_ k_ ∨ P1_ k_) ∨ w.heap.size ≤ k_))) (HO0.out) (fun k_ hk => hk))).2.1 (Kd.V_F (Kd.V_mono (ok' := (fun k_ => ((P0_ k_ ∨ P1_ k_) ∨ w.heap.size ≤ k_))) (HO0.out) (fun k_ hk => hk))))) (Reps.one (show Kd.FK (Kd.slice 2 (Kd.int .i64)) _ _ l1 [.slice A1 l1.length c1] from (Kd.FK_slice_mk (Kd.V_reads' (Kd.V_mono (ok' := (fun k_ => ((P0_ k_ ∨ P1_ k_) ∨ w.heap.size ≤ k_))) (HO1.out) (fun k_ hk => hk))).2.1 (Kd.V_F (Kd.V_mono (ok' := (fun k_ => ((P0_ k_ ∨ P1_ k_) ∨ w.heap.size ≤ k_))) (HO1.out) (fun k_ hk => hk))))) (Reps.none _ _)))); intro v247 w7 ho8 hb hg_ hnew_; clear hg_ hnew_; (first | rw [← Ny246.out] at ho8 | (simp only [Int.reduceToNat] at ho8; rw [← Ny246.out] at ho8)); replace HO0 := Aside0.mk (Kd.V_elder' (Kd.V_below HO0.out bgo_) (Kd.N_base ho8) hb); replace HO1 := Aside0.mk (Kd.V_elder' (Kd.V_below HO1.out bgo_) (Kd.N_base ho8) hb); have HO248 := Aside0.mk (Kd.N_lower ho8 (below_size hb_)); replace HB := Aside0.mk (below_step hb_ hb); clear hb ho8; obtain ⟨Ao9, co9, eo9⟩ := Kd.N_slice HO248.out; subst eo9) | ((with_reducible refine gate_callee (f := 163) rfl ?_); refine goesL_ (some 11) rfl rfl Try.func163 (by kernel_rfl) rfl #[.slice Ao9 y246.length co9] rfl arg_ ?_; (with_reducible refine (impl_areWhole.calls k _ _ y246 true _ ?side1 ?side2 A3.out).mono ?_); (case side1 => exact Kd.C_below (Kd.N_reads' HO248.out).2.2 bgo_); (case side2 => exact (Kd.N_reads' HO248.out).2.1); rintro e w10 ⟨rfl, hb⟩; refine ⟨_, rfl, ?_⟩; replace HO0 := Aside0.mk (Kd.V_below (Kd.V_below HO0.out bgo_) hb); replace HO1 := Aside0.mk (Kd.V_below (Kd.V_below HO1.out bgo_) hb); replace HO248 := Aside0.mk (Kd.N_below (Kd.N_below HO248.out bgo_) hb); replace HB := Aside0.mk (below_step hb_ hb); (try clear hb); (try clear hb2); (try clear hk); (try clear hi)) | ((with_reducible refine gate_callee (f := 164) rfl ?_); refine goesL_ (some 16) rfl rfl Try.func164 (by kernel_rfl) rfl #[.slice A0 l0.length c0, .slice A1 l1.length c1] rfl arg_ ?_; (with_reducible refine (impl_multiply.calls k _ _ l0 _ _ l1 t250 true _ ?side1 ?side2 ?side3 ?side4 A5.out).mono ?_); (case side1 => exact Kd.C_below (Kd.V_reads' HO0.out).2.2 bgo_); (case side2 => exact (Kd.V_reads' HO0.out).2.1); (case side3 => exact Kd.C_below (Kd.V_reads' HO1.out).2.2 bgo_); (case side4 => exact (Kd.V_reads' HO1.out).2.1); rintro e w11 ⟨v252, rfl, ho0, hb⟩; refine ⟨_, rfl, ?_⟩; replace HO0 := Aside0.mk (Kd.V_elder' (Kd.V_below HO0.out bgo_) (Kd.R_base ho0) hb); replace HO1 := Aside0.mk (Kd.V_elder' (Kd.V_below HO1.out bgo_) (Kd.R_base ho0) hb); replace HO248 := Aside0.mk (Kd.N_elder' (Kd.N_below HO248.out bgo_) (Kd.R_base ho0) hb); have HO253 := Aside0.mk (Kd.R_lower (Kd.R_newM (M := fun k_ => (w.heap.size ≤ k_)) ho0 (below_size hb_) (fun k_ h_ => h_)) (below_size hb_)); replace HB := Aside0.mk (below_step hb_ hb); (try clear hb); (try clear hb2); (try clear hk); (try clear hi); (try clear ho0)))
   go_ret2
   exact ⟨_, er_, by (with_reducible repeat (first | apply Kd.R_alloc | apply Kd.R_drewN | apply Kd.R_drew)); exact Kd.R_mono HO253.out (fun _ hk => hk.1), hb_⟩
  ·replace c6 := Bool.eq_false_iff.mpr c6
   subst c6
   have H1 : (some (([] : List Int), 3)) = some (r1, r2) := by rw [if_neg (show ¬ (false = true) by decide)] at H; exact H
   clear H
   have H := H1
   clear H1
   simp only [Option.some.injEq, Prod.mk.injEq] at H
   obtain ⟨rfl, rfl⟩ := H
   go_enter Try.func58, Try.ntmps58
   go_wp2_with (first | ((with_reducible refine gate_dst (N := 10) rfl ?_); refine Kd.N_lit (Kd.slice 2 (Kd.int .i64)) _ 29 ?hg (N' := 10) ?hd (xs := ([l0, l1] : List (List Int))) (inner := [.slice A0 l0.length c0, .slice A1 l1.length c1]) (ok := (fun k_ => ((P0_ k_ ∨ P1_ k_) ∨ w.heap.size ≤ k_))) (okp := (fun k_ => ((P0_ k_ ∨ P1_ k_) ∨ w.heap.size ≤ k_))) ?hr ?hp (fun _ hk => hk) ((show ∀ k_, w.heap.size ≤ k_ → (fun k_ => ((P0_ k_ ∨ P1_ k_) ∨ w.heap.size ≤ k_)) k_ from fun k_ hk => (.inr (Nat.le_trans (below_size hb_) hk))) _ (Nat.le_refl _)) (Below.refl _ _) (Nat.le_refl _) (by simp) ?_; (case hd => rfl); (case hg => rfl); (case hr => first | (go_simp; done) | (go_simp; rfl)); (case hp => exact (Reps.one (show Kd.FK (Kd.slice 2 (Kd.int .i64)) _ _ l0 [.slice A0 l0.length c0] from (Kd.FK_slice_mk (Kd.V_reads' (Kd.V_mono (ok' := (fun k_ => ((P0_ k_ ∨ P1_ k_) ∨ w.heap.size ≤ k_))) (HO0.out) (fun k_ hk => hk))).2.1 (Kd.V_F (Kd.V_mono (ok' := (fun k_ => ((P0_ k_ ∨ P1_ k_) ∨ w.heap.size ≤ k_))) (HO0.out) (fun k_ hk => hk))))) (Reps.one (show Kd.FK (Kd.slice 2 (Kd.int .i64)) _ _ l1 [.slice A1 l1.length c1] from (Kd.FK_slice_mk (Kd.V_reads' (Kd.V_mono (ok' := (fun k_ => ((P0_ k_ ∨ P1_ k_) ∨ w.heap.size ≤ k_))) (HO1.out) (fun k_ hk => hk))).2.1 (Kd.V_F (Kd.V_mono (ok' := (fun k_ => ((P0_ k_ ∨ P1_ k_) ∨ w.heap.size ≤ k_))) (HO1.out) (fun k_ hk => hk))))) (Reps.none _ _)))); intro v247 w12 ho13 hb hg_ hnew_; clear hg_ hnew_; (first | rw [← Ny246.out] at ho13 | (simp only [Int.reduceToNat] at ho13; rw [← Ny246.out] at ho13)); replace HO0 := Aside0.mk (Kd.V_elder' (Kd.V_below HO0.out bgo_) (Kd.N_base ho13) hb); replace HO1 := Aside0.mk (Kd.V_elder' (Kd.V_below HO1.out bgo_) (Kd.N_base ho13) hb); have HO248 := Aside0.mk (Kd.N_lower ho13 (below_size hb_)); replace HB := Aside0.mk (below_step hb_ hb); clear hb ho13; obtain ⟨Ao14, co14, eo14⟩ := Kd.N_slice HO248.out; subst eo14) | ((with_reducible refine gate_callee (f := 163) rfl ?_); refine goesL_ (some 11) rfl rfl Try.func163 (by kernel_rfl) rfl #[.slice Ao14 y246.length co14] rfl arg_ ?_; (with_reducible refine (impl_areWhole.calls k _ _ y246 true _ ?side1 ?side2 A3.out).mono ?_); (case side1 => exact Kd.C_below (Kd.N_reads' HO248.out).2.2 bgo_); (case side2 => exact (Kd.N_reads' HO248.out).2.1); rintro e w15 ⟨rfl, hb⟩; refine ⟨_, rfl, ?_⟩; replace HO0 := Aside0.mk (Kd.V_below (Kd.V_below HO0.out bgo_) hb); replace HO1 := Aside0.mk (Kd.V_below (Kd.V_below HO1.out bgo_) hb); replace HO248 := Aside0.mk (Kd.N_below (Kd.N_below HO248.out bgo_) hb); replace HB := Aside0.mk (below_step hb_ hb); (try clear hb); (try clear hb2); (try clear hk); (try clear hi)) | ((with_reducible refine gate_callee (f := 164) rfl ?_); refine goesL_ (some 16) rfl rfl Try.func164 (by kernel_rfl) rfl #[.slice A0 l0.length c0, .slice A1 l1.length c1] rfl arg_ ?_; (with_reducible refine (impl_multiply.calls k _ _ l0 _ _ l1 t250 false _ ?side1 ?side2 ?side3 ?side4 A5.out).mono ?_); (case side1 => exact Kd.C_below (Kd.V_reads' HO0.out).2.2 bgo_); (case side2 => exact (Kd.V_reads' HO0.out).2.1); (case side3 => exact Kd.C_below (Kd.V_reads' HO1.out).2.2 bgo_); (case side4 => exact (Kd.V_reads' HO1.out).2.1); rintro e w16 ⟨v252, rfl, ho0, hb⟩; refine ⟨_, rfl, ?_⟩; replace HO0 := Aside0.mk (Kd.V_elder' (Kd.V_below HO0.out bgo_) (Kd.R_base ho0) hb); replace HO1 := Aside0.mk (Kd.V_elder' (Kd.V_below HO1.out bgo_) (Kd.R_base ho0) hb); replace HO248 := Aside0.mk (Kd.N_elder' (Kd.N_below HO248.out bgo_) (Kd.R_base ho0) hb); have HO253 := Aside0.mk (Kd.R_lower (Kd.R_newM (M := fun k_ => (w.heap.size ≤ k_)) ho0 (below_size hb_) (fun k_ h_ => h_)) (below_size hb_)); replace HB := Aside0.mk (below_step hb_ hb); (try clear hb); (try clear hb2); (try clear hk); (try clear hi); (try clear ho0)))
   go_ret2
   exact ⟨_, er_, by first | exact Kd.R_nil _ _ _ _ _ | exact Kd.N_nil _ _ _ _ _ | exact Kd.V_nil _ _ _ _ _ | exact Kd.Q_nil _ _ _ _ _ | exact Kd.S_nil _ _ _ _ _, hb_⟩
 ·replace c4 := Bool.eq_false_iff.mpr c4
  subst c4
  have H1 : (some (([] : List Int), 1)) = some (r1, r2) := by rw [if_neg (show ¬ (false = true) by decide)] at H; exact H
  clear H
  have H := H1
  clear H1
  simp only [Option.some.injEq, Prod.mk.injEq] at H
  obtain ⟨rfl, rfl⟩ := H
  go_enter Try.func58, Try.ntmps58
  go_wp2_with (first | ((with_reducible refine gate_dst (N := 10) rfl ?_); refine Kd.N_lit (Kd.slice 2 (Kd.int .i64)) _ 29 ?hg (N' := 10) ?hd (xs := ([l0, l1] : List (List Int))) (inner := [.slice A0 l0.length c0, .slice A1 l1.length c1]) (ok := (fun k_ => ((P0_ k_ ∨ P1_ k_) ∨ w.heap.size ≤ k_))) (okp := (fun k_ => ((P0_ k_ ∨ P1_ k_) ∨ w.heap.size ≤ k_))) ?hr ?hp (fun _ hk => hk) ((show ∀ k_, w.heap.size ≤ k_ → (fun k_ => ((P0_ k_ ∨ P1_ k_) ∨ w.heap.size ≤ k_)) k_ from fun k_ hk => (.inr (Nat.le_trans (below_size hb_) hk))) _ (Nat.le_refl _)) (Below.refl _ _) (Nat.le_refl _) (by simp) ?_; (case hd => rfl); (case hg => rfl); (case hr => first | (go_simp; done) | (go_simp; rfl)); (case hp => exact (Reps.one (show Kd.FK (Kd.slice 2 (Kd.int .i64)) _ _ l0 [.slice A0 l0.length c0] from (Kd.FK_slice_mk (Kd.V_reads' (Kd.V_mono (ok' := (fun k_ => ((P0_ k_ ∨ P1_ k_) ∨ w.heap.size ≤ k_))) (HO0.out) (fun k_ hk => hk))).2.1 (Kd.V_F (Kd.V_mono (ok' := (fun k_ => ((P0_ k_ ∨ P1_ k_) ∨ w.heap.size ≤ k_))) (HO0.out) (fun k_ hk => hk))))) (Reps.one (show Kd.FK (Kd.slice 2 (Kd.int .i64)) _ _ l1 [.slice A1 l1.length c1] from (Kd.FK_slice_mk (Kd.V_reads' (Kd.V_mono (ok' := (fun k_ => ((P0_ k_ ∨ P1_ k_) ∨ w.heap.size ≤ k_))) (HO1.out) (fun k_ hk => hk))).2.1 (Kd.V_F (Kd.V_mono (ok' := (fun k_ => ((P0_ k_ ∨ P1_ k_) ∨ w.heap.size ≤ k_))) (HO1.out) (fun k_ hk => hk))))) (Reps.none _ _)))); intro v247 w17 ho18 hb hg_ hnew_; clear hg_ hnew_; (first | rw [← Ny246.out] at ho18 | (simp only [Int.reduceToNat] at ho18; rw [← Ny246.out] at ho18)); replace HO0 := Aside0.mk (Kd.V_elder' (Kd.V_below HO0.out bgo_) (Kd.N_base ho18) hb); replace HO1 := Aside0.mk (Kd.V_elder' (Kd.V_below HO1.out bgo_) (Kd.N_base ho18) hb); have HO248 := Aside0.mk (Kd.N_lower ho18 (below_size hb_)); replace HB := Aside0.mk (below_step hb_ hb); clear hb ho18; obtain ⟨Ao19, co19, eo19⟩ := Kd.N_slice HO248.out; subst eo19) | ((with_reducible refine gate_callee (f := 163) rfl ?_); refine goesL_ (some 11) rfl rfl Try.func163 (by kernel_rfl) rfl #[.slice Ao19 y246.length co19] rfl arg_ ?_; (with_reducible refine (impl_areWhole.calls k _ _ y246 false _ ?side1 ?side2 A3.out).mono ?_); (case side1 => exact Kd.C_below (Kd.N_reads' HO248.out).2.2 bgo_); (case side2 => exact (Kd.N_reads' HO248.out).2.1); rintro e w20 ⟨rfl, hb⟩; refine ⟨_, rfl, ?_⟩; replace HO0 := Aside0.mk (Kd.V_below (Kd.V_below HO0.out bgo_) hb); replace HO1 := Aside0.mk (Kd.V_below (Kd.V_below HO1.out bgo_) hb); replace HO248 := Aside0.mk (Kd.N_below (Kd.N_below HO248.out bgo_) hb); replace HB := Aside0.mk (below_step hb_ hb); (try clear hb); (try clear hb2); (try clear hk); (try clear hi)))
  go_ret2
  exact ⟨_, er_, by first | exact Kd.R_nil _ _ _ _ _ | exact Kd.N_nil _ _ _ _ _ | exact Kd.V_nil _ _ _ _ _ | exact Kd.Q_nil _ _ _ _ _ | exact Kd.S_nil _ _ _ _ _, hb_⟩

/-! ### spec_l01In: function 150 -/
def spec_l01In.f (a0 : Int) (a1 : Int) (a2 : Int) : Option (Bool) := if a0 ≥ a1 then (some (decide (a0 ≤ a2))) else (some false)
set_option maxHeartbeats 8000000 in
set_option maxRecDepth 100000 in
theorem spec_l01In.calls (a0 : Int) (a1 : Int) (a2 : Int) (r : Bool) (w : World) (h : spec_l01In.f a0 a1 a2 = some r) :
  Calls Try.prog 150 #[.int .i64 a0, .int .i64 a1, .int .i64 a2] w fun e w' => e = .returned (.bool r) ∧ Drawn0 w w' := by
 have H : (if a0 ≥ a1 then (some (decide (a0 ≤ a2))) else (some false)) = some r := h
 clear h
 by_cases c4 : a0 ≥ a1
 ·rw [if_pos c4] at H
  have c4b0 := decide_eq_true c4
  clear c4
  obtain rfl := Option.some.inj H
  go_enter Try.func150, Try.ntmps150
  go_wp2
  go_ret
  exact ⟨es_, by repeat (first | exact Drawn0.refl _ | apply Drawn0.step)⟩
 ·rw [if_neg c4] at H
  have c4b0 := decide_eq_false c4
  clear c4
  obtain rfl := Option.some.inj H
  go_enter Try.func150, Try.ntmps150
  go_wp2
  go_ret
  exact ⟨es_, by repeat (first | exact Drawn0.refl _ | apply Drawn0.step)⟩

/-! ### spec_l01Poly: function 165 -/
def spec_l01Poly.l0 : Nat → List Int → Int → Option (Bool)
 | 0, _, _ => none
 | k + 1, x0, x3 => if x3 < (x0.length : Int) then (if 0 ≤ x3 then ((spec_l01In.f (rd x0 x3) (-1000000000000000) 1000000000000000).bind fun t255 => (if t255 = true then (spec_l01Poly.l0 k x0 (wrap64 (x3 + 1))) else (some false))) else (none)) else (if (x0.length : Int) ≤ 40 then (if (x0.length : Int) = 0 then (some true) else (if 0 ≤ (wrap64 ((x0.length : Int) - 1)) then (if (wrap64 ((x0.length : Int) - 1)) < (x0.length : Int) then (some ((rd x0 (wrap64 ((x0.length : Int) - 1))) != 0)) else (none)) else (none))) else (some false))
def spec_l01Poly.f (k : Nat) (l0 : List Int) : Option (Bool) := spec_l01Poly.l0 k l0 0
set_option maxHeartbeats 8000000 in
set_option maxRecDepth 100000 in
theorem spec_l01Poly.calls (k : Nat) (A0 : Option Addr) (c0 : Nat) (l0 : List Int) (r : Bool) (w : World) (hr0 : Kd.C (Kd.int .i64) w A0 l0.length l0) (hc0 : l0.length ≤ c0) (h : spec_l01Poly.f k l0 = some r) :
  Calls Try.prog 165 #[.slice A0 l0.length c0] w fun e w' => e = .returned (.bool r) ∧ Drawn0 w w' := by
 have HR0 := Aside0.mk hr0
 have HC0 := Aside0.mk hc0
 clear hr0 hc0
 have H : (spec_l01Poly.l0 k l0 0) = some r := h
 clear h
 have H' := Aside0.mk H
 clear H
 go_enter Try.func165, Try.ntmps165
 go_wp2
 go_loopg [3] k (fun kq v3 w' => ∃ (x3_1 : Int), v3 = .int .i64 x3_1 ∧ Aside0 (spec_l01Poly.l0 kq l0 x3_1 = some r) ∧ Aside0 (kq ≤ k) ∧ Drawn0 w w')
 case atStart => exact ⟨(0), es_, H', ⟨Nat.le_refl _⟩, by repeat (first | exact Drawn0.refl _ | apply Drawn0.step)⟩
 case round =>
  clear H'
  obtain ⟨x3_1, rfl, HA, HK1, ⟨m1, rfl⟩⟩ := hrel
  cases gk with
  | zero => exact absurd HA.out (by simp [spec_l01Poly.l0])
  | succ k1 =>
   have H := HA.out
   clear HA
   simp only [spec_l01Poly.l0] at H
   by_cases c2 : x3_1 < (l0.length : Int)
   ·rw [if_pos c2] at H
    have c2b0 := decide_eq_true c2
    clear c2
    obtain ⟨c3, H⟩ := itn_ H
    have c3b0 := decide_eq_true c3
    clear c3
    obtain ⟨t255, A4, H⟩ := bnd_ H
    by_cases c5 : t255 = true
    ·subst c5
     have H1 : (spec_l01Poly.l0 k1 l0 (wrap64 (x3_1 + 1))) = some r := by rw [if_pos rfl] at H; exact H
     clear H
     have H := H1
     clear H1
     have H' := Aside0.mk H
     clear H
     have p254 : 0 ≤ (x3_1 : Int) := od_
     have q254 : x3_1 < (l0.length : Int) := od_
     obtain ⟨ad254, e254, hx254_0⟩ := Kd.at_int HR0.out x3_1 p254 q254
     cases e254
     replace p254 := eq_true p254
     replace q254 := eq_true q254
     go_wp2_with (first | ((with_reducible refine gate_callee (f := 150) rfl ?_); refine goesL_ (some 14) rfl rfl Try.func150 (by kernel_rfl) rfl #[.int .i64 (rd l0 x3_1), .int .i64 (-1000000000000000), .int .i64 1000000000000000] rfl arg_ ?_; (with_reducible refine (spec_l01In.calls (rd l0 x3_1) (-1000000000000000) 1000000000000000 true _ A4.out).mono ?_); rintro e w' ⟨rfl, ⟨nd, rfl⟩⟩; refine ⟨_, rfl, ?_⟩))
     go_roundg k1
     case measure => have := HK1.out; omega
     case rel => exact ⟨(wrap64 (x3_1 + 1)), es_, H', ⟨by have := HK1.out; omega⟩, by repeat (first | exact Drawn0.refl _ | apply Drawn0.step)⟩
    ·replace c5 := Bool.eq_false_iff.mpr c5
     subst c5
     have H1 : (some false) = some r := by rw [if_neg (show ¬ (false = true) by decide)] at H; exact H
     clear H
     have H := H1
     clear H1
     obtain rfl := Option.some.inj H
     have p254 : 0 ≤ (x3_1 : Int) := od_
     have q254 : x3_1 < (l0.length : Int) := od_
     obtain ⟨ad254, e254, hx254_0⟩ := Kd.at_int HR0.out x3_1 p254 q254
     cases e254
     replace p254 := eq_true p254
     replace q254 := eq_true q254
     go_wp2_with (first | ((with_reducible refine gate_callee (f := 150) rfl ?_); refine goesL_ (some 14) rfl rfl Try.func150 (by kernel_rfl) rfl #[.int .i64 (rd l0 x3_1), .int .i64 (-1000000000000000), .int .i64 1000000000000000] rfl arg_ ?_; (with_reducible refine (spec_l01In.calls (rd l0 x3_1) (-1000000000000000) 1000000000000000 false _ A4.out).mono ?_); rintro e w' ⟨rfl, ⟨nd, rfl⟩⟩; refine ⟨_, rfl, ?_⟩))
     go_ret
     exact ⟨es_, by repeat (first | exact Drawn0.refl _ | apply Drawn0.step)⟩
   ·rw [if_neg c2] at H
    have c2b0 := decide_eq_false c2
    clear c2
    by_cases c6 : (l0.length : Int) ≤ 40
    ·rw [if_pos c6] at H
     have c6b0 := decide_eq_true c6
     have c6b1 : decide (l0.length ≤ 40) = true := decide_eq_true (by omega)
     clear c6
     by_cases c7 : (l0.length : Int) = 0
     ·rw [if_pos c7] at H
      have c7b0 : ((l0.length : Int) == 0) = true := beq_iff_eq.mpr c7
      have c7b1 : ((l0.length : Int) != 0) = false := bne_eq_false_iff_eq.mpr c7
      clear c7
      obtain rfl := Option.some.inj H
      go_wp2
      go_ret
      exact ⟨es_, by repeat (first | exact Drawn0.refl _ | apply Drawn0.step)⟩
     ·rw [if_neg c7] at H
      have c7b0 : ((l0.length : Int) == 0) = false := beq_eq_false_iff_ne.mpr c7
      have c7b1 : ((l0.length : Int) != 0) = true := bne_iff_ne.mpr c7
      have c7b2 : ¬ (l0 = []) := fun h_ => c7 (by rw [h_]; rfl)
      obtain ⟨ji8, hji8⟩ : ∃ j_ : Int, (wrap64 ((l0.length : Int) - 1)) = j_ := ⟨_, rfl⟩
      (try rw [hji8])
      replace H : (if 0 ≤ (ji8) then (if (ji8) < (l0.length : Int) then (some ((rd l0 (ji8)) != 0)) else (none)) else (none)) = some r := by first | (rw [hji8] at H; exact H) | (simp only [hji8] at H ⊢; exact H)
      have hji8w : (IntKind.i64.wrap ((l0.length : Int) - 1)) = ji8 := (i64_w _).trans hji8
      obtain ⟨c9, H⟩ := itn_ H
      have c9b0 := decide_eq_true c9
      clear c9
      obtain ⟨c10, H⟩ := itn_ H
      have c10b0 := decide_eq_true c10
      clear c10
      obtain rfl := Option.some.inj H
      have p256 : 0 ≤ ((ji8) : Int) := od_
      have q256 : (ji8) < (l0.length : Int) := od_
      obtain ⟨ad256, e256, hx256_0⟩ := Kd.at_int HR0.out (ji8) p256 q256
      cases e256
      replace p256 := eq_true p256
      replace q256 := eq_true q256
      go_wp2
      go_ret
      exact ⟨by first | rfl | (simp; done) | (simp only [← hji8] <;> (first | rfl | simp)) | (simp [*]; done), by repeat (first | exact Drawn0.refl _ | apply Drawn0.step)⟩
    ·rw [if_neg c6] at H
     have c6b0 := decide_eq_false c6
     have c6b1 : decide (l0.length ≤ 40) = false := decide_eq_false (by omega)
     clear c6
     obtain rfl := Option.some.inj H
     go_wp2
     go_ret
     exact ⟨es_, by repeat (first | exact Drawn0.refl _ | apply Drawn0.step)⟩

/-! ### spec_l01More: function 174 -/
def spec_l01More.f (a0 : Int) (a1 : Int) (a2 : Int) : Option (Int × Bool) := if a1 = 0 then ((spec_l01In.f (wrap64 (a0 + (wrap64 (a1 * a2)))) (-1000000000000000) 1000000000000000).bind fun t257 => (some (wrap64 (a0 + (wrap64 (a1 * a2))), t257))) else (if (mx a1 (wrap64 (-a1))) = 0 then (none) else (if (mx a2 (wrap64 (-a2))) > (wrap64 (Int.tdiv (1000000000000000 : Int) (mx a1 (wrap64 (-a1))))) then (some (0, false)) else ((spec_l01In.f (wrap64 (a0 + (wrap64 (a1 * a2)))) (-1000000000000000) 1000000000000000).bind fun t258 => (some (wrap64 (a0 + (wrap64 (a1 * a2))), t258)))))
set_option maxHeartbeats 8000000 in
set_option maxRecDepth 100000 in
theorem spec_l01More.calls (a0 : Int) (a1 : Int) (a2 : Int) (r1 : Int) (r2 : Bool) (w : World) (h : spec_l01More.f a0 a1 a2 = some (r1, r2)) :
  Calls Try.prog 174 #[.int .i64 a0, .int .i64 a1, .int .i64 a2] w fun e w' => e = .returned (.tuple #[.int .i64 r1, .bool r2]) ∧ Below w.heap.size w w' := by
 have HB := Aside0.mk (Below.refl w.heap.size w)
 have H : (if a1 = 0 then ((spec_l01In.f (wrap64 (a0 + (wrap64 (a1 * a2)))) (-1000000000000000) 1000000000000000).bind fun t257 => (some (wrap64 (a0 + (wrap64 (a1 * a2))), t257))) else (if (mx a1 (wrap64 (-a1))) = 0 then (none) else (if (mx a2 (wrap64 (-a2))) > (wrap64 (Int.tdiv (1000000000000000 : Int) (mx a1 (wrap64 (-a1))))) then (some (0, false)) else ((spec_l01In.f (wrap64 (a0 + (wrap64 (a1 * a2)))) (-1000000000000000) 1000000000000000).bind fun t258 => (some (wrap64 (a0 + (wrap64 (a1 * a2))), t258)))))) = some (r1, r2) := h
 clear h
 by_cases c4 : a1 = 0
 ·rw [if_pos c4] at H
  have c4b0 : (a1 == 0) = true := beq_iff_eq.mpr c4
  have c4b1 : (a1 != 0) = false := bne_eq_false_iff_eq.mpr c4
  clear c4
  obtain ⟨t257, A5, H⟩ := bnd_ H
  simp only [Option.some.injEq, Prod.mk.injEq] at H
  obtain ⟨rfl, rfl⟩ := H
  go_enter Try.func174, Try.ntmps174
  go_wp2_with (first | ((with_reducible refine gate_callee (f := 150) rfl ?_); refine goesL_ (some 30) rfl rfl Try.func150 (by kernel_rfl) rfl #[.int .i64 (wrap64 (a0 + (wrap64 (a1 * a2)))), .int .i64 (-1000000000000000), .int .i64 1000000000000000] rfl arg_ ?_; (with_reducible refine (spec_l01In.calls (wrap64 (a0 + (wrap64 (a1 * a2)))) (-1000000000000000) 1000000000000000 t257 _ A5.out).mono ?_); rintro e w' ⟨rfl, ⟨nd, rfl⟩⟩; refine ⟨_, rfl, ?_⟩))
  go_ret2
  exact ⟨er_, hb_⟩
 ·rw [if_neg c4] at H
  have c4b0 : (a1 == 0) = false := beq_eq_false_iff_ne.mpr c4
  have c4b1 : (a1 != 0) = true := bne_iff_ne.mpr c4
  obtain ⟨ji6, hji6⟩ : ∃ j_ : Int, (mx a2 (wrap64 (-a2))) = j_ := ⟨_, rfl⟩
  (try rw [hji6])
  replace H : (if (mx a1 (wrap64 (-a1))) = 0 then (none) else (if (ji6) > (wrap64 (Int.tdiv (1000000000000000 : Int) (mx a1 (wrap64 (-a1))))) then (some (0, false)) else ((spec_l01In.f (wrap64 (a0 + (wrap64 (a1 * a2)))) (-1000000000000000) 1000000000000000).bind fun t258 => (some (wrap64 (a0 + (wrap64 (a1 * a2))), t258))))) = some (r1, r2) := by first | (rw [hji6] at H; exact H) | (simp only [hji6] at H ⊢; exact H)
  have hji6_ : (if a2 < (wrap64 (-a2)) then (wrap64 (-a2)) else a2) = ji6 := hji6
  obtain ⟨ji7, hji7⟩ : ∃ j_ : Int, (mx a1 (wrap64 (-a1))) = j_ := ⟨_, rfl⟩
  (try rw [hji7])
  replace H : (if (ji7) = 0 then (none) else (if (ji6) > (wrap64 (Int.tdiv (1000000000000000 : Int) (ji7))) then (some (0, false)) else ((spec_l01In.f (wrap64 (a0 + (wrap64 (a1 * a2)))) (-1000000000000000) 1000000000000000).bind fun t258 => (some (wrap64 (a0 + (wrap64 (a1 * a2))), t258))))) = some (r1, r2) := by first | (rw [hji7] at H; exact H) | (simp only [hji7] at H ⊢; exact H)
  have hji7_ : (if a1 < (wrap64 (-a1)) then (wrap64 (-a1)) else a1) = ji7 := hji7
  by_cases c8 : (ji7) = 0
  ·rw [if_pos c8] at H
   exact absurd H (by simp)
  ·rw [if_neg c8] at H
   have c8b0 : ((ji7) == 0) = false := beq_eq_false_iff_ne.mpr c8
   have c8b1 : ((ji7) != 0) = true := bne_iff_ne.mpr c8
   by_cases c9 : (ji6) > (wrap64 (Int.tdiv (1000000000000000 : Int) (ji7)))
   ·rw [if_pos c9] at H
    have c9b0 := decide_eq_true c9
    clear c9
    simp only [Option.some.injEq, Prod.mk.injEq] at H
    obtain ⟨rfl, rfl⟩ := H
    go_enter Try.func174, Try.ntmps174
    go_wp2
    go_ret2
    exact ⟨by first | rfl | (simp [errW_none, errW_some] <;> rfl) | (simp only [← hji6, ← hji7]; first | rfl | (simp [errW_none, errW_some] <;> rfl)) | (simp [*, errW_none, errW_some] <;> rfl), hb_⟩
   ·rw [if_neg c9] at H
    have c9b0 := decide_eq_false c9
    clear c9
    obtain ⟨t258, A10, H⟩ := bnd_ H
    simp only [Option.some.injEq, Prod.mk.injEq] at H
    obtain ⟨rfl, rfl⟩ := H
    go_enter Try.func174, Try.ntmps174
    go_wp2_with (first | ((with_reducible refine gate_callee (f := 150) rfl ?_); refine goesL_ (some 30) rfl rfl Try.func150 (by kernel_rfl) rfl #[.int .i64 (wrap64 (a0 + (wrap64 (a1 * a2)))), .int .i64 (-1000000000000000), .int .i64 1000000000000000] rfl arg_ ?_; (with_reducible refine (spec_l01In.calls (wrap64 (a0 + (wrap64 (a1 * a2)))) (-1000000000000000) 1000000000000000 t258 _ A10.out).mono ?_); rintro e w' ⟨rfl, ⟨nd, rfl⟩⟩; refine ⟨_, rfl, ?_⟩))
    go_ret2
    exact ⟨by first | rfl | (simp [errW_none, errW_some] <;> rfl) | (simp only [← hji6, ← hji7]; first | rfl | (simp [errW_none, errW_some] <;> rfl)) | (simp [*, errW_none, errW_some] <;> rfl), hb_⟩

/-! ### spec_l01Product: function 166 -/
mutual
def spec_l01Product.j0 : Nat → List Int → List Int → Bool → Option (List Int × Bool)
 | 0, _, _, _ => none
 | k + 1, x0, x1, x19 => if x19 = true then (some ((([] : List Int)), true)) else (if (wrap64 ((wrap64 ((x0.length : Int) + (x1.length : Int))) - 1)) > 40 then (some (([] : List Int), false)) else (spec_l01Product.l0 k x0 x1 (([] : List Int)) 0))
def spec_l01Product.l0 : Nat → List Int → List Int → List Int → Int → Option (List Int × Bool)
 | 0, _, _, _, _ => none
 | k + 1, x0, x1, x6, x7 => if x7 < (wrap64 ((wrap64 ((x0.length : Int) + (x1.length : Int))) - 1)) then (spec_l01Product.l1 k x0 x1 x6 x7 0 0) else ((spec_l01Trim.f k x6).bind fun t265 => (some (t265, true)))
def spec_l01Product.l1 : Nat → List Int → List Int → List Int → Int → Int → Int → Option (List Int × Bool)
 | 0, _, _, _, _, _, _ => none
 | k + 1, x0, x1, x6, x7, x8, x9 => if x9 ≤ x7 then (spec_l01Product.j3 k x0 x1 x6 x7 x8 x9 (decide (x9 < (x0.length : Int)))) else (spec_l01Product.j3 k x0 x1 x6 x7 x8 x9 false)
def spec_l01Product.j3 : Nat → List Int → List Int → List Int → Int → Int → Int → Bool → Option (List Int × Bool)
 | 0, _, _, _, _, _, _, _ => none
 | k + 1, x0, x1, x6, x7, x8, x9, x47 => if x47 = true then (if (wrap64 (x7 - x9)) ≥ (x1.length : Int) then (spec_l01Product.l1 k x0 x1 x6 x7 x8 (wrap64 (x9 + 1))) else (if 0 ≤ x9 then (if x9 < (x0.length : Int) then (if 0 ≤ (wrap64 (x7 - x9)) then (if (wrap64 (x7 - x9)) < (x1.length : Int) then ((spec_l01More.f x8 (rd x0 x9) (rd x1 (wrap64 (x7 - x9)))).bind fun bt273 => (if bt273.2 = true then (spec_l01Product.l1 k x0 x1 x6 x7 bt273.1 (wrap64 (x9 + 1))) else (some (([] : List Int), false)))) else (none)) else (none)) else (none)) else (none))) else (if x6.length < 17592186044416 then (spec_l01Product.l0 k x0 x1 (x6 ++ [x8]) (wrap64 (x7 + 1))) else (none))
end
def spec_l01Product.f (k : Nat) (l0 : List Int) (l1 : List Int) : Option (List Int × Bool) := if (l0.length : Int) = 0 then (spec_l01Product.j0 k l0 l1 true) else (spec_l01Product.j0 k l0 l1 ((l1.length : Int) == 0))
def spec_l01Product.T14 : Bool × List (List Nat × List Nat) := (true, [([], []), ([], []), ([], []), ([1, 2], [1, 2]), ([3], [3]), ([], []), ([], []), ([], []), ([6, 7], [6, 7]), ([5, 8], [5, 8]), ([9], [9]), ([0, 4, 10], [0, 4, 10]), ([11], [11]), ([12], [12]), ([12], [12]), ([13, 11, 0, 1, 2, 3, 4, 5, 6, 7, 8, 9, 10, 11, 12, 13], [13]), ([14, 15, 0, 1, 2, 3, 4, 5, 6, 7, 8, 9, 10, 11, 12, 13, 14, 15], [14])])
def spec_l01Product.B14 : List Nat := [0, 0, 0, 6, 14, 0, 0, 0, 192, 480, 992, 2047, 4095, 8191, 8191, 16383, 65535]
theorem spec_l01Product.tab14 : rtab .any (opsOf Try.f166 14) = spec_l01Product.T14 := by kernel_rfl
theorem spec_l01Product.bits14 : waitsOk spec_l01Product.T14.2 spec_l01Product.B14 = true := by kernel_rfl
set_option maxHeartbeats 8000000 in
set_option maxRecDepth 100000 in
theorem spec_l01Product.calls (k : Nat) (A0 : Option Addr) (c0 : Nat) (l0 : List Int) (A1 : Option Addr) (c1 : Nat) (l1 : List Int) (r1 : List Int) (r2 : Bool) (w : World) (hr0 : Kd.C (Kd.int .i64) w A0 l0.length l0) (hc0 : l0.length ≤ c0) (hr1 : Kd.C (Kd.int .i64) w A1 l1.length l1) (hc1 : l1.length ≤ c1) (h : spec_l01Product.f k l0 l1 = some (r1, r2)) :
  Calls Try.prog 166 #[.slice A0 l0.length c0, .slice A1 l1.length c1] w fun e w' => ∃ v0_ : Value, e = .returned (.tuple #[v0_, .bool r2]) ∧ Kd.R (Kd.int .i64) 2 w' w.heap.size (fun _ => True) v0_ r1 ∧ Below w.heap.size w w' := by
 have HR0 := Aside0.mk hr0
 have HC0 := Aside0.mk hc0
 clear hr0 hc0
 have HR1 := Aside0.mk hr1
 have HC1 := Aside0.mk hc1
 clear hr1 hc1
 have HB := Aside0.mk (Below.refl w.heap.size w)
 have H : (if (l0.length : Int) = 0 then (spec_l01Product.j0 k l0 l1 true) else (spec_l01Product.j0 k l0 l1 ((l1.length : Int) == 0))) = some (r1, r2) := h
 clear h
 have HC3 := Aside0.mk H
 clear H
 go_enter Try.func166, Try.ntmps166
 go_upto_region 1 with (fail)
 go_cut [19] (fun v19 wc => ∃ (kq : Nat) (x19_2 : Bool), v19 = .bool x19_2 ∧ Aside0 (spec_l01Product.j0 kq l0 l1 x19_2 = some (r1, r2)) ∧ Aside0 (kq ≤ k) ∧ Aside0 (Below w.heap.size w wc))
 case first =>
  have H := HC3.out
  clear HC3
  by_cases c4 : (l0.length : Int) = 0
  ·rw [if_pos c4] at H
   have c4b0 : ((l0.length : Int) == 0) = true := beq_iff_eq.mpr c4
   have c4b1 : ((l0.length : Int) != 0) = false := bne_eq_false_iff_eq.mpr c4
   clear c4
   (first | rw [c4b0] | (simp only [i64_w, i32_w]; rw [c4b0]) | skip)
   have H' := Aside0.mk H
   clear H
   go_wp2
   go_meet
   case rel => exact ⟨_, (true), es_, H', ⟨by first | omega | exact Nat.le_refl _⟩, ⟨hb_⟩⟩
  ·rw [if_neg c4] at H
   have c4b0 : ((l0.length : Int) == 0) = false := beq_eq_false_iff_ne.mpr c4
   have c4b1 : ((l0.length : Int) != 0) = true := bne_iff_ne.mpr c4
   have c4b2 : ¬ (l0 = []) := fun h_ => c4 (by rw [h_]; rfl)
   (first | rw [c4b0] | (simp only [i64_w, i32_w]; rw [c4b0]) | skip)
   have H' := Aside0.mk H
   clear H
   go_wp2
   go_meet
   case rel => exact ⟨_, (((l1.length : Int) == 0)), es_, H', ⟨by first | omega | exact Nat.le_refl _⟩, ⟨hb_⟩⟩
 case rest =>
  clear HC3
  obtain ⟨kq, x19_2, rfl, HA, HJ2, HB⟩ := hcut
  cases kq with
  | zero => exact absurd HA.out (by simp [spec_l01Product.j0])
  | succ kj2 =>
   have H := HA.out
   clear HA
   simp only [spec_l01Product.j0] at H
   by_cases c5 : x19_2 = true
   ·subst c5
    have H1 : (some ((([] : List Int)), true)) = some (r1, r2) := by rw [if_pos rfl] at H; exact H
    clear H
    have H := H1
    clear H1
    obtain ⟨y259, Ny259, H⟩ : ∃ y259 : List Int, Aside0 (y259 = (([] : List Int))) ∧ (some (y259, true)) = some (r1, r2) := ⟨_, ⟨rfl⟩, H⟩
    simp only [Option.some.injEq, Prod.mk.injEq] at H
    obtain ⟨rfl, rfl⟩ := H
    go_wp2_with (first | ((with_reducible refine gate_dst (N := 20) rfl ?_); (try (refine gate_guard (by rfl) ?_; dsimp only)); refine Kd.R_lit (Kd.int .i64) _ 2 ?hg (N := 20) ?hd (xs := ([] : List Int)) (inner := []) (ok := fun _ => True) (okp := fun _ => True) ?hr ?hp (fun _ hk => hk) trivial (Below.refl _ _) (Nat.le_refl _) (by simp) ?_; (case hd => rfl); (case hg => rfl); (case hr => first | (go_simp; done) | (go_simp; rfl)); (case hp => exact (Reps.none _ _)); intro v260 w6 ho7 hb hg_ hnew_; clear hg_ hnew_; (first | rw [← Ny259.out] at ho7 | (simp only [Int.reduceToNat] at ho7; rw [← Ny259.out] at ho7)); have HO261 := Aside0.mk (Kd.R_lower ho7 (below_size hb_)); replace HB := Aside0.mk (below_step hb_ hb); clear hb ho7))
    go_ret2
    exact ⟨_, er_, (Kd.R_below HO261.out bgo_), hb_⟩
   ·replace c5 := Bool.eq_false_iff.mpr c5
    subst c5
    have H1 : (if (wrap64 ((wrap64 ((l0.length : Int) + (l1.length : Int))) - 1)) > 40 then (some (([] : List Int), false)) else (spec_l01Product.l0 kj2 l0 l1 (([] : List Int)) 0)) = some (r1, r2) := by rw [if_neg (show ¬ (false = true) by decide)] at H; exact H
    clear H
    have H := H1
    clear H1
    obtain ⟨y262, Ny262, H⟩ : ∃ y262 : List Int, Aside0 (y262 = (([] : List Int))) ∧ (if (wrap64 ((wrap64 ((l0.length : Int) + (l1.length : Int))) - 1)) > 40 then (some (([] : List Int), false)) else (spec_l01Product.l0 kj2 l0 l1 y262 0)) = some (r1, r2) := ⟨_, ⟨rfl⟩, H⟩
    by_cases c8 : (wrap64 ((wrap64 ((l0.length : Int) + (l1.length : Int))) - 1)) > 40
    ·rw [if_pos c8] at H
     have c8b0 := decide_eq_true c8
     clear c8
     simp only [Option.some.injEq, Prod.mk.injEq] at H
     obtain ⟨rfl, rfl⟩ := H
     go_wp2_with (first | ((with_reducible refine gate_dst (N := 21) rfl ?_); (try (refine gate_guard (by rfl) ?_; dsimp only)); refine Kd.R_lit (Kd.int .i64) _ 2 ?hg (N := 21) ?hd (xs := ([] : List Int)) (inner := []) (ok := fun _ => True) (okp := fun _ => True) ?hr ?hp (fun _ hk => hk) trivial (Below.refl _ _) (Nat.le_refl _) (by simp) ?_; (case hd => rfl); (case hg => rfl); (case hr => first | (go_simp; done) | (go_simp; rfl)); (case hp => exact (Reps.none _ _)); intro v263 w9 ho10 hb hg_ hnew_; clear hg_ hnew_; (first | rw [← Ny262.out] at ho10 | (simp only [Int.reduceToNat] at ho10; rw [← Ny262.out] at ho10)); have HO264 := Aside0.mk (Kd.R_lower ho10 (below_size hb_)); replace HB := Aside0.mk (below_step hb_ hb); clear hb ho10))
     go_ret2
     exact ⟨_, er_, by first | exact Kd.R_nil _ _ _ _ _ | exact Kd.N_nil _ _ _ _ _ | exact Kd.V_nil _ _ _ _ _ | exact Kd.Q_nil _ _ _ _ _ | exact Kd.S_nil _ _ _ _ _, hb_⟩
    ·rw [if_neg c8] at H
     have c8b0 := decide_eq_false c8
     clear c8
     have H' := Aside0.mk H
     clear H
     go_wp2_with (first | ((with_reducible refine gate_dst (N := 21) rfl ?_); (try (refine gate_guard (by rfl) ?_; dsimp only)); refine Kd.R_lit (Kd.int .i64) _ 2 ?hg (N := 21) ?hd (xs := ([] : List Int)) (inner := []) (ok := fun _ => True) (okp := fun _ => True) ?hr ?hp (fun _ hk => hk) trivial (Below.refl _ _) (Nat.le_refl _) (by simp) ?_; (case hd => rfl); (case hg => rfl); (case hr => first | (go_simp; done) | (go_simp; rfl)); (case hp => exact (Reps.none _ _)); intro v263 w11 ho12 hb hg_ hnew_; clear hg_ hnew_; (first | rw [← Ny262.out] at ho12 | (simp only [Int.reduceToNat] at ho12; rw [← Ny262.out] at ho12)); have HO264 := Aside0.mk (Kd.R_lower ho12 (below_size hb_)); replace HB := Aside0.mk (below_step hb_ hb); clear hb ho12))
     go_loopg [6, 7] kj2 (fun kq v6 v7 w' => ∃ (x6_2 : List Int) (x7_2 : Int), v7 = .int .i64 x7_2 ∧ Aside0 (spec_l01Product.l0 kq l0 l1 x6_2 x7_2 = some (r1, r2)) ∧ Aside0 (kq ≤ kj2) ∧ Aside0 (Kd.R (Kd.int .i64) 2 w' w.heap.size (fun _ => True) v6 x6_2) ∧ Aside0 (Below w.heap.size w w'))
     case atStart => exact ⟨(y262), (0), es_, H', ⟨Nat.le_refl _⟩, ⟨Kd.R_below HO264.out bgo_⟩, ⟨hb_⟩⟩
     case round =>
      clear H'
      obtain ⟨x6_2, x7_2, rfl, HA, HK2, HO_6, HB⟩ := hrel
      cases gk with
      | zero => exact absurd HA.out (by simp [spec_l01Product.l0])
      | succ k2 =>
       have H := HA.out
       clear HA
       simp only [spec_l01Product.l0] at H
       by_cases c13 : x7_2 < (wrap64 ((wrap64 ((l0.length : Int) + (l1.length : Int))) - 1))
       ·rw [if_pos c13] at H
        have c13b0 := decide_eq_true c13
        clear c13
        have H' := Aside0.mk H
        clear H
        go_wp2
        go_loopg [8, 9] k2 (fun kq v8 v9 w' => ∃ (x8_3 : Int) (x9_3 : Int), v8 = .int .i64 x8_3 ∧ v9 = .int .i64 x9_3 ∧ Aside0 (spec_l01Product.l1 kq l0 l1 x6_2 x7_2 x8_3 x9_3 = some (r1, r2)) ∧ Aside0 (kq ≤ k2) ∧ Aside0 (Kd.R (Kd.int .i64) 2 w' w.heap.size (fun _ => True) u6 x6_2) ∧ Aside0 (Below w.heap.size w w'))
        case atStart => exact ⟨(0), (0), es_, es_, H', ⟨Nat.le_refl _⟩, ⟨Kd.R_below HO_6.out bgo_⟩, ⟨hb_⟩⟩
        case round =>
         clear H'
         obtain ⟨x8_3, x9_3, rfl, rfl, HA, HK3, HO_6, HB⟩ := hrel
         cases gk with
         | zero => exact absurd HA.out (by simp [spec_l01Product.l1])
         | succ k3 =>
          have H := HA.out
          clear HA
          simp only [spec_l01Product.l1] at H
          have HC14 := Aside0.mk H
          clear H
          go_upto_region 11 with (fail)
          go_cut [47] (fun v47 wc => ∃ (kq : Nat) (x47_13 : Bool), v47 = .bool x47_13 ∧ Aside0 (spec_l01Product.j3 kq l0 l1 x6_2 x7_2 x8_3 x9_3 x47_13 = some (r1, r2)) ∧ Aside0 (kq ≤ k3) ∧ Aside0 (Kd.R (Kd.int .i64) 2 wc w.heap.size (fun _ => True) u6 x6_2) ∧ Aside0 (Below w.heap.size w wc))
          case first =>
           have H := HC14.out
           clear HC14
           by_cases c15 : x9_3 ≤ x7_2
           ·rw [if_pos c15] at H
            have c15b0 := decide_eq_true c15
            clear c15
            (first | rw [c15b0] | (simp only [i64_w, i32_w]; rw [c15b0]) | skip)
            have H' := Aside0.mk H
            clear H
            go_wp2
            go_meet
            case rel => exact ⟨_, (decide (x9_3 < (l0.length : Int))), es_, H', ⟨by have := HJ2.out; have := HK2.out; have := HK3.out; first | omega | exact Nat.le_refl _⟩, ⟨Kd.R_below HO_6.out bgo_⟩, ⟨hb_⟩⟩
           ·rw [if_neg c15] at H
            have c15b0 := decide_eq_false c15
            clear c15
            (first | rw [c15b0] | (simp only [i64_w, i32_w]; rw [c15b0]) | skip)
            have H' := Aside0.mk H
            clear H
            go_wp2
            go_meet
            case rel => exact ⟨_, (false), es_, H', ⟨by have := HJ2.out; have := HK2.out; have := HK3.out; first | omega | exact Nat.le_refl _⟩, ⟨Kd.R_below HO_6.out bgo_⟩, ⟨hb_⟩⟩
          case rest =>
           clear HC14
           obtain ⟨kq, x47_13, rfl, HA, HJ13, HO_6, HB⟩ := hcut
           cases kq with
           | zero => exact absurd HA.out (by simp [spec_l01Product.j3])
           | succ kj13 =>
            have H := HA.out
            clear HA
            simp only [spec_l01Product.j3] at H
            by_cases c16 : x47_13 = true
            ·subst c16
             have H1 : (if (wrap64 (x7_2 - x9_3)) ≥ (l1.length : Int) then (spec_l01Product.l1 kj13 l0 l1 x6_2 x7_2 x8_3 (wrap64 (x9_3 + 1))) else (if 0 ≤ x9_3 then (if x9_3 < (l0.length : Int) then (if 0 ≤ (wrap64 (x7_2 - x9_3)) then (if (wrap64 (x7_2 - x9_3)) < (l1.length : Int) then ((spec_l01More.f x8_3 (rd l0 x9_3) (rd l1 (wrap64 (x7_2 - x9_3)))).bind fun bt273 => (if bt273.2 = true then (spec_l01Product.l1 kj13 l0 l1 x6_2 x7_2 bt273.1 (wrap64 (x9_3 + 1))) else (some (([] : List Int), false)))) else (none)) else (none)) else (none)) else (none))) = some (r1, r2) := by rw [if_pos rfl] at H; exact H
             clear H
             have H := H1
             clear H1
             by_cases c17 : (wrap64 (x7_2 - x9_3)) ≥ (l1.length : Int)
             ·rw [if_pos c17] at H
              have c17b0 := decide_eq_true c17
              clear c17
              have H' := Aside0.mk H
              clear H
              go_wp2
              first | go_roundg kj13 | (refine Handed.intro kj13 ?measure ?_; rotate_left; go_step; (try simp only [add_plain]); (repeat apply Exists.intro); refine ⟨?rel, rfl⟩)
              case measure => have := HJ2.out; have := HK2.out; have := HK3.out; have := HJ13.out; omega
              case rel => exact ⟨(x8_3), (wrap64 (x9_3 + 1)), es_, es_, H', ⟨by have := HJ2.out; have := HK2.out; have := HK3.out; have := HJ13.out; omega⟩, ⟨Kd.R_below HO_6.out bgo_⟩, ⟨hb_⟩⟩
             ·rw [if_neg c17] at H
              have c17b0 := decide_eq_false c17
              clear c17
              obtain ⟨c18, H⟩ := itn_ H
              have c18b0 := decide_eq_true c18
              clear c18
              obtain ⟨c19, H⟩ := itn_ H
              have c19b0 := decide_eq_true c19
              clear c19
              obtain ⟨ji20, hji20⟩ : ∃ j_ : Int, (wrap64 (x7_2 - x9_3)) = j_ := ⟨_, rfl⟩
              (try rw [hji20])
              replace H : (if 0 ≤ (ji20) then (if (ji20) < (l1.length : Int) then ((spec_l01More.f x8_3 (rd l0 x9_3) (rd l1 (ji20))).bind fun bt273 => (if bt273.2 = true then (spec_l01Product.l1 kj13 l0 l1 x6_2 x7_2 bt273.1 (wrap64 (x9_3 + 1))) else (some (([] : List Int), false)))) else (none)) else (none)) = some (r1, r2) := by first | (rw [hji20] at H; exact H) | (simp only [hji20] at H ⊢; exact H)
              (try rw [hji20] at c17b0)
              have hji20w : (IntKind.i64.wrap (x7_2 - x9_3)) = ji20 := (i64_w _).trans hji20
              obtain ⟨c21, H⟩ := itn_ H
              have c21b0 := decide_eq_true c21
              clear c21
              obtain ⟨c22, H⟩ := itn_ H
              have c22b0 := decide_eq_true c22
              clear c22
              obtain ⟨⟨t273, t274⟩, A23, H⟩ := bnd_ H
              dsimp only at H
              by_cases c24 : t274 = true
              ·subst c24
               have H1 : (spec_l01Product.l1 kj13 l0 l1 x6_2 x7_2 t273 (wrap64 (x9_3 + 1))) = some (r1, r2) := by rw [if_pos rfl] at H; exact H
               clear H
               have H := H1
               clear H1
               have H' := Aside0.mk H
               clear H
               try go_wp2
               have n0_ := Aside0.mk (Kd.R_drew HO_6.out)
               have n1_ := Aside0.mk (below_drew1 HB.out)
               clear HO_6
               clear HB
               have HO_6 := n0_
               have HB := n1_
               clear n0_ n1_
               have p271 : 0 ≤ (x9_3 : Int) := od_
               have q271 : x9_3 < (l0.length : Int) := od_
               obtain ⟨ad271, e271, hx271_0⟩ := Kd.at_int HR0.out x9_3 p271 q271
               have hw271_0 := hx271_0
               cases e271
               (try replace hx271_0 := (HB.out.cell (World.block_lt_of_cell? w _ hx271_0)).trans hx271_0)
               replace p271 := eq_true p271
               replace q271 := eq_true q271
               have p272 : 0 ≤ ((ji20) : Int) := od_
               have q272 : (ji20) < (l1.length : Int) := od_
               obtain ⟨ad272, e272, hx272_0⟩ := Kd.at_int HR1.out (ji20) p272 q272
               have hw272_0 := hx272_0
               cases e272
               (try replace hx272_0 := (HB.out.cell (World.block_lt_of_cell? w _ hx272_0)).trans hx272_0)
               replace p272 := eq_true p272
               replace q272 := eq_true q272
               refine start_ (n := 17) (S := fun w' => w'.cell? (ad271.add (x9_3).toNat) = some (.int .i64 (rd l0 x9_3)) ∧ w'.cell? (ad272.add ((ji20)).toNat) = some (.int .i64 (rd l1 (ji20)))) (ds := []) #[false, false, false, false, false, false, false, false, false, false, false, false, false, false, false, false, false] (by kernel_rfl) rfl rfl ⟨((HB.out.cell (World.block_lt_of_cell? _ _ hw271_0)).trans hw271_0), ((HB.out.cell (World.block_lt_of_cell? _ _ hw272_0)).trans hw272_0)⟩ (fun hHeld => ?_); refine with_tabW spec_l01Product.tab14 spec_l01Product.bits14 (fun HT_ HW_ => ?_)
               generalize wc.drew = w25 at HO_6 HB hx271_0 hx272_0 hHeld ⊢
               refine pk_ 0 17 57 1 ?_
               refine pk_ 1 17 58 3 ?_
               refine pk_ 2 17 59 7 ?_
               refine pk_ 3 17 60 15 ?_
               refine pk_ 5 17 62 47 ?_
               refine pk_ 6 17 63 111 ?_
               refine pk_ 7 17 64 239 ?_
               refine pk_ 8 17 65 495 ?_
               refine pk_ 9 17 66 1007 ?_
               refine tk_ 4 17 61 1023 hHeld ?_
               refine tk_ 10 17 67 2047 hHeld ?_
               refine one_ (i := 11) (N := some 68) #[true, true, true, true, true, true, true, true, true, true, true, true, false, false, false, false, false] rfl rfl (one_of HT_.out (by kernel_rfl)) (by decide) (fun K hK => ?_)
               refine goes_ Try.func174 (by kernel_rfl) rfl #[.int .i64 x8_3, .int .i64 (rd l0 x9_3), .int .i64 (rd l1 (ji20))] (by rfl) rfl rfl (by (try simp only [List.map_toArray, List.map_cons, List.map_nil]); first | done | (simp only [hji20]; rfl) | rfl | (simp only [List.length_drop, List.length_take]; rfl)) ?_
               with_reducible refine (spec_l01More.calls x8_3 (rd l0 x9_3) (rd l1 (ji20)) t273 true _ A23.out).mono ?_
               rintro e w26 ⟨rfl, hb⟩
               refine ⟨_, rfl, ?_⟩
               have n0_ := Aside0.mk (Kd.R_below (Kd.R_below HO_6.out bgo_) hb)
               have n1_ := Aside0.mk (below_step hb_ hb)
               clear HO_6
               clear HB
               have HO_6 := n0_
               have HB := n1_
               clear n0_ n1_
               (try clear hb)
               (try clear hb2)
               (try clear hk)
               (try clear hi)
               refine hK.out _ _ ⟨((HB.out.cell (World.block_lt_of_cell? _ _ hw271_0)).trans hw271_0), ((HB.out.cell (World.block_lt_of_cell? _ _ hw272_0)).trans hw272_0)⟩ (fun hHeld => ?_)
               clear hK K
               refine norm_ (a' := ?_) ?_ ?_
               rotate_left
               ·show Act.put _ (some 68) _ = _
                simp only [Act.put, nf_]
                rfl
               refine pk_ 12 17 56 8191 ?_
               refine pk_ 13 17 69 16383 ?_
               refine pk_ 14 17 70 32767 ?_
               refine pk_ 15 17 10 65535 ?_
               refine pk_ 16 17 11 131071 ?_
               refine done_ (done_of HT_.out (by kernel_rfl)) ?_
               try go_wp2
               first | (first | go_roundg kj13 | (refine Handed.intro kj13 ?measure ?_; rotate_left; go_step; (try simp only [add_plain]); (repeat apply Exists.intro); refine ⟨?rel, rfl⟩)) | ((try subst hji20); (first | go_roundg kj13 | (refine Handed.intro kj13 ?measure ?_; rotate_left; go_step; (try simp only [add_plain]); (repeat apply Exists.intro); refine ⟨?rel, rfl⟩)))
               case measure => have := HJ2.out; have := HK2.out; have := HK3.out; have := HJ13.out; omega
               case rel => exact ⟨(t273), (wrap64 (x9_3 + 1)), es_, es_, H', ⟨by have := HJ2.out; have := HK2.out; have := HK3.out; have := HJ13.out; omega⟩, ⟨Kd.R_below HO_6.out bgo_⟩, ⟨hb_⟩⟩
              ·replace c24 := Bool.eq_false_iff.mpr c24
               subst c24
               have H1 : (some (([] : List Int), false)) = some (r1, r2) := by rw [if_neg (show ¬ (false = true) by decide)] at H; exact H
               clear H
               have H := H1
               clear H1
               simp only [Option.some.injEq, Prod.mk.injEq] at H
               obtain ⟨rfl, rfl⟩ := H
               try go_wp2
               have n0_ := Aside0.mk (Kd.R_drew HO_6.out)
               have n1_ := Aside0.mk (below_drew1 HB.out)
               clear HO_6
               clear HB
               have HO_6 := n0_
               have HB := n1_
               clear n0_ n1_
               have p271 : 0 ≤ (x9_3 : Int) := od_
               have q271 : x9_3 < (l0.length : Int) := od_
               obtain ⟨ad271, e271, hx271_0⟩ := Kd.at_int HR0.out x9_3 p271 q271
               have hw271_0 := hx271_0
               cases e271
               (try replace hx271_0 := (HB.out.cell (World.block_lt_of_cell? w _ hx271_0)).trans hx271_0)
               replace p271 := eq_true p271
               replace q271 := eq_true q271
               have p272 : 0 ≤ ((ji20) : Int) := od_
               have q272 : (ji20) < (l1.length : Int) := od_
               obtain ⟨ad272, e272, hx272_0⟩ := Kd.at_int HR1.out (ji20) p272 q272
               have hw272_0 := hx272_0
               cases e272
               (try replace hx272_0 := (HB.out.cell (World.block_lt_of_cell? w _ hx272_0)).trans hx272_0)
               replace p272 := eq_true p272
               replace q272 := eq_true q272
               refine start_ (n := 17) (S := fun w' => w'.cell? (ad271.add (x9_3).toNat) = some (.int .i64 (rd l0 x9_3)) ∧ w'.cell? (ad272.add ((ji20)).toNat) = some (.int .i64 (rd l1 (ji20)))) (ds := []) #[false, false, false, false, false, false, false, false, false, false, false, false, false, false, false, false, false] (by kernel_rfl) rfl rfl ⟨((HB.out.cell (World.block_lt_of_cell? _ _ hw271_0)).trans hw271_0), ((HB.out.cell (World.block_lt_of_cell? _ _ hw272_0)).trans hw272_0)⟩ (fun hHeld => ?_); refine with_tabW spec_l01Product.tab14 spec_l01Product.bits14 (fun HT_ HW_ => ?_)
               generalize wc.drew = w27 at HO_6 HB hx271_0 hx272_0 hHeld ⊢
               refine pk_ 0 17 57 1 ?_
               refine pk_ 1 17 58 3 ?_
               refine pk_ 2 17 59 7 ?_
               refine pk_ 3 17 60 15 ?_
               refine pk_ 5 17 62 47 ?_
               refine pk_ 6 17 63 111 ?_
               refine pk_ 7 17 64 239 ?_
               refine pk_ 8 17 65 495 ?_
               refine pk_ 9 17 66 1007 ?_
               refine tk_ 4 17 61 1023 hHeld ?_
               refine tk_ 10 17 67 2047 hHeld ?_
               refine one_ (i := 11) (N := some 68) #[true, true, true, true, true, true, true, true, true, true, true, true, false, false, false, false, false] rfl rfl (one_of HT_.out (by kernel_rfl)) (by decide) (fun K hK => ?_)
               refine goes_ Try.func174 (by kernel_rfl) rfl #[.int .i64 x8_3, .int .i64 (rd l0 x9_3), .int .i64 (rd l1 (ji20))] (by rfl) rfl rfl (by (try simp only [List.map_toArray, List.map_cons, List.map_nil]); first | done | (simp only [hji20]; rfl) | rfl | (simp only [List.length_drop, List.length_take]; rfl)) ?_
               with_reducible refine (spec_l01More.calls x8_3 (rd l0 x9_3) (rd l1 (ji20)) t273 false _ A23.out).mono ?_
               rintro e w28 ⟨rfl, hb⟩
               refine ⟨_, rfl, ?_⟩
               have n0_ := Aside0.mk (Kd.R_below (Kd.R_below HO_6.out bgo_) hb)
               have n1_ := Aside0.mk (below_step hb_ hb)
               clear HO_6
               clear HB
               have HO_6 := n0_
               have HB := n1_
               clear n0_ n1_
               (try clear hb)
               (try clear hb2)
               (try clear hk)
               (try clear hi)
               refine hK.out _ _ ⟨((HB.out.cell (World.block_lt_of_cell? _ _ hw271_0)).trans hw271_0), ((HB.out.cell (World.block_lt_of_cell? _ _ hw272_0)).trans hw272_0)⟩ (fun hHeld => ?_)
               clear hK K
               refine norm_ (a' := ?_) ?_ ?_
               rotate_left
               ·show Act.put _ (some 68) _ = _
                simp only [Act.put, nf_]
                rfl
               refine pk_ 12 17 56 8191 ?_
               refine pk_ 13 17 69 16383 ?_
               refine pk_ 14 17 70 32767 ?_
               refine pk_ 15 17 10 65535 ?_
               refine pk_ 16 17 11 131071 ?_
               refine done_ (done_of HT_.out (by kernel_rfl)) ?_
               try go_wp2
               go_ret2
               exact ⟨_, by first | rfl | (simp [errW_none, errW_some] <;> rfl) | (simp only [← hji20]; first | rfl | (simp [errW_none, errW_some] <;> rfl)) | (simp [*, errW_none, errW_some] <;> rfl), by first | exact Kd.R_nil _ _ _ _ _ | exact Kd.N_nil _ _ _ _ _ | exact Kd.V_nil _ _ _ _ _ | exact Kd.Q_nil _ _ _ _ _ | exact Kd.S_nil _ _ _ _ _, hb_⟩
            ·replace c16 := Bool.eq_false_iff.mpr c16
             subst c16
             have H1 : (if x6_2.length < 17592186044416 then (spec_l01Product.l0 kj13 l0 l1 (x6_2 ++ [x8_3]) (wrap64 (x7_2 + 1))) else (none)) = some (r1, r2) := by rw [if_neg (show ¬ (false = true) by decide)] at H; exact H
             clear H
             have H := H1
             clear H1
             obtain ⟨c29, H⟩ := itn_ H
             have LMc29 := Aside0.mk c29
             clear c29
             obtain ⟨y268, Ny268, H⟩ : ∃ y268 : List Int, Aside0 (y268 = (x6_2 ++ [x8_3])) ∧ (spec_l01Product.l0 kj13 l0 l1 y268 (wrap64 (x7_2 + 1))) = some (r1, r2) := ⟨_, ⟨rfl⟩, H⟩
             have H' := Aside0.mk H
             clear H
             go_wp2_with (first | ((with_reducible refine gate_builtin (b := .append) (xs := #[.tmp 74, .tmp 76]) rfl ?_); (try (refine gate_guard (by rfl) ?_; dsimp only)); at_builtin; refine Kd.R_append (Kd.int .i64) (w0 := w) w.heap.size rfl (.tmp 74) (.tmp 76) 29 2 (.int .i64 0) 8 rfl Try.underlying29 info2 rfl (by decide) (by omega) u6 x6_2 x8_3 [.int .i64 x8_3] (fun _ => True) (fun _ => False) rfl rfl ?aP (fun _ hk => hk.elim) ?aF ?aO ?aB ?aS ?aL ?_; (case aP => exact rfl); (case aB => exact hb_); (case aF => exact (fun _ _ => trivial)); (case aO => exact (Kd.R_below HO_6.out bgo_)); (case aS => exact (below_size hb_)); (case aL => have := LMc29.out; omega); intro v269 w30 ho hb hg hat; rw [← Ny268.out] at ho; replace HB := Aside0.mk (hb); have HO270 := Aside0.mk (ho); clear HO_6; clear ho hb hg hat))
             first | go_roundg kj13 | (refine Handed.intro kj13 ?measure ?_; rotate_left; go_step; (try simp only [add_plain]); (repeat apply Exists.intro); refine ⟨?rel, rfl⟩)
             case measure => have := HJ2.out; have := HK2.out; have := HK3.out; have := HJ13.out; omega
             case rel => exact ⟨(y268), (wrap64 (x7_2 + 1)), es_, H', ⟨by have := HJ2.out; have := HK2.out; have := HK3.out; have := HJ13.out; omega⟩, ⟨Kd.R_below HO270.out bgo_⟩, ⟨hb_⟩⟩
       ·rw [if_neg c13] at H
        have c13b0 := decide_eq_false c13
        clear c13
        obtain ⟨t265, A31, H⟩ := bnd_ H
        simp only [Option.some.injEq, Prod.mk.injEq] at H
        obtain ⟨rfl, rfl⟩ := H
        obtain ⟨Ao32, co32, eo32⟩ := Kd.R_slice HO_6.out
        subst eo32
        go_wp2_with (first | ((with_reducible refine gate_callee (f := 175) rfl ?_); refine goesL_ (some 79) rfl rfl Try.func175 (by kernel_rfl) rfl #[.slice Ao32 x6_2.length co32] rfl arg_ ?_; (with_reducible refine (spec_l01Trim.calls k2 _ _ x6_2 t265 _ ?side1 ?side2 A31.out).mono ?_); (case side1 => exact Kd.C_below (Kd.R_reads' HO_6.out).2.2 bgo_); (case side2 => exact (Kd.R_reads' HO_6.out).2.1); rintro e w33 ⟨v266, rfl, ho0, hb⟩; refine ⟨_, rfl, ?_⟩; have HO267 := Aside0.mk (Kd.R_lower (Kd.R_new' ho0 (Kd.R_lt (Kd.R_below HO_6.out bgo_))) (below_size hb_)); replace HO_6 := Aside0.mk (Kd.R_elder' (Kd.R_below HO_6.out bgo_) (Kd.R_base ho0) hb); replace HB := Aside0.mk (below_step hb_ hb); (try clear hb); (try clear hb2); (try clear hk); (try clear hi); (try clear ho0)))
        go_ret2
        exact ⟨_, er_, by (with_reducible repeat (first | apply Kd.R_alloc | apply Kd.R_drewN | apply Kd.R_drew)); exact Kd.R_mono HO267.out (fun _ hk => trivial), hb_⟩

/-! ### spec_MultiplyWhole: function 59 -/
def spec_MultiplyWhole.j0 : Nat → List Int → List Int → Bool → Option (List Int × Int)
 | 0, _, _, _ => none
 | k + 1, x0, x1, x15 => if x15 = true then (some (([] : List Int), 1)) else ((spec_l01Product.f k x0 x1).bind fun bt277 => (if bt277.2 = true then (some (bt277.1, 0)) else (some (([] : List Int), 3))))
def spec_MultiplyWhole.f (k : Nat) (l0 : List Int) (l1 : List Int) : Option (List Int × Int) := (spec_l01Poly.f k l0).bind fun t275 => (if t275 = true then ((spec_l01Poly.f k l1).bind fun t276 => (spec_MultiplyWhole.j0 k l0 l1 (!t276))) else (spec_MultiplyWhole.j0 k l0 l1 true))
set_option maxHeartbeats 8000000 in
set_option maxRecDepth 100000 in
theorem spec_MultiplyWhole.calls (k : Nat) (A0 : Option Addr) (c0 : Nat) (l0 : List Int) (A1 : Option Addr) (c1 : Nat) (l1 : List Int) (r1 : List Int) (r2 : Int) (w : World) (hr0 : Kd.C (Kd.int .i64) w A0 l0.length l0) (hc0 : l0.length ≤ c0) (hr1 : Kd.C (Kd.int .i64) w A1 l1.length l1) (hc1 : l1.length ≤ c1) (h : spec_MultiplyWhole.f k l0 l1 = some (r1, r2)) :
  Calls Try.prog 59 #[.slice A0 l0.length c0, .slice A1 l1.length c1] w fun e w' => ∃ v0_ : Value, e = .returned (.tuple #[v0_, .int .i64 r2]) ∧ Kd.R (Kd.int .i64) 2 w' w.heap.size (fun _ => True) v0_ r1 ∧ Below w.heap.size w w' := by
 have HR0 := Aside0.mk hr0
 have HC0 := Aside0.mk hc0
 clear hr0 hc0
 have HR1 := Aside0.mk hr1
 have HC1 := Aside0.mk hc1
 clear hr1 hc1
 have HB := Aside0.mk (Below.refl w.heap.size w)
 have H : ((spec_l01Poly.f k l0).bind fun t275 => (if t275 = true then ((spec_l01Poly.f k l1).bind fun t276 => (spec_MultiplyWhole.j0 k l0 l1 (!t276))) else (spec_MultiplyWhole.j0 k l0 l1 true))) = some (r1, r2) := h
 clear h
 have HC3 := Aside0.mk H
 clear H
 go_enter Try.func59, Try.ntmps59
 go_upto_region 1 with (fail)
 go_cut [15] (fun v15 wc => ∃ (kq : Nat) (x15_2 : Bool), v15 = .bool x15_2 ∧ Aside0 (spec_MultiplyWhole.j0 kq l0 l1 x15_2 = some (r1, r2)) ∧ Aside0 (kq ≤ k) ∧ Aside0 (Below w.heap.size w wc))
 case first =>
  have H := HC3.out
  clear HC3
  obtain ⟨t275, A4, H⟩ := bnd_ H
  by_cases c5 : t275 = true
  ·subst c5
   have H1 : ((spec_l01Poly.f k l1).bind fun t276 => (spec_MultiplyWhole.j0 k l0 l1 (!t276))) = some (r1, r2) := by rw [if_pos rfl] at H; exact H
   clear H
   have H := H1
   clear H1
   obtain ⟨t276, A6, H⟩ := bnd_ H
   have H' := Aside0.mk H
   clear H
   go_wp2_with (first | ((with_reducible refine gate_callee (f := 165) rfl ?_); refine goesL_ (some 9) rfl rfl Try.func165 (by kernel_rfl) rfl #[.slice A0 l0.length c0] rfl arg_ ?_; (with_reducible refine (spec_l01Poly.calls k _ _ l0 true _ ?side1 ?side2 A4.out).mono ?_); (case side1 => exact Kd.C_below (Kd.C_below HR0.out HB.out) bgo_); (case side2 => exact HC0.out); rintro e w' ⟨rfl, ⟨nd, rfl⟩⟩; refine ⟨_, rfl, ?_⟩) | (go_at_call 165; (with_reducible refine (spec_l01Poly.calls k _ _ l1 t276 _ ?side1 ?side2 A6.out).mono ?_); (case side1 => exact Kd.C_below (Kd.C_below HR1.out hb_) bgo_); (case side2 => exact HC1.out); rintro e w' ⟨rfl, ⟨nd, rfl⟩⟩))
   go_meet
   case rel => exact ⟨_, (!t276), es_, H', ⟨by first | omega | exact Nat.le_refl _⟩, ⟨hb_⟩⟩
  ·replace c5 := Bool.eq_false_iff.mpr c5
   subst c5
   have H1 : (spec_MultiplyWhole.j0 k l0 l1 true) = some (r1, r2) := by rw [if_neg (show ¬ (false = true) by decide)] at H; exact H
   clear H
   have H := H1
   clear H1
   have H' := Aside0.mk H
   clear H
   go_wp2_with (first | ((with_reducible refine gate_callee (f := 165) rfl ?_); refine goesL_ (some 9) rfl rfl Try.func165 (by kernel_rfl) rfl #[.slice A0 l0.length c0] rfl arg_ ?_; (with_reducible refine (spec_l01Poly.calls k _ _ l0 false _ ?side1 ?side2 A4.out).mono ?_); (case side1 => exact Kd.C_below (Kd.C_below HR0.out HB.out) bgo_); (case side2 => exact HC0.out); rintro e w' ⟨rfl, ⟨nd, rfl⟩⟩; refine ⟨_, rfl, ?_⟩))
   go_meet
   case rel => exact ⟨_, (true), es_, H', ⟨by first | omega | exact Nat.le_refl _⟩, ⟨hb_⟩⟩
 case rest =>
  clear HC3
  obtain ⟨kq, x15_2, rfl, HA, HJ2, HB⟩ := hcut
  cases kq with
  | zero => exact absurd HA.out (by simp [spec_MultiplyWhole.j0])
  | succ kj2 =>
   have H := HA.out
   clear HA
   simp only [spec_MultiplyWhole.j0] at H
   by_cases c7 : x15_2 = true
   ·subst c7
    have H1 : (some (([] : List Int), 1)) = some (r1, r2) := by rw [if_pos rfl] at H; exact H
    clear H
    have H := H1
    clear H1
    simp only [Option.some.injEq, Prod.mk.injEq] at H
    obtain ⟨rfl, rfl⟩ := H
    go_wp2
    go_ret2
    exact ⟨_, er_, by first | exact Kd.R_nil _ _ _ _ _ | exact Kd.N_nil _ _ _ _ _ | exact Kd.V_nil _ _ _ _ _ | exact Kd.Q_nil _ _ _ _ _ | exact Kd.S_nil _ _ _ _ _, hb_⟩
   ·replace c7 := Bool.eq_false_iff.mpr c7
    subst c7
    have H1 : ((spec_l01Product.f kj2 l0 l1).bind fun bt277 => (if bt277.2 = true then (some (bt277.1, 0)) else (some (([] : List Int), 3)))) = some (r1, r2) := by rw [if_neg (show ¬ (false = true) by decide)] at H; exact H
    clear H
    have H := H1
    clear H1
    obtain ⟨⟨t277, t278⟩, A8, H⟩ := bnd_ H
    dsimp only at H
    by_cases c9 : t278 = true
    ·subst c9
     have H1 : (some (t277, 0)) = some (r1, r2) := by rw [if_pos rfl] at H; exact H
     clear H
     have H := H1
     clear H1
     simp only [Option.some.injEq, Prod.mk.injEq] at H
     obtain ⟨rfl, rfl⟩ := H
     go_wp2_with (first | ((with_reducible refine gate_callee (f := 166) rfl ?_); refine goesL_ (some 19) rfl rfl Try.func166 (by kernel_rfl) rfl #[.slice A0 l0.length c0, .slice A1 l1.length c1] rfl arg_ ?_; (with_reducible refine (spec_l01Product.calls kj2 _ _ l0 _ _ l1 t277 true _ ?side1 ?side2 ?side3 ?side4 A8.out).mono ?_); (case side1 => exact Kd.C_below (Kd.C_below HR0.out HB.out) bgo_); (case side2 => exact HC0.out); (case side3 => exact Kd.C_below (Kd.C_below HR1.out HB.out) bgo_); (case side4 => exact HC1.out); rintro e w10 ⟨v279, rfl, ho0, hb⟩; refine ⟨_, rfl, ?_⟩; have HO280 := Aside0.mk (Kd.R_lower ho0 (below_size hb_)); replace HB := Aside0.mk (below_step hb_ hb); (try clear hb); (try clear hb2); (try clear hk); (try clear hi); (try clear ho0)))
     go_ret2
     exact ⟨_, er_, (Kd.R_below HO280.out bgo_), hb_⟩
    ·replace c9 := Bool.eq_false_iff.mpr c9
     subst c9
     have H1 : (some (([] : List Int), 3)) = some (r1, r2) := by rw [if_neg (show ¬ (false = true) by decide)] at H; exact H
     clear H
     have H := H1
     clear H1
     simp only [Option.some.injEq, Prod.mk.injEq] at H
     obtain ⟨rfl, rfl⟩ := H
     go_wp2_with (first | ((with_reducible refine gate_callee (f := 166) rfl ?_); refine goesL_ (some 19) rfl rfl Try.func166 (by kernel_rfl) rfl #[.slice A0 l0.length c0, .slice A1 l1.length c1] rfl arg_ ?_; (with_reducible refine (spec_l01Product.calls kj2 _ _ l0 _ _ l1 t277 false _ ?side1 ?side2 ?side3 ?side4 A8.out).mono ?_); (case side1 => exact Kd.C_below (Kd.C_below HR0.out HB.out) bgo_); (case side2 => exact HC0.out); (case side3 => exact Kd.C_below (Kd.C_below HR1.out HB.out) bgo_); (case side4 => exact HC1.out); rintro e w11 ⟨v279, rfl, ho0, hb⟩; refine ⟨_, rfl, ?_⟩; have HO280 := Aside0.mk (Kd.R_lower ho0 (below_size hb_)); replace HB := Aside0.mk (below_step hb_ hb); (try clear hb); (try clear hb2); (try clear hk); (try clear hi); (try clear ho0)))
     go_ret2
     exact ⟨_, er_, by first | exact Kd.R_nil _ _ _ _ _ | exact Kd.N_nil _ _ _ _ _ | exact Kd.V_nil _ _ _ _ _ | exact Kd.Q_nil _ _ _ _ _ | exact Kd.S_nil _ _ _ _ _, hb_⟩

/-! ### spec_IsWhole: function 61 -/
def spec_IsWhole.f (k : Nat) (l0 : List Int) : Option (Bool) := (spec_l01Poly.f k l0).bind fun t281 => (some t281)
set_option maxHeartbeats 8000000 in
set_option maxRecDepth 100000 in
theorem spec_IsWhole.calls (k : Nat) (A0 : Option Addr) (c0 : Nat) (l0 : List Int) (r : Bool) (w : World) (hr0 : Kd.C (Kd.int .i64) w A0 l0.length l0) (hc0 : l0.length ≤ c0) (h : spec_IsWhole.f k l0 = some r) :
  Calls Try.prog 61 #[.slice A0 l0.length c0] w fun e w' => e = .returned (.bool r) ∧ Drawn0 w w' := by
 have HR0 := Aside0.mk hr0
 have HC0 := Aside0.mk hc0
 clear hr0 hc0
 have H : ((spec_l01Poly.f k l0).bind fun t281 => (some t281)) = some r := h
 clear h
 obtain ⟨t281, A2, H⟩ := bnd_ H
 obtain rfl := Option.some.inj H
 go_enter Try.func61, Try.ntmps61
 go_wp2_with (first | ((with_reducible refine gate_callee (f := 165) rfl ?_); refine goesL_ (some 4) rfl rfl Try.func165 (by kernel_rfl) rfl #[.slice A0 l0.length c0] rfl arg_ ?_; (with_reducible refine (spec_l01Poly.calls k _ _ l0 t281 _ ?side1 ?side2 A2.out).mono ?_); (case side1 => exact Kd.C_below HR0.out bgo_); (case side2 => exact HC0.out); rintro e w' ⟨rfl, ⟨nd, rfl⟩⟩; refine ⟨_, rfl, ?_⟩))
 go_ret
 exact ⟨es_, by repeat (first | exact Drawn0.refl _ | apply Drawn0.step)⟩

end Go.Proofs.Ytkadhadceongiaa.G
