/- The printed functions that this law reaches, and their contracts: part 0. -/
-- printed by this repo's wip/printer out of the kit's print with its own changes
import Derived.Test.YtkadhadceongiaaG0
namespace Go.Proofs.Ytkadhadceongiaa.G
open Go.RowKit Go.Proofs.YtkadhadceongiaaW.PrintWords Go.Proofs.YtkadhadceongiaaW.PrintLast Go.Proofs.YtkadhadceongiaaW.PrintMore
attribute [local go_sem] max2_int min2_int max_two min_two max_three min_three max_four min_four   -- for this text's walks alone
set_option linter.unusedVariables false
set_option linter.unusedSimpArgs false

theorem nf_ : (∀ (l : List Value) (i : Nat) (a : Value), l.toArray.setIfInBounds i a = (l.set i a).toArray) ∧ (∀ (x : Value) (l : List Value) (a : Value), (x :: l).set 0 a = a :: l) ∧ (∀ (x : Value) (l : List Value) (n : Nat) (a : Value), (x :: l).set (n + 1) a = x :: l.set n a) ∧ (∀ n : Int, IntKind.i64.wrap n = wrap64 n) ∧ (∀ n : Int, IntKind.i32.wrap n = wrap32 n) :=
 ⟨fun l i a => List.setIfInBounds_toArray l i a, fun _ _ _ => rfl, fun _ _ _ _ => rfl, i64_w, i32_w⟩

/-! ### laws_big: function 9 -/
def laws_big.f (l0 : List Int) : Option (Bool) := some (decide ((l0.length : Int) > 4096))
set_option maxHeartbeats 8000000 in
set_option maxRecDepth 100000 in
theorem laws_big.calls (A0 : Option Addr) (c0 : Nat) (l0 : List Int) (r : Bool) (w : World) (hr0 : Kd.C (Kd.int .u8) w A0 l0.length l0) (hc0 : l0.length ≤ c0) (h : laws_big.f l0 = some r) :
  Calls Try.prog 9 #[.slice A0 l0.length c0] w fun e w' => e = .returned (.bool r) ∧ Drawn0 w w' := by
 have HR0 := m_ hr0
 have HC0 := m_ hc0
 clear hr0 hc0
 have H : (some (decide ((l0.length : Int) > 4096))) = some r := h
 clear h
 obtain rfl := Option.some.inj H
 go_enter Try.func9, Try.ntmps9
 go_wp2
 go_ret
 exact ⟨es_, by repeat (first | exact Drawn0.refl _ | apply Drawn0.step)⟩

/-- A state of type 131 at block g of W; what its slices lead to came in by w0. -/
def IsS131 (w0 W : World) (g : Nat) (f0 : List Int) (f1 : Int) (f2 : Int) : Prop := ∃ A0 c0, W.heap[g]? = some (.cells #[.slice A0 f0.length c0, .int .i64 f1, .int .u64 f2] 131 (0, 0)) ∧ w0.heap.size ≤ g ∧ Kd.C (Kd.int .u8) w0 A0 f0.length f0
theorem IsS131.grown {w0 W : World} {g : Nat} {f0 : List Int} {f1 : Int} {f2 : Int} {W1 : World} {row : Option Nat} (h : IsS131 w0 W g f0 f1 f2) (hw : W.grownBy W1 row) (hne : some g ≠ row) : IsS131 w0 W1 g f0 f1 f2 := by
 obtain ⟨A0, c0, hb, hg, hr0⟩ := h
 exact ⟨A0, c0, blk_grown hb hw hne, hg, hr0⟩
theorem IsS131.own_neN {w0 W : World} {g : Nat} {f0 : List Int} {f1 : Int} {f2 : Int} {α : Type} {d : Kd α} {e : Nat} {base : Nat} {ok : Nat → Prop} {v : Value} {xs : List α} (h : IsS131 w0 W g f0 f1 f2) (ho : Kd.N d e W base ok v xs) (ht : e ≠ 131) : some g ≠ v.ownBlock := by
 obtain ⟨A0, c0, hb, hg, hr0⟩ := h
 exact Kd.N_ne ho hb ht
theorem IsS131.fresh {w0 W : World} {g : Nat} {f0 : List Int} {f1 : Int} {f2 : Int} (h : IsS131 w0 W g f0 f1 f2) : ∀ k, W.heap.size ≤ k → k ≠ g := by
 obtain ⟨A0, c0, hb, hg, hr0⟩ := h
 exact Kd.freshB hb
theorem IsS131.kept {w0 W : World} {g : Nat} {f0 : List Int} {f1 : Int} {f2 : Int} {W1 : World} {S : Nat → Prop} (h : IsS131 w0 W g f0 f1 f2) (hk : Kept W W1 S) (hne : ¬ S g) : IsS131 w0 W1 g f0 f1 f2 := by
 obtain ⟨A0, c0, hb, hg, hr0⟩ := h
 exact ⟨A0, c0, blk_kept hb hk hne, hg, hr0⟩
theorem IsS131.below {w0 W : World} {g : Nat} {f0 : List Int} {f1 : Int} {f2 : Int} {W1 : World} (h : IsS131 w0 W g f0 f1 f2) (hw : Below W.heap.size W W1) : IsS131 w0 W1 g f0 f1 f2 := h.grown (grown_of_below hw none) (by simp)
theorem IsS131.alloc {w0 W : World} {g : Nat} {f0 : List Int} {f1 : Int} {f2 : Int} (h : IsS131 w0 W g f0 f1 f2) (o : Obj) : IsS131 w0 (W.alloc o) g f0 f1 f2 := h.below (below_alloc (Below.refl _ _) o)
theorem IsS131.drewN {w0 W : World} {g : Nat} {f0 : List Int} {f1 : Int} {f2 : Int} (h : IsS131 w0 W g f0 f1 f2) (m : Nat) : IsS131 w0 (W.drewN m) g f0 f1 f2 := h
theorem IsS131.drew {w0 W : World} {g : Nat} {f0 : List Int} {f1 : Int} {f2 : Int} (h : IsS131 w0 W g f0 f1 f2) : IsS131 w0 W.drew g f0 f1 f2 := h
theorem IsS131.at_ {w0 W : World} {g : Nat} {f0 : List Int} {f1 : Int} {f2 : Int} {w' : World} {m : Nat} (hq : W.drewN m = w') (h : IsS131 w0 W g f0 f1 f2) : IsS131 w0 w' g f0 f1 f2 := by subst hq; exact IsS131.drewN h m
theorem IsS131.apart {w0 W : World} {g : Nat} {f0 : List Int} {f1 : Int} {f2 : Int} {α : Type} {d : Kd α} {e : Nat} {base : Nat} {ok : Nat → Prop} {v : Value} {xs : List α} (h : IsS131 w0 W g f0 f1 f2) (ho : d.R e W base ok v xs) (ht : ∀ q, q ∈ e :: d.E → q ≠ 131) : d.R e W base (fun k => ok k ∧ k ≠ g) v xs := by
 obtain ⟨A0, c0, hb, hg, hr0⟩ := h
 exact Kd.R_types ho hb ht
theorem IsS131.own_ne {w0 W : World} {g : Nat} {f0 : List Int} {f1 : Int} {f2 : Int} {α : Type} {d : Kd α} {e : Nat} {base : Nat} {ok : Nat → Prop} {v : Value} {xs : List α} (h : IsS131 w0 W g f0 f1 f2) (ho : d.R e W base ok v xs) (ht : e ≠ 131) : some g ≠ v.ownBlock := by
 obtain ⟨A0, c0, hb, hg, hr0⟩ := h
 exact Kd.R_ne ho hb ht
theorem IsS131.apartQ {w0 W : World} {g : Nat} {f0 : List Int} {f1 : Int} {f2 : Int} {α : Type} {d : Kd α} {e : Nat} {base : Nat} {ok : Nat → Prop} {v : Value} {xs : List α} (h : IsS131 w0 W g f0 f1 f2) (ho : d.Q e W base ok v xs) (ht : ∀ q, q ∈ e :: d.E → q ≠ 131) : d.Q e W base (fun k => ok k ∧ k ≠ g) v xs := by
 obtain ⟨A0, c0, hb, hg, hr0⟩ := h
 exact Kd.Q_types ho hb ht
theorem IsS131.own_neQ {w0 W : World} {g : Nat} {f0 : List Int} {f1 : Int} {f2 : Int} {α : Type} {d : Kd α} {e : Nat} {base : Nat} {ok : Nat → Prop} {v : Value} {xs : List α} (h : IsS131 w0 W g f0 f1 f2) (ho : d.Q e W base ok v xs) (ht : e ≠ 131) : some g ≠ v.ownBlock := by
 obtain ⟨A0, c0, hb, hg, hr0⟩ := h
 exact Kd.Q_ne ho hb ht
theorem IsS131.apartS {w0 W : World} {g : Nat} {f0 : List Int} {f1 : Int} {f2 : Int} {α : Type} {d : Kd α} {e : Nat} {base : Nat} {ok : Nat → Prop} {v : Value} {xs : List α} (h : IsS131 w0 W g f0 f1 f2) (ho : d.S e W base ok v xs) (ht : ∀ q, q ∈ e :: d.E → q ≠ 131) : d.S e W base (fun k => ok k ∧ k ≠ g) v xs := by
 obtain ⟨A0, c0, hb, hg, hr0⟩ := h
 exact Kd.S_types ho hb ht
theorem IsS131.own_neS {w0 W : World} {g : Nat} {f0 : List Int} {f1 : Int} {f2 : Int} {α : Type} {d : Kd α} {e : Nat} {base : Nat} {ok : Nat → Prop} {v : Value} {xs : List α} (h : IsS131 w0 W g f0 f1 f2) (ho : d.S e W base ok v xs) (ht : e ≠ 131) : some g ≠ v.ownBlock := by
 obtain ⟨A0, c0, hb, hg, hr0⟩ := h
 exact Kd.S_ne ho hb ht
theorem IsS131.lt {w0 W : World} {g : Nat} {f0 : List Int} {f1 : Int} {f2 : Int} (h : IsS131 w0 W g f0 f1 f2) : g < W.heap.size := by
 obtain ⟨A0, c0, hb, hg, hr0⟩ := h
 exact blk_lt hb
theorem IsS131.ge {w0 W : World} {g : Nat} {f0 : List Int} {f1 : Int} {f2 : Int} (h : IsS131 w0 W g f0 f1 f2) : w0.heap.size ≤ g := by
 obtain ⟨A0, c0, hb, hg, hr0⟩ := h
 exact hg
theorem IsS131.ne_blk {w0 W : World} {g : Nat} {f0 : List Int} {f1 : Int} {f2 : Int} {a : Nat} {cs : Array Value} {t : TypeId} {fr : Nat × Nat} (h : IsS131 w0 W g f0 f1 f2) (hb2 : W.heap[a]? = some (.cells cs t fr)) (ht : t ≠ 131) : g ≠ a := by
 obtain ⟨A0, c0, hb, hg, hr0⟩ := h
 rintro rfl
 rw [hb] at hb2
 injection hb2 with hb2
 injection hb2 with _ ht2
 exact ht ht2.symm
theorem IsS131.far {w0 W : World} {g : Nat} {f0 : List Int} {f1 : Int} {f2 : Int} {p : Addr} (h : IsS131 w0 W g f0 f1 f2) (hne : g ≠ p.block) (u : Value) : IsS131 w0 (W.setCell p u) g f0 f1 f2 := by
 obtain ⟨A0, c0, hb, hg, hr0⟩ := h
 exact ⟨A0, c0, blk_far hb hne u, hg, hr0⟩
theorem cellS131_0 {W : World} {g : Nat} {A0 : Option Addr} {c0 : Nat} {f0 : List Int} {f1 : Int} {f2 : Int} (h : W.heap[g]? = some (.cells #[.slice A0 f0.length c0, .int .i64 f1, .int .u64 f2] 131 (0, 0))) : W.cell? ⟨g, 0, none⟩ = some (.slice A0 f0.length c0) := (blk_cell h 0).trans rfl
theorem cellS131_1 {W : World} {g : Nat} {A0 : Option Addr} {c0 : Nat} {f0 : List Int} {f1 : Int} {f2 : Int} (h : W.heap[g]? = some (.cells #[.slice A0 f0.length c0, .int .i64 f1, .int .u64 f2] 131 (0, 0))) : W.cell? ⟨g, 1, none⟩ = some (.int .i64 f1) := (blk_cell h 1).trans rfl
theorem IsS131.set_1 {w0 W : World} {g : Nat} {f0 : List Int} {f1 : Int} {f2 : Int} (h : IsS131 w0 W g f0 f1 f2) (x : Int) : IsS131 w0 (W.setCell ⟨g, 1, none⟩ (.int .i64 x)) g f0 x f2 := by
 obtain ⟨A0, c0, hb, hg, hr0⟩ := h
 exact ⟨A0, c0, by simpa using blk_set hb 1 (.int .i64 x), hg, hr0⟩
theorem cellS131_2 {W : World} {g : Nat} {A0 : Option Addr} {c0 : Nat} {f0 : List Int} {f1 : Int} {f2 : Int} (h : W.heap[g]? = some (.cells #[.slice A0 f0.length c0, .int .i64 f1, .int .u64 f2] 131 (0, 0))) : W.cell? ⟨g, 2, none⟩ = some (.int .u64 f2) := (blk_cell h 2).trans rfl
theorem IsS131.set_2 {w0 W : World} {g : Nat} {f0 : List Int} {f1 : Int} {f2 : Int} (h : IsS131 w0 W g f0 f1 f2) (x : Int) : IsS131 w0 (W.setCell ⟨g, 2, none⟩ (.int .u64 x)) g f0 f1 x := by
 obtain ⟨A0, c0, hb, hg, hr0⟩ := h
 exact ⟨A0, c0, by simpa using blk_set hb 2 (.int .u64 x), hg, hr0⟩
theorem IsS131.go_ {w0 W : World} {g : Nat} {f0 : List Int} {f1 : Int} {f2 : Int} (q : IsS131 w0 W g f0 f1 f2 := by repeat (first | (with_reducible first | exact Aside0.out (by assumption) | apply IsS131.alloc | apply IsS131.drewN | apply IsS131.drew | apply IsS131.set_1 | apply IsS131.set_2) | exact Aside0.out (by assumption))) : IsS131 w0 W g f0 f1 f2 := q
theorem IsS131.hb_ {b : Nat} {w W : World} (q : Below b w W := by repeat (first | (with_reducible first | exact HB.out | apply below_alloc | apply pw_below_drewN | apply below_drew1 | refine below_set ?_ (IsS131.ge (Aside0.out (by assumption)))) | exact HB.out)) : Below b w W := q
theorem IsS131.farq {w0 W : World} {g : Nat} {f0 : List Int} {f1 : Int} {f2 : Int} {p : Addr} (qh_ : IsS131 w0 W g f0 f1 f2) (qn_ : g ≠ p.block) (qu_ : Value) : IsS131 w0 (W.setCell p qu_) g f0 f1 f2 := IsS131.far qh_ qn_ qu_
theorem IsS131.gs_ {w0 W : World} {g : Nat} {f0 : List Int} {f1 : Int} {f2 : Int} (q : IsS131 w0 W g f0 f1 f2 := by repeat (first | (with_reducible first | exact Aside0.out (by assumption) | apply IsS131.alloc | apply IsS131.drewN | apply IsS131.drew | apply IsS131.set_1 | apply IsS131.set_2 | apply IsS131.farq) | exact Aside0.out (by assumption))) : IsS131 w0 W g f0 f1 f2 := q
theorem IsS131.hs_ {b : Nat} {w W : World} (q : Below b w W := by repeat (first | (with_reducible first | exact HB.out | apply below_alloc | apply pw_below_drewN | apply below_drew1 | exact IsS131.ge (Aside0.out (by assumption)) | exact Aside0.out (by assumption) | apply below_setq) | exact HB.out)) : Below b w W := q
theorem IsS131.new (w0 W : World) (A0 : Option Addr) (c0 : Nat) (f0 : List Int) (f1 : Int) (f2 : Int) (hB : Below w0.heap.size w0 W) (hr0 : Kd.C (Kd.int .u8) w0 A0 f0.length f0) : IsS131 w0 (W.alloc (.cells #[.slice A0 f0.length c0, .int .i64 f1, .int .u64 f2] 131)) W.heap.size f0 f1 f2 := ⟨A0, c0, by simpa using heap_alloc_new W _, hB.size, hr0⟩

/-! ### spec_l01From: function 102 -/
def spec_l01From.l0 : Nat → List Int → Int → List Int → Int → Int → Option (List Int × Int × Int)
 | 0, _, _, _, _, _ => none
 | k + 1, x0, x4, x102000, x102001, x102002 => if x4 < (x0.length : Int) then (if x4 < 4096 then (if 0 ≤ x4 then (spec_l01From.l0 k x0 (wrap64 (x4 + 1)) x102000 x102001 (IntKind.u64.wrap ((IntKind.u64.wrap ((IntKind.u64.wrap (x102002 * 1099511628211)) + (IntKind.u64.wrap (rd x0 x4)))) + 109))) else (none)) else (some (x102000, x102001, x102002))) else (some (x102000, x102001, x102002))
def spec_l01From.f (k : Nat) (l0 : List Int) : Option (List Int × Int × Int) := spec_l01From.l0 k l0 0 l0 0 (IntKind.u64.wrap (12981 + (IntKind.u64.wrap ((l0.length : Int)))))
def spec_l01From.T5 : Bool × List (List Nat × List Nat) := (true, [([], []), ([], []), ([1], [1]), ([2], [2]), ([3], [3]), ([4], [4]), ([], []), ([], []), ([6, 7], [6, 7]), ([8], [8]), ([9], [9]), ([5, 10], [5, 10]), ([11], [11]), ([0, 0, 1, 2, 3, 4, 5, 6, 7, 8, 9, 10, 11, 12], [0]), ([13, 0, 1, 2, 3, 4, 5, 6, 7, 8, 9, 10, 11, 12], [13]), ([14, 12, 0, 1, 2, 3, 4, 5, 6, 7, 8, 9, 10, 11, 12], [12, 14])])
def spec_l01From.B5 : List Nat := [0, 0, 2, 6, 14, 30, 0, 0, 192, 448, 960, 2046, 4094, 8191, 16383, 32767]
theorem spec_l01From.tab5 : rtab .any (opsOf Try.f102 5) = spec_l01From.T5 := by kernel_rfl
theorem spec_l01From.bits5 : waitsOk spec_l01From.T5.2 spec_l01From.B5 = true := by kernel_rfl
set_option maxHeartbeats 8000000 in
set_option maxRecDepth 100000 in
theorem spec_l01From.calls (k : Nat) (A0 : Option Addr) (c0 : Nat) (l0 : List Int) (r1 : List Int) (r2 : Int) (r3 : Int) (w0 w : World) (hB : Below w0.heap.size w0 w) (hr0 : Kd.C (Kd.int .u8) w0 A0 l0.length l0) (hc0 : l0.length ≤ c0) (h : spec_l01From.f k l0 = some (r1, r2, r3)) :
  Calls Try.prog 102 #[.slice A0 l0.length c0] w fun e w' => ∃ g_ : Nat, e = .returned (.pointer (some ⟨g_, 0, none⟩)) ∧ IsS131 w0 w' g_ r1 r2 r3 ∧ Below w0.heap.size w0 w' ∧ Below w.heap.size w w' := by
 have hu131 := Try.underlying131
 have HR0 := m_ hr0
 have HC0 := m_ hc0
 clear hr0 hc0
 have HBW := m_ (Below.refl w.heap.size w)
 have HW0 := m_ hB.size
 have HB := m_ hB
 clear hB
 have H : (spec_l01From.l0 k l0 0 l0 0 (IntKind.u64.wrap (12981 + (IntKind.u64.wrap ((l0.length : Int)))))) = some (r1, r2, r3) := h
 clear h
 have H' := m_ H
 clear H
 go_enter Try.func102, Try.ntmps102
 go_wp2_with (first | ((with_reducible refine gate_dst (N := 11) rfl ?_); refine bx_ (N := 11) (cs := #[.slice A0 l0.length c0, .int .i64 0, .int .u64 (IntKind.u64.wrap (12981 + (IntKind.u64.wrap ((l0.length : Int)))))]) (t := 131) ?_; intro gb101 hg w2 hbox hb; replace HB := m_ (below_step hb_ hb); have BK101 := m_ (hbox); have GW101 := m_ ((by rw [hg]; exact (below_size hw_) : w.heap.size ≤ gb101)); have GE101 := m_ (Nat.le_trans HW0.out GW101.out); replace HBW := m_ (below_step HBW.out hb); clear hb hbox hg))
 go_loopg [4] k (fun kq v4 w' => ∃ (x4_1 : Int) (x102002_1 : Int), v4 = .int .i64 x4_1 ∧ Aside0 (spec_l01From.l0 kq l0 x4_1 l0 0 x102002_1 = some (r1, r2, r3)) ∧ Aside0 (kq ≤ k) ∧ Aside0 (w'.heap[gb101]? = some (.cells #[(.slice A0 l0.length c0), .int .i64 0, .int .u64 x102002_1] 131 (0, 0))) ∧ Aside0 (Below w0.heap.size w0 w') ∧ Aside0 (Below w.heap.size w w'))
 case atStart => exact ⟨(0), (IntKind.u64.wrap (12981 + (IntKind.u64.wrap ((l0.length : Int))))), es_, H', ⟨Nat.le_refl _⟩, ⟨blk_below BK101.out bgo_⟩, ⟨hbs_⟩, ⟨hw_⟩⟩
 case round =>
  clear H'
  obtain ⟨x4_1, x102002_1, rfl, HA, HK1, BK101, HB, HBW⟩ := hrel
  cases gk with
  | zero => exact absurd HA.out (by simp [spec_l01From.l0])
  | succ k1 =>
   have H := HA.out
   clear HA
   simp only [spec_l01From.l0] at H
   by_cases c3 : x4_1 < (l0.length : Int)
   ·rw [if_pos c3] at H
    have c3b0 := decide_eq_true c3
    clear c3
    by_cases c4 : x4_1 < 4096
    ·rw [if_pos c4] at H
     have c4b0 := decide_eq_true c4
     clear c4
     obtain ⟨c5, H⟩ := itn_ H
     have c5b0 := decide_eq_true c5
     clear c5
     have H' := m_ H
     clear H
     try go_wp2
     replace BK101 := m_ (blk_drew BK101.out)
     replace HB := m_ (below_drew1 HB.out)
     have p102 : 0 ≤ (x4_1 : Int) := od_
     have q102 : x4_1 < (l0.length : Int) := od_
     obtain ⟨ad102, e102, hx102_0⟩ := Kd.at_int HR0.out x4_1 p102 q102
     have hw102_0 := hx102_0
     cases e102
     replace hx102_0 := pw_cell_below HB.out hx102_0
     replace p102 := eq_true p102
     replace q102 := eq_true q102
     refine start_ (n := 16) (S := fun w' => w'.cell? ⟨gb101, 0, none⟩ = some (.slice (some ad102) l0.length c0) ∧ w'.cell? ⟨gb101, 1, none⟩ = some (.int .i64 0) ∧ w'.cell? ⟨gb101, 2, none⟩ = some (.int .u64 x102002_1) ∧ w'.cell? (ad102.add (x4_1).toNat) = some (.int .u8 (rd l0 x4_1))) (ds := [15]) #[false, false, false, false, false, false, false, false, false, false, false, false, false, false, false, false] (by kernel_rfl) rfl rfl ⟨bc0_ BK101.out, bc1_ BK101.out, bc2_ BK101.out, ((HB.out.cell (World.block_lt_of_cell? _ _ hw102_0)).trans hw102_0)⟩ (fun hHeld => ?_); refine with_tabW spec_l01From.tab5 spec_l01From.bits5 (fun HT_ HW_ => ?_)
     replace HBW := m_ (below_drew HBW.out)
     generalize wr.drew = w6 at BK101 HB HBW hx102_0 hHeld ⊢
     refine pk_ 0 16 22 1 ?_
     refine pk_ 1 16 23 3 ?_
     refine pk_ 2 16 24 7 ?_
     refine pk_ 3 16 25 15 ?_
     refine pk_ 6 16 28 79 ?_
     refine pk_ 7 16 29 207 ?_
     refine pk_ 8 16 30 463 ?_
     refine tk_ 4 16 26 479 hHeld ?_
     refine pk_ 5 16 27 511 ?_
     refine tk_ 9 16 31 1023 hHeld ?_
     refine pk_ 10 16 32 2047 ?_
     refine pk_ 11 16 33 4095 ?_
     refine pk_ 12 16 34 8191 ?_
     refine pk_ 13 16 35 16383 ?_
     refine pk_ 14 16 36 32767 ?_
     refine last_ (i := 15) (N := none) #[true, true, true, true, true, true, true, true, true, true, true, true, true, true, true, true] rfl rfl (one_of HT_.out (by kernel_rfl)) (by decide) (fun K hK => ?_)
     have hs7 : w6.cell? ⟨gb101, 2, none⟩ = some (.int .u64 x102002_1) := bc2_ BK101.out
     have hfs7 := blk_frozen BK101.out 2
     refine skip_ (w1 := ?_) (by rfl) rfl ?_ ?_
     rotate_left
     ·go_simp
      rfl
     refine hK.out _ _ ?_
     clear hK K
     refine done_ (done_of HT_.out (by kernel_rfl)) ?_
     try go_wp2
     go_roundg k1
     case measure => have := HK1.out; omega
     case rel => exact ⟨(wrap64 (x4_1 + 1)), (IntKind.u64.wrap ((IntKind.u64.wrap ((IntKind.u64.wrap (x102002_1 * 1099511628211)) + (IntKind.u64.wrap (rd l0 x4_1)))) + 109)), es_, H', ⟨by have := HK1.out; omega⟩, ⟨by (with_reducible repeat (first | refine blk_drewN ?_ _ | refine blk_drew ?_ | refine blk_alloc ?_ _)); refine blk_put (cs := #[.slice (some ad102) l0.length c0, .int .i64 0, .int .u64 x102002_1]) ?_ 2 _ rfl; (with_reducible repeat (first | refine blk_drewN ?_ _ | refine blk_drew ?_ | refine blk_alloc ?_ _)); exact BK101.out⟩, ⟨hbs_⟩, ⟨hw_⟩⟩
    ·rw [if_neg c4] at H
     have c4b0 := decide_eq_false c4
     clear c4
     simp only [Option.some.injEq, Prod.mk.injEq] at H
     obtain ⟨rfl, rfl, rfl⟩ := H
     go_wp2
     go_ret
     exact ⟨_, rfl, (show IsS131 w0 _ gb101 l0 0 x102002_1 from ⟨_, _, (blk_below BK101.out bgo_), GE101.out, HR0.out⟩), hbs_, hw_⟩
   ·rw [if_neg c3] at H
    have c3b0 := decide_eq_false c3
    clear c3
    simp only [Option.some.injEq, Prod.mk.injEq] at H
    obtain ⟨rfl, rfl, rfl⟩ := H
    go_wp2
    go_ret
    exact ⟨_, rfl, (show IsS131 w0 _ gb101 l0 0 x102002_1 from ⟨_, _, (blk_below BK101.out bgo_), GE101.out, HR0.out⟩), hbs_, hw_⟩

/-! ### spec_l01Next: function 171 -/
def spec_l01Next.f (s0_0 : List Int) (s0_1 : Int) (s0_2 : Int) (a1 : Int) : Option (Int × Int × Int) := if a1 < 1 then (some (0, s0_1, s0_2)) else (if s0_1 < (s0_0.length : Int) then (if 0 ≤ s0_1 then (if a1 = 0 then (none) else (some (Int.tmod (wrap64 ((wrap64 (Go.bits .and .u64 ((IntKind.u64.wrap ((IntKind.u64.wrap (s0_2 * 6364136223846793005)) + 1442695040888963407)) / 2147483648) 1073741823)) + (wrap64 (rd s0_0 s0_1)))) a1, wrap64 (s0_1 + 1), IntKind.u64.wrap ((IntKind.u64.wrap (s0_2 * 6364136223846793005)) + 1442695040888963407)))) else (none)) else (if a1 = 0 then (none) else (some (Int.tmod (wrap64 (Go.bits .and .u64 ((IntKind.u64.wrap ((IntKind.u64.wrap (s0_2 * 6364136223846793005)) + 1442695040888963407)) / 2147483648) 1073741823)) a1, s0_1, IntKind.u64.wrap ((IntKind.u64.wrap (s0_2 * 6364136223846793005)) + 1442695040888963407)))))
set_option maxHeartbeats 8000000 in
set_option maxRecDepth 100000 in
theorem spec_l01Next.calls (g : Nat) (s0_0 : List Int) (s0_1 : Int) (s0_2 : Int) (a1 : Int) (r1 : Int) (r2 : Int) (r3 : Int) (w0 w : World) (hI : IsS131 w0 w g s0_0 s0_1 s0_2) (hB : Below w0.heap.size w0 w) (h : spec_l01Next.f s0_0 s0_1 s0_2 a1 = some (r1, r2, r3)) :
  Calls Try.prog 171 #[.pointer (some ⟨g, 0, none⟩), .int .i64 a1] w fun e w' => e = .returned (.int .i64 r1) ∧ IsS131 w0 w' g s0_0 r2 r3 ∧ Below w0.heap.size w0 w' ∧ KeepBut w w' g none := by
 have HI0 := m_ hI
 have HK := m_ (KeepBut.refl w g none)
 have HL := m_ hB.size
 clear hI
 have HW0 := m_ hB.size
 have HB := m_ hB
 clear hB
 have H : (if a1 < 1 then (some (0, s0_1, s0_2)) else (if s0_1 < (s0_0.length : Int) then (if 0 ≤ s0_1 then (if a1 = 0 then (none) else (some (Int.tmod (wrap64 ((wrap64 (Go.bits .and .u64 ((IntKind.u64.wrap ((IntKind.u64.wrap (s0_2 * 6364136223846793005)) + 1442695040888963407)) / 2147483648) 1073741823)) + (wrap64 (rd s0_0 s0_1)))) a1, wrap64 (s0_1 + 1), IntKind.u64.wrap ((IntKind.u64.wrap (s0_2 * 6364136223846793005)) + 1442695040888963407)))) else (none)) else (if a1 = 0 then (none) else (some (Int.tmod (wrap64 (Go.bits .and .u64 ((IntKind.u64.wrap ((IntKind.u64.wrap (s0_2 * 6364136223846793005)) + 1442695040888963407)) / 2147483648) 1073741823)) a1, s0_1, IntKind.u64.wrap ((IntKind.u64.wrap (s0_2 * 6364136223846793005)) + 1442695040888963407)))))) = some (r1, r2, r3) := h
 clear h
 by_cases c3 : a1 < 1
 ·rw [if_pos c3] at H
  have c3b0 := decide_eq_true c3
  clear c3
  simp only [Option.some.injEq, Prod.mk.injEq] at H
  obtain ⟨rfl, rfl, rfl⟩ := H
  go_enter Try.func171, Try.ntmps171
  go_wp2
  repeat (go_quiet (fail); try go_wp2)
  go_ret
  exact ⟨er_, IsS131.go_, IsS131.hb_, kp_⟩
 ·rw [if_neg c3] at H
  have c3b0 := decide_eq_false c3
  clear c3
  by_cases c4 : s0_1 < (s0_0.length : Int)
  ·rw [if_pos c4] at H
   have c4b0 := decide_eq_true c4
   clear c4
   obtain ⟨c5, H⟩ := itn_ H
   have c5b0 := decide_eq_true c5
   clear c5
   by_cases c6 : a1 = 0
   ·rw [if_pos c6] at H
    exact absurd H (by simp)
   ·rw [if_neg c6] at H
    have c6b0 : (a1 == 0) = false := beq_eq_false_iff_ne.mpr c6
    have c6b1 : (a1 != 0) = true := bne_iff_ne.mpr c6
    simp only [Option.some.injEq, Prod.mk.injEq] at H
    obtain ⟨rfl, rfl, rfl⟩ := H
    obtain ⟨ASz7_0, cSz7_0, HGz7, hgz7, HSz7_0⟩ := HI0.out
    have hcz7_0 := cellS131_0 HGz7
    have hcz7_1 := cellS131_1 HGz7
    have hcz7_2 := cellS131_2 HGz7
    have hfz7_1 := blk_frozen HGz7 1
    have hfz7_2 := blk_frozen HGz7 2
    clear HGz7 hgz7
    have p103 : 0 ≤ (s0_1 : Int) := od_
    have q103 : s0_1 < (s0_0.length : Int) := od_
    obtain ⟨ad103, e103, hx103_0⟩ := Kd.at_int HSz7_0 s0_1 p103 q103
    cases e103
    have hn103_0 : ad103.block ≠ g := Nat.ne_of_lt (Nat.lt_of_lt_of_le (by have := World.block_lt_of_cell? _ _ hx103_0; first | rwa [add_block] at this | exact this) (IsS131.ge HI0.out))
    replace hx103_0 := pw_cell_below HB.out hx103_0
    replace hx103_0 := (cell_far (p := ⟨g, 2, none⟩) (by first | (rw [add_block]; exact hn103_0) | (show (Addr.add _ _).block ≠ _; rw [add_block]; exact hn103_0) | exact hn103_0) (.int .u64 (IntKind.u64.wrap ((IntKind.u64.wrap (s0_2 * 6364136223846793005)) + 1442695040888963407)))).trans hx103_0
    (try have hy103_0 := fun (n_ : Nat) => (show (((w.drewN n_).setCell ⟨g, 2, none⟩ (.int .u64 (IntKind.u64.wrap ((IntKind.u64.wrap (s0_2 * 6364136223846793005)) + 1442695040888963407))))).cell? _ = some _ from hx103_0))
    clear hn103_0
    replace p103 := eq_true p103
    replace q103 := eq_true q103
    go_enter Try.func171, Try.ntmps171
    go_wp2
    repeat (go_quiet (fail); try go_wp2)
    go_ret
    exact ⟨er_, IsS131.go_, IsS131.hb_, kp_⟩
  ·rw [if_neg c4] at H
   have c4b0 := decide_eq_false c4
   clear c4
   by_cases c8 : a1 = 0
   ·rw [if_pos c8] at H
    exact absurd H (by simp)
   ·rw [if_neg c8] at H
    have c8b0 : (a1 == 0) = false := beq_eq_false_iff_ne.mpr c8
    have c8b1 : (a1 != 0) = true := bne_iff_ne.mpr c8
    simp only [Option.some.injEq, Prod.mk.injEq] at H
    obtain ⟨rfl, rfl, rfl⟩ := H
    obtain ⟨ASz9_0, cSz9_0, HGz9, hgz9, HSz9_0⟩ := HI0.out
    have hcz9_0 := cellS131_0 HGz9
    have hcz9_1 := cellS131_1 HGz9
    have hcz9_2 := cellS131_2 HGz9
    have hfz9_1 := blk_frozen HGz9 1
    have hfz9_2 := blk_frozen HGz9 2
    clear HGz9 hgz9
    go_enter Try.func171, Try.ntmps171
    go_wp2
    repeat (go_quiet (fail); try go_wp2)
    go_ret
    exact ⟨er_, IsS131.go_, IsS131.hb_, kp_⟩

/-! ### spec_l01Pick: function 144 -/
def spec_l01Pick.f (s0_0 : List Int) (s0_1 : Int) (s0_2 : Int) (l1 : List Int) : Option (Int × Int × Int) := (spec_l01Next.f s0_0 s0_1 s0_2 (l1.length : Int)).bind fun bt104 => (if 0 ≤ bt104.1 then (if bt104.1 < (l1.length : Int) then (some (rd l1 bt104.1, bt104.2.1, bt104.2.2)) else (none)) else (none))
set_option maxHeartbeats 8000000 in
set_option maxRecDepth 100000 in
theorem spec_l01Pick.calls (g : Nat) (s0_0 : List Int) (s0_1 : Int) (s0_2 : Int) (A1 : Option Addr) (c1 : Nat) (l1 : List Int) (r1 : Int) (r2 : Int) (r3 : Int) (w0 w : World) (hI : IsS131 w0 w g s0_0 s0_1 s0_2) (hB : Below w0.heap.size w0 w) (hr1 : Kd.C (Kd.int .i64) w A1 l1.length l1) (hc1 : l1.length ≤ c1) (hf1 : ∀ ad, A1 = some ad → 0 < l1.length → ad.block ≠ g) (h : spec_l01Pick.f s0_0 s0_1 s0_2 l1 = some (r1, r2, r3)) :
  Calls Try.prog 144 #[.pointer (some ⟨g, 0, none⟩), .slice A1 l1.length c1] w fun e w' => e = .returned (.int .i64 r1) ∧ IsS131 w0 w' g s0_0 r2 r3 ∧ Below w0.heap.size w0 w' ∧ KeepBut w w' g none := by
 have HR1 := m_ hr1
 have HC1 := m_ hc1
 clear hr1 hc1
 have HI0 := m_ hI
 have HK := m_ (KeepBut.refl w g none)
 have HL := m_ hB.size
 clear hI
 have HW0 := m_ hB.size
 have HB := m_ hB
 clear hB
 have H : ((spec_l01Next.f s0_0 s0_1 s0_2 (l1.length : Int)).bind fun bt104 => (if 0 ≤ bt104.1 then (if bt104.1 < (l1.length : Int) then (some (rd l1 bt104.1, bt104.2.1, bt104.2.2)) else (none)) else (none))) = some (r1, r2, r3) := h
 clear h
 obtain ⟨⟨t104, t105, t106⟩, A3, H⟩ := bnd_ H
 dsimp only at H
 by_cases c4 : 0 ≤ t104
 ·rw [if_pos c4] at H
  have c4b0 := decide_eq_true c4
  clear c4
  obtain ⟨c5, H⟩ := itn_ H
  have c5b0 := decide_eq_true c5
  clear c5
  simp only [Option.some.injEq, Prod.mk.injEq] at H
  obtain ⟨rfl, rfl, rfl⟩ := H
  go_enter Try.func144, Try.ntmps144
  go_wp2_with (first | ((with_reducible refine gate_callee (f := 171) rfl ?_); refine gl_ (some 9) Try.func171 #[.pointer (some ⟨g, 0, none⟩), .int .i64 (l1.length : Int)] ?_; (with_reducible refine (spec_l01Next.calls g s0_0 s0_1 s0_2 (l1.length : Int) t104 t105 t106 w0 _ ?side1 ?side2 A3.out).mono ?_); (case side1 => exact IsS131.go_); (case side2 => exact IsS131.hb_); rintro e w6 ⟨rfl, hi, hb, hk⟩; refine ⟨_, rfl, ?_⟩; replace HK := m_ (KeepBut.trans kp_ hk (.inl rfl)); replace HB := m_ (hb); replace HI0 := m_ (hi); clear hi hb hk; have p107 : 0 ≤ (t104 : Int) := od_; have q107 : t104 < (l1.length : Int) := od_; obtain ⟨ad107, e107, hx107_0⟩ := Kd.at_int HR1.out t104 p107 q107; cases e107; replace hx107_0 := keep_cell HK.out hx107_0 (by first | (rw [add_block]; exact hf1 _ rfl (by omega)) | exact hf1 _ rfl (by omega) | exact hf1 ad107 rfl (by omega)); replace p107 := eq_true p107; replace q107 := eq_true q107))
  go_ret
  exact ⟨er_, IsS131.go_, IsS131.hb_, kp_⟩
 ·rw [if_neg c4] at H
  exact absurd H (by simp)

/-! ### spec_l01Own: function 113 -/
def spec_l01Own.f (l0 : List Int) : Option (List Int) := (some (([] : List Int) : List Int)).bind fun y108 => (if y108.length + l0.length < 17592186044416 then (some (y108 ++ l0)) else (none))
set_option maxHeartbeats 8000000 in
set_option maxRecDepth 100000 in
theorem spec_l01Own.calls (A0 : Option Addr) (c0 : Nat) (l0 : List Int) (r : List Int) (w : World) (hr0 : Kd.C (Kd.int .i64) w A0 l0.length l0) (hc0 : l0.length ≤ c0) (h : spec_l01Own.f l0 = some r) :
  Calls Try.prog 113 #[.slice A0 l0.length c0] w fun e w' => ∃ v0_ : Value, e = .returned (v0_) ∧ Kd.R (Kd.int .i64) 2 w' w.heap.size (fun _ => True) v0_ r ∧ Below w.heap.size w w' := by
 have HR0 := m_ hr0
 have HC0 := m_ hc0
 clear hr0 hc0
 have HB := m_ (Below.refl w.heap.size w)
 have H : ((some (([] : List Int) : List Int)).bind fun y108 => (if y108.length + l0.length < 17592186044416 then (some (y108 ++ l0)) else (none))) = some r := h
 clear h
 rw [Option.bind_some] at H
 obtain ⟨y108, Ny108, H⟩ : ∃ y108 : List Int, Aside0 (y108 = (([] : List Int))) ∧ (if y108.length + l0.length < 17592186044416 then (some (y108 ++ l0)) else (none)) = some r := ⟨_, ⟨rfl⟩, H⟩
 by_cases c2 : y108.length + l0.length < 17592186044416
 ·rw [if_pos c2] at H
  have LMc2 := m_ c2
  clear c2
  obtain ⟨y111, Ny111, H⟩ : ∃ y111 : List Int, Aside0 (y111 = (y108 ++ l0)) ∧ (some y111) = some r := ⟨_, ⟨rfl⟩, H⟩
  obtain rfl := Option.some.inj H
  go_enter Try.func113, Try.ntmps113
  go_wp2_with (first | ((with_reducible refine gate_dst (N := 3) rfl ?_); refine Kd.R_lit (Kd.int .i64) _ 2 ?hg (N := 3) ?hd (xs := ([] : List Int)) (inner := []) (ok := fun _ => True) (okp := fun _ => True) ?hr ?hp (fun _ hk => hk) trivial (Below.refl _ _) (Nat.le_refl _) (by simp) ?_; (case hd => rfl); (case hg => rfl); (case hr => first | (go_simp; done) | (go_simp; rfl)); (case hp => exact (Reps.none _ _)); intro v109 w3 ho4 hb hg_ hnew_; clear hg_ hnew_; rw [← Ny108.out] at ho4; have HO110 := m_ (Kd.R_lower ho4 (below_size hb_)); replace HB := m_ (below_step hb_ hb); clear hb ho4) | ((with_reducible refine gate_builtin (b := .append) (xs := #[.tmp 3, .tmp 4]) rfl ?_); at_builtin; refine Kd.R_append_rows (Kd.int .i64) (w0 := w) w.heap.size rfl (.tmp 3) (.tmp 4) 29 2 (.int .i64 0) 8 rfl Try.underlying29 info2 rfl (by decide) (by omega) v109 y108 l0 _ _ _ (fun _ => True) (fun _ => False) rfl rfl ?aO ?aR (fun _ _ h => h) (fun _ h => h.elim) ?aF ?aB ?aS ?aL ?_; (case aR => repeat (first | exact (Kd.C_below HR0.out HB.out) | (with_reducible refine Kd.C_alloc ?_ _) | (with_reducible refine Kd.C_drewN ?_ _) | (with_reducible refine Kd.C_drew ?_))); (case aB => exact hb_); (case aF => exact (fun _ _ => trivial)); (case aO => exact (Kd.R_below HO110.out bgo_)); (case aS => exact (below_size hb_)); (case aL => have := LMc2.out; omega); intro v112 w5 ho hb hg hat; rw [← Ny111.out] at ho; replace HB := m_ (hb); have HO113 := m_ (ho); clear HO110; clear ho hb hg hat))
  go_ret
  exact ⟨_, er_, (Kd.R_below HO113.out bgo_), hb_⟩
 ·rw [if_neg c2] at H
  exact absurd H (by simp)

/-! ### spec_l01Copy: function 237 -/
def spec_l01Copy.l0 : Nat → Int → Int → List (List Int) → Int → List (List Int) → Option (Int × (List (List Int)))
 | 0, _, _, _, _, _ => none
 | k + 1, x4, x115000, x115001, x120000, x120001 => if x4 < (x115001.length : Int) then (if 0 ≤ x4 then ((spec_l01Own.f (rd_L2 x115001 x4)).bind fun t121 => (if x120001.length < 5864062014805 then (spec_l01Copy.l0 k (wrap64 (x4 + 1)) x115000 x115001 x120000 (x120001 ++ [t121])) else (none))) else (none)) else (some (x120000, x120001))
def spec_l01Copy.f (k : Nat) (a0_0 : Int) (l0_1 : List (List Int)) : Option (Int × (List (List Int))) := spec_l01Copy.l0 k 0 a0_0 l0_1 a0_0 (([] : List (List Int)))
def spec_l01Copy.T5 : Bool × List (List Nat × List Nat) := (true, [([], []), ([0], [0]), ([], []), ([2], [2]), ([], []), ([3, 4], [3, 4]), ([5], [5]), ([6], [6]), ([7], [7]), ([1, 8, 7], [1, 8]), ([0, 1, 2, 3, 4, 5, 6, 7, 8, 9], []), ([10, 9, 9, 0, 1, 2, 3, 4, 5, 6, 7, 8, 9], [9, 10])])
def spec_l01Copy.B5 : List Nat := [0, 1, 0, 4, 0, 28, 60, 124, 252, 511, 1023, 2047]
theorem spec_l01Copy.tab5 : rtab .any (opsOf Try.f237 5) = spec_l01Copy.T5 := by kernel_rfl
theorem spec_l01Copy.bits5 : waitsOk spec_l01Copy.T5.2 spec_l01Copy.B5 = true := by kernel_rfl
set_option maxHeartbeats 8000000 in
set_option maxRecDepth 100000 in
theorem spec_l01Copy.calls (k : Nat) (a0_0 : Int) (A0_1 : Option Addr) (c0_1 : Nat) (l0_1 : List (List Int)) (r1 : Int) (r2 : List (List Int)) (w : World) (hr0_1 : Kd.C (Kd.slice 2 (Kd.int .i64)) w A0_1 l0_1.length l0_1) (hc0_1 : l0_1.length ≤ c0_1) (h : spec_l01Copy.f k a0_0 l0_1 = some (r1, r2)) :
  Calls Try.prog 237 #[.agg #[.int .i64 a0_0, .slice A0_1 l0_1.length c0_1]] w fun e w' => ∃ v1_ : Value, e = .returned (.agg #[.int .i64 r1, v1_]) ∧ Kd.S (Kd.slice 2 (Kd.int .i64)) 29 w' w.heap.size (fun _ => True) v1_ r2 ∧ Below w.heap.size w w' := by
 have hu26 := Try.underlying26
 have HR0_1 := m_ hr0_1
 have HC0_1 := m_ hc0_1
 clear hr0_1 hc0_1
 have HB := m_ (Below.refl w.heap.size w)
 have H : (spec_l01Copy.l0 k 0 a0_0 l0_1 a0_0 (([] : List (List Int)))) = some (r1, r2) := h
 clear h
 obtain ⟨y116, Ny116, H⟩ : ∃ y116 : List (List Int), Aside0 (y116 = (([] : List (List Int)))) ∧ (spec_l01Copy.l0 k 0 a0_0 l0_1 a0_0 y116) = some (r1, r2) := ⟨_, ⟨rfl⟩, H⟩
 have H' := m_ H
 clear H
 go_enter Try.func237, Try.ntmps237
 go_wp2_with (first | ((with_reducible refine gate_dst (N := 1) rfl ?_); refine bx_ (N := 1) (cs := #[.int .i64 a0_0, .slice A0_1 l0_1.length c0_1]) (t := 26) ?_; intro gb114 hg w2 hbox hb; have BK114 := m_ (hbox); have GW114 := m_ ((by rw [hg]; exact (below_size hb_) : w.heap.size ≤ gb114)); have GE114 := m_ ((by rw [hg]; exact (below_size hb_) : w.heap.size ≤ gb114)); replace HB := m_ (below_step hb_ hb); clear hb hbox hg) | ((with_reducible refine gate_dst (N := 2) rfl ?_); refine bx_ (N := 2) (cs := #[.int .i64 0, .slice none 0 0]) (t := 26) ?_; intro gb115 hg w3 hbox hb; have BK115 := m_ (hbox); have GW115 := m_ ((by rw [hg]; exact (below_size hbs_) : w.heap.size ≤ gb115)); have GE115 := m_ ((by rw [hg]; exact (below_size hbs_) : w.heap.size ≤ gb115)); replace HB := m_ (below_step hbs_ hb); have NB114_115 := m_ ((by rw [hg]; exact Nat.ne_of_lt (blk_lt (blk_below BK114.out bgo_)) : gb114 ≠ gb115)); have NB115_114 := m_ NB114_115.out.symm; replace BK114 := m_ (bb_ BK114.out hb); clear hb hbox hg; have hnb4 := NB114_115.out; have hnc4 := NB115_114.out; have hcz5_0 := bc0_ BK114.out; have hcz5_1 := bc1_ BK114.out; have hfz5_0 := blk_frozen BK114.out 0; have hfz5_1 := blk_frozen BK114.out 1) | ((with_reducible refine gate_dst (N := 7) rfl ?_); refine Kd.S_lit (Kd.slice 2 (Kd.int .i64)) _ 29 ?hg (N := 7) ?hd (xs := ([] : List (List Int))) (inner := []) (ok := fun _ => True) (okp := fun _ => True) ?hr ?hp (fun _ hk => hk) trivial (Below.refl _ _) (Nat.le_refl _) (by simp) ?_; (case hd => rfl); (case hg => rfl); (case hr => first | (go_simp; done) | (go_simp; rfl)); (case hp => exact (Reps.none _ _)); intro v117 w6 ho7 hb hg_ hnew_; clear hg_ hnew_; rw [← Ny116.out] at ho7; have HO118 := m_ (Kd.S_lower ho7 (below_size hbs_)); replace BK114 := m_ (bb_ BK114.out hb); replace BK115 := m_ (bb_ BK115.out hb); replace HB := m_ (below_step hbs_ hb); clear hb ho7; obtain ⟨Ao8, co8, eo8⟩ := Kd.S_slice HO118.out; subst eo8) | ((with_reducible refine gate_dst (N := 3) rfl ?_); refine bx_ (N := 3) (cs := #[.int .i64 0, .slice none 0 0]) (t := 26) ?_; intro gb119 hg w9 hbox hb; replace HO118 := m_ (Kd.S_below (Kd.S_below HO118.out bgo_) hb); have BK119 := m_ (hbox); have GW119 := m_ ((by rw [hg]; exact (below_size hbs_) : w.heap.size ≤ gb119)); have GE119 := m_ ((by rw [hg]; exact (below_size hbs_) : w.heap.size ≤ gb119)); replace HB := m_ (below_step hbs_ hb); have NB114_119 := m_ ((by rw [hg]; exact Nat.ne_of_lt (blk_lt (blk_below BK114.out bgo_)) : gb114 ≠ gb119)); have NB119_114 := m_ NB114_119.out.symm; replace BK114 := m_ (bb_ BK114.out hb); have NB115_119 := m_ ((by rw [hg]; exact Nat.ne_of_lt (blk_lt (blk_below BK115.out bgo_)) : gb115 ≠ gb119)); have NB119_115 := m_ NB115_119.out.symm; replace BK115 := m_ (bb_ BK115.out hb); clear hb hbox hg; have hnb10 := NB119_114.out; have hnc10 := NB114_119.out; have hnb11 := NB119_115.out; have hnc11 := NB115_119.out; have hcz12_0 := bc0_ BK119.out; have hcz12_1 := bc1_ BK119.out; have hfz12_0 := blk_frozen BK119.out 0; have hfz12_1 := blk_frozen BK119.out 1))
 go_loopg [4] k (fun kq v4 w' => ∃ (x4_1 : Int) (x120001_1 : List (List Int)) (u120001 : Value), v4 = .int .i64 x4_1 ∧ Aside0 (spec_l01Copy.l0 kq x4_1 a0_0 l0_1 a0_0 x120001_1 = some (r1, r2)) ∧ Aside0 (kq ≤ k) ∧ Aside0 (Kd.S (Kd.slice 2 (Kd.int .i64)) 29 w' w.heap.size (fun _ => True) u120001 x120001_1) ∧ Aside0 (w'.heap[gb114]? = some (.cells #[.int .i64 a0_0, (.slice A0_1 l0_1.length c0_1)] 26 (0, 0))) ∧ Aside0 (w'.heap[gb115]? = some (.cells #[.int .i64 0, (.slice none 0 0)] 26 (0, 0))) ∧ Aside0 (w'.heap[gb119]? = some (.cells #[.int .i64 a0_0, u120001] 26 (0, 0))) ∧ Aside0 (Below w.heap.size w w'))
 case atStart => exact ⟨(0), (y116), (.slice Ao8 y116.length co8), es_, H', ⟨Nat.le_refl _⟩, ⟨by (with_reducible repeat (first | apply Kd.S_alloc | apply Kd.S_drewN | apply Kd.S_drew)); exact Kd.S_mono (Kd.S_far (p := ⟨gb119, 1, none⟩) (Kd.S_far (p := ⟨gb119, 0, none⟩) (Kd.S_types HO118.out BK119.out (by decide)) (fun _ hk => hk.2) (.int .i64 a0_0)) (fun _ hk => hk.2) (.slice Ao8 y116.length co8)) (fun _ hk => trivial)⟩, ⟨bk_⟩, ⟨bk_⟩, ⟨by (with_reducible repeat (first | refine blk_drewN ?_ _ | refine blk_drew ?_ | refine blk_alloc ?_ _)); refine blk_put (cs := #[.int .i64 a0_0, .slice none 0 0]) ?_ 1 _ rfl; (with_reducible repeat (first | refine blk_drewN ?_ _ | refine blk_drew ?_ | refine blk_alloc ?_ _)); refine blk_put (cs := #[.int .i64 0, .slice none 0 0]) ?_ 0 _ rfl; (with_reducible repeat (first | refine blk_drewN ?_ _ | refine blk_drew ?_ | refine blk_alloc ?_ _)); exact BK119.out⟩, ⟨hbs_⟩⟩
 case round =>
  clear H'
  obtain ⟨x4_1, x120001_1, u120001, rfl, HA, HK1, HO_120001, BK114, BK115, BK119, HB⟩ := hrel
  cases gk with
  | zero => exact absurd HA.out (by simp [spec_l01Copy.l0])
  | succ k1 =>
   have H := HA.out
   clear HA
   simp only [spec_l01Copy.l0] at H
   by_cases c13 : x4_1 < (l0_1.length : Int)
   ·rw [if_pos c13] at H
    have c13b0 := decide_eq_true c13
    clear c13
    obtain ⟨c14, H⟩ := itn_ H
    have c14b0 := decide_eq_true c14
    clear c14
    obtain ⟨t121, A15, H⟩ := bnd_ H
    obtain ⟨c16, H⟩ := itn_ H
    have LMc16 := m_ c16
    clear c16
    obtain ⟨y124, Ny124, H⟩ : ∃ y124 : List (List Int), Aside0 (y124 = (x120001_1 ++ [t121])) ∧ (spec_l01Copy.l0 k1 (wrap64 (x4_1 + 1)) a0_0 l0_1 a0_0 y124) = some (r1, r2) := ⟨_, ⟨rfl⟩, H⟩
    have H' := m_ H
    clear H
    have hnb17 := NB114_115.out
    have hnc17 := NB115_114.out
    have hnb18 := NB114_119.out
    have hnc18 := NB119_114.out
    have hcz19_0 := bc0_ BK114.out
    have hcz19_1 := bc1_ BK114.out
    have hfz19_0 := blk_frozen BK114.out 0
    have hfz19_1 := blk_frozen BK114.out 1
    try go_wp2
    replace HO_120001 := m_ (Kd.S_drew HO_120001.out)
    replace BK114 := m_ (blk_drew BK114.out)
    replace BK115 := m_ (blk_drew BK115.out)
    replace BK119 := m_ (blk_drew BK119.out)
    replace HB := m_ (below_drew1 HB.out)
    have p120 : 0 ≤ (x4_1 : Int) := od_
    have q120 : x4_1 < (l0_1.length : Int) := od_
    obtain ⟨ad120, A120_0, c120_0, e120, hx120_0, hl120_0, hi120_0⟩ := at_L2 HR0_1.out x4_1 p120 q120
    have hw120_0 := hx120_0
    cases e120
    (try replace hx120_0 := (HB.out.cell (World.block_lt_of_cell? w _ hx120_0)).trans hx120_0)
    have HR120_0 := m_ hi120_0
    have HC120_0 := m_ hl120_0
    clear hi120_0 hl120_0
    replace p120 := eq_true p120
    replace q120 := eq_true q120
    refine start_ (n := 12) (S := fun w' => w'.cell? ⟨gb119, 0, none⟩ = some (.int .i64 a0_0) ∧ w'.cell? ⟨gb119, 1, none⟩ = some (u120001) ∧ w'.cell? ⟨gb114, 0, none⟩ = some (.int .i64 a0_0) ∧ w'.cell? ⟨gb114, 1, none⟩ = some (.slice (some ad120) l0_1.length c0_1) ∧ w'.cell? (ad120.add (x4_1).toNat) = some (.slice A120_0 (rd_L2 l0_1 x4_1).length c120_0)) (ds := [11]) #[false, false, false, false, false, false, false, false, false, false, false, false] (by kernel_rfl) rfl rfl ⟨bc0_ BK119.out, bc1_ BK119.out, bc0_ BK114.out, bc1_ BK114.out, ((HB.out.cell (World.block_lt_of_cell? _ _ hw120_0)).trans hw120_0)⟩ (fun hHeld => ?_); refine with_tabW spec_l01Copy.tab5 spec_l01Copy.bits5 (fun HT_ HW_ => ?_)
    generalize wr.drew = w20 at HO_120001 BK114 BK115 BK119 HB HR120_0 hx120_0 hHeld ⊢
    refine pk_ 0 12 16 1 ?_
    refine pk_ 2 12 18 5 ?_
    refine pk_ 4 12 20 21 ?_
    refine tk_ 1 12 17 23 hHeld ?_
    refine tk_ 3 12 19 31 hHeld ?_
    refine pk_ 5 12 21 63 ?_
    refine tk_ 6 12 22 127 hHeld ?_
    refine on_ 7 12 (some 23) 255 (fun K hK => ?_)
    refine goes_ Try.func113 (by kernel_rfl) rfl #[.slice A120_0 (rd_L2 l0_1 x4_1).length c120_0] (by rfl) rfl rfl arg_ ?_
    with_reducible refine (spec_l01Own.calls _ _ (rd_L2 l0_1 x4_1) t121 _ ?side1 ?side2 A15.out).mono ?_
    (case side1 => exact Kd.C_below (Kd.C_below HR120_0.out HB.out) bgo_)
    (case side2 => exact HC120_0.out)
    rintro e w21 ⟨v122, rfl, ho0, hb⟩
    refine ⟨_, rfl, ?_⟩
    replace HO_120001 := m_ (Kd.S_elder' (Kd.S_below HO_120001.out bgo_) (Kd.R_base ho0) hb)
    have HO123 := m_ (Kd.R_lower ho0 (below_size hbs_))
    replace BK114 := m_ (bb_ BK114.out hb)
    replace BK115 := m_ (bb_ BK115.out hb)
    replace BK119 := m_ (bb_ BK119.out hb)
    replace HB := m_ (below_step hbs_ hb)
    (try clear ho0)
    obtain ⟨Ao23, co23, eo23⟩ := Kd.R_slice HO123.out
    subst eo23
    refine hK.out _ _ ⟨bc0_ BK119.out, bc1_ BK119.out, bc0_ BK114.out, bc1_ BK114.out, ((HB.out.cell (World.block_lt_of_cell? _ _ hw120_0)).trans hw120_0)⟩ (fun hHeld => ?_)
    clear hK K
    refine nm_ ?_
    refine on_ 8 12 (some 24) 511 (fun K hK => ?_)
    refine value_ (w1 := ?_) (v := ?_) (by rfl) rfl ?_ ?_
    rotate_left 2
    ·go_simp
     constructor
     ·rfl
     ·rfl
    refine hK.out _ _ ⟨(blk_cell (blk_alloc BK119.out _) 0).trans rfl, (blk_cell (blk_alloc BK119.out _) 1).trans rfl, (blk_cell (blk_alloc BK114.out _) 0).trans rfl, (blk_cell (blk_alloc BK114.out _) 1).trans rfl, (World.cell?_alloc_lt _ _ _ (World.block_lt_of_cell? _ _ (((HB.out.cell (World.block_lt_of_cell? _ _ hw120_0)).trans hw120_0)))).trans (((HB.out.cell (World.block_lt_of_cell? _ _ hw120_0)).trans hw120_0))⟩ (fun hHeld => ?_)
    clear hK K
    refine nm_ ?_
    refine on_ 9 12 (some 25) 1023 (fun K hK => ?_)
    refine Kd.S_append_step (Kd.slice 2 (Kd.int .i64)) (w0 := w) w.heap.size (by rfl) (.tmp 17) (.tmp 24) 24 29 (.slice none 0 0) 24 rfl Try.underlying24 info29 rfl (by decide) (by omega) u120001 x120001_1 t121 [.slice Ao23 t121.length co23] (fun _ => True) (fun k_ => some k_ = (.slice Ao23 t121.length co23 : Value).ownBlock) rfl rfl ?aP (fun k_ hk_ => ((Kd.R_mono (ok' := fun k_ => ((fun _ => True)) k_ ∧ some k_ ≠ (u120001 : Value).ownBlock) (Kd.R_apart' (HO123.out) (Kd.S_typed HO_120001.out) (by decide)) (fun k_ hk => ⟨trivial, hk.2⟩))).1 k_ hk_.symm) ?aF ?aO ?aB ?aS ?aL ?_
    (case aP => exact Kd.M_row (Kd.R_mono (Kd.R_tight rfl (Kd.R_mono (ok' := fun k_ => ((fun _ => True)) k_ ∧ some k_ ≠ (u120001 : Value).ownBlock) (Kd.R_apart' (HO123.out) (Kd.S_typed HO_120001.out) (by decide)) (fun k_ hk => ⟨trivial, hk.2⟩))) (fun _ h_ => h_)))
    (case aB => exact hbs_)
    (case aF => exact (fun _ _ => trivial))
    (case aO => exact (Kd.S_below (Kd.S_mono HO_120001.out (fun k_ hk => ⟨trivial, fun e_ => hk.2 e_⟩)) bgo_))
    (case aS => exact (below_size hbs_))
    (case aL => have := LMc16.out; omega)
    intro v125 w22 ho hb hg hat
    rw [← Ny124.out] at ho
    replace BK114 := m_ (blk_grown (blk_below BK114.out bgo_) hg (Kd.S_ne HO_120001.out BK114.out (by decide)))
    replace BK115 := m_ (blk_grown (blk_below BK115.out bgo_) hg (Kd.S_ne HO_120001.out BK115.out (by decide)))
    replace BK119 := m_ (blk_grown (blk_below BK119.out bgo_) hg (Kd.S_ne HO_120001.out BK119.out (by decide)))
    replace HB := m_ (hb)
    have HO126 := m_ (ho)
    (try clear HO_120001)
    (try clear HO123)
    clear ho hb hg hat
    obtain ⟨Ao24, co24, eo24⟩ := Kd.S_slice HO126.out
    subst eo24
    refine hK.out _ _ ⟨bc0_ BK119.out, bc1_ BK119.out, bc0_ BK114.out, bc1_ BK114.out, ((HB.out.cell (World.block_lt_of_cell? _ _ hw120_0)).trans hw120_0)⟩ (fun hHeld => ?_)
    clear hK K
    refine nm_ ?_
    refine pk_ 10 12 26 2047 ?_
    refine last_ (i := 11) (N := none) #[true, true, true, true, true, true, true, true, true, true, true, true] rfl rfl (one_of HT_.out (by kernel_rfl)) (by decide) (fun K hK => ?_)
    have hs25 : w22.cell? ⟨gb119, 1, none⟩ = some (u120001) := bc1_ BK119.out
    have hfs25 := blk_frozen BK119.out 1
    have hns25_0 := NB114_119.out
    have hns25_1 := NB115_119.out
    have hms25_0 := NB119_114.out
    have hms25_1 := NB119_115.out
    refine skip_ (w1 := ?_) (by rfl) rfl ?_ ?_
    rotate_left
    ·go_simp
     rfl
    refine hK.out _ _ ?_
    clear hK K
    refine done_ (done_of HT_.out (by kernel_rfl)) ?_
    try go_wp2
    go_roundg k1
    case measure => have := HK1.out; omega
    case rel => exact ⟨(wrap64 (x4_1 + 1)), (y124), (.slice Ao24 y124.length co24), es_, H', ⟨by have := HK1.out; omega⟩, ⟨by (with_reducible repeat (first | apply Kd.S_alloc | apply Kd.S_drewN | apply Kd.S_drew)); exact Kd.S_mono (Kd.S_far (p := ⟨gb119, 1, none⟩) (Kd.S_types HO126.out BK119.out (by decide)) (fun _ hk => hk.2) (.slice Ao24 y124.length co24)) (fun _ hk => trivial)⟩, ⟨bk_⟩, ⟨bk_⟩, ⟨by (with_reducible repeat (first | refine blk_drewN ?_ _ | refine blk_drew ?_ | refine blk_alloc ?_ _)); refine blk_put (cs := #[.int .i64 a0_0, u120001]) ?_ 1 _ rfl; (with_reducible repeat (first | refine blk_drewN ?_ _ | refine blk_drew ?_ | refine blk_alloc ?_ _)); exact BK119.out⟩, ⟨hbs_⟩⟩
   ·rw [if_neg c13] at H
    have c13b0 := decide_eq_false c13
    clear c13
    simp only [Option.some.injEq, Prod.mk.injEq] at H
    obtain ⟨rfl, rfl⟩ := H
    have hnb26 := NB114_115.out
    have hnc26 := NB115_114.out
    have hnb27 := NB114_119.out
    have hnc27 := NB119_114.out
    have hcz28_0 := bc0_ BK114.out
    have hcz28_1 := bc1_ BK114.out
    have hfz28_0 := blk_frozen BK114.out 0
    have hfz28_1 := blk_frozen BK114.out 1
    have hnb29 := NB119_115.out
    have hnc29 := NB115_119.out
    have hcz30_0 := bc0_ BK119.out
    have hcz30_1 := bc1_ BK119.out
    have hfz30_0 := blk_frozen BK119.out 0
    have hfz30_1 := blk_frozen BK119.out 1
    have hcz31_0 := bc0_ BK115.out
    have hcz31_1 := bc1_ BK115.out
    have hfz31_0 := blk_frozen BK115.out 0
    have hfz31_1 := blk_frozen BK115.out 1
    obtain ⟨Ao32, co32, eo32⟩ := Kd.S_slice HO_120001.out
    subst eo32
    go_wp2
    refine bodyPost_ret (results_cell_row rfl _ _ gb115 26 #[.int .i64 a0_0, .slice Ao32 x120001_1.length co32] (0, 0) _ rfl (by (with_reducible repeat (first | refine blk_drewN ?_ _ | refine blk_drew ?_ | refine blk_alloc ?_ _)); refine blk_put (cs := #[.int .i64 a0_0, .slice none 0 0]) ?_ 1 _ rfl; (with_reducible repeat (first | refine blk_drewN ?_ _ | refine blk_drew ?_ | refine blk_alloc ?_ _)); refine blk_put (cs := #[.int .i64 0, .slice none 0 0]) ?_ 0 _ rfl; (with_reducible repeat (first | refine blk_drewN ?_ _ | refine blk_drew ?_ | refine blk_alloc ?_ _)); exact BK115.out) Try.underlying26 rfl (by kernel_rfl)) rfl ?_
    exact ⟨_, er_, by (with_reducible repeat (first | apply Kd.S_alloc | apply Kd.S_drewN | apply Kd.S_drew)); exact Kd.S_mono (Kd.S_far (p := ⟨gb115, 1, none⟩) (Kd.S_far (p := ⟨gb115, 0, none⟩) (Kd.S_types HO_120001.out BK115.out (by decide)) (fun _ hk => hk.2) (.int .i64 a0_0)) (fun _ hk => hk.2) (.slice Ao32 x120001_1.length co32)) (fun _ hk => trivial), hbs_⟩

/-! ### spec_l01Bad: function 225 -/
def spec_l01Bad.l0 : Nat → List Int → Int → Int → Int → List (List Int) → Option (Int × (List (List Int)) × Int × Int)
 | 0, _, _, _, _, _ => none
 | k + 1, x1000, x1001, x1002, x128000, x128001 => if (x128001.length : Int) ≤ 10 then (if x128001.length < 5864062014805 then (spec_l01Bad.l0 k x1000 x1001 x1002 x128000 (x128001 ++ [(([0, 0] : List Int))])) else (none)) else (some (x128000, x128001, x1001, x1002))
def spec_l01Bad.f (k : Nat) (s0_0 : List Int) (s0_1 : Int) (s0_2 : Int) (a1_0 : Int) (l1_1 : List (List Int)) : Option (Int × (List (List Int)) × Int × Int) := (spec_l01Next.f s0_0 s0_1 s0_2 40).bind fun bt129 => (if bt129.1 = 0 then ((spec_l01Pick.f s0_0 bt129.2.1 bt129.2.2 (([0, 9, wrap64 (a1_0 - 1)] : List Int))).bind fun bt135 => (some (bt135.1, l1_1, bt135.2.1, bt135.2.2))) else (if bt129.1 = 1 then ((spec_l01Copy.f k a1_0 l1_1).bind fun bt138 => (if bt138.2.length < 5864062014805 then (some (bt138.1, (bt138.2 ++ [(([0, bt138.1] : List Int))]), bt129.2.1, bt129.2.2)) else (none))) else (if bt129.1 = 2 then ((spec_l01Copy.f k a1_0 l1_1).bind fun bt148 => (if (bt148.2.length : Int) > 0 then ((spec_l01Next.f s0_0 bt129.2.1 bt129.2.2 (bt148.2.length : Int)).bind fun bt152 => (if 0 ≤ bt152.1 then (if bt152.1 < (bt148.2.length : Int) then (if (rd_L2 bt148.2 bt152.1).length < 17592186044416 then (some (bt148.1, (bt148.2.set (bt152.1 : Int).toNat ((rd_L2 bt148.2 bt152.1) ++ [0])), bt152.2.1, bt152.2.2)) else (none)) else (none)) else (none))) else (some (bt148.1, bt148.2, bt129.2.1, bt129.2.2)))) else (if bt129.1 = 3 then ((spec_l01Copy.f k a1_0 l1_1).bind fun bt160 => (spec_l01Bad.l0 k s0_0 bt129.2.1 bt129.2.2 bt160.1 bt160.2)) else (some (a1_0, l1_1, bt129.2.1, bt129.2.2))))))
def spec_l01Bad.T12 : Bool × List (List Nat × List Nat) := (true, [([], []), ([0], [0]), ([], []), ([], []), ([3], [3]), ([], []), ([4, 5], [4, 5]), ([6], [6]), ([], []), ([7, 8], [7, 8]), ([1, 2, 0, 1, 2, 3, 4, 5, 6, 7, 8, 9], [1, 2]), ([10, 9, 9, 0, 1, 2, 3, 4, 5, 6, 7, 8, 9], [9, 10])])
def spec_l01Bad.B12 : List Nat := [0, 1, 0, 0, 8, 0, 56, 120, 0, 504, 1023, 2047]
theorem spec_l01Bad.tab12 : rtab .any (opsOf Try.f225 12) = spec_l01Bad.T12 := by kernel_rfl
theorem spec_l01Bad.bits12 : waitsOk spec_l01Bad.T12.2 spec_l01Bad.B12 = true := by kernel_rfl
set_option maxHeartbeats 8000000 in
set_option maxRecDepth 100000 in
theorem spec_l01Bad.calls (k : Nat) (g : Nat) (s0_0 : List Int) (s0_1 : Int) (s0_2 : Int) (a1_0 : Int) (P1_1_ : Nat → Prop) (A1_1 : Option Addr) (c1_1 : Nat) (l1_1 : List (List Int)) (r1 : Int) (r2 : List (List Int)) (r3 : Int) (r4 : Int) (w0 w : World) (hI : IsS131 w0 w g s0_0 s0_1 s0_2) (hB : Below w0.heap.size w0 w) (hs1_1 : Kd.V (Kd.slice 2 (Kd.int .i64)) 29 w w.heap.size (fun k_ => P1_1_ k_ ∧ k_ ≠ g) (.slice A1_1 l1_1.length c1_1) l1_1) (h : spec_l01Bad.f k s0_0 s0_1 s0_2 a1_0 l1_1 = some (r1, r2, r3, r4)) :
  Calls Try.prog 225 #[.pointer (some ⟨g, 0, none⟩), .agg #[.int .i64 a1_0, .slice A1_1 l1_1.length c1_1]] w fun e w' => ∃ v1_ : Value, e = .returned (.agg #[.int .i64 r1, v1_]) ∧ Kd.V (Kd.slice 2 (Kd.int .i64)) 29 w' w.heap.size (fun k_ => (P1_1_ k_ ∨ w.heap.size ≤ k_)) v1_ r2 ∧ IsS131 w0 w' g s0_0 r3 r4 ∧ Below w0.heap.size w0 w' ∧ KeepBut w w' g none := by
 have hu26 := Try.underlying26
 have HO1_1 := m_ (show Kd.V (Kd.slice 2 (Kd.int .i64)) 29 w w.heap.size (fun k_ => (P1_1_ k_ ∨ w.heap.size ≤ k_) ∧ k_ ≠ g) (.slice A1_1 l1_1.length c1_1) l1_1 from Kd.V_mono hs1_1 (fun k_ hk => ⟨.inl hk.1, hk.2⟩))
 have HI0 := m_ hI
 have HK := m_ (KeepBut.refl w g none)
 have HL := m_ hB.size
 clear hI
 have HW0 := m_ hB.size
 have HB := m_ hB
 clear hB
 have H : ((spec_l01Next.f s0_0 s0_1 s0_2 40).bind fun bt129 => (if bt129.1 = 0 then ((spec_l01Pick.f s0_0 bt129.2.1 bt129.2.2 (([0, 9, wrap64 (a1_0 - 1)] : List Int))).bind fun bt135 => (some (bt135.1, l1_1, bt135.2.1, bt135.2.2))) else (if bt129.1 = 1 then ((spec_l01Copy.f k a1_0 l1_1).bind fun bt138 => (if bt138.2.length < 5864062014805 then (some (bt138.1, (bt138.2 ++ [(([0, bt138.1] : List Int))]), bt129.2.1, bt129.2.2)) else (none))) else (if bt129.1 = 2 then ((spec_l01Copy.f k a1_0 l1_1).bind fun bt148 => (if (bt148.2.length : Int) > 0 then ((spec_l01Next.f s0_0 bt129.2.1 bt129.2.2 (bt148.2.length : Int)).bind fun bt152 => (if 0 ≤ bt152.1 then (if bt152.1 < (bt148.2.length : Int) then (if (rd_L2 bt148.2 bt152.1).length < 17592186044416 then (some (bt148.1, (bt148.2.set (bt152.1 : Int).toNat ((rd_L2 bt148.2 bt152.1) ++ [0])), bt152.2.1, bt152.2.2)) else (none)) else (none)) else (none))) else (some (bt148.1, bt148.2, bt129.2.1, bt129.2.2)))) else (if bt129.1 = 3 then ((spec_l01Copy.f k a1_0 l1_1).bind fun bt160 => (spec_l01Bad.l0 k s0_0 bt129.2.1 bt129.2.2 bt160.1 bt160.2)) else (some (a1_0, l1_1, bt129.2.1, bt129.2.2))))))) = some (r1, r2, r3, r4) := h
 clear h
 obtain ⟨⟨t129, t130, t131⟩, A3, H⟩ := bnd_ H
 dsimp only at H
 by_cases c4 : t129 = 0
 ·rw [if_pos c4] at H
  have c4b0 : (t129 == 0) = true := beq_iff_eq.mpr c4
  have c4b1 : (t129 != 0) = false := bne_eq_false_iff_eq.mpr c4
  clear c4
  obtain ⟨y132, Ny132, H⟩ : ∃ y132 : List Int, Aside0 (y132 = (([0, 9, wrap64 (a1_0 - 1)] : List Int))) ∧ ((spec_l01Pick.f s0_0 t130 t131 y132).bind fun bt135 => (some (bt135.1, l1_1, bt135.2.1, bt135.2.2))) = some (r1, r2, r3, r4) := ⟨_, ⟨rfl⟩, H⟩
  obtain ⟨⟨t135, t136, t137⟩, A5, H⟩ := bnd_ H
  dsimp only at H
  simp only [Option.some.injEq, Prod.mk.injEq] at H
  obtain ⟨rfl, rfl, rfl, rfl⟩ := H
  go_enter Try.func225, Try.ntmps225
  go_wp2_with (first | ((with_reducible refine gate_dst (N := 3) rfl ?_); refine bx_ (N := 3) (cs := #[.int .i64 a1_0, .slice A1_1 l1_1.length c1_1]) (t := 26) ?_; intro gb127 hg w6 hbox hb; replace HO1_1 := m_ (Kd.V_below (Kd.V_elderB (Kd.V_below HO1_1.out bgo_) gb127 (Nat.le_of_eq hg.symm)) hb); replace HB := m_ (below_step IsS131.hb_ hb); have BK127 := m_ (hbox); have GW127 := m_ ((by rw [hg]; exact (keep_size (w := w) (g := g) (row := none) kp_) : w.heap.size ≤ gb127)); have GE127 := m_ (Nat.le_trans HW0.out GW127.out); replace HK := m_ (KeepBut.trans kp_ (KeepBut.of_below hb g none) (.inl rfl)); have NB0_127 := m_ ((by rw [hg]; exact Nat.ne_of_lt (IsS131.lt (show IsS131 w0 _ g s0_0 s0_1 s0_2 from IsS131.go_)) : g ≠ gb127)); have NB127_0 := m_ NB0_127.out.symm; replace HI0 := m_ (IsS131.below IsS131.go_ hb); clear hb hbox hg) | ((with_reducible refine gate_dst (N := 4) rfl ?_); refine bx_ (N := 4) (cs := #[.int .i64 0, .slice none 0 0]) (t := 26) ?_; intro gb128 hg w7 hbox hb; replace HO1_1 := m_ (Kd.V_below (Kd.V_elderB (Kd.V_below HO1_1.out bgo_) gb128 (Nat.le_of_eq hg.symm)) hb); replace HB := m_ (below_step IsS131.hs_ hb); have BK128 := m_ (hbox); have GW128 := m_ ((by rw [hg]; exact (keep_size (w := w) (g := g) (row := none) kp_) : w.heap.size ≤ gb128)); have GE128 := m_ (Nat.le_trans HW0.out GW128.out); replace HK := m_ (KeepBut.trans kp_ (KeepBut.of_below hb g none) (.inl rfl)); have NB127_128 := m_ ((by rw [hg]; exact Nat.ne_of_lt (blk_lt (blk_below BK127.out bgo_)) : gb127 ≠ gb128)); have NB128_127 := m_ NB127_128.out.symm; replace BK127 := m_ (bb_ BK127.out hb); have NB0_128 := m_ ((by rw [hg]; exact Nat.ne_of_lt (IsS131.lt (show IsS131 w0 _ g s0_0 s0_1 s0_2 from IsS131.gs_)) : g ≠ gb128)); have NB128_0 := m_ NB0_128.out.symm; replace HI0 := m_ (IsS131.below IsS131.gs_ hb); clear hb hbox hg) | ((with_reducible refine gate_callee (f := 171) rfl ?_); refine gl_ (some 8) Try.func171 #[.pointer (some ⟨g, 0, none⟩), .int .i64 40] ?_; (with_reducible refine (spec_l01Next.calls g s0_0 s0_1 s0_2 40 t129 t130 t131 w0 _ ?side1 ?side2 A3.out).mono ?_); (case side1 => exact IsS131.gs_); (case side2 => exact IsS131.hs_); rintro e w8 ⟨rfl, hi, hb, hk⟩; refine ⟨_, rfl, ?_⟩; replace HO1_1 := m_ (Kd.V_mono (Kd.V_keep (Kd.V_mono (ok := fun k_ => (((((P1_1_ k_ ∨ w.heap.size ≤ k_)) ∧ k_ ≠ g) ∧ k_ ≠ gb127) ∧ k_ ≠ gb128)) (Kd.V_below HO1_1.out bgo_) (fun k_ hk_ => (⟨hk_, hk_.1.1.2⟩ : _ ∧ k_ ≠ g))) hk (fun _ h => h.2)) (fun _ h => h.1)); replace BK127 := m_ (KeepBut.blk hk (blk_below BK127.out bgo_) NB127_0.out (by simp)); replace BK128 := m_ (KeepBut.blk hk (blk_below BK128.out bgo_) NB128_0.out (by simp)); replace HK := m_ (KeepBut.trans kp_ hk (.inl rfl)); replace HB := m_ (hb); replace HI0 := m_ (hi); clear hi hb hk; have hnb9 := NB127_128.out; have hnc9 := NB128_127.out; have hnb10 := NB127_0.out; have hnc10 := NB0_127.out; have hcz11_0 := bc0_ BK127.out; have hcz11_1 := bc1_ BK127.out; have hfz11_0 := blk_frozen BK127.out 0; have hfz11_1 := blk_frozen BK127.out 1) | ((with_reducible refine gate_dst (N := 15) rfl ?_); refine Kd.R_lit (Kd.int .i64) _ 2 ?hg (N := 15) ?hd (xs := ([0, 9, wrap64 (a1_0 - 1)] : List Int)) (inner := [.int .i64 0, .int .i64 9, .int .i64 (wrap64 (a1_0 - 1))]) (ok := fun _ => True) (okp := fun _ => True) ?hr ?hp (fun _ hk => hk) trivial (Below.refl _ _) (Nat.le_refl _) (by simp) ?_; (case hd => rfl); (case hg => rfl); (case hr => first | (go_simp; done) | (go_simp; rfl)); (case hp => exact (Reps.one (show Kd.M (Kd.int .i64) _ _ _ 0 [.int .i64 0] from rfl) (Reps.one (show Kd.M (Kd.int .i64) _ _ _ 9 [.int .i64 9] from rfl) (Reps.one (show Kd.M (Kd.int .i64) _ _ _ (wrap64 (a1_0 - 1)) [.int .i64 (wrap64 (a1_0 - 1))] from rfl) (Reps.none _ _))))); intro v133 w12 ho13 hb hg_ hnew_; clear hg_ hnew_; rw [← Ny132.out] at ho13; replace HO1_1 := m_ (Kd.V_elder' (Kd.V_below HO1_1.out bgo_) (Kd.R_base ho13) hb); have HO134 := m_ (Kd.R_lower (Kd.R_newM (M := fun k_ => (w.heap.size ≤ k_)) ho13 (keep_size (w := w) (g := g) (row := none) kp_) (fun k_ h_ => h_)) (keep_size (w := w) (g := g) (row := none) kp_)); replace BK127 := m_ (bb_ BK127.out hb); replace BK128 := m_ (bb_ BK128.out hb); replace HK := m_ (KeepBut.trans kp_ (KeepBut.of_below hb g none) (.inl rfl)); replace HB := m_ (below_step IsS131.hs_ hb); replace HI0 := m_ (IsS131.below IsS131.gs_ hb); clear hb ho13; obtain ⟨Ao14, co14, eo14⟩ := Kd.R_slice HO134.out; subst eo14) | ((with_reducible refine gate_callee (f := 144) rfl ?_); refine gl_ (some 16) Try.func144 #[.pointer (some ⟨g, 0, none⟩), .slice Ao14 y132.length co14] ?_; (with_reducible refine (spec_l01Pick.calls g s0_0 t130 t131 _ _ y132 t135 t136 t137 w0 _ ?side1 ?side2 ?side3 ?side4 ?side5 A5.out).mono ?_); (case side1 => exact IsS131.gs_); (case side2 => exact IsS131.hs_); (case side3 => exact Kd.C_below (Kd.R_reads' HO134.out).2.2 bgo_); (case side4 => exact (Kd.R_reads' HO134.out).2.1); (case side5 => exact far_slice (IsS131.own_ne HI0.out HO134.out (by decide))); rintro e w15 ⟨rfl, hi, hb, hk⟩; refine ⟨_, rfl, ?_⟩; replace HO1_1 := m_ (Kd.V_mono (Kd.V_keep (Kd.V_mono (ok := fun k_ => ((((((P1_1_ k_ ∨ w.heap.size ≤ k_)) ∧ k_ ≠ g) ∧ k_ ≠ gb127) ∧ k_ ≠ gb128) ∧ some k_ ≠ (.slice Ao14 y132.length co14 : Value).ownBlock)) (Kd.V_below HO1_1.out bgo_) (fun k_ hk_ => (⟨hk_, hk_.1.1.1.2⟩ : _ ∧ k_ ≠ g))) hk (fun _ h => h.2)) (fun _ h => h.1)); replace BK127 := m_ (KeepBut.blk hk (blk_below BK127.out bgo_) NB127_0.out (by simp)); replace BK128 := m_ (KeepBut.blk hk (blk_below BK128.out bgo_) NB128_0.out (by simp)); replace HO134 := m_ (Kd.R_mono (Kd.R_keep (IsS131.apart (show IsS131 w0 _ g s0_0 t130 t131 from IsS131.gs_) (Kd.R_below HO134.out bgo_) (by decide)) hk (fun _ h => h.2)) (fun _ h => h.1)); replace HK := m_ (KeepBut.trans kp_ hk (.inl rfl)); replace HB := m_ (hb); replace HI0 := m_ (hi); clear hi hb hk; have hcz16_0 := bc0_ BK127.out; have hcz16_1 := bc1_ BK127.out; have hfz16_0 := blk_frozen BK127.out 0; have hfz16_1 := blk_frozen BK127.out 1; have hnb17 := NB128_0.out; have hnc17 := NB0_128.out; have hcz18_0 := bc0_ BK128.out; have hcz18_1 := bc1_ BK128.out; have hfz18_0 := blk_frozen BK128.out 0; have hfz18_1 := blk_frozen BK128.out 1))
  refine bodyPost_ret (results_cell_row rfl _ _ gb128 26 #[.int .i64 t135, .slice A1_1 l1_1.length c1_1] (0, 0) _ rfl (by (with_reducible repeat (first | refine blk_drewN ?_ _ | refine blk_drew ?_ | refine blk_alloc ?_ _)); refine blk_put (cs := #[.int .i64 t135, .slice none 0 0]) ?_ 1 _ rfl; (with_reducible repeat (first | refine blk_drewN ?_ _ | refine blk_drew ?_ | refine blk_alloc ?_ _)); refine blk_put (cs := #[.int .i64 0, .slice none 0 0]) ?_ 0 _ rfl; (with_reducible repeat (first | refine blk_drewN ?_ _ | refine blk_drew ?_ | refine blk_alloc ?_ _)); refine blk_far ?_ NB128_127.out _; (with_reducible repeat (first | refine blk_drewN ?_ _ | refine blk_drew ?_ | refine blk_alloc ?_ _)); exact BK128.out) Try.underlying26 rfl (by kernel_rfl)) rfl ?_
  exact ⟨_, er_, by (with_reducible repeat (first | apply Kd.V_alloc | apply Kd.V_drewN | apply Kd.V_drew)); exact Kd.V_mono (Kd.V_far (p := ⟨gb128, 1, none⟩) (Kd.V_far (p := ⟨gb128, 0, none⟩) (Kd.V_far (p := ⟨gb127, 0, none⟩) (Kd.V_mono (Kd.V_mono HO1_1.out (fun k_ hk => (⟨hk, hk.1.1.2⟩ : _ ∧ k_ ≠ gb127))) (fun k_ hk => (⟨hk, hk.1.1.2⟩ : _ ∧ k_ ≠ gb128))) (fun _ hk => hk.1.2) (.int .i64 t135)) (fun _ hk => hk.2) (.int .i64 t135)) (fun _ hk => hk.2) (.slice A1_1 l1_1.length c1_1)) (fun _ hk => hk.1.1.1.1.1.1), IsS131.gs_, IsS131.hs_, kp_⟩
 ·rw [if_neg c4] at H
  have c4b0 : (t129 == 0) = false := beq_eq_false_iff_ne.mpr c4
  have c4b1 : (t129 != 0) = true := bne_iff_ne.mpr c4
  by_cases c19 : t129 = 1
  ·rw [if_pos c19] at H
   have c19b0 : (t129 == 1) = true := beq_iff_eq.mpr c19
   have c19b1 : (t129 != 1) = false := bne_eq_false_iff_eq.mpr c19
   clear c19
   obtain ⟨⟨t138, t139⟩, A20, H⟩ := bnd_ H
   dsimp only at H
   obtain ⟨y142, Ny142, H⟩ : ∃ y142 : List Int, Aside0 (y142 = (([0, t138] : List Int))) ∧ (if t139.length < 5864062014805 then (some (t138, (t139 ++ [y142]), t130, t131)) else (none)) = some (r1, r2, r3, r4) := ⟨_, ⟨rfl⟩, H⟩
   obtain ⟨c21, H⟩ := itn_ H
   have LMc21 := m_ c21
   clear c21
   obtain ⟨y145, Ny145, H⟩ : ∃ y145 : List (List Int), Aside0 (y145 = (t139 ++ [y142])) ∧ (some (t138, y145, t130, t131)) = some (r1, r2, r3, r4) := ⟨_, ⟨rfl⟩, H⟩
   simp only [Option.some.injEq, Prod.mk.injEq] at H
   obtain ⟨rfl, rfl, rfl, rfl⟩ := H
   go_enter Try.func225, Try.ntmps225
   go_wp2_with (first | ((with_reducible refine gate_dst (N := 3) rfl ?_); refine bx_ (N := 3) (cs := #[.int .i64 a1_0, .slice A1_1 l1_1.length c1_1]) (t := 26) ?_; intro gb127 hg w22 hbox hb; replace HO1_1 := m_ (Kd.V_below (Kd.V_elderB (Kd.V_below HO1_1.out bgo_) gb127 (Nat.le_of_eq hg.symm)) hb); replace HB := m_ (below_step IsS131.hb_ hb); have BK127 := m_ (hbox); have GW127 := m_ ((by rw [hg]; exact (keep_size (w := w) (g := g) (row := none) kp_) : w.heap.size ≤ gb127)); have GE127 := m_ (Nat.le_trans HW0.out GW127.out); replace HK := m_ (KeepBut.trans kp_ (KeepBut.of_below hb g none) (.inl rfl)); have NB0_127 := m_ ((by rw [hg]; exact Nat.ne_of_lt (IsS131.lt (show IsS131 w0 _ g s0_0 s0_1 s0_2 from IsS131.go_)) : g ≠ gb127)); have NB127_0 := m_ NB0_127.out.symm; replace HI0 := m_ (IsS131.below IsS131.go_ hb); clear hb hbox hg) | ((with_reducible refine gate_dst (N := 4) rfl ?_); refine bx_ (N := 4) (cs := #[.int .i64 0, .slice none 0 0]) (t := 26) ?_; intro gb128 hg w23 hbox hb; replace HO1_1 := m_ (Kd.V_below (Kd.V_elderB (Kd.V_below HO1_1.out bgo_) gb128 (Nat.le_of_eq hg.symm)) hb); replace HB := m_ (below_step IsS131.hs_ hb); have BK128 := m_ (hbox); have GW128 := m_ ((by rw [hg]; exact (keep_size (w := w) (g := g) (row := none) kp_) : w.heap.size ≤ gb128)); have GE128 := m_ (Nat.le_trans HW0.out GW128.out); replace HK := m_ (KeepBut.trans kp_ (KeepBut.of_below hb g none) (.inl rfl)); have NB127_128 := m_ ((by rw [hg]; exact Nat.ne_of_lt (blk_lt (blk_below BK127.out bgo_)) : gb127 ≠ gb128)); have NB128_127 := m_ NB127_128.out.symm; replace BK127 := m_ (bb_ BK127.out hb); have NB0_128 := m_ ((by rw [hg]; exact Nat.ne_of_lt (IsS131.lt (show IsS131 w0 _ g s0_0 s0_1 s0_2 from IsS131.gs_)) : g ≠ gb128)); have NB128_0 := m_ NB0_128.out.symm; replace HI0 := m_ (IsS131.below IsS131.gs_ hb); clear hb hbox hg) | ((with_reducible refine gate_callee (f := 171) rfl ?_); refine gl_ (some 8) Try.func171 #[.pointer (some ⟨g, 0, none⟩), .int .i64 40] ?_; (with_reducible refine (spec_l01Next.calls g s0_0 s0_1 s0_2 40 t129 t130 t131 w0 _ ?side1 ?side2 A3.out).mono ?_); (case side1 => exact IsS131.gs_); (case side2 => exact IsS131.hs_); rintro e w24 ⟨rfl, hi, hb, hk⟩; refine ⟨_, rfl, ?_⟩; replace HO1_1 := m_ (Kd.V_mono (Kd.V_keep (Kd.V_mono (ok := fun k_ => (((((P1_1_ k_ ∨ w.heap.size ≤ k_)) ∧ k_ ≠ g) ∧ k_ ≠ gb127) ∧ k_ ≠ gb128)) (Kd.V_below HO1_1.out bgo_) (fun k_ hk_ => (⟨hk_, hk_.1.1.2⟩ : _ ∧ k_ ≠ g))) hk (fun _ h => h.2)) (fun _ h => h.1)); replace BK127 := m_ (KeepBut.blk hk (blk_below BK127.out bgo_) NB127_0.out (by simp)); replace BK128 := m_ (KeepBut.blk hk (blk_below BK128.out bgo_) NB128_0.out (by simp)); replace HK := m_ (KeepBut.trans kp_ hk (.inl rfl)); replace HB := m_ (hb); replace HI0 := m_ (hi); clear hi hb hk; have hnb25 := NB127_128.out; have hnc25 := NB128_127.out; have hnb26 := NB127_0.out; have hnc26 := NB0_127.out; have hcz27_0 := bc0_ BK127.out; have hcz27_1 := bc1_ BK127.out; have hfz27_0 := blk_frozen BK127.out 0; have hfz27_1 := blk_frozen BK127.out 1) | ((with_reducible refine gate_callee (f := 237) rfl ?_); refine gl_ (some 21) Try.func237 #[.agg #[.int .i64 a1_0, .slice A1_1 l1_1.length c1_1]] ?_; (with_reducible refine (spec_l01Copy.calls k a1_0 _ _ l1_1 t138 t139 _ ?side1 ?side2 A20.out).mono ?_); (case side1 => exact Kd.C_below (Kd.V_reads' HO1_1.out).2.2 bgo_); (case side2 => exact (Kd.V_reads' HO1_1.out).2.1); rintro e w28 ⟨v140, rfl, ho0, hb⟩; refine ⟨_, rfl, ?_⟩; replace HO1_1 := m_ (Kd.V_elder' (Kd.V_below HO1_1.out bgo_) (Kd.S_base ho0) hb); have HO141 := m_ (Kd.S_lower (Kd.S_newM (M := fun k_ => (w.heap.size ≤ k_)) ho0 (keep_size (w := w) (g := g) (row := none) kp_) (fun k_ h_ => h_)) (keep_size (w := w) (g := g) (row := none) kp_)); replace BK127 := m_ (bb_ BK127.out hb); replace BK128 := m_ (bb_ BK128.out hb); replace HK := m_ (KeepBut.trans kp_ (KeepBut.of_below hb g none) (.inl rfl)); replace HB := m_ (below_step IsS131.hs_ hb); replace HI0 := m_ (IsS131.below IsS131.gs_ hb); clear hb; (try clear ho0); have hcz29_0 := bc0_ BK127.out; have hcz29_1 := bc1_ BK127.out; have hfz29_0 := blk_frozen BK127.out 0; have hfz29_1 := blk_frozen BK127.out 1; obtain ⟨Ao30, co30, eo30⟩ := Kd.S_slice HO141.out; subst eo30) | ((with_reducible refine gate_dst (N := 26) rfl ?_); refine Kd.R_lit (Kd.int .i64) _ 2 ?hg (N := 26) ?hd (xs := ([0, t138] : List Int)) (inner := [.int .i64 0, .int .i64 t138]) (ok := fun _ => True) (okp := fun _ => True) ?hr ?hp (fun _ hk => hk) trivial (Below.refl _ _) (Nat.le_refl _) (by simp) ?_; (case hd => rfl); (case hg => rfl); (case hr => first | (go_simp; done) | (go_simp; rfl)); (case hp => exact (Reps.one (show Kd.M (Kd.int .i64) _ _ _ 0 [.int .i64 0] from rfl) (Reps.one (show Kd.M (Kd.int .i64) _ _ _ t138 [.int .i64 t138] from rfl) (Reps.none _ _)))); intro v143 w31 ho32 hb hg_ hnew_; clear hg_ hnew_; rw [← Ny142.out] at ho32; replace HO1_1 := m_ (Kd.V_elder' (by (with_reducible repeat (first | apply Kd.V_alloc | apply Kd.V_drewN | apply Kd.V_drew)); exact (Kd.V_mono (Kd.V_far (p := ⟨gb127, 1, none⟩) (Kd.V_far (p := ⟨gb127, 0, none⟩) (Kd.V_mono HO1_1.out (fun k_ hk => (⟨hk, hk.1.1.2⟩ : _ ∧ k_ ≠ gb127))) (fun _ hk => hk.2) (.int .i64 t138)) (fun _ hk => hk.2) (.slice Ao30 t139.length co30)) (fun _ h_ => h_.1))) (Kd.R_base ho32) hb); replace HO141 := m_ (Kd.S_elder' (by (with_reducible repeat (first | apply Kd.S_alloc | apply Kd.S_drewN | apply Kd.S_drew)); exact (Kd.S_mono (Kd.S_far (p := ⟨gb127, 1, none⟩) (Kd.S_far (p := ⟨gb127, 0, none⟩) (Kd.S_types HO141.out BK127.out (by decide)) (fun _ hk => hk.2) (.int .i64 t138)) (fun _ hk => hk.2) (.slice Ao30 t139.length co30)) (fun _ h_ => h_.1))) (Kd.R_base ho32) hb); have HO144 := m_ (Kd.R_lower (Kd.R_newM (M := fun k_ => (w.heap.size ≤ k_)) ho32 (keep_size (w := w) (g := g) (row := none) kp_) (fun k_ h_ => h_)) (keep_size (w := w) (g := g) (row := none) kp_)); replace BK127 := m_ (blk_below (g := gb127) (o := .cells #[.int .i64 t138, .slice Ao30 t139.length co30] 26 (0, 0)) (by (with_reducible repeat (first | refine blk_drewN ?_ _ | refine blk_drew ?_ | refine blk_alloc ?_ _)); refine blk_put (cs := #[.int .i64 t138, .slice A1_1 l1_1.length c1_1]) ?_ 1 _ rfl; (with_reducible repeat (first | refine blk_drewN ?_ _ | refine blk_drew ?_ | refine blk_alloc ?_ _)); refine blk_put (cs := #[.int .i64 a1_0, .slice A1_1 l1_1.length c1_1]) ?_ 0 _ rfl; (with_reducible repeat (first | refine blk_drewN ?_ _ | refine blk_drew ?_ | refine blk_alloc ?_ _)); exact BK127.out) hb); replace BK128 := m_ (blk_below (g := gb128) (o := .cells #[.int .i64 0, .slice none 0 0] 26 (0, 0)) bk_ hb); replace HK := m_ (KeepBut.trans kp_ (KeepBut.of_below hb g none) (.inl rfl)); replace HB := m_ (below_step IsS131.hs_ hb); replace HI0 := m_ (IsS131.below (show IsS131 w0 ((w28.setCell ⟨gb127, 0, none⟩ (.int .i64 t138)).setCell ⟨gb127, 1, none⟩ (.slice Ao30 t139.length co30)) g s0_0 t130 t131 from IsS131.gs_) hb); clear hb ho32; obtain ⟨Ao34, co34, eo34⟩ := Kd.R_slice HO144.out; subst eo34) | ((with_reducible refine gate_builtin (b := .append) (xs := #[.tmp 23, .tmp 27]) rfl ?_); at_builtin; refine Kd.S_append (Kd.slice 2 (Kd.int .i64)) w.heap.size rfl (.tmp 23) (.tmp 27) 24 29 (.slice none 0 0) 24 rfl Try.underlying24 info29 rfl (by decide) (by omega) (.slice Ao30 t139.length co30) t139 y142 [.slice Ao34 y142.length co34] (fun k_ => (w.heap.size ≤ k_)) (fun k_ => some k_ = (.slice Ao34 y142.length co34 : Value).ownBlock) rfl rfl ?aP (fun k_ hk_ => ((Kd.R_mono (ok' := fun k_ => ((fun k_ => (w.heap.size ≤ k_))) k_ ∧ some k_ ≠ (.slice Ao30 t139.length co30 : Value).ownBlock) (Kd.R_apart' (HO144.out) (Kd.S_typed HO141.out) (by decide)) (fun k_ hk => ⟨hk.1.1, hk.2⟩))).1 k_ hk_.symm) ?aF ?aO (Below.refl _ _) ?aS ?aL ?_; (case aP => exact Kd.M_row (Kd.R_mono (Kd.R_tight rfl (Kd.R_mono (ok' := fun k_ => ((fun k_ => (w.heap.size ≤ k_))) k_ ∧ some k_ ≠ (.slice Ao30 t139.length co30 : Value).ownBlock) (Kd.R_apart' (HO144.out) (Kd.S_typed HO141.out) (by decide)) (fun k_ hk => ⟨hk.1.1, hk.2⟩))) (fun _ h_ => h_))); (case aF => exact (fun k_ hk => (Nat.le_trans (keep_size (w := w) (g := g) (row := none) kp_) hk))); (case aO => exact (Kd.S_below (Kd.S_mono HO141.out (fun k_ hk => ⟨hk.1.1, fun e_ => hk.2 e_⟩)) bgo_)); (case aS => exact (keep_size (w := w) (g := g) (row := none) kp_)); (case aL => have := LMc21.out; omega); intro v146 w33 ho hb hg hat; rw [← Ny145.out] at ho; replace HO1_1 := m_ (Kd.V_afterv (ok := (fun k_ => (P1_1_ k_ ∨ w.heap.size ≤ k_) ∧ some k_ ≠ (.slice Ao34 y142.length co34 : Value).ownBlock ∧ k_ ≠ g ∧ k_ ≠ gb127 ∧ k_ ≠ gb128)) (Kd.V_below (Kd.V_mono HO1_1.out (fun _ hk => ⟨⟨hk.1.1.1.1.1, ⟨hk.2, ⟨hk.1.1.1.1.2, ⟨hk.1.1.1.2, hk.1.1.2⟩⟩⟩⟩, hk.1.2⟩)) bgo_) hg hat); replace BK127 := m_ (blk_grown (blk_below BK127.out bgo_) hg (Kd.S_ne HO141.out BK127.out (by decide))); replace BK128 := m_ (blk_grown (blk_below BK128.out bgo_) hg (Kd.S_ne HO141.out BK128.out (by decide))); replace HB := m_ (below_weaken IsS131.hs_ HL.out hb); replace HI0 := m_ (IsS131.grown IsS131.gs_ hg (IsS131.own_neS HI0.out HO141.out (by decide))); replace HK := m_ (KeepBut.trans kp_ (KeepBut.of_grown hg g) (Kd.S_base2 HO141.out)); have HO147 := m_ (ho); clear HO141 HO144; clear ho hb hg hat; obtain ⟨Ao35, co35, eo35⟩ := Kd.S_slice HO147.out; subst eo35; have hcz36_0 := bc0_ BK127.out; have hcz36_1 := bc1_ BK127.out; have hfz36_0 := blk_frozen BK127.out 0; have hfz36_1 := blk_frozen BK127.out 1; have hnb37 := NB128_0.out; have hnc37 := NB0_128.out; have hcz38_0 := bc0_ BK128.out; have hcz38_1 := bc1_ BK128.out; have hfz38_0 := blk_frozen BK128.out 0; have hfz38_1 := blk_frozen BK128.out 1))
   refine bodyPost_ret (results_cell_row rfl _ _ gb128 26 #[.int .i64 t138, .slice Ao35 y145.length co35] (0, 0) _ rfl (by (with_reducible repeat (first | refine blk_drewN ?_ _ | refine blk_drew ?_ | refine blk_alloc ?_ _)); refine blk_put (cs := #[.int .i64 t138, .slice none 0 0]) ?_ 1 _ rfl; (with_reducible repeat (first | refine blk_drewN ?_ _ | refine blk_drew ?_ | refine blk_alloc ?_ _)); refine blk_put (cs := #[.int .i64 0, .slice none 0 0]) ?_ 0 _ rfl; (with_reducible repeat (first | refine blk_drewN ?_ _ | refine blk_drew ?_ | refine blk_alloc ?_ _)); refine blk_far ?_ NB128_127.out _; (with_reducible repeat (first | refine blk_drewN ?_ _ | refine blk_drew ?_ | refine blk_alloc ?_ _)); exact BK128.out) Try.underlying26 rfl (by kernel_rfl)) rfl ?_
   exact ⟨_, er_, Kd.V_mono (Kd.S_V (Kd.S_below (Kd.S_mono (Kd.S_far (p := ⟨gb128, 1, none⟩) (Kd.S_far (p := ⟨gb128, 0, none⟩) (Kd.S_far (p := ⟨gb127, 1, none⟩) (Kd.S_types (Kd.S_types HO147.out BK127.out (by decide)) BK128.out (by decide)) (fun _ hk => hk.1.2) (.slice Ao35 y145.length co35)) (fun _ hk => hk.2) (.int .i64 t138)) (fun _ hk => hk.2) (.slice Ao35 y145.length co35)) (fun _ hk => hk.1.1)) bgo_)) (fun k_ hk => by first | exact ⟨(.inr (hk.1)), hk.2⟩ | exact (.inr (hk))), IsS131.gs_, IsS131.hs_, kp_⟩
  ·rw [if_neg c19] at H
   have c19b0 : (t129 == 1) = false := beq_eq_false_iff_ne.mpr c19
   have c19b1 : (t129 != 1) = true := bne_iff_ne.mpr c19
   by_cases c39 : t129 = 2
   ·rw [if_pos c39] at H
    have c39b0 : (t129 == 2) = true := beq_iff_eq.mpr c39
    have c39b1 : (t129 != 2) = false := bne_eq_false_iff_eq.mpr c39
    clear c39
    obtain ⟨⟨t148, t149⟩, A40, H⟩ := bnd_ H
    dsimp only at H
    by_cases c41 : (t149.length : Int) > 0
    ·rw [if_pos c41] at H
     have c41b0 := decide_eq_true c41
     have c41b1 : decide (0 < t149.length) = true := decide_eq_true (by omega)
     clear c41
     obtain ⟨⟨t152, t153, t154⟩, A42, H⟩ := bnd_ H
     dsimp only at H
     obtain ⟨c43, H⟩ := itn_ H
     have c43b0 := decide_eq_true c43
     clear c43
     obtain ⟨c44, H⟩ := itn_ H
     have c44b0 := decide_eq_true c44
     clear c44
     obtain ⟨c45, H⟩ := itn_ H
     have LMc45 := m_ c45
     clear c45
     obtain ⟨y156, Ny156, H⟩ : ∃ y156 : List Int, Aside0 (y156 = ((rd_L2 t149 t152) ++ [0])) ∧ (some (t148, (t149.set (t152 : Int).toNat y156), t153, t154)) = some (r1, r2, r3, r4) := ⟨_, ⟨rfl⟩, H⟩
     obtain ⟨y159, Ny159, H⟩ : ∃ y159 : List (List Int), Aside0 (y159 = (t149.set (t152 : Int).toNat y156)) ∧ (some (t148, y159, t153, t154)) = some (r1, r2, r3, r4) := ⟨_, ⟨rfl⟩, H⟩
     simp only [Option.some.injEq, Prod.mk.injEq] at H
     obtain ⟨rfl, rfl, rfl, rfl⟩ := H
     go_enter Try.func225, Try.ntmps225
     try go_wp2_with (first | ((with_reducible refine gate_dst (N := 3) rfl ?_); refine bx_ (N := 3) (cs := #[.int .i64 a1_0, .slice A1_1 l1_1.length c1_1]) (t := 26) ?_; intro gb127 hg w47 hbox hb; replace HO1_1 := m_ (Kd.V_below (Kd.V_elderB (Kd.V_below HO1_1.out bgo_) gb127 (Nat.le_of_eq hg.symm)) hb); replace HB := m_ (below_step IsS131.hb_ hb); have BK127 := m_ (hbox); have GW127 := m_ ((by rw [hg]; exact (keep_size (w := w) (g := g) (row := none) kp_) : w.heap.size ≤ gb127)); have GE127 := m_ (Nat.le_trans HW0.out GW127.out); replace HK := m_ (KeepBut.trans kp_ (KeepBut.of_below hb g none) (.inl rfl)); have NB0_127 := m_ ((by rw [hg]; exact Nat.ne_of_lt (IsS131.lt (show IsS131 w0 _ g s0_0 s0_1 s0_2 from IsS131.go_)) : g ≠ gb127)); have NB127_0 := m_ NB0_127.out.symm; replace HI0 := m_ (IsS131.below IsS131.go_ hb); clear hb hbox hg) | ((with_reducible refine gate_dst (N := 4) rfl ?_); refine bx_ (N := 4) (cs := #[.int .i64 0, .slice none 0 0]) (t := 26) ?_; intro gb128 hg w48 hbox hb; replace HO1_1 := m_ (Kd.V_below (Kd.V_elderB (Kd.V_below HO1_1.out bgo_) gb128 (Nat.le_of_eq hg.symm)) hb); replace HB := m_ (below_step IsS131.hs_ hb); have BK128 := m_ (hbox); have GW128 := m_ ((by rw [hg]; exact (keep_size (w := w) (g := g) (row := none) kp_) : w.heap.size ≤ gb128)); have GE128 := m_ (Nat.le_trans HW0.out GW128.out); replace HK := m_ (KeepBut.trans kp_ (KeepBut.of_below hb g none) (.inl rfl)); have NB127_128 := m_ ((by rw [hg]; exact Nat.ne_of_lt (blk_lt (blk_below BK127.out bgo_)) : gb127 ≠ gb128)); have NB128_127 := m_ NB127_128.out.symm; replace BK127 := m_ (bb_ BK127.out hb); have NB0_128 := m_ ((by rw [hg]; exact Nat.ne_of_lt (IsS131.lt (show IsS131 w0 _ g s0_0 s0_1 s0_2 from IsS131.gs_)) : g ≠ gb128)); have NB128_0 := m_ NB0_128.out.symm; replace HI0 := m_ (IsS131.below IsS131.gs_ hb); clear hb hbox hg) | ((with_reducible refine gate_callee (f := 171) rfl ?_); refine gl_ (some 8) Try.func171 #[.pointer (some ⟨g, 0, none⟩), .int .i64 40] ?_; (with_reducible refine (spec_l01Next.calls g s0_0 s0_1 s0_2 40 t129 t130 t131 w0 _ ?side1 ?side2 A3.out).mono ?_); (case side1 => exact IsS131.gs_); (case side2 => exact IsS131.hs_); rintro e w49 ⟨rfl, hi, hb, hk⟩; refine ⟨_, rfl, ?_⟩; replace HO1_1 := m_ (Kd.V_mono (Kd.V_keep (Kd.V_mono (ok := fun k_ => (((((P1_1_ k_ ∨ w.heap.size ≤ k_)) ∧ k_ ≠ g) ∧ k_ ≠ gb127) ∧ k_ ≠ gb128)) (Kd.V_below HO1_1.out bgo_) (fun k_ hk_ => (⟨hk_, hk_.1.1.2⟩ : _ ∧ k_ ≠ g))) hk (fun _ h => h.2)) (fun _ h => h.1)); replace BK127 := m_ (KeepBut.blk hk (blk_below BK127.out bgo_) NB127_0.out (by simp)); replace BK128 := m_ (KeepBut.blk hk (blk_below BK128.out bgo_) NB128_0.out (by simp)); replace HK := m_ (KeepBut.trans kp_ hk (.inl rfl)); replace HB := m_ (hb); replace HI0 := m_ (hi); clear hi hb hk; have hnb50 := NB127_128.out; have hnc50 := NB128_127.out; have hnb51 := NB127_0.out; have hnc51 := NB0_127.out; have hcz52_0 := bc0_ BK127.out; have hcz52_1 := bc1_ BK127.out; have hfz52_0 := blk_frozen BK127.out 0; have hfz52_1 := blk_frozen BK127.out 1) | ((with_reducible refine gate_callee (f := 237) rfl ?_); refine gl_ (some 33) Try.func237 #[.agg #[.int .i64 a1_0, .slice A1_1 l1_1.length c1_1]] ?_; (with_reducible refine (spec_l01Copy.calls k a1_0 _ _ l1_1 t148 t149 _ ?side1 ?side2 A40.out).mono ?_); (case side1 => exact Kd.C_below (Kd.V_reads' HO1_1.out).2.2 bgo_); (case side2 => exact (Kd.V_reads' HO1_1.out).2.1); rintro e w53 ⟨v150, rfl, ho0, hb⟩; refine ⟨_, rfl, ?_⟩; replace HO1_1 := m_ (Kd.V_elder' (Kd.V_below HO1_1.out bgo_) (Kd.S_base ho0) hb); have HO151 := m_ (Kd.S_lower (Kd.S_newM (M := fun k_ => (w.heap.size ≤ k_)) ho0 (keep_size (w := w) (g := g) (row := none) kp_) (fun k_ h_ => h_)) (keep_size (w := w) (g := g) (row := none) kp_)); replace BK127 := m_ (bb_ BK127.out hb); replace BK128 := m_ (bb_ BK128.out hb); replace HK := m_ (KeepBut.trans kp_ (KeepBut.of_below hb g none) (.inl rfl)); replace HB := m_ (below_step IsS131.hs_ hb); replace HI0 := m_ (IsS131.below IsS131.gs_ hb); clear hb; (try clear ho0); have hcz54_0 := bc0_ BK127.out; have hcz54_1 := bc1_ BK127.out; have hfz54_0 := blk_frozen BK127.out 0; have hfz54_1 := blk_frozen BK127.out 1; obtain ⟨Ao55, co55, eo55⟩ := Kd.S_slice HO151.out; subst eo55) | ((with_reducible refine gate_callee (f := 171) rfl ?_); refine gl_ (some 41) Try.func171 #[.pointer (some ⟨g, 0, none⟩), .int .i64 (t149.length : Int)] ?_; (with_reducible refine (spec_l01Next.calls g s0_0 t130 t131 (t149.length : Int) t152 t153 t154 w0 _ ?side1 ?side2 A42.out).mono ?_); (case side1 => exact IsS131.gs_); (case side2 => exact IsS131.hs_); rintro e w56 ⟨rfl, hi, hb, hk⟩; refine ⟨_, rfl, ?_⟩; replace HO1_1 := m_ (Kd.V_mono (Kd.V_keep (Kd.V_mono (ok := fun k_ => ((((((P1_1_ k_ ∨ w.heap.size ≤ k_)) ∧ k_ ≠ g) ∧ k_ ≠ gb127) ∧ k_ ≠ gb128) ∧ some k_ ≠ (.slice Ao55 t149.length co55 : Value).ownBlock)) (by (with_reducible repeat (first | apply Kd.V_alloc | apply Kd.V_drewN | apply Kd.V_drew)); exact (Kd.V_mono (Kd.V_far (p := ⟨gb127, 1, none⟩) (Kd.V_far (p := ⟨gb127, 0, none⟩) (Kd.V_mono HO1_1.out (fun k_ hk => (⟨hk, hk.1.1.2⟩ : _ ∧ k_ ≠ gb127))) (fun _ hk => hk.2) (.int .i64 t148)) (fun _ hk => hk.2) (.slice Ao55 t149.length co55)) (fun _ h_ => h_.1))) (fun k_ hk_ => (⟨hk_, hk_.1.1.1.2⟩ : _ ∧ k_ ≠ g))) hk (fun _ h => h.2)) (fun _ h => h.1)); replace BK128 := m_ (KeepBut.blk hk (g' := gb128) (o := .cells #[.int .i64 0, .slice none 0 0] 26 (0, 0)) bk_ NB128_0.out (by simp)); replace HO151 := m_ (Kd.S_mono (Kd.S_keep (IsS131.apartS (show IsS131 w0 _ g s0_0 t130 t131 from IsS131.gs_) (by (with_reducible repeat (first | apply Kd.S_alloc | apply Kd.S_drewN | apply Kd.S_drew)); exact (Kd.S_mono (Kd.S_far (p := ⟨gb127, 1, none⟩) (Kd.S_far (p := ⟨gb127, 0, none⟩) (Kd.S_types HO151.out BK127.out (by decide)) (fun _ hk => hk.2) (.int .i64 t148)) (fun _ hk => hk.2) (.slice Ao55 t149.length co55)) (fun _ h_ => h_.1))) (by decide)) hk (fun _ h => h.2)) (fun _ h => h.1)); replace BK127 := m_ (KeepBut.blk hk (g' := gb127) (o := .cells #[.int .i64 t148, .slice Ao55 t149.length co55] 26 (0, 0)) (by (with_reducible repeat (first | refine blk_drewN ?_ _ | refine blk_drew ?_ | refine blk_alloc ?_ _)); refine blk_put (cs := #[.int .i64 t148, .slice A1_1 l1_1.length c1_1]) ?_ 1 _ rfl; (with_reducible repeat (first | refine blk_drewN ?_ _ | refine blk_drew ?_ | refine blk_alloc ?_ _)); refine blk_put (cs := #[.int .i64 a1_0, .slice A1_1 l1_1.length c1_1]) ?_ 0 _ rfl; (with_reducible repeat (first | refine blk_drewN ?_ _ | refine blk_drew ?_ | refine blk_alloc ?_ _)); exact BK127.out) NB127_0.out (by simp)); replace HK := m_ (KeepBut.trans kp_ hk (.inl rfl)); replace HB := m_ (hb); replace HI0 := m_ (hi); clear hi hb hk))
     replace HO1_1 := m_ (Kd.V_drew HO1_1.out)
     replace HO151 := m_ (Kd.S_drew HO151.out)
     replace BK127 := m_ (blk_drew BK127.out)
     replace BK128 := m_ (blk_drew BK128.out)
     replace HI0 := m_ (IsS131.drew HI0.out)
     replace HK := m_ (keep_drew HK.out)
     replace HB := m_ (below_drew1 HB.out)
     have p155 : 0 ≤ (t152 : Int) := od_
     have q155 : t152 < (t149.length : Int) := od_
     obtain ⟨ad155, A155_0, c155_0, e155, hx155_0, hl155_0, hi155_0⟩ := at_L2 (Kd.S_reads' HO151.out).2.2 t152 p155 q155
     cases e155
     obtain ⟨ce155, hce155, hMe155, hcc155⟩ := Kd.S_get HO151.out [] t152 p155 (by first | exact q155 | exact od_ | (have e_ := (Kd.S_reads' HO151.out).1; omega))
     obtain ⟨ve155_0, rfl, ge155_0⟩ := hMe155
     have hv155_0 := hcc155 0 _ rfl
     rw [Nat.add_zero, show ((Kd.slice 2 (Kd.int .i64))).sz = 1 from rfl, Nat.mul_one] at hv155_0
     replace hv155_0 := Option.some.inj (hv155_0.symm.trans hx155_0)
     rw [hv155_0] at ge155_0
     have HL155_0 := m_ (show Kd.R (Kd.int .i64) 2 _ _ _ _ (rd_L2 t149 t152) from ge155_0)
     clear hv155_0 ge155_0
     have HX155_0 := m_ hx155_0
     clear hcc155 hce155
     have HR155_0 := m_ hi155_0
     have HC155_0 := m_ hl155_0
     clear hi155_0 hl155_0
     replace p155 := eq_true p155
     replace q155 := eq_true q155
     have n_ := m_ (Kd.S_mono (ok' := (fun k_ => (w.heap.size ≤ k_))) HO151.out (fun k_ hk => hk.1))
     clear HO151
     have HO151 := n_
     clear n_
     obtain ⟨go58, co58, eo58, gb58, gl58, cl58, HG58⟩ := Kd.S_form HO151.out (by have h_ : (t152 : Int) < ((t149.length : Int) : Int) := od_; have h2_ : 0 ≤ (t152 : Int) := (od_); omega)
     (first | cases eo58 | (injection eo58 with ea_ en_ ec_; (first | subst ea_ | (injection ea_ with ea_; subst ea_)); subst ec_; clear en_))
     have GB58 := m_ gb58
     have GG58 := m_ HG58
     clear gb58 gl58 HG58
     (first | simp only [add_plain] at hx155_0 | skip)
     obtain ⟨oki58, ce58, hcl58, hM58, hcc58, _, _, hH58⟩ := Kd.S_elem HO151.out [] (t152 : Int) (od_) (by have h_ : (t152 : Int) < ((t149.length : Int) : Int) := od_; first | exact h_ | (have e_ := (Kd.S_reads' HO151.out).1; omega) | simpa using h_)
     obtain ⟨ve58_0, rfl, ge58_0⟩ := hM58
     have hv58 := hcc58 0 _ rfl
     have hX58 := HX155_0.out
     (try simp only [add_plain] at hX58)
     (try simp only [Nat.add_zero] at hv58)
     (try rw [show ((Kd.slice 2 (Kd.int .i64))).sz = 1 from rfl, Nat.mul_one] at hv58)
     replace hv58 := Option.some.inj (hv58.symm.trans hX58)
     subst hv58
     clear hX58 hcc58 hcl58
     have UU58 := m_ (show Kd.R (Kd.int .i64) 2 _ w.heap.size oki58 (.slice A155_0 (rd_L2 t149 t152).length c155_0) (rd_L2 t149 t152) from ge58_0)
     have HH58 := m_ hH58
     have HN58 := m_ (Kd.S_reads' HO151.out).1
     clear hH58 ge58_0
     refine start_ (n := 12) (S := fun w' => w'.cell? ⟨gb127, 0, none⟩ = some (.int .i64 t148) ∧ w'.cell? ⟨gb127, 1, none⟩ = some (.slice (some ⟨go58, 0, none⟩) t149.length co55) ∧ w'.cell? ⟨go58, (t152).toNat, none⟩ = some (.slice A155_0 (rd_L2 t149 t152).length c155_0)) (ds := [11]) #[false, false, false, false, false, false, false, false, false, false, false, false] (by kernel_rfl) rfl rfl ⟨bc0_ BK127.out, bc1_ BK127.out, hx155_0⟩ (fun hHeld => ?_); refine with_tabW spec_l01Bad.tab12 spec_l01Bad.bits12 (fun HT_ HW_ => ?_)
     generalize w56.drew = w57 at HO1_1 HO151 BK127 BK128 HI0 HK HB GG58 HH58 HL155_0 HR155_0 HX155_0 UU58 hx155_0 hHeld ⊢
     refine pk_ 0 12 42 1 ?_
     refine pk_ 2 12 44 5 ?_
     refine pk_ 3 12 45 13 ?_
     refine pk_ 5 12 47 45 ?_
     refine tk_ 1 12 43 47 hHeld ?_
     refine tk_ 4 12 46 63 hHeld ?_
     refine pk_ 6 12 48 127 ?_
     refine tk_ 7 12 49 255 hHeld ?_
     refine on_ 8 12 (some 50) 511 (fun K hK => ?_)
     refine value_ (w1 := ?_) (v := ?_) (by rfl) rfl ?_ ?_
     rotate_left 2
     ·go_simp
      constructor
      ·rfl
      ·rfl
     refine hK.out _ _ ⟨(blk_cell (blk_alloc BK127.out _) 0).trans rfl, (blk_cell (blk_alloc BK127.out _) 1).trans rfl, (World.cell?_alloc_lt _ _ _ (World.block_lt_of_cell? _ _ (hHeld.2.2))).trans (hHeld.2.2)⟩ (fun hHeld => ?_)
     clear hK K
     refine nm_ ?_
     refine on_ 9 12 (some 51) 1023 (fun K hK => ?_)
     refine Kd.R_append_step (Kd.int .i64) w.heap.size (by rfl) (.tmp 49) (.tmp 50) 29 2 (.int .i64 0) 8 rfl Try.underlying29 info2 rfl (by decide) (by omega) (.slice A155_0 (rd_L2 t149 t152).length c155_0) (rd_L2 t149 t152) 0 [.int .i64 0] (fun k_ => oki58 k_ ∨ ((fun k_ => (w.heap.size ≤ k_))) k_ ∧ w57.heap.size ≤ k_) (fun _ => False) rfl rfl ?aP (fun _ hk => hk.elim) ?aF ?aO (Below.refl _ _) ?aS ?aL ?_
     (case aP => exact rfl)
     (case aF => exact (fun k_ hk => .inr ⟨by first | exact trivial | exact Nat.le_trans HK.out.1 hk | exact Nat.le_trans HK.out.size hk, hk⟩))
     (case aO => exact (Kd.R_below (Kd.R_mono UU58.out (fun _ hk => .inl hk)) bgo_))
     (case aS => exact (keep_size (w := w) (g := g) (row := none) kp_))
     (case aL => have := LMc45.out; omega)
     intro v157 w59 ho hb hg hat
     (first | have HS2_ := cell_grown hg (hHeld.2.2) (by first | (rw [add_block]; exact (fun e_ => ((HL155_0.out.1 _ e_.symm).2) rfl)) | (show some (Addr.add _ _).block ≠ _; rw [add_block]; exact (fun e_ => ((HL155_0.out.1 _ e_.symm).2) rfl)) | exact (fun e_ => ((HL155_0.out.1 _ e_.symm).2) rfl)) | have HS2_ := cell_grown hg (cell_unalloc (hHeld.2.2) (by first | (rw [add_block]; exact Kd.S_lt HO151.out _ rfl) | (show (Addr.add _ _).block < _; rw [add_block]; exact Kd.S_lt HO151.out _ rfl) | exact Kd.S_lt HO151.out _ rfl)) (by first | (rw [add_block]; exact (fun e_ => ((HL155_0.out.1 _ e_.symm).2) rfl)) | (show some (Addr.add _ _).block ≠ _; rw [add_block]; exact (fun e_ => ((HL155_0.out.1 _ e_.symm).2) rfl)) | exact (fun e_ => ((HL155_0.out.1 _ e_.symm).2) rfl)))
     rw [← Ny156.out] at ho
     replace BK127 := m_ (blk_grown (blk_below BK127.out bgo_) hg (Kd.R_ne HL155_0.out BK127.out (by decide)))
     replace BK128 := m_ (blk_grown (blk_below BK128.out bgo_) hg (Kd.R_ne HL155_0.out BK128.out (by decide)))
     replace HB := m_ (below_weaken IsS131.hs_ HL.out hb)
     replace HI0 := m_ (IsS131.grown IsS131.gs_ hg (IsS131.own_ne HI0.out HL155_0.out (by decide)))
     replace HK := m_ (KeepBut.trans kp_ (KeepBut.of_grown hg g) (Kd.R_base2 HL155_0.out))
     replace HH58 := m_ (Kd.H_grown (Kd.H_widen (by repeat (first | exact HH58.out | refine Kd.H_alloc ?_ _ | refine Kd.H_drewN ?_ _ | refine Kd.H_drew ?_))) hg (fun k_ e_ => .inl (UU58.out.1 k_ e_)))
     have HO158 := m_ (ho)
     (try clear HO151)
     (try clear UU58)
     (try clear HL155_0)
     clear ho hb hg hat
     have p46 : 0 ≤ (t152 : Int) := od_
     have q46 : (t152 : Int) < ((t149.length : Int) : Int) := od_
     replace p46 := eq_true p46
     replace q46 := eq_true q46
     obtain ⟨Ao62, co62, eo62⟩ := Kd.R_slice HO158.out
     subst eo62
     obtain ⟨_, _, hraw60, _, _, hcc60, _⟩ := Kd.H_raw HH58.out (od_) (by have h_ : (t152 : Int) < ((t149.length : Int) : Int) := od_; first | exact h_ | (have e_ := (HN58.out); omega) | simpa using h_)
     obtain ⟨_, hfr60⟩ := Kd.H_at HH58.out (od_) (by have h_ : (t152 : Int) < ((t149.length : Int) : Int) := od_; first | exact h_ | (have e_ := (HN58.out); omega) | simpa using h_)
     have hx60_0 := hcc60 0 _ rfl
     have hf60_0 := hfr60 0
     (try simp only [Nat.add_zero] at hx60_0 hf60_0)
     (try rw [show ((Kd.slice 2 (Kd.int .i64))).sz = 1 from rfl, Nat.mul_one] at hx60_0)
     (try rw [show ((Kd.slice 2 (Kd.int .i64))).sz = 1 from rfl, Nat.mul_one] at hf60_0)
     have HP60 := Kd.S_seg0 HH58.out (od_) (by have h_ : (t152 : Int) < ((t149.length : Int) : Int) := od_; first | exact h_ | (have e_ := (HN58.out); omega) | simpa using h_) (seg := [.slice Ao62 y156.length co62]) (j := 0) (show 1 ≤ 1 from by decide) (x' := y156) (Kd.M_row HO158.out) (fun _ hk => hk)
     (try simp only [show ((Kd.slice 2 (Kd.int .i64))).sz = 1 from rfl, Nat.mul_one, Nat.add_zero] at HP60)
     clear hcc60 hfr60
     have HN0_go58 := m_ (show g ≠ go58 from by have h_ := IsS131.own_ne HI0.out hraw60 (by decide); intro e_; exact h_ (by rw [e_]; rfl))
     have HNB127_go58 := m_ (show gb127 ≠ go58 from by have h_ := Kd.R_ne hraw60 BK127.out (by decide); intro e_; exact h_ (by rw [e_]; rfl))
     have HNB128_go58 := m_ (show gb128 ≠ go58 from by have h_ := Kd.R_ne hraw60 BK128.out (by decide); intro e_; exact h_ (by rw [e_]; rfl))
     have HS60 := HP60.1
     rw [← Ny159.out] at HS60
     have HQ60 := m_ HS60
     obtain ⟨_, hgg60⟩ := Kd.R_typed hraw60 go58 rfl
     have GG60_ := m_ hgg60
     clear HP60 HS60 hgg60
     refine hK.out _ _ ⟨bc0_ BK127.out, bc1_ BK127.out, HS2_⟩ (fun hHeld => ?_)
     clear hK K
     refine nm_ ?_
     refine pk_ 10 12 52 2047 ?_
     refine last_ (i := 11) (N := none) #[true, true, true, true, true, true, true, true, true, true, true, true] rfl rfl (one_of HT_.out (by kernel_rfl)) (by decide) (fun K hK => ?_)
     refine skip_ (w1 := ?_) (by rfl) rfl ?_ ?_
     rotate_left
     ·go_simp
      rfl
     refine hK.out _ _ ?_
     clear hK K
     refine done_ (done_of HT_.out (by kernel_rfl)) ?_
     have n0_ : Aside0 (Kd.S (Kd.slice 2 (Kd.int .i64)) 29 (w59.setCell ⟨go58, (t152 : Int).toNat, none⟩ (.slice Ao62 y156.length co62)) w.heap.size (fun k_ => (w.heap.size ≤ k_)) (.slice (some ⟨go58, 0, none⟩) t149.length co55) y159) := ⟨by (with_reducible repeat (first | apply Kd.S_alloc | apply Kd.S_drewN | apply Kd.S_drew)); exact HQ60.out⟩
     have n1_ : Aside0 ((w59.setCell ⟨go58, (t152 : Int).toNat, none⟩ (.slice Ao62 y156.length co62)).heap[gb127]? = some (.cells #[.int .i64 t148, .slice (some ⟨go58, 0, none⟩) t149.length co55] 26 (0, 0))) := ⟨bk_⟩
     have n2_ : Aside0 ((w59.setCell ⟨go58, (t152 : Int).toNat, none⟩ (.slice Ao62 y156.length co62)).heap[gb128]? = some (.cells #[.int .i64 0, .slice none 0 0] 26 (0, 0))) := ⟨bk_⟩
     have n3_ : Aside0 (IsS131 w0 (w59.setCell ⟨go58, (t152 : Int).toNat, none⟩ (.slice Ao62 y156.length co62)) g s0_0 t153 t154) := ⟨IsS131.gs_⟩
     have n4_ : Aside0 (KeepBut w (w59.setCell ⟨go58, (t152 : Int).toNat, none⟩ (.slice Ao62 y156.length co62)) g none) := ⟨kp_⟩
     have n5_ : Aside0 (Below w0.heap.size w0 (w59.setCell ⟨go58, (t152 : Int).toNat, none⟩ (.slice Ao62 y156.length co62))) := ⟨by repeat (first | (with_reducible first | exact HB.out | apply below_alloc | apply pw_below_drewN | apply below_drew1 | refine below_set ?_ (Nat.le_trans HL.out GB58.out) | refine below_set ?_ (IsS131.ge HI0.out) | refine below_set ?_ GE127.out | refine below_set ?_ GE128.out) | exact HB.out)⟩
     (try clear HO151)
     (try clear BK127)
     (try clear BK128)
     (try clear HI0)
     (try clear HK)
     (try clear HB)
     generalize (w59.setCell ⟨go58, (t152 : Int).toNat, none⟩ (.slice Ao62 y156.length co62)) = w63 at n0_ n1_ n2_ n3_ n4_ n5_ ⊢
     have HO151 := n0_
     have BK127 := n1_
     have BK128 := n2_
     have HI0 := n3_
     have HK := n4_
     have HB := n5_
     clear n0_ n1_ n2_ n3_ n4_ n5_
     have hcz64_0 := bc0_ BK127.out
     have hcz64_1 := bc1_ BK127.out
     have hfz64_0 := blk_frozen BK127.out 0
     have hfz64_1 := blk_frozen BK127.out 1
     have hnb65 := NB128_0.out
     have hnc65 := NB0_128.out
     have hcz66_0 := bc0_ BK128.out
     have hcz66_1 := bc1_ BK128.out
     have hfz66_0 := blk_frozen BK128.out 0
     have hfz66_1 := blk_frozen BK128.out 1
     try go_wp2
     refine bodyPost_ret (results_cell_row rfl _ _ gb128 26 #[.int .i64 t148, .slice (some ⟨go58, 0, none⟩) t149.length co55] (0, 0) _ rfl (by (with_reducible repeat (first | refine blk_drewN ?_ _ | refine blk_drew ?_ | refine blk_alloc ?_ _)); refine blk_put (cs := #[.int .i64 t148, .slice none 0 0]) ?_ 1 _ rfl; (with_reducible repeat (first | refine blk_drewN ?_ _ | refine blk_drew ?_ | refine blk_alloc ?_ _)); refine blk_put (cs := #[.int .i64 0, .slice none 0 0]) ?_ 0 _ rfl; (with_reducible repeat (first | refine blk_drewN ?_ _ | refine blk_drew ?_ | refine blk_alloc ?_ _)); exact BK128.out) Try.underlying26 rfl (by kernel_rfl)) rfl ?_
     exact ⟨_, er_, Kd.V_mono (Kd.S_V (Kd.S_below (Kd.S_mono (Kd.S_far (p := ⟨gb128, 1, none⟩) (Kd.S_far (p := ⟨gb128, 0, none⟩) (Kd.S_types HO151.out BK128.out (by decide)) (fun _ hk => hk.2) (.int .i64 t148)) (fun _ hk => hk.2) (.slice (some ⟨go58, 0, none⟩) t149.length co55)) (fun _ hk => hk.1)) bgo_)) (fun k_ hk => by first | exact ⟨(.inr (hk.1)), hk.2⟩ | exact (.inr (hk))), IsS131.gs_, IsS131.hs_, kp_⟩
    ·rw [if_neg c41] at H
     have c41b0 := decide_eq_false c41
     have c41b1 : decide (0 < t149.length) = false := decide_eq_false (by omega)
     clear c41
     simp only [Option.some.injEq, Prod.mk.injEq] at H
     obtain ⟨rfl, rfl, rfl, rfl⟩ := H
     go_enter Try.func225, Try.ntmps225
     go_wp2_with (first | ((with_reducible refine gate_dst (N := 3) rfl ?_); refine bx_ (N := 3) (cs := #[.int .i64 a1_0, .slice A1_1 l1_1.length c1_1]) (t := 26) ?_; intro gb127 hg w67 hbox hb; replace HO1_1 := m_ (Kd.V_below (Kd.V_elderB (Kd.V_below HO1_1.out bgo_) gb127 (Nat.le_of_eq hg.symm)) hb); replace HB := m_ (below_step IsS131.hb_ hb); have BK127 := m_ (hbox); have GW127 := m_ ((by rw [hg]; exact (keep_size (w := w) (g := g) (row := none) kp_) : w.heap.size ≤ gb127)); have GE127 := m_ (Nat.le_trans HW0.out GW127.out); replace HK := m_ (KeepBut.trans kp_ (KeepBut.of_below hb g none) (.inl rfl)); have NB0_127 := m_ ((by rw [hg]; exact Nat.ne_of_lt (IsS131.lt (show IsS131 w0 _ g s0_0 s0_1 s0_2 from IsS131.go_)) : g ≠ gb127)); have NB127_0 := m_ NB0_127.out.symm; replace HI0 := m_ (IsS131.below IsS131.go_ hb); clear hb hbox hg) | ((with_reducible refine gate_dst (N := 4) rfl ?_); refine bx_ (N := 4) (cs := #[.int .i64 0, .slice none 0 0]) (t := 26) ?_; intro gb128 hg w68 hbox hb; replace HO1_1 := m_ (Kd.V_below (Kd.V_elderB (Kd.V_below HO1_1.out bgo_) gb128 (Nat.le_of_eq hg.symm)) hb); replace HB := m_ (below_step IsS131.hs_ hb); have BK128 := m_ (hbox); have GW128 := m_ ((by rw [hg]; exact (keep_size (w := w) (g := g) (row := none) kp_) : w.heap.size ≤ gb128)); have GE128 := m_ (Nat.le_trans HW0.out GW128.out); replace HK := m_ (KeepBut.trans kp_ (KeepBut.of_below hb g none) (.inl rfl)); have NB127_128 := m_ ((by rw [hg]; exact Nat.ne_of_lt (blk_lt (blk_below BK127.out bgo_)) : gb127 ≠ gb128)); have NB128_127 := m_ NB127_128.out.symm; replace BK127 := m_ (bb_ BK127.out hb); have NB0_128 := m_ ((by rw [hg]; exact Nat.ne_of_lt (IsS131.lt (show IsS131 w0 _ g s0_0 s0_1 s0_2 from IsS131.gs_)) : g ≠ gb128)); have NB128_0 := m_ NB0_128.out.symm; replace HI0 := m_ (IsS131.below IsS131.gs_ hb); clear hb hbox hg) | ((with_reducible refine gate_callee (f := 171) rfl ?_); refine gl_ (some 8) Try.func171 #[.pointer (some ⟨g, 0, none⟩), .int .i64 40] ?_; (with_reducible refine (spec_l01Next.calls g s0_0 s0_1 s0_2 40 t129 t130 t131 w0 _ ?side1 ?side2 A3.out).mono ?_); (case side1 => exact IsS131.gs_); (case side2 => exact IsS131.hs_); rintro e w69 ⟨rfl, hi, hb, hk⟩; refine ⟨_, rfl, ?_⟩; replace HO1_1 := m_ (Kd.V_mono (Kd.V_keep (Kd.V_mono (ok := fun k_ => (((((P1_1_ k_ ∨ w.heap.size ≤ k_)) ∧ k_ ≠ g) ∧ k_ ≠ gb127) ∧ k_ ≠ gb128)) (Kd.V_below HO1_1.out bgo_) (fun k_ hk_ => (⟨hk_, hk_.1.1.2⟩ : _ ∧ k_ ≠ g))) hk (fun _ h => h.2)) (fun _ h => h.1)); replace BK127 := m_ (KeepBut.blk hk (blk_below BK127.out bgo_) NB127_0.out (by simp)); replace BK128 := m_ (KeepBut.blk hk (blk_below BK128.out bgo_) NB128_0.out (by simp)); replace HK := m_ (KeepBut.trans kp_ hk (.inl rfl)); replace HB := m_ (hb); replace HI0 := m_ (hi); clear hi hb hk; have hnb70 := NB127_128.out; have hnc70 := NB128_127.out; have hnb71 := NB127_0.out; have hnc71 := NB0_127.out; have hcz72_0 := bc0_ BK127.out; have hcz72_1 := bc1_ BK127.out; have hfz72_0 := blk_frozen BK127.out 0; have hfz72_1 := blk_frozen BK127.out 1) | ((with_reducible refine gate_callee (f := 237) rfl ?_); refine gl_ (some 33) Try.func237 #[.agg #[.int .i64 a1_0, .slice A1_1 l1_1.length c1_1]] ?_; (with_reducible refine (spec_l01Copy.calls k a1_0 _ _ l1_1 t148 t149 _ ?side1 ?side2 A40.out).mono ?_); (case side1 => exact Kd.C_below (Kd.V_reads' HO1_1.out).2.2 bgo_); (case side2 => exact (Kd.V_reads' HO1_1.out).2.1); rintro e w73 ⟨v150, rfl, ho0, hb⟩; refine ⟨_, rfl, ?_⟩; replace HO1_1 := m_ (Kd.V_elder' (Kd.V_below HO1_1.out bgo_) (Kd.S_base ho0) hb); have HO151 := m_ (Kd.S_lower (Kd.S_newM (M := fun k_ => (w.heap.size ≤ k_)) ho0 (keep_size (w := w) (g := g) (row := none) kp_) (fun k_ h_ => h_)) (keep_size (w := w) (g := g) (row := none) kp_)); replace BK127 := m_ (bb_ BK127.out hb); replace BK128 := m_ (bb_ BK128.out hb); replace HK := m_ (KeepBut.trans kp_ (KeepBut.of_below hb g none) (.inl rfl)); replace HB := m_ (below_step IsS131.hs_ hb); replace HI0 := m_ (IsS131.below IsS131.gs_ hb); clear hb; (try clear ho0); have hcz74_0 := bc0_ BK127.out; have hcz74_1 := bc1_ BK127.out; have hfz74_0 := blk_frozen BK127.out 0; have hfz74_1 := blk_frozen BK127.out 1; obtain ⟨Ao75, co75, eo75⟩ := Kd.S_slice HO151.out; subst eo75; have hnb76 := NB128_0.out; have hnc76 := NB0_128.out; have hcz77_0 := bc0_ BK128.out; have hcz77_1 := bc1_ BK128.out; have hfz77_0 := blk_frozen BK128.out 0; have hfz77_1 := blk_frozen BK128.out 1))
     refine bodyPost_ret (results_cell_row rfl _ _ gb128 26 #[.int .i64 t148, .slice Ao75 t149.length co75] (0, 0) _ rfl (by (with_reducible repeat (first | refine blk_drewN ?_ _ | refine blk_drew ?_ | refine blk_alloc ?_ _)); refine blk_put (cs := #[.int .i64 t148, .slice none 0 0]) ?_ 1 _ rfl; (with_reducible repeat (first | refine blk_drewN ?_ _ | refine blk_drew ?_ | refine blk_alloc ?_ _)); refine blk_put (cs := #[.int .i64 0, .slice none 0 0]) ?_ 0 _ rfl; (with_reducible repeat (first | refine blk_drewN ?_ _ | refine blk_drew ?_ | refine blk_alloc ?_ _)); refine blk_far ?_ NB128_127.out _; (with_reducible repeat (first | refine blk_drewN ?_ _ | refine blk_drew ?_ | refine blk_alloc ?_ _)); refine blk_far ?_ NB128_127.out _; (with_reducible repeat (first | refine blk_drewN ?_ _ | refine blk_drew ?_ | refine blk_alloc ?_ _)); exact BK128.out) Try.underlying26 rfl (by kernel_rfl)) rfl ?_
     exact ⟨_, er_, Kd.V_mono (Kd.S_V (Kd.S_below (Kd.S_mono (Kd.S_far (p := ⟨gb128, 1, none⟩) (Kd.S_far (p := ⟨gb128, 0, none⟩) (Kd.S_far (p := ⟨gb127, 1, none⟩) (Kd.S_far (p := ⟨gb127, 0, none⟩) (Kd.S_types (Kd.S_types HO151.out BK127.out (by decide)) BK128.out (by decide)) (fun _ hk => hk.1.2) (.int .i64 t148)) (fun _ hk => hk.1.2) (.slice Ao75 t149.length co75)) (fun _ hk => hk.2) (.int .i64 t148)) (fun _ hk => hk.2) (.slice Ao75 t149.length co75)) (fun _ hk => hk.1.1.1)) bgo_)) (fun k_ hk => by first | exact ⟨(.inr (hk.1)), hk.2⟩ | exact (.inr (hk))), IsS131.gs_, IsS131.hs_, kp_⟩
   ·rw [if_neg c39] at H
    have c39b0 : (t129 == 2) = false := beq_eq_false_iff_ne.mpr c39
    have c39b1 : (t129 != 2) = true := bne_iff_ne.mpr c39
    by_cases c78 : t129 = 3
    ·rw [if_pos c78] at H
     have c78b0 : (t129 == 3) = true := beq_iff_eq.mpr c78
     have c78b1 : (t129 != 3) = false := bne_eq_false_iff_eq.mpr c78
     clear c78
     obtain ⟨⟨t160, t161⟩, A79, H⟩ := bnd_ H
     dsimp only at H
     have H' := m_ H
     clear H
     go_enter Try.func225, Try.ntmps225
     go_wp2_with (first | ((with_reducible refine gate_dst (N := 3) rfl ?_); refine bx_ (N := 3) (cs := #[.int .i64 a1_0, .slice A1_1 l1_1.length c1_1]) (t := 26) ?_; intro gb127 hg w80 hbox hb; replace HO1_1 := m_ (Kd.V_below (Kd.V_elderB (Kd.V_below HO1_1.out bgo_) gb127 (Nat.le_of_eq hg.symm)) hb); replace HB := m_ (below_step IsS131.hb_ hb); have BK127 := m_ (hbox); have GW127 := m_ ((by rw [hg]; exact (keep_size (w := w) (g := g) (row := none) kp_) : w.heap.size ≤ gb127)); have GE127 := m_ (Nat.le_trans HW0.out GW127.out); replace HK := m_ (KeepBut.trans kp_ (KeepBut.of_below hb g none) (.inl rfl)); have NB0_127 := m_ ((by rw [hg]; exact Nat.ne_of_lt (IsS131.lt (show IsS131 w0 _ g s0_0 s0_1 s0_2 from IsS131.go_)) : g ≠ gb127)); have NB127_0 := m_ NB0_127.out.symm; replace HI0 := m_ (IsS131.below IsS131.go_ hb); clear hb hbox hg) | ((with_reducible refine gate_dst (N := 4) rfl ?_); refine bx_ (N := 4) (cs := #[.int .i64 0, .slice none 0 0]) (t := 26) ?_; intro gb128 hg w81 hbox hb; replace HO1_1 := m_ (Kd.V_below (Kd.V_elderB (Kd.V_below HO1_1.out bgo_) gb128 (Nat.le_of_eq hg.symm)) hb); replace HB := m_ (below_step IsS131.hs_ hb); have BK128 := m_ (hbox); have GW128 := m_ ((by rw [hg]; exact (keep_size (w := w) (g := g) (row := none) kp_) : w.heap.size ≤ gb128)); have GE128 := m_ (Nat.le_trans HW0.out GW128.out); replace HK := m_ (KeepBut.trans kp_ (KeepBut.of_below hb g none) (.inl rfl)); have NB127_128 := m_ ((by rw [hg]; exact Nat.ne_of_lt (blk_lt (blk_below BK127.out bgo_)) : gb127 ≠ gb128)); have NB128_127 := m_ NB127_128.out.symm; replace BK127 := m_ (bb_ BK127.out hb); have NB0_128 := m_ ((by rw [hg]; exact Nat.ne_of_lt (IsS131.lt (show IsS131 w0 _ g s0_0 s0_1 s0_2 from IsS131.gs_)) : g ≠ gb128)); have NB128_0 := m_ NB0_128.out.symm; replace HI0 := m_ (IsS131.below IsS131.gs_ hb); clear hb hbox hg) | ((with_reducible refine gate_callee (f := 171) rfl ?_); refine gl_ (some 8) Try.func171 #[.pointer (some ⟨g, 0, none⟩), .int .i64 40] ?_; (with_reducible refine (spec_l01Next.calls g s0_0 s0_1 s0_2 40 t129 t130 t131 w0 _ ?side1 ?side2 A3.out).mono ?_); (case side1 => exact IsS131.gs_); (case side2 => exact IsS131.hs_); rintro e w82 ⟨rfl, hi, hb, hk⟩; refine ⟨_, rfl, ?_⟩; replace HO1_1 := m_ (Kd.V_mono (Kd.V_keep (Kd.V_mono (ok := fun k_ => (((((P1_1_ k_ ∨ w.heap.size ≤ k_)) ∧ k_ ≠ g) ∧ k_ ≠ gb127) ∧ k_ ≠ gb128)) (Kd.V_below HO1_1.out bgo_) (fun k_ hk_ => (⟨hk_, hk_.1.1.2⟩ : _ ∧ k_ ≠ g))) hk (fun _ h => h.2)) (fun _ h => h.1)); replace BK127 := m_ (KeepBut.blk hk (blk_below BK127.out bgo_) NB127_0.out (by simp)); replace BK128 := m_ (KeepBut.blk hk (blk_below BK128.out bgo_) NB128_0.out (by simp)); replace HK := m_ (KeepBut.trans kp_ hk (.inl rfl)); replace HB := m_ (hb); replace HI0 := m_ (hi); clear hi hb hk; have hnb83 := NB127_128.out; have hnc83 := NB128_127.out; have hnb84 := NB127_0.out; have hnc84 := NB0_127.out; have hcz85_0 := bc0_ BK127.out; have hcz85_1 := bc1_ BK127.out; have hfz85_0 := blk_frozen BK127.out 0; have hfz85_1 := blk_frozen BK127.out 1) | ((with_reducible refine gate_callee (f := 237) rfl ?_); refine gl_ (some 56) Try.func237 #[.agg #[.int .i64 a1_0, .slice A1_1 l1_1.length c1_1]] ?_; (with_reducible refine (spec_l01Copy.calls k a1_0 _ _ l1_1 t160 t161 _ ?side1 ?side2 A79.out).mono ?_); (case side1 => exact Kd.C_below (Kd.V_reads' HO1_1.out).2.2 bgo_); (case side2 => exact (Kd.V_reads' HO1_1.out).2.1); rintro e w86 ⟨v162, rfl, ho0, hb⟩; refine ⟨_, rfl, ?_⟩; replace HO1_1 := m_ (Kd.V_elder' (Kd.V_below HO1_1.out bgo_) (Kd.S_base ho0) hb); have HO163 := m_ (Kd.S_lower (Kd.S_newM (M := fun k_ => (w.heap.size ≤ k_)) ho0 (keep_size (w := w) (g := g) (row := none) kp_) (fun k_ h_ => h_)) (keep_size (w := w) (g := g) (row := none) kp_)); replace BK127 := m_ (bb_ BK127.out hb); replace BK128 := m_ (bb_ BK128.out hb); replace HK := m_ (KeepBut.trans kp_ (KeepBut.of_below hb g none) (.inl rfl)); replace HB := m_ (below_step IsS131.hs_ hb); replace HI0 := m_ (IsS131.below IsS131.gs_ hb); clear hb; (try clear ho0); have hcz87_0 := bc0_ BK127.out; have hcz87_1 := bc1_ BK127.out; have hfz87_0 := blk_frozen BK127.out 0; have hfz87_1 := blk_frozen BK127.out 1; obtain ⟨Ao88, co88, eo88⟩ := Kd.S_slice HO163.out; subst eo88))
     go_loopg [] k (fun kq w' => ∃ (x128001_1 : List (List Int)) (u128001 : Value), Aside0 (spec_l01Bad.l0 kq s0_0 t130 t131 t160 x128001_1 = some (r1, r2, r3, r4)) ∧ Aside0 (kq ≤ k) ∧ Aside0 (Kd.S (Kd.slice 2 (Kd.int .i64)) 29 w' w.heap.size (fun k_ => (w.heap.size ≤ k_)) u128001 x128001_1) ∧ Aside0 (w'.heap[gb127]? = some (.cells #[.int .i64 t160, u128001] 26 (0, 0))) ∧ Aside0 (w'.heap[gb128]? = some (.cells #[.int .i64 0, (.slice none 0 0)] 26 (0, 0))) ∧ Aside0 (IsS131 w0 w' g s0_0 t130 t131) ∧ Aside0 (KeepBut w w' g none) ∧ Aside0 (Below w0.heap.size w0 w'))
     case atStart => exact ⟨(t161), (.slice Ao88 t161.length co88), H', ⟨Nat.le_refl _⟩, ⟨by (with_reducible repeat (first | apply Kd.S_alloc | apply Kd.S_drewN | apply Kd.S_drew)); exact Kd.S_mono (Kd.S_far (p := ⟨gb127, 1, none⟩) (Kd.S_far (p := ⟨gb127, 0, none⟩) (Kd.S_types HO163.out BK127.out (by decide)) (fun _ hk => hk.2) (.int .i64 t160)) (fun _ hk => hk.2) (.slice Ao88 t161.length co88)) (fun _ hk => hk.1.1)⟩, ⟨by (with_reducible repeat (first | refine blk_drewN ?_ _ | refine blk_drew ?_ | refine blk_alloc ?_ _)); refine blk_put (cs := #[.int .i64 t160, .slice A1_1 l1_1.length c1_1]) ?_ 1 _ rfl; (with_reducible repeat (first | refine blk_drewN ?_ _ | refine blk_drew ?_ | refine blk_alloc ?_ _)); refine blk_put (cs := #[.int .i64 a1_0, .slice A1_1 l1_1.length c1_1]) ?_ 0 _ rfl; (with_reducible repeat (first | refine blk_drewN ?_ _ | refine blk_drew ?_ | refine blk_alloc ?_ _)); exact BK127.out⟩, ⟨bk_⟩, ⟨IsS131.gs_⟩, ⟨kp_⟩, ⟨IsS131.hs_⟩⟩
     case round =>
      clear H'
      obtain ⟨x128001_1, u128001, HA, HK1, HO_128001, BK127, BK128, HI0, HK, HB⟩ := hrel
      cases gk with
      | zero => exact absurd HA.out (by simp [spec_l01Bad.l0])
      | succ k1 =>
       have H := HA.out
       clear HA
       simp only [spec_l01Bad.l0] at H
       by_cases c89 : (x128001_1.length : Int) ≤ 10
       ·rw [if_pos c89] at H
        have c89b0 := decide_eq_true c89
        have c89b1 : decide (x128001_1.length ≤ 10) = true := decide_eq_true (by omega)
        clear c89
        obtain ⟨y164, Ny164, H⟩ : ∃ y164 : List Int, Aside0 (y164 = (([0, 0] : List Int))) ∧ (if x128001_1.length < 5864062014805 then (spec_l01Bad.l0 k1 s0_0 t130 t131 t160 (x128001_1 ++ [y164])) else (none)) = some (r1, r2, r3, r4) := ⟨_, ⟨rfl⟩, H⟩
        obtain ⟨c90, H⟩ := itn_ H
        have LMc90 := m_ c90
        clear c90
        obtain ⟨y167, Ny167, H⟩ : ∃ y167 : List (List Int), Aside0 (y167 = (x128001_1 ++ [y164])) ∧ (spec_l01Bad.l0 k1 s0_0 t130 t131 t160 y167) = some (r1, r2, r3, r4) := ⟨_, ⟨rfl⟩, H⟩
        have H' := m_ H
        clear H
        have hnb91 := NB127_128.out
        have hnc91 := NB128_127.out
        have hnb92 := NB127_0.out
        have hnc92 := NB0_127.out
        have hcz93_0 := bc0_ BK127.out
        have hcz93_1 := bc1_ BK127.out
        have hfz93_0 := blk_frozen BK127.out 0
        have hfz93_1 := blk_frozen BK127.out 1
        obtain ⟨Ao94, co94, eo94⟩ := Kd.S_slice HO_128001.out
        subst eo94
        go_wp2_with (first | ((with_reducible refine gate_dst (N := 63) rfl ?_); refine Kd.R_lit (Kd.int .i64) _ 2 ?hg (N := 63) ?hd (xs := ([0, 0] : List Int)) (inner := [.int .i64 0, .int .i64 0]) (ok := fun _ => True) (okp := fun _ => True) ?hr ?hp (fun _ hk => hk) trivial (Below.refl _ _) (Nat.le_refl _) (by simp) ?_; (case hd => rfl); (case hg => rfl); (case hr => first | (go_simp; done) | (go_simp; rfl)); (case hp => exact (Reps.one (show Kd.M (Kd.int .i64) _ _ _ 0 [.int .i64 0] from rfl) (Reps.one (show Kd.M (Kd.int .i64) _ _ _ 0 [.int .i64 0] from rfl) (Reps.none _ _)))); intro v165 w95 ho96 hb hg_ hnew_; clear hg_ hnew_; rw [← Ny164.out] at ho96; replace HO_128001 := m_ (Kd.S_elder' (Kd.S_below HO_128001.out bgo_) (Kd.R_base ho96) hb); have HO166 := m_ (Kd.R_lower (Kd.R_newM (M := fun k_ => (w.heap.size ≤ k_)) ho96 (keep_size (w := w) (g := g) (row := none) kp_) (fun k_ h_ => h_)) (keep_size (w := w) (g := g) (row := none) kp_)); replace BK127 := m_ (bb_ BK127.out hb); replace BK128 := m_ (bb_ BK128.out hb); replace HK := m_ (KeepBut.trans kp_ (KeepBut.of_below hb g none) (.inl rfl)); replace HB := m_ (below_step IsS131.hs_ hb); replace HI0 := m_ (IsS131.below IsS131.gs_ hb); clear hb ho96; obtain ⟨Ao98, co98, eo98⟩ := Kd.R_slice HO166.out; subst eo98) | ((with_reducible refine gate_builtin (b := .append) (xs := #[.tmp 62, .tmp 64]) rfl ?_); at_builtin; refine Kd.S_append (Kd.slice 2 (Kd.int .i64)) w.heap.size rfl (.tmp 62) (.tmp 64) 24 29 (.slice none 0 0) 24 rfl Try.underlying24 info29 rfl (by decide) (by omega) (.slice Ao94 x128001_1.length co94) x128001_1 y164 [.slice Ao98 y164.length co98] (fun k_ => (w.heap.size ≤ k_)) (fun k_ => some k_ = (.slice Ao98 y164.length co98 : Value).ownBlock) rfl rfl ?aP (fun k_ hk_ => ((Kd.R_mono (ok' := fun k_ => ((fun k_ => (w.heap.size ≤ k_))) k_ ∧ some k_ ≠ (.slice Ao94 x128001_1.length co94 : Value).ownBlock) (Kd.R_apart' (HO166.out) (Kd.S_typed HO_128001.out) (by decide)) (fun k_ hk => ⟨hk.1.1, hk.2⟩))).1 k_ hk_.symm) ?aF ?aO (Below.refl _ _) ?aS ?aL ?_; (case aP => exact Kd.M_row (Kd.R_mono (Kd.R_tight rfl (Kd.R_mono (ok' := fun k_ => ((fun k_ => (w.heap.size ≤ k_))) k_ ∧ some k_ ≠ (.slice Ao94 x128001_1.length co94 : Value).ownBlock) (Kd.R_apart' (HO166.out) (Kd.S_typed HO_128001.out) (by decide)) (fun k_ hk => ⟨hk.1.1, hk.2⟩))) (fun _ h_ => h_))); (case aF => exact (fun k_ hk => (Nat.le_trans (keep_size (w := w) (g := g) (row := none) kp_) hk))); (case aO => exact (Kd.S_below (Kd.S_mono HO_128001.out (fun k_ hk => ⟨hk.1, fun e_ => hk.2 e_⟩)) bgo_)); (case aS => exact (keep_size (w := w) (g := g) (row := none) kp_)); (case aL => have := LMc90.out; omega); intro v168 w97 ho hb hg hat; rw [← Ny167.out] at ho; replace BK127 := m_ (blk_grown (blk_below BK127.out bgo_) hg (Kd.S_ne HO_128001.out BK127.out (by decide))); replace BK128 := m_ (blk_grown (blk_below BK128.out bgo_) hg (Kd.S_ne HO_128001.out BK128.out (by decide))); replace HB := m_ (below_weaken IsS131.hs_ HL.out hb); replace HI0 := m_ (IsS131.grown IsS131.gs_ hg (IsS131.own_neS HI0.out HO_128001.out (by decide))); replace HK := m_ (KeepBut.trans kp_ (KeepBut.of_grown hg g) (Kd.S_base2 HO_128001.out)); have HO169 := m_ (ho); clear HO_128001 HO166; clear ho hb hg hat; obtain ⟨Ao99, co99, eo99⟩ := Kd.S_slice HO169.out; subst eo99; have hcz100_0 := bc0_ BK127.out; have hcz100_1 := bc1_ BK127.out; have hfz100_0 := blk_frozen BK127.out 0; have hfz100_1 := blk_frozen BK127.out 1))
        go_roundg k1
        case measure => have := HK1.out; omega
        case rel => exact ⟨(y167), (.slice Ao99 y167.length co99), H', ⟨by have := HK1.out; omega⟩, ⟨by (with_reducible repeat (first | apply Kd.S_alloc | apply Kd.S_drewN | apply Kd.S_drew)); exact Kd.S_mono (Kd.S_far (p := ⟨gb127, 1, none⟩) (Kd.S_types HO169.out BK127.out (by decide)) (fun _ hk => hk.2) (.slice Ao99 y167.length co99)) (fun _ hk => hk.1)⟩, ⟨by (with_reducible repeat (first | refine blk_drewN ?_ _ | refine blk_drew ?_ | refine blk_alloc ?_ _)); refine blk_put (cs := #[.int .i64 t160, .slice Ao94 x128001_1.length co94]) ?_ 1 _ rfl; (with_reducible repeat (first | refine blk_drewN ?_ _ | refine blk_drew ?_ | refine blk_alloc ?_ _)); exact BK127.out⟩, ⟨bk_⟩, ⟨IsS131.gs_⟩, ⟨kp_⟩, ⟨IsS131.hs_⟩⟩
       ·rw [if_neg c89] at H
        have c89b0 := decide_eq_false c89
        have c89b1 : decide (x128001_1.length ≤ 10) = false := decide_eq_false (by omega)
        clear c89
        simp only [Option.some.injEq, Prod.mk.injEq] at H
        obtain ⟨rfl, rfl, rfl, rfl⟩ := H
        have hnb101 := NB127_128.out
        have hnc101 := NB128_127.out
        have hnb102 := NB127_0.out
        have hnc102 := NB0_127.out
        have hcz103_0 := bc0_ BK127.out
        have hcz103_1 := bc1_ BK127.out
        have hfz103_0 := blk_frozen BK127.out 0
        have hfz103_1 := blk_frozen BK127.out 1
        obtain ⟨Ao104, co104, eo104⟩ := Kd.S_slice HO_128001.out
        subst eo104
        have hnb105 := NB128_0.out
        have hnc105 := NB0_128.out
        have hcz106_0 := bc0_ BK128.out
        have hcz106_1 := bc1_ BK128.out
        have hfz106_0 := blk_frozen BK128.out 0
        have hfz106_1 := blk_frozen BK128.out 1
        go_wp2
        refine bodyPost_ret (results_cell_row rfl _ _ gb128 26 #[.int .i64 t160, .slice Ao104 x128001_1.length co104] (0, 0) _ rfl (by (with_reducible repeat (first | refine blk_drewN ?_ _ | refine blk_drew ?_ | refine blk_alloc ?_ _)); refine blk_put (cs := #[.int .i64 t160, .slice none 0 0]) ?_ 1 _ rfl; (with_reducible repeat (first | refine blk_drewN ?_ _ | refine blk_drew ?_ | refine blk_alloc ?_ _)); refine blk_put (cs := #[.int .i64 0, .slice none 0 0]) ?_ 0 _ rfl; (with_reducible repeat (first | refine blk_drewN ?_ _ | refine blk_drew ?_ | refine blk_alloc ?_ _)); exact BK128.out) Try.underlying26 rfl (by kernel_rfl)) rfl ?_
        exact ⟨_, er_, Kd.V_mono (Kd.S_V (Kd.S_below (Kd.S_mono (Kd.S_far (p := ⟨gb128, 1, none⟩) (Kd.S_far (p := ⟨gb128, 0, none⟩) (Kd.S_types HO_128001.out BK128.out (by decide)) (fun _ hk => hk.2) (.int .i64 t160)) (fun _ hk => hk.2) (.slice Ao104 x128001_1.length co104)) (fun _ hk => hk.1)) bgo_)) (fun k_ hk => by first | exact ⟨(.inr (hk.1)), hk.2⟩ | exact (.inr (hk))), IsS131.gs_, IsS131.hs_, kp_⟩
    ·rw [if_neg c78] at H
     have c78b0 : (t129 == 3) = false := beq_eq_false_iff_ne.mpr c78
     have c78b1 : (t129 != 3) = true := bne_iff_ne.mpr c78
     simp only [Option.some.injEq, Prod.mk.injEq] at H
     obtain ⟨rfl, rfl, rfl, rfl⟩ := H
     go_enter Try.func225, Try.ntmps225
     go_wp2_with (first | ((with_reducible refine gate_dst (N := 3) rfl ?_); refine bx_ (N := 3) (cs := #[.int .i64 a1_0, .slice A1_1 l1_1.length c1_1]) (t := 26) ?_; intro gb127 hg w107 hbox hb; replace HO1_1 := m_ (Kd.V_below (Kd.V_elderB (Kd.V_below HO1_1.out bgo_) gb127 (Nat.le_of_eq hg.symm)) hb); replace HB := m_ (below_step IsS131.hb_ hb); have BK127 := m_ (hbox); have GW127 := m_ ((by rw [hg]; exact (keep_size (w := w) (g := g) (row := none) kp_) : w.heap.size ≤ gb127)); have GE127 := m_ (Nat.le_trans HW0.out GW127.out); replace HK := m_ (KeepBut.trans kp_ (KeepBut.of_below hb g none) (.inl rfl)); have NB0_127 := m_ ((by rw [hg]; exact Nat.ne_of_lt (IsS131.lt (show IsS131 w0 _ g s0_0 s0_1 s0_2 from IsS131.go_)) : g ≠ gb127)); have NB127_0 := m_ NB0_127.out.symm; replace HI0 := m_ (IsS131.below IsS131.go_ hb); clear hb hbox hg) | ((with_reducible refine gate_dst (N := 4) rfl ?_); refine bx_ (N := 4) (cs := #[.int .i64 0, .slice none 0 0]) (t := 26) ?_; intro gb128 hg w108 hbox hb; replace HO1_1 := m_ (Kd.V_below (Kd.V_elderB (Kd.V_below HO1_1.out bgo_) gb128 (Nat.le_of_eq hg.symm)) hb); replace HB := m_ (below_step IsS131.hs_ hb); have BK128 := m_ (hbox); have GW128 := m_ ((by rw [hg]; exact (keep_size (w := w) (g := g) (row := none) kp_) : w.heap.size ≤ gb128)); have GE128 := m_ (Nat.le_trans HW0.out GW128.out); replace HK := m_ (KeepBut.trans kp_ (KeepBut.of_below hb g none) (.inl rfl)); have NB127_128 := m_ ((by rw [hg]; exact Nat.ne_of_lt (blk_lt (blk_below BK127.out bgo_)) : gb127 ≠ gb128)); have NB128_127 := m_ NB127_128.out.symm; replace BK127 := m_ (bb_ BK127.out hb); have NB0_128 := m_ ((by rw [hg]; exact Nat.ne_of_lt (IsS131.lt (show IsS131 w0 _ g s0_0 s0_1 s0_2 from IsS131.gs_)) : g ≠ gb128)); have NB128_0 := m_ NB0_128.out.symm; replace HI0 := m_ (IsS131.below IsS131.gs_ hb); clear hb hbox hg) | ((with_reducible refine gate_callee (f := 171) rfl ?_); refine gl_ (some 8) Try.func171 #[.pointer (some ⟨g, 0, none⟩), .int .i64 40] ?_; (with_reducible refine (spec_l01Next.calls g s0_0 s0_1 s0_2 40 t129 t130 t131 w0 _ ?side1 ?side2 A3.out).mono ?_); (case side1 => exact IsS131.gs_); (case side2 => exact IsS131.hs_); rintro e w109 ⟨rfl, hi, hb, hk⟩; refine ⟨_, rfl, ?_⟩; replace HO1_1 := m_ (Kd.V_mono (Kd.V_keep (Kd.V_mono (ok := fun k_ => (((((P1_1_ k_ ∨ w.heap.size ≤ k_)) ∧ k_ ≠ g) ∧ k_ ≠ gb127) ∧ k_ ≠ gb128)) (Kd.V_below HO1_1.out bgo_) (fun k_ hk_ => (⟨hk_, hk_.1.1.2⟩ : _ ∧ k_ ≠ g))) hk (fun _ h => h.2)) (fun _ h => h.1)); replace BK127 := m_ (KeepBut.blk hk (blk_below BK127.out bgo_) NB127_0.out (by simp)); replace BK128 := m_ (KeepBut.blk hk (blk_below BK128.out bgo_) NB128_0.out (by simp)); replace HK := m_ (KeepBut.trans kp_ hk (.inl rfl)); replace HB := m_ (hb); replace HI0 := m_ (hi); clear hi hb hk; have hnb110 := NB127_128.out; have hnc110 := NB128_127.out; have hnb111 := NB127_0.out; have hnc111 := NB0_127.out; have hcz112_0 := bc0_ BK127.out; have hcz112_1 := bc1_ BK127.out; have hfz112_0 := blk_frozen BK127.out 0; have hfz112_1 := blk_frozen BK127.out 1; have hnb113 := NB128_0.out; have hnc113 := NB0_128.out; have hcz114_0 := bc0_ BK128.out; have hcz114_1 := bc1_ BK128.out; have hfz114_0 := blk_frozen BK128.out 0; have hfz114_1 := blk_frozen BK128.out 1))
     refine bodyPost_ret (results_cell_row rfl _ _ gb128 26 #[.int .i64 a1_0, .slice A1_1 l1_1.length c1_1] (0, 0) _ rfl (by (with_reducible repeat (first | refine blk_drewN ?_ _ | refine blk_drew ?_ | refine blk_alloc ?_ _)); refine blk_put (cs := #[.int .i64 a1_0, .slice none 0 0]) ?_ 1 _ rfl; (with_reducible repeat (first | refine blk_drewN ?_ _ | refine blk_drew ?_ | refine blk_alloc ?_ _)); refine blk_put (cs := #[.int .i64 0, .slice none 0 0]) ?_ 0 _ rfl; (with_reducible repeat (first | refine blk_drewN ?_ _ | refine blk_drew ?_ | refine blk_alloc ?_ _)); exact BK128.out) Try.underlying26 rfl (by kernel_rfl)) rfl ?_
     exact ⟨_, er_, by (with_reducible repeat (first | apply Kd.V_alloc | apply Kd.V_drewN | apply Kd.V_drew)); exact Kd.V_mono (Kd.V_far (p := ⟨gb128, 1, none⟩) (Kd.V_far (p := ⟨gb128, 0, none⟩) (Kd.V_mono HO1_1.out (fun k_ hk => (⟨hk, hk.2⟩ : _ ∧ k_ ≠ gb128))) (fun _ hk => hk.2) (.int .i64 a1_0)) (fun _ hk => hk.2) (.slice A1_1 l1_1.length c1_1)) (fun _ hk => hk.1.1.1.1), IsS131.gs_, IsS131.hs_, kp_⟩

/-! ### spec_l01DrawOf: function 238 -/
mutual
def spec_l01DrawOf.l0 : Nat → Int → Int → Bool → Int → List Int → Int → Int → Int → List (List Int) → Option (Int × (List (List Int)) × Int × Int)
 | 0, _, _, _, _, _, _, _, _, _ => none
 | k + 1, x1, x2, x8, x9, x1000, x1001, x1002, x175000, x175001 => if x9 < x1 then (if x8 = true then (spec_l01DrawOf.j1 k x1 x2 x8 x9 (decide ((x175001.length : Int) < x2)) x1000 x1001 x1002 x175000 x175001) else (spec_l01DrawOf.j1 k x1 x2 x8 x9 false x1000 x1001 x1002 x175000 x175001)) else (spec_l01DrawOf.j1 k x1 x2 x8 x9 false x1000 x1001 x1002 x175000 x175001)
def spec_l01DrawOf.j1 : Nat → Int → Int → Bool → Int → Bool → List Int → Int → Int → Int → List (List Int) → Option (Int × (List (List Int)) × Int × Int)
 | 0, _, _, _, _, _, _, _, _, _, _ => none
 | k + 1, x1, x2, x8, x9, x32, x1000, x1001, x1002, x175000, x175001 => if x32 = true then ((spec_l01Next.f x1000 x1001 x1002 x9).bind fun bt178 => ((spec_l01Next.f x1000 bt178.2.1 bt178.2.2 2).bind fun bt181 => (if bt181.1 = 0 then (if x175001.length < 5864062014805 then (spec_l01DrawOf.l0 k x1 x2 x8 (wrap64 (x9 + 1)) x1000 bt181.2.1 bt181.2.2 x175000 (x175001 ++ [(([x9, bt178.1] : List Int))])) else (none)) else (if x175001.length < 5864062014805 then (spec_l01DrawOf.l0 k x1 x2 x8 (wrap64 (x9 + 1)) x1000 bt181.2.1 bt181.2.2 x175000 (x175001 ++ [(([bt178.1, x9] : List Int))])) else (none))))) else ((spec_l01Next.f x1000 x1001 x1002 (wrap64 (x2 + 1))).bind fun bt196 => (spec_l01DrawOf.l1 k x1 x2 bt196.1 x1000 bt196.2.1 bt196.2.2 x175000 x175001))
def spec_l01DrawOf.l1 : Nat → Int → Int → Int → List Int → Int → Int → Int → List (List Int) → Option (Int × (List (List Int)) × Int × Int)
 | 0, _, _, _, _, _, _, _, _ => none
 | k + 1, x1, x2, x11, x1000, x1001, x1002, x175000, x175001 => if x11 > 0 then (spec_l01DrawOf.j3 k x1 x2 x11 (decide ((x175001.length : Int) < x2)) x1000 x1001 x1002 x175000 x175001) else (spec_l01DrawOf.j3 k x1 x2 x11 false x1000 x1001 x1002 x175000 x175001)
def spec_l01DrawOf.j3 : Nat → Int → Int → Int → Bool → List Int → Int → Int → Int → List (List Int) → Option (Int × (List (List Int)) × Int × Int)
 | 0, _, _, _, _, _, _, _, _, _ => none
 | k + 1, x1, x2, x11, x69, x1000, x1001, x1002, x175000, x175001 => if x69 = true then ((spec_l01Next.f x1000 x1001 x1002 x1).bind fun bt199 => ((spec_l01Next.f x1000 bt199.2.1 bt199.2.2 x1).bind fun bt202 => (if bt199.1 = bt202.1 then ((spec_l01Next.f x1000 bt202.2.1 bt202.2.2 3).bind fun bt205 => (if bt205.1 > 0 then (if x1 = 0 then (none) else (if x175001.length < 5864062014805 then (spec_l01DrawOf.l1 k x1 x2 (wrap64 (x11 - 1)) x1000 bt205.2.1 bt205.2.2 x175000 (x175001 ++ [(([bt199.1, Int.tmod (wrap64 (bt199.1 + 1)) x1] : List Int))])) else (none))) else (if x175001.length < 5864062014805 then (spec_l01DrawOf.l1 k x1 x2 (wrap64 (x11 - 1)) x1000 bt205.2.1 bt205.2.2 x175000 (x175001 ++ [(([bt199.1, bt202.1] : List Int))])) else (none)))) else (if x175001.length < 5864062014805 then (spec_l01DrawOf.l1 k x1 x2 (wrap64 (x11 - 1)) x1000 bt202.2.1 bt202.2.2 x175000 (x175001 ++ [(([bt199.1, bt202.1] : List Int))])) else (none))))) else (some (x175000, x175001, x1001, x1002))
end
def spec_l01DrawOf.f (k : Nat) (s0_0 : List Int) (s0_1 : Int) (s0_2 : Int) (a1 : Int) (a2 : Int) : Option (Int × (List (List Int)) × Int × Int) := (spec_l01Next.f s0_0 s0_1 s0_2 3).bind fun bt175 => (spec_l01DrawOf.l0 k a1 a2 (decide (bt175.1 > 0)) 1 s0_0 bt175.2.1 bt175.2.2 a1 (([] : List (List Int))))
set_option maxHeartbeats 8000000 in
set_option maxRecDepth 100000 in
theorem spec_l01DrawOf.calls (k : Nat) (g : Nat) (s0_0 : List Int) (s0_1 : Int) (s0_2 : Int) (a1 : Int) (a2 : Int) (r1 : Int) (r2 : List (List Int)) (r3 : Int) (r4 : Int) (w0 w : World) (hI : IsS131 w0 w g s0_0 s0_1 s0_2) (hB : Below w0.heap.size w0 w) (h : spec_l01DrawOf.f k s0_0 s0_1 s0_2 a1 a2 = some (r1, r2, r3, r4)) :
  Calls Try.prog 238 #[.pointer (some ⟨g, 0, none⟩), .int .i64 a1, .int .i64 a2] w fun e w' => ∃ v1_ : Value, e = .returned (.agg #[.int .i64 r1, v1_]) ∧ Kd.S (Kd.slice 2 (Kd.int .i64)) 29 w' w.heap.size (fun _ => True) v1_ r2 ∧ IsS131 w0 w' g s0_0 r3 r4 ∧ Below w0.heap.size w0 w' ∧ KeepBut w w' g none := by
 have hu26 := Try.underlying26
 have HI0 := m_ hI
 have HK := m_ (KeepBut.refl w g none)
 have HL := m_ hB.size
 clear hI
 have HW0 := m_ hB.size
 have HB := m_ hB
 clear hB
 have H : ((spec_l01Next.f s0_0 s0_1 s0_2 3).bind fun bt175 => (spec_l01DrawOf.l0 k a1 a2 (decide (bt175.1 > 0)) 1 s0_0 bt175.2.1 bt175.2.2 a1 (([] : List (List Int))))) = some (r1, r2, r3, r4) := h
 clear h
 obtain ⟨y171, Ny171, H⟩ : ∃ y171 : List (List Int), Aside0 (y171 = (([] : List (List Int)))) ∧ ((spec_l01Next.f s0_0 s0_1 s0_2 3).bind fun bt175 => (spec_l01DrawOf.l0 k a1 a2 (decide (bt175.1 > 0)) 1 s0_0 bt175.2.1 bt175.2.2 a1 y171)) = some (r1, r2, r3, r4) := ⟨_, ⟨rfl⟩, H⟩
 obtain ⟨⟨t175, t176, t177⟩, A4, H⟩ := bnd_ H
 dsimp only at H
 have H' := m_ H
 clear H
 go_enter Try.func238, Try.ntmps238
 go_wp2_with (first | ((with_reducible refine gate_dst (N := 6) rfl ?_); (try (refine gate_guard (by rfl) ?_; dsimp only)); refine bx_ (N := 6) (cs := #[.int .i64 0, .slice none 0 0]) (t := 26) ?_; intro gb170 hg w5 hbox hb; replace HB := m_ (below_step IsS131.hb_ hb); have BK170 := m_ (hbox); have GW170 := m_ ((by rw [hg]; exact (keep_size (w := w) (g := g) (row := none) kp_) : w.heap.size ≤ gb170)); have GE170 := m_ (Nat.le_trans HW0.out GW170.out); replace HK := m_ (KeepBut.trans kp_ (KeepBut.of_below hb g none) (.inl rfl)); have NB0_170 := m_ ((by rw [hg]; exact Nat.ne_of_lt (IsS131.lt (show IsS131 w0 _ g s0_0 s0_1 s0_2 from IsS131.go_)) : g ≠ gb170)); have NB170_0 := m_ NB0_170.out.symm; replace HI0 := m_ (IsS131.below IsS131.go_ hb); clear hb hbox hg) | ((with_reducible refine gate_dst (N := 15) rfl ?_); (try (refine gate_guard (by rfl) ?_; dsimp only)); refine Kd.S_lit (Kd.slice 2 (Kd.int .i64)) _ 29 ?hg (N := 15) ?hd (xs := ([] : List (List Int))) (inner := []) (ok := fun _ => True) (okp := fun _ => True) ?hr ?hp (fun _ hk => hk) trivial (Below.refl _ _) (Nat.le_refl _) (by simp) ?_; (case hd => rfl); (case hg => rfl); (case hr => first | (go_simp; done) | (go_simp; rfl)); (case hp => exact (Reps.none _ _)); intro v172 w6 ho7 hb hg_ hnew_; clear hg_ hnew_; rw [← Ny171.out] at ho7; have HO173 := m_ (Kd.S_lower ho7 (keep_size (w := w) (g := g) (row := none) kp_)); replace BK170 := m_ (bb_ BK170.out hb); replace HK := m_ (KeepBut.trans kp_ (KeepBut.of_below hb g none) (.inl rfl)); replace HB := m_ (below_step IsS131.hs_ hb); replace HI0 := m_ (IsS131.below IsS131.gs_ hb); clear hb ho7; obtain ⟨Ao8, co8, eo8⟩ := Kd.S_slice HO173.out; subst eo8) | ((with_reducible refine gate_dst (N := 7) rfl ?_); (try (refine gate_guard (by rfl) ?_; dsimp only)); refine bx_ (N := 7) (cs := #[.int .i64 0, .slice none 0 0]) (t := 26) ?_; intro gb174 hg w9 hbox hb; replace HO173 := m_ (Kd.S_below (Kd.S_below HO173.out bgo_) hb); replace HB := m_ (below_step IsS131.hs_ hb); have BK174 := m_ (hbox); have GW174 := m_ ((by rw [hg]; exact (keep_size (w := w) (g := g) (row := none) kp_) : w.heap.size ≤ gb174)); have GE174 := m_ (Nat.le_trans HW0.out GW174.out); replace HK := m_ (KeepBut.trans kp_ (KeepBut.of_below hb g none) (.inl rfl)); have NB170_174 := m_ ((by rw [hg]; exact Nat.ne_of_lt (blk_lt (blk_below BK170.out bgo_)) : gb170 ≠ gb174)); have NB174_170 := m_ NB170_174.out.symm; replace BK170 := m_ (bb_ BK170.out hb); have NB0_174 := m_ ((by rw [hg]; exact Nat.ne_of_lt (IsS131.lt (show IsS131 w0 _ g s0_0 s0_1 s0_2 from IsS131.gs_)) : g ≠ gb174)); have NB174_0 := m_ NB0_174.out.symm; replace HI0 := m_ (IsS131.below IsS131.gs_ hb); clear hb hbox hg; have hnb10 := NB174_170.out; have hnc10 := NB170_174.out; have hnb11 := NB174_0.out; have hnc11 := NB0_174.out; have hcz12_0 := bc0_ BK174.out; have hcz12_1 := bc1_ BK174.out; have hfz12_0 := blk_frozen BK174.out 0; have hfz12_1 := blk_frozen BK174.out 1) | ((with_reducible refine gate_callee (f := 171) rfl ?_); refine gl_ (some 18) Try.func171 #[.pointer (some ⟨g, 0, none⟩), .int .i64 3] ?_; (with_reducible refine (spec_l01Next.calls g s0_0 s0_1 s0_2 3 t175 t176 t177 w0 _ ?side1 ?side2 A4.out).mono ?_); (case side1 => exact IsS131.gs_); (case side2 => exact IsS131.hs_); rintro e w13 ⟨rfl, hi, hb, hk⟩; refine ⟨_, rfl, ?_⟩; replace BK170 := m_ (KeepBut.blk hk (g' := gb170) (o := .cells #[.int .i64 0, .slice none 0 0] 26 (0, 0)) bk_ NB170_0.out (by simp)); replace HO173 := m_ (Kd.S_mono (Kd.S_keep (IsS131.apartS (show IsS131 w0 _ g s0_0 s0_1 s0_2 from IsS131.gs_) (by (with_reducible repeat (first | apply Kd.S_alloc | apply Kd.S_drewN | apply Kd.S_drew)); exact (Kd.S_mono (Kd.S_far (p := ⟨gb174, 1, none⟩) (Kd.S_far (p := ⟨gb174, 0, none⟩) (Kd.S_types HO173.out BK174.out (by decide)) (fun _ hk => hk.2) (.int .i64 a1)) (fun _ hk => hk.2) (.slice Ao8 y171.length co8)) (fun _ h_ => h_.1))) (by decide)) hk (fun _ h => h.2)) (fun _ h => h.1)); replace BK174 := m_ (KeepBut.blk hk (g' := gb174) (o := .cells #[.int .i64 a1, .slice Ao8 y171.length co8] 26 (0, 0)) (by (with_reducible repeat (first | refine blk_drewN ?_ _ | refine blk_drew ?_ | refine blk_alloc ?_ _)); refine blk_put (cs := #[.int .i64 a1, .slice none 0 0]) ?_ 1 _ rfl; (with_reducible repeat (first | refine blk_drewN ?_ _ | refine blk_drew ?_ | refine blk_alloc ?_ _)); refine blk_put (cs := #[.int .i64 0, .slice none 0 0]) ?_ 0 _ rfl; (with_reducible repeat (first | refine blk_drewN ?_ _ | refine blk_drew ?_ | refine blk_alloc ?_ _)); exact BK174.out) NB174_0.out (by simp)); replace HK := m_ (KeepBut.trans kp_ hk (.inl rfl)); replace HB := m_ (hb); replace HI0 := m_ (hi); clear hi hb hk))
 go_loopg [9] k (fun kq v9 w' => ∃ (x9_1 : Int) (x1001_1 : Int) (x1002_1 : Int) (x175001_1 : List (List Int)) (u175001 : Value), v9 = .int .i64 x9_1 ∧ Aside0 (spec_l01DrawOf.l0 kq a1 a2 (decide (t175 > 0)) x9_1 s0_0 x1001_1 x1002_1 a1 x175001_1 = some (r1, r2, r3, r4)) ∧ Aside0 (kq ≤ k) ∧ Aside0 (Kd.S (Kd.slice 2 (Kd.int .i64)) 29 w' w.heap.size (fun _ => True) u175001 x175001_1) ∧ Aside0 (w'.heap[gb170]? = some (.cells #[.int .i64 0, (.slice none 0 0)] 26 (0, 0))) ∧ Aside0 (w'.heap[gb174]? = some (.cells #[.int .i64 a1, u175001] 26 (0, 0))) ∧ Aside0 (IsS131 w0 w' g s0_0 x1001_1 x1002_1) ∧ Aside0 (KeepBut w w' g none) ∧ Aside0 (Below w0.heap.size w0 w'))
 case atStart => exact ⟨(1), (t176), (t177), (y171), (.slice Ao8 y171.length co8), es_, H', ⟨Nat.le_refl _⟩, ⟨Kd.S_below HO173.out bgo_⟩, ⟨blk_below BK170.out bgo_⟩, ⟨blk_below BK174.out bgo_⟩, ⟨IsS131.gs_⟩, ⟨kp_⟩, ⟨IsS131.hs_⟩⟩
 case round =>
  clear H'
  obtain ⟨x9_1, x1001_1, x1002_1, x175001_1, u175001, rfl, HA, HK1, HO_175001, BK170, BK174, HI0, HK, HB⟩ := hrel
  cases gk with
  | zero => exact absurd HA.out (by simp [spec_l01DrawOf.l0])
  | succ k1 =>
   have H := HA.out
   clear HA
   simp only [spec_l01DrawOf.l0] at H
   have HC14 := m_ H
   clear H
   go_upto_region 4 with (fail)
   go_cut [32] (fun v32 wc => ∃ (kq : Nat) (x32_13 : Bool), v32 = .bool x32_13 ∧ Aside0 (spec_l01DrawOf.j1 kq a1 a2 (decide (t175 > 0)) x9_1 x32_13 s0_0 x1001_1 x1002_1 a1 x175001_1 = some (r1, r2, r3, r4)) ∧ Aside0 (kq ≤ k1) ∧ Aside0 (Kd.S (Kd.slice 2 (Kd.int .i64)) 29 wc w.heap.size (fun _ => True) u175001 x175001_1) ∧ Aside0 (wc.heap[gb170]? = some (.cells #[.int .i64 0, (.slice none 0 0)] 26 (0, 0))) ∧ Aside0 (wc.heap[gb174]? = some (.cells #[.int .i64 a1, u175001] 26 (0, 0))) ∧ Aside0 (IsS131 w0 wc g s0_0 x1001_1 x1002_1) ∧ Aside0 (KeepBut w wc g none) ∧ Aside0 (Below w0.heap.size w0 wc))
   case first =>
    have H := HC14.out
    clear HC14
    by_cases c15 : x9_1 < a1
    ·rw [if_pos c15] at H
     have c15b0 := decide_eq_true c15
     clear c15
     (first | rw [c15b0] | (simp only [i64_w, i32_w]; rw [c15b0]) | skip)
     by_cases c16 : (decide (t175 > 0)) = true
     ·rw [if_pos c16] at H
      have c16b0 : (decide (t175 > 0)) = true := c16
      clear c16
      have H' := m_ H
      clear H
      have hnb17 := NB174_170.out
      have hnc17 := NB170_174.out
      have hnb18 := NB174_0.out
      have hnc18 := NB0_174.out
      have hcz19_0 := bc0_ BK174.out
      have hcz19_1 := bc1_ BK174.out
      have hfz19_0 := blk_frozen BK174.out 0
      have hfz19_1 := blk_frozen BK174.out 1
      obtain ⟨Ao20, co20, eo20⟩ := Kd.S_slice HO_175001.out
      subst eo20
      go_wp2
      go_meet
      case rel => exact ⟨_, (decide ((x175001_1.length : Int) < a2)), es_, H', ⟨by have := HK1.out; first | omega | exact Nat.le_refl _⟩, ⟨Kd.S_below HO_175001.out bgo_⟩, ⟨blk_below BK170.out bgo_⟩, ⟨blk_below BK174.out bgo_⟩, ⟨IsS131.gs_⟩, ⟨kp_⟩, ⟨IsS131.hs_⟩⟩
     ·rw [if_neg c16] at H
      have c16b0 : (decide (t175 > 0)) = false := by simpa using c16
      clear c16
      have H' := m_ H
      clear H
      go_wp2
      go_meet
      case rel => exact ⟨_, (false), es_, H', ⟨by have := HK1.out; first | omega | exact Nat.le_refl _⟩, ⟨Kd.S_below HO_175001.out bgo_⟩, ⟨blk_below BK170.out bgo_⟩, ⟨blk_below BK174.out bgo_⟩, ⟨IsS131.gs_⟩, ⟨kp_⟩, ⟨IsS131.hs_⟩⟩
    ·rw [if_neg c15] at H
     have c15b0 := decide_eq_false c15
     clear c15
     (first | rw [c15b0] | (simp only [i64_w, i32_w]; rw [c15b0]) | skip)
     have H' := m_ H
     clear H
     go_wp2
     go_meet
     case rel => exact ⟨_, (false), es_, H', ⟨by have := HK1.out; first | omega | exact Nat.le_refl _⟩, ⟨Kd.S_below HO_175001.out bgo_⟩, ⟨blk_below BK170.out bgo_⟩, ⟨blk_below BK174.out bgo_⟩, ⟨IsS131.gs_⟩, ⟨kp_⟩, ⟨IsS131.hs_⟩⟩
   case rest =>
    clear HC14
    obtain ⟨kq, x32_13, rfl, HA, HJ13, HO_175001, BK170, BK174, HI0, HK, HB⟩ := hcut
    cases kq with
    | zero => exact absurd HA.out (by simp [spec_l01DrawOf.j1])
    | succ kj13 =>
     have H := HA.out
     clear HA
     simp only [spec_l01DrawOf.j1] at H
     by_cases c21 : x32_13 = true
     ·subst c21
      have H1 : ((spec_l01Next.f s0_0 x1001_1 x1002_1 x9_1).bind fun bt178 => ((spec_l01Next.f s0_0 bt178.2.1 bt178.2.2 2).bind fun bt181 => (if bt181.1 = 0 then (if x175001_1.length < 5864062014805 then (spec_l01DrawOf.l0 kj13 a1 a2 (decide (t175 > 0)) (wrap64 (x9_1 + 1)) s0_0 bt181.2.1 bt181.2.2 a1 (x175001_1 ++ [(([x9_1, bt178.1] : List Int))])) else (none)) else (if x175001_1.length < 5864062014805 then (spec_l01DrawOf.l0 kj13 a1 a2 (decide (t175 > 0)) (wrap64 (x9_1 + 1)) s0_0 bt181.2.1 bt181.2.2 a1 (x175001_1 ++ [(([bt178.1, x9_1] : List Int))])) else (none))))) = some (r1, r2, r3, r4) := by rw [if_pos rfl] at H; exact H
      clear H
      have H := H1
      clear H1
      obtain ⟨⟨t178, t179, t180⟩, A22, H⟩ := bnd_ H
      dsimp only at H
      obtain ⟨⟨t181, t182, t183⟩, A23, H⟩ := bnd_ H
      dsimp only at H
      by_cases c24 : t181 = 0
      ·rw [if_pos c24] at H
       have c24b0 : (t181 == 0) = true := beq_iff_eq.mpr c24
       have c24b1 : (t181 != 0) = false := bne_eq_false_iff_eq.mpr c24
       clear c24
       obtain ⟨y184, Ny184, H⟩ : ∃ y184 : List Int, Aside0 (y184 = (([x9_1, t178] : List Int))) ∧ (if x175001_1.length < 5864062014805 then (spec_l01DrawOf.l0 kj13 a1 a2 (decide (t175 > 0)) (wrap64 (x9_1 + 1)) s0_0 t182 t183 a1 (x175001_1 ++ [y184])) else (none)) = some (r1, r2, r3, r4) := ⟨_, ⟨rfl⟩, H⟩
       obtain ⟨c25, H⟩ := itn_ H
       have LMc25 := m_ c25
       clear c25
       obtain ⟨y187, Ny187, H⟩ : ∃ y187 : List (List Int), Aside0 (y187 = (x175001_1 ++ [y184])) ∧ (spec_l01DrawOf.l0 kj13 a1 a2 (decide (t175 > 0)) (wrap64 (x9_1 + 1)) s0_0 t182 t183 a1 y187) = some (r1, r2, r3, r4) := ⟨_, ⟨rfl⟩, H⟩
       have H' := m_ H
       clear H
       go_wp2_with (first | ((with_reducible refine gate_callee (f := 171) rfl ?_); refine gl_ (some 37) Try.func171 #[.pointer (some ⟨g, 0, none⟩), .int .i64 x9_1] ?_; (with_reducible refine (spec_l01Next.calls g s0_0 x1001_1 x1002_1 x9_1 t178 t179 t180 w0 _ ?side1 ?side2 A22.out).mono ?_); (case side1 => exact IsS131.gs_); (case side2 => exact IsS131.hs_); rintro e w26 ⟨rfl, hi, hb, hk⟩; refine ⟨_, rfl, ?_⟩; replace HO_175001 := m_ (Kd.S_mono (Kd.S_keep (IsS131.apartS (show IsS131 w0 _ g s0_0 x1001_1 x1002_1 from IsS131.gs_) (Kd.S_below HO_175001.out bgo_) (by decide)) hk (fun _ h => h.2)) (fun _ h => h.1)); replace BK170 := m_ (KeepBut.blk hk (blk_below BK170.out bgo_) NB170_0.out (by simp)); replace BK174 := m_ (KeepBut.blk hk (blk_below BK174.out bgo_) NB174_0.out (by simp)); replace HK := m_ (KeepBut.trans kp_ hk (.inl rfl)); replace HB := m_ (hb); replace HI0 := m_ (hi); clear hi hb hk) | ((with_reducible refine gate_callee (f := 171) rfl ?_); refine gl_ (some 39) Try.func171 #[.pointer (some ⟨g, 0, none⟩), .int .i64 2] ?_; (with_reducible refine (spec_l01Next.calls g s0_0 t179 t180 2 t181 t182 t183 w0 _ ?side1 ?side2 A23.out).mono ?_); (case side1 => exact IsS131.gs_); (case side2 => exact IsS131.hs_); rintro e w27 ⟨rfl, hi, hb, hk⟩; refine ⟨_, rfl, ?_⟩; replace HO_175001 := m_ (Kd.S_mono (Kd.S_keep (IsS131.apartS (show IsS131 w0 _ g s0_0 t179 t180 from IsS131.gs_) (Kd.S_below HO_175001.out bgo_) (by decide)) hk (fun _ h => h.2)) (fun _ h => h.1)); replace BK170 := m_ (KeepBut.blk hk (blk_below BK170.out bgo_) NB170_0.out (by simp)); replace BK174 := m_ (KeepBut.blk hk (blk_below BK174.out bgo_) NB174_0.out (by simp)); replace HK := m_ (KeepBut.trans kp_ hk (.inl rfl)); replace HB := m_ (hb); replace HI0 := m_ (hi); clear hi hb hk; have hnb28 := NB174_170.out; have hnc28 := NB170_174.out; have hnb29 := NB174_0.out; have hnc29 := NB0_174.out; have hcz30_0 := bc0_ BK174.out; have hcz30_1 := bc1_ BK174.out; have hfz30_0 := blk_frozen BK174.out 0; have hfz30_1 := blk_frozen BK174.out 1) | ((with_reducible refine gate_dst (N := 45) rfl ?_); (try (refine gate_guard (by rfl) ?_; dsimp only)); refine Kd.R_lit (Kd.int .i64) _ 2 ?hg (N := 45) ?hd (xs := ([x9_1, t178] : List Int)) (inner := [.int .i64 x9_1, .int .i64 t178]) (ok := fun _ => True) (okp := fun _ => True) ?hr ?hp (fun _ hk => hk) trivial (Below.refl _ _) (Nat.le_refl _) (by simp) ?_; (case hd => rfl); (case hg => rfl); (case hr => first | (go_simp; done) | (go_simp; rfl)); (case hp => exact (Reps.one (show Kd.M (Kd.int .i64) _ _ _ x9_1 [.int .i64 x9_1] from rfl) (Reps.one (show Kd.M (Kd.int .i64) _ _ _ t178 [.int .i64 t178] from rfl) (Reps.none _ _)))); intro v185 w31 ho32 hb hg_ hnew_; clear hg_ hnew_; rw [← Ny184.out] at ho32; replace HO_175001 := m_ (Kd.S_elder' (Kd.S_below HO_175001.out bgo_) (Kd.R_base ho32) hb); have HO186 := m_ (Kd.R_lower ho32 (keep_size (w := w) (g := g) (row := none) kp_)); replace BK170 := m_ (bb_ BK170.out hb); replace BK174 := m_ (bb_ BK174.out hb); replace HK := m_ (KeepBut.trans kp_ (KeepBut.of_below hb g none) (.inl rfl)); replace HB := m_ (below_step IsS131.hs_ hb); replace HI0 := m_ (IsS131.below IsS131.gs_ hb); clear hb ho32; obtain ⟨Ao34, co34, eo34⟩ := Kd.R_slice HO186.out; subst eo34) | ((with_reducible refine gate_builtin (b := .append) (xs := #[.tmp 42, .tmp 46]) rfl ?_); (try (refine gate_guard (by rfl) ?_; dsimp only)); at_builtin; refine Kd.S_append (Kd.slice 2 (Kd.int .i64)) w.heap.size rfl (.tmp 42) (.tmp 46) 24 29 (.slice none 0 0) 24 rfl Try.underlying24 info29 rfl (by decide) (by omega) u175001 x175001_1 y184 [.slice Ao34 y184.length co34] (fun _ => True) (fun k_ => some k_ = (.slice Ao34 y184.length co34 : Value).ownBlock) rfl rfl ?aP (fun k_ hk_ => ((Kd.R_mono (ok' := fun k_ => ((fun _ => True)) k_ ∧ some k_ ≠ (u175001 : Value).ownBlock) (Kd.R_apart' (HO186.out) (Kd.S_typed HO_175001.out) (by decide)) (fun k_ hk => ⟨trivial, hk.2⟩))).1 k_ hk_.symm) ?aF ?aO (Below.refl _ _) ?aS ?aL ?_; (case aP => exact Kd.M_row (Kd.R_mono (Kd.R_tight rfl (Kd.R_mono (ok' := fun k_ => ((fun _ => True)) k_ ∧ some k_ ≠ (u175001 : Value).ownBlock) (Kd.R_apart' (HO186.out) (Kd.S_typed HO_175001.out) (by decide)) (fun k_ hk => ⟨trivial, hk.2⟩))) (fun _ h_ => h_))); (case aF => exact (fun _ _ => trivial)); (case aO => exact (Kd.S_below (Kd.S_mono HO_175001.out (fun k_ hk => ⟨trivial, fun e_ => hk.2 e_⟩)) bgo_)); (case aS => exact (keep_size (w := w) (g := g) (row := none) kp_)); (case aL => have := LMc25.out; omega); intro v188 w33 ho hb hg hat; rw [← Ny187.out] at ho; replace BK170 := m_ (blk_grown (blk_below BK170.out bgo_) hg (Kd.S_ne HO_175001.out BK170.out (by decide))); replace BK174 := m_ (blk_grown (blk_below BK174.out bgo_) hg (Kd.S_ne HO_175001.out BK174.out (by decide))); replace HB := m_ (below_weaken IsS131.hs_ HL.out hb); replace HI0 := m_ (IsS131.grown IsS131.gs_ hg (IsS131.own_neS HI0.out HO_175001.out (by decide))); replace HK := m_ (KeepBut.trans kp_ (KeepBut.of_grown hg g) (Kd.S_base2 HO_175001.out)); have HO189 := m_ (ho); clear HO_175001 HO186; clear ho hb hg hat; obtain ⟨Ao35, co35, eo35⟩ := Kd.S_slice HO189.out; subst eo35; have hcz36_0 := bc0_ BK174.out; have hcz36_1 := bc1_ BK174.out; have hfz36_0 := blk_frozen BK174.out 0; have hfz36_1 := blk_frozen BK174.out 1))
       go_roundg kj13
       case measure => have := HK1.out; have := HJ13.out; omega
       case rel => exact ⟨(wrap64 (x9_1 + 1)), (t182), (t183), (y187), (.slice Ao35 y187.length co35), es_, H', ⟨by have := HK1.out; have := HJ13.out; omega⟩, ⟨by (with_reducible repeat (first | apply Kd.S_alloc | apply Kd.S_drewN | apply Kd.S_drew)); exact Kd.S_mono (Kd.S_far (p := ⟨gb174, 1, none⟩) (Kd.S_types HO189.out BK174.out (by decide)) (fun _ hk => hk.2) (.slice Ao35 y187.length co35)) (fun _ hk => trivial)⟩, ⟨bk_⟩, ⟨by (with_reducible repeat (first | refine blk_drewN ?_ _ | refine blk_drew ?_ | refine blk_alloc ?_ _)); refine blk_put (cs := #[.int .i64 a1, u175001]) ?_ 1 _ rfl; (with_reducible repeat (first | refine blk_drewN ?_ _ | refine blk_drew ?_ | refine blk_alloc ?_ _)); exact BK174.out⟩, ⟨IsS131.gs_⟩, ⟨kp_⟩, ⟨IsS131.hs_⟩⟩
      ·rw [if_neg c24] at H
       have c24b0 : (t181 == 0) = false := beq_eq_false_iff_ne.mpr c24
       have c24b1 : (t181 != 0) = true := bne_iff_ne.mpr c24
       obtain ⟨y190, Ny190, H⟩ : ∃ y190 : List Int, Aside0 (y190 = (([t178, x9_1] : List Int))) ∧ (if x175001_1.length < 5864062014805 then (spec_l01DrawOf.l0 kj13 a1 a2 (decide (t175 > 0)) (wrap64 (x9_1 + 1)) s0_0 t182 t183 a1 (x175001_1 ++ [y190])) else (none)) = some (r1, r2, r3, r4) := ⟨_, ⟨rfl⟩, H⟩
       obtain ⟨c37, H⟩ := itn_ H
       have LMc37 := m_ c37
       clear c37
       obtain ⟨y193, Ny193, H⟩ : ∃ y193 : List (List Int), Aside0 (y193 = (x175001_1 ++ [y190])) ∧ (spec_l01DrawOf.l0 kj13 a1 a2 (decide (t175 > 0)) (wrap64 (x9_1 + 1)) s0_0 t182 t183 a1 y193) = some (r1, r2, r3, r4) := ⟨_, ⟨rfl⟩, H⟩
       have H' := m_ H
       clear H
       go_wp2_with (first | ((with_reducible refine gate_callee (f := 171) rfl ?_); refine gl_ (some 37) Try.func171 #[.pointer (some ⟨g, 0, none⟩), .int .i64 x9_1] ?_; (with_reducible refine (spec_l01Next.calls g s0_0 x1001_1 x1002_1 x9_1 t178 t179 t180 w0 _ ?side1 ?side2 A22.out).mono ?_); (case side1 => exact IsS131.gs_); (case side2 => exact IsS131.hs_); rintro e w38 ⟨rfl, hi, hb, hk⟩; refine ⟨_, rfl, ?_⟩; replace HO_175001 := m_ (Kd.S_mono (Kd.S_keep (IsS131.apartS (show IsS131 w0 _ g s0_0 x1001_1 x1002_1 from IsS131.gs_) (Kd.S_below HO_175001.out bgo_) (by decide)) hk (fun _ h => h.2)) (fun _ h => h.1)); replace BK170 := m_ (KeepBut.blk hk (blk_below BK170.out bgo_) NB170_0.out (by simp)); replace BK174 := m_ (KeepBut.blk hk (blk_below BK174.out bgo_) NB174_0.out (by simp)); replace HK := m_ (KeepBut.trans kp_ hk (.inl rfl)); replace HB := m_ (hb); replace HI0 := m_ (hi); clear hi hb hk) | ((with_reducible refine gate_callee (f := 171) rfl ?_); refine gl_ (some 39) Try.func171 #[.pointer (some ⟨g, 0, none⟩), .int .i64 2] ?_; (with_reducible refine (spec_l01Next.calls g s0_0 t179 t180 2 t181 t182 t183 w0 _ ?side1 ?side2 A23.out).mono ?_); (case side1 => exact IsS131.gs_); (case side2 => exact IsS131.hs_); rintro e w39 ⟨rfl, hi, hb, hk⟩; refine ⟨_, rfl, ?_⟩; replace HO_175001 := m_ (Kd.S_mono (Kd.S_keep (IsS131.apartS (show IsS131 w0 _ g s0_0 t179 t180 from IsS131.gs_) (Kd.S_below HO_175001.out bgo_) (by decide)) hk (fun _ h => h.2)) (fun _ h => h.1)); replace BK170 := m_ (KeepBut.blk hk (blk_below BK170.out bgo_) NB170_0.out (by simp)); replace BK174 := m_ (KeepBut.blk hk (blk_below BK174.out bgo_) NB174_0.out (by simp)); replace HK := m_ (KeepBut.trans kp_ hk (.inl rfl)); replace HB := m_ (hb); replace HI0 := m_ (hi); clear hi hb hk; have hnb40 := NB174_170.out; have hnc40 := NB170_174.out; have hnb41 := NB174_0.out; have hnc41 := NB0_174.out; have hcz42_0 := bc0_ BK174.out; have hcz42_1 := bc1_ BK174.out; have hfz42_0 := blk_frozen BK174.out 0; have hfz42_1 := blk_frozen BK174.out 1) | ((with_reducible refine gate_dst (N := 53) rfl ?_); (try (refine gate_guard (by rfl) ?_; dsimp only)); refine Kd.R_lit (Kd.int .i64) _ 2 ?hg (N := 53) ?hd (xs := ([t178, x9_1] : List Int)) (inner := [.int .i64 t178, .int .i64 x9_1]) (ok := fun _ => True) (okp := fun _ => True) ?hr ?hp (fun _ hk => hk) trivial (Below.refl _ _) (Nat.le_refl _) (by simp) ?_; (case hd => rfl); (case hg => rfl); (case hr => first | (go_simp; done) | (go_simp; rfl)); (case hp => exact (Reps.one (show Kd.M (Kd.int .i64) _ _ _ t178 [.int .i64 t178] from rfl) (Reps.one (show Kd.M (Kd.int .i64) _ _ _ x9_1 [.int .i64 x9_1] from rfl) (Reps.none _ _)))); intro v191 w43 ho44 hb hg_ hnew_; clear hg_ hnew_; rw [← Ny190.out] at ho44; replace HO_175001 := m_ (Kd.S_elder' (Kd.S_below HO_175001.out bgo_) (Kd.R_base ho44) hb); have HO192 := m_ (Kd.R_lower ho44 (keep_size (w := w) (g := g) (row := none) kp_)); replace BK170 := m_ (bb_ BK170.out hb); replace BK174 := m_ (bb_ BK174.out hb); replace HK := m_ (KeepBut.trans kp_ (KeepBut.of_below hb g none) (.inl rfl)); replace HB := m_ (below_step IsS131.hs_ hb); replace HI0 := m_ (IsS131.below IsS131.gs_ hb); clear hb ho44; obtain ⟨Ao46, co46, eo46⟩ := Kd.R_slice HO192.out; subst eo46) | ((with_reducible refine gate_builtin (b := .append) (xs := #[.tmp 50, .tmp 54]) rfl ?_); (try (refine gate_guard (by rfl) ?_; dsimp only)); at_builtin; refine Kd.S_append (Kd.slice 2 (Kd.int .i64)) w.heap.size rfl (.tmp 50) (.tmp 54) 24 29 (.slice none 0 0) 24 rfl Try.underlying24 info29 rfl (by decide) (by omega) u175001 x175001_1 y190 [.slice Ao46 y190.length co46] (fun _ => True) (fun k_ => some k_ = (.slice Ao46 y190.length co46 : Value).ownBlock) rfl rfl ?aP (fun k_ hk_ => ((Kd.R_mono (ok' := fun k_ => ((fun _ => True)) k_ ∧ some k_ ≠ (u175001 : Value).ownBlock) (Kd.R_apart' (HO192.out) (Kd.S_typed HO_175001.out) (by decide)) (fun k_ hk => ⟨trivial, hk.2⟩))).1 k_ hk_.symm) ?aF ?aO (Below.refl _ _) ?aS ?aL ?_; (case aP => exact Kd.M_row (Kd.R_mono (Kd.R_tight rfl (Kd.R_mono (ok' := fun k_ => ((fun _ => True)) k_ ∧ some k_ ≠ (u175001 : Value).ownBlock) (Kd.R_apart' (HO192.out) (Kd.S_typed HO_175001.out) (by decide)) (fun k_ hk => ⟨trivial, hk.2⟩))) (fun _ h_ => h_))); (case aF => exact (fun _ _ => trivial)); (case aO => exact (Kd.S_below (Kd.S_mono HO_175001.out (fun k_ hk => ⟨trivial, fun e_ => hk.2 e_⟩)) bgo_)); (case aS => exact (keep_size (w := w) (g := g) (row := none) kp_)); (case aL => have := LMc37.out; omega); intro v194 w45 ho hb hg hat; rw [← Ny193.out] at ho; replace BK170 := m_ (blk_grown (blk_below BK170.out bgo_) hg (Kd.S_ne HO_175001.out BK170.out (by decide))); replace BK174 := m_ (blk_grown (blk_below BK174.out bgo_) hg (Kd.S_ne HO_175001.out BK174.out (by decide))); replace HB := m_ (below_weaken IsS131.hs_ HL.out hb); replace HI0 := m_ (IsS131.grown IsS131.gs_ hg (IsS131.own_neS HI0.out HO_175001.out (by decide))); replace HK := m_ (KeepBut.trans kp_ (KeepBut.of_grown hg g) (Kd.S_base2 HO_175001.out)); have HO195 := m_ (ho); clear HO_175001 HO192; clear ho hb hg hat; obtain ⟨Ao47, co47, eo47⟩ := Kd.S_slice HO195.out; subst eo47; have hcz48_0 := bc0_ BK174.out; have hcz48_1 := bc1_ BK174.out; have hfz48_0 := blk_frozen BK174.out 0; have hfz48_1 := blk_frozen BK174.out 1))
       go_roundg kj13
       case measure => have := HK1.out; have := HJ13.out; omega
       case rel => exact ⟨(wrap64 (x9_1 + 1)), (t182), (t183), (y193), (.slice Ao47 y193.length co47), es_, H', ⟨by have := HK1.out; have := HJ13.out; omega⟩, ⟨by (with_reducible repeat (first | apply Kd.S_alloc | apply Kd.S_drewN | apply Kd.S_drew)); exact Kd.S_mono (Kd.S_far (p := ⟨gb174, 1, none⟩) (Kd.S_types HO195.out BK174.out (by decide)) (fun _ hk => hk.2) (.slice Ao47 y193.length co47)) (fun _ hk => trivial)⟩, ⟨bk_⟩, ⟨by (with_reducible repeat (first | refine blk_drewN ?_ _ | refine blk_drew ?_ | refine blk_alloc ?_ _)); refine blk_put (cs := #[.int .i64 a1, u175001]) ?_ 1 _ rfl; (with_reducible repeat (first | refine blk_drewN ?_ _ | refine blk_drew ?_ | refine blk_alloc ?_ _)); exact BK174.out⟩, ⟨IsS131.gs_⟩, ⟨kp_⟩, ⟨IsS131.hs_⟩⟩
     ·replace c21 := Bool.eq_false_iff.mpr c21
      subst c21
      have H1 : ((spec_l01Next.f s0_0 x1001_1 x1002_1 (wrap64 (a2 + 1))).bind fun bt196 => (spec_l01DrawOf.l1 kj13 a1 a2 bt196.1 s0_0 bt196.2.1 bt196.2.2 a1 x175001_1)) = some (r1, r2, r3, r4) := by rw [if_neg (show ¬ (false = true) by decide)] at H; exact H
      clear H
      have H := H1
      clear H1
      obtain ⟨⟨t196, t197, t198⟩, A49, H⟩ := bnd_ H
      dsimp only at H
      have H' := m_ H
      clear H
      go_wp2_with (first | ((with_reducible refine gate_callee (f := 171) rfl ?_); refine gl_ (some 60) Try.func171 #[.pointer (some ⟨g, 0, none⟩), .int .i64 (wrap64 (a2 + 1))] ?_; (with_reducible refine (spec_l01Next.calls g s0_0 x1001_1 x1002_1 (wrap64 (a2 + 1)) t196 t197 t198 w0 _ ?side1 ?side2 A49.out).mono ?_); (case side1 => exact IsS131.gs_); (case side2 => exact IsS131.hs_); rintro e w50 ⟨rfl, hi, hb, hk⟩; refine ⟨_, rfl, ?_⟩; replace HO_175001 := m_ (Kd.S_mono (Kd.S_keep (IsS131.apartS (show IsS131 w0 _ g s0_0 x1001_1 x1002_1 from IsS131.gs_) (Kd.S_below HO_175001.out bgo_) (by decide)) hk (fun _ h => h.2)) (fun _ h => h.1)); replace BK170 := m_ (KeepBut.blk hk (blk_below BK170.out bgo_) NB170_0.out (by simp)); replace BK174 := m_ (KeepBut.blk hk (blk_below BK174.out bgo_) NB174_0.out (by simp)); replace HK := m_ (KeepBut.trans kp_ hk (.inl rfl)); replace HB := m_ (hb); replace HI0 := m_ (hi); clear hi hb hk))
      go_loopg [11] kj13 (fun kq v11 w' => ∃ (x11_3 : Int) (x1001_3 : Int) (x1002_3 : Int) (x175001_3 : List (List Int)) (u175001 : Value), v11 = .int .i64 x11_3 ∧ Aside0 (spec_l01DrawOf.l1 kq a1 a2 x11_3 s0_0 x1001_3 x1002_3 a1 x175001_3 = some (r1, r2, r3, r4)) ∧ Aside0 (kq ≤ kj13) ∧ Aside0 (Kd.S (Kd.slice 2 (Kd.int .i64)) 29 w' w.heap.size (fun _ => True) u175001 x175001_3) ∧ Aside0 (w'.heap[gb170]? = some (.cells #[.int .i64 0, (.slice none 0 0)] 26 (0, 0))) ∧ Aside0 (w'.heap[gb174]? = some (.cells #[.int .i64 a1, u175001] 26 (0, 0))) ∧ Aside0 (IsS131 w0 w' g s0_0 x1001_3 x1002_3) ∧ Aside0 (KeepBut w w' g none) ∧ Aside0 (Below w0.heap.size w0 w'))
      case atStart => exact ⟨(t196), (t197), (t198), (x175001_1), (u175001), es_, H', ⟨Nat.le_refl _⟩, ⟨Kd.S_below HO_175001.out bgo_⟩, ⟨blk_below BK170.out bgo_⟩, ⟨blk_below BK174.out bgo_⟩, ⟨IsS131.gs_⟩, ⟨kp_⟩, ⟨IsS131.hs_⟩⟩
      case round =>
       clear H'
       obtain ⟨x11_3, x1001_3, x1002_3, x175001_3, u175001, rfl, HA, HK3, HO_175001, BK170, BK174, HI0, HK, HB⟩ := hrel
       cases gk with
       | zero => exact absurd HA.out (by simp [spec_l01DrawOf.l1])
       | succ k3 =>
        have H := HA.out
        clear HA
        simp only [spec_l01DrawOf.l1] at H
        have HC51 := m_ H
        clear H
        go_upto_region 11 with (fail)
        go_cut [69] (fun v69 wc => ∃ (kq : Nat) (x69_50 : Bool), v69 = .bool x69_50 ∧ Aside0 (spec_l01DrawOf.j3 kq a1 a2 x11_3 x69_50 s0_0 x1001_3 x1002_3 a1 x175001_3 = some (r1, r2, r3, r4)) ∧ Aside0 (kq ≤ k3) ∧ Aside0 (Kd.S (Kd.slice 2 (Kd.int .i64)) 29 wc w.heap.size (fun _ => True) u175001 x175001_3) ∧ Aside0 (wc.heap[gb170]? = some (.cells #[.int .i64 0, (.slice none 0 0)] 26 (0, 0))) ∧ Aside0 (wc.heap[gb174]? = some (.cells #[.int .i64 a1, u175001] 26 (0, 0))) ∧ Aside0 (IsS131 w0 wc g s0_0 x1001_3 x1002_3) ∧ Aside0 (KeepBut w wc g none) ∧ Aside0 (Below w0.heap.size w0 wc))
        case first =>
         have H := HC51.out
         clear HC51
         by_cases c52 : x11_3 > 0
         ·rw [if_pos c52] at H
          have c52b0 := decide_eq_true c52
          clear c52
          (first | rw [c52b0] | (simp only [i64_w, i32_w]; rw [c52b0]) | skip)
          have H' := m_ H
          clear H
          have hnb53 := NB174_170.out
          have hnc53 := NB170_174.out
          have hnb54 := NB174_0.out
          have hnc54 := NB0_174.out
          have hcz55_0 := bc0_ BK174.out
          have hcz55_1 := bc1_ BK174.out
          have hfz55_0 := blk_frozen BK174.out 0
          have hfz55_1 := blk_frozen BK174.out 1
          obtain ⟨Ao56, co56, eo56⟩ := Kd.S_slice HO_175001.out
          subst eo56
          go_wp2
          go_meet
          case rel => exact ⟨_, (decide ((x175001_3.length : Int) < a2)), es_, H', ⟨by have := HK1.out; have := HJ13.out; have := HK3.out; first | omega | exact Nat.le_refl _⟩, ⟨Kd.S_below HO_175001.out bgo_⟩, ⟨blk_below BK170.out bgo_⟩, ⟨blk_below BK174.out bgo_⟩, ⟨IsS131.gs_⟩, ⟨kp_⟩, ⟨IsS131.hs_⟩⟩
         ·rw [if_neg c52] at H
          have c52b0 := decide_eq_false c52
          clear c52
          (first | rw [c52b0] | (simp only [i64_w, i32_w]; rw [c52b0]) | skip)
          have H' := m_ H
          clear H
          go_wp2
          go_meet
          case rel => exact ⟨_, (false), es_, H', ⟨by have := HK1.out; have := HJ13.out; have := HK3.out; first | omega | exact Nat.le_refl _⟩, ⟨Kd.S_below HO_175001.out bgo_⟩, ⟨blk_below BK170.out bgo_⟩, ⟨blk_below BK174.out bgo_⟩, ⟨IsS131.gs_⟩, ⟨kp_⟩, ⟨IsS131.hs_⟩⟩
        case rest =>
         clear HC51
         obtain ⟨kq, x69_50, rfl, HA, HJ50, HO_175001, BK170, BK174, HI0, HK, HB⟩ := hcut
         cases kq with
         | zero => exact absurd HA.out (by simp [spec_l01DrawOf.j3])
         | succ kj50 =>
          have H := HA.out
          clear HA
          simp only [spec_l01DrawOf.j3] at H
          by_cases c57 : x69_50 = true
          ·subst c57
           have H1 : ((spec_l01Next.f s0_0 x1001_3 x1002_3 a1).bind fun bt199 => ((spec_l01Next.f s0_0 bt199.2.1 bt199.2.2 a1).bind fun bt202 => (if bt199.1 = bt202.1 then ((spec_l01Next.f s0_0 bt202.2.1 bt202.2.2 3).bind fun bt205 => (if bt205.1 > 0 then (if a1 = 0 then (none) else (if x175001_3.length < 5864062014805 then (spec_l01DrawOf.l1 kj50 a1 a2 (wrap64 (x11_3 - 1)) s0_0 bt205.2.1 bt205.2.2 a1 (x175001_3 ++ [(([bt199.1, Int.tmod (wrap64 (bt199.1 + 1)) a1] : List Int))])) else (none))) else (if x175001_3.length < 5864062014805 then (spec_l01DrawOf.l1 kj50 a1 a2 (wrap64 (x11_3 - 1)) s0_0 bt205.2.1 bt205.2.2 a1 (x175001_3 ++ [(([bt199.1, bt202.1] : List Int))])) else (none)))) else (if x175001_3.length < 5864062014805 then (spec_l01DrawOf.l1 kj50 a1 a2 (wrap64 (x11_3 - 1)) s0_0 bt202.2.1 bt202.2.2 a1 (x175001_3 ++ [(([bt199.1, bt202.1] : List Int))])) else (none))))) = some (r1, r2, r3, r4) := by rw [if_pos rfl] at H; exact H
           clear H
           have H := H1
           clear H1
           obtain ⟨⟨t199, t200, t201⟩, A58, H⟩ := bnd_ H
           dsimp only at H
           obtain ⟨⟨t202, t203, t204⟩, A59, H⟩ := bnd_ H
           dsimp only at H
           by_cases c60 : t199 = t202
           ·rw [if_pos c60] at H
            have c60b0 : (t199 == t202) = true := beq_iff_eq.mpr c60
            have c60b1 : (t199 != t202) = false := bne_eq_false_iff_eq.mpr c60
            clear c60
            obtain ⟨⟨t205, t206, t207⟩, A61, H⟩ := bnd_ H
            dsimp only at H
            by_cases c62 : t205 > 0
            ·rw [if_pos c62] at H
             have c62b0 := decide_eq_true c62
             clear c62
             by_cases c63 : a1 = 0
             ·rw [if_pos c63] at H
              exact absurd H (by simp)
             ·rw [if_neg c63] at H
              have c63b0 : (a1 == 0) = false := beq_eq_false_iff_ne.mpr c63
              have c63b1 : (a1 != 0) = true := bne_iff_ne.mpr c63
              obtain ⟨y208, Ny208, H⟩ : ∃ y208 : List Int, Aside0 (y208 = (([t199, Int.tmod (wrap64 (t199 + 1)) a1] : List Int))) ∧ (if x175001_3.length < 5864062014805 then (spec_l01DrawOf.l1 kj50 a1 a2 (wrap64 (x11_3 - 1)) s0_0 t206 t207 a1 (x175001_3 ++ [y208])) else (none)) = some (r1, r2, r3, r4) := ⟨_, ⟨rfl⟩, H⟩
              obtain ⟨c64, H⟩ := itn_ H
              have LMc64 := m_ c64
              clear c64
              obtain ⟨y211, Ny211, H⟩ : ∃ y211 : List (List Int), Aside0 (y211 = (x175001_3 ++ [y208])) ∧ (spec_l01DrawOf.l1 kj50 a1 a2 (wrap64 (x11_3 - 1)) s0_0 t206 t207 a1 y211) = some (r1, r2, r3, r4) := ⟨_, ⟨rfl⟩, H⟩
              have H' := m_ H
              clear H
              go_wp2_with (first | ((with_reducible refine gate_callee (f := 171) rfl ?_); refine gl_ (some 74) Try.func171 #[.pointer (some ⟨g, 0, none⟩), .int .i64 a1] ?_; (with_reducible refine (spec_l01Next.calls g s0_0 x1001_3 x1002_3 a1 t199 t200 t201 w0 _ ?side1 ?side2 A58.out).mono ?_); (case side1 => exact IsS131.gs_); (case side2 => exact IsS131.hs_); rintro e w65 ⟨rfl, hi, hb, hk⟩; refine ⟨_, rfl, ?_⟩; replace HO_175001 := m_ (Kd.S_mono (Kd.S_keep (IsS131.apartS (show IsS131 w0 _ g s0_0 x1001_3 x1002_3 from IsS131.gs_) (Kd.S_below HO_175001.out bgo_) (by decide)) hk (fun _ h => h.2)) (fun _ h => h.1)); replace BK170 := m_ (KeepBut.blk hk (blk_below BK170.out bgo_) NB170_0.out (by simp)); replace BK174 := m_ (KeepBut.blk hk (blk_below BK174.out bgo_) NB174_0.out (by simp)); replace HK := m_ (KeepBut.trans kp_ hk (.inl rfl)); replace HB := m_ (hb); replace HI0 := m_ (hi); clear hi hb hk) | ((with_reducible refine gate_callee (f := 171) rfl ?_); refine gl_ (some 77) Try.func171 #[.pointer (some ⟨g, 0, none⟩), .int .i64 a1] ?_; (with_reducible refine (spec_l01Next.calls g s0_0 t200 t201 a1 t202 t203 t204 w0 _ ?side1 ?side2 A59.out).mono ?_); (case side1 => exact IsS131.gs_); (case side2 => exact IsS131.hs_); rintro e w66 ⟨rfl, hi, hb, hk⟩; refine ⟨_, rfl, ?_⟩; replace HO_175001 := m_ (Kd.S_mono (Kd.S_keep (IsS131.apartS (show IsS131 w0 _ g s0_0 t200 t201 from IsS131.gs_) (Kd.S_below HO_175001.out bgo_) (by decide)) hk (fun _ h => h.2)) (fun _ h => h.1)); replace BK170 := m_ (KeepBut.blk hk (blk_below BK170.out bgo_) NB170_0.out (by simp)); replace BK174 := m_ (KeepBut.blk hk (blk_below BK174.out bgo_) NB174_0.out (by simp)); replace HK := m_ (KeepBut.trans kp_ hk (.inl rfl)); replace HB := m_ (hb); replace HI0 := m_ (hi); clear hi hb hk) | (go_at_call 171; (with_reducible refine (spec_l01Next.calls g s0_0 t203 t204 3 t205 t206 t207 w0 _ ?side1 ?side2 A61.out).mono ?_); (case side1 => exact IsS131.gs_); (case side2 => exact IsS131.hs_); rintro e w67 ⟨rfl, hi, hb, hk⟩; replace HO_175001 := m_ (Kd.S_mono (Kd.S_keep (IsS131.apartS (show IsS131 w0 _ g s0_0 t203 t204 from IsS131.gs_) (Kd.S_below HO_175001.out bgo_) (by decide)) hk (fun _ h => h.2)) (fun _ h => h.1)); replace BK170 := m_ (KeepBut.blk hk (blk_below BK170.out bgo_) NB170_0.out (by simp)); replace BK174 := m_ (KeepBut.blk hk (blk_below BK174.out bgo_) NB174_0.out (by simp)); replace HK := m_ (KeepBut.trans kp_ hk (.inl rfl)); replace HB := m_ (hb); replace HI0 := m_ (hi); clear hi hb hk; have hnb68 := NB174_170.out; have hnc68 := NB170_174.out; have hnb69 := NB174_0.out; have hnc69 := NB0_174.out; have hcz70_0 := bc0_ BK174.out; have hcz70_1 := bc1_ BK174.out; have hfz70_0 := blk_frozen BK174.out 0; have hfz70_1 := blk_frozen BK174.out 1) | ((with_reducible refine gate_dst (N := 94) rfl ?_); (try (refine gate_guard (by rfl) ?_; dsimp only)); refine Kd.R_lit (Kd.int .i64) _ 2 ?hg (N := 94) ?hd (xs := ([t199, Int.tmod (wrap64 (t199 + 1)) a1] : List Int)) (inner := [.int .i64 t199, .int .i64 (Int.tmod (wrap64 (t199 + 1)) a1)]) (ok := fun _ => True) (okp := fun _ => True) ?hr ?hp (fun _ hk => hk) trivial (Below.refl _ _) (Nat.le_refl _) (by simp) ?_; (case hd => rfl); (case hg => rfl); (case hr => first | (go_simp; done) | (go_simp; rfl)); (case hp => exact (Reps.one (show Kd.M (Kd.int .i64) _ _ _ t199 [.int .i64 t199] from rfl) (Reps.one (show Kd.M (Kd.int .i64) _ _ _ (Int.tmod (wrap64 (t199 + 1)) a1) [.int .i64 (Int.tmod (wrap64 (t199 + 1)) a1)] from rfl) (Reps.none _ _)))); intro v209 w71 ho72 hb hg_ hnew_; clear hg_ hnew_; rw [← Ny208.out] at ho72; replace HO_175001 := m_ (Kd.S_elder' (Kd.S_below HO_175001.out bgo_) (Kd.R_base ho72) hb); have HO210 := m_ (Kd.R_lower ho72 (keep_size (w := w) (g := g) (row := none) kp_)); replace BK170 := m_ (bb_ BK170.out hb); replace BK174 := m_ (bb_ BK174.out hb); replace HK := m_ (KeepBut.trans kp_ (KeepBut.of_below hb g none) (.inl rfl)); replace HB := m_ (below_step IsS131.hs_ hb); replace HI0 := m_ (IsS131.below IsS131.gs_ hb); clear hb ho72; obtain ⟨Ao74, co74, eo74⟩ := Kd.R_slice HO210.out; subst eo74) | ((with_reducible refine gate_builtin (b := .append) (xs := #[.tmp 91, .tmp 95]) rfl ?_); (try (refine gate_guard (by rfl) ?_; dsimp only)); at_builtin; refine Kd.S_append (Kd.slice 2 (Kd.int .i64)) w.heap.size rfl (.tmp 91) (.tmp 95) 24 29 (.slice none 0 0) 24 rfl Try.underlying24 info29 rfl (by decide) (by omega) u175001 x175001_3 y208 [.slice Ao74 y208.length co74] (fun _ => True) (fun k_ => some k_ = (.slice Ao74 y208.length co74 : Value).ownBlock) rfl rfl ?aP (fun k_ hk_ => ((Kd.R_mono (ok' := fun k_ => ((fun _ => True)) k_ ∧ some k_ ≠ (u175001 : Value).ownBlock) (Kd.R_apart' (HO210.out) (Kd.S_typed HO_175001.out) (by decide)) (fun k_ hk => ⟨trivial, hk.2⟩))).1 k_ hk_.symm) ?aF ?aO (Below.refl _ _) ?aS ?aL ?_; (case aP => exact Kd.M_row (Kd.R_mono (Kd.R_tight rfl (Kd.R_mono (ok' := fun k_ => ((fun _ => True)) k_ ∧ some k_ ≠ (u175001 : Value).ownBlock) (Kd.R_apart' (HO210.out) (Kd.S_typed HO_175001.out) (by decide)) (fun k_ hk => ⟨trivial, hk.2⟩))) (fun _ h_ => h_))); (case aF => exact (fun _ _ => trivial)); (case aO => exact (Kd.S_below (Kd.S_mono HO_175001.out (fun k_ hk => ⟨trivial, fun e_ => hk.2 e_⟩)) bgo_)); (case aS => exact (keep_size (w := w) (g := g) (row := none) kp_)); (case aL => have := LMc64.out; omega); intro v212 w73 ho hb hg hat; rw [← Ny211.out] at ho; replace BK170 := m_ (blk_grown (blk_below BK170.out bgo_) hg (Kd.S_ne HO_175001.out BK170.out (by decide))); replace BK174 := m_ (blk_grown (blk_below BK174.out bgo_) hg (Kd.S_ne HO_175001.out BK174.out (by decide))); replace HB := m_ (below_weaken IsS131.hs_ HL.out hb); replace HI0 := m_ (IsS131.grown IsS131.gs_ hg (IsS131.own_neS HI0.out HO_175001.out (by decide))); replace HK := m_ (KeepBut.trans kp_ (KeepBut.of_grown hg g) (Kd.S_base2 HO_175001.out)); have HO213 := m_ (ho); clear HO_175001 HO210; clear ho hb hg hat; obtain ⟨Ao75, co75, eo75⟩ := Kd.S_slice HO213.out; subst eo75; have hcz76_0 := bc0_ BK174.out; have hcz76_1 := bc1_ BK174.out; have hfz76_0 := blk_frozen BK174.out 0; have hfz76_1 := blk_frozen BK174.out 1))
              go_roundg kj50
              case measure => have := HK1.out; have := HJ13.out; have := HK3.out; have := HJ50.out; omega
              case rel => exact ⟨(wrap64 (x11_3 - 1)), (t206), (t207), (y211), (.slice Ao75 y211.length co75), es_, H', ⟨by have := HK1.out; have := HJ13.out; have := HK3.out; have := HJ50.out; omega⟩, ⟨by (with_reducible repeat (first | apply Kd.S_alloc | apply Kd.S_drewN | apply Kd.S_drew)); exact Kd.S_mono (Kd.S_far (p := ⟨gb174, 1, none⟩) (Kd.S_types HO213.out BK174.out (by decide)) (fun _ hk => hk.2) (.slice Ao75 y211.length co75)) (fun _ hk => trivial)⟩, ⟨bk_⟩, ⟨by (with_reducible repeat (first | refine blk_drewN ?_ _ | refine blk_drew ?_ | refine blk_alloc ?_ _)); refine blk_put (cs := #[.int .i64 a1, u175001]) ?_ 1 _ rfl; (with_reducible repeat (first | refine blk_drewN ?_ _ | refine blk_drew ?_ | refine blk_alloc ?_ _)); exact BK174.out⟩, ⟨IsS131.gs_⟩, ⟨kp_⟩, ⟨IsS131.hs_⟩⟩
            ·rw [if_neg c62] at H
             have c62b0 := decide_eq_false c62
             clear c62
             obtain ⟨y214, Ny214, H⟩ : ∃ y214 : List Int, Aside0 (y214 = (([t199, t202] : List Int))) ∧ (if x175001_3.length < 5864062014805 then (spec_l01DrawOf.l1 kj50 a1 a2 (wrap64 (x11_3 - 1)) s0_0 t206 t207 a1 (x175001_3 ++ [y214])) else (none)) = some (r1, r2, r3, r4) := ⟨_, ⟨rfl⟩, H⟩
             obtain ⟨c77, H⟩ := itn_ H
             have LMc77 := m_ c77
             clear c77
             obtain ⟨y217, Ny217, H⟩ : ∃ y217 : List (List Int), Aside0 (y217 = (x175001_3 ++ [y214])) ∧ (spec_l01DrawOf.l1 kj50 a1 a2 (wrap64 (x11_3 - 1)) s0_0 t206 t207 a1 y217) = some (r1, r2, r3, r4) := ⟨_, ⟨rfl⟩, H⟩
             have H' := m_ H
             clear H
             go_wp2_with (first | ((with_reducible refine gate_callee (f := 171) rfl ?_); refine gl_ (some 74) Try.func171 #[.pointer (some ⟨g, 0, none⟩), .int .i64 a1] ?_; (with_reducible refine (spec_l01Next.calls g s0_0 x1001_3 x1002_3 a1 t199 t200 t201 w0 _ ?side1 ?side2 A58.out).mono ?_); (case side1 => exact IsS131.gs_); (case side2 => exact IsS131.hs_); rintro e w78 ⟨rfl, hi, hb, hk⟩; refine ⟨_, rfl, ?_⟩; replace HO_175001 := m_ (Kd.S_mono (Kd.S_keep (IsS131.apartS (show IsS131 w0 _ g s0_0 x1001_3 x1002_3 from IsS131.gs_) (Kd.S_below HO_175001.out bgo_) (by decide)) hk (fun _ h => h.2)) (fun _ h => h.1)); replace BK170 := m_ (KeepBut.blk hk (blk_below BK170.out bgo_) NB170_0.out (by simp)); replace BK174 := m_ (KeepBut.blk hk (blk_below BK174.out bgo_) NB174_0.out (by simp)); replace HK := m_ (KeepBut.trans kp_ hk (.inl rfl)); replace HB := m_ (hb); replace HI0 := m_ (hi); clear hi hb hk) | ((with_reducible refine gate_callee (f := 171) rfl ?_); refine gl_ (some 77) Try.func171 #[.pointer (some ⟨g, 0, none⟩), .int .i64 a1] ?_; (with_reducible refine (spec_l01Next.calls g s0_0 t200 t201 a1 t202 t203 t204 w0 _ ?side1 ?side2 A59.out).mono ?_); (case side1 => exact IsS131.gs_); (case side2 => exact IsS131.hs_); rintro e w79 ⟨rfl, hi, hb, hk⟩; refine ⟨_, rfl, ?_⟩; replace HO_175001 := m_ (Kd.S_mono (Kd.S_keep (IsS131.apartS (show IsS131 w0 _ g s0_0 t200 t201 from IsS131.gs_) (Kd.S_below HO_175001.out bgo_) (by decide)) hk (fun _ h => h.2)) (fun _ h => h.1)); replace BK170 := m_ (KeepBut.blk hk (blk_below BK170.out bgo_) NB170_0.out (by simp)); replace BK174 := m_ (KeepBut.blk hk (blk_below BK174.out bgo_) NB174_0.out (by simp)); replace HK := m_ (KeepBut.trans kp_ hk (.inl rfl)); replace HB := m_ (hb); replace HI0 := m_ (hi); clear hi hb hk) | (go_at_call 171; (with_reducible refine (spec_l01Next.calls g s0_0 t203 t204 3 t205 t206 t207 w0 _ ?side1 ?side2 A61.out).mono ?_); (case side1 => exact IsS131.gs_); (case side2 => exact IsS131.hs_); rintro e w80 ⟨rfl, hi, hb, hk⟩; replace HO_175001 := m_ (Kd.S_mono (Kd.S_keep (IsS131.apartS (show IsS131 w0 _ g s0_0 t203 t204 from IsS131.gs_) (Kd.S_below HO_175001.out bgo_) (by decide)) hk (fun _ h => h.2)) (fun _ h => h.1)); replace BK170 := m_ (KeepBut.blk hk (blk_below BK170.out bgo_) NB170_0.out (by simp)); replace BK174 := m_ (KeepBut.blk hk (blk_below BK174.out bgo_) NB174_0.out (by simp)); replace HK := m_ (KeepBut.trans kp_ hk (.inl rfl)); replace HB := m_ (hb); replace HI0 := m_ (hi); clear hi hb hk; have hnb81 := NB174_170.out; have hnc81 := NB170_174.out; have hnb82 := NB174_0.out; have hnc82 := NB0_174.out; have hcz83_0 := bc0_ BK174.out; have hcz83_1 := bc1_ BK174.out; have hfz83_0 := blk_frozen BK174.out 0; have hfz83_1 := blk_frozen BK174.out 1) | ((with_reducible refine gate_dst (N := 94) rfl ?_); (try (refine gate_guard (by rfl) ?_; dsimp only)); refine Kd.R_lit (Kd.int .i64) _ 2 ?hg (N := 94) ?hd (xs := ([t199, t202] : List Int)) (inner := [.int .i64 t199, .int .i64 t202]) (ok := fun _ => True) (okp := fun _ => True) ?hr ?hp (fun _ hk => hk) trivial (Below.refl _ _) (Nat.le_refl _) (by simp) ?_; (case hd => rfl); (case hg => rfl); (case hr => first | (go_simp; done) | (go_simp; rfl)); (case hp => exact (Reps.one (show Kd.M (Kd.int .i64) _ _ _ t199 [.int .i64 t199] from rfl) (Reps.one (show Kd.M (Kd.int .i64) _ _ _ t202 [.int .i64 t202] from rfl) (Reps.none _ _)))); intro v215 w84 ho85 hb hg_ hnew_; clear hg_ hnew_; rw [← Ny214.out] at ho85; replace HO_175001 := m_ (Kd.S_elder' (Kd.S_below HO_175001.out bgo_) (Kd.R_base ho85) hb); have HO216 := m_ (Kd.R_lower ho85 (keep_size (w := w) (g := g) (row := none) kp_)); replace BK170 := m_ (bb_ BK170.out hb); replace BK174 := m_ (bb_ BK174.out hb); replace HK := m_ (KeepBut.trans kp_ (KeepBut.of_below hb g none) (.inl rfl)); replace HB := m_ (below_step IsS131.hs_ hb); replace HI0 := m_ (IsS131.below IsS131.gs_ hb); clear hb ho85; obtain ⟨Ao87, co87, eo87⟩ := Kd.R_slice HO216.out; subst eo87) | ((with_reducible refine gate_builtin (b := .append) (xs := #[.tmp 91, .tmp 95]) rfl ?_); (try (refine gate_guard (by rfl) ?_; dsimp only)); at_builtin; refine Kd.S_append (Kd.slice 2 (Kd.int .i64)) w.heap.size rfl (.tmp 91) (.tmp 95) 24 29 (.slice none 0 0) 24 rfl Try.underlying24 info29 rfl (by decide) (by omega) u175001 x175001_3 y214 [.slice Ao87 y214.length co87] (fun _ => True) (fun k_ => some k_ = (.slice Ao87 y214.length co87 : Value).ownBlock) rfl rfl ?aP (fun k_ hk_ => ((Kd.R_mono (ok' := fun k_ => ((fun _ => True)) k_ ∧ some k_ ≠ (u175001 : Value).ownBlock) (Kd.R_apart' (HO216.out) (Kd.S_typed HO_175001.out) (by decide)) (fun k_ hk => ⟨trivial, hk.2⟩))).1 k_ hk_.symm) ?aF ?aO (Below.refl _ _) ?aS ?aL ?_; (case aP => exact Kd.M_row (Kd.R_mono (Kd.R_tight rfl (Kd.R_mono (ok' := fun k_ => ((fun _ => True)) k_ ∧ some k_ ≠ (u175001 : Value).ownBlock) (Kd.R_apart' (HO216.out) (Kd.S_typed HO_175001.out) (by decide)) (fun k_ hk => ⟨trivial, hk.2⟩))) (fun _ h_ => h_))); (case aF => exact (fun _ _ => trivial)); (case aO => exact (Kd.S_below (Kd.S_mono HO_175001.out (fun k_ hk => ⟨trivial, fun e_ => hk.2 e_⟩)) bgo_)); (case aS => exact (keep_size (w := w) (g := g) (row := none) kp_)); (case aL => have := LMc77.out; omega); intro v218 w86 ho hb hg hat; rw [← Ny217.out] at ho; replace BK170 := m_ (blk_grown (blk_below BK170.out bgo_) hg (Kd.S_ne HO_175001.out BK170.out (by decide))); replace BK174 := m_ (blk_grown (blk_below BK174.out bgo_) hg (Kd.S_ne HO_175001.out BK174.out (by decide))); replace HB := m_ (below_weaken IsS131.hs_ HL.out hb); replace HI0 := m_ (IsS131.grown IsS131.gs_ hg (IsS131.own_neS HI0.out HO_175001.out (by decide))); replace HK := m_ (KeepBut.trans kp_ (KeepBut.of_grown hg g) (Kd.S_base2 HO_175001.out)); have HO219 := m_ (ho); clear HO_175001 HO216; clear ho hb hg hat; obtain ⟨Ao88, co88, eo88⟩ := Kd.S_slice HO219.out; subst eo88; have hcz89_0 := bc0_ BK174.out; have hcz89_1 := bc1_ BK174.out; have hfz89_0 := blk_frozen BK174.out 0; have hfz89_1 := blk_frozen BK174.out 1))
             go_roundg kj50
             case measure => have := HK1.out; have := HJ13.out; have := HK3.out; have := HJ50.out; omega
             case rel => exact ⟨(wrap64 (x11_3 - 1)), (t206), (t207), (y217), (.slice Ao88 y217.length co88), es_, H', ⟨by have := HK1.out; have := HJ13.out; have := HK3.out; have := HJ50.out; omega⟩, ⟨by (with_reducible repeat (first | apply Kd.S_alloc | apply Kd.S_drewN | apply Kd.S_drew)); exact Kd.S_mono (Kd.S_far (p := ⟨gb174, 1, none⟩) (Kd.S_types HO219.out BK174.out (by decide)) (fun _ hk => hk.2) (.slice Ao88 y217.length co88)) (fun _ hk => trivial)⟩, ⟨bk_⟩, ⟨by (with_reducible repeat (first | refine blk_drewN ?_ _ | refine blk_drew ?_ | refine blk_alloc ?_ _)); refine blk_put (cs := #[.int .i64 a1, u175001]) ?_ 1 _ rfl; (with_reducible repeat (first | refine blk_drewN ?_ _ | refine blk_drew ?_ | refine blk_alloc ?_ _)); exact BK174.out⟩, ⟨IsS131.gs_⟩, ⟨kp_⟩, ⟨IsS131.hs_⟩⟩
           ·rw [if_neg c60] at H
            have c60b0 : (t199 == t202) = false := beq_eq_false_iff_ne.mpr c60
            have c60b1 : (t199 != t202) = true := bne_iff_ne.mpr c60
            obtain ⟨y220, Ny220, H⟩ : ∃ y220 : List Int, Aside0 (y220 = (([t199, t202] : List Int))) ∧ (if x175001_3.length < 5864062014805 then (spec_l01DrawOf.l1 kj50 a1 a2 (wrap64 (x11_3 - 1)) s0_0 t203 t204 a1 (x175001_3 ++ [y220])) else (none)) = some (r1, r2, r3, r4) := ⟨_, ⟨rfl⟩, H⟩
            obtain ⟨c90, H⟩ := itn_ H
            have LMc90 := m_ c90
            clear c90
            obtain ⟨y223, Ny223, H⟩ : ∃ y223 : List (List Int), Aside0 (y223 = (x175001_3 ++ [y220])) ∧ (spec_l01DrawOf.l1 kj50 a1 a2 (wrap64 (x11_3 - 1)) s0_0 t203 t204 a1 y223) = some (r1, r2, r3, r4) := ⟨_, ⟨rfl⟩, H⟩
            have H' := m_ H
            clear H
            go_wp2_with (first | ((with_reducible refine gate_callee (f := 171) rfl ?_); refine gl_ (some 74) Try.func171 #[.pointer (some ⟨g, 0, none⟩), .int .i64 a1] ?_; (with_reducible refine (spec_l01Next.calls g s0_0 x1001_3 x1002_3 a1 t199 t200 t201 w0 _ ?side1 ?side2 A58.out).mono ?_); (case side1 => exact IsS131.gs_); (case side2 => exact IsS131.hs_); rintro e w91 ⟨rfl, hi, hb, hk⟩; refine ⟨_, rfl, ?_⟩; replace HO_175001 := m_ (Kd.S_mono (Kd.S_keep (IsS131.apartS (show IsS131 w0 _ g s0_0 x1001_3 x1002_3 from IsS131.gs_) (Kd.S_below HO_175001.out bgo_) (by decide)) hk (fun _ h => h.2)) (fun _ h => h.1)); replace BK170 := m_ (KeepBut.blk hk (blk_below BK170.out bgo_) NB170_0.out (by simp)); replace BK174 := m_ (KeepBut.blk hk (blk_below BK174.out bgo_) NB174_0.out (by simp)); replace HK := m_ (KeepBut.trans kp_ hk (.inl rfl)); replace HB := m_ (hb); replace HI0 := m_ (hi); clear hi hb hk) | ((with_reducible refine gate_callee (f := 171) rfl ?_); refine gl_ (some 77) Try.func171 #[.pointer (some ⟨g, 0, none⟩), .int .i64 a1] ?_; (with_reducible refine (spec_l01Next.calls g s0_0 t200 t201 a1 t202 t203 t204 w0 _ ?side1 ?side2 A59.out).mono ?_); (case side1 => exact IsS131.gs_); (case side2 => exact IsS131.hs_); rintro e w92 ⟨rfl, hi, hb, hk⟩; refine ⟨_, rfl, ?_⟩; replace HO_175001 := m_ (Kd.S_mono (Kd.S_keep (IsS131.apartS (show IsS131 w0 _ g s0_0 t200 t201 from IsS131.gs_) (Kd.S_below HO_175001.out bgo_) (by decide)) hk (fun _ h => h.2)) (fun _ h => h.1)); replace BK170 := m_ (KeepBut.blk hk (blk_below BK170.out bgo_) NB170_0.out (by simp)); replace BK174 := m_ (KeepBut.blk hk (blk_below BK174.out bgo_) NB174_0.out (by simp)); replace HK := m_ (KeepBut.trans kp_ hk (.inl rfl)); replace HB := m_ (hb); replace HI0 := m_ (hi); clear hi hb hk; have hnb93 := NB174_170.out; have hnc93 := NB170_174.out; have hnb94 := NB174_0.out; have hnc94 := NB0_174.out; have hcz95_0 := bc0_ BK174.out; have hcz95_1 := bc1_ BK174.out; have hfz95_0 := blk_frozen BK174.out 0; have hfz95_1 := blk_frozen BK174.out 1) | ((with_reducible refine gate_dst (N := 94) rfl ?_); (try (refine gate_guard (by rfl) ?_; dsimp only)); refine Kd.R_lit (Kd.int .i64) _ 2 ?hg (N := 94) ?hd (xs := ([t199, t202] : List Int)) (inner := [.int .i64 t199, .int .i64 t202]) (ok := fun _ => True) (okp := fun _ => True) ?hr ?hp (fun _ hk => hk) trivial (Below.refl _ _) (Nat.le_refl _) (by simp) ?_; (case hd => rfl); (case hg => rfl); (case hr => first | (go_simp; done) | (go_simp; rfl)); (case hp => exact (Reps.one (show Kd.M (Kd.int .i64) _ _ _ t199 [.int .i64 t199] from rfl) (Reps.one (show Kd.M (Kd.int .i64) _ _ _ t202 [.int .i64 t202] from rfl) (Reps.none _ _)))); intro v221 w96 ho97 hb hg_ hnew_; clear hg_ hnew_; rw [← Ny220.out] at ho97; replace HO_175001 := m_ (Kd.S_elder' (Kd.S_below HO_175001.out bgo_) (Kd.R_base ho97) hb); have HO222 := m_ (Kd.R_lower ho97 (keep_size (w := w) (g := g) (row := none) kp_)); replace BK170 := m_ (bb_ BK170.out hb); replace BK174 := m_ (bb_ BK174.out hb); replace HK := m_ (KeepBut.trans kp_ (KeepBut.of_below hb g none) (.inl rfl)); replace HB := m_ (below_step IsS131.hs_ hb); replace HI0 := m_ (IsS131.below IsS131.gs_ hb); clear hb ho97; obtain ⟨Ao99, co99, eo99⟩ := Kd.R_slice HO222.out; subst eo99) | ((with_reducible refine gate_builtin (b := .append) (xs := #[.tmp 91, .tmp 95]) rfl ?_); (try (refine gate_guard (by rfl) ?_; dsimp only)); at_builtin; refine Kd.S_append (Kd.slice 2 (Kd.int .i64)) w.heap.size rfl (.tmp 91) (.tmp 95) 24 29 (.slice none 0 0) 24 rfl Try.underlying24 info29 rfl (by decide) (by omega) u175001 x175001_3 y220 [.slice Ao99 y220.length co99] (fun _ => True) (fun k_ => some k_ = (.slice Ao99 y220.length co99 : Value).ownBlock) rfl rfl ?aP (fun k_ hk_ => ((Kd.R_mono (ok' := fun k_ => ((fun _ => True)) k_ ∧ some k_ ≠ (u175001 : Value).ownBlock) (Kd.R_apart' (HO222.out) (Kd.S_typed HO_175001.out) (by decide)) (fun k_ hk => ⟨trivial, hk.2⟩))).1 k_ hk_.symm) ?aF ?aO (Below.refl _ _) ?aS ?aL ?_; (case aP => exact Kd.M_row (Kd.R_mono (Kd.R_tight rfl (Kd.R_mono (ok' := fun k_ => ((fun _ => True)) k_ ∧ some k_ ≠ (u175001 : Value).ownBlock) (Kd.R_apart' (HO222.out) (Kd.S_typed HO_175001.out) (by decide)) (fun k_ hk => ⟨trivial, hk.2⟩))) (fun _ h_ => h_))); (case aF => exact (fun _ _ => trivial)); (case aO => exact (Kd.S_below (Kd.S_mono HO_175001.out (fun k_ hk => ⟨trivial, fun e_ => hk.2 e_⟩)) bgo_)); (case aS => exact (keep_size (w := w) (g := g) (row := none) kp_)); (case aL => have := LMc90.out; omega); intro v224 w98 ho hb hg hat; rw [← Ny223.out] at ho; replace BK170 := m_ (blk_grown (blk_below BK170.out bgo_) hg (Kd.S_ne HO_175001.out BK170.out (by decide))); replace BK174 := m_ (blk_grown (blk_below BK174.out bgo_) hg (Kd.S_ne HO_175001.out BK174.out (by decide))); replace HB := m_ (below_weaken IsS131.hs_ HL.out hb); replace HI0 := m_ (IsS131.grown IsS131.gs_ hg (IsS131.own_neS HI0.out HO_175001.out (by decide))); replace HK := m_ (KeepBut.trans kp_ (KeepBut.of_grown hg g) (Kd.S_base2 HO_175001.out)); have HO225 := m_ (ho); clear HO_175001 HO222; clear ho hb hg hat; obtain ⟨Ao100, co100, eo100⟩ := Kd.S_slice HO225.out; subst eo100; have hcz101_0 := bc0_ BK174.out; have hcz101_1 := bc1_ BK174.out; have hfz101_0 := blk_frozen BK174.out 0; have hfz101_1 := blk_frozen BK174.out 1))
            go_roundg kj50
            case measure => have := HK1.out; have := HJ13.out; have := HK3.out; have := HJ50.out; omega
            case rel => exact ⟨(wrap64 (x11_3 - 1)), (t203), (t204), (y223), (.slice Ao100 y223.length co100), es_, H', ⟨by have := HK1.out; have := HJ13.out; have := HK3.out; have := HJ50.out; omega⟩, ⟨by (with_reducible repeat (first | apply Kd.S_alloc | apply Kd.S_drewN | apply Kd.S_drew)); exact Kd.S_mono (Kd.S_far (p := ⟨gb174, 1, none⟩) (Kd.S_types HO225.out BK174.out (by decide)) (fun _ hk => hk.2) (.slice Ao100 y223.length co100)) (fun _ hk => trivial)⟩, ⟨bk_⟩, ⟨by (with_reducible repeat (first | refine blk_drewN ?_ _ | refine blk_drew ?_ | refine blk_alloc ?_ _)); refine blk_put (cs := #[.int .i64 a1, u175001]) ?_ 1 _ rfl; (with_reducible repeat (first | refine blk_drewN ?_ _ | refine blk_drew ?_ | refine blk_alloc ?_ _)); exact BK174.out⟩, ⟨IsS131.gs_⟩, ⟨kp_⟩, ⟨IsS131.hs_⟩⟩
          ·replace c57 := Bool.eq_false_iff.mpr c57
           subst c57
           have H1 : (some (a1, x175001_3, x1001_3, x1002_3)) = some (r1, r2, r3, r4) := by rw [if_neg (show ¬ (false = true) by decide)] at H; exact H
           clear H
           have H := H1
           clear H1
           simp only [Option.some.injEq, Prod.mk.injEq] at H
           obtain ⟨rfl, rfl, rfl, rfl⟩ := H
           have hnb102 := NB174_170.out
           have hnc102 := NB170_174.out
           have hnb103 := NB174_0.out
           have hnc103 := NB0_174.out
           have hcz104_0 := bc0_ BK174.out
           have hcz104_1 := bc1_ BK174.out
           have hfz104_0 := blk_frozen BK174.out 0
           have hfz104_1 := blk_frozen BK174.out 1
           have hnb105 := NB170_0.out
           have hnc105 := NB0_170.out
           have hcz106_0 := bc0_ BK170.out
           have hcz106_1 := bc1_ BK170.out
           have hfz106_0 := blk_frozen BK170.out 0
           have hfz106_1 := blk_frozen BK170.out 1
           obtain ⟨Ao107, co107, eo107⟩ := Kd.S_slice HO_175001.out
           subst eo107
           go_wp2
           refine bodyPost_ret (results_cell_row rfl _ _ gb170 26 #[.int .i64 a1, .slice Ao107 x175001_3.length co107] (0, 0) _ rfl (by (with_reducible repeat (first | refine blk_drewN ?_ _ | refine blk_drew ?_ | refine blk_alloc ?_ _)); refine blk_put (cs := #[.int .i64 a1, .slice none 0 0]) ?_ 1 _ rfl; (with_reducible repeat (first | refine blk_drewN ?_ _ | refine blk_drew ?_ | refine blk_alloc ?_ _)); refine blk_put (cs := #[.int .i64 0, .slice none 0 0]) ?_ 0 _ rfl; (with_reducible repeat (first | refine blk_drewN ?_ _ | refine blk_drew ?_ | refine blk_alloc ?_ _)); exact BK170.out) Try.underlying26 rfl (by kernel_rfl)) rfl ?_
           exact ⟨_, er_, by (with_reducible repeat (first | apply Kd.S_alloc | apply Kd.S_drewN | apply Kd.S_drew)); exact Kd.S_mono (Kd.S_far (p := ⟨gb170, 1, none⟩) (Kd.S_far (p := ⟨gb170, 0, none⟩) (Kd.S_types HO_175001.out BK170.out (by decide)) (fun _ hk => hk.2) (.int .i64 a1)) (fun _ hk => hk.2) (.slice Ao107 x175001_3.length co107)) (fun _ hk => trivial), IsS131.gs_, IsS131.hs_, kp_⟩

/-! ### spec_l01Names: function 255 -/
def spec_l01Names.f  : Option (List ByteArray) := some (([(⟨#[112, 111, 105, 110, 116]⟩ : ByteArray), (⟨#[101, 100, 103, 101]⟩ : ByteArray), (⟨#[108, 111, 111, 112]⟩ : ByteArray), (⟨#[98, 111, 117, 113, 117, 101, 116]⟩ : ByteArray), (⟨#[116, 104, 101, 116, 97]⟩ : ByteArray), (⟨#[100, 117, 109, 98, 98, 101, 108, 108]⟩ : ByteArray), (⟨#[116, 114, 105, 97, 110, 103, 108, 101]⟩ : ByteArray), (⟨#[115, 113, 117, 97, 114, 101]⟩ : ByteArray), (⟨#[112, 101, 110, 116, 97, 103, 111, 110]⟩ : ByteArray), (⟨#[115, 116, 97, 114]⟩ : ByteArray), (⟨#[100, 105, 97, 109, 111, 110, 100]⟩ : ByteArray), (⟨#[116, 101, 116, 114, 97, 104, 101, 100, 114, 111, 110]⟩ : ByteArray), (⟨#[112, 114, 105, 115, 109]⟩ : ByteArray), (⟨#[104, 111, 117, 115, 101, 115]⟩ : ByteArray)] : List ByteArray))
set_option maxHeartbeats 8000000 in
set_option maxRecDepth 100000 in
theorem spec_l01Names.calls  (r : List ByteArray) (w : World) (h : spec_l01Names.f  = some r) :
  Calls Try.prog 255 #[] w fun e w' => ∃ v0_ : Value, e = .returned (v0_) ∧ Kd.R Kd.string 9 w' w.heap.size (fun _ => True) v0_ r ∧ Below w.heap.size w w' := by
 have HB := m_ (Below.refl w.heap.size w)
 have H : (some (([(⟨#[112, 111, 105, 110, 116]⟩ : ByteArray), (⟨#[101, 100, 103, 101]⟩ : ByteArray), (⟨#[108, 111, 111, 112]⟩ : ByteArray), (⟨#[98, 111, 117, 113, 117, 101, 116]⟩ : ByteArray), (⟨#[116, 104, 101, 116, 97]⟩ : ByteArray), (⟨#[100, 117, 109, 98, 98, 101, 108, 108]⟩ : ByteArray), (⟨#[116, 114, 105, 97, 110, 103, 108, 101]⟩ : ByteArray), (⟨#[115, 113, 117, 97, 114, 101]⟩ : ByteArray), (⟨#[112, 101, 110, 116, 97, 103, 111, 110]⟩ : ByteArray), (⟨#[115, 116, 97, 114]⟩ : ByteArray), (⟨#[100, 105, 97, 109, 111, 110, 100]⟩ : ByteArray), (⟨#[116, 101, 116, 114, 97, 104, 101, 100, 114, 111, 110]⟩ : ByteArray), (⟨#[112, 114, 105, 115, 109]⟩ : ByteArray), (⟨#[104, 111, 117, 115, 101, 115]⟩ : ByteArray)] : List ByteArray))) = some r := h
 clear h
 obtain ⟨y226, Ny226, H⟩ : ∃ y226 : List ByteArray, Aside0 (y226 = (([(⟨#[112, 111, 105, 110, 116]⟩ : ByteArray), (⟨#[101, 100, 103, 101]⟩ : ByteArray), (⟨#[108, 111, 111, 112]⟩ : ByteArray), (⟨#[98, 111, 117, 113, 117, 101, 116]⟩ : ByteArray), (⟨#[116, 104, 101, 116, 97]⟩ : ByteArray), (⟨#[100, 117, 109, 98, 98, 101, 108, 108]⟩ : ByteArray), (⟨#[116, 114, 105, 97, 110, 103, 108, 101]⟩ : ByteArray), (⟨#[115, 113, 117, 97, 114, 101]⟩ : ByteArray), (⟨#[112, 101, 110, 116, 97, 103, 111, 110]⟩ : ByteArray), (⟨#[115, 116, 97, 114]⟩ : ByteArray), (⟨#[100, 105, 97, 109, 111, 110, 100]⟩ : ByteArray), (⟨#[116, 101, 116, 114, 97, 104, 101, 100, 114, 111, 110]⟩ : ByteArray), (⟨#[112, 114, 105, 115, 109]⟩ : ByteArray), (⟨#[104, 111, 117, 115, 101, 115]⟩ : ByteArray)] : List ByteArray))) ∧ (some y226) = some r := ⟨_, ⟨rfl⟩, H⟩
 obtain rfl := Option.some.inj H
 go_enter Try.func255, Try.ntmps255
 go_wp2_with (first | ((with_reducible refine gate_dst (N := 1) rfl ?_); refine Kd.R_lit Kd.string _ 9 ?hg (N := 1) ?hd (xs := ([(⟨#[112, 111, 105, 110, 116]⟩ : ByteArray), (⟨#[101, 100, 103, 101]⟩ : ByteArray), (⟨#[108, 111, 111, 112]⟩ : ByteArray), (⟨#[98, 111, 117, 113, 117, 101, 116]⟩ : ByteArray), (⟨#[116, 104, 101, 116, 97]⟩ : ByteArray), (⟨#[100, 117, 109, 98, 98, 101, 108, 108]⟩ : ByteArray), (⟨#[116, 114, 105, 97, 110, 103, 108, 101]⟩ : ByteArray), (⟨#[115, 113, 117, 97, 114, 101]⟩ : ByteArray), (⟨#[112, 101, 110, 116, 97, 103, 111, 110]⟩ : ByteArray), (⟨#[115, 116, 97, 114]⟩ : ByteArray), (⟨#[100, 105, 97, 109, 111, 110, 100]⟩ : ByteArray), (⟨#[116, 101, 116, 114, 97, 104, 101, 100, 114, 111, 110]⟩ : ByteArray), (⟨#[112, 114, 105, 115, 109]⟩ : ByteArray), (⟨#[104, 111, 117, 115, 101, 115]⟩ : ByteArray)] : List ByteArray)) (inner := [.string (⟨#[112, 111, 105, 110, 116]⟩ : ByteArray), .string (⟨#[101, 100, 103, 101]⟩ : ByteArray), .string (⟨#[108, 111, 111, 112]⟩ : ByteArray), .string (⟨#[98, 111, 117, 113, 117, 101, 116]⟩ : ByteArray), .string (⟨#[116, 104, 101, 116, 97]⟩ : ByteArray), .string (⟨#[100, 117, 109, 98, 98, 101, 108, 108]⟩ : ByteArray), .string (⟨#[116, 114, 105, 97, 110, 103, 108, 101]⟩ : ByteArray), .string (⟨#[115, 113, 117, 97, 114, 101]⟩ : ByteArray), .string (⟨#[112, 101, 110, 116, 97, 103, 111, 110]⟩ : ByteArray), .string (⟨#[115, 116, 97, 114]⟩ : ByteArray), .string (⟨#[100, 105, 97, 109, 111, 110, 100]⟩ : ByteArray), .string (⟨#[116, 101, 116, 114, 97, 104, 101, 100, 114, 111, 110]⟩ : ByteArray), .string (⟨#[112, 114, 105, 115, 109]⟩ : ByteArray), .string (⟨#[104, 111, 117, 115, 101, 115]⟩ : ByteArray)]) (ok := fun _ => True) (okp := fun _ => True) ?hr ?hp (fun _ hk => hk) trivial (Below.refl _ _) (Nat.le_refl _) (by simp) ?_; (case hd => rfl); (case hg => rfl); (case hr => first | (go_simp; done) | (go_simp; rfl)); (case hp => exact (Reps.one (show Kd.M Kd.string _ _ _ (⟨#[112, 111, 105, 110, 116]⟩ : ByteArray) [.string (⟨#[112, 111, 105, 110, 116]⟩ : ByteArray)] from rfl) (Reps.one (show Kd.M Kd.string _ _ _ (⟨#[101, 100, 103, 101]⟩ : ByteArray) [.string (⟨#[101, 100, 103, 101]⟩ : ByteArray)] from rfl) (Reps.one (show Kd.M Kd.string _ _ _ (⟨#[108, 111, 111, 112]⟩ : ByteArray) [.string (⟨#[108, 111, 111, 112]⟩ : ByteArray)] from rfl) (Reps.one (show Kd.M Kd.string _ _ _ (⟨#[98, 111, 117, 113, 117, 101, 116]⟩ : ByteArray) [.string (⟨#[98, 111, 117, 113, 117, 101, 116]⟩ : ByteArray)] from rfl) (Reps.one (show Kd.M Kd.string _ _ _ (⟨#[116, 104, 101, 116, 97]⟩ : ByteArray) [.string (⟨#[116, 104, 101, 116, 97]⟩ : ByteArray)] from rfl) (Reps.one (show Kd.M Kd.string _ _ _ (⟨#[100, 117, 109, 98, 98, 101, 108, 108]⟩ : ByteArray) [.string (⟨#[100, 117, 109, 98, 98, 101, 108, 108]⟩ : ByteArray)] from rfl) (Reps.one (show Kd.M Kd.string _ _ _ (⟨#[116, 114, 105, 97, 110, 103, 108, 101]⟩ : ByteArray) [.string (⟨#[116, 114, 105, 97, 110, 103, 108, 101]⟩ : ByteArray)] from rfl) (Reps.one (show Kd.M Kd.string _ _ _ (⟨#[115, 113, 117, 97, 114, 101]⟩ : ByteArray) [.string (⟨#[115, 113, 117, 97, 114, 101]⟩ : ByteArray)] from rfl) (Reps.one (show Kd.M Kd.string _ _ _ (⟨#[112, 101, 110, 116, 97, 103, 111, 110]⟩ : ByteArray) [.string (⟨#[112, 101, 110, 116, 97, 103, 111, 110]⟩ : ByteArray)] from rfl) (Reps.one (show Kd.M Kd.string _ _ _ (⟨#[115, 116, 97, 114]⟩ : ByteArray) [.string (⟨#[115, 116, 97, 114]⟩ : ByteArray)] from rfl) (Reps.one (show Kd.M Kd.string _ _ _ (⟨#[100, 105, 97, 109, 111, 110, 100]⟩ : ByteArray) [.string (⟨#[100, 105, 97, 109, 111, 110, 100]⟩ : ByteArray)] from rfl) (Reps.one (show Kd.M Kd.string _ _ _ (⟨#[116, 101, 116, 114, 97, 104, 101, 100, 114, 111, 110]⟩ : ByteArray) [.string (⟨#[116, 101, 116, 114, 97, 104, 101, 100, 114, 111, 110]⟩ : ByteArray)] from rfl) (Reps.one (show Kd.M Kd.string _ _ _ (⟨#[112, 114, 105, 115, 109]⟩ : ByteArray) [.string (⟨#[112, 114, 105, 115, 109]⟩ : ByteArray)] from rfl) (Reps.one (show Kd.M Kd.string _ _ _ (⟨#[104, 111, 117, 115, 101, 115]⟩ : ByteArray) [.string (⟨#[104, 111, 117, 115, 101, 115]⟩ : ByteArray)] from rfl) (Reps.none _ _)))))))))))))))); intro v227 w1 ho2 hb hg_ hnew_; clear hg_ hnew_; rw [← Ny226.out] at ho2; have HO228 := m_ (Kd.R_lower ho2 (below_size hb_)); replace HB := m_ (below_step hb_ hb); clear hb ho2))
 go_ret
 exact ⟨_, er_, (Kd.R_below HO228.out bgo_), hb_⟩

/-! ### spec_l01In: function 150 -/
def spec_l01In.f (a0 : Int) (a1 : Int) (a2 : Int) : Option (Bool) := if a0 ≥ a1 then (some (decide (a0 ≤ a2))) else (some false)
set_option maxHeartbeats 8000000 in
set_option maxRecDepth 100000 in
theorem spec_l01In.calls (a0 : Int) (a1 : Int) (a2 : Int) (r : Bool) (w : World) (h : spec_l01In.f a0 a1 a2 = some r) :
  Calls Try.prog 150 #[.int .i64 a0, .int .i64 a1, .int .i64 a2] w fun e w' => e = .returned (.bool r) ∧ Drawn0 w w' := by
 have H : (if a0 ≥ a1 then (some (decide (a0 ≤ a2))) else (some false)) = some r := h
 clear h
 by_cases c4 : a0 ≥ a1
 ·rw [if_pos c4] at H
  have c4b0 := decide_eq_true c4
  clear c4
  obtain rfl := Option.some.inj H
  go_enter Try.func150, Try.ntmps150
  go_wp2
  go_ret
  exact ⟨es_, by repeat (first | exact Drawn0.refl _ | apply Drawn0.step)⟩
 ·rw [if_neg c4] at H
  have c4b0 := decide_eq_false c4
  clear c4
  obtain rfl := Option.some.inj H
  go_enter Try.func150, Try.ntmps150
  go_wp2
  go_ret
  exact ⟨es_, by repeat (first | exact Drawn0.refl _ | apply Drawn0.step)⟩

/-! ### spec_l01Is: function 137 -/
mutual
def spec_l01Is.j0 : Nat → Bool → Int → List (List Int) → Option (Bool)
 | 0, _, _, _ => none
 | k + 1, x13, x230000, x230001 => if x13 = true then (some false) else (spec_l01Is.l0 k 0 x230000 x230001)
def spec_l01Is.l0 : Nat → Int → Int → List (List Int) → Option (Bool)
 | 0, _, _, _ => none
 | k + 1, x3, x230000, x230001 => if x3 < (x230001.length : Int) then (if 0 ≤ x3 then (if ((rd_L2 x230001 x3).length : Int) = 2 then (if 0 < ((rd_L2 x230001 x3).length : Int) then ((spec_l01In.f (rd (rd_L2 x230001 x3) 0) 0 (wrap64 (x230000 - 1))).bind fun t234 => (if t234 = true then (if 1 < ((rd_L2 x230001 x3).length : Int) then ((spec_l01In.f (rd (rd_L2 x230001 x3) 1) 0 (wrap64 (x230000 - 1))).bind fun t237 => (if t237 = true then (spec_l01Is.l0 k (wrap64 (x3 + 1)) x230000 x230001) else (some false))) else (none)) else (some false))) else (none)) else (some false)) else (none)) else (some true)
end
def spec_l01Is.f (k : Nat) (a0_0 : Int) (l0_1 : List (List Int)) : Option (Bool) := (spec_l01In.f a0_0 1 8).bind fun t230 => (if t230 = true then (spec_l01Is.j0 k (decide ((l0_1.length : Int) > 10)) a0_0 l0_1) else (spec_l01Is.j0 k true a0_0 l0_1))
def spec_l01Is.T6 : Bool × List (List Nat × List Nat) := (true, [([], []), ([0], [0]), ([], []), ([1, 2], [1, 2]), ([3], [3]), ([4], [4]), ([5], [5]), ([6], [6]), ([7], [7]), ([8, 7], [7, 8]), ([7], [7]), ([9, 10, 7], [7, 9, 10]), ([11, 7], [7, 11]), ([12, 7], [7, 12]), ([13, 7], [7, 13]), ([7], [7]), ([15, 7], [7, 15]), ([16, 7], [7, 16]), ([14, 17, 7, 7], [7, 14, 17]), ([18, 7], [7, 18]), ([7, 19], [7, 19]), ([20, 18], [20]), ([21], [21]), ([22, 21], [21, 22]), ([21], [21]), ([23, 24, 21], [21, 23, 24]), ([25, 21], [21, 25]), ([26, 21], [21, 26]), ([27, 21], [21, 27]), ([21], [21]), ([29, 21], [21, 29]), ([30, 21], [21, 30]), ([28, 31, 21, 21], [21, 28, 31]), ([32, 21], [21, 32]), ([21, 33], [21, 33])])
def spec_l01Is.B6 : List Nat := [0, 1, 0, 7, 15, 31, 63, 127, 255, 511, 255, 2047, 4095, 8191, 16383, 255, 33023, 98559, 262143, 524287, 1048575, 2097151, 4194303, 8388607, 4194303, 33554431, 67108863, 134217727, 268435455, 4194303, 541065215, 1614807039, 4294967295, 8589934591, 17179869183]
theorem spec_l01Is.tab6 : rtab .any (opsOf Try.f137 6) = spec_l01Is.T6 := by kernel_rfl
theorem spec_l01Is.bits6 : waitsOk spec_l01Is.T6.2 spec_l01Is.B6 = true := by kernel_rfl
set_option maxHeartbeats 8000000 in
set_option maxRecDepth 100000 in
theorem spec_l01Is.calls (k : Nat) (a0_0 : Int) (A0_1 : Option Addr) (c0_1 : Nat) (l0_1 : List (List Int)) (r : Bool) (w : World) (hr0_1 : Kd.C (Kd.slice 2 (Kd.int .i64)) w A0_1 l0_1.length l0_1) (hc0_1 : l0_1.length ≤ c0_1) (h : spec_l01Is.f k a0_0 l0_1 = some r) :
  Calls Try.prog 137 #[.agg #[.int .i64 a0_0, .slice A0_1 l0_1.length c0_1]] w fun e w' => e = .returned (.bool r) ∧ Below w.heap.size w w' := by
 have hu26 := Try.underlying26
 have HR0_1 := m_ hr0_1
 have HC0_1 := m_ hc0_1
 clear hr0_1 hc0_1
 have HB := m_ (Below.refl w.heap.size w)
 have H : ((spec_l01In.f a0_0 1 8).bind fun t230 => (if t230 = true then (spec_l01Is.j0 k (decide ((l0_1.length : Int) > 10)) a0_0 l0_1) else (spec_l01Is.j0 k true a0_0 l0_1))) = some r := h
 clear h
 have HC2 := m_ H
 clear H
 go_enter Try.func137, Try.ntmps137
 go_upto_region 1 with (first | ((with_reducible refine gate_dst (N := 1) rfl ?_); (try (refine gate_guard (by rfl) ?_; dsimp only)); refine bx_ (N := 1) (cs := #[.int .i64 a0_0, .slice A0_1 l0_1.length c0_1]) (t := 26) ?_; intro gb229 hg w3 hbox hb; have BK229 := m_ (hbox); have GW229 := m_ ((by rw [hg]; exact (below_size hb_) : w.heap.size ≤ gb229)); have GE229 := m_ ((by rw [hg]; exact (below_size hb_) : w.heap.size ≤ gb229)); replace HB := m_ (below_step hb_ hb); clear hb hbox hg))
 (try simp only [Act.put, List.setIfInBounds_toArray, List.set_cons_zero, List.set_cons_succ])
 go_cut [13] (fun v13 wc => ∃ (kq : Nat) (x13_1 : Bool), v13 = .bool x13_1 ∧ Aside0 (spec_l01Is.j0 kq x13_1 a0_0 l0_1 = some r) ∧ Aside0 (kq ≤ k) ∧ Aside0 (wc.heap[gb229]? = some (.cells #[.int .i64 a0_0, (.slice A0_1 l0_1.length c0_1)] 26 (0, 0))) ∧ Aside0 (Below w.heap.size w wc))
 case first =>
  have H := HC2.out
  clear HC2
  obtain ⟨t230, A4, H⟩ := bnd_ H
  by_cases c5 : t230 = true
  ·subst c5
   have H1 : (spec_l01Is.j0 k (decide ((l0_1.length : Int) > 10)) a0_0 l0_1) = some r := by rw [if_pos rfl] at H; exact H
   clear H
   have H := H1
   clear H1
   have H' := m_ H
   clear H
   have hcz6_0 := bc0_ BK229.out
   have hcz6_1 := bc1_ BK229.out
   have hfz6_0 := blk_frozen BK229.out 0
   have hfz6_1 := blk_frozen BK229.out 1
   go_wp2_with (first | ((with_reducible refine gate_callee (f := 150) rfl ?_); refine gl_ (some 6) Try.func150 #[.int .i64 a0_0, .int .i64 1, .int .i64 8] ?_; (with_reducible refine (spec_l01In.calls a0_0 1 8 true _ A4.out).mono ?_); rintro e w' ⟨rfl, ⟨nd, rfl⟩⟩; refine ⟨_, rfl, ?_⟩))
   go_meet
   case rel => exact ⟨_, (decide ((l0_1.length : Int) > 10)), es_, H', ⟨by first | omega | exact Nat.le_refl _⟩, ⟨blk_below BK229.out bgo_⟩, ⟨hbs_⟩⟩
  ·replace c5 := Bool.eq_false_iff.mpr c5
   subst c5
   have H1 : (spec_l01Is.j0 k true a0_0 l0_1) = some r := by rw [if_neg (show ¬ (false = true) by decide)] at H; exact H
   clear H
   have H := H1
   clear H1
   have H' := m_ H
   clear H
   have hcz7_0 := bc0_ BK229.out
   have hcz7_1 := bc1_ BK229.out
   have hfz7_0 := blk_frozen BK229.out 0
   have hfz7_1 := blk_frozen BK229.out 1
   go_wp2_with (first | ((with_reducible refine gate_callee (f := 150) rfl ?_); refine gl_ (some 6) Try.func150 #[.int .i64 a0_0, .int .i64 1, .int .i64 8] ?_; (with_reducible refine (spec_l01In.calls a0_0 1 8 false _ A4.out).mono ?_); rintro e w' ⟨rfl, ⟨nd, rfl⟩⟩; refine ⟨_, rfl, ?_⟩))
   go_meet
   case rel => exact ⟨_, (true), es_, H', ⟨by first | omega | exact Nat.le_refl _⟩, ⟨blk_below BK229.out bgo_⟩, ⟨hbs_⟩⟩
 case rest =>
  clear HC2
  obtain ⟨kq, x13_1, rfl, HA, HJ1, BK229, HB⟩ := hcut
  cases kq with
  | zero => exact absurd HA.out (by simp [spec_l01Is.j0])
  | succ kj1 =>
   have H := HA.out
   clear HA
   simp only [spec_l01Is.j0] at H
   by_cases c8 : x13_1 = true
   ·subst c8
    have H1 : (some false) = some r := by rw [if_pos rfl] at H; exact H
    clear H
    have H := H1
    clear H1
    obtain rfl := Option.some.inj H
    go_wp2
    go_ret
    exact ⟨er_, hbs_⟩
   ·replace c8 := Bool.eq_false_iff.mpr c8
    subst c8
    have H1 : (spec_l01Is.l0 kj1 0 a0_0 l0_1) = some r := by rw [if_neg (show ¬ (false = true) by decide)] at H; exact H
    clear H
    have H := H1
    clear H1
    have H' := m_ H
    clear H
    go_wp2
    go_loopg [3] kj1 (fun kq v3 w' => ∃ (x3_2 : Int), v3 = .int .i64 x3_2 ∧ Aside0 (spec_l01Is.l0 kq x3_2 a0_0 l0_1 = some r) ∧ Aside0 (kq ≤ kj1) ∧ Aside0 (w'.heap[gb229]? = some (.cells #[.int .i64 a0_0, (.slice A0_1 l0_1.length c0_1)] 26 (0, 0))) ∧ Aside0 (Below w.heap.size w w'))
    case atStart => exact ⟨(0), es_, H', ⟨Nat.le_refl _⟩, ⟨blk_below BK229.out bgo_⟩, ⟨hbs_⟩⟩
    case round =>
     clear H'
     obtain ⟨x3_2, rfl, HA, HK2, BK229, HB⟩ := hrel
     cases gk with
     | zero => exact absurd HA.out (by simp [spec_l01Is.l0])
     | succ k2 =>
      have H := HA.out
      clear HA
      simp only [spec_l01Is.l0] at H
      by_cases c9 : x3_2 < (l0_1.length : Int)
      ·rw [if_pos c9] at H
       have c9b0 := decide_eq_true c9
       clear c9
       obtain ⟨c10, H⟩ := itn_ H
       have c10b0 := decide_eq_true c10
       clear c10
       by_cases c11 : ((rd_L2 l0_1 x3_2).length : Int) = 2
       ·rw [if_pos c11] at H
        have c11b0 : (((rd_L2 l0_1 x3_2).length : Int) == 2) = true := beq_iff_eq.mpr c11
        have c11b1 : (((rd_L2 l0_1 x3_2).length : Int) != 2) = false := bne_eq_false_iff_eq.mpr c11
        clear c11
        obtain ⟨c12, H⟩ := itn_ H
        have c12b0 := decide_eq_true c12
        have c12b1 : decide (0 < (rd_L2 l0_1 x3_2).length) = true := decide_eq_true (by omega)
        clear c12
        obtain ⟨t234, A13, H⟩ := bnd_ H
        by_cases c14 : t234 = true
        ·subst c14
         have H1 : (if 1 < ((rd_L2 l0_1 x3_2).length : Int) then ((spec_l01In.f (rd (rd_L2 l0_1 x3_2) 1) 0 (wrap64 (a0_0 - 1))).bind fun t237 => (if t237 = true then (spec_l01Is.l0 k2 (wrap64 (x3_2 + 1)) a0_0 l0_1) else (some false))) else (none)) = some r := by rw [if_pos rfl] at H; exact H
         clear H
         have H := H1
         clear H1
         obtain ⟨c15, H⟩ := itn_ H
         have c15b0 := decide_eq_true c15
         have c15b1 : decide (1 < (rd_L2 l0_1 x3_2).length) = true := decide_eq_true (by omega)
         clear c15
         obtain ⟨t237, A16, H⟩ := bnd_ H
         by_cases c17 : t237 = true
         ·subst c17
          have H1 : (spec_l01Is.l0 k2 (wrap64 (x3_2 + 1)) a0_0 l0_1) = some r := by rw [if_pos rfl] at H; exact H
          clear H
          have H := H1
          clear H1
          have H' := m_ H
          clear H
          have hcz18_0 := bc0_ BK229.out
          have hcz18_1 := bc1_ BK229.out
          have hfz18_0 := blk_frozen BK229.out 0
          have hfz18_1 := blk_frozen BK229.out 1
          try go_wp2
          replace BK229 := m_ (blk_drew BK229.out)
          replace HB := m_ (below_drew1 HB.out)
          have p231 : 0 ≤ (x3_2 : Int) := od_
          have q231 : x3_2 < (l0_1.length : Int) := od_
          obtain ⟨ad231, A231_0, c231_0, e231, hx231_0, hl231_0, hi231_0⟩ := at_L2 HR0_1.out x3_2 p231 q231
          have hw231_0 := hx231_0
          cases e231
          (try replace hx231_0 := (HB.out.cell (World.block_lt_of_cell? w _ hx231_0)).trans hx231_0)
          have HR231_0 := m_ hi231_0
          have HC231_0 := m_ hl231_0
          clear hi231_0 hl231_0
          replace p231 := eq_true p231
          replace q231 := eq_true q231
          have p232 : 0 ≤ (x3_2 : Int) := od_
          have q232 : x3_2 < (l0_1.length : Int) := od_
          obtain ⟨ad232, A232_0, c232_0, e232, hx232_0, hl232_0, hi232_0⟩ := at_L2 HR0_1.out x3_2 p232 q232
          have hw232_0 := hx232_0
          obtain rfl : ad231 = ad232 := (by injection e232)
          (try replace hx232_0 := (HB.out.cell (World.block_lt_of_cell? w _ hx232_0)).trans hx232_0)
          have HR232_0 := m_ hi232_0
          have HC232_0 := m_ hl232_0
          clear hi232_0 hl232_0
          replace p232 := eq_true p232
          replace q232 := eq_true q232
          have ea_ := Option.some.inj (hx231_0.symm.trans hx232_0)
          injection ea_ with ea_ en_ ec_
          subst ea_
          subst ec_
          clear en_
          have p233 : 0 ≤ (0 : Int) := (by omega)
          have q233 : 0 < ((rd_L2 l0_1 x3_2).length : Int) := od_
          obtain ⟨ad233, e233, hx233_0⟩ := Kd.at_int HR232_0.out 0 p233 q233
          have hw233_0 := hx233_0
          (try rw [show ((0 : Int)).toNat = 0 from rfl] at hw233_0)
          (try rw [show 0 * 1 = 0 from rfl] at hw233_0)
          (try rw [Addr.add_zero'] at hw233_0)
          cases e233
          have qi233 : (0 < (rd_L2 l0_1 x3_2).length) = True := eq_true (by omega)
          (try rw [show ((0 : Int)).toNat = 0 from rfl] at hx233_0)
          (try rw [Addr.add_zero'] at hx233_0)
          (try replace hx233_0 := (HB.out.cell (World.block_lt_of_cell? w _ hx233_0)).trans hx233_0)
          replace p233 := eq_true p233
          replace q233 := eq_true q233
          have p235 : 0 ≤ (x3_2 : Int) := od_
          have q235 : x3_2 < (l0_1.length : Int) := od_
          obtain ⟨ad235, A235_0, c235_0, e235, hx235_0, hl235_0, hi235_0⟩ := at_L2 HR0_1.out x3_2 p235 q235
          have hw235_0 := hx235_0
          obtain rfl : ad231 = ad235 := (by injection e235)
          (try replace hx235_0 := (HB.out.cell (World.block_lt_of_cell? w _ hx235_0)).trans hx235_0)
          have HR235_0 := m_ hi235_0
          have HC235_0 := m_ hl235_0
          clear hi235_0 hl235_0
          replace p235 := eq_true p235
          replace q235 := eq_true q235
          have ea_ := Option.some.inj (hx231_0.symm.trans hx235_0)
          injection ea_ with ea_ en_ ec_
          subst ea_
          subst ec_
          clear en_
          have p236 : 0 ≤ (1 : Int) := (by omega)
          have q236 : 1 < ((rd_L2 l0_1 x3_2).length : Int) := od_
          obtain ⟨ad236, e236, hx236_0⟩ := Kd.at_int HR235_0.out 1 p236 q236
          have hw236_0 := hx236_0
          (try rw [show ((1 : Int)).toNat = 1 from rfl] at hw236_0)
          (try rw [show 1 * 1 = 1 from rfl] at hw236_0)
          (try simp only [Nat.reduceMul, Nat.reduceEqDiff, Go.Addr.add, ↓reduceIte] at hw236_0)
          obtain rfl : ad233 = ad236 := (by injection e236)
          (try simp only [show (1 : Int).toNat = 1 from rfl, Nat.reduceMul, Nat.reduceEqDiff, Go.Addr.add, ↓reduceIte] at hx236_0)
          have qi236 : (1 < (rd_L2 l0_1 x3_2).length) = True := eq_true (by omega)
          (try rw [show ((1 : Int)).toNat = 1 from rfl] at hx236_0)
          (try replace hx236_0 := (HB.out.cell (World.block_lt_of_cell? w _ hx236_0)).trans hx236_0)
          replace p236 := eq_true p236
          replace q236 := eq_true q236
          refine start_ (n := 35) (S := fun w' => w'.cell? ⟨gb229, 0, none⟩ = some (.int .i64 a0_0) ∧ w'.cell? ⟨gb229, 1, none⟩ = some (.slice (some ad231) l0_1.length c0_1) ∧ w'.cell? (ad231.add (x3_2).toNat) = some (.slice (some ad233) (rd_L2 l0_1 x3_2).length c231_0) ∧ w'.cell? (ad231.add (x3_2).toNat) = some (.slice (some ad233) (rd_L2 l0_1 x3_2).length c231_0) ∧ w'.cell? ad233 = some (.int .i64 (rd (rd_L2 l0_1 x3_2) 0)) ∧ w'.cell? (ad231.add (x3_2).toNat) = some (.slice (some ad233) (rd_L2 l0_1 x3_2).length c231_0) ∧ w'.cell? ⟨ad233.block, ad233.off + 1, none⟩ = some (.int .i64 (rd (rd_L2 l0_1 x3_2) 1))) (ds := []) #[false, false, false, false, false, false, false, false, false, false, false, false, false, false, false, false, false, false, false, false, false, false, false, false, false, false, false, false, false, false, false, false, false, false, false] (by kernel_rfl) rfl rfl ⟨bc0_ BK229.out, bc1_ BK229.out, ((HB.out.cell (World.block_lt_of_cell? _ _ hw231_0)).trans hw231_0), ((HB.out.cell (World.block_lt_of_cell? _ _ hw232_0)).trans hw232_0), ((HB.out.cell (World.block_lt_of_cell? _ _ hw233_0)).trans hw233_0), ((HB.out.cell (World.block_lt_of_cell? _ _ hw235_0)).trans hw235_0), ((HB.out.cell (World.block_lt_of_cell? _ _ hw236_0)).trans hw236_0)⟩ (fun hHeld => ?_); refine with_tabW spec_l01Is.tab6 spec_l01Is.bits6 (fun HT_ HW_ => ?_)
          generalize wr.drew = w19 at BK229 HB HR231_0 HR232_0 HR235_0 hx231_0 hx232_0 hx233_0 hx235_0 hx236_0 hHeld ⊢
          refine pk_ 0 35 21 1 ?_
          refine pk_ 2 35 23 5 ?_
          refine tk_ 1 35 22 7 hHeld ?_
          refine pk_ 3 35 24 15 ?_
          refine tk_ 4 35 25 31 hHeld ?_
          refine pk_ 5 35 26 63 ?_
          refine pk_ 6 35 27 127 ?_
          refine pk_ 7 35 28 255 ?_
          refine pk_ 8 35 29 511 ?_
          refine pk_ 10 35 31 1535 ?_
          refine pk_ 15 35 36 34303 ?_
          refine tk_ 9 35 30 34815 hHeld ?_
          refine pk_ 11 35 32 36863 ?_
          refine tk_ 12 35 33 40959 hHeld ?_
          refine pk_ 13 35 34 49151 ?_
          refine tk_ 14 35 35 65535 hHeld ?_
          refine tk_ 16 35 37 131071 hHeld ?_
          refine pk_ 17 35 38 262143 ?_
          refine on_ 18 35 (some 39) 524287 (fun K hK => ?_)
          refine goes_ Try.func150 (by kernel_rfl) rfl #[.int .i64 (rd (rd_L2 l0_1 x3_2) 0), .int .i64 0, .int .i64 (wrap64 (a0_0 - 1))] (by rfl) rfl rfl arg_ ?_
          with_reducible refine (spec_l01In.calls (rd (rd_L2 l0_1 x3_2) 0) 0 (wrap64 (a0_0 - 1)) true _ A13.out).mono ?_
          rintro e w' ⟨rfl, ⟨nd, rfl⟩⟩
          refine ⟨_, rfl, ?_⟩
          refine hK.out _ _ ⟨bc0_ BK229.out, bc1_ BK229.out, ((HB.out.cell (World.block_lt_of_cell? _ _ hw231_0)).trans hw231_0), ((HB.out.cell (World.block_lt_of_cell? _ _ hw232_0)).trans hw232_0), ((HB.out.cell (World.block_lt_of_cell? _ _ hw233_0)).trans hw233_0), ((HB.out.cell (World.block_lt_of_cell? _ _ hw235_0)).trans hw235_0), ((HB.out.cell (World.block_lt_of_cell? _ _ hw236_0)).trans hw236_0)⟩ (fun hHeld => ?_)
          clear hK K
          refine nm_ ?_
          refine pk_ 19 35 40 1048575 ?_
          refine pk_ 20 35 41 2097151 ?_
          refine pk_ 21 35 42 4194303 ?_
          refine pk_ 22 35 43 8388607 ?_
          refine pk_ 24 35 45 25165823 ?_
          refine pk_ 29 35 50 562036735 ?_
          refine tk_ 23 35 44 570425343 hHeld ?_
          refine pk_ 25 35 46 603979775 ?_
          refine tk_ 26 35 47 671088639 hHeld ?_
          refine pk_ 27 35 48 805306367 ?_
          refine tk_ 28 35 49 1073741823 hHeld ?_
          refine tk_ 30 35 51 2147483647 hHeld ?_
          refine pk_ 31 35 52 4294967295 ?_
          refine on_ 32 35 (some 53) 8589934591 (fun K hK => ?_)
          refine goes_ Try.func150 (by kernel_rfl) rfl #[.int .i64 (rd (rd_L2 l0_1 x3_2) 1), .int .i64 0, .int .i64 (wrap64 (a0_0 - 1))] (by rfl) rfl rfl arg_ ?_
          with_reducible refine (spec_l01In.calls (rd (rd_L2 l0_1 x3_2) 1) 0 (wrap64 (a0_0 - 1)) true _ A16.out).mono ?_
          rintro e w' ⟨rfl, ⟨nd, rfl⟩⟩
          refine ⟨_, rfl, ?_⟩
          refine hK.out _ _ ⟨bc0_ BK229.out, bc1_ BK229.out, ((HB.out.cell (World.block_lt_of_cell? _ _ hw231_0)).trans hw231_0), ((HB.out.cell (World.block_lt_of_cell? _ _ hw232_0)).trans hw232_0), ((HB.out.cell (World.block_lt_of_cell? _ _ hw233_0)).trans hw233_0), ((HB.out.cell (World.block_lt_of_cell? _ _ hw235_0)).trans hw235_0), ((HB.out.cell (World.block_lt_of_cell? _ _ hw236_0)).trans hw236_0)⟩ (fun hHeld => ?_)
          clear hK K
          refine nm_ ?_
          refine pk_ 33 35 54 17179869183 ?_
          refine pk_ 34 35 55 34359738367 ?_
          refine done_ (done_of HT_.out (by kernel_rfl)) ?_
          try go_wp2
          go_roundg k2
          case measure => have := HJ1.out; have := HK2.out; omega
          case rel => exact ⟨(wrap64 (x3_2 + 1)), es_, H', ⟨by have := HJ1.out; have := HK2.out; omega⟩, ⟨blk_below BK229.out bgo_⟩, ⟨hbs_⟩⟩
         ·replace c17 := Bool.eq_false_iff.mpr c17
          subst c17
          have H1 : (some false) = some r := by rw [if_neg (show ¬ (false = true) by decide)] at H; exact H
          clear H
          have H := H1
          clear H1
          obtain rfl := Option.some.inj H
          have hcz20_0 := bc0_ BK229.out
          have hcz20_1 := bc1_ BK229.out
          have hfz20_0 := blk_frozen BK229.out 0
          have hfz20_1 := blk_frozen BK229.out 1
          try go_wp2
          replace BK229 := m_ (blk_drew BK229.out)
          replace HB := m_ (below_drew1 HB.out)
          have p231 : 0 ≤ (x3_2 : Int) := od_
          have q231 : x3_2 < (l0_1.length : Int) := od_
          obtain ⟨ad231, A231_0, c231_0, e231, hx231_0, hl231_0, hi231_0⟩ := at_L2 HR0_1.out x3_2 p231 q231
          have hw231_0 := hx231_0
          cases e231
          (try replace hx231_0 := (HB.out.cell (World.block_lt_of_cell? w _ hx231_0)).trans hx231_0)
          have HR231_0 := m_ hi231_0
          have HC231_0 := m_ hl231_0
          clear hi231_0 hl231_0
          replace p231 := eq_true p231
          replace q231 := eq_true q231
          have p232 : 0 ≤ (x3_2 : Int) := od_
          have q232 : x3_2 < (l0_1.length : Int) := od_
          obtain ⟨ad232, A232_0, c232_0, e232, hx232_0, hl232_0, hi232_0⟩ := at_L2 HR0_1.out x3_2 p232 q232
          have hw232_0 := hx232_0
          obtain rfl : ad231 = ad232 := (by injection e232)
          (try replace hx232_0 := (HB.out.cell (World.block_lt_of_cell? w _ hx232_0)).trans hx232_0)
          have HR232_0 := m_ hi232_0
          have HC232_0 := m_ hl232_0
          clear hi232_0 hl232_0
          replace p232 := eq_true p232
          replace q232 := eq_true q232
          have ea_ := Option.some.inj (hx231_0.symm.trans hx232_0)
          injection ea_ with ea_ en_ ec_
          subst ea_
          subst ec_
          clear en_
          have p233 : 0 ≤ (0 : Int) := (by omega)
          have q233 : 0 < ((rd_L2 l0_1 x3_2).length : Int) := od_
          obtain ⟨ad233, e233, hx233_0⟩ := Kd.at_int HR232_0.out 0 p233 q233
          have hw233_0 := hx233_0
          (try rw [show ((0 : Int)).toNat = 0 from rfl] at hw233_0)
          (try rw [show 0 * 1 = 0 from rfl] at hw233_0)
          (try rw [Addr.add_zero'] at hw233_0)
          cases e233
          have qi233 : (0 < (rd_L2 l0_1 x3_2).length) = True := eq_true (by omega)
          (try rw [show ((0 : Int)).toNat = 0 from rfl] at hx233_0)
          (try rw [Addr.add_zero'] at hx233_0)
          (try replace hx233_0 := (HB.out.cell (World.block_lt_of_cell? w _ hx233_0)).trans hx233_0)
          replace p233 := eq_true p233
          replace q233 := eq_true q233
          have p235 : 0 ≤ (x3_2 : Int) := od_
          have q235 : x3_2 < (l0_1.length : Int) := od_
          obtain ⟨ad235, A235_0, c235_0, e235, hx235_0, hl235_0, hi235_0⟩ := at_L2 HR0_1.out x3_2 p235 q235
          have hw235_0 := hx235_0
          obtain rfl : ad231 = ad235 := (by injection e235)
          (try replace hx235_0 := (HB.out.cell (World.block_lt_of_cell? w _ hx235_0)).trans hx235_0)
          have HR235_0 := m_ hi235_0
          have HC235_0 := m_ hl235_0
          clear hi235_0 hl235_0
          replace p235 := eq_true p235
          replace q235 := eq_true q235
          have ea_ := Option.some.inj (hx231_0.symm.trans hx235_0)
          injection ea_ with ea_ en_ ec_
          subst ea_
          subst ec_
          clear en_
          have p236 : 0 ≤ (1 : Int) := (by omega)
          have q236 : 1 < ((rd_L2 l0_1 x3_2).length : Int) := od_
          obtain ⟨ad236, e236, hx236_0⟩ := Kd.at_int HR235_0.out 1 p236 q236
          have hw236_0 := hx236_0
          (try rw [show ((1 : Int)).toNat = 1 from rfl] at hw236_0)
          (try rw [show 1 * 1 = 1 from rfl] at hw236_0)
          (try simp only [Nat.reduceMul, Nat.reduceEqDiff, Go.Addr.add, ↓reduceIte] at hw236_0)
          obtain rfl : ad233 = ad236 := (by injection e236)
          (try simp only [show (1 : Int).toNat = 1 from rfl, Nat.reduceMul, Nat.reduceEqDiff, Go.Addr.add, ↓reduceIte] at hx236_0)
          have qi236 : (1 < (rd_L2 l0_1 x3_2).length) = True := eq_true (by omega)
          (try rw [show ((1 : Int)).toNat = 1 from rfl] at hx236_0)
          (try replace hx236_0 := (HB.out.cell (World.block_lt_of_cell? w _ hx236_0)).trans hx236_0)
          replace p236 := eq_true p236
          replace q236 := eq_true q236
          refine start_ (n := 35) (S := fun w' => w'.cell? ⟨gb229, 0, none⟩ = some (.int .i64 a0_0) ∧ w'.cell? ⟨gb229, 1, none⟩ = some (.slice (some ad231) l0_1.length c0_1) ∧ w'.cell? (ad231.add (x3_2).toNat) = some (.slice (some ad233) (rd_L2 l0_1 x3_2).length c231_0) ∧ w'.cell? (ad231.add (x3_2).toNat) = some (.slice (some ad233) (rd_L2 l0_1 x3_2).length c231_0) ∧ w'.cell? ad233 = some (.int .i64 (rd (rd_L2 l0_1 x3_2) 0)) ∧ w'.cell? (ad231.add (x3_2).toNat) = some (.slice (some ad233) (rd_L2 l0_1 x3_2).length c231_0) ∧ w'.cell? ⟨ad233.block, ad233.off + 1, none⟩ = some (.int .i64 (rd (rd_L2 l0_1 x3_2) 1))) (ds := []) #[false, false, false, false, false, false, false, false, false, false, false, false, false, false, false, false, false, false, false, false, false, false, false, false, false, false, false, false, false, false, false, false, false, false, false] (by kernel_rfl) rfl rfl ⟨bc0_ BK229.out, bc1_ BK229.out, ((HB.out.cell (World.block_lt_of_cell? _ _ hw231_0)).trans hw231_0), ((HB.out.cell (World.block_lt_of_cell? _ _ hw232_0)).trans hw232_0), ((HB.out.cell (World.block_lt_of_cell? _ _ hw233_0)).trans hw233_0), ((HB.out.cell (World.block_lt_of_cell? _ _ hw235_0)).trans hw235_0), ((HB.out.cell (World.block_lt_of_cell? _ _ hw236_0)).trans hw236_0)⟩ (fun hHeld => ?_); refine with_tabW spec_l01Is.tab6 spec_l01Is.bits6 (fun HT_ HW_ => ?_)
          generalize wr.drew = w21 at BK229 HB HR231_0 HR232_0 HR235_0 hx231_0 hx232_0 hx233_0 hx235_0 hx236_0 hHeld ⊢
          refine pk_ 0 35 21 1 ?_
          refine pk_ 2 35 23 5 ?_
          refine tk_ 1 35 22 7 hHeld ?_
          refine pk_ 3 35 24 15 ?_
          refine tk_ 4 35 25 31 hHeld ?_
          refine pk_ 5 35 26 63 ?_
          refine pk_ 6 35 27 127 ?_
          refine pk_ 7 35 28 255 ?_
          refine pk_ 8 35 29 511 ?_
          refine pk_ 10 35 31 1535 ?_
          refine pk_ 15 35 36 34303 ?_
          refine tk_ 9 35 30 34815 hHeld ?_
          refine pk_ 11 35 32 36863 ?_
          refine tk_ 12 35 33 40959 hHeld ?_
          refine pk_ 13 35 34 49151 ?_
          refine tk_ 14 35 35 65535 hHeld ?_
          refine tk_ 16 35 37 131071 hHeld ?_
          refine pk_ 17 35 38 262143 ?_
          refine on_ 18 35 (some 39) 524287 (fun K hK => ?_)
          refine goes_ Try.func150 (by kernel_rfl) rfl #[.int .i64 (rd (rd_L2 l0_1 x3_2) 0), .int .i64 0, .int .i64 (wrap64 (a0_0 - 1))] (by rfl) rfl rfl arg_ ?_
          with_reducible refine (spec_l01In.calls (rd (rd_L2 l0_1 x3_2) 0) 0 (wrap64 (a0_0 - 1)) true _ A13.out).mono ?_
          rintro e w' ⟨rfl, ⟨nd, rfl⟩⟩
          refine ⟨_, rfl, ?_⟩
          refine hK.out _ _ ⟨bc0_ BK229.out, bc1_ BK229.out, ((HB.out.cell (World.block_lt_of_cell? _ _ hw231_0)).trans hw231_0), ((HB.out.cell (World.block_lt_of_cell? _ _ hw232_0)).trans hw232_0), ((HB.out.cell (World.block_lt_of_cell? _ _ hw233_0)).trans hw233_0), ((HB.out.cell (World.block_lt_of_cell? _ _ hw235_0)).trans hw235_0), ((HB.out.cell (World.block_lt_of_cell? _ _ hw236_0)).trans hw236_0)⟩ (fun hHeld => ?_)
          clear hK K
          refine nm_ ?_
          refine pk_ 19 35 40 1048575 ?_
          refine pk_ 20 35 41 2097151 ?_
          refine pk_ 21 35 42 4194303 ?_
          refine pk_ 22 35 43 8388607 ?_
          refine pk_ 24 35 45 25165823 ?_
          refine pk_ 29 35 50 562036735 ?_
          refine tk_ 23 35 44 570425343 hHeld ?_
          refine pk_ 25 35 46 603979775 ?_
          refine tk_ 26 35 47 671088639 hHeld ?_
          refine pk_ 27 35 48 805306367 ?_
          refine tk_ 28 35 49 1073741823 hHeld ?_
          refine tk_ 30 35 51 2147483647 hHeld ?_
          refine pk_ 31 35 52 4294967295 ?_
          refine on_ 32 35 (some 53) 8589934591 (fun K hK => ?_)
          refine goes_ Try.func150 (by kernel_rfl) rfl #[.int .i64 (rd (rd_L2 l0_1 x3_2) 1), .int .i64 0, .int .i64 (wrap64 (a0_0 - 1))] (by rfl) rfl rfl arg_ ?_
          with_reducible refine (spec_l01In.calls (rd (rd_L2 l0_1 x3_2) 1) 0 (wrap64 (a0_0 - 1)) false _ A16.out).mono ?_
          rintro e w' ⟨rfl, ⟨nd, rfl⟩⟩
          refine ⟨_, rfl, ?_⟩
          refine hK.out _ _ ⟨bc0_ BK229.out, bc1_ BK229.out, ((HB.out.cell (World.block_lt_of_cell? _ _ hw231_0)).trans hw231_0), ((HB.out.cell (World.block_lt_of_cell? _ _ hw232_0)).trans hw232_0), ((HB.out.cell (World.block_lt_of_cell? _ _ hw233_0)).trans hw233_0), ((HB.out.cell (World.block_lt_of_cell? _ _ hw235_0)).trans hw235_0), ((HB.out.cell (World.block_lt_of_cell? _ _ hw236_0)).trans hw236_0)⟩ (fun hHeld => ?_)
          clear hK K
          refine nm_ ?_
          refine pk_ 33 35 54 17179869183 ?_
          refine pk_ 34 35 55 34359738367 ?_
          refine done_ (done_of HT_.out (by kernel_rfl)) ?_
          try go_wp2
          go_ret
          exact ⟨er_, hbs_⟩
        ·replace c14 := Bool.eq_false_iff.mpr c14
         subst c14
         have H1 : (some false) = some r := by rw [if_neg (show ¬ (false = true) by decide)] at H; exact H
         clear H
         have H := H1
         clear H1
         obtain rfl := Option.some.inj H
         have hcz22_0 := bc0_ BK229.out
         have hcz22_1 := bc1_ BK229.out
         have hfz22_0 := blk_frozen BK229.out 0
         have hfz22_1 := blk_frozen BK229.out 1
         try go_wp2
         replace BK229 := m_ (blk_drew BK229.out)
         replace HB := m_ (below_drew1 HB.out)
         have p231 : 0 ≤ (x3_2 : Int) := od_
         have q231 : x3_2 < (l0_1.length : Int) := od_
         obtain ⟨ad231, A231_0, c231_0, e231, hx231_0, hl231_0, hi231_0⟩ := at_L2 HR0_1.out x3_2 p231 q231
         have hw231_0 := hx231_0
         cases e231
         (try replace hx231_0 := (HB.out.cell (World.block_lt_of_cell? w _ hx231_0)).trans hx231_0)
         have HR231_0 := m_ hi231_0
         have HC231_0 := m_ hl231_0
         clear hi231_0 hl231_0
         replace p231 := eq_true p231
         replace q231 := eq_true q231
         have p232 : 0 ≤ (x3_2 : Int) := od_
         have q232 : x3_2 < (l0_1.length : Int) := od_
         obtain ⟨ad232, A232_0, c232_0, e232, hx232_0, hl232_0, hi232_0⟩ := at_L2 HR0_1.out x3_2 p232 q232
         have hw232_0 := hx232_0
         obtain rfl : ad231 = ad232 := (by injection e232)
         (try replace hx232_0 := (HB.out.cell (World.block_lt_of_cell? w _ hx232_0)).trans hx232_0)
         have HR232_0 := m_ hi232_0
         have HC232_0 := m_ hl232_0
         clear hi232_0 hl232_0
         replace p232 := eq_true p232
         replace q232 := eq_true q232
         have ea_ := Option.some.inj (hx231_0.symm.trans hx232_0)
         injection ea_ with ea_ en_ ec_
         subst ea_
         subst ec_
         clear en_
         have p233 : 0 ≤ (0 : Int) := (by omega)
         have q233 : 0 < ((rd_L2 l0_1 x3_2).length : Int) := od_
         obtain ⟨ad233, e233, hx233_0⟩ := Kd.at_int HR232_0.out 0 p233 q233
         have hw233_0 := hx233_0
         (try rw [show ((0 : Int)).toNat = 0 from rfl] at hw233_0)
         (try rw [show 0 * 1 = 0 from rfl] at hw233_0)
         (try rw [Addr.add_zero'] at hw233_0)
         cases e233
         have qi233 : (0 < (rd_L2 l0_1 x3_2).length) = True := eq_true (by omega)
         (try rw [show ((0 : Int)).toNat = 0 from rfl] at hx233_0)
         (try rw [Addr.add_zero'] at hx233_0)
         (try replace hx233_0 := (HB.out.cell (World.block_lt_of_cell? w _ hx233_0)).trans hx233_0)
         replace p233 := eq_true p233
         replace q233 := eq_true q233
         refine start_ (n := 35) (S := fun w' => w'.cell? ⟨gb229, 0, none⟩ = some (.int .i64 a0_0) ∧ w'.cell? ⟨gb229, 1, none⟩ = some (.slice (some ad231) l0_1.length c0_1) ∧ w'.cell? (ad231.add (x3_2).toNat) = some (.slice (some ad233) (rd_L2 l0_1 x3_2).length c231_0) ∧ w'.cell? (ad231.add (x3_2).toNat) = some (.slice (some ad233) (rd_L2 l0_1 x3_2).length c231_0) ∧ w'.cell? ad233 = some (.int .i64 (rd (rd_L2 l0_1 x3_2) 0))) (ds := []) #[false, false, false, false, false, false, false, false, false, false, false, false, false, false, false, false, false, false, false, false, false, false, false, false, false, false, false, false, false, false, false, false, false, false, false] (by kernel_rfl) rfl rfl ⟨bc0_ BK229.out, bc1_ BK229.out, ((HB.out.cell (World.block_lt_of_cell? _ _ hw231_0)).trans hw231_0), ((HB.out.cell (World.block_lt_of_cell? _ _ hw232_0)).trans hw232_0), ((HB.out.cell (World.block_lt_of_cell? _ _ hw233_0)).trans hw233_0)⟩ (fun hHeld => ?_); refine with_tabW spec_l01Is.tab6 spec_l01Is.bits6 (fun HT_ HW_ => ?_)
         generalize wr.drew = w23 at BK229 HB HR231_0 HR232_0 hx231_0 hx232_0 hx233_0 hHeld ⊢
         refine pk_ 0 35 21 1 ?_
         refine pk_ 2 35 23 5 ?_
         refine tk_ 1 35 22 7 hHeld ?_
         refine pk_ 3 35 24 15 ?_
         refine tk_ 4 35 25 31 hHeld ?_
         refine pk_ 5 35 26 63 ?_
         refine pk_ 6 35 27 127 ?_
         refine pk_ 7 35 28 255 ?_
         refine pk_ 8 35 29 511 ?_
         refine pk_ 10 35 31 1535 ?_
         refine pk_ 15 35 36 34303 ?_
         refine tk_ 9 35 30 34815 hHeld ?_
         refine pk_ 11 35 32 36863 ?_
         refine tk_ 12 35 33 40959 hHeld ?_
         refine pk_ 13 35 34 49151 ?_
         refine tk_ 14 35 35 65535 hHeld ?_
         refine tk_ 16 35 37 131071 hHeld ?_
         refine pk_ 17 35 38 262143 ?_
         refine on_ 18 35 (some 39) 524287 (fun K hK => ?_)
         refine goes_ Try.func150 (by kernel_rfl) rfl #[.int .i64 (rd (rd_L2 l0_1 x3_2) 0), .int .i64 0, .int .i64 (wrap64 (a0_0 - 1))] (by rfl) rfl rfl arg_ ?_
         with_reducible refine (spec_l01In.calls (rd (rd_L2 l0_1 x3_2) 0) 0 (wrap64 (a0_0 - 1)) false _ A13.out).mono ?_
         rintro e w' ⟨rfl, ⟨nd, rfl⟩⟩
         refine ⟨_, rfl, ?_⟩
         refine hK.out _ _ ⟨bc0_ BK229.out, bc1_ BK229.out, ((HB.out.cell (World.block_lt_of_cell? _ _ hw231_0)).trans hw231_0), ((HB.out.cell (World.block_lt_of_cell? _ _ hw232_0)).trans hw232_0), ((HB.out.cell (World.block_lt_of_cell? _ _ hw233_0)).trans hw233_0)⟩ (fun hHeld => ?_)
         clear hK K
         refine nm_ ?_
         refine pk_ 19 35 40 1048575 ?_
         refine pk_ 20 35 41 2097151 ?_
         refine pk_ 21 35 42 4194303 ?_
         refine pu_ 22 35 43 8388607 ?_
         refine pu_ 23 35 44 16777215 ?_
         refine pu_ 24 35 45 33554431 ?_
         refine pu_ 25 35 46 67108863 ?_
         refine pu_ 26 35 47 134217727 ?_
         refine pu_ 27 35 48 268435455 ?_
         refine pu_ 28 35 49 536870911 ?_
         refine pu_ 29 35 50 1073741823 ?_
         refine pu_ 30 35 51 2147483647 ?_
         refine pu_ 31 35 52 4294967295 ?_
         refine pu_ 32 35 53 8589934591 ?_
         refine pu_ 33 35 54 17179869183 ?_
         refine pk_ 34 35 55 34359738367 ?_
         refine done_ (done_of HT_.out (by kernel_rfl)) ?_
         try go_wp2
         go_ret
         exact ⟨er_, hbs_⟩
       ·rw [if_neg c11] at H
        have c11b0 : (((rd_L2 l0_1 x3_2).length : Int) == 2) = false := beq_eq_false_iff_ne.mpr c11
        have c11b1 : (((rd_L2 l0_1 x3_2).length : Int) != 2) = true := bne_iff_ne.mpr c11
        obtain rfl := Option.some.inj H
        have hcz24_0 := bc0_ BK229.out
        have hcz24_1 := bc1_ BK229.out
        have hfz24_0 := blk_frozen BK229.out 0
        have hfz24_1 := blk_frozen BK229.out 1
        try go_wp2
        replace BK229 := m_ (blk_drew BK229.out)
        replace HB := m_ (below_drew1 HB.out)
        have p231 : 0 ≤ (x3_2 : Int) := od_
        have q231 : x3_2 < (l0_1.length : Int) := od_
        obtain ⟨ad231, A231_0, c231_0, e231, hx231_0, hl231_0, hi231_0⟩ := at_L2 HR0_1.out x3_2 p231 q231
        have hw231_0 := hx231_0
        cases e231
        (try replace hx231_0 := (HB.out.cell (World.block_lt_of_cell? w _ hx231_0)).trans hx231_0)
        have HR231_0 := m_ hi231_0
        have HC231_0 := m_ hl231_0
        clear hi231_0 hl231_0
        replace p231 := eq_true p231
        replace q231 := eq_true q231
        refine start_ (n := 35) (S := fun w' => w'.cell? ⟨gb229, 0, none⟩ = some (.int .i64 a0_0) ∧ w'.cell? ⟨gb229, 1, none⟩ = some (.slice (some ad231) l0_1.length c0_1) ∧ w'.cell? (ad231.add (x3_2).toNat) = some (.slice A231_0 (rd_L2 l0_1 x3_2).length c231_0)) (ds := []) #[false, false, false, false, false, false, false, false, false, false, false, false, false, false, false, false, false, false, false, false, false, false, false, false, false, false, false, false, false, false, false, false, false, false, false] (by kernel_rfl) rfl rfl ⟨bc0_ BK229.out, bc1_ BK229.out, ((HB.out.cell (World.block_lt_of_cell? _ _ hw231_0)).trans hw231_0)⟩ (fun hHeld => ?_); refine with_tabW spec_l01Is.tab6 spec_l01Is.bits6 (fun HT_ HW_ => ?_)
        generalize wr.drew = w25 at BK229 HB HR231_0 hx231_0 hHeld ⊢
        refine pk_ 0 35 21 1 ?_
        refine pk_ 2 35 23 5 ?_
        refine tk_ 1 35 22 7 hHeld ?_
        refine pk_ 3 35 24 15 ?_
        refine tk_ 4 35 25 31 hHeld ?_
        refine pk_ 5 35 26 63 ?_
        refine pk_ 6 35 27 127 ?_
        refine pk_ 7 35 28 255 ?_
        refine pu_ 8 35 29 511 ?_
        refine pu_ 9 35 30 1023 ?_
        refine pu_ 10 35 31 2047 ?_
        refine pu_ 11 35 32 4095 ?_
        refine pu_ 12 35 33 8191 ?_
        refine pu_ 13 35 34 16383 ?_
        refine pu_ 14 35 35 32767 ?_
        refine pu_ 15 35 36 65535 ?_
        refine pu_ 16 35 37 131071 ?_
        refine pu_ 17 35 38 262143 ?_
        refine pu_ 18 35 39 524287 ?_
        refine pu_ 19 35 40 1048575 ?_
        refine pk_ 20 35 41 2097151 ?_
        refine pk_ 21 35 42 4194303 ?_
        refine pu_ 22 35 43 8388607 ?_
        refine pu_ 23 35 44 16777215 ?_
        refine pu_ 24 35 45 33554431 ?_
        refine pu_ 25 35 46 67108863 ?_
        refine pu_ 26 35 47 134217727 ?_
        refine pu_ 27 35 48 268435455 ?_
        refine pu_ 28 35 49 536870911 ?_
        refine pu_ 29 35 50 1073741823 ?_
        refine pu_ 30 35 51 2147483647 ?_
        refine pu_ 31 35 52 4294967295 ?_
        refine pu_ 32 35 53 8589934591 ?_
        refine pu_ 33 35 54 17179869183 ?_
        refine pk_ 34 35 55 34359738367 ?_
        refine done_ (done_of HT_.out (by kernel_rfl)) ?_
        try go_wp2
        go_ret
        exact ⟨er_, hbs_⟩
      ·rw [if_neg c9] at H
       have c9b0 := decide_eq_false c9
       clear c9
       obtain rfl := Option.some.inj H
       have hcz26_0 := bc0_ BK229.out
       have hcz26_1 := bc1_ BK229.out
       have hfz26_0 := blk_frozen BK229.out 0
       have hfz26_1 := blk_frozen BK229.out 1
       go_wp2
       go_ret
       exact ⟨er_, hbs_⟩

end Go.Proofs.Ytkadhadceongiaa.G
