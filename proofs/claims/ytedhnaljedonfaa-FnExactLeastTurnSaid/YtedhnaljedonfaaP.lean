/- The plain proofs for this law. -/
import Derived.Test.YtedhnaljedonfaaC4
import Derived.Test.YtedhnaljedonfaaAux
namespace Go.Proofs.Ytedhnaljedonfaa.Pure
open Go.RowKit Go.Proofs.Ytedhnaljedonfaa.G Go.Proofs.YtedhnaljedonfaaW.PrintWords Go.Proofs.YtedhnaljedonfaaW.PrintLast Go.Proofs.YtedhnaljedonfaaW.PrintMore Go.Proofs.Ytedhnaljedonfaa.Aux
set_option linter.unusedVariables false
set_option linter.unusedSimpArgs false

theorem toInt64S_loop (l : List Int) (hl : l.length ≤ 1048576) : ∀ (d i : Nat) (ys : List Int), i + d = l.length → ys.length = l.length → ys.take i = l.take i →
  Ev (fun k => laws_toInt64S.l0 k l ys (i : Int)) l := by
 intro d
 induction d with
 | zero =>
  intro i ys hi hy ht
  refine Ev.succ ?_; simp only [laws_toInt64S.l0]
  repeat (first | with_reducible exact Ev.now _ | dsimp only | refine Ev.pos (by first | omega | rfl | assumption | decide) ?_ | refine Ev.neg (by first | omega | assumption | exact Bool.false_ne_true | exact fun e => absurd e (by decide)) ?_ | simp only [bne_self_eq_false, Bool.not_true, Bool.not_false, List.length_cons, List.length_nil] | rw [wrap_id (by omega) (by omega)] | ((with_reducible refine Ev.eq (congrArg some ?_)); rfl))
  exact Ev.eq (congrArg some (eq_of_take hy (by omega) ht))
 | succ d ih =>
  intro i ys hi hy ht
  refine Ev.succ ?_; simp only [laws_toInt64S.l0]
  rw [wrap_succ (by omega)]
  repeat (first | with_reducible exact Ev.now _ | dsimp only | refine Ev.pos (by first | omega | rfl | assumption | decide) ?_ | refine Ev.neg (by first | omega | assumption | exact Bool.false_ne_true | exact fun e => absurd e (by decide)) ?_ | simp only [bne_self_eq_false, Bool.not_true, Bool.not_false, List.length_cons, List.length_nil] | rw [wrap_id (by omega) (by omega)] | ((with_reducible refine Ev.eq (congrArg some ?_)); rfl))
  exact ih (i + 1) _ (by omega) (by simpa using hy) (take_set_succ hy (by omega) (rd_lt (by omega)) ht)

theorem toInt64S (l : List Int) (hl : l.length ≤ 1048576) : Ev (fun k => laws_toInt64S.f k l) l := by
 unfold laws_toInt64S.f
 repeat (first | with_reducible exact Ev.now _ | dsimp only | refine Ev.pos (by first | omega | rfl | assumption | decide) ?_ | refine Ev.neg (by first | omega | assumption | exact Bool.false_ne_true | exact fun e => absurd e (by decide)) ?_ | simp only [bne_self_eq_false, Bool.not_true, Bool.not_false, List.length_cons, List.length_nil] | rw [wrap_id (by omega) (by omega)] | ((with_reducible refine Ev.eq (congrArg some ?_)); rfl))
 exact toInt64S_loop l hl l.length 0 _ (by omega) (by simp) (by simp)

theorem eqInt64S_loop (a b : List Int) (hl : a.length ≤ 1048576) (hab : a.length = b.length) : ∀ (d i : Nat), i + d = a.length →
  Ev (fun k => laws_eqInt64S.l0 k a b (i : Int)) (decide (a.drop i = b.drop i)) := by
 intro d
 induction d with
 | zero =>
  intro i hi
  refine Ev.succ ?_; simp only [laws_eqInt64S.l0]
  rw [List.drop_eq_nil_of_le (by omega), List.drop_eq_nil_of_le (by omega)]
  repeat (first | with_reducible exact Ev.now _ | dsimp only | refine Ev.pos (by first | omega | rfl | assumption | decide) ?_ | refine Ev.neg (by first | omega | assumption | exact Bool.false_ne_true | exact fun e => absurd e (by decide)) ?_ | simp only [bne_self_eq_false, Bool.not_true, Bool.not_false, List.length_cons, List.length_nil] | rw [wrap_id (by omega) (by omega)] | ((with_reducible refine Ev.eq (congrArg some ?_)); rfl))
 | succ d ih =>
  intro i hi
  refine Ev.succ ?_; simp only [laws_eqInt64S.l0]
  rw [List.drop_eq_getElem_cons (by omega : i < a.length), List.drop_eq_getElem_cons (by omega : i < b.length), wrap_succ (by omega)]
  by_cases e : rd a i = rd b i
  ·repeat (first | with_reducible exact Ev.now _ | dsimp only | refine Ev.pos (by first | omega | rfl | assumption | decide) ?_ | refine Ev.neg (by first | omega | assumption | exact Bool.false_ne_true | exact fun e => absurd e (by decide)) ?_ | simp only [bne_self_eq_false, Bool.not_true, Bool.not_false, List.length_cons, List.length_nil] | rw [wrap_id (by omega) (by omega)] | ((with_reducible refine Ev.eq (congrArg some ?_)); rfl))
   have := ih (i + 1) (by omega)
   rw [rd_lt (by omega), rd_lt (by omega)] at e
   rw [e, decide_cons]
   exact this
  ·rw [decide_eq_false (fun h => e (by rw [rd_lt (by omega), rd_lt (by omega)]; exact (List.cons.inj h).1))]
   repeat (first | with_reducible exact Ev.now _ | dsimp only | refine Ev.pos (by first | omega | rfl | assumption | decide) ?_ | refine Ev.neg (by first | omega | assumption | exact Bool.false_ne_true | exact fun e => absurd e (by decide)) ?_ | simp only [bne_self_eq_false, Bool.not_true, Bool.not_false, List.length_cons, List.length_nil] | rw [wrap_id (by omega) (by omega)] | ((with_reducible refine Ev.eq (congrArg some ?_)); rfl))

theorem eqInt64S (a b : List Int) (hl : a.length ≤ 1048576) : Ev (fun k => laws_eqInt64S.f k a b) (decide (a = b)) := by
 unfold laws_eqInt64S.f
 by_cases h : a.length = b.length
 ·repeat (first | with_reducible exact Ev.now _ | dsimp only | refine Ev.pos (by first | omega | rfl | assumption | decide) ?_ | refine Ev.neg (by first | omega | assumption | exact Bool.false_ne_true | exact fun e => absurd e (by decide)) ?_ | simp only [bne_self_eq_false, Bool.not_true, Bool.not_false, List.length_cons, List.length_nil] | rw [wrap_id (by omega) (by omega)] | ((with_reducible refine Ev.eq (congrArg some ?_)); rfl))
  exact eqInt64S_loop a b hl h a.length 0 (by omega)
 ·rw [decide_eq_false (fun e => h (by rw [e]))]
  repeat (first | with_reducible exact Ev.now _ | dsimp only | refine Ev.pos (by first | omega | rfl | assumption | decide) ?_ | refine Ev.neg (by first | omega | assumption | exact Bool.false_ne_true | exact fun e => absurd e (by decide)) ?_ | simp only [bne_self_eq_false, Bool.not_true, Bool.not_false, List.length_cons, List.length_nil] | rw [wrap_id (by omega) (by omega)] | ((with_reducible refine Ev.eq (congrArg some ?_)); rfl))

theorem eqInt64S_self (a : List Int) (hl : a.length ≤ 1048576) : Ev (fun k => laws_eqInt64S.f k a a) true :=
 Ev.conv (eqInt64S a a hl) (by simp)
theorem rl_lt {xs : List (List Int)} {i : Nat} (h : i < xs.length) : rd_L1 xs (i : Int) = xs[i] := by
 simp [rd_L1, List.getD_eq_getElem?_getD, h]

/-- Rows of which each, and their number, is of a moderate size. -/
def Mod (l : List (List Int)) : Prop := l.length ≤ 1048576 ∧ ∀ r ∈ l, r.length ≤ 1048576

theorem Mod.row {l : List (List Int)} (h : Mod l) {i : Nat} (hi : i < l.length) : l[i].length ≤ 1048576 := h.2 _ (List.getElem_mem hi)

theorem szInt64S (l : List Int) (a : Int) (h0 : 0 ≤ a) (h1 : a ≤ 1048576) (hl : l.length ≤ 9223372036854775807) : ∃ t, laws_szInt64S.f l a = some t ∧ (t < 0 ∨ (l.length ≤ 1048576 ∧ 0 ≤ t ∧ t ≤ a)) := by
 unfold laws_szInt64S.f
 rw [wrap_id (by omega) (by omega)]
 by_cases h : a - (l.length : Int) < 0
 ·exact ⟨-1, if_pos h, Or.inl (by omega)⟩
 ·exact ⟨_, if_neg h, Or.inr (by omega)⟩

theorem szInt64SS_loop (l : List (List Int)) (hl : l.length ≤ 1048576) (hr : ∀ r ∈ l, r.length ≤ 9223372036854775807) : ∀ (d i : Nat) (a : Int), i + d = l.length → 0 ≤ a → a ≤ 1048576 → (∀ j, (h : j < l.length) → j < i → l[j].length ≤ 1048576) →
  ∃ t, Ev (fun k => laws_szInt64SS.l0 k l a (i : Int)) t ∧ (t < 0 ∨ (Mod l ∧ 0 ≤ t ∧ t ≤ 1048576)) := by
 intro d
 induction d with
 | zero =>
  intro i a hi h0 h1 hm
  refine ⟨a, ?_, Or.inr ⟨⟨hl, fun r h => ?_⟩, h0, h1⟩⟩
  ·refine Ev.succ ?_; simp only [laws_szInt64SS.l0]
   repeat (first | with_reducible exact Ev.now _ | dsimp only | refine Ev.pos (by first | omega | rfl | assumption | decide) ?_ | refine Ev.neg (by first | omega | assumption | exact Bool.false_ne_true | exact fun e => absurd e (by decide)) ?_ | simp only [bne_self_eq_false, Bool.not_true, Bool.not_false, List.length_cons, List.length_nil] | rw [wrap_id (by omega) (by omega)] | ((with_reducible refine Ev.eq (congrArg some ?_)); rfl))
  ·obtain ⟨j, hj, rfl⟩ := List.getElem_of_mem h
   exact hm j hj (by omega)
 | succ d ih =>
  intro i a hi h0 h1 hm
  obtain ⟨t, ht, hc⟩ := szInt64S (l[i]'(by omega)) a h0 h1 (hr _ (List.getElem_mem _))
  rw [← rl_lt (by omega)] at ht
  rcases hc with hc | ⟨hc, hc0, hc1⟩
  ·refine ⟨-1, ?_, Or.inl (by omega)⟩
   refine Ev.succ ?_; simp only [laws_szInt64SS.l0]
   repeat (first | with_reducible exact Ev.now _ | dsimp only | with_reducible refine Ev.bind (Ev.eq ht) ?_ | refine Ev.pos (by first | omega | rfl | assumption | decide) ?_ | refine Ev.neg (by first | omega | assumption | exact Bool.false_ne_true | exact fun e => absurd e (by decide)) ?_ | simp only [bne_self_eq_false, Bool.not_true, Bool.not_false, List.length_cons, List.length_nil] | rw [wrap_id (by omega) (by omega)] | with_reducible exact (Ev.eq ht) | ((with_reducible refine Ev.eq (congrArg some ?_)); rfl))
  ·obtain ⟨t', h1', h2'⟩ := ih (i + 1) t (by omega) hc0 (by omega) (fun j hj hji => by
    by_cases e : j = i
    ·subst e; exact hc
    ·exact hm j hj (by omega))
   refine ⟨t', ?_, h2'⟩
   refine Ev.succ ?_; simp only [laws_szInt64SS.l0]
   rw [wrap_succ (by omega)]
   repeat (first | with_reducible exact Ev.now _ | dsimp only | with_reducible refine Ev.bind (Ev.eq ht) ?_ | refine Ev.pos (by first | omega | rfl | assumption | decide) ?_ | refine Ev.neg (by first | omega | assumption | exact Bool.false_ne_true | exact fun e => absurd e (by decide)) ?_ | simp only [bne_self_eq_false, Bool.not_true, Bool.not_false, List.length_cons, List.length_nil] | rw [wrap_id (by omega) (by omega)] | with_reducible exact (Ev.eq ht) | ((with_reducible refine Ev.eq (congrArg some ?_)); rfl))
   exact h1'

theorem szInt64SS (l : List (List Int)) (a : Int) (h0 : 0 ≤ a) (h1 : a ≤ 1048576) (hl : l.length ≤ 9223372036854775807) (hr : ∀ r ∈ l, r.length ≤ 9223372036854775807) : ∃ t, Ev (fun k => laws_szInt64SS.f k l a) t ∧ (t < 0 ∨ (Mod l ∧ 0 ≤ t ∧ t ≤ 1048576)) := by
 unfold laws_szInt64SS.f
 rw [wrap_id (by omega) (by omega)]
 by_cases h : a - (l.length : Int) < 0
 ·refine ⟨-1, ?_, Or.inl (by omega)⟩
  repeat (first | with_reducible exact Ev.now _ | dsimp only | refine Ev.pos (by first | omega | rfl | assumption | decide) ?_ | refine Ev.neg (by first | omega | assumption | exact Bool.false_ne_true | exact fun e => absurd e (by decide)) ?_ | simp only [bne_self_eq_false, Bool.not_true, Bool.not_false, List.length_cons, List.length_nil] | rw [wrap_id (by omega) (by omega)] | ((with_reducible refine Ev.eq (congrArg some ?_)); rfl))
 ·obtain ⟨t, h1, h2⟩ := szInt64SS_loop l (by omega) hr l.length 0 (a - (l.length : Int)) (by omega) (by omega) (by omega) (fun j _ hj => by omega)
  refine ⟨t, ?_, h2⟩
  repeat (first | with_reducible exact Ev.now _ | dsimp only | refine Ev.pos (by first | omega | rfl | assumption | decide) ?_ | refine Ev.neg (by first | omega | assumption | exact Bool.false_ne_true | exact fun e => absurd e (by decide)) ?_ | simp only [bne_self_eq_false, Bool.not_true, Bool.not_false, List.length_cons, List.length_nil] | rw [wrap_id (by omega) (by omega)] | ((with_reducible refine Ev.eq (congrArg some ?_)); rfl))
  exact h1

theorem szGraph (n : Int) (l : List (List Int)) (hl : l.length ≤ maxLen) (hr : ∀ r ∈ l, r.length ≤ maxLen ∧ ∀ y ∈ r, (Lit.int .i64 y).wf = true) : ∃ t, Ev (fun k => laws_szGraph.f k n l 1048576) t ∧ (t < 0 ∨ Mod l) := by
 obtain ⟨t, h1, h2⟩ := szInt64SS l 1048576 (by omega) (by omega) (by simp [maxLen] at hl; omega) (fun r h => by have := (hr r h).1; simp [maxLen] at this; omega)
 unfold laws_szGraph.f
 rcases h2 with h2 | ⟨h2, h3, h4⟩
 ·refine ⟨-1, ?_, Or.inl (by omega)⟩
  repeat (first | with_reducible exact Ev.now _ | dsimp only | with_reducible refine Ev.bind (h1) ?_ | refine Ev.pos (by first | omega | rfl | assumption | decide) ?_ | refine Ev.neg (by first | omega | assumption | exact Bool.false_ne_true | exact fun e => absurd e (by decide)) ?_ | simp only [bne_self_eq_false, Bool.not_true, Bool.not_false, List.length_cons, List.length_nil] | rw [wrap_id (by omega) (by omega)] | with_reducible exact (h1) | ((with_reducible refine Ev.eq (congrArg some ?_)); rfl))
 ·refine ⟨t, ?_, Or.inr h2⟩
  repeat (first | with_reducible exact Ev.now _ | dsimp only | with_reducible refine Ev.bind (h1) ?_ | refine Ev.pos (by first | omega | rfl | assumption | decide) ?_ | refine Ev.neg (by first | omega | assumption | exact Bool.false_ne_true | exact fun e => absurd e (by decide)) ?_ | simp only [bne_self_eq_false, Bool.not_true, Bool.not_false, List.length_cons, List.length_nil] | rw [wrap_id (by omega) (by omega)] | with_reducible exact (h1) | ((with_reducible refine Ev.eq (congrArg some ?_)); rfl))

theorem toInt64SS_loop (l : List (List Int)) (hl : Mod l) : ∀ (d i : Nat) (ys : List (List Int)), i + d = l.length → ys.length = l.length → ys.take i = l.take i →
  Ev (fun k => laws_toInt64SS.l0 k l ys (i : Int)) l := by
 have hl1 := hl.1
 intro d
 induction d with
 | zero =>
  intro i ys hi hy ht
  refine Ev.succ ?_; simp only [laws_toInt64SS.l0]
  repeat (first | with_reducible exact Ev.now _ | dsimp only | refine Ev.pos (by first | omega | rfl | assumption | decide) ?_ | refine Ev.neg (by first | omega | assumption | exact Bool.false_ne_true | exact fun e => absurd e (by decide)) ?_ | simp only [bne_self_eq_false, Bool.not_true, Bool.not_false, List.length_cons, List.length_nil] | rw [wrap_id (by omega) (by omega)] | ((with_reducible refine Ev.eq (congrArg some ?_)); rfl))
  exact Ev.eq (congrArg some (eq_of_take hy (by omega) ht))
 | succ d ih =>
  intro i ys hi hy ht
  refine Ev.succ ?_; simp only [laws_toInt64SS.l0]
  rw [wrap_succ (by omega), rl_lt (by omega)]
  repeat (first | with_reducible exact Ev.now _ | dsimp only | with_reducible refine Ev.bind (toInt64S _ (hl.row (by omega))) ?_ | refine Ev.pos (by first | omega | rfl | assumption | decide) ?_ | refine Ev.neg (by first | omega | assumption | exact Bool.false_ne_true | exact fun e => absurd e (by decide)) ?_ | simp only [bne_self_eq_false, Bool.not_true, Bool.not_false, List.length_cons, List.length_nil] | rw [wrap_id (by omega) (by omega)] | with_reducible exact (toInt64S _ (hl.row (by omega))) | ((with_reducible refine Ev.eq (congrArg some ?_)); rfl))
  exact ih (i + 1) _ (by omega) (by simpa using hy) (take_set_succ hy (by omega) rfl ht)

theorem toInt64SS (l : List (List Int)) (hl : Mod l) : Ev (fun k => laws_toInt64SS.f k l) l := by
 have hl1 := hl.1
 unfold laws_toInt64SS.f
 repeat (first | with_reducible exact Ev.now _ | dsimp only | refine Ev.pos (by first | omega | rfl | assumption | decide) ?_ | refine Ev.neg (by first | omega | assumption | exact Bool.false_ne_true | exact fun e => absurd e (by decide)) ?_ | simp only [bne_self_eq_false, Bool.not_true, Bool.not_false, List.length_cons, List.length_nil] | rw [wrap_id (by omega) (by omega)] | ((with_reducible refine Ev.eq (congrArg some ?_)); rfl))
 exact toInt64SS_loop l hl l.length 0 _ (by omega) (by simp) (by simp)

theorem toGraph (n : Int) (l : List (List Int)) (hl : Mod l) : Ev (fun k => laws_toGraph.f k n l) (n, l) := by
 unfold laws_toGraph.f
 repeat (first | with_reducible exact Ev.now _ | dsimp only | with_reducible refine Ev.bind (toInt64SS l hl) ?_ | refine Ev.pos (by first | omega | rfl | assumption | decide) ?_ | refine Ev.neg (by first | omega | assumption | exact Bool.false_ne_true | exact fun e => absurd e (by decide)) ?_ | simp only [bne_self_eq_false, Bool.not_true, Bool.not_false, List.length_cons, List.length_nil] | rw [wrap_id (by omega) (by omega)] | with_reducible exact (toInt64SS l hl) | ((with_reducible refine Ev.eq (congrArg some ?_)); rfl))

theorem eqInt64SS_self_loop (a : List (List Int)) (hl : Mod a) : ∀ (d i : Nat), i + d = a.length →
  Ev (fun k => laws_eqInt64SS.l0 k a a (i : Int)) true := by
 have hl1 := hl.1
 intro d
 induction d with
 | zero =>
  intro i hi
  refine Ev.succ ?_; simp only [laws_eqInt64SS.l0]
  repeat (first | with_reducible exact Ev.now _ | dsimp only | refine Ev.pos (by first | omega | rfl | assumption | decide) ?_ | refine Ev.neg (by first | omega | assumption | exact Bool.false_ne_true | exact fun e => absurd e (by decide)) ?_ | simp only [bne_self_eq_false, Bool.not_true, Bool.not_false, List.length_cons, List.length_nil] | rw [wrap_id (by omega) (by omega)] | ((with_reducible refine Ev.eq (congrArg some ?_)); rfl))
 | succ d ih =>
  intro i hi
  refine Ev.succ ?_; simp only [laws_eqInt64SS.l0]
  rw [rl_lt (by omega), wrap_succ (by omega)]
  repeat (first | with_reducible exact Ev.now _ | dsimp only | with_reducible refine Ev.bind (eqInt64S_self _ (hl.row (by omega))) ?_ | refine Ev.pos (by first | omega | rfl | assumption | decide) ?_ | refine Ev.neg (by first | omega | assumption | exact Bool.false_ne_true | exact fun e => absurd e (by decide)) ?_ | simp only [bne_self_eq_false, Bool.not_true, Bool.not_false, List.length_cons, List.length_nil] | rw [wrap_id (by omega) (by omega)] | with_reducible exact (eqInt64S_self _ (hl.row (by omega))) | ((with_reducible refine Ev.eq (congrArg some ?_)); rfl))
  exact ih (i + 1) (by omega)

theorem eqInt64SS_self (a : List (List Int)) (hl : Mod a) : Ev (fun k => laws_eqInt64SS.f k a a) true := by
 unfold laws_eqInt64SS.f
 repeat (first | with_reducible exact Ev.now _ | dsimp only | refine Ev.pos (by first | omega | rfl | assumption | decide) ?_ | refine Ev.neg (by first | omega | assumption | exact Bool.false_ne_true | exact fun e => absurd e (by decide)) ?_ | simp only [bne_self_eq_false, Bool.not_true, Bool.not_false, List.length_cons, List.length_nil] | rw [wrap_id (by omega) (by omega)] | ((with_reducible refine Ev.eq (congrArg some ?_)); rfl))
 exact eqInt64SS_self_loop a hl a.length 0 (by omega)

theorem eqGraph_self (n : Int) (a : List (List Int)) (hl : Mod a) : Ev (fun k => laws_eqGraph.f k n a n a) true := by
 unfold laws_eqGraph.f
 repeat (first | with_reducible exact Ev.now _ | dsimp only | with_reducible refine Ev.bind (eqInt64SS_self a hl) ?_ | refine Ev.pos (by first | omega | rfl | assumption | decide) ?_ | refine Ev.neg (by first | omega | assumption | exact Bool.false_ne_true | exact fun e => absurd e (by decide)) ?_ | simp only [bne_self_eq_false, Bool.not_true, Bool.not_false, List.length_cons, List.length_nil] | rw [wrap_id (by omega) (by omega)] | with_reducible exact (eqInt64SS_self a hl) | ((with_reducible refine Ev.eq (congrArg some ?_)); rfl))
theorem specIn (a b c : Int) : spec_l01In.f a b c = some (decide (b ≤ a ∧ a ≤ c)) := by
 unfold spec_l01In.f
 by_cases h : b ≤ a
 ·rw [if_pos h]; simp [h]
 ·rw [if_neg h]; simp [h]

theorem implWithin (a b c : Int) : impl_within.f a b c = some (decide (b ≤ a ∧ a ≤ c)) := by
 unfold impl_within.f
 by_cases h : b ≤ a
 ·rw [if_pos h]; simp [h]
 ·rw [if_neg h]; simp [h]

/-- One edge's test. -/
def okEdge (n : Int) (e : List Int) : Bool := decide (e.length = 2) && (decide (0 ≤ rd e 0 ∧ rd e 0 ≤ wrap64 (n - 1)) && decide (0 ≤ rd e 1 ∧ rd e 1 ≤ wrap64 (n - 1)))

def isGraph (n : Int) (l : List (List Int)) : Bool := l.all (okEdge n) && (decide (1 ≤ n ∧ n ≤ 8) && decide ((l.length : Int) ≤ 10))

theorem specIs_loop (n : Int) (l : List (List Int)) (hl : Mod l) : ∀ (d i : Nat), i + d = l.length →
  Ev (fun k => spec_l01Is.l0 k (i : Int) n l) ((l.drop i).all (okEdge n)) := by
 have hl1 := hl.1
 intro d
 induction d with
 | zero =>
  intro i hi
  refine Ev.succ ?_; simp only [spec_l01Is.l0]
  rw [List.drop_eq_nil_of_le (by omega)]
  repeat (first | with_reducible exact Ev.now _ | dsimp only | refine Ev.pos (by first | omega | rfl | assumption | decide) ?_ | refine Ev.neg (by first | omega | assumption | exact Bool.false_ne_true | exact fun e => absurd e (by decide)) ?_ | simp only [bne_self_eq_false, Bool.not_true, Bool.not_false, List.length_cons, List.length_nil] | rw [wrap_id (by omega) (by omega)] | ((with_reducible refine Ev.eq (congrArg some ?_)); rfl))
 | succ d ih =>
  intro i hi
  refine Ev.succ ?_; simp only [spec_l01Is.l0]
  rw [List.drop_eq_getElem_cons (by omega : i < l.length), List.all_cons, rl_lt (by omega), wrap_succ (by omega)]
  generalize l[i] = e
  have := ih (i + 1) (by omega)
  unfold okEdge
  by_cases h2 : (e.length : Int) = 2
  ·rw [decide_eq_true (show e.length = 2 by omega), Bool.true_and]
   by_cases ha : 0 ≤ rd e 0 ∧ rd e 0 ≤ wrap64 (n - 1)
   ·by_cases hb : 0 ≤ rd e 1 ∧ rd e 1 ≤ wrap64 (n - 1)
    ·rw [decide_eq_true ha, decide_eq_true hb, Bool.true_and, Bool.true_and]
     repeat (first | with_reducible exact Ev.now _ | dsimp only | with_reducible refine Ev.bind (Ev.eq ((specIn _ _ _).trans (congrArg some (decide_eq_true ha)))) ?_ | with_reducible refine Ev.bind (Ev.eq ((specIn _ _ _).trans (congrArg some (decide_eq_true hb)))) ?_ | refine Ev.pos (by first | omega | rfl | assumption | decide) ?_ | refine Ev.neg (by first | omega | assumption | exact Bool.false_ne_true | exact fun e => absurd e (by decide)) ?_ | simp only [bne_self_eq_false, Bool.not_true, Bool.not_false, List.length_cons, List.length_nil] | rw [wrap_id (by omega) (by omega)] | with_reducible exact (Ev.eq ((specIn _ _ _).trans (congrArg some (decide_eq_true ha)))) | with_reducible exact (Ev.eq ((specIn _ _ _).trans (congrArg some (decide_eq_true hb)))) | ((with_reducible refine Ev.eq (congrArg some ?_)); rfl))
     exact this
    ·rw [decide_eq_false hb, Bool.and_false, Bool.false_and]
     repeat (first | with_reducible exact Ev.now _ | dsimp only | with_reducible refine Ev.bind (Ev.eq ((specIn _ _ _).trans (congrArg some (decide_eq_true ha)))) ?_ | with_reducible refine Ev.bind (Ev.eq ((specIn _ _ _).trans (congrArg some (decide_eq_false hb)))) ?_ | refine Ev.pos (by first | omega | rfl | assumption | decide) ?_ | refine Ev.neg (by first | omega | assumption | exact Bool.false_ne_true | exact fun e => absurd e (by decide)) ?_ | simp only [bne_self_eq_false, Bool.not_true, Bool.not_false, List.length_cons, List.length_nil] | rw [wrap_id (by omega) (by omega)] | with_reducible exact (Ev.eq ((specIn _ _ _).trans (congrArg some (decide_eq_true ha)))) | with_reducible exact (Ev.eq ((specIn _ _ _).trans (congrArg some (decide_eq_false hb)))) | ((with_reducible refine Ev.eq (congrArg some ?_)); rfl))
   ·rw [decide_eq_false ha, Bool.false_and, Bool.false_and]
    repeat (first | with_reducible exact Ev.now _ | dsimp only | with_reducible refine Ev.bind (Ev.eq ((specIn _ _ _).trans (congrArg some (decide_eq_false ha)))) ?_ | refine Ev.pos (by first | omega | rfl | assumption | decide) ?_ | refine Ev.neg (by first | omega | assumption | exact Bool.false_ne_true | exact fun e => absurd e (by decide)) ?_ | simp only [bne_self_eq_false, Bool.not_true, Bool.not_false, List.length_cons, List.length_nil] | rw [wrap_id (by omega) (by omega)] | with_reducible exact (Ev.eq ((specIn _ _ _).trans (congrArg some (decide_eq_false ha)))) | ((with_reducible refine Ev.eq (congrArg some ?_)); rfl))
  ·rw [decide_eq_false (show ¬ e.length = 2 by omega), Bool.false_and, Bool.false_and]
   repeat (first | with_reducible exact Ev.now _ | dsimp only | refine Ev.pos (by first | omega | rfl | assumption | decide) ?_ | refine Ev.neg (by first | omega | assumption | exact Bool.false_ne_true | exact fun e => absurd e (by decide)) ?_ | simp only [bne_self_eq_false, Bool.not_true, Bool.not_false, List.length_cons, List.length_nil] | rw [wrap_id (by omega) (by omega)] | ((with_reducible refine Ev.eq (congrArg some ?_)); rfl))

theorem specIs (n : Int) (l : List (List Int)) (hl : Mod l) : Ev (fun k => spec_l01Is.f k n l) (isGraph n l) := by
 unfold spec_l01Is.f isGraph
 by_cases h1 : 1 ≤ n ∧ n ≤ 8
 ·rw [decide_eq_true h1, Bool.true_and]
  repeat (first | with_reducible exact Ev.now _ | dsimp only | with_reducible refine Ev.bind (Ev.eq ((specIn n 1 8).trans (congrArg some (decide_eq_true h1)))) ?_ | refine Ev.pos (by first | omega | rfl | assumption | decide) ?_ | refine Ev.neg (by first | omega | assumption | exact Bool.false_ne_true | exact fun e => absurd e (by decide)) ?_ | simp only [bne_self_eq_false, Bool.not_true, Bool.not_false, List.length_cons, List.length_nil] | rw [wrap_id (by omega) (by omega)] | with_reducible exact (Ev.eq ((specIn n 1 8).trans (congrArg some (decide_eq_true h1)))) | ((with_reducible refine Ev.eq (congrArg some ?_)); rfl))
  refine Ev.succ ?_
  simp only [spec_l01Is.j0]
  by_cases h2 : (l.length : Int) ≤ 10
  ·rw [decide_eq_true h2, decide_eq_false (show ¬ (l.length : Int) > 10 by omega), Bool.and_true]
   repeat (first | with_reducible exact Ev.now _ | dsimp only | refine Ev.pos (by first | omega | rfl | assumption | decide) ?_ | refine Ev.neg (by first | omega | assumption | exact Bool.false_ne_true | exact fun e => absurd e (by decide)) ?_ | simp only [bne_self_eq_false, Bool.not_true, Bool.not_false, List.length_cons, List.length_nil] | rw [wrap_id (by omega) (by omega)] | ((with_reducible refine Ev.eq (congrArg some ?_)); rfl))
   exact specIs_loop n l hl l.length 0 (by omega)
  ·rw [decide_eq_false h2, decide_eq_true (show (l.length : Int) > 10 by omega), Bool.and_false]
   repeat (first | with_reducible exact Ev.now _ | dsimp only | refine Ev.pos (by first | omega | rfl | assumption | decide) ?_ | refine Ev.neg (by first | omega | assumption | exact Bool.false_ne_true | exact fun e => absurd e (by decide)) ?_ | simp only [bne_self_eq_false, Bool.not_true, Bool.not_false, List.length_cons, List.length_nil] | rw [wrap_id (by omega) (by omega)] | ((with_reducible refine Ev.eq (congrArg some ?_)); rfl))
 ·rw [decide_eq_false h1, Bool.false_and, Bool.and_false]
  repeat (first | with_reducible exact Ev.now _ | dsimp only | with_reducible refine Ev.bind (Ev.eq ((specIn n 1 8).trans (congrArg some (decide_eq_false h1)))) ?_ | refine Ev.pos (by first | omega | rfl | assumption | decide) ?_ | refine Ev.neg (by first | omega | assumption | exact Bool.false_ne_true | exact fun e => absurd e (by decide)) ?_ | simp only [bne_self_eq_false, Bool.not_true, Bool.not_false, List.length_cons, List.length_nil] | rw [wrap_id (by omega) (by omega)] | with_reducible exact (Ev.eq ((specIn n 1 8).trans (congrArg some (decide_eq_false h1)))) | ((with_reducible refine Ev.eq (congrArg some ?_)); rfl))
  refine Ev.succ ?_
  simp only [spec_l01Is.j0]
  repeat (first | with_reducible exact Ev.now _ | dsimp only | refine Ev.pos (by first | omega | rfl | assumption | decide) ?_ | refine Ev.neg (by first | omega | assumption | exact Bool.false_ne_true | exact fun e => absurd e (by decide)) ?_ | simp only [bne_self_eq_false, Bool.not_true, Bool.not_false, List.length_cons, List.length_nil] | rw [wrap_id (by omega) (by omega)] | ((with_reducible refine Ev.eq (congrArg some ?_)); rfl))

theorem implIs_loop (n : Int) (l : List (List Int)) (hl : Mod l) : ∀ (d i : Nat), i + d = l.length →
  Ev (fun k => impl_IsGraph.l0 k l (l.length : Int) (i : Int) n l) ((l.drop i).all (okEdge n) && (decide (1 ≤ n ∧ n ≤ 8) && decide ((l.length : Int) ≤ 10))) := by
 have hl1 := hl.1
 intro d
 induction d with
 | zero =>
  intro i hi
  refine Ev.succ ?_; simp only [impl_IsGraph.l0]
  rw [List.drop_eq_nil_of_le (by omega), List.all_nil, Bool.true_and]
  by_cases h1 : 1 ≤ n ∧ n ≤ 8
  ·rw [decide_eq_true h1, Bool.true_and]
   repeat (first | with_reducible exact Ev.now _ | dsimp only | with_reducible refine Ev.bind (Ev.eq ((implWithin n 1 8).trans (congrArg some (decide_eq_true h1)))) ?_ | refine Ev.pos (by first | omega | rfl | assumption | decide) ?_ | refine Ev.neg (by first | omega | assumption | exact Bool.false_ne_true | exact fun e => absurd e (by decide)) ?_ | simp only [bne_self_eq_false, Bool.not_true, Bool.not_false, List.length_cons, List.length_nil] | rw [wrap_id (by omega) (by omega)] | with_reducible exact (Ev.eq ((implWithin n 1 8).trans (congrArg some (decide_eq_true h1)))) | ((with_reducible refine Ev.eq (congrArg some ?_)); rfl))
  ·rw [decide_eq_false h1, Bool.false_and]
   repeat (first | with_reducible exact Ev.now _ | dsimp only | with_reducible refine Ev.bind (Ev.eq ((implWithin n 1 8).trans (congrArg some (decide_eq_false h1)))) ?_ | refine Ev.pos (by first | omega | rfl | assumption | decide) ?_ | refine Ev.neg (by first | omega | assumption | exact Bool.false_ne_true | exact fun e => absurd e (by decide)) ?_ | simp only [bne_self_eq_false, Bool.not_true, Bool.not_false, List.length_cons, List.length_nil] | rw [wrap_id (by omega) (by omega)] | with_reducible exact (Ev.eq ((implWithin n 1 8).trans (congrArg some (decide_eq_false h1)))) | ((with_reducible refine Ev.eq (congrArg some ?_)); rfl))
 | succ d ih =>
  intro i hi
  refine Ev.succ ?_; simp only [impl_IsGraph.l0]
  rw [List.drop_eq_getElem_cons (by omega : i < l.length), List.all_cons, rl_lt (by omega), wrap_succ (by omega)]
  generalize l[i] = e
  have := ih (i + 1) (by omega)
  unfold okEdge at this ⊢
  by_cases h2 : (e.length : Int) = 2
  ·rw [decide_eq_true (show e.length = 2 by omega), Bool.true_and]
   by_cases ha : 0 ≤ rd e 0 ∧ rd e 0 ≤ wrap64 (n - 1)
   ·by_cases hb : 0 ≤ rd e 1 ∧ rd e 1 ≤ wrap64 (n - 1)
    ·rw [decide_eq_true ha, decide_eq_true hb, Bool.true_and, Bool.true_and]
     repeat (first | with_reducible exact Ev.now _ | dsimp only | with_reducible refine Ev.bind (Ev.eq ((implWithin _ _ _).trans (congrArg some (decide_eq_true ha)))) ?_ | with_reducible refine Ev.bind (Ev.eq ((implWithin _ _ _).trans (congrArg some (decide_eq_true hb)))) ?_ | refine Ev.pos (by first | omega | rfl | assumption | decide) ?_ | refine Ev.neg (by first | omega | assumption | exact Bool.false_ne_true | exact fun e => absurd e (by decide)) ?_ | simp only [bne_self_eq_false, Bool.not_true, Bool.not_false, List.length_cons, List.length_nil] | rw [wrap_id (by omega) (by omega)] | with_reducible exact (Ev.eq ((implWithin _ _ _).trans (congrArg some (decide_eq_true ha)))) | with_reducible exact (Ev.eq ((implWithin _ _ _).trans (congrArg some (decide_eq_true hb)))) | ((with_reducible refine Ev.eq (congrArg some ?_)); rfl))
     exact this
    ·rw [decide_eq_false hb, Bool.and_false, Bool.false_and, Bool.false_and]
     repeat (first | with_reducible exact Ev.now _ | dsimp only | with_reducible refine Ev.bind (Ev.eq ((implWithin _ _ _).trans (congrArg some (decide_eq_true ha)))) ?_ | with_reducible refine Ev.bind (Ev.eq ((implWithin _ _ _).trans (congrArg some (decide_eq_false hb)))) ?_ | refine Ev.pos (by first | omega | rfl | assumption | decide) ?_ | refine Ev.neg (by first | omega | assumption | exact Bool.false_ne_true | exact fun e => absurd e (by decide)) ?_ | simp only [bne_self_eq_false, Bool.not_true, Bool.not_false, List.length_cons, List.length_nil] | rw [wrap_id (by omega) (by omega)] | with_reducible exact (Ev.eq ((implWithin _ _ _).trans (congrArg some (decide_eq_true ha)))) | with_reducible exact (Ev.eq ((implWithin _ _ _).trans (congrArg some (decide_eq_false hb)))) | ((with_reducible refine Ev.eq (congrArg some ?_)); rfl))
   ·rw [decide_eq_false ha, Bool.false_and, Bool.false_and, Bool.false_and]
    repeat (first | with_reducible exact Ev.now _ | dsimp only | with_reducible refine Ev.bind (Ev.eq ((implWithin _ _ _).trans (congrArg some (decide_eq_false ha)))) ?_ | refine Ev.pos (by first | omega | rfl | assumption | decide) ?_ | refine Ev.neg (by first | omega | assumption | exact Bool.false_ne_true | exact fun e => absurd e (by decide)) ?_ | simp only [bne_self_eq_false, Bool.not_true, Bool.not_false, List.length_cons, List.length_nil] | rw [wrap_id (by omega) (by omega)] | with_reducible exact (Ev.eq ((implWithin _ _ _).trans (congrArg some (decide_eq_false ha)))) | ((with_reducible refine Ev.eq (congrArg some ?_)); rfl))
  ·rw [decide_eq_false (show ¬ e.length = 2 by omega), Bool.false_and, Bool.false_and, Bool.false_and]
   repeat (first | with_reducible exact Ev.now _ | dsimp only | refine Ev.pos (by first | omega | rfl | assumption | decide) ?_ | refine Ev.neg (by first | omega | assumption | exact Bool.false_ne_true | exact fun e => absurd e (by decide)) ?_ | simp only [bne_self_eq_false, Bool.not_true, Bool.not_false, List.length_cons, List.length_nil] | rw [wrap_id (by omega) (by omega)] | ((with_reducible refine Ev.eq (congrArg some ?_)); rfl))

theorem implIsGraph (n : Int) (l : List (List Int)) (hl : Mod l) : Ev (fun k => impl_IsGraph.f k n l) (isGraph n l) := by
 unfold impl_IsGraph.f
 exact implIs_loop n l hl l.length 0 (by omega)

theorem len_two {α : Type} {e : List α} (h : e.length = 2) : ∃ a b, e = [a, b] := by
 match e, h with
 | [a, b], _ => exact ⟨a, b, rfl⟩

theorem isGraph_iff (n : Int) (l : List (List Int)) : isGraph n l = true ↔ 1 ≤ n ∧ n ≤ 8 ∧ l.length ≤ 10 ∧ ∀ e ∈ l, ∃ a b : Int, e = [a, b] ∧ 0 ≤ a ∧ a < n ∧ 0 ≤ b ∧ b < n := by
 unfold isGraph
 rw [Bool.and_eq_true, Bool.and_eq_true, decide_eq_true_iff, decide_eq_true_iff, List.all_eq_true]
 constructor
 ·rintro ⟨h, ⟨h1, h2⟩, h3⟩
  refine ⟨h1, h2, by omega, fun e he => ?_⟩
  have := h e he
  unfold okEdge at this
  rw [Bool.and_eq_true, Bool.and_eq_true, decide_eq_true_iff, decide_eq_true_iff, decide_eq_true_iff, wrap_id (by omega) (by omega)] at this
  obtain ⟨he2, ha, hb⟩ := this
  obtain ⟨a, b, rfl⟩ := len_two he2
  simp only [show rd [a, b] 0 = a from rfl, show rd [a, b] 1 = b from rfl] at ha hb
  exact ⟨a, b, rfl, by omega, by omega, by omega, by omega⟩
 ·rintro ⟨h1, h2, h3, h⟩
  refine ⟨fun e he => ?_, ⟨h1, h2⟩, by omega⟩
  obtain ⟨a, b, rfl, h4, h5, h6, h7⟩ := h e he
  unfold okEdge
  rw [Bool.and_eq_true, Bool.and_eq_true, decide_eq_true_iff, decide_eq_true_iff, decide_eq_true_iff, wrap_id (by omega) (by omega)]
  simp only [show rd [a, b] 0 = a from rfl, show rd [a, b] 1 = b from rfl]
  exact ⟨rfl, by omega, by omega⟩
theorem graph_edge {n : Int} {l : List (List Int)} (h : isGraph n l = true) {i : Nat} (hi : i < l.length) :
  (rd_L1 l (i : Int)).length = 2 ∧ ∃ a b : Nat, rd (rd_L1 l (i : Int)) 0 = a ∧ rd (rd_L1 l (i : Int)) 1 = b ∧ (a : Int) < n ∧ (b : Int) < n := by
 rw [rl_lt hi]
 obtain ⟨h1, h2, h3, h4⟩ := (isGraph_iff n l).1 h
 obtain ⟨a, b, e, ha, ha', hb, hb'⟩ := h4 _ (List.getElem_mem hi)
 rw [e]
 refine ⟨rfl, a.toNat, b.toNat, ?_, ?_, by omega, by omega⟩
 ·show a = _
  omega
 ·show b = _
  omega

theorem graph_small {n : Int} {l : List (List Int)} (h : isGraph n l = true) : 1 ≤ n ∧ n ≤ 8 ∧ l.length ≤ 10 := by
 obtain ⟨h1, h2, h3, h4⟩ := (isGraph_iff n l).1 h
 exact ⟨h1, h2, h3⟩
/-- The directed edge's start, its end, and its reverse. -/
def tl (l : List (List Int)) (p : Nat) : Int := if p % 2 = 1 then rd (rd_L1 l ((p / 2 : Nat) : Int)) 1 else rd (rd_L1 l ((p / 2 : Nat) : Int)) 0
def hd (l : List (List Int)) (p : Nat) : Int := if p % 2 = 1 then rd (rd_L1 l ((p / 2 : Nat) : Int)) 0 else rd (rd_L1 l ((p / 2 : Nat) : Int)) 1
def inv (p : Nat) : Nat := if p % 2 = 0 then p + 1 else p - 1
def next (l : List (List Int)) (p q : Nat) : Bool := decide (hd l p = tl l q) && decide (q ≠ inv p)

theorem half (p : Nat) (h : p < 1000) : wrap64 (Int.tdiv (p : Int) 2) = ((p / 2 : Nat) : Int) := by
 rw [Int.tdiv_eq_ediv_of_nonneg (by omega), wrap_id (by omega) (by omega)]
 omega

theorem rest2 (p : Nat) : Int.tmod (p : Int) 2 = ((p % 2 : Nat) : Int) := by
 rw [Int.tmod_eq_emod_of_nonneg (by omega)]
 omega

theorem xor_inv (p : Nat) (h : p < 20) : Go.bits .xor .i64 (p : Int) 1 = ((inv p : Nat) : Int) := by
 have : ∀ q : Fin 20, Go.bits .xor .i64 (q.val : Int) 1 = ((inv q.val : Nat) : Int) := by decide
 exact this ⟨p, h⟩

section
variable {n : Int} {l : List (List Int)} (h : isGraph n l = true)
include h

theorem specEnds {p : Nat} (hp : p < 2 * l.length) : spec_l01Ends.f n l (p : Int) = some (tl l p, hd l p) := by
 obtain ⟨g1, g2, g3⟩ := graph_small h
 obtain ⟨e2, a, b, ea, eb, ha, hb⟩ := graph_edge h (show p / 2 < l.length by omega)
 unfold spec_l01Ends.f tl hd
 rw [half p (by omega), rest2, if_pos (by omega), if_pos (by omega)]
 by_cases c : p % 2 = 1
 ·rw [if_pos (show ((p % 2 : Nat) : Int) = 1 by omega), if_pos (by omega), if_pos (by omega), if_pos c, if_pos c]
 ·rw [if_neg (show ¬ ((p % 2 : Nat) : Int) = 1 by omega), if_pos (by omega), if_pos (by omega), if_neg c, if_neg c]

theorem implEnds {p : Nat} (hp : p < 2 * l.length) : impl_Graph_ends.f n l (p : Int) = some (tl l p, hd l p) := by
 obtain ⟨g1, g2, g3⟩ := graph_small h
 obtain ⟨e2, a, b, ea, eb, ha, hb⟩ := graph_edge h (show p / 2 < l.length by omega)
 unfold impl_Graph_ends.f tl hd
 rw [half p (by omega), rest2, wrap_id (x := 1 - ((p % 2 : Nat) : Int)) (by omega) (by omega), if_pos (by omega), if_pos (by omega), if_pos (by omega), if_pos (by omega), if_pos (by omega), if_pos (by omega)]
 by_cases c : p % 2 = 1
 ·rw [if_pos c, if_pos c, c]
  rfl
 ·rw [if_neg c, if_neg c, show p % 2 = 0 by omega]
  rfl

theorem implFollows {p q : Nat} (hp : p < 2 * l.length) (hq : q < 2 * l.length) : impl_Graph_follows.f n l (p : Int) (q : Int) = some (next l p q) := by
 obtain ⟨g1, g2, g3⟩ := graph_small h
 unfold impl_Graph_follows.f next
 rw [implEnds h hp, implEnds h hq, Option.bind_some, Option.bind_some, xor_inv p (by omega)]
 by_cases c : hd l p = tl l q
 ·rw [if_pos c.symm, decide_eq_true c, Bool.true_and]
  by_cases c2 : q = inv p
  ·rw [c2]; simp
  ·simp [c2, bne]
   omega
 ·rw [if_neg (fun e => c e.symm), decide_eq_false c, Bool.false_and]

end
theorem specNext {n : Int} {l : List (List Int)} (h : isGraph n l = true) {p q : Nat} (hp : p < 2 * l.length) (hq : q < 2 * l.length) : spec_l03Next.f n l (p : Int) (q : Int) = some (next l p q) := by
 obtain ⟨g1, g2, g3⟩ := graph_small h
 unfold spec_l03Next.f next
 rw [specEnds h hp, specEnds h hq, Option.bind_some, Option.bind_some, half p (by omega), half q (by omega)]
 by_cases c : hd l p = tl l q
 ·rw [if_pos c, decide_eq_true c, Bool.true_and]
  unfold inv
  by_cases c2 : ((p / 2 : Nat) : Int) = ((q / 2 : Nat) : Int)
  ·rw [if_pos c2]
   by_cases c3 : p = q
   ·rw [c3]
    simp
    split <;> omega
   ·rw [show ((p : Int) == (q : Int)) = false from beq_eq_false_iff_ne.2 (by omega)]
    congr 1
    symm
    rw [decide_eq_false_iff_not, Decidable.not_not]
    split <;> omega
  ·rw [if_neg c2]
   congr 1
   symm
   rw [decide_eq_true_iff]
   split <;> omega
 ·rw [if_neg c, decide_eq_false c, Bool.false_and]
def dirs (l : List (List Int)) (w : List Int) : Bool := w.all (fun x => decide (0 ≤ x ∧ x ≤ 2 * (l.length : Int) - 1))

/-- d steps of the walk, from the one to place i on. -/
def steps (l : List (List Int)) (w : List Int) : Nat → Nat → Bool
 | 0, _ => true
 | d + 1, i => next l (rd w ((i - 1 : Nat) : Int)).toNat (rd w (i : Int)).toNat && steps l w d (i + 1)

def isWalk (l : List (List Int)) (w : List Int) : Bool := decide (1 ≤ (w.length : Int) ∧ (w.length : Int) ≤ 12) && (dirs l w && steps l w (w.length - 1) 1)

theorem dirs_at {l : List (List Int)} {w : List Int} (h : dirs l w = true) {i : Nat} (hi : i < w.length) : rd w (i : Int) = (((rd w (i : Int)).toNat : Nat) : Int) ∧ (rd w (i : Int)).toNat < 2 * l.length := by
 unfold dirs at h
 rw [List.all_eq_true] at h
 have := of_decide_eq_true (h _ (rd_mem hi))
 omega

section
variable {n : Int} {l : List (List Int)} (h : isGraph n l = true) {w : List Int}
include h

theorem specSteps (hd : dirs l w = true) (hw : w.length ≤ 1048576) : ∀ (d i : Nat), i + d = w.length → 1 ≤ i → Ev (fun k => spec_l03Is.l1 k w (i : Int) n l) (steps l w d i) := by
 intro d
 induction d with
 | zero =>
  intro i hi h1
  refine Ev.succ ?_; simp only [spec_l03Is.l1]
  unfold steps
  repeat (first | with_reducible exact Ev.now _ | dsimp only | refine Ev.pos (by first | omega | rfl | assumption | decide) ?_ | refine Ev.neg (by first | omega | assumption | exact Bool.false_ne_true | exact fun e => absurd e (by decide)) ?_ | simp only [bne_self_eq_false, Bool.not_true, Bool.not_false, List.length_cons, List.length_nil] | rw [wrap_id (by omega) (by omega)] | ((with_reducible refine Ev.eq (congrArg some ?_)); rfl))
 | succ d ih =>
  intro i hi h1
  obtain ⟨e1, r1⟩ := dirs_at hd (show i - 1 < w.length by omega)
  obtain ⟨e2, r2⟩ := dirs_at hd (show i < w.length by omega)
  have := ih (i + 1) (by omega) (by omega)
  have hn := specNext h r1 r2
  rw [← e1, ← e2] at hn
  refine Ev.succ ?_; simp only [spec_l03Is.l1]
  unfold steps
  rw [wrap_succ (by omega), wrap_id (x := (i : Int) - 1) (by omega) (by omega), show (i : Int) - 1 = ((i - 1 : Nat) : Int) by omega]
  cases c : next l (rd w ((i - 1 : Nat) : Int)).toNat (rd w (i : Int)).toNat with
  | true =>
   rw [c] at hn
   rw [Bool.true_and]
   repeat (first | with_reducible exact Ev.now _ | dsimp only | with_reducible refine Ev.bind (Ev.eq hn) ?_ | refine Ev.pos (by first | omega | rfl | assumption | decide) ?_ | refine Ev.neg (by first | omega | assumption | exact Bool.false_ne_true | exact fun e => absurd e (by decide)) ?_ | simp only [bne_self_eq_false, Bool.not_true, Bool.not_false, List.length_cons, List.length_nil] | rw [wrap_id (by omega) (by omega)] | with_reducible exact (Ev.eq hn) | ((with_reducible refine Ev.eq (congrArg some ?_)); rfl))
   exact this
  | false =>
   rw [c] at hn
   rw [Bool.false_and]
   repeat (first | with_reducible exact Ev.now _ | dsimp only | with_reducible refine Ev.bind (Ev.eq hn) ?_ | refine Ev.pos (by first | omega | rfl | assumption | decide) ?_ | refine Ev.neg (by first | omega | assumption | exact Bool.false_ne_true | exact fun e => absurd e (by decide)) ?_ | simp only [bne_self_eq_false, Bool.not_true, Bool.not_false, List.length_cons, List.length_nil] | rw [wrap_id (by omega) (by omega)] | with_reducible exact (Ev.eq hn) | ((with_reducible refine Ev.eq (congrArg some ?_)); rfl))

theorem implSteps (hd : dirs l w = true) (hw : w.length ≤ 1048576) : ∀ (d i : Nat), i + d = w.length → 1 ≤ i → Ev (fun k => impl_Graph_isWalk.l0 k w (i : Int) n l) (steps l w d i) := by
 intro d
 induction d with
 | zero =>
  intro i hi h1
  refine Ev.succ ?_; simp only [impl_Graph_isWalk.l0]
  unfold steps
  repeat (first | with_reducible exact Ev.now _ | dsimp only | refine Ev.pos (by first | omega | rfl | assumption | decide) ?_ | refine Ev.neg (by first | omega | assumption | exact Bool.false_ne_true | exact fun e => absurd e (by decide)) ?_ | simp only [bne_self_eq_false, Bool.not_true, Bool.not_false, List.length_cons, List.length_nil] | rw [wrap_id (by omega) (by omega)] | ((with_reducible refine Ev.eq (congrArg some ?_)); rfl))
 | succ d ih =>
  intro i hi h1
  obtain ⟨e1, r1⟩ := dirs_at hd (show i - 1 < w.length by omega)
  obtain ⟨e2, r2⟩ := dirs_at hd (show i < w.length by omega)
  have := ih (i + 1) (by omega) (by omega)
  have hn := implFollows h r1 r2
  rw [← e1, ← e2] at hn
  refine Ev.succ ?_; simp only [impl_Graph_isWalk.l0]
  unfold steps
  rw [wrap_succ (by omega), wrap_id (x := (i : Int) - 1) (by omega) (by omega), show (i : Int) - 1 = ((i - 1 : Nat) : Int) by omega]
  cases c : next l (rd w ((i - 1 : Nat) : Int)).toNat (rd w (i : Int)).toNat with
  | true =>
   rw [c] at hn
   rw [Bool.true_and]
   repeat (first | with_reducible exact Ev.now _ | dsimp only | with_reducible refine Ev.bind (Ev.eq hn) ?_ | refine Ev.pos (by first | omega | rfl | assumption | decide) ?_ | refine Ev.neg (by first | omega | assumption | exact Bool.false_ne_true | exact fun e => absurd e (by decide)) ?_ | simp only [bne_self_eq_false, Bool.not_true, Bool.not_false, List.length_cons, List.length_nil] | rw [wrap_id (by omega) (by omega)] | with_reducible exact (Ev.eq hn) | ((with_reducible refine Ev.eq (congrArg some ?_)); rfl))
   exact this
  | false =>
   rw [c] at hn
   rw [Bool.false_and]
   repeat (first | with_reducible exact Ev.now _ | dsimp only | with_reducible refine Ev.bind (Ev.eq hn) ?_ | refine Ev.pos (by first | omega | rfl | assumption | decide) ?_ | refine Ev.neg (by first | omega | assumption | exact Bool.false_ne_true | exact fun e => absurd e (by decide)) ?_ | simp only [bne_self_eq_false, Bool.not_true, Bool.not_false, List.length_cons, List.length_nil] | rw [wrap_id (by omega) (by omega)] | with_reducible exact (Ev.eq hn) | ((with_reducible refine Ev.eq (congrArg some ?_)); rfl))

theorem specDirs_loop (hw : w.length ≤ 1048576) (r : Bool) (h1 : dirs l w = true → Ev (fun k => spec_l03Is.l1 k w 1 n l) r) (h2 : dirs l w = false → r = false) :
  ∀ (d i : Nat), i + d = w.length → (w.take i).all (fun x => decide (0 ≤ x ∧ x ≤ 2 * (l.length : Int) - 1)) = true → Ev (fun k => spec_l03Is.l0 k w (i : Int) n l) r := by
 obtain ⟨g1, g2, g3⟩ := graph_small h
 intro d
 induction d with
 | zero =>
  intro i hi ht
  refine Ev.succ ?_; simp only [spec_l03Is.l0]
  rw [List.take_of_length_le (by omega)] at ht
  repeat (first | with_reducible exact Ev.now _ | dsimp only | refine Ev.pos (by first | omega | rfl | assumption | decide) ?_ | refine Ev.neg (by first | omega | assumption | exact Bool.false_ne_true | exact fun e => absurd e (by decide)) ?_ | simp only [bne_self_eq_false, Bool.not_true, Bool.not_false, List.length_cons, List.length_nil] | rw [wrap_id (by omega) (by omega)] | ((with_reducible refine Ev.eq (congrArg some ?_)); rfl))
  exact h1 ht
 | succ d ih =>
  intro i hi ht
  refine Ev.succ ?_; simp only [spec_l03Is.l0]
  rw [wrap_succ (by omega), wrap_id (x := 2 * (l.length : Int)) (by omega) (by omega), wrap_id (x := 2 * (l.length : Int) - 1) (by omega) (by omega), specIn, rd_lt (by omega)]
  by_cases c : 0 ≤ w[i] ∧ w[i] ≤ 2 * (l.length : Int) - 1
  ·rw [decide_eq_true c]
   repeat (first | with_reducible exact Ev.now _ | dsimp only | with_reducible refine Ev.bind (Ev.now _) ?_ | refine Ev.pos (by first | omega | rfl | assumption | decide) ?_ | refine Ev.neg (by first | omega | assumption | exact Bool.false_ne_true | exact fun e => absurd e (by decide)) ?_ | simp only [bne_self_eq_false, Bool.not_true, Bool.not_false, List.length_cons, List.length_nil] | rw [wrap_id (by omega) (by omega)] | with_reducible exact (Ev.now _) | ((with_reducible refine Ev.eq (congrArg some ?_)); rfl))
   refine ih (i + 1) (by omega) ?_
   rw [List.take_succ_eq_append_getElem (by omega), List.all_append, ht, Bool.true_and, List.all_cons, List.all_nil, Bool.and_true]
   exact decide_eq_true c
  ·rw [decide_eq_false c, h2]
   ·repeat (first | with_reducible exact Ev.now _ | dsimp only | with_reducible refine Ev.bind (Ev.now _) ?_ | refine Ev.pos (by first | omega | rfl | assumption | decide) ?_ | refine Ev.neg (by first | omega | assumption | exact Bool.false_ne_true | exact fun e => absurd e (by decide)) ?_ | simp only [bne_self_eq_false, Bool.not_true, Bool.not_false, List.length_cons, List.length_nil] | rw [wrap_id (by omega) (by omega)] | with_reducible exact (Ev.now _) | ((with_reducible refine Ev.eq (congrArg some ?_)); rfl))
   ·unfold dirs
    rw [List.all_eq_false]
    exact ⟨w[i], List.getElem_mem _, by rw [decide_eq_true_iff]; exact c⟩

theorem specIsWalk' (hw : w.length ≤ 1048576) : Ev (fun k => spec_l03Is.f k n l w) (isWalk l w) := by
 unfold spec_l03Is.f isWalk
 by_cases c1 : (w.length : Int) < 1
 ·rw [decide_eq_false (show ¬ (1 ≤ (w.length : Int) ∧ (w.length : Int) ≤ 12) by omega), Bool.false_and]
  repeat (first | with_reducible exact Ev.now _ | dsimp only | refine Ev.pos (by first | omega | rfl | assumption | decide) ?_ | refine Ev.neg (by first | omega | assumption | exact Bool.false_ne_true | exact fun e => absurd e (by decide)) ?_ | simp only [bne_self_eq_false, Bool.not_true, Bool.not_false, List.length_cons, List.length_nil] | rw [wrap_id (by omega) (by omega)] | ((with_reducible refine Ev.eq (congrArg some ?_)); rfl))
  refine Ev.succ ?_; simp only [spec_l03Is.j0]
  repeat (first | with_reducible exact Ev.now _ | dsimp only | refine Ev.pos (by first | omega | rfl | assumption | decide) ?_ | refine Ev.neg (by first | omega | assumption | exact Bool.false_ne_true | exact fun e => absurd e (by decide)) ?_ | simp only [bne_self_eq_false, Bool.not_true, Bool.not_false, List.length_cons, List.length_nil] | rw [wrap_id (by omega) (by omega)] | ((with_reducible refine Ev.eq (congrArg some ?_)); rfl))
 ·by_cases c2 : (w.length : Int) > 12
  ·rw [decide_eq_false (show ¬ (1 ≤ (w.length : Int) ∧ (w.length : Int) ≤ 12) by omega), Bool.false_and, decide_eq_true c2]
   repeat (first | with_reducible exact Ev.now _ | dsimp only | refine Ev.pos (by first | omega | rfl | assumption | decide) ?_ | refine Ev.neg (by first | omega | assumption | exact Bool.false_ne_true | exact fun e => absurd e (by decide)) ?_ | simp only [bne_self_eq_false, Bool.not_true, Bool.not_false, List.length_cons, List.length_nil] | rw [wrap_id (by omega) (by omega)] | ((with_reducible refine Ev.eq (congrArg some ?_)); rfl))
   refine Ev.succ ?_; simp only [spec_l03Is.j0]
   repeat (first | with_reducible exact Ev.now _ | dsimp only | refine Ev.pos (by first | omega | rfl | assumption | decide) ?_ | refine Ev.neg (by first | omega | assumption | exact Bool.false_ne_true | exact fun e => absurd e (by decide)) ?_ | simp only [bne_self_eq_false, Bool.not_true, Bool.not_false, List.length_cons, List.length_nil] | rw [wrap_id (by omega) (by omega)] | ((with_reducible refine Ev.eq (congrArg some ?_)); rfl))
  ·rw [decide_eq_true (show 1 ≤ (w.length : Int) ∧ (w.length : Int) ≤ 12 by omega), Bool.true_and, decide_eq_false c2]
   repeat (first | with_reducible exact Ev.now _ | dsimp only | refine Ev.pos (by first | omega | rfl | assumption | decide) ?_ | refine Ev.neg (by first | omega | assumption | exact Bool.false_ne_true | exact fun e => absurd e (by decide)) ?_ | simp only [bne_self_eq_false, Bool.not_true, Bool.not_false, List.length_cons, List.length_nil] | rw [wrap_id (by omega) (by omega)] | ((with_reducible refine Ev.eq (congrArg some ?_)); rfl))
   refine Ev.succ ?_; simp only [spec_l03Is.j0]
   repeat (first | with_reducible exact Ev.now _ | dsimp only | refine Ev.pos (by first | omega | rfl | assumption | decide) ?_ | refine Ev.neg (by first | omega | assumption | exact Bool.false_ne_true | exact fun e => absurd e (by decide)) ?_ | simp only [bne_self_eq_false, Bool.not_true, Bool.not_false, List.length_cons, List.length_nil] | rw [wrap_id (by omega) (by omega)] | ((with_reducible refine Ev.eq (congrArg some ?_)); rfl))
   refine specDirs_loop h hw _ (fun hd => ?_) (fun hd => by rw [hd, Bool.false_and]) w.length 0 (by omega) (by simp)
   rw [hd, Bool.true_and]
   exact specSteps h hd hw (w.length - 1) 1 (by omega) (by omega)

theorem implDirs_loop (hw : w.length ≤ 1048576) : ∀ (d i : Nat), i + d = w.length →
  ∃ r : Int, Ev (fun k => slices_IndexFunc_int64_int64_109_at_Graph_areDirected_1.l0 k w (w.length : Int) (i : Int) n l) r ∧ (decide (r ≥ 0)) = !(w.drop i).all (fun x => decide (0 ≤ x ∧ x ≤ 2 * (l.length : Int) - 1)) := by
 obtain ⟨g1, g2, g3⟩ := graph_small h
 intro d
 induction d with
 | zero =>
  intro i hi
  refine ⟨-1, ?_, ?_⟩
  ·refine Ev.succ ?_; simp only [slices_IndexFunc_int64_int64_109_at_Graph_areDirected_1.l0]
   repeat (first | with_reducible exact Ev.now _ | dsimp only | refine Ev.pos (by first | omega | rfl | assumption | decide) ?_ | refine Ev.neg (by first | omega | assumption | exact Bool.false_ne_true | exact fun e => absurd e (by decide)) ?_ | simp only [bne_self_eq_false, Bool.not_true, Bool.not_false, List.length_cons, List.length_nil] | rw [wrap_id (by omega) (by omega)] | ((with_reducible refine Ev.eq (congrArg some ?_)); rfl))
  ·rw [List.drop_eq_nil_of_le (by omega)]
   rfl
 | succ d ih =>
  intro i hi
  have hc : impl_Graph_areDirected_1.f w[i] n l = some (!decide (0 ≤ w[i] ∧ w[i] ≤ 2 * (l.length : Int) - 1)) := by
   unfold impl_Graph_areDirected_1.f impl_Graph_size.f
   rw [Option.bind_some, wrap_id (x := 2 * (l.length : Int)) (by omega) (by omega), wrap_id (x := 2 * (l.length : Int) - 1) (by omega) (by omega), implWithin]
   rfl
  by_cases c : 0 ≤ w[i] ∧ w[i] ≤ 2 * (l.length : Int) - 1
  ·rw [decide_eq_true c] at hc
   obtain ⟨r, h1, h2⟩ := ih (i + 1) (by omega)
   refine ⟨r, ?_, ?_⟩
   ·refine Ev.succ ?_; simp only [slices_IndexFunc_int64_int64_109_at_Graph_areDirected_1.l0]
    rw [wrap_succ (by omega), rd_lt (by omega)]
    repeat (first | with_reducible exact Ev.now _ | dsimp only | with_reducible refine Ev.bind (Ev.eq hc) ?_ | refine Ev.pos (by first | omega | rfl | assumption | decide) ?_ | refine Ev.neg (by first | omega | assumption | exact Bool.false_ne_true | exact fun e => absurd e (by decide)) ?_ | simp only [bne_self_eq_false, Bool.not_true, Bool.not_false, List.length_cons, List.length_nil] | rw [wrap_id (by omega) (by omega)] | with_reducible exact (Ev.eq hc) | ((with_reducible refine Ev.eq (congrArg some ?_)); rfl))
    exact h1
   ·rw [List.drop_eq_getElem_cons (by omega : i < w.length), List.all_cons, decide_eq_true c, Bool.true_and]
    exact h2
  ·rw [decide_eq_false c] at hc
   refine ⟨(i : Int), ?_, ?_⟩
   ·refine Ev.succ ?_; simp only [slices_IndexFunc_int64_int64_109_at_Graph_areDirected_1.l0]
    rw [wrap_succ (by omega), rd_lt (by omega)]
    repeat (first | with_reducible exact Ev.now _ | dsimp only | with_reducible refine Ev.bind (Ev.eq hc) ?_ | refine Ev.pos (by first | omega | rfl | assumption | decide) ?_ | refine Ev.neg (by first | omega | assumption | exact Bool.false_ne_true | exact fun e => absurd e (by decide)) ?_ | simp only [bne_self_eq_false, Bool.not_true, Bool.not_false, List.length_cons, List.length_nil] | rw [wrap_id (by omega) (by omega)] | with_reducible exact (Ev.eq hc) | ((with_reducible refine Ev.eq (congrArg some ?_)); rfl))
   ·rw [List.drop_eq_getElem_cons (by omega : i < w.length), List.all_cons, decide_eq_false c, Bool.false_and]
    simp

theorem implDirs (hw : w.length ≤ 1048576) : Ev (fun k => impl_Graph_areDirected.f k n l w) (dirs l w) := by
 obtain ⟨r, h1, h2⟩ := implDirs_loop h hw w.length 0 (by omega)
 have h1' : Ev (fun k => slices_IndexFunc_int64_int64_109_at_Graph_areDirected_1.f k w n l) r := h1
 unfold impl_Graph_areDirected.f slices_ContainsFunc_int64_int64_96_at_Graph_areDirected_1.f
 rw [List.drop_zero] at h2
 have : dirs l w = !decide (r ≥ 0) := by rw [h2, Bool.not_not]; rfl
 rw [this]
 exact Ev.bind (Ev.bind h1' (Ev.now _)) (Ev.now _)

theorem implIsWalk' (hw : w.length ≤ 1048576) : Ev (fun k => impl_Graph_isWalk.f k n l w) (isWalk l w) := by
 unfold impl_Graph_isWalk.f isWalk
 rw [implWithin]
 by_cases c1 : 1 ≤ (w.length : Int) ∧ (w.length : Int) ≤ 12
 ·rw [decide_eq_true c1, Bool.true_and]
  have hq := implDirs h hw
  cases hd : dirs l w with
  | true =>
   rw [hd] at hq
   rw [Bool.true_and]
   repeat (first | with_reducible exact Ev.now _ | dsimp only | with_reducible refine Ev.bind (Ev.now _) ?_ | with_reducible refine Ev.bind (hq) ?_ | refine Ev.pos (by first | omega | rfl | assumption | decide) ?_ | refine Ev.neg (by first | omega | assumption | exact Bool.false_ne_true | exact fun e => absurd e (by decide)) ?_ | simp only [bne_self_eq_false, Bool.not_true, Bool.not_false, List.length_cons, List.length_nil] | rw [wrap_id (by omega) (by omega)] | with_reducible exact (Ev.now _) | with_reducible exact (hq) | ((with_reducible refine Ev.eq (congrArg some ?_)); rfl))
   refine Ev.succ ?_; simp only [impl_Graph_isWalk.j0]
   repeat (first | with_reducible exact Ev.now _ | dsimp only | refine Ev.pos (by first | omega | rfl | assumption | decide) ?_ | refine Ev.neg (by first | omega | assumption | exact Bool.false_ne_true | exact fun e => absurd e (by decide)) ?_ | simp only [bne_self_eq_false, Bool.not_true, Bool.not_false, List.length_cons, List.length_nil] | rw [wrap_id (by omega) (by omega)] | ((with_reducible refine Ev.eq (congrArg some ?_)); rfl))
   exact implSteps h hd hw (w.length - 1) 1 (by omega) (by omega)
  | false =>
   rw [hd] at hq
   rw [Bool.false_and]
   repeat (first | with_reducible exact Ev.now _ | dsimp only | with_reducible refine Ev.bind (Ev.now _) ?_ | with_reducible refine Ev.bind (hq) ?_ | refine Ev.pos (by first | omega | rfl | assumption | decide) ?_ | refine Ev.neg (by first | omega | assumption | exact Bool.false_ne_true | exact fun e => absurd e (by decide)) ?_ | simp only [bne_self_eq_false, Bool.not_true, Bool.not_false, List.length_cons, List.length_nil] | rw [wrap_id (by omega) (by omega)] | with_reducible exact (Ev.now _) | with_reducible exact (hq) | ((with_reducible refine Ev.eq (congrArg some ?_)); rfl))
   refine Ev.succ ?_; simp only [impl_Graph_isWalk.j0]
   repeat (first | with_reducible exact Ev.now _ | dsimp only | refine Ev.pos (by first | omega | rfl | assumption | decide) ?_ | refine Ev.neg (by first | omega | assumption | exact Bool.false_ne_true | exact fun e => absurd e (by decide)) ?_ | simp only [bne_self_eq_false, Bool.not_true, Bool.not_false, List.length_cons, List.length_nil] | rw [wrap_id (by omega) (by omega)] | ((with_reducible refine Ev.eq (congrArg some ?_)); rfl))
 ·rw [decide_eq_false c1, Bool.false_and]
  repeat (first | with_reducible exact Ev.now _ | dsimp only | with_reducible refine Ev.bind (Ev.now _) ?_ | refine Ev.pos (by first | omega | rfl | assumption | decide) ?_ | refine Ev.neg (by first | omega | assumption | exact Bool.false_ne_true | exact fun e => absurd e (by decide)) ?_ | simp only [bne_self_eq_false, Bool.not_true, Bool.not_false, List.length_cons, List.length_nil] | rw [wrap_id (by omega) (by omega)] | with_reducible exact (Ev.now _) | ((with_reducible refine Ev.eq (congrArg some ?_)); rfl))
  refine Ev.succ ?_; simp only [impl_Graph_isWalk.j0]
  repeat (first | with_reducible exact Ev.now _ | dsimp only | refine Ev.pos (by first | omega | rfl | assumption | decide) ?_ | refine Ev.neg (by first | omega | assumption | exact Bool.false_ne_true | exact fun e => absurd e (by decide)) ?_ | simp only [bne_self_eq_false, Bool.not_true, Bool.not_false, List.length_cons, List.length_nil] | rw [wrap_id (by omega) (by omega)] | ((with_reducible refine Ev.eq (congrArg some ?_)); rfl))

end
/-- 1: no graph; 2: no walk; 0: both are well. -/
def code (n : Int) (l : List (List Int)) (w : List Int) : Int := if isGraph n l = true then (if isWalk l w = true then 0 else 2) else 1

theorem specCode (n : Int) (l : List (List Int)) (w : List Int) (hl : Mod l) (hw : w.length ≤ 1048576) : Ev (fun k => spec_l03Code.f k n l w) (code n l w) := by
 have h1 := specIs n l hl
 unfold spec_l03Code.f code
 by_cases hg : isGraph n l = true
 ·have w1 := specIsWalk' hg hw
  rw [hg] at h1
  rw [if_pos hg]
  by_cases hk : isWalk l w = true
  ·rw [hk] at w1
   rw [if_pos hk]
   repeat (first | with_reducible exact Ev.now _ | dsimp only | with_reducible refine Ev.bind (h1) ?_ | with_reducible refine Ev.bind (w1) ?_ | refine Ev.pos (by first | omega | rfl | assumption | decide) ?_ | refine Ev.neg (by first | omega | assumption | exact Bool.false_ne_true | exact fun e => absurd e (by decide)) ?_ | simp only [bne_self_eq_false, Bool.not_true, Bool.not_false, List.length_cons, List.length_nil] | rw [wrap_id (by omega) (by omega)] | with_reducible exact (h1) | with_reducible exact (w1) | ((with_reducible refine Ev.eq (congrArg some ?_)); rfl))
  ·rw [Bool.not_eq_true] at hk
   rw [hk] at w1
   rw [if_neg (by rw [hk]; decide)]
   repeat (first | with_reducible exact Ev.now _ | dsimp only | with_reducible refine Ev.bind (h1) ?_ | with_reducible refine Ev.bind (w1) ?_ | refine Ev.pos (by first | omega | rfl | assumption | decide) ?_ | refine Ev.neg (by first | omega | assumption | exact Bool.false_ne_true | exact fun e => absurd e (by decide)) ?_ | simp only [bne_self_eq_false, Bool.not_true, Bool.not_false, List.length_cons, List.length_nil] | rw [wrap_id (by omega) (by omega)] | with_reducible exact (h1) | with_reducible exact (w1) | ((with_reducible refine Ev.eq (congrArg some ?_)); rfl))
 ·rw [Bool.not_eq_true] at hg
  rw [hg] at h1
  rw [if_neg (by rw [hg]; decide)]
  repeat (first | with_reducible exact Ev.now _ | dsimp only | with_reducible refine Ev.bind (h1) ?_ | refine Ev.pos (by first | omega | rfl | assumption | decide) ?_ | refine Ev.neg (by first | omega | assumption | exact Bool.false_ne_true | exact fun e => absurd e (by decide)) ?_ | simp only [bne_self_eq_false, Bool.not_true, Bool.not_false, List.length_cons, List.length_nil] | rw [wrap_id (by omega) (by omega)] | with_reducible exact (h1) | ((with_reducible refine Ev.eq (congrArg some ?_)); rfl))

theorem implCode (n : Int) (l : List (List Int)) (w : List Int) (hl : Mod l) (hw : w.length ≤ 1048576) : Ev (fun k => impl_walkCode.f k n l w) (code n l w) := by
 have h1 := implIsGraph n l hl
 unfold impl_walkCode.f impl_graphCode_at_walkCode_1.f impl_walkCode_1.f code
 by_cases hg : isGraph n l = true
 ·have w1 := implIsWalk' hg hw
  rw [hg] at h1
  rw [if_pos hg]
  by_cases hk : isWalk l w = true
  ·rw [hk] at w1
   rw [if_pos hk]
   exact Ev.bind (Ev.bind h1 (Ev.pos rfl (Ev.bind (Ev.bind w1 (Ev.now _)) (Ev.pos rfl (Ev.now _))))) (Ev.now _)
  ·rw [Bool.not_eq_true] at hk
   rw [hk] at w1
   rw [if_neg (by rw [hk]; decide)]
   exact Ev.bind (Ev.bind h1 (Ev.pos rfl (Ev.bind (Ev.bind w1 (Ev.now _)) (Ev.neg (by decide) (Ev.now _))))) (Ev.now _)
 ·rw [Bool.not_eq_true] at hg
  rw [hg] at h1
  rw [if_neg (by rw [hg]; decide)]
  exact Ev.bind (Ev.bind h1 (Ev.neg (by decide) (Ev.now _))) (Ev.now _)

theorem code_zero {n : Int} {l : List (List Int)} {w : List Int} (h : code n l w = 0) : isGraph n l = true ∧ isWalk l w = true := by
 unfold code at h
 by_cases hg : isGraph n l = true
 ·rw [if_pos hg] at h
  by_cases hk : isWalk l w = true
  ·exact ⟨hg, hk⟩
  ·rw [if_neg hk] at h
   cases h
 ·rw [if_neg hg] at h
  cases h

theorem walk_form {l : List (List Int)} {w : List Int} (h : isWalk l w = true) : 1 ≤ w.length ∧ w.length ≤ 12 ∧ dirs l w = true ∧ steps l w (w.length - 1) 1 = true := by
 unfold isWalk at h
 rw [Bool.and_eq_true, Bool.and_eq_true, decide_eq_true_iff] at h
 obtain ⟨h1, h2, h3⟩ := h
 exact ⟨by omega, by omega, h2, h3⟩
/-- d steps of the closed chain from the place i on. -/
def cyc (l : List (List Int)) (w : List Int) : Nat → Nat → Bool
 | 0, _ => true
 | d + 1, i => next l (rd w (i : Int)).toNat (rd w (((i + 1) % w.length : Nat) : Int)).toNat && cyc l w d (i + 1)

theorem mod_next (i n : Nat) (h : i < 1048576) : Int.tmod (wrap64 ((i : Int) + 1)) (n : Int) = (((i + 1) % n : Nat) : Int) := by
 rw [wrap_succ (by omega), Int.tmod_eq_emod_of_nonneg (by omega)]
 rfl

section
variable {n : Int} {l : List (List Int)} (h : isGraph n l = true) {w : List Int}
include h

theorem implCyc (hd : dirs l w = true) (hw : w.length ≤ 1048576) : ∀ (d i : Nat), i + d = w.length → Ev (fun k => impl_Graph_isStraight.l0 k w w (w.length : Int) (i : Int) n l) (cyc l w d i && decide ((w.length : Int) > 0)) := by
 obtain ⟨g1, g2, g3⟩ := graph_small h
 intro d
 induction d with
 | zero =>
  intro i hi
  refine Ev.succ ?_; simp only [impl_Graph_isStraight.l0]
  unfold cyc
  rw [Bool.true_and]
  repeat (first | with_reducible exact Ev.now _ | dsimp only | refine Ev.pos (by first | omega | rfl | assumption | decide) ?_ | refine Ev.neg (by first | omega | assumption | exact Bool.false_ne_true | exact fun e => absurd e (by decide)) ?_ | simp only [bne_self_eq_false, Bool.not_true, Bool.not_false, List.length_cons, List.length_nil] | rw [wrap_id (by omega) (by omega)] | ((with_reducible refine Ev.eq (congrArg some ?_)); rfl))
 | succ d ih =>
  intro i hi
  have hm : (i + 1) % w.length < w.length := Nat.mod_lt _ (by omega)
  obtain ⟨e1, r1⟩ := dirs_at hd (show i < w.length by omega)
  obtain ⟨e2, r2⟩ := dirs_at hd hm
  have := ih (i + 1) (by omega)
  have ha := implEnds h r1
  have hb := implEnds h r2
  have hx := xor_inv (rd w (i : Int)).toNat (by omega)
  rw [← e1] at ha hx
  rw [← e2] at hb
  refine Ev.succ ?_; simp only [impl_Graph_isStraight.l0]
  unfold cyc next
  rw [mod_next i w.length (by omega), wrap_succ (by omega), hx]
  by_cases c1 : Pure.hd l (rd w (i : Int)).toNat = tl l (rd w (((i + 1) % w.length : Nat) : Int)).toNat
  ·rw [decide_eq_true c1, Bool.true_and]
   by_cases c2 : (rd w (((i + 1) % w.length : Nat) : Int)).toNat = inv (rd w (i : Int)).toNat
   ·rw [decide_eq_false (show ¬ ((rd w (((i + 1) % w.length : Nat) : Int)).toNat ≠ inv (rd w (i : Int)).toNat) from fun e => e c2), Bool.false_and, Bool.false_and]
    have c2' : rd w (((i + 1) % w.length : Nat) : Int) = ((inv (rd w (i : Int)).toNat : Nat) : Int) := by omega
    repeat (first | with_reducible exact Ev.now _ | dsimp only | with_reducible refine Ev.bind (Ev.eq ha) ?_ | with_reducible refine Ev.bind (Ev.eq hb) ?_ | refine Ev.pos (by first | omega | rfl | assumption | decide) ?_ | refine Ev.neg (by first | omega | assumption | exact Bool.false_ne_true | exact fun e => absurd e (by decide)) ?_ | simp only [bne_self_eq_false, Bool.not_true, Bool.not_false, List.length_cons, List.length_nil] | rw [wrap_id (by omega) (by omega)] | with_reducible exact (Ev.eq ha) | with_reducible exact (Ev.eq hb) | ((with_reducible refine Ev.eq (congrArg some ?_)); rfl))
   ·rw [decide_eq_true (show (rd w (((i + 1) % w.length : Nat) : Int)).toNat ≠ inv (rd w (i : Int)).toNat from c2), Bool.true_and]
    have c2' : ¬ rd w (((i + 1) % w.length : Nat) : Int) = ((inv (rd w (i : Int)).toNat : Nat) : Int) := by omega
    repeat (first | with_reducible exact Ev.now _ | dsimp only | with_reducible refine Ev.bind (Ev.eq ha) ?_ | with_reducible refine Ev.bind (Ev.eq hb) ?_ | refine Ev.pos (by first | omega | rfl | assumption | decide) ?_ | refine Ev.neg (by first | omega | assumption | exact Bool.false_ne_true | exact fun e => absurd e (by decide)) ?_ | simp only [bne_self_eq_false, Bool.not_true, Bool.not_false, List.length_cons, List.length_nil] | rw [wrap_id (by omega) (by omega)] | with_reducible exact (Ev.eq ha) | with_reducible exact (Ev.eq hb) | ((with_reducible refine Ev.eq (congrArg some ?_)); rfl))
    exact this
  ·rw [decide_eq_false c1, Bool.false_and, Bool.false_and, Bool.false_and]
   repeat (first | with_reducible exact Ev.now _ | dsimp only | with_reducible refine Ev.bind (Ev.eq ha) ?_ | with_reducible refine Ev.bind (Ev.eq hb) ?_ | refine Ev.pos (by first | omega | rfl | assumption | decide) ?_ | refine Ev.neg (by first | omega | assumption | exact Bool.false_ne_true | exact fun e => absurd e (by decide)) ?_ | simp only [bne_self_eq_false, Bool.not_true, Bool.not_false, List.length_cons, List.length_nil] | rw [wrap_id (by omega) (by omega)] | with_reducible exact (Ev.eq ha) | with_reducible exact (Ev.eq hb) | ((with_reducible refine Ev.eq (congrArg some ?_)); rfl))

theorem implStraight (hd : dirs l w = true) (hw : w.length ≤ 1048576) : Ev (fun k => impl_Graph_isStraight.f k n l w) (cyc l w w.length 0 && decide ((w.length : Int) > 0)) := by
 unfold impl_Graph_isStraight.f
 exact implCyc h hd hw w.length 0 (by omega)

end
theorem markInt64S_loop (n : Nat) (hn : n ≤ 1048576) (a : Int) (h0 : 0 ≤ a) (h1 : a ≤ 1125899906842624) : ∀ (d i : Nat) (ys : List Int), i + d = n → ys.length = n → ys.take i = (marks a n).take i →
  Ev (fun k => laws_markInt64S.l0 k ys (a + i) (i : Int)) (a + n, marks a n) := by
 intro d
 induction d with
 | zero =>
  intro i ys hi hy ht
  refine Ev.succ ?_; simp only [laws_markInt64S.l0]
  rw [show ys = marks a n from eq_of_take (by rw [hy, marks_length]) (by rw [marks_length]; omega) ht, show i = n by omega]
  have := marks_length a n
  repeat (first | with_reducible exact Ev.now _ | dsimp only | refine Ev.pos (by first | omega | rfl | assumption | decide) ?_ | refine Ev.neg (by first | omega | assumption | exact Bool.false_ne_true | exact fun e => absurd e (by decide)) ?_ | simp only [bne_self_eq_false, Bool.not_true, Bool.not_false, List.length_cons, List.length_nil] | rw [wrap_id (by omega) (by omega)] | ((with_reducible refine Ev.eq (congrArg some ?_)); rfl))
 | succ d ih =>
  intro i ys hi hy ht
  refine Ev.succ ?_; simp only [laws_markInt64S.l0]
  rw [wrap_succ (by omega), wrap_id (x := a + i + 1) (by omega) (by omega)]
  repeat (first | with_reducible exact Ev.now _ | dsimp only | refine Ev.pos (by first | omega | rfl | assumption | decide) ?_ | refine Ev.neg (by first | omega | assumption | exact Bool.false_ne_true | exact fun e => absurd e (by decide)) ?_ | simp only [bne_self_eq_false, Bool.not_true, Bool.not_false, List.length_cons, List.length_nil] | rw [wrap_id (by omega) (by omega)] | ((with_reducible refine Ev.eq (congrArg some ?_)); rfl))
  have := ih (i + 1) (ys.set i (a + i)) (by omega) (by simpa using hy) (take_set_succ (by rw [hy, marks_length]) (by rw [marks_length]; omega) (marks_get a n i (by rw [marks_length]; omega)).symm ht)
  rw [show a + ((i + 1 : Nat) : Int) = a + i + 1 by omega] at this
  exact this

theorem markInt64S (l : List Int) (hl : l.length ≤ 1048576) (a : Int) (h0 : 0 ≤ a) (h1 : a ≤ 1125899906842624) : Ev (fun k => laws_markInt64S.f k l a) (a + l.length, marks a l.length) := by
 unfold laws_markInt64S.f
 have := markInt64S_loop l.length hl a h0 h1 l.length 0 l (by omega) rfl (by simp)
 rw [show a + ((0 : Nat) : Int) = a by omega] at this
 exact this

theorem heldInt64S_loop (n : Nat) (hn : n ≤ 1048576) (a : Int) (h0 : 0 ≤ a) (h1 : a ≤ 1125899906842624) : ∀ (d i : Nat), i + d = n →
  Ev (fun k => laws_heldInt64S.l0 k (marks a n) (a + i) (i : Int)) (a + n) := by
 have hm := marks_length a n
 intro d
 induction d with
 | zero =>
  intro i hi
  refine Ev.succ ?_; simp only [laws_heldInt64S.l0]
  rw [show i = n by omega]
  repeat (first | with_reducible exact Ev.now _ | dsimp only | refine Ev.pos (by first | omega | rfl | assumption | decide) ?_ | refine Ev.neg (by first | omega | assumption | exact Bool.false_ne_true | exact fun e => absurd e (by decide)) ?_ | simp only [bne_self_eq_false, Bool.not_true, Bool.not_false, List.length_cons, List.length_nil] | rw [wrap_id (by omega) (by omega)] | ((with_reducible refine Ev.eq (congrArg some ?_)); rfl))
 | succ d ih =>
  intro i hi
  refine Ev.succ ?_; simp only [laws_heldInt64S.l0]
  rw [wrap_succ (by omega), wrap_id (x := a + i + 1) (by omega) (by omega)]
  have e := marks_get a n i (by omega)
  rw [← rd_lt] at e
  have := ih (i + 1) (by omega)
  rw [show a + ((i + 1 : Nat) : Int) = a + i + 1 by omega] at this
  repeat (first | with_reducible exact Ev.now _ | dsimp only | refine Ev.pos (by first | omega | rfl | assumption | decide) ?_ | refine Ev.neg (by first | omega | assumption | exact Bool.false_ne_true | exact fun e => absurd e (by decide)) ?_ | simp only [bne_self_eq_false, Bool.not_true, Bool.not_false, List.length_cons, List.length_nil] | rw [wrap_id (by omega) (by omega)] | ((with_reducible refine Ev.eq (congrArg some ?_)); rfl))
  exact this

theorem heldInt64S (a : Int) (n : Nat) (hn : n ≤ 1048576) (h0 : 0 ≤ a) (h1 : a ≤ 1125899906842624) : Ev (fun k => laws_heldInt64S.f k (marks a n) a) (a + n) := by
 unfold laws_heldInt64S.f
 have := heldInt64S_loop n hn a h0 h1 n 0 (by omega)
 rw [show a + ((0 : Nat) : Int) = a by omega] at this
 exact this
theorem markInt64SS_loop : ∀ (d i : Nat) (xs : List (List Int)) (a : Int), i + d = xs.length → xs.length ≤ 1048576 → (∀ r ∈ xs, r.length ≤ 1048576) → 0 ≤ a → a ≤ 1 + 1048576 * i →
  ∃ r : Int × List (List Int), Ev (fun k => laws_markInt64SS.l0 k xs a (i : Int)) r ∧ 0 ≤ r.1 ∧ r.1 ≤ 1 + 1048576 * xs.length := by
 intro d
 induction d with
 | zero =>
  intro i xs a hi hx hr h0 h1
  refine ⟨(a, xs), ?_, h0, by simp only; omega⟩
  refine Ev.succ ?_; simp only [laws_markInt64SS.l0]
  repeat (first | with_reducible exact Ev.now _ | dsimp only | refine Ev.pos (by first | omega | rfl | assumption | decide) ?_ | refine Ev.neg (by first | omega | assumption | exact Bool.false_ne_true | exact fun e => absurd e (by decide)) ?_ | simp only [bne_self_eq_false, Bool.not_true, Bool.not_false, List.length_cons, List.length_nil] | rw [wrap_id (by omega) (by omega)] | ((with_reducible refine Ev.eq (congrArg some ?_)); rfl))
 | succ d ih =>
  intro i xs a hi hx hr h0 h1
  have hlen : xs[i].length ≤ 1048576 := hr _ (List.getElem_mem (by omega))
  obtain ⟨r, h2, h3⟩ := ih (i + 1) (xs.set i (marks a xs[i].length)) (a + xs[i].length) (by simp; omega) (by simpa using hx) (fun r hm => by
   rcases List.mem_or_eq_of_mem_set hm with h | h
   ·exact hr r h
   ·rw [h, marks_length]; exact hlen) (by omega) (by omega)
  rw [List.length_set] at h3
  refine ⟨r, ?_, h3⟩
  refine Ev.succ ?_; simp only [laws_markInt64SS.l0]
  rw [wrap_succ (by omega), rl_lt (by omega)]
  repeat (first | with_reducible exact Ev.now _ | dsimp only | with_reducible refine Ev.bind (markInt64S xs[i] hlen a h0 (by omega)) ?_ | refine Ev.pos (by first | omega | rfl | assumption | decide) ?_ | refine Ev.neg (by first | omega | assumption | exact Bool.false_ne_true | exact fun e => absurd e (by decide)) ?_ | simp only [bne_self_eq_false, Bool.not_true, Bool.not_false, List.length_cons, List.length_nil] | rw [wrap_id (by omega) (by omega)] | with_reducible exact (markInt64S xs[i] hlen a h0 (by omega)) | ((with_reducible refine Ev.eq (congrArg some ?_)); rfl))
  exact h2

theorem markGraph (n : Int) (l : List (List Int)) (hl : Mod l) : ∃ r : Int × List (List Int), Ev (fun k => laws_markGraph.f k n l 1) r ∧ 0 ≤ r.1 ∧ r.1 ≤ 1099511627777 := by
 unfold laws_markGraph.f laws_markInt64SS.f
 have hl1 := hl.1
 obtain ⟨r, h1, h2, h3⟩ := markInt64SS_loop l.length 0 l 1 (by omega) hl.1 hl.2 (by decide) (by omega)
 exact ⟨r, h1, h2, by omega⟩
theorem cyc_of_steps (l : List (List Int)) (w : List Int) : ∀ (d i : Nat), i + 1 + d = w.length → steps l w d (i + 1) = true → cyc l w (d + 1) i = next l (rd w ((w.length - 1 : Nat) : Int)).toNat (rd w 0).toNat := by
 intro d
 induction d with
 | zero =>
  intro i hi hs
  unfold cyc cyc
  rw [Bool.and_true, show (i + 1) % w.length = 0 by rw [show i + 1 = w.length by omega, Nat.mod_self], show i = w.length - 1 by omega]
  rfl
 | succ d ih =>
  intro i hi hs
  unfold steps at hs
  rw [Bool.and_eq_true] at hs
  unfold cyc
  rw [Nat.mod_eq_of_lt (by omega), ih (i + 1) (by omega) hs.2]
  have := hs.1
  rw [show i + 1 - 1 = i by omega] at this
  rw [this, Bool.true_and]

def turn (w : List Int) (k : Nat) : List Int := w.drop k ++ w.take k

theorem turn_length (w : List Int) (k : Nat) : (turn w k).length = w.length := by
 unfold turn
 rw [List.length_append, List.length_drop, List.length_take]
 omega

/-- Does a list come before another one? -/
def bf : List Int → List Int → Bool
 | x :: xs, y :: ys => if x = y then bf xs ys else decide (x < y)
 | _, _ => false

theorem bf_self (a : List Int) : bf a a = false := by
 induction a with
 | nil => rfl
 | cons x xs ih => unfold bf; rw [if_pos rfl, ih]

theorem bf_or : ∀ (a b : List Int), a.length = b.length → (bf a b || bf b a) = decide (a ≠ b) := by
 intro a
 induction a with
 | nil =>
  intro b hb
  match b, hb with
  | [], _ => rfl
  | y :: ys, hb => simp at hb
 | cons x xs ih =>
  intro b hb
  match b, hb with
  | [], hb => simp at hb
  | y :: ys, hb =>
   unfold bf
   by_cases c : x = y
   ·subst c
    rw [if_pos rfl, if_pos rfl, ih ys (by simpa using hb)]
    by_cases c2 : xs = ys
    ·rw [c2]; simp
    ·rw [decide_eq_true c2, decide_eq_true (by intro e; exact c2 (List.cons.inj e).2)]
   ·rw [if_neg c, if_neg (fun e => c e.symm), decide_eq_true (show x :: xs ≠ y :: ys from fun e => c (List.cons.inj e).1)]
    by_cases c2 : x < y
    ·rw [decide_eq_true c2, Bool.true_or]
    ·rw [decide_eq_false c2, decide_eq_true (by omega), Bool.false_or]

theorem specTurn (w : List Int) (k : Nat) (hk : k ≤ w.length) (hw : w.length ≤ 1000) : spec_l03Turn.f w (k : Int) = some (turn w k) := by
 unfold spec_l03Turn.f spec_l01Own.f turn
 rw [if_pos (by omega), if_pos (by omega), Int.toNat_natCast]
 have h1 : (w.drop k).length ≤ 1000 := by rw [List.length_drop]; omega
 have h2 : (w.take k).length ≤ 1000 := by rw [List.length_take]; omega
 simp only [Option.bind_some, List.length_nil, List.nil_append]
 rw [if_pos (by omega), Option.bind_some, if_pos (by omega)]

theorem implTurned (w : List Int) (k : Nat) (hk : k ≤ w.length) (hw : w.length ≤ 1000) (h0 : 0 < w.length) : impl_turned.f w (k : Int) = some (turn w k) := by
 unfold impl_turned.f turn
 rw [if_pos (by omega), if_pos (by omega), if_pos h0, if_pos hw, Int.toNat_natCast]

theorem specBefore (a b : List Int) (hab : a.length = b.length) (hl : a.length ≤ 1000) : Ev (fun k => spec_l03Before.f k a b) (bf a b) := by
 have : ∀ (d i : Nat), i + d = a.length → Ev (fun k => spec_l03Before.l0 k a b (i : Int)) (bf (a.drop i) (b.drop i)) := by
  intro d
  induction d with
  | zero =>
   intro i hi
   rw [List.drop_eq_nil_of_le (by omega)]
   refine Ev.succ ?_; simp only [spec_l03Before.l0]
   exact Ev.neg (by omega) (Ev.now _)
  | succ d ih =>
   intro i hi
   have h1 := ih (i + 1) (by omega)
   rw [List.drop_eq_getElem_cons (by omega : i < a.length), List.drop_eq_getElem_cons (by omega : i < b.length)]
   refine Ev.succ ?_; simp only [spec_l03Before.l0]
   unfold bf
   rw [rd_lt (by omega), rd_lt (by omega), wrap_succ (i := i) (by omega)]
   by_cases c : a[i] = b[i]
   ·rw [if_pos c]
    exact Ev.pos (by omega) (Ev.pos (by omega) (Ev.pos (by omega) (Ev.pos c h1)))
   ·rw [if_neg c]
    exact Ev.pos (by omega) (Ev.pos (by omega) (Ev.pos (by omega) (Ev.neg c (Ev.now _))))
 exact this a.length 0 (by omega)

theorem libEqual2 (a b : List Int) (hl : a.length ≤ 1048576) : Ev (fun k => slices_Equal_int64_int64.f k a b) (decide (a = b)) := by
 unfold slices_Equal_int64_int64.f
 by_cases h : a.length = b.length
 ·refine Ev.pos (by omega) ?_
  have : ∀ (d i : Nat), i + d = a.length → Ev (fun k => slices_Equal_int64_int64.l0 k a b (a.length : Int) (i : Int)) (decide (a.drop i = b.drop i)) := by
   intro d
   induction d with
   | zero =>
    intro i hi
    refine Ev.succ ?_; simp only [slices_Equal_int64_int64.l0]
    rw [List.drop_eq_nil_of_le (by omega), List.drop_eq_nil_of_le (by omega)]
    repeat (first | with_reducible exact Ev.now _ | dsimp only | refine Ev.pos (by first | omega | rfl | assumption | decide) ?_ | refine Ev.neg (by first | omega | assumption | exact Bool.false_ne_true | exact fun e => absurd e (by decide)) ?_ | simp only [bne_self_eq_false, Bool.not_true, Bool.not_false, List.length_cons, List.length_nil] | rw [wrap_id (by omega) (by omega)] | ((with_reducible refine Ev.eq (congrArg some ?_)); rfl))
   | succ d ih =>
    intro i hi
    refine Ev.succ ?_; simp only [slices_Equal_int64_int64.l0]
    rw [List.drop_eq_getElem_cons (by omega : i < a.length), List.drop_eq_getElem_cons (by omega : i < b.length), wrap_succ (by omega)]
    by_cases e : rd a i = rd b i
    ·repeat (first | with_reducible exact Ev.now _ | dsimp only | refine Ev.pos (by first | omega | rfl | assumption | decide) ?_ | refine Ev.neg (by first | omega | assumption | exact Bool.false_ne_true | exact fun e => absurd e (by decide)) ?_ | simp only [bne_self_eq_false, Bool.not_true, Bool.not_false, List.length_cons, List.length_nil] | rw [wrap_id (by omega) (by omega)] | ((with_reducible refine Ev.eq (congrArg some ?_)); rfl))
     have := ih (i + 1) (by omega)
     rw [rd_lt (by omega), rd_lt (by omega)] at e
     rw [e, decide_cons]
     exact this
    ·rw [decide_eq_false (fun h => e (by rw [rd_lt (by omega), rd_lt (by omega)]; exact (List.cons.inj h).1))]
     repeat (first | with_reducible exact Ev.now _ | dsimp only | refine Ev.pos (by first | omega | rfl | assumption | decide) ?_ | refine Ev.neg (by first | omega | assumption | exact Bool.false_ne_true | exact fun e => absurd e (by decide)) ?_ | simp only [bne_self_eq_false, Bool.not_true, Bool.not_false, List.length_cons, List.length_nil] | rw [wrap_id (by omega) (by omega)] | ((with_reducible refine Ev.eq (congrArg some ?_)); rfl))
  exact this a.length 0 (by omega)
 ·rw [decide_eq_false (fun e => h (by rw [e]))]
  repeat (first | with_reducible exact Ev.now _ | dsimp only | refine Ev.pos (by first | omega | rfl | assumption | decide) ?_ | refine Ev.neg (by first | omega | assumption | exact Bool.false_ne_true | exact fun e => absurd e (by decide)) ?_ | simp only [bne_self_eq_false, Bool.not_true, Bool.not_false, List.length_cons, List.length_nil] | rw [wrap_id (by omega) (by omega)] | ((with_reducible refine Ev.eq (congrArg some ?_)); rfl))

theorem libCompare (a b : List Int) (hab : a.length = b.length) (hl : a.length ≤ 1000) : ∃ z : Int, Ev (fun k => slices_Compare_int64_int64.f k a b) z ∧ decide (z < 0) = bf a b := by
 have : ∀ (d i : Nat), i + d = a.length → ∃ z : Int, Ev (fun k => slices_Compare_int64_int64.l0 k a b a (a.length : Int) (i : Int)) z ∧ decide (z < 0) = bf (a.drop i) (b.drop i) := by
  intro d
  induction d with
  | zero =>
   intro i hi
   rw [List.drop_eq_nil_of_le (by omega)]
   refine ⟨0, ?_, rfl⟩
   refine Ev.succ ?_; simp only [slices_Compare_int64_int64.l0]
   exact Ev.neg (by omega) (Ev.neg (by omega) (Ev.now _))
  | succ d ih =>
   intro i hi
   obtain ⟨z, h1, h2⟩ := ih (i + 1) (by omega)
   rw [List.drop_eq_getElem_cons (by omega : i < a.length), List.drop_eq_getElem_cons (by omega : i < b.length)]
   have hc : ∀ x y : Int, cmp_Compare_int64.f x y = some (if x < y then -1 else if x > y then 1 else 0) := by
    intro x y
    unfold cmp_Compare_int64.f cmp_isNaN_int64.f
    simp only [bne_self_eq_false, Option.bind_some, if_false, Bool.false_eq_true]
    split
    ·rfl
    ·split <;> rfl
   unfold bf
   by_cases c : a[i] = b[i]
   ·refine ⟨z, ?_, by rw [if_pos c]; exact h2⟩
    refine Ev.succ ?_; simp only [slices_Compare_int64_int64.l0]
    rw [hc, rd_lt (by omega), rd_lt (by omega), wrap_succ (i := i) (by omega), c, if_neg (Int.lt_irrefl _), if_neg (Int.lt_irrefl _)]
    exact Ev.pos (by omega) (Ev.pos (by omega) (Ev.pos (by omega) (Ev.neg (by omega) (Ev.pos (by omega) (Ev.bind (Ev.now _) (Ev.pos rfl h1))))))
   ·refine ⟨if a[i] < b[i] then -1 else if a[i] > b[i] then 1 else 0, ?_, ?_⟩
    ·refine Ev.succ ?_; simp only [slices_Compare_int64_int64.l0]
     rw [hc, rd_lt (by omega), rd_lt (by omega)]
     refine Ev.pos (by omega) (Ev.pos (by omega) (Ev.pos (by omega) (Ev.neg (by omega) (Ev.pos (by omega) (Ev.bind (Ev.now _) (Ev.neg ?_ (Ev.now _)))))))
     split
     ·decide
     ·rw [if_pos (by omega)]
      decide
    ·rw [if_neg c]
     by_cases c2 : a[i] < b[i]
     ·rw [if_pos c2, decide_eq_true c2]; rfl
     ·rw [if_neg c2, if_pos (by omega), decide_eq_false c2]; rfl
 obtain ⟨z, h1, h2⟩ := this a.length 0 (by omega)
 rw [List.drop_zero, List.drop_zero] at h2
 exact ⟨z, h1, h2⟩

/-- No turn but the whole one is the walk itself: d turns from k on. -/
def noturn (w : List Int) : Nat → Nat → Bool
 | 0, _ => true
 | d + 1, k => decide (turn w k ≠ w) && noturn w d (k + 1)

/-- The least of the turns, of d from k on and of one that is had. -/
def least (w : List Int) : Nat → Nat → List Int → List Int
 | 0, _, b => b
 | d + 1, k, b => if bf (turn w k) b = true then least w d (k + 1) (turn w k) else least w d (k + 1) b

theorem specNoturn (w : List Int) (hw : w.length ≤ 1000) : ∀ (d k : Nat), k + d = w.length → Ev (fun f => spec_l03Prime.l0 f w (k : Int)) (noturn w d k) := by
 intro d
 induction d with
 | zero =>
  intro k hk
  refine Ev.succ ?_; simp only [spec_l03Prime.l0]
  exact Ev.neg (by omega) (Ev.now _)
 | succ d ih =>
  intro k hk
  have h1 := ih (k + 1) (by omega)
  have ht := specTurn w k (by omega) hw
  have hl := turn_length w k
  have b1 := specBefore (turn w k) w hl (by omega)
  have b2 := specBefore w (turn w k) hl.symm (by omega)
  have ho := bf_or (turn w k) w hl
  unfold noturn
  rw [← ho]
  refine Ev.succ ?_; simp only [spec_l03Prime.l0]
  rw [wrap_succ (i := k) (by omega)]
  refine Ev.pos (by omega) (Ev.bind (Ev.eq ht) ?_)
  cases c1 : bf (turn w k) w with
  | true =>
   rw [c1] at b1
   rw [Bool.true_or, Bool.true_and]
   exact Ev.bind b1 (Ev.pos rfl h1)
  | false =>
   rw [c1] at b1
   refine Ev.bind b1 (Ev.neg (by decide) ?_)
   cases c2 : bf w (turn w k) with
   | true =>
    rw [c2] at b2
    rw [Bool.false_or, Bool.true_and]
    exact Ev.bind b2 (Ev.pos rfl h1)
   | false =>
    rw [c2] at b2
    rw [Bool.false_or, Bool.false_and]
    exact Ev.bind b2 (Ev.neg (by decide) (Ev.now _))

theorem specLeast_loop (w : List Int) (hw : w.length ≤ 1000) : ∀ (d k : Nat) (b : List Int), k + d = w.length → b.length = w.length → Ev (fun f => spec_l03Least.l0 f w b (k : Int)) (least w d k b) := by
 intro d
 induction d with
 | zero =>
  intro k b hk hb
  refine Ev.succ ?_; simp only [spec_l03Least.l0]
  exact Ev.neg (by omega) (Ev.now _)
 | succ d ih =>
  intro k b hk hb
  have ht := specTurn w k (by omega) hw
  have hl := turn_length w k
  have b1 := specBefore (turn w k) b (by omega) (by omega)
  unfold least
  refine Ev.succ ?_; simp only [spec_l03Least.l0]
  rw [wrap_succ (i := k) (by omega)]
  refine Ev.pos (by omega) (Ev.bind (Ev.eq ht) ?_)
  cases c1 : bf (turn w k) b with
  | true =>
   rw [c1] at b1
   rw [if_pos rfl]
   exact Ev.bind b1 (Ev.pos rfl (ih (k + 1) _ (by omega) hl))
  | false =>
   rw [c1] at b1
   rw [if_neg (by decide)]
   exact Ev.bind b1 (Ev.neg (by decide) (ih (k + 1) b (by omega) hb))

theorem implLeast_loop (w : List Int) (hw : w.length ≤ 1000) (h0 : 0 < w.length) : ∀ (d k : Nat) (b : List Int), k + d = w.length → b.length = w.length → Ev (fun f => impl_leastTurn.l0 f w b (w.length : Int) (k : Int)) (least w d k b) := by
 intro d
 induction d with
 | zero =>
  intro k b hk hb
  refine Ev.succ ?_; simp only [impl_leastTurn.l0]
  exact Ev.neg (by omega) (Ev.now _)
 | succ d ih =>
  intro k b hk hb
  have ht := implTurned w k (by omega) hw h0
  have hl := turn_length w k
  obtain ⟨z, z1, z2⟩ := libCompare (turn w k) b (by omega) (by omega)
  unfold least
  refine Ev.succ ?_; simp only [impl_leastTurn.l0]
  rw [wrap_succ (i := k) (by omega)]
  refine Ev.pos (by omega) (Ev.bind (Ev.eq ht) (Ev.bind z1 ?_))
  cases c1 : bf (turn w k) b with
  | true =>
   rw [c1] at z2
   rw [if_pos rfl]
   exact Ev.pos (of_decide_eq_true z2) (ih (k + 1) _ (by omega) hl)
  | false =>
   rw [c1] at z2
   rw [if_neg (by decide)]
   exact Ev.neg (of_decide_eq_false z2) (ih (k + 1) b (by omega) hb)

theorem turn_zero (w : List Int) : turn w 0 = w := by
 unfold turn
 rw [List.drop_zero, List.take_zero, List.append_nil]

/-- The least turn. -/
def leastT (w : List Int) : List Int := least w (w.length - 1) 1 w

theorem least_length (w : List Int) : ∀ (d k : Nat) (b : List Int), b.length = w.length → (least w d k b).length = w.length := by
 intro d
 induction d with
 | zero => intro k b hb; exact hb
 | succ d ih =>
  intro k b hb
  unfold least
  split
  ·exact ih _ _ (turn_length w k)
  ·exact ih _ _ hb

theorem specLeast (w : List Int) (hw : w.length ≤ 1000) (h0 : 0 < w.length) : Ev (fun f => spec_l03Least.f f w) (leastT w) := by
 have ho : spec_l01Own.f w = some w := by
  unfold spec_l01Own.f
  rw [Option.bind_some, List.length_nil, List.nil_append, if_pos (by omega)]
 unfold spec_l03Least.f
 refine Ev.bind (Ev.eq ho) ?_
 exact specLeast_loop w hw (w.length - 1) 1 w (by omega) rfl

theorem implLeast (w : List Int) (hw : w.length ≤ 1000) (h0 : 0 < w.length) : Ev (fun f => impl_leastTurn.f f w) (leastT w) := by
 unfold impl_leastTurn.f slices_Clone_int64_int64.f
 refine Ev.bind (Ev.pos (by omega) (Ev.now _)) ?_
 have h := implLeast_loop w hw h0 w.length 0 w (by omega) rfl
 have e : least w w.length 0 w = leastT w := by
  obtain ⟨m, hm⟩ : ∃ m, w.length = m + 1 := ⟨w.length - 1, by omega⟩
  unfold leastT
  rw [hm, Nat.add_sub_cancel]
  show (if bf (turn w 0) w = true then _ else _) = _
  rw [turn_zero, bf_self, if_neg (by decide)]
 rw [e] at h
 exact h

section
variable {n : Int} {l : List (List Int)} (h : isGraph n l = true) {w : List Int} (hwk : isWalk l w = true)
include h hwk

/-- A walk that is closed. -/
def clo (l : List (List Int)) (w : List Int) : Bool := next l (rd w ((w.length - 1 : Nat) : Int)).toNat (rd w 0).toNat

theorem implClo : Ev (fun k => impl_Graph_isStraight.f k n l w) (clo l w) := by
 obtain ⟨h1, h12, hd, hs⟩ := walk_form hwk
 have hc := cyc_of_steps l w (w.length - 1) 0 (by omega) hs
 rw [show w.length - 1 + 1 = w.length by omega] at hc
 have i1 := implStraight h hd (by omega)
 rw [hc, decide_eq_true (by omega), Bool.and_true] at i1
 exact i1

theorem specClo : Ev (fun _ => spec_l03Closed.f n l w) (clo l w) := by
 obtain ⟨h1, h12, hd, hs⟩ := walk_form hwk
 obtain ⟨e1, r1⟩ := dirs_at hd (show w.length - 1 < w.length by omega)
 obtain ⟨e2, r2⟩ := dirs_at hd (show 0 < w.length by omega)
 have hn := specNext h r1 r2
 rw [← e1, ← e2] at hn
 unfold spec_l03Closed.f
 rw [wrap_id (x := (w.length : Int) - 1) (by omega) (by omega), show (w.length : Int) - 1 = ((w.length - 1 : Nat) : Int) by omega]
 exact Ev.pos (by omega) (Ev.pos (by omega) (Ev.pos (by omega) (Ev.bind (Ev.eq hn) (Ev.now _))))

theorem specPrime : Ev (fun k => spec_l03Prime.f k n l w) (noturn w (w.length - 1) 1 && clo l w) := by
 obtain ⟨h1, h12, hd, hs⟩ := walk_form hwk
 have hc := specClo h hwk
 have hn := specNoturn w (by omega) (w.length - 1) 1 (by omega)
 unfold spec_l03Prime.f
 cases c : clo l w with
 | true =>
  rw [c] at hc
  rw [Bool.and_true]
  exact Ev.bind hc (Ev.pos rfl hn)
 | false =>
  rw [c] at hc
  rw [Bool.and_false]
  exact Ev.bind hc (Ev.neg (by decide) (Ev.now _))

theorem implPrime : Ev (fun k => impl_Graph_isPrime.f k n l w) (noturn w (w.length - 1) 1 && clo l w) := by
 obtain ⟨h1, h12, hd, hs⟩ := walk_form hwk
 have hc := implClo h hwk
 have loop : ∀ (d k : Nat), k + d = w.length → Ev (fun f => impl_Graph_isPrime.l0 f w (k : Int) n l) (noturn w d k && clo l w) := by
  intro d
  induction d with
  | zero =>
   intro k hk
   refine Ev.succ ?_; simp only [impl_Graph_isPrime.l0]
   exact Ev.neg (by omega) (Ev.bind hc (Ev.now _))
  | succ d ih =>
   intro k hk
   have h2 := ih (k + 1) (by omega)
   have ht := implTurned w k (by omega) (by omega) (by omega)
   have hl := turn_length w k
   have he := libEqual2 (turn w k) w (by omega)
   unfold noturn
   refine Ev.succ ?_; simp only [impl_Graph_isPrime.l0]
   rw [wrap_succ (i := k) (by omega)]
   refine Ev.pos (by omega) (Ev.bind (Ev.eq ht) ?_)
   by_cases c : turn w k = w
   ·rw [decide_eq_true c] at he
    rw [decide_eq_false (fun z => z c), Bool.false_and, Bool.false_and]
    exact Ev.bind he (Ev.pos rfl (Ev.now _))
   ·rw [decide_eq_false c] at he
    rw [decide_eq_true c, Bool.true_and]
    exact Ev.bind he (Ev.neg (by decide) h2)
 exact loop (w.length - 1) 1 (by omega)

end
theorem leastturn_same (n : Int) (l : List (List Int)) (w : List Int) (hl : Mod l) (hw : w.length ≤ 1048576) : ∃ r : List Int × Int, r.1.length ≤ 1048576 ∧ Ev (fun k => spec_LeastTurn.f k n l w) r ∧ Ev (fun k => impl_LeastTurn.f k n l w) r := by
 unfold spec_LeastTurn.f impl_LeastTurn.f
 have h1 := specCode n l w hl hw
 have h2 := implCode n l w hl hw
 by_cases c : code n l w = 0
 ·obtain ⟨hg, hwk⟩ := code_zero c
  obtain ⟨w1, w12, hd, hs⟩ := walk_form hwk
  rw [c] at h1
  have c1 := specClo hg hwk
  have c2 := implClo hg hwk
  cases cc : clo l w with
  | true =>
   rw [cc] at c1 c2
   refine ⟨(leastT w, 0), ?_, ?_, ?_⟩
   ·show (leastT w).length ≤ _
    unfold leastT
    rw [least_length w _ _ _ rfl]
    exact hw
   ·refine Ev.bind h1 (Ev.pos rfl (Ev.bind c1 ?_))
    refine Ev.succ ?_; simp only [spec_LeastTurn.j0]
    exact Ev.neg (by decide) (Ev.pos trivial (Ev.bind (specLeast w (by omega) (by omega)) (Ev.now _)))
   ·exact Ev.bind h2 (Ev.pos c (Ev.bind c2 (Ev.pos rfl (Ev.bind (implLeast w (by omega) (by omega)) (Ev.now _)))))
  | false =>
   rw [cc] at c1 c2
   refine ⟨([], 5), by simp, ?_, ?_⟩
   ·refine Ev.bind h1 (Ev.pos rfl (Ev.bind c1 ?_))
    refine Ev.succ ?_; simp only [spec_LeastTurn.j0]
    exact Ev.pos rfl (Ev.neg (by decide) (Ev.now _))
   ·exact Ev.bind h2 (Ev.pos c (Ev.bind c2 (Ev.neg (by decide) (Ev.now _))))
 ·refine ⟨([], code n l w), by simp, ?_, Ev.bind h2 (Ev.neg c (Ev.now _))⟩
  refine Ev.bind h1 (Ev.neg c ?_)
  refine Ev.succ ?_; simp only [spec_LeastTurn.j0]
  exact Ev.neg (by decide) (Ev.neg c (Ev.now _))

theorem FnExactLeastTurn : laws_FnExactLeastTurn.Pure := by
 intro n l w _ hl hr _ _
 refine Ev.rounds ?_
 unfold laws_FnExactLeastTurn.f
 by_cases h : (w.length : Int) > 1048576
 ·repeat (first | with_reducible exact Ev.now _ | dsimp only | refine Ev.pos (by first | omega | rfl | assumption | decide) ?_ | refine Ev.neg (by first | omega | assumption | exact Bool.false_ne_true | exact fun e => absurd e (by decide)) ?_ | simp only [bne_self_eq_false, Bool.not_true, Bool.not_false, List.length_cons, List.length_nil] | rw [wrap_id (by omega) (by omega)] | ((with_reducible refine Ev.eq (congrArg some ?_)); rfl))
 have hw : w.length ≤ 1048576 := by omega
 refine Ev.neg (by omega) ?_
 refine Ev.ex (szGraph n l hl hr) (fun t ht => ?_)
 rcases ht with ht | ht
 ·repeat (first | with_reducible exact Ev.now _ | dsimp only | refine Ev.pos (by first | omega | rfl | assumption | decide) ?_ | refine Ev.neg (by first | omega | assumption | exact Bool.false_ne_true | exact fun e => absurd e (by decide)) ?_ | simp only [bne_self_eq_false, Bool.not_true, Bool.not_false, List.length_cons, List.length_nil] | rw [wrap_id (by omega) (by omega)] | ((with_reducible refine Ev.eq (congrArg some ?_)); rfl))
 by_cases h0 : t < 0
 ·repeat (first | with_reducible exact Ev.now _ | dsimp only | refine Ev.pos (by first | omega | rfl | assumption | decide) ?_ | refine Ev.neg (by first | omega | assumption | exact Bool.false_ne_true | exact fun e => absurd e (by decide)) ?_ | simp only [bne_self_eq_false, Bool.not_true, Bool.not_false, List.length_cons, List.length_nil] | rw [wrap_id (by omega) (by omega)] | ((with_reducible refine Ev.eq (congrArg some ?_)); rfl))
 obtain ⟨r, hr, hs, hi⟩ := leastturn_same n l w ht hw
 obtain ⟨q, hq, hq0, hq1⟩ := markGraph n l ht
 repeat (first | with_reducible exact Ev.now _ | dsimp only | with_reducible refine Ev.bind (toGraph n l ht) ?_ | with_reducible refine Ev.bind (toInt64S w hw) ?_ | with_reducible refine Ev.bind (hs) ?_ | with_reducible refine Ev.bind (hi) ?_ | with_reducible refine Ev.bind (eqInt64S_self r.1 hr) ?_ | with_reducible refine Ev.bind (eqGraph_self n l ht) ?_ | with_reducible refine Ev.bind (eqInt64S_self w hw) ?_ | with_reducible refine Ev.bind (hq) ?_ | with_reducible refine Ev.bind (markInt64S w hw q.1 hq0 (by omega)) ?_ | with_reducible refine Ev.bind (markInt64S r.1 hr 1 (by omega) (by omega)) ?_ | with_reducible refine Ev.bind (heldInt64S 1 r.1.length hr (by omega) (by omega)) ?_ | refine Ev.pos (by first | omega | rfl | assumption | decide) ?_ | refine Ev.neg (by first | omega | assumption | exact Bool.false_ne_true | exact fun e => absurd e (by decide)) ?_ | simp only [bne_self_eq_false, Bool.not_true, Bool.not_false, List.length_cons, List.length_nil] | rw [wrap_id (by omega) (by omega)] | with_reducible exact (toGraph n l ht) | with_reducible exact (toInt64S w hw) | with_reducible exact (hs) | with_reducible exact (hi) | with_reducible exact (eqInt64S_self r.1 hr) | with_reducible exact (eqGraph_self n l ht) | with_reducible exact (eqInt64S_self w hw) | with_reducible exact (hq) | with_reducible exact (markInt64S w hw q.1 hq0 (by omega)) | with_reducible exact (markInt64S r.1 hr 1 (by omega) (by omega)) | with_reducible exact (heldInt64S 1 r.1.length hr (by omega) (by omega)) | ((with_reducible refine Ev.eq (congrArg some ?_)); rfl))
end Go.Proofs.Ytedhnaljedonfaa.Pure
