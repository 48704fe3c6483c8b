/- The plain proofs for this law. -/
import Derived.Test.YtedhnaljedonfaaC2
import Derived.Test.YtedhnaljedonfaaAux
namespace Go.Proofs.Ytedhnaljedonfaa.Pure
open Go.RowKit Go.Proofs.Ytedhnaljedonfaa.G Go.Proofs.YtedhnaljedonfaaW.PrintWords Go.Proofs.YtedhnaljedonfaaW.PrintLast Go.Proofs.YtedhnaljedonfaaW.PrintMore Go.Proofs.Ytedhnaljedonfaa.Aux
set_option linter.unusedVariables false
set_option linter.unusedSimpArgs false

theorem toInt64S_loop (l : List Int) (hl : l.length ≤ 1048576) : ∀ (d i : Nat) (ys : List Int), i + d = l.length → ys.length = l.length → ys.take i = l.take i →
    Ev (fun k => laws_toInt64S.l0 k l ys (i : Int)) l := by
  intro d
  induction d with
  | zero =>
    intro i ys hi hy ht
    refine Ev.succ ?_; simp only [laws_toInt64S.l0]
    repeat (first | with_reducible exact Ev.now _ | dsimp only | refine Ev.pos (by first | omega | rfl | assumption | decide) ?_ | refine Ev.neg (by first | omega | assumption | exact Bool.false_ne_true | exact fun e => absurd e (by decide)) ?_ | simp only [bne_self_eq_false, Bool.not_true, Bool.not_false, List.length_cons, List.length_nil] | rw [wrap_id (by omega) (by omega)] | ((with_reducible refine Ev.eq (congrArg some ?_)); rfl))
    exact Ev.eq (congrArg some (eq_of_take hy (by omega) ht))
  | succ d ih =>
    intro i ys hi hy ht
    refine Ev.succ ?_; simp only [laws_toInt64S.l0]
    rw [wrap_succ (by omega)]
    repeat (first | with_reducible exact Ev.now _ | dsimp only | refine Ev.pos (by first | omega | rfl | assumption | decide) ?_ | refine Ev.neg (by first | omega | assumption | exact Bool.false_ne_true | exact fun e => absurd e (by decide)) ?_ | simp only [bne_self_eq_false, Bool.not_true, Bool.not_false, List.length_cons, List.length_nil] | rw [wrap_id (by omega) (by omega)] | ((with_reducible refine Ev.eq (congrArg some ?_)); rfl))
    exact ih (i + 1) _ (by omega) (by simpa using hy) (take_set_succ hy (by omega) (rd_lt (by omega)) ht)

theorem toInt64S (l : List Int) (hl : l.length ≤ 1048576) : Ev (fun k => laws_toInt64S.f k l) l := by
  unfold laws_toInt64S.f
  repeat (first | with_reducible exact Ev.now _ | dsimp only | refine Ev.pos (by first | omega | rfl | assumption | decide) ?_ | refine Ev.neg (by first | omega | assumption | exact Bool.false_ne_true | exact fun e => absurd e (by decide)) ?_ | simp only [bne_self_eq_false, Bool.not_true, Bool.not_false, List.length_cons, List.length_nil] | rw [wrap_id (by omega) (by omega)] | ((with_reducible refine Ev.eq (congrArg some ?_)); rfl))
  exact toInt64S_loop l hl l.length 0 _ (by omega) (by simp) (by simp)

theorem eqInt64S_loop (a b : List Int) (hl : a.length ≤ 1048576) (hab : a.length = b.length) : ∀ (d i : Nat), i + d = a.length →
    Ev (fun k => laws_eqInt64S.l0 k a b (i : Int)) (decide (a.drop i = b.drop i)) := by
  intro d
  induction d with
  | zero =>
    intro i hi
    refine Ev.succ ?_; simp only [laws_eqInt64S.l0]
    rw [List.drop_eq_nil_of_le (by omega), List.drop_eq_nil_of_le (by omega)]
    repeat (first | with_reducible exact Ev.now _ | dsimp only | refine Ev.pos (by first | omega | rfl | assumption | decide) ?_ | refine Ev.neg (by first | omega | assumption | exact Bool.false_ne_true | exact fun e => absurd e (by decide)) ?_ | simp only [bne_self_eq_false, Bool.not_true, Bool.not_false, List.length_cons, List.length_nil] | rw [wrap_id (by omega) (by omega)] | ((with_reducible refine Ev.eq (congrArg some ?_)); rfl))
  | succ d ih =>
    intro i hi
    refine Ev.succ ?_; simp only [laws_eqInt64S.l0]
    rw [List.drop_eq_getElem_cons (by omega : i < a.length), List.drop_eq_getElem_cons (by omega : i < b.length), wrap_succ (by omega)]
    by_cases e : rd a i = rd b i
    · repeat (first | with_reducible exact Ev.now _ | dsimp only | refine Ev.pos (by first | omega | rfl | assumption | decide) ?_ | refine Ev.neg (by first | omega | assumption | exact Bool.false_ne_true | exact fun e => absurd e (by decide)) ?_ | simp only [bne_self_eq_false, Bool.not_true, Bool.not_false, List.length_cons, List.length_nil] | rw [wrap_id (by omega) (by omega)] | ((with_reducible refine Ev.eq (congrArg some ?_)); rfl))
      have := ih (i + 1) (by omega)
      rw [rd_lt (by omega), rd_lt (by omega)] at e
      rw [e, decide_cons]
      exact this
    · rw [decide_eq_false (fun h => e (by rw [rd_lt (by omega), rd_lt (by omega)]; exact (List.cons.inj h).1))]
      repeat (first | with_reducible exact Ev.now _ | dsimp only | refine Ev.pos (by first | omega | rfl | assumption | decide) ?_ | refine Ev.neg (by first | omega | assumption | exact Bool.false_ne_true | exact fun e => absurd e (by decide)) ?_ | simp only [bne_self_eq_false, Bool.not_true, Bool.not_false, List.length_cons, List.length_nil] | rw [wrap_id (by omega) (by omega)] | ((with_reducible refine Ev.eq (congrArg some ?_)); rfl))

theorem eqInt64S (a b : List Int) (hl : a.length ≤ 1048576) : Ev (fun k => laws_eqInt64S.f k a b) (decide (a = b)) := by
  unfold laws_eqInt64S.f
  by_cases h : a.length = b.length
  · repeat (first | with_reducible exact Ev.now _ | dsimp only | refine Ev.pos (by first | omega | rfl | assumption | decide) ?_ | refine Ev.neg (by first | omega | assumption | exact Bool.false_ne_true | exact fun e => absurd e (by decide)) ?_ | simp only [bne_self_eq_false, Bool.not_true, Bool.not_false, List.length_cons, List.length_nil] | rw [wrap_id (by omega) (by omega)] | ((with_reducible refine Ev.eq (congrArg some ?_)); rfl))
    exact eqInt64S_loop a b hl h a.length 0 (by omega)
  · rw [decide_eq_false (fun e => h (by rw [e]))]
    repeat (first | with_reducible exact Ev.now _ | dsimp only | refine Ev.pos (by first | omega | rfl | assumption | decide) ?_ | refine Ev.neg (by first | omega | assumption | exact Bool.false_ne_true | exact fun e => absurd e (by decide)) ?_ | simp only [bne_self_eq_false, Bool.not_true, Bool.not_false, List.length_cons, List.length_nil] | rw [wrap_id (by omega) (by omega)] | ((with_reducible refine Ev.eq (congrArg some ?_)); rfl))

theorem eqInt64S_self (a : List Int) (hl : a.length ≤ 1048576) : Ev (fun k => laws_eqInt64S.f k a a) true :=
  Ev.conv (eqInt64S a a hl) (by simp)
theorem rl_lt {xs : List (List Int)} {i : Nat} (h : i < xs.length) : rd_L1 xs (i : Int) = xs[i] := by
  simp [rd_L1, List.getD_eq_getElem?_getD, h]

/-- Rows of which each, and their number, is of a moderate size. -/
def Mod (l : List (List Int)) : Prop := l.length ≤ 1048576 ∧ ∀ r ∈ l, r.length ≤ 1048576

theorem Mod.row {l : List (List Int)} (h : Mod l) {i : Nat} (hi : i < l.length) : l[i].length ≤ 1048576 := h.2 _ (List.getElem_mem hi)

theorem szInt64S (l : List Int) (a : Int) (h0 : 0 ≤ a) (h1 : a ≤ 1048576) (hl : l.length ≤ 9223372036854775807) : ∃ t, laws_szInt64S.f l a = some t ∧ (t < 0 ∨ (l.length ≤ 1048576 ∧ 0 ≤ t ∧ t ≤ a)) := by
  unfold laws_szInt64S.f
  rw [wrap_id (by omega) (by omega)]
  by_cases h : a - (l.length : Int) < 0
  · exact ⟨-1, if_pos h, Or.inl (by omega)⟩
  · exact ⟨_, if_neg h, Or.inr (by omega)⟩

theorem szInt64SS_loop (l : List (List Int)) (hl : l.length ≤ 1048576) (hr : ∀ r ∈ l, r.length ≤ 9223372036854775807) : ∀ (d i : Nat) (a : Int), i + d = l.length → 0 ≤ a → a ≤ 1048576 → (∀ j, (h : j < l.length) → j < i → l[j].length ≤ 1048576) →
    ∃ t, Ev (fun k => laws_szInt64SS.l0 k l a (i : Int)) t ∧ (t < 0 ∨ (Mod l ∧ 0 ≤ t ∧ t ≤ 1048576)) := by
  intro d
  induction d with
  | zero =>
    intro i a hi h0 h1 hm
    refine ⟨a, ?_, Or.inr ⟨⟨hl, fun r h => ?_⟩, h0, h1⟩⟩
    · refine Ev.succ ?_; simp only [laws_szInt64SS.l0]
      repeat (first | with_reducible exact Ev.now _ | dsimp only | refine Ev.pos (by first | omega | rfl | assumption | decide) ?_ | refine Ev.neg (by first | omega | assumption | exact Bool.false_ne_true | exact fun e => absurd e (by decide)) ?_ | simp only [bne_self_eq_false, Bool.not_true, Bool.not_false, List.length_cons, List.length_nil] | rw [wrap_id (by omega) (by omega)] | ((with_reducible refine Ev.eq (congrArg some ?_)); rfl))
    · obtain ⟨j, hj, rfl⟩ := List.getElem_of_mem h
      exact hm j hj (by omega)
  | succ d ih =>
    intro i a hi h0 h1 hm
    obtain ⟨t, ht, hc⟩ := szInt64S (l[i]'(by omega)) a h0 h1 (hr _ (List.getElem_mem _))
    rw [← rl_lt (by omega)] at ht
    rcases hc with hc | ⟨hc, hc0, hc1⟩
    · refine ⟨-1, ?_, Or.inl (by omega)⟩
      refine Ev.succ ?_; simp only [laws_szInt64SS.l0]
      repeat (first | with_reducible exact Ev.now _ | dsimp only | with_reducible refine Ev.bind (Ev.eq ht) ?_ | refine Ev.pos (by first | omega | rfl | assumption | decide) ?_ | refine Ev.neg (by first | omega | assumption | exact Bool.false_ne_true | exact fun e => absurd e (by decide)) ?_ | simp only [bne_self_eq_false, Bool.not_true, Bool.not_false, List.length_cons, List.length_nil] | rw [wrap_id (by omega) (by omega)] | with_reducible exact (Ev.eq ht) | ((with_reducible refine Ev.eq (congrArg some ?_)); rfl))
    · obtain ⟨t', h1', h2'⟩ := ih (i + 1) t (by omega) hc0 (by omega) (fun j hj hji => by
        by_cases e : j = i
        · subst e; exact hc
        · exact hm j hj (by omega))
      refine ⟨t', ?_, h2'⟩
      refine Ev.succ ?_; simp only [laws_szInt64SS.l0]
      rw [wrap_succ (by omega)]
      repeat (first | with_reducible exact Ev.now _ | dsimp only | with_reducible refine Ev.bind (Ev.eq ht) ?_ | refine Ev.pos (by first | omega | rfl | assumption | decide) ?_ | refine Ev.neg (by first | omega | assumption | exact Bool.false_ne_true | exact fun e => absurd e (by decide)) ?_ | simp only [bne_self_eq_false, Bool.not_true, Bool.not_false, List.length_cons, List.length_nil] | rw [wrap_id (by omega) (by omega)] | with_reducible exact (Ev.eq ht) | ((with_reducible refine Ev.eq (congrArg some ?_)); rfl))
      exact h1'

theorem szInt64SS (l : List (List Int)) (a : Int) (h0 : 0 ≤ a) (h1 : a ≤ 1048576) (hl : l.length ≤ 9223372036854775807) (hr : ∀ r ∈ l, r.length ≤ 9223372036854775807) : ∃ t, Ev (fun k => laws_szInt64SS.f k l a) t ∧ (t < 0 ∨ (Mod l ∧ 0 ≤ t ∧ t ≤ 1048576)) := by
  unfold laws_szInt64SS.f
  rw [wrap_id (by omega) (by omega)]
  by_cases h : a - (l.length : Int) < 0
  · refine ⟨-1, ?_, Or.inl (by omega)⟩
    repeat (first | with_reducible exact Ev.now _ | dsimp only | refine Ev.pos (by first | omega | rfl | assumption | decide) ?_ | refine Ev.neg (by first | omega | assumption | exact Bool.false_ne_true | exact fun e => absurd e (by decide)) ?_ | simp only [bne_self_eq_false, Bool.not_true, Bool.not_false, List.length_cons, List.length_nil] | rw [wrap_id (by omega) (by omega)] | ((with_reducible refine Ev.eq (congrArg some ?_)); rfl))
  · obtain ⟨t, h1, h2⟩ := szInt64SS_loop l (by omega) hr l.length 0 (a - (l.length : Int)) (by omega) (by omega) (by omega) (fun j _ hj => by omega)
    refine ⟨t, ?_, h2⟩
    repeat (first | with_reducible exact Ev.now _ | dsimp only | refine Ev.pos (by first | omega | rfl | assumption | decide) ?_ | refine Ev.neg (by first | omega | assumption | exact Bool.false_ne_true | exact fun e => absurd e (by decide)) ?_ | simp only [bne_self_eq_false, Bool.not_true, Bool.not_false, List.length_cons, List.length_nil] | rw [wrap_id (by omega) (by omega)] | ((with_reducible refine Ev.eq (congrArg some ?_)); rfl))
    exact h1

theorem szGraph (n : Int) (l : List (List Int)) (hl : l.length ≤ maxLen) (hr : ∀ r ∈ l, r.length ≤ maxLen ∧ ∀ y ∈ r, (Lit.int .i64 y).wf = true) : ∃ t, Ev (fun k => laws_szGraph.f k n l 1048576) t ∧ (t < 0 ∨ Mod l) := by
  obtain ⟨t, h1, h2⟩ := szInt64SS l 1048576 (by omega) (by omega) (by simp [maxLen] at hl; omega) (fun r h => by have := (hr r h).1; simp [maxLen] at this; omega)
  unfold laws_szGraph.f
  rcases h2 with h2 | ⟨h2, h3, h4⟩
  · refine ⟨-1, ?_, Or.inl (by omega)⟩
    repeat (first | with_reducible exact Ev.now _ | dsimp only | with_reducible refine Ev.bind (h1) ?_ | refine Ev.pos (by first | omega | rfl | assumption | decide) ?_ | refine Ev.neg (by first | omega | assumption | exact Bool.false_ne_true | exact fun e => absurd e (by decide)) ?_ | simp only [bne_self_eq_false, Bool.not_true, Bool.not_false, List.length_cons, List.length_nil] | rw [wrap_id (by omega) (by omega)] | with_reducible exact (h1) | ((with_reducible refine Ev.eq (congrArg some ?_)); rfl))
  · refine ⟨t, ?_, Or.inr h2⟩
    repeat (first | with_reducible exact Ev.now _ | dsimp only | with_reducible refine Ev.bind (h1) ?_ | refine Ev.pos (by first | omega | rfl | assumption | decide) ?_ | refine Ev.neg (by first | omega | assumption | exact Bool.false_ne_true | exact fun e => absurd e (by decide)) ?_ | simp only [bne_self_eq_false, Bool.not_true, Bool.not_false, List.length_cons, List.length_nil] | rw [wrap_id (by omega) (by omega)] | with_reducible exact (h1) | ((with_reducible refine Ev.eq (congrArg some ?_)); rfl))

theorem toInt64SS_loop (l : List (List Int)) (hl : Mod l) : ∀ (d i : Nat) (ys : List (List Int)), i + d = l.length → ys.length = l.length → ys.take i = l.take i →
    Ev (fun k => laws_toInt64SS.l0 k l ys (i : Int)) l := by
  have hl1 := hl.1
  intro d
  induction d with
  | zero =>
    intro i ys hi hy ht
    refine Ev.succ ?_; simp only [laws_toInt64SS.l0]
    repeat (first | with_reducible exact Ev.now _ | dsimp only | refine Ev.pos (by first | omega | rfl | assumption | decide) ?_ | refine Ev.neg (by first | omega | assumption | exact Bool.false_ne_true | exact fun e => absurd e (by decide)) ?_ | simp only [bne_self_eq_false, Bool.not_true, Bool.not_false, List.length_cons, List.length_nil] | rw [wrap_id (by omega) (by omega)] | ((with_reducible refine Ev.eq (congrArg some ?_)); rfl))
    exact Ev.eq (congrArg some (eq_of_take hy (by omega) ht))
  | succ d ih =>
    intro i ys hi hy ht
    refine Ev.succ ?_; simp only [laws_toInt64SS.l0]
    rw [wrap_succ (by omega), rl_lt (by omega)]
    repeat (first | with_reducible exact Ev.now _ | dsimp only | with_reducible refine Ev.bind (toInt64S _ (hl.row (by omega))) ?_ | refine Ev.pos (by first | omega | rfl | assumption | decide) ?_ | refine Ev.neg (by first | omega | assumption | exact Bool.false_ne_true | exact fun e => absurd e (by decide)) ?_ | simp only [bne_self_eq_false, Bool.not_true, Bool.not_false, List.length_cons, List.length_nil] | rw [wrap_id (by omega) (by omega)] | with_reducible exact (toInt64S _ (hl.row (by omega))) | ((with_reducible refine Ev.eq (congrArg some ?_)); rfl))
    exact ih (i + 1) _ (by omega) (by simpa using hy) (take_set_succ hy (by omega) rfl ht)

theorem toInt64SS (l : List (List Int)) (hl : Mod l) : Ev (fun k => laws_toInt64SS.f k l) l := by
  have hl1 := hl.1
  unfold laws_toInt64SS.f
  repeat (first | with_reducible exact Ev.now _ | dsimp only | refine Ev.pos (by first | omega | rfl | assumption | decide) ?_ | refine Ev.neg (by first | omega | assumption | exact Bool.false_ne_true | exact fun e => absurd e (by decide)) ?_ | simp only [bne_self_eq_false, Bool.not_true, Bool.not_false, List.length_cons, List.length_nil] | rw [wrap_id (by omega) (by omega)] | ((with_reducible refine Ev.eq (congrArg some ?_)); rfl))
  exact toInt64SS_loop l hl l.length 0 _ (by omega) (by simp) (by simp)

theorem toGraph (n : Int) (l : List (List Int)) (hl : Mod l) : Ev (fun k => laws_toGraph.f k n l) (n, l) := by
  unfold laws_toGraph.f
  repeat (first | with_reducible exact Ev.now _ | dsimp only | with_reducible refine Ev.bind (toInt64SS l hl) ?_ | refine Ev.pos (by first | omega | rfl | assumption | decide) ?_ | refine Ev.neg (by first | omega | assumption | exact Bool.false_ne_true | exact fun e => absurd e (by decide)) ?_ | simp only [bne_self_eq_false, Bool.not_true, Bool.not_false, List.length_cons, List.length_nil] | rw [wrap_id (by omega) (by omega)] | with_reducible exact (toInt64SS l hl) | ((with_reducible refine Ev.eq (congrArg some ?_)); rfl))

theorem eqInt64SS_self_loop (a : List (List Int)) (hl : Mod a) : ∀ (d i : Nat), i + d = a.length →
    Ev (fun k => laws_eqInt64SS.l0 k a a (i : Int)) true := by
  have hl1 := hl.1
  intro d
  induction d with
  | zero =>
    intro i hi
    refine Ev.succ ?_; simp only [laws_eqInt64SS.l0]
    repeat (first | with_reducible exact Ev.now _ | dsimp only | refine Ev.pos (by first | omega | rfl | assumption | decide) ?_ | refine Ev.neg (by first | omega | assumption | exact Bool.false_ne_true | exact fun e => absurd e (by decide)) ?_ | simp only [bne_self_eq_false, Bool.not_true, Bool.not_false, List.length_cons, List.length_nil] | rw [wrap_id (by omega) (by omega)] | ((with_reducible refine Ev.eq (congrArg some ?_)); rfl))
  | succ d ih =>
    intro i hi
    refine Ev.succ ?_; simp only [laws_eqInt64SS.l0]
    rw [rl_lt (by omega), wrap_succ (by omega)]
    repeat (first | with_reducible exact Ev.now _ | dsimp only | with_reducible refine Ev.bind (eqInt64S_self _ (hl.row (by omega))) ?_ | refine Ev.pos (by first | omega | rfl | assumption | decide) ?_ | refine Ev.neg (by first | omega | assumption | exact Bool.false_ne_true | exact fun e => absurd e (by decide)) ?_ | simp only [bne_self_eq_false, Bool.not_true, Bool.not_false, List.length_cons, List.length_nil] | rw [wrap_id (by omega) (by omega)] | with_reducible exact (eqInt64S_self _ (hl.row (by omega))) | ((with_reducible refine Ev.eq (congrArg some ?_)); rfl))
    exact ih (i + 1) (by omega)

theorem eqInt64SS_self (a : List (List Int)) (hl : Mod a) : Ev (fun k => laws_eqInt64SS.f k a a) true := by
  unfold laws_eqInt64SS.f
  repeat (first | with_reducible exact Ev.now _ | dsimp only | refine Ev.pos (by first | omega | rfl | assumption | decide) ?_ | refine Ev.neg (by first | omega | assumption | exact Bool.false_ne_true | exact fun e => absurd e (by decide)) ?_ | simp only [bne_self_eq_false, Bool.not_true, Bool.not_false, List.length_cons, List.length_nil] | rw [wrap_id (by omega) (by omega)] | ((with_reducible refine Ev.eq (congrArg some ?_)); rfl))
  exact eqInt64SS_self_loop a hl a.length 0 (by omega)

theorem eqGraph_self (n : Int) (a : List (List Int)) (hl : Mod a) : Ev (fun k => laws_eqGraph.f k n a n a) true := by
  unfold laws_eqGraph.f
  repeat (first | with_reducible exact Ev.now _ | dsimp only | with_reducible refine Ev.bind (eqInt64SS_self a hl) ?_ | refine Ev.pos (by first | omega | rfl | assumption | decide) ?_ | refine Ev.neg (by first | omega | assumption | exact Bool.false_ne_true | exact fun e => absurd e (by decide)) ?_ | simp only [bne_self_eq_false, Bool.not_true, Bool.not_false, List.length_cons, List.length_nil] | rw [wrap_id (by omega) (by omega)] | with_reducible exact (eqInt64SS_self a hl) | ((with_reducible refine Ev.eq (congrArg some ?_)); rfl))
theorem specIn (a b c : Int) : spec_l01In.f a b c = some (decide (b ≤ a ∧ a ≤ c)) := by
  unfold spec_l01In.f
  by_cases h : b ≤ a
  · rw [if_pos h]; simp [h]
  · rw [if_neg h]; simp [h]

theorem implWithin (a b c : Int) : impl_within.f a b c = some (decide (b ≤ a ∧ a ≤ c)) := by
  unfold impl_within.f
  by_cases h : b ≤ a
  · rw [if_pos h]; simp [h]
  · rw [if_neg h]; simp [h]

/-- One edge's test. -/
def okEdge (n : Int) (e : List Int) : Bool := decide (e.length = 2) && (decide (0 ≤ rd e 0 ∧ rd e 0 ≤ wrap64 (n - 1)) && decide (0 ≤ rd e 1 ∧ rd e 1 ≤ wrap64 (n - 1)))

def isGraph (n : Int) (l : List (List Int)) : Bool := l.all (okEdge n) && (decide (1 ≤ n ∧ n ≤ 8) && decide ((l.length : Int) ≤ 10))

theorem specIs_loop (n : Int) (l : List (List Int)) (hl : Mod l) : ∀ (d i : Nat), i + d = l.length →
    Ev (fun k => spec_l01Is.l0 k (i : Int) n l) ((l.drop i).all (okEdge n)) := by
  have hl1 := hl.1
  intro d
  induction d with
  | zero =>
    intro i hi
    refine Ev.succ ?_; simp only [spec_l01Is.l0]
    rw [List.drop_eq_nil_of_le (by omega)]
    repeat (first | with_reducible exact Ev.now _ | dsimp only | refine Ev.pos (by first | omega | rfl | assumption | decide) ?_ | refine Ev.neg (by first | omega | assumption | exact Bool.false_ne_true | exact fun e => absurd e (by decide)) ?_ | simp only [bne_self_eq_false, Bool.not_true, Bool.not_false, List.length_cons, List.length_nil] | rw [wrap_id (by omega) (by omega)] | ((with_reducible refine Ev.eq (congrArg some ?_)); rfl))
  | succ d ih =>
    intro i hi
    refine Ev.succ ?_; simp only [spec_l01Is.l0]
    rw [List.drop_eq_getElem_cons (by omega : i < l.length), List.all_cons, rl_lt (by omega), wrap_succ (by omega)]
    generalize l[i] = e
    have := ih (i + 1) (by omega)
    unfold okEdge
    by_cases h2 : (e.length : Int) = 2
    · rw [decide_eq_true (show e.length = 2 by omega), Bool.true_and]
      by_cases ha : 0 ≤ rd e 0 ∧ rd e 0 ≤ wrap64 (n - 1)
      · by_cases hb : 0 ≤ rd e 1 ∧ rd e 1 ≤ wrap64 (n - 1)
        · rw [decide_eq_true ha, decide_eq_true hb, Bool.true_and, Bool.true_and]
          repeat (first | with_reducible exact Ev.now _ | dsimp only | with_reducible refine Ev.bind (Ev.eq ((specIn _ _ _).trans (congrArg some (decide_eq_true ha)))) ?_ | with_reducible refine Ev.bind (Ev.eq ((specIn _ _ _).trans (congrArg some (decide_eq_true hb)))) ?_ | refine Ev.pos (by first | omega | rfl | assumption | decide) ?_ | refine Ev.neg (by first | omega | assumption | exact Bool.false_ne_true | exact fun e => absurd e (by decide)) ?_ | simp only [bne_self_eq_false, Bool.not_true, Bool.not_false, List.length_cons, List.length_nil] | rw [wrap_id (by omega) (by omega)] | with_reducible exact (Ev.eq ((specIn _ _ _).trans (congrArg some (decide_eq_true ha)))) | with_reducible exact (Ev.eq ((specIn _ _ _).trans (congrArg some (decide_eq_true hb)))) | ((with_reducible refine Ev.eq (congrArg some ?_)); rfl))
          exact this
        · rw [decide_eq_false hb, Bool.and_false, Bool.false_and]
          repeat (first | with_reducible exact Ev.now _ | dsimp only | with_reducible refine Ev.bind (Ev.eq ((specIn _ _ _).trans (congrArg some (decide_eq_true ha)))) ?_ | with_reducible refine Ev.bind (Ev.eq ((specIn _ _ _).trans (congrArg some (decide_eq_false hb)))) ?_ | refine Ev.pos (by first | omega | rfl | assumption | decide) ?_ | refine Ev.neg (by first | omega | assumption | exact Bool.false_ne_true | exact fun e => absurd e (by decide)) ?_ | simp only [bne_self_eq_false, Bool.not_true, Bool.not_false, List.length_cons, List.length_nil] | rw [wrap_id (by omega) (by omega)] | with_reducible exact (Ev.eq ((specIn _ _ _).trans (congrArg some (decide_eq_true ha)))) | with_reducible exact (Ev.eq ((specIn _ _ _).trans (congrArg some (decide_eq_false hb)))) | ((with_reducible refine Ev.eq (congrArg some ?_)); rfl))
      · rw [decide_eq_false ha, Bool.false_and, Bool.false_and]
        repeat (first | with_reducible exact Ev.now _ | dsimp only | with_reducible refine Ev.bind (Ev.eq ((specIn _ _ _).trans (congrArg some (decide_eq_false ha)))) ?_ | refine Ev.pos (by first | omega | rfl | assumption | decide) ?_ | refine Ev.neg (by first | omega | assumption | exact Bool.false_ne_true | exact fun e => absurd e (by decide)) ?_ | simp only [bne_self_eq_false, Bool.not_true, Bool.not_false, List.length_cons, List.length_nil] | rw [wrap_id (by omega) (by omega)] | with_reducible exact (Ev.eq ((specIn _ _ _).trans (congrArg some (decide_eq_false ha)))) | ((with_reducible refine Ev.eq (congrArg some ?_)); rfl))
    · rw [decide_eq_false (show ¬ e.length = 2 by omega), Bool.false_and, Bool.false_and]
      repeat (first | with_reducible exact Ev.now _ | dsimp only | refine Ev.pos (by first | omega | rfl | assumption | decide) ?_ | refine Ev.neg (by first | omega | assumption | exact Bool.false_ne_true | exact fun e => absurd e (by decide)) ?_ | simp only [bne_self_eq_false, Bool.not_true, Bool.not_false, List.length_cons, List.length_nil] | rw [wrap_id (by omega) (by omega)] | ((with_reducible refine Ev.eq (congrArg some ?_)); rfl))

theorem specIs (n : Int) (l : List (List Int)) (hl : Mod l) : Ev (fun k => spec_l01Is.f k n l) (isGraph n l) := by
  unfold spec_l01Is.f isGraph
  by_cases h1 : 1 ≤ n ∧ n ≤ 8
  · rw [decide_eq_true h1, Bool.true_and]
    repeat (first | with_reducible exact Ev.now _ | dsimp only | with_reducible refine Ev.bind (Ev.eq ((specIn n 1 8).trans (congrArg some (decide_eq_true h1)))) ?_ | refine Ev.pos (by first | omega | rfl | assumption | decide) ?_ | refine Ev.neg (by first | omega | assumption | exact Bool.false_ne_true | exact fun e => absurd e (by decide)) ?_ | simp only [bne_self_eq_false, Bool.not_true, Bool.not_false, List.length_cons, List.length_nil] | rw [wrap_id (by omega) (by omega)] | with_reducible exact (Ev.eq ((specIn n 1 8).trans (congrArg some (decide_eq_true h1)))) | ((with_reducible refine Ev.eq (congrArg some ?_)); rfl))
    refine Ev.succ ?_
    simp only [spec_l01Is.j0]
    by_cases h2 : (l.length : Int) ≤ 10
    · rw [decide_eq_true h2, decide_eq_false (show ¬ (l.length : Int) > 10 by omega), Bool.and_true]
      repeat (first | with_reducible exact Ev.now _ | dsimp only | refine Ev.pos (by first | omega | rfl | assumption | decide) ?_ | refine Ev.neg (by first | omega | assumption | exact Bool.false_ne_true | exact fun e => absurd e (by decide)) ?_ | simp only [bne_self_eq_false, Bool.not_true, Bool.not_false, List.length_cons, List.length_nil] | rw [wrap_id (by omega) (by omega)] | ((with_reducible refine Ev.eq (congrArg some ?_)); rfl))
      exact specIs_loop n l hl l.length 0 (by omega)
    · rw [decide_eq_false h2, decide_eq_true (show (l.length : Int) > 10 by omega), Bool.and_false]
      repeat (first | with_reducible exact Ev.now _ | dsimp only | refine Ev.pos (by first | omega | rfl | assumption | decide) ?_ | refine Ev.neg (by first | omega | assumption | exact Bool.false_ne_true | exact fun e => absurd e (by decide)) ?_ | simp only [bne_self_eq_false, Bool.not_true, Bool.not_false, List.length_cons, List.length_nil] | rw [wrap_id (by omega) (by omega)] | ((with_reducible refine Ev.eq (congrArg some ?_)); rfl))
  · rw [decide_eq_false h1, Bool.false_and, Bool.and_false]
    repeat (first | with_reducible exact Ev.now _ | dsimp only | with_reducible refine Ev.bind (Ev.eq ((specIn n 1 8).trans (congrArg some (decide_eq_false h1)))) ?_ | refine Ev.pos (by first | omega | rfl | assumption | decide) ?_ | refine Ev.neg (by first | omega | assumption | exact Bool.false_ne_true | exact fun e => absurd e (by decide)) ?_ | simp only [bne_self_eq_false, Bool.not_true, Bool.not_false, List.length_cons, List.length_nil] | rw [wrap_id (by omega) (by omega)] | with_reducible exact (Ev.eq ((specIn n 1 8).trans (congrArg some (decide_eq_false h1)))) | ((with_reducible refine Ev.eq (congrArg some ?_)); rfl))
    refine Ev.succ ?_
    simp only [spec_l01Is.j0]
    repeat (first | with_reducible exact Ev.now _ | dsimp only | refine Ev.pos (by first | omega | rfl | assumption | decide) ?_ | refine Ev.neg (by first | omega | assumption | exact Bool.false_ne_true | exact fun e => absurd e (by decide)) ?_ | simp only [bne_self_eq_false, Bool.not_true, Bool.not_false, List.length_cons, List.length_nil] | rw [wrap_id (by omega) (by omega)] | ((with_reducible refine Ev.eq (congrArg some ?_)); rfl))

theorem implIs_loop (n : Int) (l : List (List Int)) (hl : Mod l) : ∀ (d i : Nat), i + d = l.length →
    Ev (fun k => impl_IsGraph.l0 k l (l.length : Int) (i : Int) n l) ((l.drop i).all (okEdge n) && (decide (1 ≤ n ∧ n ≤ 8) && decide ((l.length : Int) ≤ 10))) := by
  have hl1 := hl.1
  intro d
  induction d with
  | zero =>
    intro i hi
    refine Ev.succ ?_; simp only [impl_IsGraph.l0]
    rw [List.drop_eq_nil_of_le (by omega), List.all_nil, Bool.true_and]
    by_cases h1 : 1 ≤ n ∧ n ≤ 8
    · rw [decide_eq_true h1, Bool.true_and]
      repeat (first | with_reducible exact Ev.now _ | dsimp only | with_reducible refine Ev.bind (Ev.eq ((implWithin n 1 8).trans (congrArg some (decide_eq_true h1)))) ?_ | refine Ev.pos (by first | omega | rfl | assumption | decide) ?_ | refine Ev.neg (by first | omega | assumption | exact Bool.false_ne_true | exact fun e => absurd e (by decide)) ?_ | simp only [bne_self_eq_false, Bool.not_true, Bool.not_false, List.length_cons, List.length_nil] | rw [wrap_id (by omega) (by omega)] | with_reducible exact (Ev.eq ((implWithin n 1 8).trans (congrArg some (decide_eq_true h1)))) | ((with_reducible refine Ev.eq (congrArg some ?_)); rfl))
    · rw [decide_eq_false h1, Bool.false_and]
      repeat (first | with_reducible exact Ev.now _ | dsimp only | with_reducible refine Ev.bind (Ev.eq ((implWithin n 1 8).trans (congrArg some (decide_eq_false h1)))) ?_ | refine Ev.pos (by first | omega | rfl | assumption | decide) ?_ | refine Ev.neg (by first | omega | assumption | exact Bool.false_ne_true | exact fun e => absurd e (by decide)) ?_ | simp only [bne_self_eq_false, Bool.not_true, Bool.not_false, List.length_cons, List.length_nil] | rw [wrap_id (by omega) (by omega)] | with_reducible exact (Ev.eq ((implWithin n 1 8).trans (congrArg some (decide_eq_false h1)))) | ((with_reducible refine Ev.eq (congrArg some ?_)); rfl))
  | succ d ih =>
    intro i hi
    refine Ev.succ ?_; simp only [impl_IsGraph.l0]
    rw [List.drop_eq_getElem_cons (by omega : i < l.length), List.all_cons, rl_lt (by omega), wrap_succ (by omega)]
    generalize l[i] = e
    have := ih (i + 1) (by omega)
    unfold okEdge at this ⊢
    by_cases h2 : (e.length : Int) = 2
    · rw [decide_eq_true (show e.length = 2 by omega), Bool.true_and]
      by_cases ha : 0 ≤ rd e 0 ∧ rd e 0 ≤ wrap64 (n - 1)
      · by_cases hb : 0 ≤ rd e 1 ∧ rd e 1 ≤ wrap64 (n - 1)
        · rw [decide_eq_true ha, decide_eq_true hb, Bool.true_and, Bool.true_and]
          repeat (first | with_reducible exact Ev.now _ | dsimp only | with_reducible refine Ev.bind (Ev.eq ((implWithin _ _ _).trans (congrArg some (decide_eq_true ha)))) ?_ | with_reducible refine Ev.bind (Ev.eq ((implWithin _ _ _).trans (congrArg some (decide_eq_true hb)))) ?_ | refine Ev.pos (by first | omega | rfl | assumption | decide) ?_ | refine Ev.neg (by first | omega | assumption | exact Bool.false_ne_true | exact fun e => absurd e (by decide)) ?_ | simp only [bne_self_eq_false, Bool.not_true, Bool.not_false, List.length_cons, List.length_nil] | rw [wrap_id (by omega) (by omega)] | with_reducible exact (Ev.eq ((implWithin _ _ _).trans (congrArg some (decide_eq_true ha)))) | with_reducible exact (Ev.eq ((implWithin _ _ _).trans (congrArg some (decide_eq_true hb)))) | ((with_reducible refine Ev.eq (congrArg some ?_)); rfl))
          exact this
        · rw [decide_eq_false hb, Bool.and_false, Bool.false_and, Bool.false_and]
          repeat (first | with_reducible exact Ev.now _ | dsimp only | with_reducible refine Ev.bind (Ev.eq ((implWithin _ _ _).trans (congrArg some (decide_eq_true ha)))) ?_ | with_reducible refine Ev.bind (Ev.eq ((implWithin _ _ _).trans (congrArg some (decide_eq_false hb)))) ?_ | refine Ev.pos (by first | omega | rfl | assumption | decide) ?_ | refine Ev.neg (by first | omega | assumption | exact Bool.false_ne_true | exact fun e => absurd e (by decide)) ?_ | simp only [bne_self_eq_false, Bool.not_true, Bool.not_false, List.length_cons, List.length_nil] | rw [wrap_id (by omega) (by omega)] | with_reducible exact (Ev.eq ((implWithin _ _ _).trans (congrArg some (decide_eq_true ha)))) | with_reducible exact (Ev.eq ((implWithin _ _ _).trans (congrArg some (decide_eq_false hb)))) | ((with_reducible refine Ev.eq (congrArg some ?_)); rfl))
      · rw [decide_eq_false ha, Bool.false_and, Bool.false_and, Bool.false_and]
        repeat (first | with_reducible exact Ev.now _ | dsimp only | with_reducible refine Ev.bind (Ev.eq ((implWithin _ _ _).trans (congrArg some (decide_eq_false ha)))) ?_ | refine Ev.pos (by first | omega | rfl | assumption | decide) ?_ | refine Ev.neg (by first | omega | assumption | exact Bool.false_ne_true | exact fun e => absurd e (by decide)) ?_ | simp only [bne_self_eq_false, Bool.not_true, Bool.not_false, List.length_cons, List.length_nil] | rw [wrap_id (by omega) (by omega)] | with_reducible exact (Ev.eq ((implWithin _ _ _).trans (congrArg some (decide_eq_false ha)))) | ((with_reducible refine Ev.eq (congrArg some ?_)); rfl))
    · rw [decide_eq_false (show ¬ e.length = 2 by omega), Bool.false_and, Bool.false_and, Bool.false_and]
      repeat (first | with_reducible exact Ev.now _ | dsimp only | refine Ev.pos (by first | omega | rfl | assumption | decide) ?_ | refine Ev.neg (by first | omega | assumption | exact Bool.false_ne_true | exact fun e => absurd e (by decide)) ?_ | simp only [bne_self_eq_false, Bool.not_true, Bool.not_false, List.length_cons, List.length_nil] | rw [wrap_id (by omega) (by omega)] | ((with_reducible refine Ev.eq (congrArg some ?_)); rfl))

theorem implIsGraph (n : Int) (l : List (List Int)) (hl : Mod l) : Ev (fun k => impl_IsGraph.f k n l) (isGraph n l) := by
  unfold impl_IsGraph.f
  exact implIs_loop n l hl l.length 0 (by omega)

theorem len_two {α : Type} {e : List α} (h : e.length = 2) : ∃ a b, e = [a, b] := by
  match e, h with
  | [a, b], _ => exact ⟨a, b, rfl⟩

theorem isGraph_iff (n : Int) (l : List (List Int)) : isGraph n l = true ↔ 1 ≤ n ∧ n ≤ 8 ∧ l.length ≤ 10 ∧ ∀ e ∈ l, ∃ a b : Int, e = [a, b] ∧ 0 ≤ a ∧ a < n ∧ 0 ≤ b ∧ b < n := by
  unfold isGraph
  rw [Bool.and_eq_true, Bool.and_eq_true, decide_eq_true_iff, decide_eq_true_iff, List.all_eq_true]
  constructor
  · rintro ⟨h, ⟨h1, h2⟩, h3⟩
    refine ⟨h1, h2, by omega, fun e he => ?_⟩
    have := h e he
    unfold okEdge at this
    rw [Bool.and_eq_true, Bool.and_eq_true, decide_eq_true_iff, decide_eq_true_iff, decide_eq_true_iff, wrap_id (by omega) (by omega)] at this
    obtain ⟨he2, ha, hb⟩ := this
    obtain ⟨a, b, rfl⟩ := len_two he2
    simp only [show rd [a, b] 0 = a from rfl, show rd [a, b] 1 = b from rfl] at ha hb
    exact ⟨a, b, rfl, by omega, by omega, by omega, by omega⟩
  · rintro ⟨h1, h2, h3, h⟩
    refine ⟨fun e he => ?_, ⟨h1, h2⟩, by omega⟩
    obtain ⟨a, b, rfl, h4, h5, h6, h7⟩ := h e he
    unfold okEdge
    rw [Bool.and_eq_true, Bool.and_eq_true, decide_eq_true_iff, decide_eq_true_iff, decide_eq_true_iff, wrap_id (by omega) (by omega)]
    simp only [show rd [a, b] 0 = a from rfl, show rd [a, b] 1 = b from rfl]
    exact ⟨rfl, by omega, by omega⟩
theorem graph_edge {n : Int} {l : List (List Int)} (h : isGraph n l = true) {i : Nat} (hi : i < l.length) :
    (rd_L1 l (i : Int)).length = 2 ∧ ∃ a b : Nat, rd (rd_L1 l (i : Int)) 0 = a ∧ rd (rd_L1 l (i : Int)) 1 = b ∧ (a : Int) < n ∧ (b : Int) < n := by
  rw [rl_lt hi]
  obtain ⟨h1, h2, h3, h4⟩ := (isGraph_iff n l).1 h
  obtain ⟨a, b, e, ha, ha', hb, hb'⟩ := h4 _ (List.getElem_mem hi)
  rw [e]
  refine ⟨rfl, a.toNat, b.toNat, ?_, ?_, by omega, by omega⟩
  · show a = _
    omega
  · show b = _
    omega

theorem graph_small {n : Int} {l : List (List Int)} (h : isGraph n l = true) : 1 ≤ n ∧ n ≤ 8 ∧ l.length ≤ 10 := by
  obtain ⟨h1, h2, h3, h4⟩ := (isGraph_iff n l).1 h
  exact ⟨h1, h2, h3⟩
/-- The directed edge's start, its end, and its reverse. -/
def tl (l : List (List Int)) (p : Nat) : Int := if p % 2 = 1 then rd (rd_L1 l ((p / 2 : Nat) : Int)) 1 else rd (rd_L1 l ((p / 2 : Nat) : Int)) 0
def hd (l : List (List Int)) (p : Nat) : Int := if p % 2 = 1 then rd (rd_L1 l ((p / 2 : Nat) : Int)) 0 else rd (rd_L1 l ((p / 2 : Nat) : Int)) 1
def inv (p : Nat) : Nat := if p % 2 = 0 then p + 1 else p - 1
def next (l : List (List Int)) (p q : Nat) : Bool := decide (hd l p = tl l q) && decide (q ≠ inv p)

theorem half (p : Nat) (h : p < 1000) : wrap64 (Int.tdiv (p : Int) 2) = ((p / 2 : Nat) : Int) := by
  rw [Int.tdiv_eq_ediv_of_nonneg (by omega), wrap_id (by omega) (by omega)]
  omega

theorem rest2 (p : Nat) : Int.tmod (p : Int) 2 = ((p % 2 : Nat) : Int) := by
  rw [Int.tmod_eq_emod_of_nonneg (by omega)]
  omega

theorem xor_inv (p : Nat) (h : p < 20) : Go.bits .xor .i64 (p : Int) 1 = ((inv p : Nat) : Int) := by
  have : ∀ q : Fin 20, Go.bits .xor .i64 (q.val : Int) 1 = ((inv q.val : Nat) : Int) := by decide
  exact this ⟨p, h⟩

section
variable {n : Int} {l : List (List Int)} (h : isGraph n l = true)
include h

theorem specEnds {p : Nat} (hp : p < 2 * l.length) : spec_l01Ends.f n l (p : Int) = some (tl l p, hd l p) := by
  obtain ⟨g1, g2, g3⟩ := graph_small h
  obtain ⟨e2, a, b, ea, eb, ha, hb⟩ := graph_edge h (show p / 2 < l.length by omega)
  unfold spec_l01Ends.f tl hd
  rw [half p (by omega), rest2, if_pos (by omega), if_pos (by omega)]
  by_cases c : p % 2 = 1
  · rw [if_pos (show ((p % 2 : Nat) : Int) = 1 by omega), if_pos (by omega), if_pos (by omega), if_pos c, if_pos c]
  · rw [if_neg (show ¬ ((p % 2 : Nat) : Int) = 1 by omega), if_pos (by omega), if_pos (by omega), if_neg c, if_neg c]

theorem implEnds {p : Nat} (hp : p < 2 * l.length) : impl_Graph_ends.f n l (p : Int) = some (tl l p, hd l p) := by
  obtain ⟨g1, g2, g3⟩ := graph_small h
  obtain ⟨e2, a, b, ea, eb, ha, hb⟩ := graph_edge h (show p / 2 < l.length by omega)
  unfold impl_Graph_ends.f tl hd
  rw [half p (by omega), rest2, wrap_id (x := 1 - ((p % 2 : Nat) : Int)) (by omega) (by omega), if_pos (by omega), if_pos (by omega), if_pos (by omega), if_pos (by omega), if_pos (by omega), if_pos (by omega)]
  by_cases c : p % 2 = 1
  · rw [if_pos c, if_pos c, c]
    rfl
  · rw [if_neg c, if_neg c, show p % 2 = 0 by omega]
    rfl

theorem implFollows {p q : Nat} (hp : p < 2 * l.length) (hq : q < 2 * l.length) : impl_Graph_follows.f n l (p : Int) (q : Int) = some (next l p q) := by
  obtain ⟨g1, g2, g3⟩ := graph_small h
  unfold impl_Graph_follows.f next
  rw [implEnds h hp, implEnds h hq, Option.bind_some, Option.bind_some, xor_inv p (by omega)]
  by_cases c : hd l p = tl l q
  · rw [if_pos c.symm, decide_eq_true c, Bool.true_and]
    by_cases c2 : q = inv p
    · rw [c2]; simp
    · simp [c2, bne]
      omega
  · rw [if_neg (fun e => c e.symm), decide_eq_false c, Bool.false_and]

end
theorem markInt64S_loop (n : Nat) (hn : n ≤ 1048576) (a : Int) (h0 : 0 ≤ a) (h1 : a ≤ 1125899906842624) : ∀ (d i : Nat) (ys : List Int), i + d = n → ys.length = n → ys.take i = (marks a n).take i →
    Ev (fun k => laws_markInt64S.l0 k ys (a + i) (i : Int)) (a + n, marks a n) := by
  intro d
  induction d with
  | zero =>
    intro i ys hi hy ht
    refine Ev.succ ?_; simp only [laws_markInt64S.l0]
    rw [show ys = marks a n from eq_of_take (by rw [hy, marks_length]) (by rw [marks_length]; omega) ht, show i = n by omega]
    have := marks_length a n
    repeat (first | with_reducible exact Ev.now _ | dsimp only | refine Ev.pos (by first | omega | rfl | assumption | decide) ?_ | refine Ev.neg (by first | omega | assumption | exact Bool.false_ne_true | exact fun e => absurd e (by decide)) ?_ | simp only [bne_self_eq_false, Bool.not_true, Bool.not_false, List.length_cons, List.length_nil] | rw [wrap_id (by omega) (by omega)] | ((with_reducible refine Ev.eq (congrArg some ?_)); rfl))
  | succ d ih =>
    intro i ys hi hy ht
    refine Ev.succ ?_; simp only [laws_markInt64S.l0]
    rw [wrap_succ (by omega), wrap_id (x := a + i + 1) (by omega) (by omega)]
    repeat (first | with_reducible exact Ev.now _ | dsimp only | refine Ev.pos (by first | omega | rfl | assumption | decide) ?_ | refine Ev.neg (by first | omega | assumption | exact Bool.false_ne_true | exact fun e => absurd e (by decide)) ?_ | simp only [bne_self_eq_false, Bool.not_true, Bool.not_false, List.length_cons, List.length_nil] | rw [wrap_id (by omega) (by omega)] | ((with_reducible refine Ev.eq (congrArg some ?_)); rfl))
    have := ih (i + 1) (ys.set i (a + i)) (by omega) (by simpa using hy) (take_set_succ (by rw [hy, marks_length]) (by rw [marks_length]; omega) (marks_get a n i (by rw [marks_length]; omega)).symm ht)
    rw [show a + ((i + 1 : Nat) : Int) = a + i + 1 by omega] at this
    exact this

theorem markInt64S (l : List Int) (hl : l.length ≤ 1048576) (a : Int) (h0 : 0 ≤ a) (h1 : a ≤ 1125899906842624) : Ev (fun k => laws_markInt64S.f k l a) (a + l.length, marks a l.length) := by
  unfold laws_markInt64S.f
  have := markInt64S_loop l.length hl a h0 h1 l.length 0 l (by omega) rfl (by simp)
  rw [show a + ((0 : Nat) : Int) = a by omega] at this
  exact this

theorem heldInt64S_loop (n : Nat) (hn : n ≤ 1048576) (a : Int) (h0 : 0 ≤ a) (h1 : a ≤ 1125899906842624) : ∀ (d i : Nat), i + d = n →
    Ev (fun k => laws_heldInt64S.l0 k (marks a n) (a + i) (i : Int)) (a + n) := by
  have hm := marks_length a n
  intro d
  induction d with
  | zero =>
    intro i hi
    refine Ev.succ ?_; simp only [laws_heldInt64S.l0]
    rw [show i = n by omega]
    repeat (first | with_reducible exact Ev.now _ | dsimp only | refine Ev.pos (by first | omega | rfl | assumption | decide) ?_ | refine Ev.neg (by first | omega | assumption | exact Bool.false_ne_true | exact fun e => absurd e (by decide)) ?_ | simp only [bne_self_eq_false, Bool.not_true, Bool.not_false, List.length_cons, List.length_nil] | rw [wrap_id (by omega) (by omega)] | ((with_reducible refine Ev.eq (congrArg some ?_)); rfl))
  | succ d ih =>
    intro i hi
    refine Ev.succ ?_; simp only [laws_heldInt64S.l0]
    rw [wrap_succ (by omega), wrap_id (x := a + i + 1) (by omega) (by omega)]
    have e := marks_get a n i (by omega)
    rw [← rd_lt] at e
    have := ih (i + 1) (by omega)
    rw [show a + ((i + 1 : Nat) : Int) = a + i + 1 by omega] at this
    repeat (first | with_reducible exact Ev.now _ | dsimp only | refine Ev.pos (by first | omega | rfl | assumption | decide) ?_ | refine Ev.neg (by first | omega | assumption | exact Bool.false_ne_true | exact fun e => absurd e (by decide)) ?_ | simp only [bne_self_eq_false, Bool.not_true, Bool.not_false, List.length_cons, List.length_nil] | rw [wrap_id (by omega) (by omega)] | ((with_reducible refine Ev.eq (congrArg some ?_)); rfl))
    exact this

theorem heldInt64S (a : Int) (n : Nat) (hn : n ≤ 1048576) (h0 : 0 ≤ a) (h1 : a ≤ 1125899906842624) : Ev (fun k => laws_heldInt64S.f k (marks a n) a) (a + n) := by
  unfold laws_heldInt64S.f
  have := heldInt64S_loop n hn a h0 h1 n 0 (by omega)
  rw [show a + ((0 : Nat) : Int) = a by omega] at this
  exact this
theorem markInt64SS_loop : ∀ (d i : Nat) (xs : List (List Int)) (a : Int), i + d = xs.length → xs.length ≤ 1048576 → (∀ r ∈ xs, r.length ≤ 1048576) → 0 ≤ a → a ≤ 1 + 1048576 * i →
    ∃ r : Int × List (List Int), Ev (fun k => laws_markInt64SS.l0 k xs a (i : Int)) r ∧ 0 ≤ r.1 ∧ r.1 ≤ 1 + 1048576 * xs.length := by
  intro d
  induction d with
  | zero =>
    intro i xs a hi hx hr h0 h1
    refine ⟨(a, xs), ?_, h0, by simp only; omega⟩
    refine Ev.succ ?_; simp only [laws_markInt64SS.l0]
    repeat (first | with_reducible exact Ev.now _ | dsimp only | refine Ev.pos (by first | omega | rfl | assumption | decide) ?_ | refine Ev.neg (by first | omega | assumption | exact Bool.false_ne_true | exact fun e => absurd e (by decide)) ?_ | simp only [bne_self_eq_false, Bool.not_true, Bool.not_false, List.length_cons, List.length_nil] | rw [wrap_id (by omega) (by omega)] | ((with_reducible refine Ev.eq (congrArg some ?_)); rfl))
  | succ d ih =>
    intro i xs a hi hx hr h0 h1
    have hlen : xs[i].length ≤ 1048576 := hr _ (List.getElem_mem (by omega))
    obtain ⟨r, h2, h3⟩ := ih (i + 1) (xs.set i (marks a xs[i].length)) (a + xs[i].length) (by simp; omega) (by simpa using hx) (fun r hm => by
      rcases List.mem_or_eq_of_mem_set hm with h | h
      · exact hr r h
      · rw [h, marks_length]; exact hlen) (by omega) (by omega)
    rw [List.length_set] at h3
    refine ⟨r, ?_, h3⟩
    refine Ev.succ ?_; simp only [laws_markInt64SS.l0]
    rw [wrap_succ (by omega), rl_lt (by omega)]
    repeat (first | with_reducible exact Ev.now _ | dsimp only | with_reducible refine Ev.bind (markInt64S xs[i] hlen a h0 (by omega)) ?_ | refine Ev.pos (by first | omega | rfl | assumption | decide) ?_ | refine Ev.neg (by first | omega | assumption | exact Bool.false_ne_true | exact fun e => absurd e (by decide)) ?_ | simp only [bne_self_eq_false, Bool.not_true, Bool.not_false, List.length_cons, List.length_nil] | rw [wrap_id (by omega) (by omega)] | with_reducible exact (markInt64S xs[i] hlen a h0 (by omega)) | ((with_reducible refine Ev.eq (congrArg some ?_)); rfl))
    exact h2

theorem markGraph (n : Int) (l : List (List Int)) (hl : Mod l) : ∃ r : Int × List (List Int), Ev (fun k => laws_markGraph.f k n l 1) r ∧ 0 ≤ r.1 ∧ r.1 ≤ 1099511627777 := by
  unfold laws_markGraph.f laws_markInt64SS.f
  have hl1 := hl.1
  obtain ⟨r, h1, h2, h3⟩ := markInt64SS_loop l.length 0 l 1 (by omega) hl.1 hl.2 (by decide) (by omega)
  exact ⟨r, h1, h2, by omega⟩
def marksR : Int → List (List Int) → List (List Int)
  | _, [] => []
  | a, r :: rs => marks a r.length :: marksR (a + r.length) rs

def total : List (List Int) → Nat
  | [] => 0
  | r :: rs => r.length + total rs

theorem total_le (rs : List (List Int)) (h : ∀ r ∈ rs, r.length ≤ 1048576) : total rs ≤ 1048576 * rs.length := by
  induction rs with
  | nil => simp [total]
  | cons r rs ih =>
    have h1 := h r (List.mem_cons_self)
    have h2 := ih (fun x hx => h x (List.mem_cons_of_mem _ hx))
    unfold total
    rw [List.length_cons]
    omega

theorem marksR_length (a : Int) (rs : List (List Int)) : (marksR a rs).length = rs.length := by
  induction rs generalizing a with
  | nil => rfl
  | cons r rs ih => simp [marksR, ih]

theorem rl_mid (A : List (List Int)) (r : List Int) (B : List (List Int)) : rd_L1 (A ++ r :: B) (A.length : Int) = r := by
  rw [rl_lt (by simp)]
  simp

theorem markRows_loop : ∀ (rest done : List (List Int)) (a : Int), (done ++ rest).length ≤ 1048576 → (∀ r ∈ rest, r.length ≤ 1048576) → 0 ≤ a → a + total rest ≤ 1125899906842624 →
    Ev (fun k => laws_markInt64SS.l0 k (done ++ rest) a (done.length : Int)) (a + total rest, done ++ marksR a rest) := by
  intro rest
  induction rest with
  | nil =>
    intro done a hl hr h0 h1
    refine Ev.succ ?_; simp only [laws_markInt64SS.l0]
    rw [List.append_nil] at *
    unfold marksR total
    rw [show a + ((0 : Nat) : Int) = a by omega, List.append_nil]
    repeat (first | with_reducible exact Ev.now _ | dsimp only | refine Ev.pos (by first | omega | rfl | assumption | decide) ?_ | refine Ev.neg (by first | omega | assumption | exact Bool.false_ne_true | exact fun e => absurd e (by decide)) ?_ | simp only [bne_self_eq_false, Bool.not_true, Bool.not_false, List.length_cons, List.length_nil] | rw [wrap_id (by omega) (by omega)] | ((with_reducible refine Ev.eq (congrArg some ?_)); rfl))
  | cons r rest ih =>
    intro done a hl hr h0 h1
    have hrl := hr r (List.mem_cons_self)
    unfold total at h1
    have hd : (done ++ r :: rest).length = done.length + rest.length + 1 := by simp; omega
    refine Ev.succ ?_; simp only [laws_markInt64SS.l0]
    rw [rl_mid, wrap_succ (by omega), Int.toNat_natCast]
    repeat (first | with_reducible exact Ev.now _ | dsimp only | with_reducible refine Ev.bind (markInt64S r hrl a h0 (by omega)) ?_ | refine Ev.pos (by first | omega | rfl | assumption | decide) ?_ | refine Ev.neg (by first | omega | assumption | exact Bool.false_ne_true | exact fun e => absurd e (by decide)) ?_ | simp only [bne_self_eq_false, Bool.not_true, Bool.not_false, List.length_cons, List.length_nil] | rw [wrap_id (by omega) (by omega)] | with_reducible exact (markInt64S r hrl a h0 (by omega)) | ((with_reducible refine Ev.eq (congrArg some ?_)); rfl))
    have e1 : (done ++ r :: rest).set done.length (marks a r.length) = (done ++ [marks a r.length]) ++ rest := by
      rw [List.set_append_right _ _ (Nat.le_refl _), Nat.sub_self, List.set_cons_zero, List.append_assoc]
      rfl
    have := ih (done ++ [marks a r.length]) (a + r.length) (by simp at hl ⊢; omega) (fun x hx => hr x (List.mem_cons_of_mem _ hx)) (by omega) (by omega)
    rw [e1]
    rw [List.length_append, List.length_singleton] at this
    unfold total marksR
    rw [show a + ((r.length + total rest : Nat) : Int) = a + r.length + total rest by omega, show done ++ marks a r.length :: marksR (a + r.length) rest = (done ++ [marks a r.length]) ++ marksR (a + r.length) rest by rw [List.append_assoc]; rfl]
    exact this

theorem markRows (rs : List (List Int)) (h : Mod rs) : Ev (fun k => laws_markInt64SS.f k rs 1) (1 + total rs, marksR 1 rs) := by
  have := total_le rs h.2
  have hl := h.1
  exact markRows_loop rs [] 1 hl h.2 (by decide) (by omega)

theorem heldRows_loop : ∀ (rest done : List (List Int)) (a : Int), (done ++ rest).length ≤ 1048576 → (∀ r ∈ rest, r.length ≤ 1048576) → 0 ≤ a → a + total rest ≤ 1125899906842624 →
    Ev (fun k => laws_heldInt64SS.l0 k (done ++ marksR a rest) a (done.length : Int)) (a + total rest) := by
  intro rest
  induction rest with
  | nil =>
    intro done a hl hr h0 h1
    refine Ev.succ ?_; simp only [laws_heldInt64SS.l0]
    unfold marksR total
    rw [show a + ((0 : Nat) : Int) = a by omega, List.append_nil]
    repeat (first | with_reducible exact Ev.now _ | dsimp only | refine Ev.pos (by first | omega | rfl | assumption | decide) ?_ | refine Ev.neg (by first | omega | assumption | exact Bool.false_ne_true | exact fun e => absurd e (by decide)) ?_ | simp only [bne_self_eq_false, Bool.not_true, Bool.not_false, List.length_cons, List.length_nil] | rw [wrap_id (by omega) (by omega)] | ((with_reducible refine Ev.eq (congrArg some ?_)); rfl))
  | cons r rest ih =>
    intro done a hl hr h0 h1
    have hrl := hr r (List.mem_cons_self)
    unfold total at h1
    have hd : (done ++ marksR a (r :: rest)).length = done.length + rest.length + 1 := by rw [List.length_append, marksR_length, List.length_cons]; omega
    have hd2 : (done ++ r :: rest).length = done.length + rest.length + 1 := by simp; omega
    refine Ev.succ ?_; simp only [laws_heldInt64SS.l0]
    unfold marksR at hd ⊢
    rw [rl_mid, wrap_succ (by omega)]
    repeat (first | with_reducible exact Ev.now _ | dsimp only | with_reducible refine Ev.bind (heldInt64S a r.length hrl h0 (by omega)) ?_ | refine Ev.pos (by first | omega | rfl | assumption | decide) ?_ | refine Ev.neg (by first | omega | assumption | exact Bool.false_ne_true | exact fun e => absurd e (by decide)) ?_ | simp only [bne_self_eq_false, Bool.not_true, Bool.not_false, List.length_cons, List.length_nil] | rw [wrap_id (by omega) (by omega)] | with_reducible exact (heldInt64S a r.length hrl h0 (by omega)) | ((with_reducible refine Ev.eq (congrArg some ?_)); rfl))
    have := ih (done ++ [marks a r.length]) (a + r.length) (by simp at hl ⊢; omega) (fun x hx => hr x (List.mem_cons_of_mem _ hx)) (by omega) (by omega)
    rw [List.length_append, List.length_singleton] at this
    unfold total
    rw [show a + ((r.length + total rest : Nat) : Int) = a + r.length + total rest by omega, show done ++ marks a r.length :: marksR (a + r.length) rest = (done ++ [marks a r.length]) ++ marksR (a + r.length) rest by rw [List.append_assoc]; rfl]
    exact this

theorem heldRows (rs : List (List Int)) (h : Mod rs) : Ev (fun k => laws_heldInt64SS.f k (marksR 1 rs) 1) (1 + total rs) := by
  have := total_le rs h.2
  have hl := h.1
  exact heldRows_loop rs [] 1 hl h.2 (by decide) (by omega)
def zeros (n : Nat) : List (List Int) := List.replicate n (List.replicate n 0)

theorem rep_succ {α : Type} (n : Nat) (x : α) : List.replicate n x ++ [x] = List.replicate (n + 1) x := List.replicate_succ'.symm

theorem implSquare (n : Int) (h0 : 0 ≤ n) (h1 : n ≤ 1000) : Ev (fun k => impl_square.f k n) (zeros n.toNat) := by
  have : ∀ (d v : Nat), (v : Int) + d = n → Ev (fun k => impl_square.l0 k n (List.replicate v (List.replicate n.toNat 0)) n (v : Int)) (zeros n.toNat) := by
    intro d
    induction d with
    | zero =>
      intro v hv
      refine Ev.succ ?_; simp only [impl_square.l0]
      rw [show v = n.toNat by omega]
      repeat (first | with_reducible exact Ev.now _ | dsimp only | refine Ev.pos (by first | omega | rfl | assumption | decide) ?_ | refine Ev.neg (by first | omega | assumption | exact Bool.false_ne_true | exact fun e => absurd e (by decide)) ?_ | simp only [bne_self_eq_false, Bool.not_true, Bool.not_false, List.length_cons, List.length_nil] | rw [wrap_id (by omega) (by omega)] | ((with_reducible refine Ev.eq (congrArg some ?_)); rfl))
    | succ d ih =>
      intro v hv
      have := ih (v + 1) (by omega)
      rw [← rep_succ] at this
      refine Ev.succ ?_; simp only [impl_square.l0]
      rw [wrap_succ (by omega)]
      refine Ev.pos (by omega) ?_
      refine Ev.pos (by omega) ?_
      refine Ev.pos (by omega) ?_
      refine Ev.pos (by simp; omega) ?_
      exact this
  exact this n.toNat 0 (by omega)
theorem tl_edge {n : Int} {l : List (List Int)} (h : isGraph n l = true) {p : Nat} (hp : p < 2 * l.length) : ∃ a b : Nat, tl l p = a ∧ hd l p = b ∧ (a : Int) < n ∧ (b : Int) < n := by
  obtain ⟨e2, a, b, ea, eb, ha, hb⟩ := graph_edge h (show p / 2 < l.length by omega)
  unfold tl hd
  split
  · exact ⟨b, a, eb, ea, hb, ha⟩
  · exact ⟨a, b, ea, eb, ha, hb⟩

def bump (m : List (List Int)) (a b : Int) : List (List Int) := m.set a.toNat ((rd_L1 m a).set b.toNat (wrap64 (rd (rd_L1 m a) b + 1)))

/-- The matrix after p directed edges. -/
def adj (l : List (List Int)) (n : Nat) : Nat → List (List Int)
  | 0 => zeros n
  | p + 1 => bump (adj l n p) (tl l p) (hd l p)

theorem rl_set {xs : List (List Int)} {i j : Nat} {v : List Int} (h : i < xs.length) : rd_L1 (xs.set i v) (j : Int) = if j = i then v else rd_L1 xs (j : Int) := by
  by_cases e : j = i
  · subst e
    rw [if_pos rfl, rl_lt (by simpa using h)]
    simp
  · rw [if_neg e]
    simp only [rd_L1, List.getD_eq_getElem?_getD, Int.toNat_natCast]
    rw [List.getElem?_set_ne (fun x => e x.symm)]

section
variable {n : Int} {l : List (List Int)} (h : isGraph n l = true)
include h

theorem adj_form : ∀ p : Nat, p ≤ 2 * l.length → (adj l n.toNat p).length = n.toNat ∧ ∀ v : Nat, v < n.toNat → (rd_L1 (adj l n.toNat p) (v : Int)).length = n.toNat := by
  intro p
  induction p with
  | zero =>
    intro _
    refine ⟨by simp [adj, zeros], fun v hv => ?_⟩
    rw [rl_lt (by simp only [adj, zeros, List.length_replicate]; exact hv)]
    simp [adj, zeros]
  | succ p ih =>
    intro hp
    obtain ⟨h1, h2⟩ := ih (by omega)
    obtain ⟨a, b, ea, eb, ha, hb⟩ := tl_edge h (show p < 2 * l.length by omega)
    unfold adj bump
    rw [ea, eb, Int.toNat_natCast, Int.toNat_natCast]
    refine ⟨by rw [List.length_set]; exact h1, fun v hv => ?_⟩
    rw [rl_set (by omega)]
    split
    · rw [List.length_set]; exact h2 a (by omega)
    · exact h2 v hv

theorem adj_mod (p : Nat) (hp : p ≤ 2 * l.length) : Mod (adj l n.toNat p) := by
  obtain ⟨g1, g2, g3⟩ := graph_small h
  obtain ⟨h1, h2⟩ := adj_form h p hp
  refine ⟨by omega, fun r hr => ?_⟩
  obtain ⟨i, hi, rfl⟩ := List.getElem_of_mem hr
  rw [← rl_lt hi, h2 i (by omega)]
  omega

theorem spec_adj_loop : ∀ (d p : Nat), p + d = 2 * l.length → Ev (fun k => spec_l01Adjacency.l1 k (adj l n.toNat p) (p : Int) n l) (adj l n.toNat (2 * l.length)) := by
  obtain ⟨g1, g2, g3⟩ := graph_small h
  intro d
  induction d with
  | zero =>
    intro p hp
    have e : p = 2 * l.length := by omega
    refine Ev.succ ?_; simp only [spec_l01Adjacency.l1]
    rw [wrap_id (x := 2 * (l.length : Int)) (by omega) (by omega), e]
    repeat (first | with_reducible exact Ev.now _ | dsimp only | refine Ev.pos (by first | omega | rfl | assumption | decide) ?_ | refine Ev.neg (by first | omega | assumption | exact Bool.false_ne_true | exact fun e => absurd e (by decide)) ?_ | simp only [bne_self_eq_false, Bool.not_true, Bool.not_false, List.length_cons, List.length_nil] | rw [wrap_id (by omega) (by omega)] | ((with_reducible refine Ev.eq (congrArg some ?_)); rfl))
  | succ d ih =>
    intro p hp
    have := ih (p + 1) (by omega)
    obtain ⟨h1, h2⟩ := adj_form h p (by omega)
    obtain ⟨a, b, ea, eb, ha, hb⟩ := tl_edge h (show p < 2 * l.length by omega)
    have he := specEnds h (show p < 2 * l.length by omega)
    rw [show adj l n.toNat (p + 1) = bump (adj l n.toNat p) (tl l p) (hd l p) from rfl] at this
    unfold bump at this
    rw [ea, eb] at this he
    have h2a := h2 a (by omega)
    refine Ev.succ ?_; simp only [spec_l01Adjacency.l1]
    rw [wrap_id (x := 2 * (l.length : Int)) (by omega) (by omega), wrap_succ (by omega)]
    repeat (first | with_reducible exact Ev.now _ | dsimp only | with_reducible refine Ev.bind (Ev.eq he) ?_ | refine Ev.pos (by first | omega | rfl | assumption | decide) ?_ | refine Ev.neg (by first | omega | assumption | exact Bool.false_ne_true | exact fun e => absurd e (by decide)) ?_ | simp only [bne_self_eq_false, Bool.not_true, Bool.not_false, List.length_cons, List.length_nil] | rw [wrap_id (by omega) (by omega)] | with_reducible exact (Ev.eq he) | ((with_reducible refine Ev.eq (congrArg some ?_)); rfl))
    exact this

theorem spec_adj : Ev (fun k => spec_l01Adjacency.f k n l) (adj l n.toNat (2 * l.length)) := by
  obtain ⟨g1, g2, g3⟩ := graph_small h
  have : ∀ (d v : Nat), (v : Int) + d = n → Ev (fun k => spec_l01Adjacency.l0 k (List.replicate v (List.replicate n.toNat 0)) (v : Int) n l) (adj l n.toNat (2 * l.length)) := by
    intro d
    induction d with
    | zero =>
      intro v hv
      refine Ev.succ ?_; simp only [spec_l01Adjacency.l0]
      rw [show v = n.toNat by omega]
      repeat (first | with_reducible exact Ev.now _ | dsimp only | refine Ev.pos (by first | omega | rfl | assumption | decide) ?_ | refine Ev.neg (by first | omega | assumption | exact Bool.false_ne_true | exact fun e => absurd e (by decide)) ?_ | simp only [bne_self_eq_false, Bool.not_true, Bool.not_false, List.length_cons, List.length_nil] | rw [wrap_id (by omega) (by omega)] | ((with_reducible refine Ev.eq (congrArg some ?_)); rfl))
      exact spec_adj_loop h (2 * l.length) 0 (by omega)
    | succ d ih =>
      intro v hv
      have := ih (v + 1) (by omega)
      rw [← rep_succ] at this
      refine Ev.succ ?_; simp only [spec_l01Adjacency.l0]
      rw [wrap_succ (by omega)]
      refine Ev.pos (by omega) ?_
      refine Ev.pos (by omega) ?_
      refine Ev.pos (by omega) ?_
      refine Ev.pos (by simp; omega) ?_
      exact this
  exact this n.toNat 0 (by omega)

theorem impl_adj_loop : ∀ (d i : Nat), i + d = l.length → Ev (fun k => impl_Graph_adjacency.l0 k (adj l n.toNat (2 * i)) l (l.length : Int) (i : Int)) (adj l n.toNat (2 * l.length)) := by
  obtain ⟨g1, g2, g3⟩ := graph_small h
  intro d
  induction d with
  | zero =>
    intro i hi
    have e : i = l.length := by omega
    refine Ev.succ ?_; simp only [impl_Graph_adjacency.l0]
    rw [e]
    repeat (first | with_reducible exact Ev.now _ | dsimp only | refine Ev.pos (by first | omega | rfl | assumption | decide) ?_ | refine Ev.neg (by first | omega | assumption | exact Bool.false_ne_true | exact fun e => absurd e (by decide)) ?_ | simp only [bne_self_eq_false, Bool.not_true, Bool.not_false, List.length_cons, List.length_nil] | rw [wrap_id (by omega) (by omega)] | ((with_reducible refine Ev.eq (congrArg some ?_)); rfl))
  | succ d ih =>
    intro i hi
    have := ih (i + 1) (by omega)
    obtain ⟨h1, h2⟩ := adj_form h (2 * i) (by omega)
    obtain ⟨h3, h4⟩ := adj_form h (2 * i + 1) (by omega)
    obtain ⟨e2, a, b, ea, eb, ha, hb⟩ := graph_edge h (show i < l.length by omega)
    have t1 : tl l (2 * i) = a := by
      unfold tl
      rw [if_neg (by omega), show 2 * i / 2 = i by omega]
      exact ea
    have t2 : hd l (2 * i) = b := by
      unfold hd
      rw [if_neg (by omega), show 2 * i / 2 = i by omega]
      exact eb
    have t3 : tl l (2 * i + 1) = b := by
      unfold tl
      rw [if_pos (by omega), show (2 * i + 1) / 2 = i by omega]
      exact eb
    have t4 : hd l (2 * i + 1) = a := by
      unfold hd
      rw [if_pos (by omega), show (2 * i + 1) / 2 = i by omega]
      exact ea
    have b1 : adj l n.toNat (2 * i + 1) = (adj l n.toNat (2 * i)).set a ((rd_L1 (adj l n.toNat (2 * i)) (a : Int)).set b (wrap64 (rd (rd_L1 (adj l n.toNat (2 * i)) (a : Int)) (b : Int) + 1))) := by
      conv => lhs; unfold adj bump
      rw [t1, t2, Int.toNat_natCast, Int.toNat_natCast]
    have b2 : adj l n.toNat (2 * (i + 1)) = (adj l n.toNat (2 * i + 1)).set b ((rd_L1 (adj l n.toNat (2 * i + 1)) (b : Int)).set a (wrap64 (rd (rd_L1 (adj l n.toNat (2 * i + 1)) (b : Int)) (a : Int) + 1))) := by
      conv => lhs; rw [show 2 * (i + 1) = (2 * i + 1) + 1 by omega]; unfold adj bump
      rw [t3, t4, Int.toNat_natCast, Int.toNat_natCast]
    rw [b2] at this
    have h2a := h2 a (by omega)
    have h4b := h4 b (by omega)
    refine Ev.succ ?_; simp only [impl_Graph_adjacency.l0]
    rw [wrap_succ (by omega), ea, eb, Int.toNat_natCast, Int.toNat_natCast, ← b1]
    repeat (first | with_reducible exact Ev.now _ | dsimp only | with_reducible refine Ev.bind (Ev.now _) ?_ | refine Ev.pos (by first | omega | rfl | assumption | decide) ?_ | refine Ev.neg (by first | omega | assumption | exact Bool.false_ne_true | exact fun e => absurd e (by decide)) ?_ | simp only [bne_self_eq_false, Bool.not_true, Bool.not_false, List.length_cons, List.length_nil] | rw [wrap_id (by omega) (by omega)] | with_reducible exact (Ev.now _) | ((with_reducible refine Ev.eq (congrArg some ?_)); rfl))
    exact this

theorem impl_adj : Ev (fun k => impl_Graph_adjacency.f k n l) (adj l n.toNat (2 * l.length)) := by
  obtain ⟨g1, g2, g3⟩ := graph_small h
  unfold impl_Graph_adjacency.f
  refine Ev.bind (implSquare n (by omega) (by omega)) ?_
  exact impl_adj_loop h l.length 0 (by omega)

end

theorem adj_same (n : Int) (l : List (List Int)) (hl : Mod l) : ∃ r : List (List Int) × Int, Mod r.1 ∧ Ev (fun k => spec_AdjacencyOf.f k n l) r ∧ Ev (fun k => impl_AdjacencyOf.f k n l) r := by
  unfold spec_AdjacencyOf.f impl_AdjacencyOf.f
  have h1 := specIs n l hl
  have h2 := implIsGraph n l hl
  by_cases hg : isGraph n l = true
  · rw [hg] at h1 h2
    refine ⟨(adj l n.toNat (2 * l.length), 0), adj_mod hg _ (Nat.le_refl _), ?_, ?_⟩
    · repeat (first | with_reducible exact Ev.now _ | dsimp only | with_reducible refine Ev.bind (h1) ?_ | with_reducible refine Ev.bind (spec_adj hg) ?_ | refine Ev.pos (by first | omega | rfl | assumption | decide) ?_ | refine Ev.neg (by first | omega | assumption | exact Bool.false_ne_true | exact fun e => absurd e (by decide)) ?_ | simp only [bne_self_eq_false, Bool.not_true, Bool.not_false, List.length_cons, List.length_nil] | rw [wrap_id (by omega) (by omega)] | with_reducible exact (h1) | with_reducible exact (spec_adj hg) | ((with_reducible refine Ev.eq (congrArg some ?_)); rfl))
    · repeat (first | with_reducible exact Ev.now _ | dsimp only | with_reducible refine Ev.bind (h2) ?_ | with_reducible refine Ev.bind (impl_adj hg) ?_ | refine Ev.pos (by first | omega | rfl | assumption | decide) ?_ | refine Ev.neg (by first | omega | assumption | exact Bool.false_ne_true | exact fun e => absurd e (by decide)) ?_ | simp only [bne_self_eq_false, Bool.not_true, Bool.not_false, List.length_cons, List.length_nil] | rw [wrap_id (by omega) (by omega)] | with_reducible exact (h2) | with_reducible exact (impl_adj hg) | ((with_reducible refine Ev.eq (congrArg some ?_)); rfl))
  · rw [Bool.not_eq_true] at hg
    rw [hg] at h1 h2
    refine ⟨([], 1), ⟨by simp, fun r hr => absurd hr (by simp)⟩, ?_, ?_⟩
    · repeat (first | with_reducible exact Ev.now _ | dsimp only | with_reducible refine Ev.bind (h1) ?_ | refine Ev.pos (by first | omega | rfl | assumption | decide) ?_ | refine Ev.neg (by first | omega | assumption | exact Bool.false_ne_true | exact fun e => absurd e (by decide)) ?_ | simp only [bne_self_eq_false, Bool.not_true, Bool.not_false, List.length_cons, List.length_nil] | rw [wrap_id (by omega) (by omega)] | with_reducible exact (h1) | ((with_reducible refine Ev.eq (congrArg some ?_)); rfl))
    · repeat (first | with_reducible exact Ev.now _ | dsimp only | with_reducible refine Ev.bind (h2) ?_ | refine Ev.pos (by first | omega | rfl | assumption | decide) ?_ | refine Ev.neg (by first | omega | assumption | exact Bool.false_ne_true | exact fun e => absurd e (by decide)) ?_ | simp only [bne_self_eq_false, Bool.not_true, Bool.not_false, List.length_cons, List.length_nil] | rw [wrap_id (by omega) (by omega)] | with_reducible exact (h2) | ((with_reducible refine Ev.eq (congrArg some ?_)); rfl))

theorem FnExactAdjacencyOf : laws_FnExactAdjacencyOf.Pure := by
  intro n l _ hl hr
  refine Ev.rounds ?_
  unfold laws_FnExactAdjacencyOf.f
  refine Ev.ex (szGraph n l hl hr) (fun t ht => ?_)
  rcases ht with ht | ht
  · repeat (first | with_reducible exact Ev.now _ | dsimp only | refine Ev.pos (by first | omega | rfl | assumption | decide) ?_ | refine Ev.neg (by first | omega | assumption | exact Bool.false_ne_true | exact fun e => absurd e (by decide)) ?_ | simp only [bne_self_eq_false, Bool.not_true, Bool.not_false, List.length_cons, List.length_nil] | rw [wrap_id (by omega) (by omega)] | ((with_reducible refine Ev.eq (congrArg some ?_)); rfl))
  by_cases h0 : t < 0
  · repeat (first | with_reducible exact Ev.now _ | dsimp only | refine Ev.pos (by first | omega | rfl | assumption | decide) ?_ | refine Ev.neg (by first | omega | assumption | exact Bool.false_ne_true | exact fun e => absurd e (by decide)) ?_ | simp only [bne_self_eq_false, Bool.not_true, Bool.not_false, List.length_cons, List.length_nil] | rw [wrap_id (by omega) (by omega)] | ((with_reducible refine Ev.eq (congrArg some ?_)); rfl))
  obtain ⟨r, hr, hs, hi⟩ := adj_same n l ht
  obtain ⟨q, hq, hq0, hq1⟩ := markGraph n l ht
  repeat (first | with_reducible exact Ev.now _ | dsimp only | with_reducible refine Ev.bind (toGraph n l ht) ?_ | with_reducible refine Ev.bind (hs) ?_ | with_reducible refine Ev.bind (hi) ?_ | with_reducible refine Ev.bind (eqInt64SS_self r.1 hr) ?_ | with_reducible refine Ev.bind (eqGraph_self n l ht) ?_ | with_reducible refine Ev.bind (hq) ?_ | with_reducible refine Ev.bind (markRows r.1 hr) ?_ | with_reducible refine Ev.bind (heldRows r.1 hr) ?_ | refine Ev.pos (by first | omega | rfl | assumption | decide) ?_ | refine Ev.neg (by first | omega | assumption | exact Bool.false_ne_true | exact fun e => absurd e (by decide)) ?_ | simp only [bne_self_eq_false, Bool.not_true, Bool.not_false, List.length_cons, List.length_nil] | rw [wrap_id (by omega) (by omega)] | with_reducible exact (toGraph n l ht) | with_reducible exact (hs) | with_reducible exact (hi) | with_reducible exact (eqInt64SS_self r.1 hr) | with_reducible exact (eqGraph_self n l ht) | with_reducible exact (hq) | with_reducible exact (markRows r.1 hr) | with_reducible exact (heldRows r.1 hr) | ((with_reducible refine Ev.eq (congrArg some ?_)); rfl))
end Go.Proofs.Ytedhnaljedonfaa.Pure
