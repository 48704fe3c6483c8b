/- The plain proofs for this law. -/
import Derived.Test.YteeoehohocoecaaC4
import Derived.Test.YteeoehohocoecaaAux
namespace Go.Proofs.Yteeoehohocoecaa.Pure
open Go.RowKit Go.Proofs.Yteeoehohocoecaa.G Go.Proofs.YteeoehohocoecaaW.PrintWords Go.Proofs.YteeoehohocoecaaW.PrintLast Go.Proofs.YteeoehohocoecaaW.PrintMore Go.Proofs.Yteeoehohocoecaa.Aux
set_option linter.unusedVariables false
set_option linter.unusedSimpArgs false

theorem toInt64S_loop (l : List Int) (hl : l.length ≤ 1048576) : ∀ (d i : Nat) (ys : List Int), i + d = l.length → ys.length = l.length → ys.take i = l.take i →
  Ev (fun k => laws_toInt64S.l0 k l ys (i : Int)) l := by
 intro d
 induction d with
 | zero =>
  intro i ys hi hy ht
  refine Ev.succ ?_; simp only [laws_toInt64S.l0]
  repeat (first | with_reducible exact Ev.now _ | dsimp only | refine Ev.pos (by first | omega | rfl | assumption | decide) ?_ | refine Ev.neg (by first | omega | assumption | exact Bool.false_ne_true | exact fun e => absurd e (by decide)) ?_ | simp only [bne_self_eq_false, Bool.not_true, Bool.not_false, List.length_cons, List.length_nil] | rw [wrap_id (by omega) (by omega)] | ((with_reducible refine Ev.eq (congrArg some ?_)); rfl))
  exact Ev.eq (congrArg some (eq_of_take hy (by omega) ht))
 | succ d ih =>
  intro i ys hi hy ht
  refine Ev.succ ?_; simp only [laws_toInt64S.l0]
  rw [wrap_succ (by omega)]
  repeat (first | with_reducible exact Ev.now _ | dsimp only | refine Ev.pos (by first | omega | rfl | assumption | decide) ?_ | refine Ev.neg (by first | omega | assumption | exact Bool.false_ne_true | exact fun e => absurd e (by decide)) ?_ | simp only [bne_self_eq_false, Bool.not_true, Bool.not_false, List.length_cons, List.length_nil] | rw [wrap_id (by omega) (by omega)] | ((with_reducible refine Ev.eq (congrArg some ?_)); rfl))
  exact ih (i + 1) _ (by omega) (by simpa using hy) (take_set_succ hy (by omega) (rd_lt (by omega)) ht)

theorem toInt64S (l : List Int) (hl : l.length ≤ 1048576) : Ev (fun k => laws_toInt64S.f k l) l := by
 unfold laws_toInt64S.f
 repeat (first | with_reducible exact Ev.now _ | dsimp only | refine Ev.pos (by first | omega | rfl | assumption | decide) ?_ | refine Ev.neg (by first | omega | assumption | exact Bool.false_ne_true | exact fun e => absurd e (by decide)) ?_ | simp only [bne_self_eq_false, Bool.not_true, Bool.not_false, List.length_cons, List.length_nil] | rw [wrap_id (by omega) (by omega)] | ((with_reducible refine Ev.eq (congrArg some ?_)); rfl))
 exact toInt64S_loop l hl l.length 0 _ (by omega) (by simp) (by simp)

theorem eqInt64S_loop (a b : List Int) (hl : a.length ≤ 1048576) (hab : a.length = b.length) : ∀ (d i : Nat), i + d = a.length →
  Ev (fun k => laws_eqInt64S.l0 k a b (i : Int)) (decide (a.drop i = b.drop i)) := by
 intro d
 induction d with
 | zero =>
  intro i hi
  refine Ev.succ ?_; simp only [laws_eqInt64S.l0]
  rw [List.drop_eq_nil_of_le (by omega), List.drop_eq_nil_of_le (by omega)]
  repeat (first | with_reducible exact Ev.now _ | dsimp only | refine Ev.pos (by first | omega | rfl | assumption | decide) ?_ | refine Ev.neg (by first | omega | assumption | exact Bool.false_ne_true | exact fun e => absurd e (by decide)) ?_ | simp only [bne_self_eq_false, Bool.not_true, Bool.not_false, List.length_cons, List.length_nil] | rw [wrap_id (by omega) (by omega)] | ((with_reducible refine Ev.eq (congrArg some ?_)); rfl))
 | succ d ih =>
  intro i hi
  refine Ev.succ ?_; simp only [laws_eqInt64S.l0]
  rw [List.drop_eq_getElem_cons (by omega : i < a.length), List.drop_eq_getElem_cons (by omega : i < b.length), wrap_succ (by omega)]
  by_cases e : rd a i = rd b i
  ·repeat (first | with_reducible exact Ev.now _ | dsimp only | refine Ev.pos (by first | omega | rfl | assumption | decide) ?_ | refine Ev.neg (by first | omega | assumption | exact Bool.false_ne_true | exact fun e => absurd e (by decide)) ?_ | simp only [bne_self_eq_false, Bool.not_true, Bool.not_false, List.length_cons, List.length_nil] | rw [wrap_id (by omega) (by omega)] | ((with_reducible refine Ev.eq (congrArg some ?_)); rfl))
   have := ih (i + 1) (by omega)
   rw [rd_lt (by omega), rd_lt (by omega)] at e
   rw [e, decide_cons]
   exact this
  ·rw [decide_eq_false (fun h => e (by rw [rd_lt (by omega), rd_lt (by omega)]; exact (List.cons.inj h).1))]
   repeat (first | with_reducible exact Ev.now _ | dsimp only | refine Ev.pos (by first | omega | rfl | assumption | decide) ?_ | refine Ev.neg (by first | omega | assumption | exact Bool.false_ne_true | exact fun e => absurd e (by decide)) ?_ | simp only [bne_self_eq_false, Bool.not_true, Bool.not_false, List.length_cons, List.length_nil] | rw [wrap_id (by omega) (by omega)] | ((with_reducible refine Ev.eq (congrArg some ?_)); rfl))

theorem eqInt64S (a b : List Int) (hl : a.length ≤ 1048576) : Ev (fun k => laws_eqInt64S.f k a b) (decide (a = b)) := by
 unfold laws_eqInt64S.f
 by_cases h : a.length = b.length
 ·repeat (first | with_reducible exact Ev.now _ | dsimp only | refine Ev.pos (by first | omega | rfl | assumption | decide) ?_ | refine Ev.neg (by first | omega | assumption | exact Bool.false_ne_true | exact fun e => absurd e (by decide)) ?_ | simp only [bne_self_eq_false, Bool.not_true, Bool.not_false, List.length_cons, List.length_nil] | rw [wrap_id (by omega) (by omega)] | ((with_reducible refine Ev.eq (congrArg some ?_)); rfl))
  exact eqInt64S_loop a b hl h a.length 0 (by omega)
 ·rw [decide_eq_false (fun e => h (by rw [e]))]
  repeat (first | with_reducible exact Ev.now _ | dsimp only | refine Ev.pos (by first | omega | rfl | assumption | decide) ?_ | refine Ev.neg (by first | omega | assumption | exact Bool.false_ne_true | exact fun e => absurd e (by decide)) ?_ | simp only [bne_self_eq_false, Bool.not_true, Bool.not_false, List.length_cons, List.length_nil] | rw [wrap_id (by omega) (by omega)] | ((with_reducible refine Ev.eq (congrArg some ?_)); rfl))

theorem eqInt64S_self (a : List Int) (hl : a.length ≤ 1048576) : Ev (fun k => laws_eqInt64S.f k a a) true :=
 Ev.conv (eqInt64S a a hl) (by simp)
theorem rl_lt {xs : List (List Int)} {i : Nat} (h : i < xs.length) : rd_L1 xs (i : Int) = xs[i] := by
 simp [rd_L1, List.getD_eq_getElem?_getD, h]

/-- Rows of which each, and their number, is of a moderate size. -/
def Mod (l : List (List Int)) : Prop := l.length ≤ 1048576 ∧ ∀ r ∈ l, r.length ≤ 1048576

theorem Mod.row {l : List (List Int)} (h : Mod l) {i : Nat} (hi : i < l.length) : l[i].length ≤ 1048576 := h.2 _ (List.getElem_mem hi)

theorem szInt64S (l : List Int) (a : Int) (h0 : 0 ≤ a) (h1 : a ≤ 1048576) (hl : l.length ≤ 9223372036854775807) : ∃ t, laws_szInt64S.f l a = some t ∧ (t < 0 ∨ (l.length ≤ 1048576 ∧ 0 ≤ t ∧ t ≤ a)) := by
 unfold laws_szInt64S.f
 rw [wrap_id (by omega) (by omega)]
 by_cases h : a - (l.length : Int) < 0
 ·exact ⟨-1, if_pos h, Or.inl (by omega)⟩
 ·exact ⟨_, if_neg h, Or.inr (by omega)⟩

theorem szInt64SS_loop (l : List (List Int)) (hl : l.length ≤ 1048576) (hr : ∀ r ∈ l, r.length ≤ 9223372036854775807) : ∀ (d i : Nat) (a : Int), i + d = l.length → 0 ≤ a → a ≤ 1048576 → (∀ j, (h : j < l.length) → j < i → l[j].length ≤ 1048576) →
  ∃ t, Ev (fun k => laws_szInt64SS.l0 k l a (i : Int)) t ∧ (t < 0 ∨ (Mod l ∧ 0 ≤ t ∧ t ≤ 1048576)) := by
 intro d
 induction d with
 | zero =>
  intro i a hi h0 h1 hm
  refine ⟨a, ?_, Or.inr ⟨⟨hl, fun r h => ?_⟩, h0, h1⟩⟩
  ·refine Ev.succ ?_; simp only [laws_szInt64SS.l0]
   repeat (first | with_reducible exact Ev.now _ | dsimp only | refine Ev.pos (by first | omega | rfl | assumption | decide) ?_ | refine Ev.neg (by first | omega | assumption | exact Bool.false_ne_true | exact fun e => absurd e (by decide)) ?_ | simp only [bne_self_eq_false, Bool.not_true, Bool.not_false, List.length_cons, List.length_nil] | rw [wrap_id (by omega) (by omega)] | ((with_reducible refine Ev.eq (congrArg some ?_)); rfl))
  ·obtain ⟨j, hj, rfl⟩ := List.getElem_of_mem h
   exact hm j hj (by omega)
 | succ d ih =>
  intro i a hi h0 h1 hm
  obtain ⟨t, ht, hc⟩ := szInt64S (l[i]'(by omega)) a h0 h1 (hr _ (List.getElem_mem _))
  rw [← rl_lt (by omega)] at ht
  rcases hc with hc | ⟨hc, hc0, hc1⟩
  ·refine ⟨-1, ?_, Or.inl (by omega)⟩
   refine Ev.succ ?_; simp only [laws_szInt64SS.l0]
   repeat (first | with_reducible exact Ev.now _ | dsimp only | with_reducible refine Ev.bind (Ev.eq ht) ?_ | refine Ev.pos (by first | omega | rfl | assumption | decide) ?_ | refine Ev.neg (by first | omega | assumption | exact Bool.false_ne_true | exact fun e => absurd e (by decide)) ?_ | simp only [bne_self_eq_false, Bool.not_true, Bool.not_false, List.length_cons, List.length_nil] | rw [wrap_id (by omega) (by omega)] | with_reducible exact (Ev.eq ht) | ((with_reducible refine Ev.eq (congrArg some ?_)); rfl))
  ·obtain ⟨t', h1', h2'⟩ := ih (i + 1) t (by omega) hc0 (by omega) (fun j hj hji => by
    by_cases e : j = i
    ·subst e; exact hc
    ·exact hm j hj (by omega))
   refine ⟨t', ?_, h2'⟩
   refine Ev.succ ?_; simp only [laws_szInt64SS.l0]
   rw [wrap_succ (by omega)]
   repeat (first | with_reducible exact Ev.now _ | dsimp only | with_reducible refine Ev.bind (Ev.eq ht) ?_ | refine Ev.pos (by first | omega | rfl | assumption | decide) ?_ | refine Ev.neg (by first | omega | assumption | exact Bool.false_ne_true | exact fun e => absurd e (by decide)) ?_ | simp only [bne_self_eq_false, Bool.not_true, Bool.not_false, List.length_cons, List.length_nil] | rw [wrap_id (by omega) (by omega)] | with_reducible exact (Ev.eq ht) | ((with_reducible refine Ev.eq (congrArg some ?_)); rfl))
   exact h1'

theorem szInt64SS (l : List (List Int)) (a : Int) (h0 : 0 ≤ a) (h1 : a ≤ 1048576) (hl : l.length ≤ 9223372036854775807) (hr : ∀ r ∈ l, r.length ≤ 9223372036854775807) : ∃ t, Ev (fun k => laws_szInt64SS.f k l a) t ∧ (t < 0 ∨ (Mod l ∧ 0 ≤ t ∧ t ≤ 1048576)) := by
 unfold laws_szInt64SS.f
 rw [wrap_id (by omega) (by omega)]
 by_cases h : a - (l.length : Int) < 0
 ·refine ⟨-1, ?_, Or.inl (by omega)⟩
  repeat (first | with_reducible exact Ev.now _ | dsimp only | refine Ev.pos (by first | omega | rfl | assumption | decide) ?_ | refine Ev.neg (by first | omega | assumption | exact Bool.false_ne_true | exact fun e => absurd e (by decide)) ?_ | simp only [bne_self_eq_false, Bool.not_true, Bool.not_false, List.length_cons, List.length_nil] | rw [wrap_id (by omega) (by omega)] | ((with_reducible refine Ev.eq (congrArg some ?_)); rfl))
 ·obtain ⟨t, h1, h2⟩ := szInt64SS_loop l (by omega) hr l.length 0 (a - (l.length : Int)) (by omega) (by omega) (by omega) (fun j _ hj => by omega)
  refine ⟨t, ?_, h2⟩
  repeat (first | with_reducible exact Ev.now _ | dsimp only | refine Ev.pos (by first | omega | rfl | assumption | decide) ?_ | refine Ev.neg (by first | omega | assumption | exact Bool.false_ne_true | exact fun e => absurd e (by decide)) ?_ | simp only [bne_self_eq_false, Bool.not_true, Bool.not_false, List.length_cons, List.length_nil] | rw [wrap_id (by omega) (by omega)] | ((with_reducible refine Ev.eq (congrArg some ?_)); rfl))
  exact h1

theorem szGraph (n : Int) (l : List (List Int)) (hl : l.length ≤ maxLen) (hr : ∀ r ∈ l, r.length ≤ maxLen ∧ ∀ y ∈ r, (Lit.int .i64 y).wf = true) : ∃ t, Ev (fun k => laws_szGraph.f k n l 1048576) t ∧ (t < 0 ∨ Mod l) := by
 obtain ⟨t, h1, h2⟩ := szInt64SS l 1048576 (by omega) (by omega) (by simp [maxLen] at hl; omega) (fun r h => by have := (hr r h).1; simp [maxLen] at this; omega)
 unfold laws_szGraph.f
 rcases h2 with h2 | ⟨h2, h3, h4⟩
 ·refine ⟨-1, ?_, Or.inl (by omega)⟩
  repeat (first | with_reducible exact Ev.now _ | dsimp only | with_reducible refine Ev.bind (h1) ?_ | refine Ev.pos (by first | omega | rfl | assumption | decide) ?_ | refine Ev.neg (by first | omega | assumption | exact Bool.false_ne_true | exact fun e => absurd e (by decide)) ?_ | simp only [bne_self_eq_false, Bool.not_true, Bool.not_false, List.length_cons, List.length_nil] | rw [wrap_id (by omega) (by omega)] | with_reducible exact (h1) | ((with_reducible refine Ev.eq (congrArg some ?_)); rfl))
 ·refine ⟨t, ?_, Or.inr h2⟩
  repeat (first | with_reducible exact Ev.now _ | dsimp only | with_reducible refine Ev.bind (h1) ?_ | refine Ev.pos (by first | omega | rfl | assumption | decide) ?_ | refine Ev.neg (by first | omega | assumption | exact Bool.false_ne_true | exact fun e => absurd e (by decide)) ?_ | simp only [bne_self_eq_false, Bool.not_true, Bool.not_false, List.length_cons, List.length_nil] | rw [wrap_id (by omega) (by omega)] | with_reducible exact (h1) | ((with_reducible refine Ev.eq (congrArg some ?_)); rfl))

theorem toInt64SS_loop (l : List (List Int)) (hl : Mod l) : ∀ (d i : Nat) (ys : List (List Int)), i + d = l.length → ys.length = l.length → ys.take i = l.take i →
  Ev (fun k => laws_toInt64SS.l0 k l ys (i : Int)) l := by
 have hl1 := hl.1
 intro d
 induction d with
 | zero =>
  intro i ys hi hy ht
  refine Ev.succ ?_; simp only [laws_toInt64SS.l0]
  repeat (first | with_reducible exact Ev.now _ | dsimp only | refine Ev.pos (by first | omega | rfl | assumption | decide) ?_ | refine Ev.neg (by first | omega | assumption | exact Bool.false_ne_true | exact fun e => absurd e (by decide)) ?_ | simp only [bne_self_eq_false, Bool.not_true, Bool.not_false, List.length_cons, List.length_nil] | rw [wrap_id (by omega) (by omega)] | ((with_reducible refine Ev.eq (congrArg some ?_)); rfl))
  exact Ev.eq (congrArg some (eq_of_take hy (by omega) ht))
 | succ d ih =>
  intro i ys hi hy ht
  refine Ev.succ ?_; simp only [laws_toInt64SS.l0]
  rw [wrap_succ (by omega), rl_lt (by omega)]
  repeat (first | with_reducible exact Ev.now _ | dsimp only | with_reducible refine Ev.bind (toInt64S _ (hl.row (by omega))) ?_ | refine Ev.pos (by first | omega | rfl | assumption | decide) ?_ | refine Ev.neg (by first | omega | assumption | exact Bool.false_ne_true | exact fun e => absurd e (by decide)) ?_ | simp only [bne_self_eq_false, Bool.not_true, Bool.not_false, List.length_cons, List.length_nil] | rw [wrap_id (by omega) (by omega)] | with_reducible exact (toInt64S _ (hl.row (by omega))) | ((with_reducible refine Ev.eq (congrArg some ?_)); rfl))
  exact ih (i + 1) _ (by omega) (by simpa using hy) (take_set_succ hy (by omega) rfl ht)

theorem toInt64SS (l : List (List Int)) (hl : Mod l) : Ev (fun k => laws_toInt64SS.f k l) l := by
 have hl1 := hl.1
 unfold laws_toInt64SS.f
 repeat (first | with_reducible exact Ev.now _ | dsimp only | refine Ev.pos (by first | omega | rfl | assumption | decide) ?_ | refine Ev.neg (by first | omega | assumption | exact Bool.false_ne_true | exact fun e => absurd e (by decide)) ?_ | simp only [bne_self_eq_false, Bool.not_true, Bool.not_false, List.length_cons, List.length_nil] | rw [wrap_id (by omega) (by omega)] | ((with_reducible refine Ev.eq (congrArg some ?_)); rfl))
 exact toInt64SS_loop l hl l.length 0 _ (by omega) (by simp) (by simp)

theorem toGraph (n : Int) (l : List (List Int)) (hl : Mod l) : Ev (fun k => laws_toGraph.f k n l) (n, l) := by
 unfold laws_toGraph.f
 repeat (first | with_reducible exact Ev.now _ | dsimp only | with_reducible refine Ev.bind (toInt64SS l hl) ?_ | refine Ev.pos (by first | omega | rfl | assumption | decide) ?_ | refine Ev.neg (by first | omega | assumption | exact Bool.false_ne_true | exact fun e => absurd e (by decide)) ?_ | simp only [bne_self_eq_false, Bool.not_true, Bool.not_false, List.length_cons, List.length_nil] | rw [wrap_id (by omega) (by omega)] | with_reducible exact (toInt64SS l hl) | ((with_reducible refine Ev.eq (congrArg some ?_)); rfl))

theorem eqInt64SS_self_loop (a : List (List Int)) (hl : Mod a) : ∀ (d i : Nat), i + d = a.length →
  Ev (fun k => laws_eqInt64SS.l0 k a a (i : Int)) true := by
 have hl1 := hl.1
 intro d
 induction d with
 | zero =>
  intro i hi
  refine Ev.succ ?_; simp only [laws_eqInt64SS.l0]
  repeat (first | with_reducible exact Ev.now _ | dsimp only | refine Ev.pos (by first | omega | rfl | assumption | decide) ?_ | refine Ev.neg (by first | omega | assumption | exact Bool.false_ne_true | exact fun e => absurd e (by decide)) ?_ | simp only [bne_self_eq_false, Bool.not_true, Bool.not_false, List.length_cons, List.length_nil] | rw [wrap_id (by omega) (by omega)] | ((with_reducible refine Ev.eq (congrArg some ?_)); rfl))
 | succ d ih =>
  intro i hi
  refine Ev.succ ?_; simp only [laws_eqInt64SS.l0]
  rw [rl_lt (by omega), wrap_succ (by omega)]
  repeat (first | with_reducible exact Ev.now _ | dsimp only | with_reducible refine Ev.bind (eqInt64S_self _ (hl.row (by omega))) ?_ | refine Ev.pos (by first | omega | rfl | assumption | decide) ?_ | refine Ev.neg (by first | omega | assumption | exact Bool.false_ne_true | exact fun e => absurd e (by decide)) ?_ | simp only [bne_self_eq_false, Bool.not_true, Bool.not_false, List.length_cons, List.length_nil] | rw [wrap_id (by omega) (by omega)] | with_reducible exact (eqInt64S_self _ (hl.row (by omega))) | ((with_reducible refine Ev.eq (congrArg some ?_)); rfl))
  exact ih (i + 1) (by omega)

theorem eqInt64SS_self (a : List (List Int)) (hl : Mod a) : Ev (fun k => laws_eqInt64SS.f k a a) true := by
 unfold laws_eqInt64SS.f
 repeat (first | with_reducible exact Ev.now _ | dsimp only | refine Ev.pos (by first | omega | rfl | assumption | decide) ?_ | refine Ev.neg (by first | omega | assumption | exact Bool.false_ne_true | exact fun e => absurd e (by decide)) ?_ | simp only [bne_self_eq_false, Bool.not_true, Bool.not_false, List.length_cons, List.length_nil] | rw [wrap_id (by omega) (by omega)] | ((with_reducible refine Ev.eq (congrArg some ?_)); rfl))
 exact eqInt64SS_self_loop a hl a.length 0 (by omega)

theorem eqGraph_self (n : Int) (a : List (List Int)) (hl : Mod a) : Ev (fun k => laws_eqGraph.f k n a n a) true := by
 unfold laws_eqGraph.f
 repeat (first | with_reducible exact Ev.now _ | dsimp only | with_reducible refine Ev.bind (eqInt64SS_self a hl) ?_ | refine Ev.pos (by first | omega | rfl | assumption | decide) ?_ | refine Ev.neg (by first | omega | assumption | exact Bool.false_ne_true | exact fun e => absurd e (by decide)) ?_ | simp only [bne_self_eq_false, Bool.not_true, Bool.not_false, List.length_cons, List.length_nil] | rw [wrap_id (by omega) (by omega)] | with_reducible exact (eqInt64SS_self a hl) | ((with_reducible refine Ev.eq (congrArg some ?_)); rfl))
theorem specIn (a b c : Int) : spec_l01In.f a b c = some (decide (b ≤ a ∧ a ≤ c)) := by
 unfold spec_l01In.f
 by_cases h : b ≤ a
 ·rw [if_pos h]; simp [h]
 ·rw [if_neg h]; simp [h]

theorem implWithin (a b c : Int) : impl_within.f a b c = some (decide (b ≤ a ∧ a ≤ c)) := by
 unfold impl_within.f
 by_cases h : b ≤ a
 ·rw [if_pos h]; simp [h]
 ·rw [if_neg h]; simp [h]

/-- One edge's test. -/
def okEdge (n : Int) (e : List Int) : Bool := decide (e.length = 2) && (decide (0 ≤ rd e 0 ∧ rd e 0 ≤ wrap64 (n - 1)) && decide (0 ≤ rd e 1 ∧ rd e 1 ≤ wrap64 (n - 1)))

def isGraph (n : Int) (l : List (List Int)) : Bool := l.all (okEdge n) && (decide (1 ≤ n ∧ n ≤ 8) && decide ((l.length : Int) ≤ 10))

theorem specIs_loop (n : Int) (l : List (List Int)) (hl : Mod l) : ∀ (d i : Nat), i + d = l.length →
  Ev (fun k => spec_l01Is.l0 k (i : Int) n l) ((l.drop i).all (okEdge n)) := by
 have hl1 := hl.1
 intro d
 induction d with
 | zero =>
  intro i hi
  refine Ev.succ ?_; simp only [spec_l01Is.l0]
  rw [List.drop_eq_nil_of_le (by omega)]
  repeat (first | with_reducible exact Ev.now _ | dsimp only | refine Ev.pos (by first | omega | rfl | assumption | decide) ?_ | refine Ev.neg (by first | omega | assumption | exact Bool.false_ne_true | exact fun e => absurd e (by decide)) ?_ | simp only [bne_self_eq_false, Bool.not_true, Bool.not_false, List.length_cons, List.length_nil] | rw [wrap_id (by omega) (by omega)] | ((with_reducible refine Ev.eq (congrArg some ?_)); rfl))
 | succ d ih =>
  intro i hi
  refine Ev.succ ?_; simp only [spec_l01Is.l0]
  rw [List.drop_eq_getElem_cons (by omega : i < l.length), List.all_cons, rl_lt (by omega), wrap_succ (by omega)]
  generalize l[i] = e
  have := ih (i + 1) (by omega)
  unfold okEdge
  by_cases h2 : (e.length : Int) = 2
  ·rw [decide_eq_true (show e.length = 2 by omega), Bool.true_and]
   by_cases ha : 0 ≤ rd e 0 ∧ rd e 0 ≤ wrap64 (n - 1)
   ·by_cases hb : 0 ≤ rd e 1 ∧ rd e 1 ≤ wrap64 (n - 1)
    ·rw [decide_eq_true ha, decide_eq_true hb, Bool.true_and, Bool.true_and]
     repeat (first | with_reducible exact Ev.now _ | dsimp only | with_reducible refine Ev.bind (Ev.eq ((specIn _ _ _).trans (congrArg some (decide_eq_true ha)))) ?_ | with_reducible refine Ev.bind (Ev.eq ((specIn _ _ _).trans (congrArg some (decide_eq_true hb)))) ?_ | refine Ev.pos (by first | omega | rfl | assumption | decide) ?_ | refine Ev.neg (by first | omega | assumption | exact Bool.false_ne_true | exact fun e => absurd e (by decide)) ?_ | simp only [bne_self_eq_false, Bool.not_true, Bool.not_false, List.length_cons, List.length_nil] | rw [wrap_id (by omega) (by omega)] | with_reducible exact (Ev.eq ((specIn _ _ _).trans (congrArg some (decide_eq_true ha)))) | with_reducible exact (Ev.eq ((specIn _ _ _).trans (congrArg some (decide_eq_true hb)))) | ((with_reducible refine Ev.eq (congrArg some ?_)); rfl))
     exact this
    ·rw [decide_eq_false hb, Bool.and_false, Bool.false_and]
     repeat (first | with_reducible exact Ev.now _ | dsimp only | with_reducible refine Ev.bind (Ev.eq ((specIn _ _ _).trans (congrArg some (decide_eq_true ha)))) ?_ | with_reducible refine Ev.bind (Ev.eq ((specIn _ _ _).trans (congrArg some (decide_eq_false hb)))) ?_ | refine Ev.pos (by first | omega | rfl | assumption | decide) ?_ | refine Ev.neg (by first | omega | assumption | exact Bool.false_ne_true | exact fun e => absurd e (by decide)) ?_ | simp only [bne_self_eq_false, Bool.not_true, Bool.not_false, List.length_cons, List.length_nil] | rw [wrap_id (by omega) (by omega)] | with_reducible exact (Ev.eq ((specIn _ _ _).trans (congrArg some (decide_eq_true ha)))) | with_reducible exact (Ev.eq ((specIn _ _ _).trans (congrArg some (decide_eq_false hb)))) | ((with_reducible refine Ev.eq (congrArg some ?_)); rfl))
   ·rw [decide_eq_false ha, Bool.false_and, Bool.false_and]
    repeat (first | with_reducible exact Ev.now _ | dsimp only | with_reducible refine Ev.bind (Ev.eq ((specIn _ _ _).trans (congrArg some (decide_eq_false ha)))) ?_ | refine Ev.pos (by first | omega | rfl | assumption | decide) ?_ | refine Ev.neg (by first | omega | assumption | exact Bool.false_ne_true | exact fun e => absurd e (by decide)) ?_ | simp only [bne_self_eq_false, Bool.not_true, Bool.not_false, List.length_cons, List.length_nil] | rw [wrap_id (by omega) (by omega)] | with_reducible exact (Ev.eq ((specIn _ _ _).trans (congrArg some (decide_eq_false ha)))) | ((with_reducible refine Ev.eq (congrArg some ?_)); rfl))
  ·rw [decide_eq_false (show ¬ e.length = 2 by omega), Bool.false_and, Bool.false_and]
   repeat (first | with_reducible exact Ev.now _ | dsimp only | refine Ev.pos (by first | omega | rfl | assumption | decide) ?_ | refine Ev.neg (by first | omega | assumption | exact Bool.false_ne_true | exact fun e => absurd e (by decide)) ?_ | simp only [bne_self_eq_false, Bool.not_true, Bool.not_false, List.length_cons, List.length_nil] | rw [wrap_id (by omega) (by omega)] | ((with_reducible refine Ev.eq (congrArg some ?_)); rfl))

theorem specIs (n : Int) (l : List (List Int)) (hl : Mod l) : Ev (fun k => spec_l01Is.f k n l) (isGraph n l) := by
 unfold spec_l01Is.f isGraph
 by_cases h1 : 1 ≤ n ∧ n ≤ 8
 ·rw [decide_eq_true h1, Bool.true_and]
  repeat (first | with_reducible exact Ev.now _ | dsimp only | with_reducible refine Ev.bind (Ev.eq ((specIn n 1 8).trans (congrArg some (decide_eq_true h1)))) ?_ | refine Ev.pos (by first | omega | rfl | assumption | decide) ?_ | refine Ev.neg (by first | omega | assumption | exact Bool.false_ne_true | exact fun e => absurd e (by decide)) ?_ | simp only [bne_self_eq_false, Bool.not_true, Bool.not_false, List.length_cons, List.length_nil] | rw [wrap_id (by omega) (by omega)] | with_reducible exact (Ev.eq ((specIn n 1 8).trans (congrArg some (decide_eq_true h1)))) | ((with_reducible refine Ev.eq (congrArg some ?_)); rfl))
  refine Ev.succ ?_
  simp only [spec_l01Is.j0]
  by_cases h2 : (l.length : Int) ≤ 10
  ·rw [decide_eq_true h2, decide_eq_false (show ¬ (l.length : Int) > 10 by omega), Bool.and_true]
   repeat (first | with_reducible exact Ev.now _ | dsimp only | refine Ev.pos (by first | omega | rfl | assumption | decide) ?_ | refine Ev.neg (by first | omega | assumption | exact Bool.false_ne_true | exact fun e => absurd e (by decide)) ?_ | simp only [bne_self_eq_false, Bool.not_true, Bool.not_false, List.length_cons, List.length_nil] | rw [wrap_id (by omega) (by omega)] | ((with_reducible refine Ev.eq (congrArg some ?_)); rfl))
   exact specIs_loop n l hl l.length 0 (by omega)
  ·rw [decide_eq_false h2, decide_eq_true (show (l.length : Int) > 10 by omega), Bool.and_false]
   repeat (first | with_reducible exact Ev.now _ | dsimp only | refine Ev.pos (by first | omega | rfl | assumption | decide) ?_ | refine Ev.neg (by first | omega | assumption | exact Bool.false_ne_true | exact fun e => absurd e (by decide)) ?_ | simp only [bne_self_eq_false, Bool.not_true, Bool.not_false, List.length_cons, List.length_nil] | rw [wrap_id (by omega) (by omega)] | ((with_reducible refine Ev.eq (congrArg some ?_)); rfl))
 ·rw [decide_eq_false h1, Bool.false_and, Bool.and_false]
  repeat (first | with_reducible exact Ev.now _ | dsimp only | with_reducible refine Ev.bind (Ev.eq ((specIn n 1 8).trans (congrArg some (decide_eq_false h1)))) ?_ | refine Ev.pos (by first | omega | rfl | assumption | decide) ?_ | refine Ev.neg (by first | omega | assumption | exact Bool.false_ne_true | exact fun e => absurd e (by decide)) ?_ | simp only [bne_self_eq_false, Bool.not_true, Bool.not_false, List.length_cons, List.length_nil] | rw [wrap_id (by omega) (by omega)] | with_reducible exact (Ev.eq ((specIn n 1 8).trans (congrArg some (decide_eq_false h1)))) | ((with_reducible refine Ev.eq (congrArg some ?_)); rfl))
  refine Ev.succ ?_
  simp only [spec_l01Is.j0]
  repeat (first | with_reducible exact Ev.now _ | dsimp only | refine Ev.pos (by first | omega | rfl | assumption | decide) ?_ | refine Ev.neg (by first | omega | assumption | exact Bool.false_ne_true | exact fun e => absurd e (by decide)) ?_ | simp only [bne_self_eq_false, Bool.not_true, Bool.not_false, List.length_cons, List.length_nil] | rw [wrap_id (by omega) (by omega)] | ((with_reducible refine Ev.eq (congrArg some ?_)); rfl))

theorem implIs_loop (n : Int) (l : List (List Int)) (hl : Mod l) : ∀ (d i : Nat), i + d = l.length →
  Ev (fun k => impl_IsGraph.l0 k l (l.length : Int) (i : Int) n l) ((l.drop i).all (okEdge n) && (decide (1 ≤ n ∧ n ≤ 8) && decide ((l.length : Int) ≤ 10))) := by
 have hl1 := hl.1
 intro d
 induction d with
 | zero =>
  intro i hi
  refine Ev.succ ?_; simp only [impl_IsGraph.l0]
  rw [List.drop_eq_nil_of_le (by omega), List.all_nil, Bool.true_and]
  by_cases h1 : 1 ≤ n ∧ n ≤ 8
  ·rw [decide_eq_true h1, Bool.true_and]
   repeat (first | with_reducible exact Ev.now _ | dsimp only | with_reducible refine Ev.bind (Ev.eq ((implWithin n 1 8).trans (congrArg some (decide_eq_true h1)))) ?_ | refine Ev.pos (by first | omega | rfl | assumption | decide) ?_ | refine Ev.neg (by first | omega | assumption | exact Bool.false_ne_true | exact fun e => absurd e (by decide)) ?_ | simp only [bne_self_eq_false, Bool.not_true, Bool.not_false, List.length_cons, List.length_nil] | rw [wrap_id (by omega) (by omega)] | with_reducible exact (Ev.eq ((implWithin n 1 8).trans (congrArg some (decide_eq_true h1)))) | ((with_reducible refine Ev.eq (congrArg some ?_)); rfl))
  ·rw [decide_eq_false h1, Bool.false_and]
   repeat (first | with_reducible exact Ev.now _ | dsimp only | with_reducible refine Ev.bind (Ev.eq ((implWithin n 1 8).trans (congrArg some (decide_eq_false h1)))) ?_ | refine Ev.pos (by first | omega | rfl | assumption | decide) ?_ | refine Ev.neg (by first | omega | assumption | exact Bool.false_ne_true | exact fun e => absurd e (by decide)) ?_ | simp only [bne_self_eq_false, Bool.not_true, Bool.not_false, List.length_cons, List.length_nil] | rw [wrap_id (by omega) (by omega)] | with_reducible exact (Ev.eq ((implWithin n 1 8).trans (congrArg some (decide_eq_false h1)))) | ((with_reducible refine Ev.eq (congrArg some ?_)); rfl))
 | succ d ih =>
  intro i hi
  refine Ev.succ ?_; simp only [impl_IsGraph.l0]
  rw [List.drop_eq_getElem_cons (by omega : i < l.length), List.all_cons, rl_lt (by omega), wrap_succ (by omega)]
  generalize l[i] = e
  have := ih (i + 1) (by omega)
  unfold okEdge at this ⊢
  by_cases h2 : (e.length : Int) = 2
  ·rw [decide_eq_true (show e.length = 2 by omega), Bool.true_and]
   by_cases ha : 0 ≤ rd e 0 ∧ rd e 0 ≤ wrap64 (n - 1)
   ·by_cases hb : 0 ≤ rd e 1 ∧ rd e 1 ≤ wrap64 (n - 1)
    ·rw [decide_eq_true ha, decide_eq_true hb, Bool.true_and, Bool.true_and]
     repeat (first | with_reducible exact Ev.now _ | dsimp only | with_reducible refine Ev.bind (Ev.eq ((implWithin _ _ _).trans (congrArg some (decide_eq_true ha)))) ?_ | with_reducible refine Ev.bind (Ev.eq ((implWithin _ _ _).trans (congrArg some (decide_eq_true hb)))) ?_ | refine Ev.pos (by first | omega | rfl | assumption | decide) ?_ | refine Ev.neg (by first | omega | assumption | exact Bool.false_ne_true | exact fun e => absurd e (by decide)) ?_ | simp only [bne_self_eq_false, Bool.not_true, Bool.not_false, List.length_cons, List.length_nil] | rw [wrap_id (by omega) (by omega)] | with_reducible exact (Ev.eq ((implWithin _ _ _).trans (congrArg some (decide_eq_true ha)))) | with_reducible exact (Ev.eq ((implWithin _ _ _).trans (congrArg some (decide_eq_true hb)))) | ((with_reducible refine Ev.eq (congrArg some ?_)); rfl))
     exact this
    ·rw [decide_eq_false hb, Bool.and_false, Bool.false_and, Bool.false_and]
     repeat (first | with_reducible exact Ev.now _ | dsimp only | with_reducible refine Ev.bind (Ev.eq ((implWithin _ _ _).trans (congrArg some (decide_eq_true ha)))) ?_ | with_reducible refine Ev.bind (Ev.eq ((implWithin _ _ _).trans (congrArg some (decide_eq_false hb)))) ?_ | refine Ev.pos (by first | omega | rfl | assumption | decide) ?_ | refine Ev.neg (by first | omega | assumption | exact Bool.false_ne_true | exact fun e => absurd e (by decide)) ?_ | simp only [bne_self_eq_false, Bool.not_true, Bool.not_false, List.length_cons, List.length_nil] | rw [wrap_id (by omega) (by omega)] | with_reducible exact (Ev.eq ((implWithin _ _ _).trans (congrArg some (decide_eq_true ha)))) | with_reducible exact (Ev.eq ((implWithin _ _ _).trans (congrArg some (decide_eq_false hb)))) | ((with_reducible refine Ev.eq (congrArg some ?_)); rfl))
   ·rw [decide_eq_false ha, Bool.false_and, Bool.false_and, Bool.false_and]
    repeat (first | with_reducible exact Ev.now _ | dsimp only | with_reducible refine Ev.bind (Ev.eq ((implWithin _ _ _).trans (congrArg some (decide_eq_false ha)))) ?_ | refine Ev.pos (by first | omega | rfl | assumption | decide) ?_ | refine Ev.neg (by first | omega | assumption | exact Bool.false_ne_true | exact fun e => absurd e (by decide)) ?_ | simp only [bne_self_eq_false, Bool.not_true, Bool.not_false, List.length_cons, List.length_nil] | rw [wrap_id (by omega) (by omega)] | with_reducible exact (Ev.eq ((implWithin _ _ _).trans (congrArg some (decide_eq_false ha)))) | ((with_reducible refine Ev.eq (congrArg some ?_)); rfl))
  ·rw [decide_eq_false (show ¬ e.length = 2 by omega), Bool.false_and, Bool.false_and, Bool.false_and]
   repeat (first | with_reducible exact Ev.now _ | dsimp only | refine Ev.pos (by first | omega | rfl | assumption | decide) ?_ | refine Ev.neg (by first | omega | assumption | exact Bool.false_ne_true | exact fun e => absurd e (by decide)) ?_ | simp only [bne_self_eq_false, Bool.not_true, Bool.not_false, List.length_cons, List.length_nil] | rw [wrap_id (by omega) (by omega)] | ((with_reducible refine Ev.eq (congrArg some ?_)); rfl))

theorem implIsGraph (n : Int) (l : List (List Int)) (hl : Mod l) : Ev (fun k => impl_IsGraph.f k n l) (isGraph n l) := by
 unfold impl_IsGraph.f
 exact implIs_loop n l hl l.length 0 (by omega)

theorem len_two {α : Type} {e : List α} (h : e.length = 2) : ∃ a b, e = [a, b] := by
 match e, h with
 | [a, b], _ => exact ⟨a, b, rfl⟩

theorem isGraph_iff (n : Int) (l : List (List Int)) : isGraph n l = true ↔ 1 ≤ n ∧ n ≤ 8 ∧ l.length ≤ 10 ∧ ∀ e ∈ l, ∃ a b : Int, e = [a, b] ∧ 0 ≤ a ∧ a < n ∧ 0 ≤ b ∧ b < n := by
 unfold isGraph
 rw [Bool.and_eq_true, Bool.and_eq_true, decide_eq_true_iff, decide_eq_true_iff, List.all_eq_true]
 constructor
 ·rintro ⟨h, ⟨h1, h2⟩, h3⟩
  refine ⟨h1, h2, by omega, fun e he => ?_⟩
  have := h e he
  unfold okEdge at this
  rw [Bool.and_eq_true, Bool.and_eq_true, decide_eq_true_iff, decide_eq_true_iff, decide_eq_true_iff, wrap_id (by omega) (by omega)] at this
  obtain ⟨he2, ha, hb⟩ := this
  obtain ⟨a, b, rfl⟩ := len_two he2
  simp only [show rd [a, b] 0 = a from rfl, show rd [a, b] 1 = b from rfl] at ha hb
  exact ⟨a, b, rfl, by omega, by omega, by omega, by omega⟩
 ·rintro ⟨h1, h2, h3, h⟩
  refine ⟨fun e he => ?_, ⟨h1, h2⟩, by omega⟩
  obtain ⟨a, b, rfl, h4, h5, h6, h7⟩ := h e he
  unfold okEdge
  rw [Bool.and_eq_true, Bool.and_eq_true, decide_eq_true_iff, decide_eq_true_iff, decide_eq_true_iff, wrap_id (by omega) (by omega)]
  simp only [show rd [a, b] 0 = a from rfl, show rd [a, b] 1 = b from rfl]
  exact ⟨rfl, by omega, by omega⟩
theorem graph_edge {n : Int} {l : List (List Int)} (h : isGraph n l = true) {i : Nat} (hi : i < l.length) :
  (rd_L1 l (i : Int)).length = 2 ∧ ∃ a b : Nat, rd (rd_L1 l (i : Int)) 0 = a ∧ rd (rd_L1 l (i : Int)) 1 = b ∧ (a : Int) < n ∧ (b : Int) < n := by
 rw [rl_lt hi]
 obtain ⟨h1, h2, h3, h4⟩ := (isGraph_iff n l).1 h
 obtain ⟨a, b, e, ha, ha', hb, hb'⟩ := h4 _ (List.getElem_mem hi)
 rw [e]
 refine ⟨rfl, a.toNat, b.toNat, ?_, ?_, by omega, by omega⟩
 ·show a = _
  omega
 ·show b = _
  omega

theorem graph_small {n : Int} {l : List (List Int)} (h : isGraph n l = true) : 1 ≤ n ∧ n ≤ 8 ∧ l.length ≤ 10 := by
 obtain ⟨h1, h2, h3, h4⟩ := (isGraph_iff n l).1 h
 exact ⟨h1, h2, h3⟩
/-- The directed edge's start, its end, and its reverse. -/
def tl (l : List (List Int)) (p : Nat) : Int := if p % 2 = 1 then rd (rd_L1 l ((p / 2 : Nat) : Int)) 1 else rd (rd_L1 l ((p / 2 : Nat) : Int)) 0
def hd (l : List (List Int)) (p : Nat) : Int := if p % 2 = 1 then rd (rd_L1 l ((p / 2 : Nat) : Int)) 0 else rd (rd_L1 l ((p / 2 : Nat) : Int)) 1
def inv (p : Nat) : Nat := if p % 2 = 0 then p + 1 else p - 1
def next (l : List (List Int)) (p q : Nat) : Bool := decide (hd l p = tl l q) && decide (q ≠ inv p)

theorem half (p : Nat) (h : p < 1000) : wrap64 (Int.tdiv (p : Int) 2) = ((p / 2 : Nat) : Int) := by
 rw [Int.tdiv_eq_ediv_of_nonneg (by omega), wrap_id (by omega) (by omega)]
 omega

theorem rest2 (p : Nat) : Int.tmod (p : Int) 2 = ((p % 2 : Nat) : Int) := by
 rw [Int.tmod_eq_emod_of_nonneg (by omega)]
 omega

theorem xor_inv (p : Nat) (h : p < 20) : Go.bits .xor .i64 (p : Int) 1 = ((inv p : Nat) : Int) := by
 have : ∀ q : Fin 20, Go.bits .xor .i64 (q.val : Int) 1 = ((inv q.val : Nat) : Int) := by decide
 exact this ⟨p, h⟩

section
variable {n : Int} {l : List (List Int)} (h : isGraph n l = true)
include h

theorem specEnds {p : Nat} (hp : p < 2 * l.length) : spec_l01Ends.f n l (p : Int) = some (tl l p, hd l p) := by
 obtain ⟨g1, g2, g3⟩ := graph_small h
 obtain ⟨e2, a, b, ea, eb, ha, hb⟩ := graph_edge h (show p / 2 < l.length by omega)
 unfold spec_l01Ends.f tl hd
 rw [half p (by omega), rest2, if_pos (by omega), if_pos (by omega)]
 by_cases c : p % 2 = 1
 ·rw [if_pos (show ((p % 2 : Nat) : Int) = 1 by omega), if_pos (by omega), if_pos (by omega), if_pos c, if_pos c]
 ·rw [if_neg (show ¬ ((p % 2 : Nat) : Int) = 1 by omega), if_pos (by omega), if_pos (by omega), if_neg c, if_neg c]

theorem implEnds {p : Nat} (hp : p < 2 * l.length) : impl_Graph_ends.f n l (p : Int) = some (tl l p, hd l p) := by
 obtain ⟨g1, g2, g3⟩ := graph_small h
 obtain ⟨e2, a, b, ea, eb, ha, hb⟩ := graph_edge h (show p / 2 < l.length by omega)
 unfold impl_Graph_ends.f tl hd
 rw [half p (by omega), rest2, wrap_id (x := 1 - ((p % 2 : Nat) : Int)) (by omega) (by omega), if_pos (by omega), if_pos (by omega), if_pos (by omega), if_pos (by omega), if_pos (by omega), if_pos (by omega)]
 by_cases c : p % 2 = 1
 ·rw [if_pos c, if_pos c, c]
  rfl
 ·rw [if_neg c, if_neg c, show p % 2 = 0 by omega]
  rfl

end
theorem markInt64S_loop (n : Nat) (hn : n ≤ 1048576) (a : Int) (h0 : 0 ≤ a) (h1 : a ≤ 1125899906842624) : ∀ (d i : Nat) (ys : List Int), i + d = n → ys.length = n → ys.take i = (marks a n).take i →
  Ev (fun k => laws_markInt64S.l0 k ys (a + i) (i : Int)) (a + n, marks a n) := by
 intro d
 induction d with
 | zero =>
  intro i ys hi hy ht
  refine Ev.succ ?_; simp only [laws_markInt64S.l0]
  rw [show ys = marks a n from eq_of_take (by rw [hy, marks_length]) (by rw [marks_length]; omega) ht, show i = n by omega]
  have := marks_length a n
  repeat (first | with_reducible exact Ev.now _ | dsimp only | refine Ev.pos (by first | omega | rfl | assumption | decide) ?_ | refine Ev.neg (by first | omega | assumption | exact Bool.false_ne_true | exact fun e => absurd e (by decide)) ?_ | simp only [bne_self_eq_false, Bool.not_true, Bool.not_false, List.length_cons, List.length_nil] | rw [wrap_id (by omega) (by omega)] | ((with_reducible refine Ev.eq (congrArg some ?_)); rfl))
 | succ d ih =>
  intro i ys hi hy ht
  refine Ev.succ ?_; simp only [laws_markInt64S.l0]
  rw [wrap_succ (by omega), wrap_id (x := a + i + 1) (by omega) (by omega)]
  repeat (first | with_reducible exact Ev.now _ | dsimp only | refine Ev.pos (by first | omega | rfl | assumption | decide) ?_ | refine Ev.neg (by first | omega | assumption | exact Bool.false_ne_true | exact fun e => absurd e (by decide)) ?_ | simp only [bne_self_eq_false, Bool.not_true, Bool.not_false, List.length_cons, List.length_nil] | rw [wrap_id (by omega) (by omega)] | ((with_reducible refine Ev.eq (congrArg some ?_)); rfl))
  have := ih (i + 1) (ys.set i (a + i)) (by omega) (by simpa using hy) (take_set_succ (by rw [hy, marks_length]) (by rw [marks_length]; omega) (marks_get a n i (by rw [marks_length]; omega)).symm ht)
  rw [show a + ((i + 1 : Nat) : Int) = a + i + 1 by omega] at this
  exact this

theorem markInt64S (l : List Int) (hl : l.length ≤ 1048576) (a : Int) (h0 : 0 ≤ a) (h1 : a ≤ 1125899906842624) : Ev (fun k => laws_markInt64S.f k l a) (a + l.length, marks a l.length) := by
 unfold laws_markInt64S.f
 have := markInt64S_loop l.length hl a h0 h1 l.length 0 l (by omega) rfl (by simp)
 rw [show a + ((0 : Nat) : Int) = a by omega] at this
 exact this

theorem heldInt64S_loop (n : Nat) (hn : n ≤ 1048576) (a : Int) (h0 : 0 ≤ a) (h1 : a ≤ 1125899906842624) : ∀ (d i : Nat), i + d = n →
  Ev (fun k => laws_heldInt64S.l0 k (marks a n) (a + i) (i : Int)) (a + n) := by
 have hm := marks_length a n
 intro d
 induction d with
 | zero =>
  intro i hi
  refine Ev.succ ?_; simp only [laws_heldInt64S.l0]
  rw [show i = n by omega]
  repeat (first | with_reducible exact Ev.now _ | dsimp only | refine Ev.pos (by first | omega | rfl | assumption | decide) ?_ | refine Ev.neg (by first | omega | assumption | exact Bool.false_ne_true | exact fun e => absurd e (by decide)) ?_ | simp only [bne_self_eq_false, Bool.not_true, Bool.not_false, List.length_cons, List.length_nil] | rw [wrap_id (by omega) (by omega)] | ((with_reducible refine Ev.eq (congrArg some ?_)); rfl))
 | succ d ih =>
  intro i hi
  refine Ev.succ ?_; simp only [laws_heldInt64S.l0]
  rw [wrap_succ (by omega), wrap_id (x := a + i + 1) (by omega) (by omega)]
  have e := marks_get a n i (by omega)
  rw [← rd_lt] at e
  have := ih (i + 1) (by omega)
  rw [show a + ((i + 1 : Nat) : Int) = a + i + 1 by omega] at this
  repeat (first | with_reducible exact Ev.now _ | dsimp only | refine Ev.pos (by first | omega | rfl | assumption | decide) ?_ | refine Ev.neg (by first | omega | assumption | exact Bool.false_ne_true | exact fun e => absurd e (by decide)) ?_ | simp only [bne_self_eq_false, Bool.not_true, Bool.not_false, List.length_cons, List.length_nil] | rw [wrap_id (by omega) (by omega)] | ((with_reducible refine Ev.eq (congrArg some ?_)); rfl))
  exact this

theorem heldInt64S (a : Int) (n : Nat) (hn : n ≤ 1048576) (h0 : 0 ≤ a) (h1 : a ≤ 1125899906842624) : Ev (fun k => laws_heldInt64S.f k (marks a n) a) (a + n) := by
 unfold laws_heldInt64S.f
 have := heldInt64S_loop n hn a h0 h1 n 0 (by omega)
 rw [show a + ((0 : Nat) : Int) = a by omega] at this
 exact this
theorem markInt64SS_loop : ∀ (d i : Nat) (xs : List (List Int)) (a : Int), i + d = xs.length → xs.length ≤ 1048576 → (∀ r ∈ xs, r.length ≤ 1048576) → 0 ≤ a → a ≤ 1 + 1048576 * i →
  ∃ r : Int × List (List Int), Ev (fun k => laws_markInt64SS.l0 k xs a (i : Int)) r ∧ 0 ≤ r.1 ∧ r.1 ≤ 1 + 1048576 * xs.length := by
 intro d
 induction d with
 | zero =>
  intro i xs a hi hx hr h0 h1
  refine ⟨(a, xs), ?_, h0, by simp only; omega⟩
  refine Ev.succ ?_; simp only [laws_markInt64SS.l0]
  repeat (first | with_reducible exact Ev.now _ | dsimp only | refine Ev.pos (by first | omega | rfl | assumption | decide) ?_ | refine Ev.neg (by first | omega | assumption | exact Bool.false_ne_true | exact fun e => absurd e (by decide)) ?_ | simp only [bne_self_eq_false, Bool.not_true, Bool.not_false, List.length_cons, List.length_nil] | rw [wrap_id (by omega) (by omega)] | ((with_reducible refine Ev.eq (congrArg some ?_)); rfl))
 | succ d ih =>
  intro i xs a hi hx hr h0 h1
  have hlen : xs[i].length ≤ 1048576 := hr _ (List.getElem_mem (by omega))
  obtain ⟨r, h2, h3⟩ := ih (i + 1) (xs.set i (marks a xs[i].length)) (a + xs[i].length) (by simp; omega) (by simpa using hx) (fun r hm => by
   rcases List.mem_or_eq_of_mem_set hm with h | h
   ·exact hr r h
   ·rw [h, marks_length]; exact hlen) (by omega) (by omega)
  rw [List.length_set] at h3
  refine ⟨r, ?_, h3⟩
  refine Ev.succ ?_; simp only [laws_markInt64SS.l0]
  rw [wrap_succ (by omega), rl_lt (by omega)]
  repeat (first | with_reducible exact Ev.now _ | dsimp only | with_reducible refine Ev.bind (markInt64S xs[i] hlen a h0 (by omega)) ?_ | refine Ev.pos (by first | omega | rfl | assumption | decide) ?_ | refine Ev.neg (by first | omega | assumption | exact Bool.false_ne_true | exact fun e => absurd e (by decide)) ?_ | simp only [bne_self_eq_false, Bool.not_true, Bool.not_false, List.length_cons, List.length_nil] | rw [wrap_id (by omega) (by omega)] | with_reducible exact (markInt64S xs[i] hlen a h0 (by omega)) | ((with_reducible refine Ev.eq (congrArg some ?_)); rfl))
  exact h2

theorem markGraph (n : Int) (l : List (List Int)) (hl : Mod l) : ∃ r : Int × List (List Int), Ev (fun k => laws_markGraph.f k n l 1) r ∧ 0 ≤ r.1 ∧ r.1 ≤ 1099511627777 := by
 unfold laws_markGraph.f laws_markInt64SS.f
 have hl1 := hl.1
 obtain ⟨r, h1, h2, h3⟩ := markInt64SS_loop l.length 0 l 1 (by omega) hl.1 hl.2 (by decide) (by omega)
 exact ⟨r, h1, h2, by omega⟩
def zeros (n : Nat) : List (List Int) := List.replicate n (List.replicate n 0)

theorem rep_succ {α : Type} (n : Nat) (x : α) : List.replicate n x ++ [x] = List.replicate (n + 1) x := List.replicate_succ'.symm

theorem implSquare (n : Int) (h0 : 0 ≤ n) (h1 : n ≤ 1000) : Ev (fun k => impl_square.f k n) (zeros n.toNat) := by
 have : ∀ (d v : Nat), (v : Int) + d = n → Ev (fun k => impl_square.l0 k n (List.replicate v (List.replicate n.toNat 0)) n (v : Int)) (zeros n.toNat) := by
  intro d
  induction d with
  | zero =>
   intro v hv
   refine Ev.succ ?_; simp only [impl_square.l0]
   rw [show v = n.toNat by omega]
   repeat (first | with_reducible exact Ev.now _ | dsimp only | refine Ev.pos (by first | omega | rfl | assumption | decide) ?_ | refine Ev.neg (by first | omega | assumption | exact Bool.false_ne_true | exact fun e => absurd e (by decide)) ?_ | simp only [bne_self_eq_false, Bool.not_true, Bool.not_false, List.length_cons, List.length_nil] | rw [wrap_id (by omega) (by omega)] | ((with_reducible refine Ev.eq (congrArg some ?_)); rfl))
  | succ d ih =>
   intro v hv
   have := ih (v + 1) (by omega)
   rw [← rep_succ] at this
   refine Ev.succ ?_; simp only [impl_square.l0]
   rw [wrap_succ (by omega)]
   refine Ev.pos (by omega) ?_
   refine Ev.pos (by omega) ?_
   refine Ev.pos (by omega) ?_
   refine Ev.pos (by simp; omega) ?_
   exact this
 exact this n.toNat 0 (by omega)
/-- f 0 + .. + f (n - 1). -/
def Sm : Nat → (Nat → Int) → Int
 | 0, _ => 0
 | n + 1, f => Sm n f + f n

theorem Sm_congr {n : Nat} {f g : Nat → Int} (h : ∀ i, i < n → f i = g i) : Sm n f = Sm n g := by
 induction n with
 | zero => rfl
 | succ n ih => unfold Sm; rw [ih (fun i hi => h i (by omega)), h n (by omega)]

theorem Sm_add (n : Nat) (f g : Nat → Int) : Sm n (fun i => f i + g i) = Sm n f + Sm n g := by
 induction n with
 | zero => rfl
 | succ n ih =>
  show Sm n (fun i => f i + g i) + (f n + g n) = Sm n f + f n + (Sm n g + g n)
  rw [ih]; omega

theorem Sm_mul_left (n : Nat) (c : Int) (f : Nat → Int) : Sm n (fun i => c * f i) = c * Sm n f := by
 induction n with
 | zero => simp [Sm]
 | succ n ih => unfold Sm; rw [ih, Int.mul_add]

theorem Sm_mul_right (n : Nat) (c : Int) (f : Nat → Int) : Sm n (fun i => f i * c) = Sm n f * c := by
 induction n with
 | zero => simp [Sm]
 | succ n ih => unfold Sm; rw [ih, Int.add_mul]

theorem Sm_zero (n : Nat) : Sm n (fun _ => 0) = 0 := by
 induction n with
 | zero => rfl
 | succ n ih => unfold Sm; rw [ih]; rfl

theorem Sm_swap (n m : Nat) (f : Nat → Nat → Int) : Sm n (fun i => Sm m (fun j => f i j)) = Sm m (fun j => Sm n (fun i => f i j)) := by
 induction n with
 | zero => exact (Sm_zero m).symm
 | succ n ih =>
  show Sm n (fun i => Sm m (fun j => f i j)) + Sm m (fun j => f n j) = _
  rw [ih, ← Sm_add]
  rfl

theorem Sm_le {n : Nat} {f : Nat → Int} {b : Int} (h : ∀ i, i < n → f i ≤ b) : Sm n f ≤ n * b := by
 induction n with
 | zero => simp [Sm]
 | succ n ih =>
  have h1 := ih (fun i hi => h i (by omega))
  have h2 := h n (by omega)
  unfold Sm
  rw [Int.natCast_add, Int.add_mul]
  omega

theorem Sm_nonneg {n : Nat} {f : Nat → Int} (h : ∀ i, i < n → 0 ≤ f i) : 0 ≤ Sm n f := by
 induction n with
 | zero => simp [Sm]
 | succ n ih =>
  have h1 := ih (fun i hi => h i (by omega))
  have h2 := h n (by omega)
  unfold Sm
  omega

/-- The product of two square matrices. -/
def mul (n : Nat) (a b : Nat → Nat → Int) : Nat → Nat → Int := fun i j => Sm n (fun k => a i k * b k j)

theorem mul_assoc' (n : Nat) (a b c : Nat → Nat → Int) (i j : Nat) : mul n (mul n a b) c i j = mul n a (mul n b c) i j := by
 unfold mul
 rw [Sm_congr (g := fun k => Sm n (fun m => a i m * b m k * c k j)) (fun k _ => (Sm_mul_right n _ _).symm)]
 rw [Sm_swap]
 refine Sm_congr (fun m _ => ?_)
 rw [← Sm_mul_left]
 exact Sm_congr (fun k _ => Int.mul_assoc _ _ _)

def tr (n : Nat) (a : Nat → Nat → Int) : Int := Sm n (fun i => a i i)

/-- a to the power p + 1, multiplied from the right. -/
def pw (n : Nat) (a : Nat → Nat → Int) : Nat → Nat → Nat → Int
 | 0 => a
 | p + 1 => mul n (pw n a p) a

theorem mul_congr {n : Nat} {a b a' b' : Nat → Nat → Int} {i j : Nat} (ha : ∀ k, k < n → a i k = a' i k) (hb : ∀ k, k < n → b k j = b' k j) : mul n a b i j = mul n a' b' i j :=
 Sm_congr (fun k hk => by rw [ha k hk, hb k hk])

/-- A list's matrix, and a matrix's list. -/
def mat (m : List (List Int)) (i j : Nat) : Int := rd (rd_L1 m (i : Int)) (j : Int)

def rowOf (n : Nat) (f : Nat → Int) : List Int := (List.range n).map f

def ofFn (n : Nat) (f : Nat → Nat → Int) : List (List Int) := (List.range n).map (fun i => rowOf n (f i))

theorem rowOf_length (n : Nat) (f : Nat → Int) : (rowOf n f).length = n := by simp [rowOf]

theorem rowOf_rd {n i : Nat} (f : Nat → Int) (h : i < n) : rd (rowOf n f) (i : Int) = f i := rd_map_range f h

theorem rowOf_congr {n : Nat} {f g : Nat → Int} (h : ∀ i, i < n → f i = g i) : rowOf n f = rowOf n g := by
 unfold rowOf
 exact List.map_congr_left (fun i hi => h i (List.mem_range.1 hi))

theorem rowOf_set {n i : Nat} (f : Nat → Int) (v : Int) (h : i < n) : (rowOf n f).set i v = rowOf n (fun j => if j = i then v else f j) := by
 refine list_ext_rd (by rw [List.length_set, rowOf_length, rowOf_length]) (fun j hj => ?_)
 rw [List.length_set, rowOf_length] at hj
 rw [rd_set (by rw [rowOf_length]; exact h), rowOf_rd _ hj, rowOf_rd _ hj]

theorem rowOf_zero (n : Nat) : rowOf n (fun _ => 0) = List.replicate n 0 := by
 refine list_ext_rd (by rw [rowOf_length, List.length_replicate]) (fun j hj => ?_)
 rw [rowOf_length] at hj
 rw [rowOf_rd _ hj, rd_replicate]

theorem ofFn_length (n : Nat) (f : Nat → Nat → Int) : (ofFn n f).length = n := by simp [ofFn]

theorem ofFn_row {n i : Nat} (f : Nat → Nat → Int) (h : i < n) : rd_L1 (ofFn n f) (i : Int) = rowOf n (f i) := by
 rw [rl_lt (by rw [ofFn_length]; exact h)]
 simp [ofFn]

theorem ofFn_mat {n i j : Nat} (f : Nat → Nat → Int) (hi : i < n) (hj : j < n) : mat (ofFn n f) i j = f i j := by
 unfold mat
 rw [ofFn_row f hi, rowOf_rd _ hj]

theorem ofFn_congr {n : Nat} {f g : Nat → Nat → Int} (h : ∀ i j, i < n → j < n → f i j = g i j) : ofFn n f = ofFn n g := by
 unfold ofFn
 exact List.map_congr_left (fun i hi => rowOf_congr (fun j hj => h i j (List.mem_range.1 hi) hj))

theorem ofFn_set {n i : Nat} (f : Nat → Nat → Int) (r : Nat → Int) (h : i < n) : (ofFn n f).set i (rowOf n r) = ofFn n (fun k => if k = i then r else f k) := by
 apply List.ext_getElem
 ·rw [List.length_set, ofFn_length, ofFn_length]
 ·intro k h1 h2
  rw [ofFn_length] at h2
  simp only [List.getElem_set, ofFn, List.getElem_map, List.getElem_range]
  by_cases e : k = i
  ·subst e; simp
  ·rw [if_neg (fun x => e x.symm), if_neg e]

/-- A square list of rows. -/
def Sq (n : Nat) (m : List (List Int)) : Prop := m.length = n ∧ ∀ i : Nat, i < n → (rd_L1 m (i : Int)).length = n

theorem Sq_ofFn (n : Nat) (f : Nat → Nat → Int) : Sq n (ofFn n f) := ⟨ofFn_length n f, fun i hi => by rw [ofFn_row f hi, rowOf_length]⟩

theorem wrap_add_wrap (a b : Int) : wrap64 (wrap64 a + wrap64 b) = wrap64 (a + b) := by
 unfold wrap64
 omega

theorem wrap_add_left (a b : Int) : wrap64 (wrap64 a + b) = wrap64 (a + b) := by
 unfold wrap64
 omega

/-- Row p, told up to the place q. -/
def rowE (l : List (List Int)) (p : Nat) : Nat → List Int
 | 0 => List.replicate (2 * l.length) 0
 | q + 1 => if next l p q = true then (rowE l p q).set q 1 else rowE l p q

def edgeM (l : List (List Int)) (n : Nat) : List (List Int) := (List.range n).map (fun p => rowE l p (2 * l.length))

theorem rowE_length (l : List (List Int)) (p q : Nat) : (rowE l p q).length = 2 * l.length := by
 induction q with
 | zero => simp [rowE]
 | succ q ih => unfold rowE; split <;> simp [ih]

theorem edgeM_length (l : List (List Int)) (n : Nat) : (edgeM l n).length = n := by simp [edgeM]

theorem edgeM_succ (l : List (List Int)) (n : Nat) : edgeM l (n + 1) = edgeM l n ++ [rowE l n (2 * l.length)] := map_range_succ _ _

theorem rowE_rd (l : List (List Int)) (p : Nat) : ∀ (q j : Nat), q ≤ 2 * l.length → rd (rowE l p q) (j : Int) = if j < q ∧ next l p j = true then 1 else 0 := by
 intro q
 induction q with
 | zero =>
  intro j _
  rw [if_neg (by omega)]
  exact rd_replicate _ _
 | succ q ih =>
  intro j hq
  have hl := rowE_length l p q
  unfold rowE
  by_cases c : next l p q = true
  ·rw [if_pos c, rd_set (by omega)]
   by_cases e : j = q
   ·subst e
    rw [if_pos rfl, if_pos ⟨by omega, c⟩]
   ·rw [if_neg e, ih j (by omega)]
    by_cases c2 : j < q ∧ next l p j = true
    ·rw [if_pos c2, if_pos ⟨by omega, c2.2⟩]
    ·rw [if_neg c2, if_neg (fun x => c2 ⟨by omega, x.2⟩)]
  ·rw [if_neg c, ih j (by omega)]
   by_cases c2 : j < q ∧ next l p j = true
   ·rw [if_pos c2, if_pos ⟨by omega, c2.2⟩]
   ·rw [if_neg c2, if_neg (fun x => ?_)]
    by_cases e : j = q
    ·subst e; exact c x.2
    ·exact c2 ⟨by omega, x.2⟩

theorem next_split {l : List (List Int)} {p q : Nat} : next l p q = true ↔ hd l p = tl l q ∧ q ≠ inv p := by
 unfold next
 rw [Bool.and_eq_true, decide_eq_true_iff, decide_eq_true_iff]
/-- The matrix while row p is told up to the place q. -/
def stage (l : List (List Int)) (p q : Nat) : List (List Int) := edgeM l p ++ rowE l p q :: List.replicate (2 * l.length - (p + 1)) (List.replicate (2 * l.length) 0)

theorem stage_length (l : List (List Int)) (p q : Nat) (h : p < 2 * l.length) : (stage l p q).length = 2 * l.length := by
 simp [stage, edgeM_length]; omega

theorem stage_row (l : List (List Int)) (p q : Nat) : rd_L1 (stage l p q) (p : Int) = rowE l p q := by
 unfold stage
 rw [rl_lt (by simp [edgeM_length])]
 rw [List.getElem_append_right (by rw [edgeM_length]; omega)]
 simp [edgeM_length]

theorem stage_set (l : List (List Int)) (p q : Nat) (r : List Int) : (stage l p q).set p r = edgeM l p ++ r :: List.replicate (2 * l.length - (p + 1)) (List.replicate (2 * l.length) 0) := by
 unfold stage
 rw [List.set_append_right _ _ (by rw [edgeM_length]; omega), edgeM_length, Nat.sub_self, List.set_cons_zero]

theorem stage_zero (l : List (List Int)) : 0 < 2 * l.length → stage l 0 0 = zeros (2 * l.length) := by
 intro h
 unfold stage edgeM zeros rowE
 rw [show 2 * l.length - (0 + 1) = 2 * l.length - 1 by omega]
 simp only [List.range_zero, List.map_nil, List.nil_append]
 rw [← List.replicate_succ, Nat.sub_add_cancel (by omega)]

theorem stage_next (l : List (List Int)) (p : Nat) (h : p + 1 < 2 * l.length) : stage l p (2 * l.length) = stage l (p + 1) 0 := by
 unfold stage
 rw [edgeM_succ, show 2 * l.length - (p + 1) = (2 * l.length - (p + 1 + 1)) + 1 by omega, List.replicate_succ, List.append_assoc]
 rfl

theorem stage_last (l : List (List Int)) (p : Nat) (h : p + 1 = 2 * l.length) : stage l p (2 * l.length) = edgeM l (2 * l.length) := by
 unfold stage
 rw [show 2 * l.length - (p + 1) = 0 by omega, List.replicate_zero, ← edgeM_succ, h]

section
variable {n : Int} {l : List (List Int)} (h : isGraph n l = true)
include h

theorem implRow (p : Nat) (hp : p < 2 * l.length) (r : List (List Int)) (hr : Ev (fun k => impl_Graph_edgeMatrix.l0 k (stage l p (2 * l.length)) (2 * (l.length : Int)) ((p + 1 : Nat) : Int) n l) r) :
  ∀ (d q : Nat), q + d = 2 * l.length → Ev (fun k => impl_Graph_edgeMatrix.l1 k (stage l p q) (p : Int) (hd l p) (2 * (l.length : Int)) (p : Int) (2 * (l.length : Int)) (q : Int) n l) r := by
 obtain ⟨g1, g2, g3⟩ := graph_small h
 intro d
 induction d with
 | zero =>
  intro q hq
  have e : q = 2 * l.length := by omega
  refine Ev.succ ?_; simp only [impl_Graph_edgeMatrix.l1]
  rw [wrap_succ (i := p) (by omega), e]
  repeat (first | with_reducible exact Ev.now _ | dsimp only | refine Ev.pos (by first | omega | rfl | assumption | decide) ?_ | refine Ev.neg (by first | omega | assumption | exact Bool.false_ne_true | exact fun e => absurd e (by decide)) ?_ | simp only [bne_self_eq_false, Bool.not_true, Bool.not_false, List.length_cons, List.length_nil] | rw [wrap_id (by omega) (by omega)] | ((with_reducible refine Ev.eq (congrArg some ?_)); rfl))
  exact hr
 | succ d ih =>
  intro q hq
  have hi := ih (q + 1) (by omega)
  have he := implEnds h (show q < 2 * l.length by omega)
  have hx := xor_inv p (by omega)
  have hlen := rowE_length l p q
  have hs := stage_length l p q hp
  refine Ev.succ ?_; simp only [impl_Graph_edgeMatrix.l1]
  rw [wrap_succ (i := q) (by omega), hx, stage_row]
  by_cases c : next l p q = true
  ·have e2 : (stage l p q).set p ((rowE l p q).set q 1) = stage l p (q + 1) := by
    rw [stage_set]
    unfold stage
    rw [show rowE l p (q + 1) = (if next l p q = true then (rowE l p q).set q 1 else rowE l p q) from rfl, if_pos c]
   obtain ⟨c1, c2⟩ := next_split.1 c
   rw [Int.toNat_natCast, Int.toNat_natCast, e2]
   repeat (first | with_reducible exact Ev.now _ | dsimp only | with_reducible refine Ev.bind (Ev.eq he) ?_ | refine Ev.pos (by first | omega | rfl | assumption | decide) ?_ | refine Ev.neg (by first | omega | assumption | exact Bool.false_ne_true | exact fun e => absurd e (by decide)) ?_ | simp only [bne_self_eq_false, Bool.not_true, Bool.not_false, List.length_cons, List.length_nil] | rw [wrap_id (by omega) (by omega)] | with_reducible exact (Ev.eq he) | ((with_reducible refine Ev.eq (congrArg some ?_)); rfl))
   exact hi
  ·have e2 : stage l p q = stage l p (q + 1) := by
    unfold stage
    rw [show rowE l p (q + 1) = (if next l p q = true then (rowE l p q).set q 1 else rowE l p q) from rfl, if_neg c]
   rw [← e2] at hi
   by_cases c1 : hd l p = tl l q
   ·have c2 : q = inv p := by
     apply Classical.byContradiction
     intro e
     exact c (next_split.2 ⟨c1, e⟩)
    repeat (first | with_reducible exact Ev.now _ | dsimp only | with_reducible refine Ev.bind (Ev.eq he) ?_ | refine Ev.pos (by first | omega | rfl | assumption | decide) ?_ | refine Ev.neg (by first | omega | assumption | exact Bool.false_ne_true | exact fun e => absurd e (by decide)) ?_ | simp only [bne_self_eq_false, Bool.not_true, Bool.not_false, List.length_cons, List.length_nil] | rw [wrap_id (by omega) (by omega)] | with_reducible exact (Ev.eq he) | ((with_reducible refine Ev.eq (congrArg some ?_)); rfl))
    exact hi
   ·repeat (first | with_reducible exact Ev.now _ | dsimp only | with_reducible refine Ev.bind (Ev.eq he) ?_ | refine Ev.pos (by first | omega | rfl | assumption | decide) ?_ | refine Ev.neg (by first | omega | assumption | exact Bool.false_ne_true | exact fun e => absurd e (by decide)) ?_ | simp only [bne_self_eq_false, Bool.not_true, Bool.not_false, List.length_cons, List.length_nil] | rw [wrap_id (by omega) (by omega)] | with_reducible exact (Ev.eq he) | ((with_reducible refine Ev.eq (congrArg some ?_)); rfl))
    exact hi

theorem implEdgeM : Ev (fun k => impl_Graph_edgeMatrix.f k n l) (edgeM l (2 * l.length)) := by
 obtain ⟨g1, g2, g3⟩ := graph_small h
 have main : ∀ (d p : Nat), p + 1 + d = 2 * l.length → Ev (fun k => impl_Graph_edgeMatrix.l0 k (stage l p 0) (2 * (l.length : Int)) (p : Int) n l) (edgeM l (2 * l.length)) := by
  intro d
  induction d with
  | zero =>
   intro p hp
   have he := implEnds h (show p < 2 * l.length by omega)
   refine Ev.succ ?_; simp only [impl_Graph_edgeMatrix.l0]
   unfold impl_Graph_size.f
   repeat (first | with_reducible exact Ev.now _ | dsimp only | with_reducible refine Ev.bind (Ev.eq he) ?_ | with_reducible refine Ev.bind (Ev.now _) ?_ | refine Ev.pos (by first | omega | rfl | assumption | decide) ?_ | refine Ev.neg (by first | omega | assumption | exact Bool.false_ne_true | exact fun e => absurd e (by decide)) ?_ | simp only [bne_self_eq_false, Bool.not_true, Bool.not_false, List.length_cons, List.length_nil] | rw [wrap_id (by omega) (by omega)] | with_reducible exact (Ev.eq he) | with_reducible exact (Ev.now _) | ((with_reducible refine Ev.eq (congrArg some ?_)); rfl))
   refine implRow h p (by omega) _ ?_ (2 * l.length) 0 (by omega)
   rw [stage_last l p (by omega)]
   refine Ev.succ ?_; simp only [impl_Graph_edgeMatrix.l0]
   repeat (first | with_reducible exact Ev.now _ | dsimp only | refine Ev.pos (by first | omega | rfl | assumption | decide) ?_ | refine Ev.neg (by first | omega | assumption | exact Bool.false_ne_true | exact fun e => absurd e (by decide)) ?_ | simp only [bne_self_eq_false, Bool.not_true, Bool.not_false, List.length_cons, List.length_nil] | rw [wrap_id (by omega) (by omega)] | ((with_reducible refine Ev.eq (congrArg some ?_)); rfl))
  | succ d ih =>
   intro p hp
   have hi := ih (p + 1) (by omega)
   have he := implEnds h (show p < 2 * l.length by omega)
   refine Ev.succ ?_; simp only [impl_Graph_edgeMatrix.l0]
   unfold impl_Graph_size.f
   repeat (first | with_reducible exact Ev.now _ | dsimp only | with_reducible refine Ev.bind (Ev.eq he) ?_ | with_reducible refine Ev.bind (Ev.now _) ?_ | refine Ev.pos (by first | omega | rfl | assumption | decide) ?_ | refine Ev.neg (by first | omega | assumption | exact Bool.false_ne_true | exact fun e => absurd e (by decide)) ?_ | simp only [bne_self_eq_false, Bool.not_true, Bool.not_false, List.length_cons, List.length_nil] | rw [wrap_id (by omega) (by omega)] | with_reducible exact (Ev.eq he) | with_reducible exact (Ev.now _) | ((with_reducible refine Ev.eq (congrArg some ?_)); rfl))
   refine implRow h p (by omega) _ ?_ (2 * l.length) 0 (by omega)
   rw [stage_next l p (by omega)]
   exact hi
 unfold impl_Graph_edgeMatrix.f impl_Graph_size.f
 refine Ev.bind (Ev.now _) ?_
 rw [wrap_id (x := 2 * (l.length : Int)) (by omega) (by omega)]
 refine Ev.bind (implSquare (2 * (l.length : Int)) (by omega) (by omega)) ?_
 refine Ev.bind (Ev.now _) ?_
 rw [wrap_id (x := 2 * (l.length : Int)) (by omega) (by omega)]
 rw [show (2 * (l.length : Int)).toNat = 2 * l.length by omega]
 by_cases e : l.length = 0
 ·refine Ev.succ ?_; simp only [impl_Graph_edgeMatrix.l0]
  refine Ev.neg (by omega) ?_
  refine Ev.eq (congrArg some ?_)
  rw [e]
  rfl
 ·rw [← stage_zero l (by omega)]
  exact main (2 * l.length - 1) 0 (by omega)

end
/-- One where q may follow p. -/
def W (l : List (List Int)) (p q : Nat) : Int := if next l p q = true then 1 else 0

theorem W_range (l : List (List Int)) (p q : Nat) : 0 ≤ W l p q ∧ W l p q ≤ 1 := by
 unfold W
 split <;> decide

theorem edgeM_ofFn (l : List (List Int)) : edgeM l (2 * l.length) = ofFn (2 * l.length) (W l) := by
 unfold edgeM ofFn
 refine List.map_congr_left (fun p hp => ?_)
 refine list_ext_rd (by rw [rowE_length, rowOf_length]) (fun j hj => ?_)
 rw [rowE_length] at hj
 rw [rowE_rd l p _ j (Nat.le_refl _), rowOf_rd _ hj]
 unfold W
 by_cases c : next l p j = true
 ·rw [if_pos c, if_pos ⟨hj, c⟩]
 ·rw [if_neg c, if_neg (fun e => c e.2)]

/-- The row of the j-th power that belongs to p. -/
def vec (l : List (List Int)) (N p : Nat) : Nat → Nat → Int
 | 0, q => if q = p then 1 else 0
 | j + 1, q => Sm N (fun r => vec l N p j r * W l r q)

theorem vec_range (l : List (List Int)) (N p : Nat) (hN : N ≤ 20) : ∀ j q, 0 ≤ vec l N p j q ∧ vec l N p j q ≤ 20 ^ j := by
 intro j
 induction j with
 | zero =>
  intro q
  unfold vec
  split <;> decide
 | succ j ih =>
  intro q
  unfold vec
  have hle : ∀ r, r < N → vec l N p j r * W l r q ≤ 20 ^ j := fun r _ => by
   have h1 := ih r
   have h2 := W_range l r q
   have : vec l N p j r * W l r q ≤ vec l N p j r * 1 := Int.mul_le_mul_of_nonneg_left h2.2 h1.1
   omega
  refine ⟨Sm_nonneg (fun r _ => Int.mul_nonneg (ih r).1 (W_range l r q).1), ?_⟩
  have h3 := Sm_le hle
  have h4 : (N : Int) * 20 ^ j ≤ 20 * 20 ^ j := Int.mul_le_mul_of_nonneg_right (by omega) (Int.pow_nonneg (by decide))
  rw [Int.pow_succ, Int.mul_comm (20 ^ j) 20]
  omega

theorem Sm_pick (N : Nat) (f : Nat → Int) {p : Nat} (hp : p < N) : Sm N (fun r => (if r = p then 1 else 0) * f r) = f p := by
 induction N with
 | zero => omega
 | succ N ih =>
  show Sm N (fun r => (if r = p then 1 else 0) * f r) + (if N = p then 1 else 0) * f N = f p
  by_cases e : p = N
  ·subst e
   rw [if_pos rfl, Int.one_mul]
   have : Sm p (fun r => (if r = p then 1 else 0) * f r) = Sm p (fun _ => 0) := Sm_congr (fun i hi => by rw [if_neg (by omega), Int.zero_mul])
   rw [this, Sm_zero, Int.zero_add]
  ·rw [ih (by omega), if_neg (by omega), Int.zero_mul, Int.add_zero]

theorem vec_pw (l : List (List Int)) (N : Nat) {p : Nat} (hp : p < N) : ∀ j q, vec l N p (j + 1) q = pw N (W l) j p q := by
 intro j
 induction j with
 | zero =>
  intro q
  show Sm N (fun r => (if r = p then 1 else 0) * W l r q) = W l p q
  exact Sm_pick N (fun r => W l r q) hp
 | succ j ih =>
  intro q
  show Sm N (fun r => vec l N p (j + 1) r * W l r q) = Sm N (fun r => pw N (W l) j p r * W l r q)
  exact Sm_congr (fun r _ => by rw [ih r])

theorem pw_range (l : List (List Int)) (N : Nat) (hN : N ≤ 20) {p : Nat} (hp : p < N) (j q : Nat) : 0 ≤ pw N (W l) j p q ∧ pw N (W l) j p q ≤ 20 ^ (j + 1) := by
 rw [← vec_pw l N hp]
 exact vec_range l N p hN (j + 1) q

/-- How many closed walks of j + 1 steps there are. -/
def closedN (l : List (List Int)) (j : Nat) : Int := tr (2 * l.length) (pw (2 * l.length) (W l) j)

theorem pow20 {j : Nat} (h : j ≤ 13) : (20 : Int) ^ j ≤ 81920000000000000 := by
 have : ∀ i : Fin 14, (20 : Int) ^ i.val ≤ 81920000000000000 := by decide
 exact this ⟨j, by omega⟩

theorem closedN_range (l : List (List Int)) (h : l.length ≤ 10) {j : Nat} (hj : j ≤ 12) : 0 ≤ closedN l j ∧ closedN l j ≤ 1638400000000000000 := by
 unfold closedN tr
 refine ⟨Sm_nonneg (fun i hi => (pw_range l _ (by omega) hi j i).1), ?_⟩
 have h1 : Sm (2 * l.length) (fun i => pw (2 * l.length) (W l) j i i) ≤ (2 * l.length : Nat) * 81920000000000000 := Sm_le (fun i hi => by
  have := (pw_range l _ (by omega) hi j i).2
  have := pow20 (show j + 1 ≤ 13 by omega)
  omega)
 omega
section
variable (n : Nat) (hn : n ≤ 1000) (a b : List (List Int)) (ha : Sq n a) (hb : Sq n b)

/-- The product's entry, of the k first places. -/
def part (k i j : Nat) : Int := wrap64 (Sm k (fun m => mat a i m * mat b m j))

/-- The result while row i is told from the places before k, and up to j from place k. -/
def rt (i k j : Nat) : List (List Int) := ofFn n (fun p q => if p < i then part a b n p q else if p = i then (if q < j then part a b (k + 1) p q else part a b k p q) else 0)

theorem rt_next (i k : Nat) : rt n a b i k n = rt n a b i (k + 1) 0 := by
 refine ofFn_congr (fun p q hp hq => ?_)
 by_cases c : p < i
 ·simp only [if_pos c]
 ·by_cases e : p = i
  ·simp only [if_neg c, if_pos e, if_pos hq, if_neg (Nat.not_lt_zero q)]
  ·simp only [if_neg c, if_neg e]

theorem part_zero (i j : Nat) : part a b 0 i j = 0 := by
 unfold part Sm
 exact wrap_id (by decide) (by decide)

theorem rt_row (i : Nat) : rt n a b i n 0 = rt n a b (i + 1) 0 0 := by
 refine ofFn_congr (fun p q hp hq => ?_)
 by_cases c : p < i
 ·rw [if_pos c, if_pos (by omega)]
 ·by_cases e : p = i
  ·rw [if_neg c, if_pos e, if_neg (by omega), if_pos (by omega)]
  ·rw [if_neg c, if_neg e, if_neg (by omega)]
   by_cases e2 : p = i + 1
   ·rw [if_pos e2, if_neg (by omega), part_zero]
   ·rw [if_neg e2]

theorem part_skip (k i j : Nat) (h : mat a i k = 0) : part a b (k + 1) i j = part a b k i j := by
 unfold part
 rw [show Sm (k + 1) (fun m => mat a i m * mat b m j) = Sm k (fun m => mat a i m * mat b m j) + mat a i k * mat b k j from rfl, h, Int.zero_mul, Int.add_zero]

theorem rt_skip (i k : Nat) (h : mat a i k = 0) : rt n a b i k 0 = rt n a b i (k + 1) 0 := by
 refine ofFn_congr (fun p q hp hq => ?_)
 by_cases c : p < i
 ·simp only [if_pos c]
 ·by_cases e : p = i
  ·subst e
   simp only [if_neg c, if_pos, if_neg (Nat.not_lt_zero q), part_skip a b k p q h]
  ·simp only [if_neg c, if_neg e]

theorem part_step (k i j : Nat) : wrap64 (part a b k i j + wrap64 (mat a i k * mat b k j)) = part a b (k + 1) i j := by
 unfold part
 rw [wrap_add_wrap]
 rfl

theorem rt_length (i k j : Nat) : (rt n a b i k j).length = n := ofFn_length _ _

theorem rt_at {i : Nat} (k j : Nat) (hi : i < n) : rd_L1 (rt n a b i k j) (i : Int) = rowOf n (fun q => if q < j then part a b (k + 1) i q else part a b k i q) := by
 unfold rt
 rw [ofFn_row _ hi]
 refine rowOf_congr (fun q hq => ?_)
 rw [if_neg (Nat.lt_irrefl i), if_pos rfl]

theorem rt_set {i j : Nat} (k : Nat) (hi : i < n) (hj : j < n) : (rt n a b i k j).set i ((rd_L1 (rt n a b i k j) (i : Int)).set j (wrap64 (rd (rd_L1 (rt n a b i k j) (i : Int)) (j : Int) + wrap64 (mat a i k * mat b k j)))) = rt n a b i k (j + 1) := by
 rw [rt_at n a b k j hi, rowOf_rd _ hj, if_neg (Nat.lt_irrefl j), part_step, rowOf_set _ _ hj]
 unfold rt
 rw [ofFn_set _ _ hi]
 refine ofFn_congr (fun p q hp hq => ?_)
 by_cases e : p = i
 ·subst e
  rw [if_pos rfl, if_neg (Nat.lt_irrefl p), if_pos rfl]
  by_cases e2 : q = j
  ·subst e2
   rw [if_pos rfl, if_pos (by omega)]
  ·rw [if_neg e2]
   by_cases c : q < j
   ·rw [if_pos c, if_pos (by omega)]
   ·rw [if_neg c, if_neg (by omega)]
 ·rw [if_neg e]
  by_cases c : p < i
  ·rw [if_pos c, if_pos c]
  ·rw [if_neg c, if_neg c, if_neg e, if_neg e]

include hn ha hb

theorem rtInner (i k : Nat) (hi : i < n) (hk : k < n) (r : List (List Int)) (hr : Ev (fun f => impl_rowsTimes.l1 f b (rt n a b i k n) (i : Int) a (n : Int) (i : Int) (rd_L1 a (i : Int)) (n : Int) ((k + 1 : Nat) : Int)) r) :
  ∀ (d j : Nat), j + d = n → Ev (fun f => impl_rowsTimes.l2 f b (rt n a b i k j) (i : Int) (mat a i k) a (n : Int) (i : Int) (rd_L1 a (i : Int)) (n : Int) (k : Int) (rd_L1 b (k : Int)) (n : Int) (j : Int)) r := by
 have hbl := hb.2 k hk
 intro d
 induction d with
 | zero =>
  intro j hj
  have e : j = n := by omega
  subst e
  refine Ev.succ ?_; simp only [impl_rowsTimes.l2]
  rw [wrap_succ (i := k) (by omega)]
  repeat (first | with_reducible exact Ev.now _ | dsimp only | refine Ev.pos (by first | omega | rfl | assumption | decide) ?_ | refine Ev.neg (by first | omega | assumption | exact Bool.false_ne_true | exact fun e => absurd e (by decide)) ?_ | simp only [bne_self_eq_false, Bool.not_true, Bool.not_false, List.length_cons, List.length_nil] | rw [wrap_id (by omega) (by omega)] | ((with_reducible refine Ev.eq (congrArg some ?_)); rfl))
  exact hr
 | succ d ih =>
  intro j hj
  have h1 := ih (j + 1) (by omega)
  have hl := rt_length n a b i k j
  have hrow : (rd_L1 (rt n a b i k j) (i : Int)).length = n := by rw [rt_at n a b k j hi, rowOf_length]
  have hset := rt_set n a b (i := i) (j := j) k hi (by omega)
  refine Ev.succ ?_; simp only [impl_rowsTimes.l2]
  rw [show rd (rd_L1 b (k : Int)) (j : Int) = mat b k j from rfl, Int.toNat_natCast, Int.toNat_natCast, hset, wrap_succ (i := j) (by omega)]
  repeat (first | with_reducible exact Ev.now _ | dsimp only | refine Ev.pos (by first | omega | rfl | assumption | decide) ?_ | refine Ev.neg (by first | omega | assumption | exact Bool.false_ne_true | exact fun e => absurd e (by decide)) ?_ | simp only [bne_self_eq_false, Bool.not_true, Bool.not_false, List.length_cons, List.length_nil] | rw [wrap_id (by omega) (by omega)] | ((with_reducible refine Ev.eq (congrArg some ?_)); rfl))
  exact h1

theorem rtMiddle (i : Nat) (hi : i < n) (r : List (List Int)) (hr : Ev (fun f => impl_rowsTimes.l0 f b (rt n a b (i + 1) 0 0) a (n : Int) ((i + 1 : Nat) : Int)) r) :
  ∀ (d k : Nat), k + d = n → Ev (fun f => impl_rowsTimes.l1 f b (rt n a b i k 0) (i : Int) a (n : Int) (i : Int) (rd_L1 a (i : Int)) (n : Int) (k : Int)) r := by
 have hal := ha.2 i hi
 have hbl := hb.1
 intro d
 induction d with
 | zero =>
  intro k hk
  have e : k = n := by omega
  refine Ev.succ ?_; simp only [impl_rowsTimes.l1]
  rw [e, rt_row, wrap_succ (i := i) (by omega)]
  repeat (first | with_reducible exact Ev.now _ | dsimp only | refine Ev.pos (by first | omega | rfl | assumption | decide) ?_ | refine Ev.neg (by first | omega | assumption | exact Bool.false_ne_true | exact fun e => absurd e (by decide)) ?_ | simp only [bne_self_eq_false, Bool.not_true, Bool.not_false, List.length_cons, List.length_nil] | rw [wrap_id (by omega) (by omega)] | ((with_reducible refine Ev.eq (congrArg some ?_)); rfl))
  exact hr
 | succ d ih =>
  intro k hk
  have h1 := ih (k + 1) (by omega)
  have hbk := hb.2 k (by omega)
  refine Ev.succ ?_; simp only [impl_rowsTimes.l1]
  rw [show rd (rd_L1 a (i : Int)) (k : Int) = mat a i k from rfl, wrap_succ (i := k) (by omega)]
  by_cases c : mat a i k = 0
  ·rw [← rt_skip n a b i k c] at h1
   repeat (first | with_reducible exact Ev.now _ | dsimp only | refine Ev.pos (by first | omega | rfl | assumption | decide) ?_ | refine Ev.neg (by first | omega | assumption | exact Bool.false_ne_true | exact fun e => absurd e (by decide)) ?_ | simp only [bne_self_eq_false, Bool.not_true, Bool.not_false, List.length_cons, List.length_nil] | rw [wrap_id (by omega) (by omega)] | ((with_reducible refine Ev.eq (congrArg some ?_)); rfl))
   exact h1
  ·rw [← rt_next] at h1
   repeat (first | with_reducible exact Ev.now _ | dsimp only | refine Ev.pos (by first | omega | rfl | assumption | decide) ?_ | refine Ev.neg (by first | omega | assumption | exact Bool.false_ne_true | exact fun e => absurd e (by decide)) ?_ | simp only [bne_self_eq_false, Bool.not_true, Bool.not_false, List.length_cons, List.length_nil] | rw [wrap_id (by omega) (by omega)] | ((with_reducible refine Ev.eq (congrArg some ?_)); rfl))
   rw [hbk]
   exact rtInner n hn a b ha hb i k hi (by omega) r h1 n 0 (by omega)

theorem rtOuter : ∀ (d i : Nat), i + d = n → Ev (fun f => impl_rowsTimes.l0 f b (rt n a b i 0 0) a (n : Int) (i : Int)) (ofFn n (part a b n)) := by
 have hal := ha.1
 intro d
 induction d with
 | zero =>
  intro i hi
  refine Ev.succ ?_; simp only [impl_rowsTimes.l0]
  have e : rt n a b i 0 0 = ofFn n (part a b n) := ofFn_congr (fun p q hp hq => if_pos (by omega))
  rw [e]
  repeat (first | with_reducible exact Ev.now _ | dsimp only | refine Ev.pos (by first | omega | rfl | assumption | decide) ?_ | refine Ev.neg (by first | omega | assumption | exact Bool.false_ne_true | exact fun e => absurd e (by decide)) ?_ | simp only [bne_self_eq_false, Bool.not_true, Bool.not_false, List.length_cons, List.length_nil] | rw [wrap_id (by omega) (by omega)] | ((with_reducible refine Ev.eq (congrArg some ?_)); rfl))
 | succ d ih =>
  intro i hi
  have h1 := ih (i + 1) (by omega)
  have hai := ha.2 i (by omega)
  refine Ev.succ ?_; simp only [impl_rowsTimes.l0]
  repeat (first | with_reducible exact Ev.now _ | dsimp only | refine Ev.pos (by first | omega | rfl | assumption | decide) ?_ | refine Ev.neg (by first | omega | assumption | exact Bool.false_ne_true | exact fun e => absurd e (by decide)) ?_ | simp only [bne_self_eq_false, Bool.not_true, Bool.not_false, List.length_cons, List.length_nil] | rw [wrap_id (by omega) (by omega)] | ((with_reducible refine Ev.eq (congrArg some ?_)); rfl))
  rw [hai]
  exact rtMiddle n hn a b ha hb i (by omega) _ h1 n 0 (by omega)

theorem rowsTimes : Ev (fun f => impl_rowsTimes.f f a b) (ofFn n (part a b n)) := by
 unfold impl_rowsTimes.f
 rw [ha.1]
 refine Ev.bind (implSquare (n : Int) (by omega) (by omega)) ?_
 have e : zeros (n : Int).toNat = rt n a b 0 0 0 := by
  rw [Int.toNat_natCast]
  apply List.ext_getElem
  ·rw [rt_length]; simp [zeros]
  ·intro k h1 h2
   rw [rt_length] at h2
   rw [← rl_lt, ← rl_lt]
   ·by_cases e : k = 0
    ·subst e
     rw [rt_at n a b 0 0 h2, rl_lt h1]
     simp only [zeros, List.getElem_replicate]
     rw [← rowOf_zero]
     refine rowOf_congr (fun q hq => ?_)
     rw [if_neg (by omega), part_zero]
    ·unfold rt
     rw [ofFn_row _ h2, rl_lt h1]
     simp only [zeros, List.getElem_replicate]
     rw [← rowOf_zero]
     refine rowOf_congr (fun q hq => ?_)
     rw [if_neg (by omega), if_neg e]
 rw [e]
 exact rtOuter n hn a b ha hb n 0 (by omega)

omit hb in
theorem trace : Ev (fun f => impl_trace.f f a) (wrap64 (tr n (mat a))) := by
 have hal := ha.1
 have : ∀ (d i : Nat), i + d = n → Ev (fun f => impl_trace.l0 f (wrap64 (Sm i (fun i => mat a i i))) a (n : Int) (i : Int)) (wrap64 (tr n (mat a))) := by
  intro d
  induction d with
  | zero =>
   intro i hi
   have e : i = n := by omega
   subst e
   refine Ev.succ ?_; simp only [impl_trace.l0]
   repeat (first | with_reducible exact Ev.now _ | dsimp only | refine Ev.pos (by first | omega | rfl | assumption | decide) ?_ | refine Ev.neg (by first | omega | assumption | exact Bool.false_ne_true | exact fun e => absurd e (by decide)) ?_ | simp only [bne_self_eq_false, Bool.not_true, Bool.not_false, List.length_cons, List.length_nil] | rw [wrap_id (by omega) (by omega)] | ((with_reducible refine Ev.eq (congrArg some ?_)); rfl))
  | succ d ih =>
   intro i hi
   have h1 := ih (i + 1) (by omega)
   have hai := ha.2 i (by omega)
   refine Ev.succ ?_; simp only [impl_trace.l0]
   rw [wrap_succ (by omega), wrap_add_left]
   repeat (first | with_reducible exact Ev.now _ | dsimp only | refine Ev.pos (by first | omega | rfl | assumption | decide) ?_ | refine Ev.neg (by first | omega | assumption | exact Bool.false_ne_true | exact fun e => absurd e (by decide)) ?_ | simp only [bne_self_eq_false, Bool.not_true, Bool.not_false, List.length_cons, List.length_nil] | rw [wrap_id (by omega) (by omega)] | ((with_reducible refine Ev.eq (congrArg some ?_)); rfl))
   exact h1
 unfold impl_trace.f
 rw [hal]
 have h0 := this n 0 (by omega)
 rw [show wrap64 (Sm 0 (fun i => mat a i i)) = 0 from wrap_id (x := 0) (by decide) (by decide)] at h0
 exact h0

end
theorem specNext {n : Int} {l : List (List Int)} (h : isGraph n l = true) {p q : Nat} (hp : p < 2 * l.length) (hq : q < 2 * l.length) : spec_l03Next.f n l (p : Int) (q : Int) = some (next l p q) := by
 obtain ⟨g1, g2, g3⟩ := graph_small h
 unfold spec_l03Next.f next
 rw [specEnds h hp, specEnds h hq, Option.bind_some, Option.bind_some, half p (by omega), half q (by omega)]
 by_cases c : hd l p = tl l q
 ·rw [if_pos c, decide_eq_true c, Bool.true_and]
  unfold inv
  by_cases c2 : ((p / 2 : Nat) : Int) = ((q / 2 : Nat) : Int)
  ·rw [if_pos c2]
   by_cases c3 : p = q
   ·rw [c3]
    simp
    split <;> omega
   ·rw [show ((p : Int) == (q : Int)) = false from beq_eq_false_iff_ne.2 (by omega)]
    congr 1
    symm
    rw [decide_eq_false_iff_not, Decidable.not_not]
    split <;> omega
  ·rw [if_neg c2]
   congr 1
   symm
   rw [decide_eq_true_iff]
   split <;> omega
 ·rw [if_neg c, decide_eq_false c, Bool.false_and]
section
variable {n : Int} {l : List (List Int)} (h : isGraph n l = true)

/-- The next row, told from the places before r, and up to q from place r. -/
def vrow (l : List (List Int)) (N : Nat) (v : Nat → Int) (r q : Nat) : List Int := rowOf N (fun j => if j < q then Sm (r + 1) (fun m => v m * W l m j) else Sm r (fun m => v m * W l m j))

theorem vrow_length (N : Nat) (v : Nat → Int) (r q : Nat) : (vrow l N v r q).length = N := rowOf_length _ _

theorem vrow_next (N : Nat) (v : Nat → Int) (r : Nat) : vrow l N v r N = vrow l N v (r + 1) 0 := by
 refine rowOf_congr (fun j hj => ?_)
 rw [if_pos hj, if_neg (by omega)]

theorem vrow_skip (N : Nat) (v : Nat → Int) (r : Nat) (h0 : v r = 0) : vrow l N v r 0 = vrow l N v (r + 1) 0 := by
 refine rowOf_congr (fun j hj => ?_)
 rw [if_neg (by omega), if_neg (by omega)]
 show _ = Sm r _ + v r * W l r j
 rw [h0, Int.zero_mul, Int.add_zero]

theorem vrow_rd (N : Nat) (v : Nat → Int) (r q : Nat) (hq : q < N) : rd (vrow l N v r q) (q : Int) = Sm r (fun m => v m * W l m q) := by
 unfold vrow
 rw [rowOf_rd _ hq, if_neg (by omega)]

theorem vrow_set (N : Nat) (v : Nat → Int) (r q : Nat) (hq : q < N) : (vrow l N v r q).set q (Sm (r + 1) (fun m => v m * W l m q)) = vrow l N v r (q + 1) := by
 unfold vrow
 rw [rowOf_set _ _ hq]
 refine rowOf_congr (fun j hj => ?_)
 by_cases e : j = q
 ·subst e
  rw [if_pos rfl, if_pos (by omega)]
 ·rw [if_neg e]
  by_cases c : j < q
  ·rw [if_pos c, if_pos (by omega)]
  ·rw [if_neg c, if_neg (by omega)]

theorem vrow_none (N : Nat) (v : Nat → Int) (r q : Nat) (hc : ¬ next l r q = true) : vrow l N v r q = vrow l N v r (q + 1) := by
 refine rowOf_congr (fun j hj => ?_)
 by_cases e : j = q
 ·subst e
  rw [if_neg (by omega), if_pos (by omega)]
  show _ = Sm r _ + v r * W l r j
  unfold W
  rw [if_neg hc, Int.mul_zero, Int.add_zero]
 ·by_cases c : j < q
  ·rw [if_pos c, if_pos (by omega)]
  ·rw [if_neg c, if_neg (by omega)]

include h

theorem specStep (k : Int) (M : List (List Int)) (p : Int) (v : Nat → Int) (B : Int) (hB : B ≤ 100000000000000000) (hv : ∀ r, r < 2 * l.length → 0 ≤ v r ∧ v r ≤ B) (x9 : Int) (res : List (List Int)) (hr : Ev (fun f => spec_l03Rows.l1 f k (2 * (l.length : Int)) M p (vrow l (2 * l.length) v (2 * l.length) 0) (wrap64 (x9 + 1)) n l) res) :
  ∀ (d r : Nat), r + d = 2 * l.length → Ev (fun f => spec_l03Rows.l2 f k (2 * (l.length : Int)) M p (rowOf (2 * l.length) v) x9 (vrow l (2 * l.length) v r 0) (r : Int) n l) res := by
 obtain ⟨g1, g2, g3⟩ := graph_small h
 have hlen : (rowOf (2 * l.length) v).length = 2 * l.length := rowOf_length _ _
 intro d
 induction d with
 | zero =>
  intro r hr'
  have e : r = 2 * l.length := by omega
  subst e
  refine Ev.succ ?_; simp only [spec_l03Rows.l2]
  repeat (first | with_reducible exact Ev.now _ | dsimp only | refine Ev.pos (by first | omega | rfl | assumption | decide) ?_ | refine Ev.neg (by first | omega | assumption | exact Bool.false_ne_true | exact fun e => absurd e (by decide)) ?_ | simp only [bne_self_eq_false, Bool.not_true, Bool.not_false, List.length_cons, List.length_nil] | rw [wrap_id (by omega) (by omega)] | ((with_reducible refine Ev.eq (congrArg some ?_)); rfl))
  exact hr
 | succ d ih =>
  intro r hr'
  have h1 := ih (r + 1) (by omega)
  have hvr := hv r (by omega)
  have erd : rd (rowOf (2 * l.length) v) (r : Int) = v r := rowOf_rd _ (by omega)
  have hsum : ∀ j, 0 ≤ Sm r (fun m => v m * W l m j) ∧ Sm r (fun m => v m * W l m j) ≤ 2000000000000000000 := fun j => by
   refine ⟨Sm_nonneg (fun m hm => Int.mul_nonneg (hv m (by omega)).1 (W_range l m j).1), ?_⟩
   have : Sm r (fun m => v m * W l m j) ≤ r * 100000000000000000 := Sm_le (fun m hm => by
    have h1 := hv m (by omega)
    have h2 := W_range l m j
    have : v m * W l m j ≤ v m * 1 := Int.mul_le_mul_of_nonneg_left h2.2 h1.1
    omega)
   omega
  have inner : ∀ (d q : Nat), 0 < v r → q + d = 2 * l.length → Ev (fun f => spec_l03Rows.l3 f k (2 * (l.length : Int)) M p (rowOf (2 * l.length) v) x9 (vrow l (2 * l.length) v r q) (r : Int) (q : Int) n l) res := by
   intro d
   induction d with
   | zero =>
    intro q hpos hq
    have e : q = 2 * l.length := by omega
    subst e
    refine Ev.succ ?_; simp only [spec_l03Rows.l3]
    refine Ev.neg (by omega) ?_
    refine Ev.succ ?_; simp only [spec_l03Rows.j4]
    rw [wrap_succ (i := r) (by omega), vrow_next]
    repeat (first | with_reducible exact Ev.now _ | dsimp only | refine Ev.pos (by first | omega | rfl | assumption | decide) ?_ | refine Ev.neg (by first | omega | assumption | exact Bool.false_ne_true | exact fun e => absurd e (by decide)) ?_ | simp only [bne_self_eq_false, Bool.not_true, Bool.not_false, List.length_cons, List.length_nil] | rw [wrap_id (by omega) (by omega)] | ((with_reducible refine Ev.eq (congrArg some ?_)); rfl))
    exact h1
   | succ d ih2 =>
    intro q hpos hq
    have h2 := ih2 (q + 1) hpos (by omega)
    have hn := specNext h (show r < 2 * l.length by omega) (show q < 2 * l.length by omega)
    have hvl := vrow_length (l := l) (2 * l.length) v r q
    refine Ev.succ ?_; simp only [spec_l03Rows.l3]
    rw [erd, decide_eq_true (show v r > 0 from hpos)]
    repeat (first | with_reducible exact Ev.now _ | dsimp only | refine Ev.pos (by first | omega | rfl | assumption | decide) ?_ | refine Ev.neg (by first | omega | assumption | exact Bool.false_ne_true | exact fun e => absurd e (by decide)) ?_ | simp only [bne_self_eq_false, Bool.not_true, Bool.not_false, List.length_cons, List.length_nil] | rw [wrap_id (by omega) (by omega)] | ((with_reducible refine Ev.eq (congrArg some ?_)); rfl))
    refine Ev.succ ?_; simp only [spec_l03Rows.j4]
    rw [erd, wrap_succ (i := q) (by omega), vrow_rd _ _ _ _ (by omega)]
    by_cases c : next l r q = true
    ·have hs := hsum q
     have e1 : Sm (r + 1) (fun m => v m * W l m q) = Sm r (fun m => v m * W l m q) + v r := by
      show Sm r _ + v r * W l r q = _
      unfold W
      rw [if_pos c, Int.mul_one]
     rw [wrap_id (x := Sm r (fun m => v m * W l m q) + v r) (by omega) (by omega), ← e1, Int.toNat_natCast, vrow_set _ _ _ _ (by omega)]
     rw [c] at hn
     repeat (first | with_reducible exact Ev.now _ | dsimp only | with_reducible refine Ev.bind (Ev.eq hn) ?_ | refine Ev.pos (by first | omega | rfl | assumption | decide) ?_ | refine Ev.neg (by first | omega | assumption | exact Bool.false_ne_true | exact fun e => absurd e (by decide)) ?_ | simp only [bne_self_eq_false, Bool.not_true, Bool.not_false, List.length_cons, List.length_nil] | rw [wrap_id (by omega) (by omega)] | with_reducible exact (Ev.eq hn) | ((with_reducible refine Ev.eq (congrArg some ?_)); rfl))
     exact h2
    ·have hn' := hn
     rw [Bool.not_eq_true] at c
     rw [c] at hn'
     rw [← vrow_none (l := l) _ v r q (by rw [c]; decide)] at h2
     repeat (first | with_reducible exact Ev.now _ | dsimp only | with_reducible refine Ev.bind (Ev.eq hn') ?_ | refine Ev.pos (by first | omega | rfl | assumption | decide) ?_ | refine Ev.neg (by first | omega | assumption | exact Bool.false_ne_true | exact fun e => absurd e (by decide)) ?_ | simp only [bne_self_eq_false, Bool.not_true, Bool.not_false, List.length_cons, List.length_nil] | rw [wrap_id (by omega) (by omega)] | with_reducible exact (Ev.eq hn') | ((with_reducible refine Ev.eq (congrArg some ?_)); rfl))
     exact h2
  refine Ev.succ ?_; simp only [spec_l03Rows.l2]
  refine Ev.pos (by omega) ?_
  by_cases c : 0 < v r
  ·exact inner (2 * l.length) 0 c (by omega)
  ·rw [← vrow_skip _ v r (by omega)] at h1
   refine Ev.succ ?_; simp only [spec_l03Rows.l3]
   rw [erd, decide_eq_false (show ¬ v r > 0 by omega)]
   refine Ev.pos (by omega) ?_
   refine Ev.pos (by omega) ?_
   refine Ev.pos (by omega) ?_
   refine Ev.succ ?_; simp only [spec_l03Rows.j4]
   rw [wrap_succ (i := r) (by omega)]
   repeat (first | with_reducible exact Ev.now _ | dsimp only | refine Ev.pos (by first | omega | rfl | assumption | decide) ?_ | refine Ev.neg (by first | omega | assumption | exact Bool.false_ne_true | exact fun e => absurd e (by decide)) ?_ | simp only [bne_self_eq_false, Bool.not_true, Bool.not_false, List.length_cons, List.length_nil] | rw [wrap_id (by omega) (by omega)] | ((with_reducible refine Ev.eq (congrArg some ?_)); rfl))
   exact h1

/-- The rows of the power k - 1. -/
theorem specRowsOf (k : Nat) (hk : 1 ≤ k ∧ k ≤ 12) : Ev (fun f => spec_l03Rows.f f n l (k : Int)) (ofFn (2 * l.length) (fun p => vec l (2 * l.length) p (k - 1))) := by
 obtain ⟨g1, g2, g3⟩ := graph_small h
 have steps : ∀ (M : List (List Int)) (p : Nat) (res : List (List Int)), M.length ≤ 20 → p < 2 * l.length → Ev (fun f => spec_l03Rows.l0 f (k : Int) (2 * (l.length : Int)) (M ++ [rowOf (2 * l.length) (vec l (2 * l.length) p (k - 1))]) ((p + 1 : Nat) : Int) n l) res →
   ∀ (d j : Nat), j + 1 + d = k → Ev (fun f => spec_l03Rows.l1 f (k : Int) (2 * (l.length : Int)) M (p : Int) (rowOf (2 * l.length) (vec l (2 * l.length) p j)) ((j + 1 : Nat) : Int) n l) res := by
  intro M p res hM hp hres d
  induction d with
  | zero =>
   intro j hj
   have e : j = k - 1 := by omega
   subst e
   refine Ev.succ ?_; simp only [spec_l03Rows.l1]
   rw [wrap_succ (i := p) (by omega)]
   repeat (first | with_reducible exact Ev.now _ | dsimp only | refine Ev.pos (by first | omega | rfl | assumption | decide) ?_ | refine Ev.neg (by first | omega | assumption | exact Bool.false_ne_true | exact fun e => absurd e (by decide)) ?_ | simp only [bne_self_eq_false, Bool.not_true, Bool.not_false, List.length_cons, List.length_nil] | rw [wrap_id (by omega) (by omega)] | ((with_reducible refine Ev.eq (congrArg some ?_)); rfl))
   exact hres
  | succ d ih =>
   intro j hj
   have h1 := ih (j + 1) (by omega)
   have hb := fun r (_ : r < 2 * l.length) => vec_range l (2 * l.length) p (by omega) j r
   have hB := pow20 (show j ≤ 13 by omega)
   refine Ev.succ ?_; simp only [spec_l03Rows.l1]
   rw [show (2 * (l.length : Int)).toNat = 2 * l.length by omega, ← rowOf_zero]
   repeat (first | with_reducible exact Ev.now _ | dsimp only | refine Ev.pos (by first | omega | rfl | assumption | decide) ?_ | refine Ev.neg (by first | omega | assumption | exact Bool.false_ne_true | exact fun e => absurd e (by decide)) ?_ | simp only [bne_self_eq_false, Bool.not_true, Bool.not_false, List.length_cons, List.length_nil] | rw [wrap_id (by omega) (by omega)] | ((with_reducible refine Ev.eq (congrArg some ?_)); rfl))
   refine specStep h (k : Int) M (p : Int) (vec l (2 * l.length) p j) (20 ^ j) (by omega) hb _ _ ?_ (2 * l.length) 0 (by omega)
   rw [wrap_succ (by omega)]
   have e : vrow l (2 * l.length) (vec l (2 * l.length) p j) (2 * l.length) 0 = rowOf (2 * l.length) (vec l (2 * l.length) p (j + 1)) := rowOf_congr (fun q hq => if_neg (by omega))
   rw [e]
   exact h1
 have main : ∀ (d p : Nat), p + d = 2 * l.length → Ev (fun f => spec_l03Rows.l0 f (k : Int) (2 * (l.length : Int)) ((List.range p).map (fun p => rowOf (2 * l.length) (vec l (2 * l.length) p (k - 1)))) (p : Int) n l) (ofFn (2 * l.length) (fun p => vec l (2 * l.length) p (k - 1))) := by
  intro d
  induction d with
  | zero =>
   intro p hp
   have e : p = 2 * l.length := by omega
   subst e
   refine Ev.succ ?_; simp only [spec_l03Rows.l0]
   refine Ev.neg (by omega) ?_
   exact Ev.now _
  | succ d ih =>
   intro p hp
   have h1 := ih (p + 1) (by omega)
   rw [map_range_succ] at h1
   have h2 := steps _ p _ (by simp; omega) (by omega) h1 (k - 1) 0 (by omega)
   refine Ev.succ ?_; simp only [spec_l03Rows.l0]
   rw [show (2 * (l.length : Int)).toNat = 2 * l.length by omega, ← rowOf_zero, Int.toNat_natCast]
   have hl : (rowOf (2 * l.length) (fun _ => 0)).length = 2 * l.length := rowOf_length _ _
   repeat (first | with_reducible exact Ev.now _ | dsimp only | with_reducible refine Ev.bind (Ev.now _) ?_ | refine Ev.pos (by first | omega | rfl | assumption | decide) ?_ | refine Ev.neg (by first | omega | assumption | exact Bool.false_ne_true | exact fun e => absurd e (by decide)) ?_ | simp only [bne_self_eq_false, Bool.not_true, Bool.not_false, List.length_cons, List.length_nil] | rw [wrap_id (by omega) (by omega)] | with_reducible exact (Ev.now _) | ((with_reducible refine Ev.eq (congrArg some ?_)); rfl))
   rw [rowOf_set _ _ (by omega)]
   have e : rowOf (2 * l.length) (fun j => if j = p then 1 else 0) = rowOf (2 * l.length) (vec l (2 * l.length) p 0) := rfl
   rw [e]
   exact h2
 unfold spec_l03Rows.f
 rw [wrap_id (x := 2 * (l.length : Int)) (by omega) (by omega)]
 exact main (2 * l.length) 0 (by omega)

end
section
variable {n : Int} {l : List (List Int)} (h : isGraph n l = true)
include h

theorem specCount (k : Nat) (hk : 1 ≤ k ∧ k ≤ 12) : Ev (fun f => spec_l03Count.f f n l (k : Int)) (closedN l (k - 1)) := by
 obtain ⟨g1, g2, g3⟩ := graph_small h
 obtain ⟨N, hN⟩ : ∃ N, N = 2 * l.length := ⟨_, rfl⟩
 obtain ⟨R, hR⟩ : ∃ R, R = ofFn N (fun p => vec l N p (k - 1)) := ⟨_, rfl⟩
 have hRl : R.length = N := by rw [hR, ofFn_length]
 have hRr : ∀ p, p < N → (rd_L1 R (p : Int)).length = N := fun p hp => by rw [hR, ofFn_row _ hp, rowOf_length]
 have hRd : ∀ p q, p < N → q < N → rd (rd_L1 R (p : Int)) (q : Int) = vec l N p (k - 1) q := fun p q hp hq => by rw [hR, ofFn_row _ hp, rowOf_rd _ hq]
 have ek : k - 1 + 1 = k := by omega
 have hT : closedN l (k - 1) = Sm N (fun p => vec l N p k p) := by
  unfold closedN tr
  rw [← hN]
  refine Sm_congr (fun p hp => ?_)
  rw [← vec_pw l N hp, ek]
 have hvk : ∀ p q, vec l N p k q = Sm N (fun r => vec l N p (k - 1) r * W l r q) := fun p q => by
  conv => lhs; rw [← ek]
  rfl
 have b1 : ∀ p q, 0 ≤ vec l N p (k - 1) q ∧ vec l N p (k - 1) q ≤ 20480000000000000 := fun p q => by
  have h1 := vec_range l N p (by omega) (k - 1) q
  have : ∀ i : Fin 12, (20 : Int) ^ i.val ≤ 20480000000000000 := by decide
  have h2 := this ⟨k - 1, by omega⟩
  simp only at h2
  omega
 have b2 : ∀ p q m, m ≤ N → 0 ≤ Sm m (fun r => vec l N p (k - 1) r * W l r q) ∧ Sm m (fun r => vec l N p (k - 1) r * W l r q) ≤ 409600000000000000 := fun p q m hm => by
  refine ⟨Sm_nonneg (fun r _ => Int.mul_nonneg (b1 p r).1 (W_range l r q).1), ?_⟩
  have : Sm m (fun r => vec l N p (k - 1) r * W l r q) ≤ m * 20480000000000000 := Sm_le (fun r _ => by
   have h1 := b1 p r
   have h2 := W_range l r q
   have : vec l N p (k - 1) r * W l r q ≤ vec l N p (k - 1) r * 1 := Int.mul_le_mul_of_nonneg_left h2.2 h1.1
   omega)
  omega
 have b3 : ∀ m, m ≤ N → 0 ≤ Sm m (fun p => vec l N p k p) ∧ Sm m (fun p => vec l N p k p) ≤ 8192000000000000000 := fun m hm => by
  refine ⟨Sm_nonneg (fun p _ => by rw [hvk]; exact (b2 p p N (Nat.le_refl _)).1), ?_⟩
  have : Sm m (fun p => vec l N p k p) ≤ m * 409600000000000000 := Sm_le (fun p _ => by rw [hvk]; exact (b2 p p N (Nat.le_refl _)).2)
  omega
 have inner : ∀ (p : Nat) (hp : p < N) (res : Int), Ev (fun f => spec_l03Count.l0 f R (Sm (p + 1) (fun p => vec l N p k p)) ((p + 1 : Nat) : Int) n l) res →
   ∀ (d q : Nat), q + d = N → Ev (fun f => spec_l03Count.l1 f R (Sm p (fun p => vec l N p k p) + Sm q (fun r => vec l N p (k - 1) r * W l r p)) (p : Int) (q : Int) n l) res := by
  intro p hp res hres d
  induction d with
  | zero =>
   intro q hq
   have e : q = N := by omega
   subst e
   refine Ev.succ ?_; simp only [spec_l03Count.l1]
   rw [wrap_succ (i := p) (by omega), ← hvk]
   refine Ev.neg (by omega) ?_
   exact hres
  | succ d ih =>
   intro q hq
   have h1 := ih (q + 1) (by omega)
   rw [show Sm (q + 1) (fun r => vec l N p (k - 1) r * W l r p) = Sm q (fun r => vec l N p (k - 1) r * W l r p) + vec l N p (k - 1) q * W l q p from rfl] at h1
   have hn := specNext h (show q < 2 * l.length by omega) (show p < 2 * l.length by omega)
   have c1 := b1 p q
   have c2 := b2 p p q (by omega)
   have c3 := b3 p (by omega)
   have hl := hRr p hp
   refine Ev.succ ?_; simp only [spec_l03Count.l1]
   rw [hRd p q hp (by omega), wrap_succ (i := q) (by omega)]
   by_cases c : vec l N p (k - 1) q > 0
   ·by_cases cn : next l q p = true
    ·rw [show W l q p = 1 from if_pos cn, Int.mul_one, ← Int.add_assoc] at h1
     rw [cn] at hn
     have c4 := b3 (p + 1) (by omega)
     have c5 := b2 p p (q + 1) (by omega)
     rw [show Sm (q + 1) (fun r => vec l N p (k - 1) r * W l r p) = Sm q (fun r => vec l N p (k - 1) r * W l r p) + vec l N p (k - 1) q * W l q p from rfl, show W l q p = 1 from if_pos cn, Int.mul_one] at c5
     rw [wrap_id (x := Sm p (fun p => vec l N p k p) + Sm q (fun r => vec l N p (k - 1) r * W l r p) + vec l N p (k - 1) q) (by omega) (by omega)]
     repeat (first | with_reducible exact Ev.now _ | dsimp only | with_reducible refine Ev.bind (Ev.eq hn) ?_ | refine Ev.pos (by first | omega | rfl | assumption | decide) ?_ | refine Ev.neg (by first | omega | assumption | exact Bool.false_ne_true | exact fun e => absurd e (by decide)) ?_ | simp only [bne_self_eq_false, Bool.not_true, Bool.not_false, List.length_cons, List.length_nil] | rw [wrap_id (by omega) (by omega)] | with_reducible exact (Ev.eq hn) | ((with_reducible refine Ev.eq (congrArg some ?_)); rfl))
     exact h1
    ·rw [show W l q p = 0 from if_neg cn, Int.mul_zero, Int.add_zero] at h1
     rw [Bool.not_eq_true] at cn
     rw [cn] at hn
     repeat (first | with_reducible exact Ev.now _ | dsimp only | with_reducible refine Ev.bind (Ev.eq hn) ?_ | refine Ev.pos (by first | omega | rfl | assumption | decide) ?_ | refine Ev.neg (by first | omega | assumption | exact Bool.false_ne_true | exact fun e => absurd e (by decide)) ?_ | simp only [bne_self_eq_false, Bool.not_true, Bool.not_false, List.length_cons, List.length_nil] | rw [wrap_id (by omega) (by omega)] | with_reducible exact (Ev.eq hn) | ((with_reducible refine Ev.eq (congrArg some ?_)); rfl))
     exact h1
   ·rw [show vec l N p (k - 1) q = 0 by omega, Int.zero_mul, Int.add_zero] at h1
    repeat (first | with_reducible exact Ev.now _ | dsimp only | refine Ev.pos (by first | omega | rfl | assumption | decide) ?_ | refine Ev.neg (by first | omega | assumption | exact Bool.false_ne_true | exact fun e => absurd e (by decide)) ?_ | simp only [bne_self_eq_false, Bool.not_true, Bool.not_false, List.length_cons, List.length_nil] | rw [wrap_id (by omega) (by omega)] | ((with_reducible refine Ev.eq (congrArg some ?_)); rfl))
    exact h1
 have outer : ∀ (d p : Nat), p + d = N → Ev (fun f => spec_l03Count.l0 f R (Sm p (fun p => vec l N p k p)) (p : Int) n l) (closedN l (k - 1)) := by
  intro d
  induction d with
  | zero =>
   intro p hp
   have e : p = N := by omega
   refine Ev.succ ?_; simp only [spec_l03Count.l0]
   rw [hT, e]
   refine Ev.neg (by omega) ?_
   exact Ev.now _
  | succ d ih =>
   intro p hp
   have h1 := inner p (by omega) _ (ih (p + 1) (by omega)) N 0 (by omega)
   rw [show Sm 0 (fun r => vec l N p (k - 1) r * W l r p) = 0 from rfl, Int.add_zero] at h1
   refine Ev.succ ?_; simp only [spec_l03Count.l0]
   refine Ev.pos (by omega) ?_
   exact h1
 unfold spec_l03Count.f
 refine Ev.bind (specRowsOf h k hk) ?_
 rw [← hN, ← hR]
 exact outer N 0 (by omega)

end
/-- 1: no graph; 2: no length from lo to 12; 0: both are well. -/
def codeL (n : Int) (l : List (List Int)) (a lo : Int) : Int := if isGraph n l = true then (if lo ≤ a ∧ a ≤ 12 then 0 else 2) else 1

theorem specLength (n : Int) (l : List (List Int)) (a lo : Int) (hl : Mod l) : Ev (fun k => spec_l03Length.f k n l a lo) (codeL n l a lo) := by
 have h1 := specIs n l hl
 have hc := specIn a lo 12
 unfold spec_l03Length.f codeL
 by_cases hg : isGraph n l = true
 ·rw [hg] at h1
  rw [if_pos hg]
  by_cases c : lo ≤ a ∧ a ≤ 12
  ·rw [decide_eq_true c] at hc
   rw [if_pos c]
   repeat (first | with_reducible exact Ev.now _ | dsimp only | with_reducible refine Ev.bind (h1) ?_ | with_reducible refine Ev.bind (Ev.eq hc) ?_ | refine Ev.pos (by first | omega | rfl | assumption | decide) ?_ | refine Ev.neg (by first | omega | assumption | exact Bool.false_ne_true | exact fun e => absurd e (by decide)) ?_ | simp only [bne_self_eq_false, Bool.not_true, Bool.not_false, List.length_cons, List.length_nil] | rw [wrap_id (by omega) (by omega)] | with_reducible exact (h1) | with_reducible exact (Ev.eq hc) | ((with_reducible refine Ev.eq (congrArg some ?_)); rfl))
  ·rw [decide_eq_false c] at hc
   rw [if_neg c]
   repeat (first | with_reducible exact Ev.now _ | dsimp only | with_reducible refine Ev.bind (h1) ?_ | with_reducible refine Ev.bind (Ev.eq hc) ?_ | refine Ev.pos (by first | omega | rfl | assumption | decide) ?_ | refine Ev.neg (by first | omega | assumption | exact Bool.false_ne_true | exact fun e => absurd e (by decide)) ?_ | simp only [bne_self_eq_false, Bool.not_true, Bool.not_false, List.length_cons, List.length_nil] | rw [wrap_id (by omega) (by omega)] | with_reducible exact (h1) | with_reducible exact (Ev.eq hc) | ((with_reducible refine Ev.eq (congrArg some ?_)); rfl))
 ·rw [Bool.not_eq_true] at hg
  rw [hg] at h1
  rw [if_neg (by rw [hg]; decide)]
  repeat (first | with_reducible exact Ev.now _ | dsimp only | with_reducible refine Ev.bind (h1) ?_ | refine Ev.pos (by first | omega | rfl | assumption | decide) ?_ | refine Ev.neg (by first | omega | assumption | exact Bool.false_ne_true | exact fun e => absurd e (by decide)) ?_ | simp only [bne_self_eq_false, Bool.not_true, Bool.not_false, List.length_cons, List.length_nil] | rw [wrap_id (by omega) (by omega)] | with_reducible exact (h1) | ((with_reducible refine Ev.eq (congrArg some ?_)); rfl))

theorem codeL_zero {n : Int} {l : List (List Int)} {a lo : Int} (h : codeL n l a lo = 0) : isGraph n l = true ∧ lo ≤ a ∧ a ≤ 12 := by
 unfold codeL at h
 by_cases hg : isGraph n l = true
 ·rw [if_pos hg] at h
  by_cases c : lo ≤ a ∧ a ≤ 12
  ·exact ⟨hg, c⟩
  ·rw [if_neg c] at h
   cases h
 ·rw [if_neg hg] at h
  cases h

theorem wrap_q (x : Int) : ∃ q : Int, wrap64 x = x + 18446744073709551616 * q := ⟨-((x + 9223372036854775808) / 18446744073709551616), by unfold wrap64; omega⟩

theorem wrap_of_q (x q : Int) : wrap64 (x + 18446744073709551616 * q) = wrap64 x := by unfold wrap64; omega

theorem wrap_wrap (x : Int) : wrap64 (wrap64 x) = wrap64 x := by unfold wrap64; omega

theorem wrap_mul_right (x y : Int) : wrap64 (x * wrap64 y) = wrap64 (x * y) := by
 obtain ⟨q, hq⟩ := wrap_q y
 rw [hq, Int.mul_add, Int.mul_left_comm, wrap_of_q]

theorem wrap_neg (a : Int) : wrap64 (-wrap64 a) = wrap64 (-a) := by
 unfold wrap64
 omega

theorem wrap_add_congr {a a' b b' : Int} (h : wrap64 a = wrap64 a') (h' : wrap64 b = wrap64 b') : wrap64 (a + b) = wrap64 (a' + b') := by
 rw [← wrap_add_wrap, h, h', wrap_add_wrap]

theorem wrap_Sm {n : Nat} {f g : Nat → Int} (h : ∀ i, i < n → wrap64 (f i) = wrap64 (g i)) : wrap64 (Sm n f) = wrap64 (Sm n g) := by
 induction n with
 | zero => rfl
 | succ n ih =>
  unfold Sm
  exact wrap_add_congr (ih (fun i hi => h i (by omega))) (h n (by omega))

def mu : Nat → Int
 | 1 => 1 | 2 => -1 | 3 => -1 | 4 => 0 | 5 => -1 | 6 => 1 | 7 => -1 | 8 => 0 | 9 => 0 | 10 => 1 | 11 => -1 | _ => 0

theorem specMu (n : Nat) (h : 1 ≤ n ∧ n ≤ 12) : Ev (fun k => spec_l03Moebius.f k (n : Int)) (mu n) := by
 have : ∀ i : Fin 13, 1 ≤ i.val → spec_l03Moebius.f 20 (i.val : Int) = some (mu i.val) := by decide +kernel
 exact Ev.of (spec_l03Moebius.mono _) (this ⟨n, by omega⟩ h.1)

/-- The sum over the divisors up to j. -/
def prS (l : List (List Int)) (m j : Nat) : Int := Sm j (fun t => if m % (t + 1) = 0 then mu (m / (t + 1)) * closedN l t else 0)

def primeN (l : List (List Int)) (m : Nat) : Int := wrap64 (Int.tdiv (wrap64 (prS l m m)) m)

theorem div_of (m d : Nat) (hd : 0 < d) (hm : m ≤ 1000) : wrap64 (Int.tdiv (m : Int) (d : Int)) = ((m / d : Nat) : Int) := by
 rw [Int.tdiv_eq_ediv_of_nonneg (by omega), ← Int.natCast_ediv]
 have := Nat.div_le_self m d
 generalize m / d = q at *
 exact wrap_id (by omega) (by omega)

theorem mod_of (m d : Nat) : Int.tmod (m : Int) (d : Int) = ((m % d : Nat) : Int) := by
 rw [Int.tmod_eq_emod_of_nonneg (by omega)]
 rfl

theorem prS_hit (l : List (List Int)) (m j : Nat) (h : m % (j + 1) = 0) : wrap64 (wrap64 (prS l m j) + wrap64 (mu (m / (j + 1)) * closedN l j)) = wrap64 (prS l m (j + 1)) := by
 rw [wrap_add_wrap]
 show _ = wrap64 (prS l m j + if m % (j + 1) = 0 then _ else 0)
 rw [if_pos h]

theorem prS_miss (l : List (List Int)) (m j : Nat) (h : ¬ m % (j + 1) = 0) : prS l m (j + 1) = prS l m j := by
 show prS l m j + (if m % (j + 1) = 0 then _ else 0) = _
 rw [if_neg h, Int.add_zero]

theorem quot_range (m j : Nat) (hm : 1 ≤ m ∧ m ≤ 12) (hj : j < m) : 1 ≤ m / (j + 1) ∧ m / (j + 1) ≤ 12 := by
 refine ⟨(Nat.le_div_iff_mul_le (by omega)).2 (by omega), Nat.le_trans (Nat.div_le_self _ _) hm.2⟩

section
variable {n : Int} {l : List (List Int)} (h : isGraph n l = true)
include h

theorem specPrimes (m : Nat) (hm : 1 ≤ m ∧ m ≤ 12) : Ev (fun f => spec_l03Primes.f f n l (m : Int)) (primeN l m) := by
 have main : ∀ (d j : Nat), j + d = m → Ev (fun f => spec_l03Primes.l0 f (m : Int) (wrap64 (prS l m j)) ((j + 1 : Nat) : Int) n l) (primeN l m) := by
  intro d
  induction d with
  | zero =>
   intro j hj
   obtain rfl : j = m := by omega
   refine Ev.succ ?_; simp only [spec_l03Primes.l0]
   exact Ev.neg (by omega) (Ev.neg (by omega) (Ev.now _))
  | succ d ih =>
   intro j hj
   have h1 := ih (j + 1) (by omega)
   have hq := quot_range m j hm (by omega)
   refine Ev.succ ?_; simp only [spec_l03Primes.l0]
   rw [div_of m (j + 1) (by omega) (by omega), mod_of, wrap_succ (i := j + 1) (by omega)]
   refine Ev.pos (by omega) (Ev.neg (by omega) ?_)
   by_cases c : m % (j + 1) = 0
   ·have hc := specCount h (j + 1) ⟨by omega, by omega⟩
    rw [Nat.add_sub_cancel] at hc
    rw [← prS_hit l m j c] at h1
    exact Ev.pos (by omega) (Ev.bind (specMu _ hq) (Ev.bind hc h1))
   ·rw [prS_miss l m j c] at h1
    exact Ev.neg (by omega) h1
 have h0 := main m 0 (by omega)
 rw [show wrap64 (prS l m 0) = 0 from wrap_id (x := 0) (by decide) (by decide)] at h0
 unfold spec_l03Primes.f
 exact h0

end

/-- The first i numbers without zeros at the end. -/
def trimN (l : List Int) : Nat → List Int
 | 0 => []
 | i + 1 => if rd l (i : Int) = 0 then trimN l i else l.take (i + 1)

theorem implTrim_loop (l : List Int) (hl : l.length ≤ 1048576) : ∀ (i : Nat), i ≤ l.length → Ev (fun k => impl_trimmed.l0 k (l.take i)) (trimN l i) := by
 intro i
 have hc : ∀ x : List Int, x.length ≤ 1048576 → slices_Clone_int64_int64.f x = some x := fun x hx => if_pos (by omega)
 induction i with
 | zero =>
  intro hi
  refine Ev.succ ?_; simp only [impl_trimmed.l0]
  rw [List.take_zero]
  repeat (first | with_reducible exact Ev.now _ | dsimp only | with_reducible refine Ev.bind (Ev.eq (hc _ (by simp))) ?_ | refine Ev.pos (by first | omega | rfl | assumption | decide) ?_ | refine Ev.neg (by first | omega | assumption | exact Bool.false_ne_true | exact fun e => absurd e (by decide)) ?_ | simp only [bne_self_eq_false, Bool.not_true, Bool.not_false, List.length_cons, List.length_nil] | rw [wrap_id (by omega) (by omega)] | with_reducible exact (Ev.eq (hc _ (by simp))) | ((with_reducible refine Ev.eq (congrArg some ?_)); rfl))
 | succ i ih =>
  intro hi
  refine Ev.succ ?_; simp only [impl_trimmed.l0]
  have e : (l.take (i + 1)).length = i + 1 := by simp only [List.length_take]; omega
  rw [e, wrap_id (by omega) (by omega), show ((i + 1 : Nat) : Int) - 1 = i by omega]
  have e2 : rd (l.take (i + 1)) (i : Int) = rd l (i : Int) := by rw [rd_lt (by omega), rd_lt (by omega), List.getElem_take]
  have e3 : (l.take (i + 1)).take i = l.take i := by rw [List.take_take, Nat.min_eq_left (by omega)]
  rw [e2, show ((i : Int)).toNat = i from rfl, e3]
  unfold trimN
  by_cases h : rd l (i : Int) = 0
  ·rw [if_pos h]
   repeat (first | with_reducible exact Ev.now _ | dsimp only | refine Ev.pos (by first | omega | rfl | assumption | decide) ?_ | refine Ev.neg (by first | omega | assumption | exact Bool.false_ne_true | exact fun e => absurd e (by decide)) ?_ | simp only [bne_self_eq_false, Bool.not_true, Bool.not_false, List.length_cons, List.length_nil] | rw [wrap_id (by omega) (by omega)] | ((with_reducible refine Ev.eq (congrArg some ?_)); rfl))
   exact ih (by omega)
  ·rw [if_neg h]
   repeat (first | with_reducible exact Ev.now _ | dsimp only | with_reducible refine Ev.bind (Ev.eq (hc (l.take (i + 1)) (by omega))) ?_ | refine Ev.pos (by first | omega | rfl | assumption | decide) ?_ | refine Ev.neg (by first | omega | assumption | exact Bool.false_ne_true | exact fun e => absurd e (by decide)) ?_ | simp only [bne_self_eq_false, Bool.not_true, Bool.not_false, List.length_cons, List.length_nil] | rw [wrap_id (by omega) (by omega)] | with_reducible exact (Ev.eq (hc (l.take (i + 1)) (by omega))) | ((with_reducible refine Ev.eq (congrArg some ?_)); rfl))

theorem implTrim (l : List Int) (hl : l.length ≤ 1048576) : Ev (fun k => impl_trimmed.f k l) (trimN l l.length) := by
 unfold impl_trimmed.f
 have := implTrim_loop l hl _ (Nat.le_refl _)
 rw [List.take_length] at this
 exact this
def sg (j : Nat) : Int := if j % 2 = 0 then 1 else -1

theorem sg_succ (j : Nat) : sg (j + 1) = - sg j := by
 unfold sg
 split <;> split <;> omega

def minor (m : Nat → Nat → Int) (j : Nat) : Nat → Nat → Int := fun i k => m (i + 1) (if k < j then k else k + 1)

def det : Nat → (Nat → Nat → Int) → Int
 | 0, _ => 1
 | n + 1, m => Sm (n + 1) (fun j => sg j * m 0 j * det n (minor m j))

theorem det_congr : ∀ (n : Nat) (m m' : Nat → Nat → Int), (∀ i k, i < n → k < n → m i k = m' i k) → det n m = det n m' := by
 intro n
 induction n with
 | zero => intro m m' _; rfl
 | succ n ih =>
  intro m m' h
  unfold det
  refine Sm_congr (fun j hj => ?_)
  rw [h 0 j (by omega) hj, ih (minor m j) (minor m' j) (fun i k hi hk => ?_)]
  unfold minor
  split
  ·exact h _ _ (by omega) (by omega)
  ·exact h _ _ (by omega) (by omega)

/-- Column c becomes v. -/
def setc (m : Nat → Nat → Int) (c : Nat) (v : Nat → Int) : Nat → Nat → Int := fun i k => if k = c then v i else m i k

theorem setc_self (m : Nat → Nat → Int) (c : Nat) : setc m c (fun i => m i c) = m := by
 funext i k
 unfold setc
 split
 ·next h => rw [h]
 ·rfl

theorem setc_comm (m : Nat → Nat → Int) {c d : Nat} (h : c ≠ d) (v v' : Nat → Int) : setc (setc m c v) d v' = setc (setc m d v') c v := by
 funext i k
 unfold setc
 by_cases e : k = d
 ·rw [if_pos e, if_neg (by omega), if_pos e]
 ·rw [if_neg e]
  by_cases e2 : k = c
  ·rw [if_pos e2, if_pos e2]
  ·rw [if_neg e2, if_neg e2, if_neg e]

theorem minor_setc_eq (m : Nat → Nat → Int) (c : Nat) (v : Nat → Int) : minor (setc m c v) c = minor m c := by
 funext i k
 unfold minor setc
 rw [if_neg]
 split <;> omega

theorem minor_setc_ne (m : Nat → Nat → Int) {c j : Nat} (h : j ≠ c) (v : Nat → Int) : minor (setc m c v) j = setc (minor m j) (if c < j then c else c - 1) (fun i => v (i + 1)) := by
 funext i k
 unfold minor setc
 by_cases e : (if k < j then k else k + 1) = c
 ·rw [if_pos e, if_pos (show k = (if c < j then c else c - 1) by split at e <;> split <;> omega)]
 ·rw [if_neg e, if_neg (show ¬ k = (if c < j then c else c - 1) by split at e <;> split <;> omega)]

/-- Linear in a column. -/
theorem det_lin : ∀ (n : Nat) (m : Nat → Nat → Int) (c : Nat) (s t : Int) (x y : Nat → Int), c < n → det n (setc m c (fun i => s * x i + t * y i)) = s * det n (setc m c x) + t * det n (setc m c y) := by
 intro n
 induction n with
 | zero => intro m c s t x y h; omega
 | succ n ih =>
  intro m c s t x y hc
  unfold det
  rw [← Sm_mul_left, ← Sm_mul_left, ← Sm_add]
  refine Sm_congr (fun j hj => ?_)
  by_cases e : j = c
  ·subst e
   rw [minor_setc_eq, minor_setc_eq, minor_setc_eq]
   simp only [setc, if_pos]
   generalize det n (minor m j) = d
   generalize sg j = g
   rw [Int.mul_add, Int.add_mul]
   congr 1
   ·rw [← Int.mul_assoc, Int.mul_comm g s, Int.mul_assoc s g, Int.mul_assoc]
   ·rw [← Int.mul_assoc, Int.mul_comm g t, Int.mul_assoc t g, Int.mul_assoc]
  ·rw [minor_setc_ne m e, minor_setc_ne m e, minor_setc_ne m e, ih _ _ s t _ _ (by split <;> omega)]
   simp only [setc, if_neg e]
   generalize det n _ = d1
   generalize det n _ = d2
   generalize sg j * m 0 j = g
   rw [Int.mul_add, ← Int.mul_assoc, ← Int.mul_assoc, Int.mul_comm g s, Int.mul_comm g t, Int.mul_assoc, Int.mul_assoc]

theorem det_add (n : Nat) (m : Nat → Nat → Int) (c : Nat) (x y : Nat → Int) (hc : c < n) : det n (setc m c (fun i => x i + y i)) = det n (setc m c x) + det n (setc m c y) := by
 have := det_lin n m c 1 1 x y hc
 simp only [Int.one_mul] at this
 exact this

theorem det_zero_col (n : Nat) (m : Nat → Nat → Int) (c : Nat) (hc : c < n) : det n (setc m c (fun _ => 0)) = 0 := by
 have := det_lin n m c 0 0 (fun _ => 0) (fun _ => 0) hc
 simp only [Int.zero_mul, Int.add_zero] at this
 exact this

theorem Sm_two {n c : Nat} {f : Nat → Int} (hc : c + 1 < n) (h : ∀ i, i < n → i ≠ c → i ≠ c + 1 → f i = 0) : Sm n f = f c + f (c + 1) := by
 have z : ∀ k, k ≤ n → Sm k f = (if c < k then f c else 0) + (if c + 1 < k then f (c + 1) else 0) := by
  intro k
  induction k with
  | zero => intro _; rfl
  | succ k ih =>
   intro hk
   unfold Sm
   rw [ih (by omega)]
   by_cases e : k = c
   ·subst e
    rw [if_neg (by omega), if_neg (by omega), if_pos (by omega), if_neg (by omega)]
    omega
   ·by_cases e2 : k = c + 1
    ·subst e2
     rw [if_pos (by omega), if_neg (by omega), if_pos (by omega), if_pos (by omega)]
     omega
    ·rw [h k (by omega) e e2]
     by_cases c1 : c < k
     ·rw [if_pos c1, if_pos (show c < k + 1 by omega)]
      by_cases c2 : c + 1 < k
      ·rw [if_pos c2, if_pos (by omega)]; omega
      ·rw [if_neg c2, if_neg (by omega)]; omega
     ·rw [if_neg c1, if_neg (show ¬ c + 1 < k by omega), if_neg (show ¬ c < k + 1 by omega), if_neg (by omega)]; omega
 rw [z n (Nat.le_refl _), if_pos (by omega), if_pos (by omega)]

/-- Two like columns side by side. -/
theorem det_adjacent : ∀ (n : Nat) (m : Nat → Nat → Int) (c : Nat), c + 1 < n → (∀ i, m i c = m i (c + 1)) → det n m = 0 := by
 intro n
 induction n with
 | zero => intro m c h; omega
 | succ n ih =>
  intro m c hc h
  unfold det
  rw [Sm_two hc]
  ·have e : minor m c = minor m (c + 1) := by
    funext i k
    unfold minor
    by_cases e1 : k < c
    ·rw [if_pos e1, if_pos (by omega)]
    ·rw [if_neg e1]
     by_cases e2 : k = c
     ·subst e2
      rw [if_pos (by omega)]
      exact (h (i + 1)).symm
     ·rw [if_neg (by omega)]
   rw [e, ← h 0, sg_succ, Int.neg_mul, Int.neg_mul]
   omega
  ·intro j hj h1 h2
   rw [ih (minor m j) (if c + 1 < j then c else c - 1), Int.mul_zero]
   ·split <;> omega
   ·intro i
    unfold minor
    by_cases c1 : c + 1 < j
    ·rw [if_pos c1, if_pos (by omega), if_pos (by omega)]
     exact h (i + 1)
    ·rw [if_neg c1, if_neg (by omega), if_neg (by omega), show c - 1 + 1 = c by omega]
     exact h (i + 1)

/-- Two neighbours change places: the sign changes. -/
theorem det_swap (n : Nat) (m : Nat → Nat → Int) (c : Nat) (hc : c + 1 < n) (x y : Nat → Int) : det n (setc (setc m c x) (c + 1) y) = - det n (setc (setc m c y) (c + 1) x) := by
 have two : ∀ x, det n (setc (setc m c x) (c + 1) x) = 0 := fun x => det_adjacent n _ c hc (fun i => by
  unfold setc
  rw [if_neg (by omega), if_pos rfl, if_pos rfl])
 have h := two (fun i => x i + y i)
 rw [det_add n _ (c + 1) x y hc, setc_comm m (show c ≠ c + 1 by omega), setc_comm m (show c ≠ c + 1 by omega), det_add n _ c x y (by omega), det_add n _ c x y (by omega)] at h
 rw [setc_comm m (show c + 1 ≠ c by omega), setc_comm m (show c + 1 ≠ c by omega), setc_comm m (show c + 1 ≠ c by omega), setc_comm m (show c + 1 ≠ c by omega), two x, two y] at h
 omega

/-- Two like columns anywhere. -/
theorem det_like (n : Nat) : ∀ (d : Nat) (m : Nat → Nat → Int) (p : Nat), p + 1 + d < n → (∀ i, m i p = m i (p + 1 + d)) → det n m = 0 := by
 intro d
 induction d with
 | zero => intro m p hp h; exact det_adjacent n m p hp h
 | succ d ih =>
  intro m p hp h
  have hs := det_swap n m (p + 1 + d) (by omega) (fun i => m i (p + 1 + d)) (fun i => m i (p + 1 + d + 1))
  have e1 : setc (setc m (p + 1 + d) (fun i => m i (p + 1 + d))) (p + 1 + d + 1) (fun i => m i (p + 1 + d + 1)) = m := by
   rw [setc_self, setc_self]
  rw [e1] at hs
  rw [hs, ih _ p (by omega)]
  ·rfl
  ·intro i
   unfold setc
   rw [if_neg (by omega), if_neg (by omega), if_neg (by omega), if_pos rfl]
   exact h i

theorem det_same {n : Nat} {m : Nat → Nat → Int} {p q : Nat} (hp : p < n) (hq : q < n) (hne : p ≠ q) (h : ∀ i, m i p = m i q) : det n m = 0 := by
 rcases Nat.lt_or_gt_of_ne hne with c | c
 ·exact det_like n (q - p - 1) m p (by omega) (fun i => by rw [show p + 1 + (q - p - 1) = q by omega]; exact h i)
 ·exact det_like n (p - q - 1) m q (by omega) (fun i => by rw [show q + 1 + (p - q - 1) = p by omega]; exact (h i).symm)

/-- A column that is a sum. -/
theorem det_sum (n : Nat) (m : Nat → Nat → Int) (c : Nat) (hc : c < n) (t : Nat → Int) (w : Nat → Nat → Int) : ∀ k, det n (setc m c (fun r => Sm k (fun i => t i * w i r))) = Sm k (fun i => t i * det n (setc m c (w i))) := by
 intro k
 induction k with
 | zero => exact det_zero_col n m c hc
 | succ k ih =>
  have h := det_lin n m c 1 (t k) (fun r => Sm k (fun i => t i * w i r)) (w k) hc
  simp only [Int.one_mul] at h
  show det n (setc m c (fun r => Sm k (fun i => t i * w i r) + t k * w k r)) = _
  rw [h, ih]
  rfl

theorem Sm_pick' (N : Nat) (f : Nat → Int) {p : Nat} (hp : p < N) : Sm N (fun r => (if r = p then 1 else 0) * f r) = f p := by
 induction N with
 | zero => omega
 | succ N ih =>
  show Sm N (fun r => (if r = p then 1 else 0) * f r) + (if N = p then 1 else 0) * f N = f p
  by_cases e : p = N
  ·subst e
   rw [if_pos rfl, Int.one_mul]
   have : Sm p (fun r => (if r = p then 1 else 0) * f r) = Sm p (fun _ => 0) := Sm_congr (fun i hi => by rw [if_neg (by omega), Int.zero_mul])
   rw [this, Sm_zero, Int.zero_add]
  ·rw [ih (by omega), if_neg (by omega), Int.zero_mul, Int.add_zero]

def unit (i : Nat) : Nat → Int := fun r => if r = i then 1 else 0

def adj (n : Nat) (x : Nat → Nat → Int) (k i : Nat) : Int := det n (setc x k (unit i))

/-- Cramer: what the k-th row of the adjoint does to a column. -/
theorem adj_col (n : Nat) (x : Nat → Nat → Int) (k : Nat) (hk : k < n) (v : Nat → Int) : Sm n (fun i => adj n x k i * v i) = det n (setc x k v) := by
 have h := det_sum n x k hk v unit n
 have e : det n (setc x k (fun r => Sm n (fun i => v i * unit i r))) = det n (setc x k v) := by
  refine det_congr n _ _ (fun i j hi hj => ?_)
  unfold setc
  split
  ·have : Sm n (fun a => v a * unit a i) = Sm n (fun a => (if a = i then 1 else 0) * v a) := Sm_congr (fun a _ => by
    unfold unit
    rw [Int.mul_comm]
    by_cases c : i = a
    ·rw [if_pos c, if_pos c.symm]
    ·rw [if_neg c, if_neg (fun z => c z.symm)])
   exact this.trans (Sm_pick' n v hi)
  ·rfl
 rw [e] at h
 rw [h]
 exact Sm_congr (fun i _ => Int.mul_comm _ _)

theorem adj_mul (n : Nat) (x : Nat → Nat → Int) (k j : Nat) (hk : k < n) (hj : j < n) : mul n (adj n x) x k j = if k = j then det n x else 0 := by
 unfold mul
 rw [adj_col n x k hk (fun i => x i j)]
 by_cases e : k = j
 ·subst e
  rw [if_pos rfl, setc_self]
 ·rw [if_neg e]
  refine det_same hk hj e (fun i => ?_)
  unfold setc
  rw [if_pos rfl, if_neg (fun z => e z.symm)]
def ab (x : Int) : Int := (x.natAbs : Int)

theorem ab_nonneg (x : Int) : 0 ≤ ab x := by unfold ab; omega
theorem ab_add (x y : Int) : ab (x + y) ≤ ab x + ab y := by unfold ab; omega
theorem ab_mul (x y : Int) : ab (x * y) = ab x * ab y := by
 unfold ab
 rw [Int.natAbs_mul]
 push_cast
 rfl

/-- The coefficients c, d of them, make f; their sizes sum up to at most B. -/
def Coef (d : Nat) (B : Int) (c : Nat → Int) (f : Int → Int) : Prop := (∀ i, d ≤ i → c i = 0) ∧ (∀ u, f u = Sm d (fun i => c i * u ^ i)) ∧ Sm d (fun i => ab (c i)) ≤ B

theorem Sm_more {d e : Nat} (f : Nat → Int) (hde : d ≤ e) (h : ∀ i, d ≤ i → f i = 0) : Sm e f = Sm d f := by
 induction e with
 | zero => rw [show d = 0 by omega]
 | succ e ih =>
  by_cases c : d = e + 1
  ·rw [c]
  ·show Sm e f + f e = _
   rw [ih (by omega), h e (by omega), Int.add_zero]

theorem Sm_mono {n : Nat} {f g : Nat → Int} (h : ∀ i, i < n → f i ≤ g i) : Sm n f ≤ Sm n g := by
 induction n with
 | zero => exact Int.le_refl _
 | succ n ih =>
  have h1 := ih (fun i hi => h i (by omega))
  have h2 := h n (by omega)
  unfold Sm
  omega

theorem Coef.add {d : Nat} {B B' : Int} {c c' : Nat → Int} {f g : Int → Int} (h : Coef d B c f) (h' : Coef d B' c' g) : Coef d (B + B') (fun i => c i + c' i) (fun u => f u + g u) := by
 refine ⟨fun i hi => by show c i + c' i = 0; rw [h.1 i hi, h'.1 i hi]; rfl, fun u => ?_, ?_⟩
 ·show f u + g u = Sm d (fun i => (c i + c' i) * u ^ i)
  rw [h.2.1 u, h'.2.1 u, ← Sm_add]
  exact Sm_congr (fun i _ => (Int.add_mul _ _ _).symm)
 ·have := h.2.2
  have := h'.2.2
  have h3 : Sm d (fun i => ab (c i + c' i)) ≤ Sm d (fun i => ab (c i) + ab (c' i)) := Sm_mono (fun i _ => ab_add _ _)
  rw [Sm_add] at h3
  show Sm d (fun i => ab (c i + c' i)) ≤ B + B'
  omega

theorem Coef.zero (d : Nat) : Coef d 0 (fun _ => 0) (fun _ => 0) := by
 refine ⟨fun _ _ => rfl, fun u => ?_, ?_⟩
 ·rw [Sm_congr (g := fun _ => 0) (fun i _ => Int.zero_mul _), Sm_zero]
 ·show Sm d (fun _ => (0 : Int)) ≤ 0
  rw [Sm_zero]
  exact Int.le_refl _

theorem Coef.one : Coef 1 1 (fun i => if i = 0 then 1 else 0) (fun _ => 1) := by
 refine ⟨fun i hi => if_neg (by omega), fun u => ?_, ?_⟩
 ·show (1 : Int) = 0 + (if 0 = 0 then 1 else 0) * u ^ 0
  rw [if_pos rfl, Int.pow_zero]
  rfl
 ·exact Int.le_refl _

/-- The coefficients behind a linear factor. -/
def lin (a b : Int) (c : Nat → Int) (i : Nat) : Int := a * c i + (if i = 0 then 0 else b * c (i - 1))

theorem Sm_shift (d : Nat) (f : Nat → Int) : Sm (d + 1) (fun i => if i = 0 then 0 else f (i - 1)) = Sm d f := by
 induction d with
 | zero => rfl
 | succ d ih =>
  show Sm (d + 1) (fun i => if i = 0 then 0 else f (i - 1)) + (if d + 1 = 0 then 0 else f (d + 1 - 1)) = Sm d f + f d
  rw [ih, if_neg (by omega), Nat.add_sub_cancel]

theorem Coef.lin_mul {d : Nat} {B : Int} {c : Nat → Int} {f : Int → Int} (h : Coef d B c f) (a b : Int) : Coef (d + 1) ((ab a + ab b) * B) (lin a b c) (fun u => (a + u * b) * f u) := by
 refine ⟨fun i hi => ?_, fun u => ?_, ?_⟩
 ·unfold lin
  rw [h.1 i (by omega), if_neg (by omega), h.1 (i - 1) (by omega), Int.mul_zero, Int.mul_zero]
  rfl
 ·unfold lin
  have e1 : Sm (d + 1) (fun i => (a * c i + (if i = 0 then 0 else b * c (i - 1))) * u ^ i) = Sm (d + 1) (fun i => a * (c i * u ^ i)) + Sm (d + 1) (fun i => if i = 0 then 0 else u * b * (c (i - 1) * u ^ (i - 1))) := by
   rw [← Sm_add]
   refine Sm_congr (fun i _ => ?_)
   rw [Int.add_mul, Int.mul_assoc]
   congr 1
   by_cases e : i = 0
   ·rw [if_pos e, if_pos e, Int.zero_mul]
   ·rw [if_neg e, if_neg e]
    obtain ⟨j, rfl⟩ : ∃ j, i = j + 1 := ⟨i - 1, by omega⟩
    rw [Nat.add_sub_cancel, Int.pow_succ, Int.mul_comm (u ^ j) u, Int.mul_comm u b, Int.mul_assoc, Int.mul_assoc]
    congr 1
    rw [← Int.mul_assoc, Int.mul_comm (c j) u, Int.mul_assoc]
  rw [e1, Sm_mul_left, Sm_shift d (fun i => u * b * (c i * u ^ i)), Sm_mul_left, Sm_more (d := d) (fun i => c i * u ^ i) (by omega) (fun i hi => by rw [h.1 i hi, Int.zero_mul]), ← h.2.1 u]
  exact Int.add_mul _ _ _
 ·have h1 : Sm (d + 1) (fun i => ab (lin a b c i)) ≤ Sm (d + 1) (fun i => ab a * ab (c i) + (if i = 0 then 0 else ab b * ab (c (i - 1)))) := Sm_mono (fun i _ => by
   unfold lin
   have := ab_add (a * c i) (if i = 0 then 0 else b * c (i - 1))
   rw [ab_mul] at this
   by_cases e : i = 0
   ·rw [if_pos e] at this ⊢
    rw [if_pos e]
    exact this
   ·rw [if_neg e, ab_mul] at this
    rw [if_neg e, if_neg e]
    exact this)
  rw [Sm_add, Sm_mul_left, Sm_shift d (fun i => ab b * ab (c i)), Sm_mul_left, Sm_more (d := d) (fun i => ab (c i)) (by omega) (fun i hi => by rw [h.1 i hi]; rfl)] at h1
  have h2 : ab a * Sm d (fun i => ab (c i)) ≤ ab a * B := Int.mul_le_mul_of_nonneg_left h.2.2 (ab_nonneg a)
  have h3 : ab b * Sm d (fun i => ab (c i)) ≤ ab b * B := Int.mul_le_mul_of_nonneg_left h.2.2 (ab_nonneg b)
  rw [Int.add_mul]
  omega

/-- A polynomial that is zero at all whole numbers from 2 on has no coefficients. -/
theorem coef_zero2 : ∀ (d : Nat) (c : Nat → Int), (∀ u : Int, 2 ≤ u → Sm d (fun i => c i * u ^ i) = 0) → ∀ i, i < d → c i = 0 := by
 intro d
 induction d with
 | zero => intro c _ i hi; omega
 | succ d ih =>
  intro c h
  have split : ∀ u : Int, Sm (d + 1) (fun i => c i * u ^ i) = c 0 + u * Sm d (fun i => c (i + 1) * u ^ i) := by
   intro u
   have : ∀ n, Sm (n + 1) (fun i => c i * u ^ i) = c 0 + u * Sm n (fun i => c (i + 1) * u ^ i) := by
    intro n
    induction n with
    | zero =>
     show 0 + c 0 * u ^ 0 = c 0 + u * 0
     rw [Int.pow_zero]
     omega
    | succ n ihn =>
     show Sm (n + 1) (fun i => c i * u ^ i) + c (n + 1) * u ^ (n + 1) = c 0 + u * (Sm n (fun i => c (i + 1) * u ^ i) + c (n + 1) * u ^ n)
     rw [ihn, Int.mul_add, Int.pow_succ, Int.mul_comm (u ^ n) u, ← Int.mul_assoc (c (n + 1)) u, Int.mul_comm (c (n + 1)) u, Int.mul_assoc u]
     omega
   exact this d
  have h0 : c 0 = 0 := by
   apply Classical.byContradiction
   intro hc
   have h1 := h (ab (c 0) + 2) (by have := ab_nonneg (c 0); omega)
   rw [split] at h1
   generalize Sm d _ = s at h1
   have hab : ab (c 0) = (c 0).natAbs := rfl
   have hdvd : (ab (c 0) + 2) ∣ c 0 := ⟨-s, by rw [Int.mul_neg]; omega⟩
   have := Int.natAbs_dvd_natAbs.2 hdvd
   have := Nat.le_of_dvd (by omega) this
   have e : (ab (c 0) + 2).natAbs = (c 0).natAbs + 2 := by rw [hab]; omega
   omega
  intro i hi
  by_cases e : i = 0
  ·rw [e]; exact h0
  ·have := ih (fun i => c (i + 1)) (fun u hu => by
    have h1 := h u hu
    rw [split, h0, Int.zero_add] at h1
    rcases Int.mul_eq_zero.1 h1 with h2 | h2
    ·omega
    ·exact h2) (i - 1) (by omega)
   simp only [Nat.sub_add_cancel (show 1 ≤ i by omega)] at this
   exact this

theorem coef_zero (d : Nat) (c : Nat → Int) (h : ∀ u : Int, 1 ≤ u → Sm d (fun i => c i * u ^ i) = 0) : ∀ i, i < d → c i = 0 := coef_zero2 d c (fun u hu => h u (by omega))
/-- A product of n numbers. -/
def Pr : Nat → (Nat → Int) → Int
 | 0, _ => 1
 | n + 1, f => Pr n f * f n

theorem Pr_congr {n : Nat} {f g : Nat → Int} (h : ∀ i, i < n → f i = g i) : Pr n f = Pr n g := by
 induction n with
 | zero => rfl
 | succ n ih => unfold Pr; rw [ih (fun i hi => h i (by omega)), h n (by omega)]

theorem Pr_nonneg {n : Nat} {f : Nat → Int} (h : ∀ i, i < n → 0 ≤ f i) : 0 ≤ Pr n f := by
 induction n with
 | zero => exact (by decide : (0 : Int) ≤ 1)
 | succ n ih =>
  unfold Pr
  exact Int.mul_nonneg (ih (fun i hi => h i (by omega))) (h n (by omega))

theorem Pr_mono {n : Nat} {f g : Nat → Int} (h0 : ∀ i, i < n → 0 ≤ f i) (h : ∀ i, i < n → f i ≤ g i) : Pr n f ≤ Pr n g := by
 induction n with
 | zero => exact Int.le_refl _
 | succ n ih =>
  unfold Pr
  have h1 := ih (fun i hi => h0 i (by omega)) (fun i hi => h i (by omega))
  have h2 : Pr n f * f n ≤ Pr n g * f n := Int.mul_le_mul_of_nonneg_right h1 (h0 n (by omega))
  have hg : 0 ≤ Pr n g := Pr_nonneg (fun i hi => Int.le_trans (h0 i (by omega)) (h i (by omega)))
  have h3 : Pr n g * f n ≤ Pr n g * g n := Int.mul_le_mul_of_nonneg_left (h n (by omega)) hg
  omega

/-- The number's place behind the one that is left out. -/
def skip (j k : Nat) : Nat := if k < j then k else k + 1

theorem Pr_skip (n j : Nat) (f : Nat → Int) (hj : j ≤ n) : Pr (n + 1) (fun k => f (skip j k)) = if j = n + 1 then Pr (n + 1) f else Pr n (fun k => f (skip j k)) * f (n + 1) := by
 rw [if_neg (by omega)]
 show Pr n (fun k => f (skip j k)) * f (skip j n) = _
 rw [show skip j n = n + 1 from if_neg (by omega)]

theorem Pr_sum_le (a c : Nat → Int) (ha : ∀ i, 0 ≤ a i) (hc : ∀ i, 0 ≤ c i) : ∀ n, Sm (n + 1) (fun j => a j * Pr n (fun k => c (skip j k))) + Pr (n + 1) c ≤ Pr (n + 1) (fun k => a k + c k) := by
 intro n
 induction n with
 | zero =>
  show 0 + a 0 * 1 + 1 * c 0 ≤ 1 * (a 0 + c 0)
  omega
 | succ n ih =>
  have e1 : Sm (n + 1) (fun j => a j * Pr (n + 1) (fun k => c (skip j k))) = Sm (n + 1) (fun j => a j * Pr n (fun k => c (skip j k))) * c (n + 1) := by
   rw [← Sm_mul_right]
   refine Sm_congr (fun j hj => ?_)
   rw [Pr_skip n j c (by omega), if_neg (by omega), Int.mul_assoc]
  have e2 : Pr (n + 1) (fun k => c (skip (n + 1) k)) = Pr (n + 1) c := Pr_congr (fun k hk => by rw [show skip (n + 1) k = k from if_pos hk])
  show Sm (n + 1) (fun j => a j * Pr (n + 1) (fun k => c (skip j k))) + a (n + 1) * Pr (n + 1) (fun k => c (skip (n + 1) k)) + Pr (n + 1) c * c (n + 1) ≤ Pr (n + 1) (fun k => a k + c k) * (a (n + 1) + c (n + 1))
  rw [e1, e2, Int.mul_add]
  have hP : Pr (n + 1) c ≤ Pr (n + 1) (fun k => a k + c k) := Pr_mono (fun i _ => hc i) (fun i _ => by have := ha i; omega)
  have h1 : (Sm (n + 1) (fun j => a j * Pr n (fun k => c (skip j k))) + Pr (n + 1) c) * c (n + 1) ≤ Pr (n + 1) (fun k => a k + c k) * c (n + 1) := Int.mul_le_mul_of_nonneg_right ih (hc _)
  have h2 : Pr (n + 1) c * a (n + 1) ≤ Pr (n + 1) (fun k => a k + c k) * a (n + 1) := Int.mul_le_mul_of_nonneg_right hP (ha _)
  rw [Int.add_mul] at h1
  rw [Int.mul_comm (a (n + 1))]
  omega

/-- The coefficients of the determinant of a + u b. -/
def dc : Nat → (Nat → Nat → Int) → (Nat → Nat → Int) → Nat → Int
 | 0, _, _ => fun i => if i = 0 then 1 else 0
 | n + 1, a, b => fun i => Sm (n + 1) (fun j => lin (sg j * a 0 j) (sg j * b 0 j) (dc n (minor a j) (minor b j)) i)

theorem Coef.sum {d : Nat} (n : Nat) (B : Nat → Int) (c : Nat → Nat → Int) (f : Nat → Int → Int) (h : ∀ j, j < n → Coef d (B j) (c j) (f j)) : Coef d (Sm n B) (fun i => Sm n (fun j => c j i)) (fun u => Sm n (fun j => f j u)) := by
 induction n with
 | zero => exact Coef.zero d
 | succ n ih => exact Coef.add (ih (fun j hj => h j (by omega))) (h n (by omega))

/-- A column's size. -/
def cs (n : Nat) (a b : Nat → Nat → Int) (k : Nat) : Int := Sm n (fun i => ab (a i k) + ab (b i k))

theorem cs_nonneg (n : Nat) (a b : Nat → Nat → Int) (k : Nat) : 0 ≤ cs n a b k := Sm_nonneg (fun i _ => by
 have := ab_nonneg (a i k)
 have := ab_nonneg (b i k)
 omega)

theorem Sm_first (n : Nat) (f : Nat → Int) : Sm (n + 1) f = f 0 + Sm n (fun i => f (i + 1)) := by
 induction n with
 | zero => show 0 + f 0 = f 0 + 0; omega
 | succ n ih =>
  show Sm (n + 1) f + f (n + 1) = f 0 + (Sm n (fun i => f (i + 1)) + f (n + 1))
  rw [ih]; omega

theorem ab_sg (j : Nat) (x : Int) : ab (sg j * x) = ab x := by
 rw [ab_mul]
 have : ab (sg j) = 1 := by unfold sg ab; split <;> rfl
 rw [this, Int.one_mul]

theorem det_coef : ∀ (n : Nat) (a b : Nat → Nat → Int), Coef (n + 1) (Pr n (cs n a b)) (dc n a b) (fun u => det n (fun i k => a i k + u * b i k)) := by
 intro n
 induction n with
 | zero => intro a b; exact Coef.one
 | succ n ih =>
  intro a b
  have h := Coef.sum (d := n + 2) (n + 1) (fun j => (ab (sg j * a 0 j) + ab (sg j * b 0 j)) * Pr n (cs n (minor a j) (minor b j))) (fun j => lin (sg j * a 0 j) (sg j * b 0 j) (dc n (minor a j) (minor b j)))
   (fun j u => (sg j * a 0 j + u * (sg j * b 0 j)) * det n (fun i k => minor a j i k + u * minor b j i k)) (fun j _ => (ih (minor a j) (minor b j)).lin_mul _ _)
  have hB : Sm (n + 1) (fun j => (ab (sg j * a 0 j) + ab (sg j * b 0 j)) * Pr n (cs n (minor a j) (minor b j))) ≤ Pr (n + 1) (cs (n + 1) a b) := by
   have h1 := Pr_sum_le (fun k => ab (a 0 k) + ab (b 0 k)) (fun k => Sm n (fun i => ab (a (i + 1) k) + ab (b (i + 1) k))) (fun k => by have := ab_nonneg (a 0 k); have := ab_nonneg (b 0 k); omega) (fun k => Sm_nonneg (fun i _ => by have := ab_nonneg (a (i + 1) k); have := ab_nonneg (b (i + 1) k); omega)) n
   have h2 : 0 ≤ Pr (n + 1) (fun k => Sm n (fun i => ab (a (i + 1) k) + ab (b (i + 1) k))) := Pr_nonneg (fun k _ => Sm_nonneg (fun i _ => by have := ab_nonneg (a (i + 1) k); have := ab_nonneg (b (i + 1) k); omega))
   have e1 : Pr (n + 1) (cs (n + 1) a b) = Pr (n + 1) (fun k => (ab (a 0 k) + ab (b 0 k)) + Sm n (fun i => ab (a (i + 1) k) + ab (b (i + 1) k))) := Pr_congr (fun k _ => Sm_first n (fun i => ab (a i k) + ab (b i k)))
   have e2 : Sm (n + 1) (fun j => (ab (sg j * a 0 j) + ab (sg j * b 0 j)) * Pr n (cs n (minor a j) (minor b j))) = Sm (n + 1) (fun j => (ab (a 0 j) + ab (b 0 j)) * Pr n (fun k => Sm n (fun i => ab (a (i + 1) (skip j k)) + ab (b (i + 1) (skip j k))))) := Sm_congr (fun j _ => by
    rw [ab_sg, ab_sg]
    rfl)
   rw [e1, e2]
   omega
  refine ⟨h.1, fun u => ?_, Int.le_trans h.2.2 hB⟩
  refine Eq.trans ?_ (h.2.1 u)
  refine Sm_congr (fun j _ => ?_)
  show sg j * (a 0 j + u * b 0 j) * det n (minor (fun i k => a i k + u * b i k) j) = (sg j * a 0 j + u * (sg j * b 0 j)) * det n (fun i k => minor a j i k + u * minor b j i k)
  have e : minor (fun i k => a i k + u * b i k) j = fun i k => minor a j i k + u * minor b j i k := rfl
  rw [e, Int.mul_add, ← Int.mul_assoc (sg j) u, Int.mul_comm (sg j) u, Int.mul_assoc u]
theorem dc_high (n : Nat) (a b : Nat → Nat → Int) {i : Nat} (h : n + 1 ≤ i) : dc n a b i = 0 := (det_coef n a b).1 i h

theorem dc_zero : ∀ (n : Nat) (a b : Nat → Nat → Int), dc n a b 0 = det n a := by
 intro n
 induction n with
 | zero => intro a b; rfl
 | succ n ih =>
  intro a b
  show Sm (n + 1) (fun j => lin (sg j * a 0 j) (sg j * b 0 j) (dc n (minor a j) (minor b j)) 0) = Sm (n + 1) (fun j => sg j * a 0 j * det n (minor a j))
  refine Sm_congr (fun j _ => ?_)
  unfold lin
  rw [if_pos rfl, ih, Int.add_zero]

theorem dc_top : ∀ (n : Nat) (a b : Nat → Nat → Int), dc n a b n = det n b := by
 intro n
 induction n with
 | zero => intro a b; rfl
 | succ n ih =>
  intro a b
  show Sm (n + 1) (fun j => lin (sg j * a 0 j) (sg j * b 0 j) (dc n (minor a j) (minor b j)) (n + 1)) = Sm (n + 1) (fun j => sg j * b 0 j * det n (minor b j))
  refine Sm_congr (fun j _ => ?_)
  unfold lin
  rw [if_neg (by omega), Nat.add_sub_cancel, ih, dc_high n _ _ (Nat.le_refl _), Int.mul_zero, Int.zero_add]

def idm (i k : Nat) : Int := if i = k then 1 else 0
def ng (a : Nat → Nat → Int) (i k : Nat) : Int := - a i k

/-- The coefficients of det(1 - u a). -/
def ch (n : Nat) (a : Nat → Nat → Int) : Nat → Int := dc n idm (ng a)

/-- The coefficients of the adjoint's entries. -/
def nc (n : Nat) (a : Nat → Nat → Int) (m k i : Nat) : Int := dc n (setc idm k (unit i)) (setc (ng a) k (fun _ => 0)) m

def xu (a : Nat → Nat → Int) (u : Int) (i k : Nat) : Int := idm i k + u * ng a i k

theorem adj_xu (n : Nat) (a : Nat → Nat → Int) (u : Int) (k i : Nat) : adj n (xu a u) k i = Sm (n + 1) (fun m => nc n a m k i * u ^ m) := by
 refine Eq.trans ?_ ((det_coef n (setc idm k (unit i)) (setc (ng a) k (fun _ => 0))).2.1 u)
 unfold adj
 refine det_congr n _ _ (fun r c _ _ => ?_)
 unfold setc xu
 by_cases e : c = k
 ·rw [if_pos e, if_pos e, if_pos e, Int.mul_zero, Int.add_zero]
 ·rw [if_neg e, if_neg e, if_neg e]

theorem det_xu (n : Nat) (a : Nat → Nat → Int) (u : Int) : det n (xu a u) = Sm (n + 1) (fun m => ch n a m * u ^ m) := (det_coef n idm (ng a)).2.1 u

theorem nc_end (n : Nat) (a : Nat → Nat → Int) (m k i : Nat) (hk : k < n) (hm : n ≤ m) : nc n a m k i = 0 := by
 by_cases e : m = n
 ·subst e
  unfold nc
  rw [dc_top]
  exact det_zero_col m (ng a) k hk
 ·exact dc_high n _ _ (by omega)

/-- N_m = N_(m-1) A + d_m. -/
theorem nc_step (n : Nat) (a : Nat → Nat → Int) (m k j : Nat) (hk : k < n) (hj : j < n) : nc n a m k j = (if m = 0 then 0 else Sm n (fun i => nc n a (m - 1) k i * a i j)) + (if k = j then ch n a m else 0) := by
 by_cases hm : n + 2 ≤ m
 ·rw [nc_end n a m k j hk (by omega), if_neg (by omega), show ch n a m = 0 from dc_high n _ _ (by omega)]
  rw [Sm_congr (g := fun _ => 0) (fun i _ => by rw [nc_end n a (m - 1) k i hk (by omega), Int.zero_mul]), Sm_zero]
  split <;> rfl
 have key : ∀ u : Int, Sm (n + 2) (fun m => (nc n a m k j - ((if m = 0 then 0 else Sm n (fun i => nc n a (m - 1) k i * a i j)) + (if k = j then ch n a m else 0))) * u ^ m) = 0 := by
  intro u
  have h := adj_mul n (xu a u) k j hk hj
  unfold mul at h
  have e1 : Sm n (fun i => adj n (xu a u) k i * xu a u i j) = adj n (xu a u) k j - u * Sm n (fun i => adj n (xu a u) k i * a i j) := by
   have : Sm n (fun i => adj n (xu a u) k i * xu a u i j) = Sm n (fun i => (if i = j then 1 else 0) * adj n (xu a u) k i + (-u) * (adj n (xu a u) k i * a i j)) := Sm_congr (fun i _ => by
    unfold xu idm ng
    generalize adj n _ k i = g
    rw [Int.mul_add]
    congr 1
    ·exact Int.mul_comm _ _
    ·rw [Int.mul_neg, Int.mul_neg, Int.neg_mul, Int.mul_comm g, Int.mul_assoc, Int.mul_comm (a i j) g])
   rw [this, Sm_add, Sm_pick' n _ hj, Sm_mul_left, Int.neg_mul]
   rfl
  rw [e1] at h
  have e2 : Sm n (fun i => adj n (xu a u) k i * a i j) = Sm (n + 1) (fun m => Sm n (fun i => nc n a m k i * a i j) * u ^ m) := by
   rw [Sm_congr (g := fun i => Sm (n + 1) (fun m => nc n a m k i * a i j * u ^ m)) (fun i _ => by
    rw [adj_xu, ← Sm_mul_right]
    exact Sm_congr (fun m _ => by rw [Int.mul_assoc, Int.mul_comm (u ^ m), ← Int.mul_assoc])), Sm_swap]
   exact Sm_congr (fun m _ => Sm_mul_right n _ _)
  have e3 : u * Sm (n + 1) (fun m => Sm n (fun i => nc n a m k i * a i j) * u ^ m) = Sm (n + 2) (fun m => (if m = 0 then 0 else Sm n (fun i => nc n a (m - 1) k i * a i j)) * u ^ m) := by
   rw [← Sm_mul_left, ← Sm_shift]
   refine Sm_congr (fun m _ => ?_)
   by_cases e : m = 0
   ·rw [if_pos e, if_pos e, Int.zero_mul]
   ·rw [if_neg e, if_neg e]
    obtain ⟨q, rfl⟩ : ∃ q, m = q + 1 := ⟨m - 1, by omega⟩
    rw [Nat.add_sub_cancel, Int.pow_succ, Int.mul_comm (u ^ q) u, ← Int.mul_assoc, ← Int.mul_assoc, Int.mul_comm u]
  have e4 : Sm (n + 1) (fun m => nc n a m k j * u ^ m) = Sm (n + 2) (fun m => nc n a m k j * u ^ m) := (Sm_more _ (by omega) (fun i hi => by rw [nc_end n a i k j hk (by omega), Int.zero_mul])).symm
  have e5 : (if k = j then det n (xu a u) else 0) = Sm (n + 2) (fun m => (if k = j then ch n a m else 0) * u ^ m) := by
   by_cases c : k = j
   ·rw [if_pos c, det_xu]
    rw [Sm_congr (n := n + 2) (g := fun m => ch n a m * u ^ m) (fun m _ => by rw [if_pos c])]
    exact (Sm_more _ (by omega) (fun i hi => by rw [show ch n a i = 0 from dc_high n _ _ (by omega), Int.zero_mul])).symm
   ·rw [if_neg c, Sm_congr (n := n + 2) (g := fun _ => 0) (fun m _ => by rw [if_neg c, Int.zero_mul]), Sm_zero]
  rw [adj_xu, e2, e3, e4, e5] at h
  have e6 : Sm (n + 2) (fun m => (nc n a m k j - ((if m = 0 then 0 else Sm n (fun i => nc n a (m - 1) k i * a i j)) + (if k = j then ch n a m else 0))) * u ^ m) = Sm (n + 2) (fun m => nc n a m k j * u ^ m) + ((-1) * Sm (n + 2) (fun m => (if m = 0 then 0 else Sm n (fun i => nc n a (m - 1) k i * a i j)) * u ^ m) + (-1) * Sm (n + 2) (fun m => (if k = j then ch n a m else 0) * u ^ m)) := by
   rw [← Sm_mul_left, ← Sm_mul_left, ← Sm_add, ← Sm_add]
   refine Sm_congr (fun m _ => ?_)
   generalize nc n a m k j = x1
   generalize (if m = 0 then (0 : Int) else _) = x2
   generalize (if k = j then _ else (0 : Int)) = x3
   generalize u ^ m = x4
   rw [Int.sub_mul, Int.add_mul]
   omega
  rw [e6]
  omega
 have := coef_zero (n + 2) _ (fun u _ => key u) m (by omega)
 omega
theorem Sm_skip (f : Nat → Int) : ∀ (n j : Nat), j ≤ n → Sm (n + 1) f = f j + Sm n (fun k => f (skip j k)) := by
 intro n
 induction n with
 | zero =>
  intro j hj
  rw [show j = 0 by omega]
  show 0 + f 0 = f 0 + 0
  omega
 | succ n ih =>
  intro j hj
  by_cases e : j = n + 1
  ·subst e
   show Sm (n + 1) f + f (n + 1) = _
   rw [Sm_congr (g := fun k => f (skip (n + 1) k)) (fun k hk => by rw [show skip (n + 1) k = k from if_pos hk])]
   omega
  ·show Sm (n + 1) f + f (n + 1) = f j + (Sm n (fun k => f (skip j k)) + f (skip j n))
   rw [ih j (by omega), show skip j n = n + 1 from if_neg (by omega)]
   omega

/-- The first coefficient: one column after the other is exchanged. -/
theorem dc_one : ∀ (n : Nat) (a b : Nat → Nat → Int), dc n a b 1 = Sm n (fun k => det n (setc a k (fun i => b i k))) := by
 intro n
 induction n with
 | zero => intro a b; rfl
 | succ n ih =>
  intro a b
  have e1 : ∀ k, k < n + 1 → det (n + 1) (setc a k (fun i => b i k)) = Sm (n + 1) (fun j => sg j * setc a k (fun i => b i k) 0 j * det n (minor (setc a k (fun i => b i k)) j)) := fun k _ => rfl
  rw [Sm_congr e1, Sm_swap]
  show Sm (n + 1) (fun j => lin (sg j * a 0 j) (sg j * b 0 j) (dc n (minor a j) (minor b j)) 1) = _
  refine Sm_congr (fun j hj => ?_)
  rw [Sm_skip _ n j (by omega)]
  unfold lin
  rw [if_neg (by omega), ih, dc_zero, minor_setc_eq, Int.add_comm]
  congr 1
  ·show _ = sg j * (if j = j then b 0 j else a 0 j) * _
   rw [if_pos rfl]
  ·rw [← Sm_mul_left]
   refine Sm_congr (fun k hk => ?_)
   have hne : j ≠ skip j k := by unfold skip; split <;> omega
   rw [minor_setc_ne a hne]
   have e2 : setc a (skip j k) (fun i => b i (skip j k)) 0 j = a 0 j := if_neg hne
   have e3 : (if skip j k < j then skip j k else skip j k - 1) = k := by
    unfold skip
    by_cases c : k < j
    ·rw [if_pos c, if_pos c]
    ·rw [if_neg c, if_neg (by omega)]
     omega
   rw [e2, e3]
   rfl

theorem pow_near (u h : Int) : ∀ m : Nat, ∃ e, (u + h) ^ m = u ^ m + h * ((m : Int) * u ^ (m - 1)) + h * h * e := by
 intro m
 induction m with
 | zero => exact ⟨0, by rw [Int.pow_zero, Int.pow_zero]; simp⟩
 | succ m ih =>
  obtain ⟨e, he⟩ := ih
  have e1 : (m : Int) * u ^ (m - 1) * u = (m : Int) * u ^ m := by
   match m with
   | 0 => simp
   | q + 1 => rw [Nat.add_sub_cancel, Int.mul_assoc, ← Int.pow_succ]
  refine ⟨(m : Int) * u ^ (m - 1) + e * (u + h), ?_⟩
  rw [Int.pow_succ, he, Int.pow_succ, Nat.add_sub_cancel]
  generalize (m : Int) * u ^ (m - 1) = p at *
  rw [show ((m + 1 : Nat) : Int) = m + 1 from rfl, Int.add_mul (m : Int) 1, ← e1]
  generalize u ^ m = q
  grind

theorem Sm_near (d : Nat) (c : Nat → Int) (u h : Int) : ∃ e, Sm d (fun m => c m * (u + h) ^ m) = Sm d (fun m => c m * u ^ m) + h * Sm d (fun m => c m * ((m : Int) * u ^ (m - 1))) + h * h * e := by
 induction d with
 | zero => exact ⟨0, by simp [Sm]⟩
 | succ d ih =>
  obtain ⟨e, he⟩ := ih
  obtain ⟨e', he'⟩ := pow_near u h d
  refine ⟨e + c d * e', ?_⟩
  show Sm d (fun m => c m * (u + h) ^ m) + c d * (u + h) ^ d = Sm d (fun m => c m * u ^ m) + c d * u ^ d + h * (Sm d (fun m => c m * ((m : Int) * u ^ (m - 1))) + c d * ((d : Int) * u ^ (d - 1))) + h * h * (e + c d * e')
  rw [he, he']
  generalize Sm d _ = s1
  generalize Sm d _ = s2
  generalize (d : Int) * u ^ (d - 1) = s3
  generalize u ^ d = s4
  generalize c d = s5
  grind

theorem Sm_two_terms (d : Nat) (c : Nat → Int) (h : Int) : ∃ e, Sm (d + 2) (fun m => c m * h ^ m) = c 0 + h * c 1 + h * h * e := by
 induction d with
 | zero =>
  refine ⟨0, ?_⟩
  show 0 + c 0 * h ^ 0 + c 1 * h ^ 1 = _
  rw [Int.pow_zero, Int.pow_succ, Int.pow_zero]
  grind
 | succ d ih =>
  obtain ⟨e, he⟩ := ih
  refine ⟨e + c (d + 2) * h ^ d, ?_⟩
  show Sm (d + 2) (fun m => c m * h ^ m) + c (d + 2) * h ^ (d + 2) = _
  rw [he, Int.pow_succ, Int.pow_succ]
  generalize h ^ d = p
  grind

/-- The trace of N_m A. -/
def tn (n : Nat) (a : Nat → Nat → Int) (m : Nat) : Int := Sm n (fun k => Sm n (fun i => nc n a m k i * a i k))

theorem newton (n : Nat) (a : Nat → Nat → Int) (m : Nat) (hm : m < n + 1) : ((m + 1 : Nat) : Int) * ch n a (m + 1) = - tn n a m := by
 have key : ∀ u : Int, Sm (n + 1) (fun m => ch n a m * ((m : Int) * u ^ (m - 1))) = - Sm (n + 1) (fun m => tn n a m * u ^ m) := by
  intro u
  apply Classical.byContradiction
  intro hc
  obtain ⟨x, hx⟩ : ∃ x, x = Sm (n + 1) (fun m => ch n a m * ((m : Int) * u ^ (m - 1))) + Sm (n + 1) (fun m => tn n a m * u ^ m) := ⟨_, rfl⟩
  obtain ⟨h, hh⟩ : ∃ h : Int, h = ab x + 1 := ⟨_, rfl⟩
  have hpos : 1 ≤ h := by have := ab_nonneg x; omega
  obtain ⟨e1, he1⟩ := Sm_near (n + 1) (ch n a) u h
  have d1 := det_xu n a (u + h)
  have d0 := det_xu n a u
  have dd := (det_coef n (xu a u) (ng a)).2.1 h
  simp only at dd
  have ex : (fun i k => xu a u i k + h * ng a i k) = xu a (u + h) := by
   funext i k
   unfold xu
   rw [Int.add_mul]
   omega
  rw [ex] at dd
  obtain ⟨e2, he2⟩ := Sm_two_terms n (dc n (xu a u) (ng a)) h
  rw [Sm_more (d := n + 1) (fun m => dc n (xu a u) (ng a) m * h ^ m) (by omega) (fun i hi => by rw [dc_high n _ _ hi, Int.zero_mul]), ← dd, dc_zero] at he2
  have ej : dc n (xu a u) (ng a) 1 = - Sm (n + 1) (fun m => tn n a m * u ^ m) := by
   rw [dc_one]
   have e3 : Sm n (fun k => det n (setc (xu a u) k (fun i => ng a i k))) = Sm n (fun k => Sm n (fun i => adj n (xu a u) k i * ng a i k)) := Sm_congr (fun k hk => (adj_col n (xu a u) k hk (fun i => ng a i k)).symm)
   rw [e3]
   have e4 : Sm n (fun k => Sm n (fun i => adj n (xu a u) k i * ng a i k)) = Sm n (fun k => Sm n (fun i => Sm (n + 1) (fun m => (-1) * (nc n a m k i * a i k * u ^ m)))) := Sm_congr (fun k _ => Sm_congr (fun i _ => by
    rw [adj_xu, Sm_mul_left, ← Sm_mul_right]
    unfold ng
    rw [← Sm_mul_left]
    refine Sm_congr (fun m _ => ?_)
    grind))
   rw [e4]
   have e5 : Sm n (fun k => Sm n (fun i => Sm (n + 1) (fun m => (-1) * (nc n a m k i * a i k * u ^ m)))) = Sm (n + 1) (fun m => (-1) * (tn n a m * u ^ m)) := by
    rw [Sm_congr (g := fun k => Sm (n + 1) (fun m => Sm n (fun i => (-1) * (nc n a m k i * a i k * u ^ m)))) (fun k _ => Sm_swap _ _ _), Sm_swap]
    refine Sm_congr (fun m _ => ?_)
    unfold tn
    rw [← Sm_mul_right, ← Sm_mul_left]
    refine Sm_congr (fun k _ => ?_)
    rw [← Sm_mul_right, ← Sm_mul_left]
   rw [e5, Sm_mul_left]
   omega
  rw [ej, d1, he1, ← d0] at he2
  have hdiv : h * x = h * (h * (e2 - e1)) := by
   rw [hx]
   generalize Sm (n + 1) (fun m => ch n a m * ((m : Int) * u ^ (m - 1))) = s1 at *
   generalize Sm (n + 1) (fun m => tn n a m * u ^ m) = s2 at *
   grind
  have hx2 : x = h * (e2 - e1) := Int.eq_of_mul_eq_mul_left (by omega) hdiv
  have hx0 : x ≠ 0 := by omega
  have hd : h ∣ x := ⟨_, hx2⟩
  have h3 := Nat.le_of_dvd (by omega) (Int.natAbs_dvd_natAbs.2 hd)
  have h4 : ab x = x.natAbs := rfl
  omega
 have shift : ∀ u : Int, Sm (n + 1) (fun m => ch n a m * ((m : Int) * u ^ (m - 1))) = Sm (n + 1) (fun m => ((m + 1 : Nat) : Int) * ch n a (m + 1) * u ^ m) := by
  intro u
  have e1 : Sm (n + 2) (fun m => ch n a m * ((m : Int) * u ^ (m - 1))) = Sm (n + 1) (fun m => ch n a m * ((m : Int) * u ^ (m - 1))) := Sm_more _ (by omega) (fun i hi => by rw [show ch n a i = 0 from dc_high n _ _ hi, Int.zero_mul])
  rw [← e1, Sm_first]
  simp only [Nat.add_sub_cancel]
  rw [show ((0 : Nat) : Int) = 0 from rfl, Int.zero_mul, Int.mul_zero, Int.zero_add]
  refine Sm_congr (fun m _ => ?_)
  grind
 have := coef_zero (n + 1) (fun m => ((m + 1 : Nat) : Int) * ch n a (m + 1) + tn n a m) (fun u _ => by
  have h1 := key u
  rw [shift] at h1
  rw [Sm_congr (g := fun m => ((m + 1 : Nat) : Int) * ch n a (m + 1) * u ^ m + tn n a m * u ^ m) (fun m _ => Int.add_mul _ _ _), Sm_add]
  omega) m hm
 omega
theorem nc_comm (n : Nat) (a : Nat → Nat → Int) : ∀ (m k j : Nat), k < n → j < n → mul n a (nc n a m) k j = mul n (nc n a m) a k j := by
 have base : ∀ (f : Nat → Nat → Int) (d : Int) (N : Nat → Nat → Int), (∀ k j, k < n → j < n → N k j = f k j + (if k = j then d else 0)) → (∀ k j, k < n → j < n → mul n a f k j = mul n f a k j) → ∀ k j, k < n → j < n → mul n a N k j = mul n N a k j := by
  intro f d N hN hf k j hk hj
  unfold mul
  rw [Sm_congr (g := fun i => a k i * f i j + (if i = j then 1 else 0) * (a k i * d)) (fun i hi => by
   rw [hN i j hi hj, Int.mul_add]
   congr 1
   by_cases e : i = j
   ·rw [if_pos e, if_pos e, Int.one_mul]
   ·rw [if_neg e, if_neg e, Int.zero_mul, Int.mul_zero])]
  rw [Sm_congr (f := fun i => N k i * a i j) (g := fun i => f k i * a i j + (if i = k then 1 else 0) * (d * a i j)) (fun i hi => by
   rw [hN k i hk hi, Int.add_mul]
   congr 1
   by_cases e : k = i
   ·rw [if_pos e, if_pos e.symm, Int.one_mul]
   ·rw [if_neg e, if_neg (fun z => e z.symm), Int.zero_mul, Int.zero_mul])]
  rw [Sm_add, Sm_add, Sm_pick' n (fun i => a k i * d) hj, Sm_pick' n (fun i => d * a i j) hk, Int.mul_comm d]
  congr 1
  exact hf k j hk hj
 intro m
 induction m with
 | zero =>
  refine base (fun _ _ => 0) (ch n a 0) _ (fun k j hk hj => ?_) (fun k j hk hj => ?_)
  ·rw [nc_step n a 0 k j hk hj, if_pos rfl]
  ·unfold mul
   rw [Sm_congr (g := fun _ => 0) (fun i _ => Int.mul_zero _), Sm_congr (f := fun i => 0 * a i j) (g := fun _ => 0) (fun i _ => Int.zero_mul _)]
 | succ m ih =>
  refine base (fun k j => mul n (nc n a m) a k j) (ch n a (m + 1)) _ (fun k j hk hj => ?_) (fun k j hk hj => ?_)
  ·rw [nc_step n a (m + 1) k j hk hj, if_neg (by omega), Nat.add_sub_cancel]
   rfl
  ·have h1 := mul_assoc' n a (nc n a m) a k j
   have h2 : mul n (mul n a (nc n a m)) a k j = mul n (mul n (nc n a m) a) a k j := mul_congr (fun i hi => ih k i hk hi) (fun i _ => rfl)
   rw [h2] at h1
   exact h1.symm
/-- The last column is zero above its foot. -/
theorem det_foot : ∀ (n : Nat) (m : Nat → Nat → Int) (s : Int), (∀ i, i < n → m i n = 0) → m n n = s → det (n + 1) m = s * det n m := by
 intro n
 induction n with
 | zero =>
  intro m s _ hs
  show 0 + sg 0 * m 0 0 * 1 = s * 1
  rw [hs]
  show 0 + 1 * s * 1 = s * 1
  omega
 | succ n ih =>
  intro m s h hs
  show Sm (n + 1) (fun j => sg j * m 0 j * det (n + 1) (minor m j)) + sg (n + 1) * m 0 (n + 1) * det (n + 1) (minor m (n + 1)) = s * Sm (n + 1) (fun j => sg j * m 0 j * det n (minor m j))
  rw [h 0 (by omega), Int.mul_zero, Int.zero_mul, Int.add_zero, ← Sm_mul_left]
  refine Sm_congr (fun j hj => ?_)
  rw [ih (minor m j) s ?_ ?_]
  ·rw [← Int.mul_assoc, ← Int.mul_assoc, Int.mul_comm s, Int.mul_assoc (sg j * m 0 j)]
  ·intro i hi
   unfold minor
   rw [if_neg (by omega)]
   exact h (i + 1) (by omega)
  ·unfold minor
   rw [if_neg (by omega)]
   exact hs

theorem det_idm : ∀ n, det n idm = 1 := by
 intro n
 induction n with
 | zero => rfl
 | succ n ih =>
  rw [det_foot n idm 1 (fun i hi => if_neg (by omega)) (if_pos rfl), ih]
  rfl

/-- a to the power p. -/
def mp (n : Nat) (a : Nat → Nat → Int) : Nat → Nat → Nat → Int
 | 0 => idm
 | p + 1 => mul n (mp n a p) a

theorem nc_pow (n : Nat) (a : Nat → Nat → Int) : ∀ (m k j : Nat), k < n → j < n → nc n a m k j = Sm (m + 1) (fun t => ch n a t * mp n a (m - t) k j) := by
 intro m
 induction m with
 | zero =>
  intro k j hk hj
  rw [nc_step n a 0 k j hk hj, if_pos rfl, Int.zero_add]
  show _ = 0 + ch n a 0 * idm k j
  unfold idm
  split
  ·omega
  ·omega
 | succ m ih =>
  intro k j hk hj
  rw [nc_step n a (m + 1) k j hk hj, if_neg (by omega), Nat.add_sub_cancel]
  show _ = Sm (m + 1) (fun t => ch n a t * mp n a (m + 1 - t) k j) + ch n a (m + 1) * mp n a (m + 1 - (m + 1)) k j
  rw [Nat.sub_self]
  congr 1
  ·rw [Sm_congr (g := fun i => Sm (m + 1) (fun t => ch n a t * mp n a (m - t) k i * a i j)) (fun i hi => by
    rw [ih k i hk hi, ← Sm_mul_right]), Sm_swap]
   refine Sm_congr (fun t ht => ?_)
   rw [show m + 1 - t = (m - t) + 1 by omega]
   show _ = ch n a t * Sm n (fun i => mp n a (m - t) k i * a i j)
   rw [← Sm_mul_left]
   exact Sm_congr (fun i _ => Int.mul_assoc _ _ _)
  ·show _ = ch n a (m + 1) * idm k j
   unfold idm
   split
   ·omega
   ·omega
/-- The wrapped coefficients, k of them. -/
def chL (n : Nat) (a : Nat → Nat → Int) (k : Nat) : List Int := rowOf k (fun m => wrap64 (ch n a m))

theorem rowOf_snoc (k : Nat) (f : Nat → Int) : rowOf k f ++ [f k] = rowOf (k + 1) f := (map_range_succ f k).symm

/-- What is multiplied by the rows, ahead of step k. -/
def pre (n : Nat) (a : Nat → Nat → Int) : Nat → Nat → Nat → Int
 | 0 => fun _ _ => 0
 | k + 1 => nc n a k

def wm (n : Nat) (x : Nat → Nat → Int) : List (List Int) := ofFn n (fun i j => wrap64 (x i j))

theorem wm_mat {n i j : Nat} (x : Nat → Nat → Int) (hi : i < n) (hj : j < n) : mat (wm n x) i j = wrap64 (x i j) := ofFn_mat _ hi hj

theorem part_wm (n : Nat) (a : List (List Int)) (x : Nat → Nat → Int) : ofFn n (part a (wm n x) n) = wm n (mul n (mat a) x) := by
 refine ofFn_congr (fun i j hi hj => ?_)
 unfold part
 exact wrap_Sm (fun k hk => by rw [wm_mat x hk hj, wrap_mul_right])

theorem zeros_wm (n : Nat) (a : Nat → Nat → Int) : zeros n = wm n (pre n a 0) := by
 unfold wm ofFn zeros
 apply List.ext_getElem
 ·simp
 ·intro i h1 h2
  simp only [List.getElem_replicate, List.getElem_map, List.getElem_range]
  rw [← rowOf_zero]
  exact rowOf_congr (fun j _ => (wrap_id (x := 0) (by decide) (by decide)).symm)

/-- The next ones: the product, and the last coefficient in the diagonal. -/
theorem nc_next (n : Nat) (a : Nat → Nat → Int) (k i j : Nat) (hi : i < n) (hj : j < n) : nc n a k i j = mul n a (pre n a k) i j + if i = j then ch n a k else 0 := by
 rw [nc_step n a k i j hi hj]
 congr 1
 match k with
 | 0 =>
  rw [if_pos rfl]
  unfold mul pre
  rw [Sm_congr (g := fun _ => 0) (fun q _ => Int.mul_zero _), Sm_zero]
 | k + 1 =>
  rw [if_neg (by omega), Nat.add_sub_cancel]
  exact (nc_comm n a k i j hi hj).symm

section
variable (n : Nat) (hn : n ≤ 1000) (a : List (List Int)) (ha : Sq n a)

/-- While the diagonal is told before s. -/
def diagW (k s : Nat) : List (List Int) := ofFn n (fun i j => wrap64 (mul n (mat a) (pre n (mat a) k) i j + if i = j ∧ i < s then ch n (mat a) k else 0))

theorem diagW_zero (k : Nat) : diagW n a k 0 = wm n (mul n (mat a) (pre n (mat a) k)) := by
 refine ofFn_congr (fun i j hi hj => ?_)
 rw [if_neg (by omega), Int.add_zero]

theorem diagW_end (k : Nat) : diagW n a k n = wm n (nc n (mat a) k) := by
 refine ofFn_congr (fun i j hi hj => ?_)
 rw [nc_next n (mat a) k i j hi hj]
 by_cases c : i = j
 ·rw [if_pos c, if_pos ⟨c, hi⟩]
 ·rw [if_neg c, if_neg (fun z => c z.1)]

theorem diagW_row (k s : Nat) (hs : s < n) : rd_L1 (diagW n a k s) (s : Int) = rowOf n (fun j => wrap64 (mul n (mat a) (pre n (mat a) k) s j)) := by
 unfold diagW
 rw [ofFn_row _ hs]
 refine rowOf_congr (fun j _ => ?_)
 rw [if_neg (by omega), Int.add_zero]

theorem diagW_set (k s : Nat) (hs : s < n) : (diagW n a k s).set s ((rd_L1 (diagW n a k s) (s : Int)).set s (wrap64 (rd (rd_L1 (diagW n a k s) (s : Int)) (s : Int) + wrap64 (ch n (mat a) k)))) = diagW n a k (s + 1) := by
 rw [diagW_row n a k s hs, rowOf_rd _ hs, rowOf_set _ _ hs]
 unfold diagW
 rw [ofFn_set _ _ hs]
 refine ofFn_congr (fun i j hi hj => ?_)
 by_cases e : i = s
 ·subst e
  rw [if_pos rfl]
  by_cases e2 : j = i
  ·rw [if_pos e2, wrap_add_wrap, if_pos ⟨e2.symm, by omega⟩, e2]
  ·rw [if_neg e2, if_neg (fun z => e2 z.1.symm), Int.add_zero]
 ·rw [if_neg e]
  by_cases c : i = j ∧ i < s
  ·rw [if_pos c, if_pos ⟨c.1, by omega⟩]
  ·rw [if_neg c, if_neg (fun z => c ⟨z.1, by omega⟩)]

include hn ha

theorem fdDiag (k : Nat) (hk : k < n) (res : List Int)
  (h : Ev (fun f => (impl_rowsTimes.f f a (wm n (nc n (mat a) k))).bind fun t => (impl_trace.f f t).bind fun t2 => if ((k + 1 : Nat) : Int) = 0 then none else if (chL n (mat a) (k + 1)).length < 17592186044416 then impl_determinant.l0 f a (chL n (mat a) (k + 1) ++ [wrap64 (Int.tdiv (wrap64 (-t2)) ((k + 1 : Nat) : Int))]) (wm n (nc n (mat a) k)) (wrap64 (((k + 1 : Nat) : Int) + 1)) else none) res) :
  ∀ (d s : Nat), s + d = n → Ev (fun f => impl_determinant.l1 f a (chL n (mat a) (k + 1)) (diagW n a k s) ((k + 1 : Nat) : Int) (n : Int) (s : Int)) res := by
 have hlc : (chL n (mat a) (k + 1)).length = k + 1 := rowOf_length _ _
 intro d
 induction d with
 | zero =>
  intro s hs
  obtain rfl : s = n := by omega
  rw [← diagW_end] at h
  refine Ev.succ ?_; simp only [impl_determinant.l1]
  exact Ev.neg (by omega) h
 | succ d ih =>
  intro s hs
  have h1 := ih (s + 1) (by omega)
  have hl : (diagW n a k s).length = n := ofFn_length _ _
  have hrow : (rd_L1 (diagW n a k s) (s : Int)).length = n := by rw [diagW_row n a k s (by omega), rowOf_length]
  have e2 : rd (chL n (mat a) (k + 1)) (k : Int) = wrap64 (ch n (mat a) k) := rowOf_rd _ (by omega)
  rw [← diagW_set n a k s (by omega)] at h1
  refine Ev.succ ?_; simp only [impl_determinant.l1]
  rw [wrap_id (x := ((k + 1 : Nat) : Int) - 1) (by omega) (by omega), show ((k + 1 : Nat) : Int) - 1 = (k : Int) by omega, e2, wrap_succ (i := s) (by omega), Int.toNat_natCast]
  repeat (first | with_reducible exact Ev.now _ | dsimp only | refine Ev.pos (by first | omega | rfl | assumption | decide) ?_ | refine Ev.neg (by first | omega | assumption | exact Bool.false_ne_true | exact fun e => absurd e (by decide)) ?_ | simp only [bne_self_eq_false, Bool.not_true, Bool.not_false, List.length_cons, List.length_nil] | rw [wrap_id (by omega) (by omega)] | ((with_reducible refine Ev.eq (congrArg some ?_)); rfl))
  exact h1

theorem fdAll (hb : ∀ k, 1 ≤ k → k ≤ n → ab ((k : Int) * ch n (mat a) k) ≤ 9223372036854775807) : ∀ (d k : Nat), k + d = n → Ev (fun f => impl_determinant.l0 f a (chL n (mat a) (k + 1)) (wm n (pre n (mat a) k)) ((k + 1 : Nat) : Int)) (trimN (chL n (mat a) (n + 1)) (n + 1)) := by
 have hal := ha.1
 intro d
 induction d with
 | zero =>
  intro k hk
  obtain rfl : k = n := by omega
  have hl : (chL k (mat a) (k + 1)).length = k + 1 := rowOf_length _ _
  have h1 := implTrim (chL k (mat a) (k + 1)) (by omega)
  rw [hl] at h1
  refine Ev.succ ?_; simp only [impl_determinant.l0]
  repeat (first | with_reducible exact Ev.now _ | dsimp only | with_reducible refine Ev.bind (h1) ?_ | refine Ev.pos (by first | omega | rfl | assumption | decide) ?_ | refine Ev.neg (by first | omega | assumption | exact Bool.false_ne_true | exact fun e => absurd e (by decide)) ?_ | simp only [bne_self_eq_false, Bool.not_true, Bool.not_false, List.length_cons, List.length_nil] | rw [wrap_id (by omega) (by omega)] | with_reducible exact (h1) | ((with_reducible refine Ev.eq (congrArg some ?_)); rfl))
 | succ d ih =>
  intro k hk
  have h1 := ih (k + 1) (by omega)
  have hlc : (chL n (mat a) (k + 1)).length = k + 1 := rowOf_length _ _
  have hp := rowsTimes n hn a (wm n (pre n (mat a) k)) ha (Sq_ofFn n _)
  rw [part_wm, ← diagW_zero] at hp
  have hp2 := rowsTimes n hn a (wm n (nc n (mat a) k)) ha (Sq_ofFn n _)
  rw [part_wm] at hp2
  have ht := trace n hn (wm n (mul n (mat a) (nc n (mat a) k))) (Sq_ofFn n _)
  have et : wrap64 (-wrap64 (tr n (mat (wm n (mul n (mat a) (nc n (mat a) k)))))) = ((k + 1 : Nat) : Int) * ch n (mat a) (k + 1) := by
   have e1 : wrap64 (tr n (mat (wm n (mul n (mat a) (nc n (mat a) k))))) = wrap64 (tn n (mat a) k) := by
    unfold tr
    rw [wrap_Sm (g := fun i => mul n (mat a) (nc n (mat a) k) i i) (fun i hi => by rw [wm_mat _ hi hi, wrap_wrap])]
    unfold tn
    rw [Sm_congr (fun i hi => nc_comm n (mat a) k i i hi hi)]
    rfl
   have hnw := newton n (mat a) k (by omega)
   have hb1 := hb (k + 1) (by omega) (by omega)
   rw [e1, wrap_neg, ← hnw]
   unfold ab at hb1
   exact wrap_id (by omega) (by omega)
  have eq : wrap64 (Int.tdiv (((k + 1 : Nat) : Int) * ch n (mat a) (k + 1)) ((k + 1 : Nat) : Int)) = wrap64 (ch n (mat a) (k + 1)) := by
   rw [Int.mul_tdiv_cancel_left _ (by omega)]
  have hl2 : (diagW n a k 0).length = n := ofFn_length _ _
  have h2 := fdDiag n hn a ha k (by omega) (trimN (chL n (mat a) (n + 1)) (n + 1)) (by
   refine Ev.bind hp2 (Ev.bind ht ?_)
   rw [et, eq, wrap_succ (i := k + 1) (by omega)]
   have e3 : chL n (mat a) (k + 1) ++ [wrap64 (ch n (mat a) (k + 1))] = chL n (mat a) (k + 1 + 1) := rowOf_snoc (k + 1) (fun m => wrap64 (ch n (mat a) m))
   rw [e3]
   repeat (first | with_reducible exact Ev.now _ | dsimp only | refine Ev.pos (by first | omega | rfl | assumption | decide) ?_ | refine Ev.neg (by first | omega | assumption | exact Bool.false_ne_true | exact fun e => absurd e (by decide)) ?_ | simp only [bne_self_eq_false, Bool.not_true, Bool.not_false, List.length_cons, List.length_nil] | rw [wrap_id (by omega) (by omega)] | ((with_reducible refine Ev.eq (congrArg some ?_)); rfl))
   exact h1) n 0 (by omega)
  refine Ev.succ ?_; simp only [impl_determinant.l0]
  refine Ev.pos (by omega) (Ev.bind hp ?_)
  rw [hl2]
  exact h2

theorem faddeev (hb : ∀ k, 1 ≤ k → k ≤ n → ab ((k : Int) * ch n (mat a) k) ≤ 9223372036854775807) : Ev (fun f => impl_determinant.f f a) (trimN (chL n (mat a) (n + 1)) (n + 1)) := by
 have h := fdAll n hn a ha hb n 0 (by omega)
 have e : chL n (mat a) (0 + 1) = [1] := by
  show [wrap64 (ch n (mat a) 0)] = [1]
  rw [show ch n (mat a) 0 = 1 from (dc_zero n idm (ng (mat a))).trans (det_idm n), wrap_id (by decide) (by decide)]
 unfold impl_determinant.f
 rw [ha.1]
 refine Ev.bind (implSquare (n : Int) (by omega) (by omega)) ?_
 rw [Int.toNat_natCast, zeros_wm n (mat a)]
 rw [e] at h
 exact h

end
/-- Each column f before k that has another one, p f, to lean on: less t f times that one. -/
def lean1 (p : Nat → Nat) (t : Nat → Int) (m : Nat → Nat → Int) (k : Nat) (i f : Nat) : Int := if f < k ∧ p f ≠ f then m i f - t f * m i (p f) else m i f

theorem det_lean (n : Nat) (p : Nat → Nat) (t : Nat → Int) (m : Nat → Nat → Int) (hp : ∀ f, f < n → p f < n) (hpp : ∀ f, f < n → p (p f) = p f) : ∀ k, k ≤ n → det n (lean1 p t m k) = det n m := by
 intro k
 induction k with
 | zero =>
  intro _
  refine det_congr n _ _ (fun i f _ _ => ?_)
  unfold lean1
  rw [if_neg (by omega)]
 | succ k ih =>
  intro hk
  have h0 := ih (by omega)
  by_cases e : p k = k
  ·rw [← h0]
   refine det_congr n _ _ (fun i f _ _ => ?_)
   unfold lean1
   by_cases c : f < k ∧ p f ≠ f
   ·rw [if_pos c, if_pos ⟨by omega, c.2⟩]
   ·rw [if_neg c, if_neg (fun z => ?_)]
    by_cases e2 : f = k
    ·exact z.2 (e2 ▸ e)
    ·exact c ⟨by omega, z.2⟩
  ·have h1 := det_lin n (lean1 p t m k) k 1 (-t k) (fun i => lean1 p t m k i k) (fun i => lean1 p t m k i (p k)) (by omega)
   rw [setc_self, h0] at h1
   have h2 : det n (setc (lean1 p t m k) k (fun i => lean1 p t m k i (p k))) = 0 := by
    refine det_same (p := k) (q := p k) (by omega) (hp k (by omega)) (fun z => e z.symm) (fun i => ?_)
    unfold setc
    rw [if_pos rfl, if_neg e]
   rw [h2, Int.mul_zero, Int.add_zero, Int.one_mul] at h1
   rw [← h1]
   refine det_congr n _ _ (fun i f _ _ => ?_)
   unfold setc
   by_cases e2 : f = k
   ·rw [if_pos e2, e2]
    have a1 : lean1 p t m (k + 1) i k = m i k - t k * m i (p k) := if_pos ⟨by omega, e⟩
    have a2 : lean1 p t m k i k = m i k := if_neg (by omega)
    have a3 : lean1 p t m k i (p k) = m i (p k) := if_neg (fun z => z.2 (hpp k (by omega)))
    show lean1 p t m (k + 1) i k = 1 * lean1 p t m k i k + -t k * lean1 p t m k i (p k)
    rw [a1, a2, a3, Int.neg_mul]
    omega
   ·rw [if_neg e2]
    unfold lean1
    by_cases c : f < k ∧ p f ≠ f
    ·rw [if_pos c, if_pos ⟨by omega, c.2⟩]
    ·rw [if_neg c, if_neg (fun z => c ⟨by omega, z.2⟩)]

theorem Sm_ge_one {n : Nat} {f : Nat → Int} (h : ∀ i, i < n → 0 ≤ f i) {i : Nat} (hi : i < n) : f i ≤ Sm n f := by
 induction n with
 | zero => omega
 | succ n ih =>
  have h1 : 0 ≤ Sm n f := Sm_nonneg (fun i hi => h i (by omega))
  have h2 := h n (by omega)
  unfold Sm
  by_cases e : i = n
  ·rw [e]; omega
  ·have := ih (fun i hi => h i (by omega)) (by omega)
   omega

/-- The same function of u has the same coefficients. -/
theorem ch_of (n : Nat) (x a b : Nat → Nat → Int) (h : ∀ u : Int, det n (xu x u) = det n (fun i k => a i k + u * b i k)) (m : Nat) : ch n x m = dc n a b m := by
 by_cases hm : n + 1 ≤ m
 ·rw [show ch n x m = 0 from dc_high n _ _ hm, dc_high n _ _ hm]
 have := coef_zero (n + 1) (fun m => ch n x m - dc n a b m) (fun u _ => by
  have h1 := h u
  have h2 := (det_coef n a b).2.1 u
  simp only at h2
  rw [det_xu, h2] at h1
  rw [Sm_congr (g := fun m => ch n x m * u ^ m + (-1) * (dc n a b m * u ^ m)) (fun m _ => by grind), Sm_add, Sm_mul_left]
  omega) m (by omega)
 omega

theorem ch_bound (n : Nat) (x a b : Nat → Nat → Int) (h : ∀ u : Int, det n (xu x u) = det n (fun i k => a i k + u * b i k)) (m : Nat) : ab (ch n x m) ≤ Pr n (cs n a b) := by
 rw [ch_of n x a b h m]
 by_cases hm : n + 1 ≤ m
 ·rw [dc_high n _ _ hm]
  exact Pr_nonneg (fun i _ => cs_nonneg n a b i)
 ·exact Int.le_trans (Sm_ge_one (f := fun i => ab (dc n a b i)) (fun i _ => ab_nonneg _) (by omega)) (det_coef n a b).2.2

/-- The columns behind the steps, of 1 - u x. -/
theorem ch_lean (n : Nat) (p : Nat → Nat) (t : Nat → Int) (x : Nat → Nat → Int) (hp : ∀ f, f < n → p f < n) (hpp : ∀ f, f < n → p (p f) = p f) (m : Nat) : ab (ch n x m) ≤ Pr n (cs n (lean1 p t idm n) (lean1 p t (ng x) n)) := by
 refine ch_bound n x _ _ (fun u => ?_) m
 rw [← det_lean n p t (xu x u) hp hpp n (Nat.le_refl _)]
 refine det_congr n _ _ (fun i f _ hf => ?_)
 unfold lean1 xu
 by_cases c : f < n ∧ p f ≠ f
 ·rw [if_pos c, if_pos c, if_pos c]
  grind
 ·rw [if_neg c, if_neg c, if_neg c]

/-- A product of factors, 20 at at most eight places, else 4. -/
theorem Pr_two (n : Nat) (q : Nat → Bool) : Pr n (fun i => if q i then 20 else 4) = 4 ^ n * 5 ^ (Sm n (fun i => if q i then 1 else 0)).toNat ∧ 0 ≤ Sm n (fun i => if q i then 1 else 0) := by
 induction n with
 | zero => exact ⟨rfl, Int.le_refl _⟩
 | succ n ih =>
  obtain ⟨h1, h2⟩ := ih
  unfold Pr Sm
  rw [h1]
  simp only
  by_cases c : q n = true
  ·rw [if_pos c, if_pos c]
   refine ⟨?_, by omega⟩
   rw [show (Sm n (fun i => if q i then 1 else 0) + 1).toNat = (Sm n (fun i => if q i then 1 else 0)).toNat + 1 by omega, Int.pow_succ, Int.pow_succ]
   generalize (4 : Int) ^ n = x
   generalize (5 : Int) ^ _ = y
   grind
  ·rw [if_neg c, if_neg c, Int.add_zero]
   refine ⟨?_, h2⟩
   rw [Int.pow_succ]
   generalize (4 : Int) ^ n = x
   generalize (5 : Int) ^ _ = y
   grind
def flip (e : Nat) : Nat := if e % 2 = 0 then e + 1 else e - 1

theorem flip_flip (e : Nat) : flip (flip e) = e := by
 unfold flip
 split <;> split <;> omega

theorem flip_lt {e m : Nat} (h : e < 2 * m) : flip e < 2 * m := by
 unfold flip
 split <;> omega

/-- The edge matrix. -/
def tm (b : Nat → Nat) (e f : Nat) : Int := if b f = b (flip e) ∧ f ≠ flip e then 1 else 0

theorem Sm_one_le (P : Nat → Prop) [DecidablePred P] (n : Nat) (h : ∀ f g, f < n → g < n → P f → P g → f = g) : Sm n (fun f => if P f then 1 else 0) ≤ 1 := by
 induction n with
 | zero => exact (by decide : (0 : Int) ≤ 1)
 | succ n ih =>
  have h1 := ih (fun f g hf hg => h f g (by omega) (by omega))
  show Sm n (fun f => if P f then 1 else 0) + (if P n then 1 else 0) ≤ 1
  by_cases c : P n
  ·have e : Sm n (fun f => if P f then (1 : Int) else 0) = 0 := by
    rw [Sm_congr (g := fun _ => 0) (fun f hf => if_neg (fun z => ?_)), Sm_zero]
    have := h f n (by omega) (by omega) z c
    omega
   rw [e, if_pos c]
   omega
  ·rw [if_neg c]
   omega

/-- The first place with the same number. -/
def rep (t : Nat → Nat) (q : Nat) : Nat := (List.range (q + 1)).findIdx (fun j => t j == t q)

theorem rep_spec (t : Nat → Nat) (q : Nat) : rep t q ≤ q ∧ t (rep t q) = t q ∧ ∀ j, j < rep t q → t j ≠ t q := by
 have hx : ∃ x ∈ List.range (q + 1), (fun j => t j == t q) x = true := ⟨q, List.mem_range.2 (by omega), by simp⟩
 have h1 := List.findIdx_lt_length_of_exists hx
 rw [List.length_range] at h1
 refine ⟨by unfold rep; omega, ?_, fun j hj e => ?_⟩
 ·have := List.findIdx_getElem (xs := List.range (q + 1)) (p := fun j => t j == t q) (w := by rw [List.length_range]; exact h1)
  rw [List.getElem_range] at this
  exact eq_of_beq this
 ·have h2 := List.not_of_lt_findIdx (p := fun j => t j == t q) (xs := List.range (q + 1)) (i := j) hj
  rw [List.getElem_range, e] at h2
  simp at h2

theorem rep_rep (t : Nat → Nat) (q : Nat) : rep t (rep t q) = rep t q := by
 obtain ⟨h1, h2, h3⟩ := rep_spec t q
 obtain ⟨g1, g2, g3⟩ := rep_spec t (rep t q)
 rcases Nat.lt_or_ge (rep t (rep t q)) (rep t q) with c | c
 ·exact absurd (g2.trans h2) (h3 _ c)
 ·omega

/-- As many first places as numbers, at most. -/
theorem reps_le (t : Nat → Nat) (V n : Nat) (ht : ∀ e, e < n → t e < V) : Sm n (fun f => if rep t f = f then 1 else 0) ≤ V := by
 have e : Sm n (fun f => if rep t f = f then (1 : Int) else 0) = Sm V (fun v => Sm n (fun f => if rep t f = f ∧ t f = v then 1 else 0)) := by
  rw [Sm_swap]
  refine Sm_congr (fun f hf => ?_)
  by_cases c : rep t f = f
  ·rw [if_pos c, Sm_congr (g := fun v => (if v = t f then 1 else 0) * 1) (fun v _ => ?_), Sm_pick' V (fun _ => 1) (ht f hf)]
   by_cases c2 : t f = v
   ·rw [if_pos ⟨c, c2⟩, if_pos c2.symm]; rfl
   ·rw [if_neg (fun z => c2 z.2), if_neg (fun z => c2 z.symm)]; rfl
  ·rw [if_neg c, Sm_congr (g := fun _ => 0) (fun v _ => if_neg (fun z => c z.1)), Sm_zero]
 rw [e]
 have := Sm_le (n := V) (f := fun v => Sm n (fun f => if rep t f = f ∧ t f = v then (1 : Int) else 0)) (b := 1) (fun v _ => Sm_one_le _ n (fun f g _ _ hf hg => by
  obtain ⟨f1, f2, f3⟩ := rep_spec t f
  obtain ⟨g1, g2, g3⟩ := rep_spec t g
  rw [hf.1] at f3
  rw [hg.1] at g3
  rcases Nat.lt_trichotomy f g with c | c | c
  ·exact absurd (hf.2.trans hg.2.symm) (g3 f c)
  ·exact c
  ·exact absurd (hg.2.trans hf.2.symm) (f3 g c)))
 omega

section
variable (m : Nat) (hm : m ≤ 10) (t : Nat → Nat) (s : Nat → Int) (hs : ∀ f, s f = 1 ∨ s f = -1)

/-- The edge matrix with signs. -/
def sm (e f : Nat) : Int := s f * tm t e f

theorem tm_range (e f : Nat) : tm t e f = 0 ∨ tm t e f = 1 := by
 unfold tm
 split
 ·exact .inr rfl
 ·exact .inl rfl

def is (a b : Nat) : Int := if a = b then 1 else 0

theorem is_sum (n a : Nat) (h : a < n) : Sm n (fun i => is i a) = 1 := by
 rw [← Sm_pick' n (fun _ => 1) h]
 exact Sm_congr (fun i _ => (Int.mul_one _).symm)

theorem tm_split (e f : Nat) : tm t e f = (if t f = t (flip e) then 1 else 0) - is e (flip f) := by
 unfold tm is
 have g1 : (f = flip e) = (e = flip f) := propext ⟨fun z => by rw [z, flip_flip], fun z => by rw [z, flip_flip]⟩
 by_cases c : e = flip f
 ·rw [if_pos c, if_neg (fun z => z.2 (by rw [g1]; exact c)), if_pos (by rw [c, flip_flip])]
  rfl
 ·rw [if_neg c]
  by_cases c2 : t f = t (flip e)
  ·rw [if_pos c2, if_pos ⟨c2, by rw [ne_eq, g1]; exact c⟩]; rfl
  ·rw [if_neg c2, if_neg (fun z => c2 z.1)]; rfl

include hs

theorem sm_cols (f : Nat) (hf : f < 2 * m) (hm : m ≤ 10) : cs (2 * m) (lean1 (rep t) (fun f => s f * s (rep t f)) idm (2 * m)) (lean1 (rep t) (fun f => s f * s (rep t f)) (ng (sm t s)) (2 * m)) f ≤ if rep t f = f then 20 else 4 := by
 obtain ⟨r1, r2, r3⟩ := rep_spec t f
 by_cases c : rep t f = f
 ·rw [if_pos c]
  have e : ∀ i, i < 2 * m → ab (lean1 (rep t) (fun f => s f * s (rep t f)) idm (2 * m) i f) + ab (lean1 (rep t) (fun f => s f * s (rep t f)) (ng (sm t s)) (2 * m) i f) ≤ 1 + is i f + -1 * is i (flip f) := by
   intro i hi
   unfold lean1
   rw [if_neg (fun z => z.2 c), if_neg (fun z => z.2 c)]
   have hx : ab (ng (sm t s) i f) = tm t i f := by
    unfold ng sm
    have := tm_range t i f
    rcases hs f with e1 | e1 <;> rcases this with e2 | e2 <;> rw [e1, e2] <;> rfl
   rw [hx, tm_split]
   unfold idm is ab
   split <;> split <;> split <;> omega
  refine Int.le_trans (Sm_mono e) ?_
  rw [Sm_add, Sm_add, Sm_mul_left, is_sum _ _ hf, is_sum _ _ (flip_lt hf)]
  have h2 : Sm (2 * m) (fun _ => (1 : Int)) ≤ ((2 * m : Nat) : Int) * 1 := Sm_le (fun _ _ => Int.le_refl _)
  omega
 ·rw [if_neg c]
  have e : ∀ i, i < 2 * m → ab (lean1 (rep t) (fun f => s f * s (rep t f)) idm (2 * m) i f) + ab (lean1 (rep t) (fun f => s f * s (rep t f)) (ng (sm t s)) (2 * m) i f) ≤ (is i f + is i (rep t f)) + (is i (flip f) + is i (flip (rep t f))) := by
   intro i hi
   unfold lean1
   rw [if_pos ⟨hf, c⟩, if_pos ⟨hf, c⟩]
   have hx : ab (ng (sm t s) i f - s f * s (rep t f) * ng (sm t s) i (rep t f)) ≤ is i (flip f) + is i (flip (rep t f)) := by
    unfold ng sm
    rw [tm_split, tm_split, r2]
    generalize (if t f = t (flip i) then (1 : Int) else 0) = z
    have a1 : is i (flip f) = 0 ∨ is i (flip f) = 1 := by unfold is; split <;> simp
    have a2 : is i (flip (rep t f)) = 0 ∨ is i (flip (rep t f)) = 1 := by unfold is; split <;> simp
    unfold ab
    rcases hs f with e1 | e1 <;> rcases hs (rep t f) with e2 | e2 <;> rcases a1 with e3 | e3 <;> rcases a2 with e4 | e4 <;> rw [e1, e2, e3, e4] <;> omega
   show ab (idm i f - s f * s (rep t f) * idm i (rep t f)) + ab (ng (sm t s) i f - s f * s (rep t f) * ng (sm t s) i (rep t f)) ≤ _
   have hy : ab (idm i f - s f * s (rep t f) * idm i (rep t f)) ≤ is i f + is i (rep t f) := by
    unfold idm is ab
    rcases hs f with e1 | e1 <;> rcases hs (rep t f) with e2 | e2 <;> rw [e1, e2] <;> split <;> split <;> omega
   omega
  refine Int.le_trans (Sm_mono e) ?_
  rw [Sm_add, Sm_add, Sm_add, is_sum _ _ hf, is_sum _ _ (by omega), is_sum _ _ (flip_lt hf), is_sum _ _ (flip_lt (by omega))]
  decide

theorem sm_bound (hm : m ≤ 10) (ht : ∀ e, e < 2 * m → t e < 8) (k : Nat) (hk : k ≤ 2 * m) : ab ((k : Int) * ch (2 * m) (sm t s) k) ≤ 9223372036854775807 := by
 have h1 := ch_lean (2 * m) (rep t) (fun f => s f * s (rep t f)) (sm t s) (fun f hf => by have := (rep_spec t f).1; omega) (fun f _ => rep_rep t f) k
 have h2 : Pr (2 * m) (cs (2 * m) (lean1 (rep t) (fun f => s f * s (rep t f)) idm (2 * m)) (lean1 (rep t) (fun f => s f * s (rep t f)) (ng (sm t s)) (2 * m))) ≤ Pr (2 * m) (fun i => if decide (rep t i = i) then 20 else 4) := Pr_mono (fun i _ => cs_nonneg _ _ _ _) (fun i hi => by
  have := sm_cols m t s hs i hi hm
  by_cases c : rep t i = i
  ·rw [if_pos c] at this
   rw [if_pos (decide_eq_true c)]
   exact this
  ·rw [if_neg c] at this
   rw [if_neg (by simpa using c)]
   exact this)
 obtain ⟨p1, p2⟩ := Pr_two (2 * m) (fun i => decide (rep t i = i))
 rw [p1] at h2
 have h3 := reps_le t 8 (2 * m) ht
 have h3' : Sm (2 * m) (fun i => if decide (rep t i = i) = true then (1 : Int) else 0) ≤ 8 := by
  rw [Sm_congr (g := fun f => if rep t f = f then (1 : Int) else 0) (fun i _ => by simp)]
  exact h3
 generalize Sm (2 * m) (fun i => if decide (rep t i = i) = true then (1 : Int) else 0) = x at *
 have h4 : (5 : Int) ^ x.toNat ≤ 390625 := by
  have : ∀ i : Fin 9, (5 : Int) ^ i.val ≤ 390625 := by decide
  exact this ⟨x.toNat, by omega⟩
 have h5 : (4 : Int) ^ (2 * m) ≤ 1099511627776 := by
  have : ∀ i : Fin 21, (4 : Int) ^ i.val ≤ 1099511627776 := by decide
  exact this ⟨2 * m, by omega⟩
 have h6 : (4 : Int) ^ (2 * m) * 5 ^ x.toNat ≤ 1099511627776 * 5 ^ x.toNat := Int.mul_le_mul_of_nonneg_right h5 (Int.pow_nonneg (by decide))
 rw [ab_mul]
 have h7 : ab (k : Int) ≤ 20 := by unfold ab; omega
 have h8 : ab (k : Int) * ab (ch (2 * m) (sm t s) k) ≤ 20 * ab (ch (2 * m) (sm t s) k) := Int.mul_le_mul_of_nonneg_right h7 (ab_nonneg _)
 omega

end
/-- The product of two series. -/
def cw (f g : Nat → Int) (n : Nat) : Int := Sm (n + 1) (fun i => f i * g (n - i))

theorem Sm_rev : ∀ (n : Nat) (f : Nat → Int), Sm (n + 1) f = Sm (n + 1) (fun i => f (n - i)) := by
 intro n
 induction n with
 | zero => intro f; rfl
 | succ n ih =>
  intro f
  rw [Sm_first (n + 1) (fun i => f (n + 1 - i))]
  show Sm (n + 1) f + f (n + 1) = f (n + 1 - 0) + Sm (n + 1) (fun i => f (n + 1 - (i + 1)))
  rw [ih f, Int.add_comm]
  congr 1
  exact Sm_congr (fun i _ => by rw [Nat.add_sub_add_right])

theorem cw_comm (f g : Nat → Int) (n : Nat) : cw f g n = cw g f n := by
 unfold cw
 rw [Sm_rev]
 refine Sm_congr (fun i hi => ?_)
 rw [show n - (n - i) = i by omega, Int.mul_comm]

theorem Sm_tri (a : Nat → Nat → Int) : ∀ n, Sm (n + 1) (fun k => Sm (k + 1) (fun i => a i (k - i))) = Sm (n + 1) (fun i => Sm (n - i + 1) (fun j => a i j)) := by
 intro n
 induction n with
 | zero => rfl
 | succ n ih =>
  show Sm (n + 1) (fun k => Sm (k + 1) (fun i => a i (k - i))) + (Sm (n + 1) (fun i => a i (n + 1 - i)) + a (n + 1) (n + 1 - (n + 1))) = Sm (n + 1) (fun i => Sm (n + 1 - i + 1) (fun j => a i j)) + Sm (n + 1 - (n + 1) + 1) (fun j => a (n + 1) j)
  rw [ih, Nat.sub_self]
  have e : Sm (n + 1) (fun i => Sm (n + 1 - i + 1) (fun j => a i j)) = Sm (n + 1) (fun i => Sm (n - i + 1) (fun j => a i j)) + Sm (n + 1) (fun i => a i (n + 1 - i)) := by
   rw [← Sm_add]
   refine Sm_congr (fun i hi => ?_)
   rw [show n + 1 - i = n - i + 1 by omega]
   rfl
  rw [e]
  show _ = _ + (0 + a (n + 1) 0)
  omega

theorem cw_assoc (f g h : Nat → Int) (n : Nat) : cw (cw f g) h n = cw f (cw g h) n := by
 unfold cw
 rw [Sm_congr (g := fun k => Sm (k + 1) (fun i => f i * (g (k - i) * h (n - i - (k - i))))) (fun k hk => ?_)]
 ·rw [Sm_tri (fun i j => f i * (g j * h (n - i - j)))]
  exact Sm_congr (fun i _ => Sm_mul_left _ _ _)
 ·rw [← Sm_mul_right]
  refine Sm_congr (fun i hi => ?_)
  rw [show n - i - (k - i) = n - k by omega, Int.mul_assoc]

theorem cw_congr {f f' g g' : Nat → Int} {n : Nat} (hf : ∀ i, i ≤ n → f i = f' i) (hg : ∀ i, i ≤ n → g i = g' i) : cw f g n = cw f' g' n :=
 Sm_congr (fun i hi => by rw [hf i (by omega), hg (n - i) (by omega)])

theorem cw_add (f g h : Nat → Int) (n : Nat) : cw f (fun i => g i + h i) n = cw f g n + cw f h n := by
 unfold cw
 rw [← Sm_add]
 exact Sm_congr (fun i _ => Int.mul_add _ _ _)

/-- One. -/
def c1 (n : Nat) : Int := if n = 0 then 1 else 0

theorem cw_one_left (f : Nat → Int) (n : Nat) : cw c1 f n = f n := by
 unfold cw
 rw [Sm_first, Sm_congr (g := fun _ => 0) (fun i _ => by show (if i + 1 = 0 then (1 : Int) else 0) * _ = 0; rw [if_neg (by omega), Int.zero_mul]), Sm_zero]
 show (if 0 = 0 then (1 : Int) else 0) * f (n - 0) + 0 = f n
 rw [if_pos rfl, Nat.sub_zero]
 omega

/-- u times the derivative. -/
def dd (f : Nat → Int) (n : Nat) : Int := (n : Int) * f n

theorem dd_cw (f g : Nat → Int) (n : Nat) : dd (cw f g) n = cw (dd f) g n + cw f (dd g) n := by
 unfold dd cw
 rw [← Sm_mul_left, ← Sm_add]
 refine Sm_congr (fun i hi => ?_)
 rw [show (n : Int) = (i : Int) + ((n - i : Nat) : Int) by omega]
 grind

theorem cw_neg (f g : Nat → Int) (n : Nat) : cw f (fun i => -g i) n = -cw f g n := by
 have : cw f (fun i => -g i) n = (-1) * cw f g n := by
  unfold cw
  rw [← Sm_mul_left]
  refine Sm_congr (fun i _ => ?_)
  grind
 omega

/-- The trace of a to the power j, for j at least 1. -/
def pt (n : Nat) (a : Nat → Nat → Int) (j : Nat) : Int := if j = 0 then 0 else tr n (pw n a (j - 1))

theorem mp_pw (n : Nat) (a : Nat → Nat → Int) : ∀ (p i k : Nat), i < n → k < n → mp n a (p + 1) i k = pw n a p i k := by
 intro p
 induction p with
 | zero =>
  intro i k hi hk
  show Sm n (fun q => idm i q * a q k) = a i k
  rw [Sm_congr (g := fun q => (if q = i then 1 else 0) * a q k) (fun q _ => ?_), Sm_pick' n (fun q => a q k) hi]
  unfold idm
  by_cases c : i = q
  ·rw [if_pos c, if_pos c.symm]
  ·rw [if_neg c, if_neg (fun z => c z.symm)]
 | succ p ih =>
  intro i k hi hk
  exact Sm_congr (fun q hq => by rw [ih i q hi hq])

theorem tn_pt (n : Nat) (a : Nat → Nat → Int) (m : Nat) : tn n a m = Sm (m + 1) (fun t => ch n a t * pt n a (m + 1 - t)) := by
 unfold tn
 rw [Sm_congr (g := fun k => Sm (m + 1) (fun t => ch n a t * mp n a (m - t + 1) k k)) (fun k hk => ?_), Sm_swap]
 ·refine Sm_congr (fun t ht => ?_)
  rw [Sm_mul_left]
  congr 1
  unfold pt tr
  rw [if_neg (by omega), show m + 1 - t - 1 = m - t by omega]
  exact Sm_congr (fun k hk => mp_pw n a (m - t) k k hk hk)
 ·rw [Sm_congr (g := fun i => Sm (m + 1) (fun t => ch n a t * (mp n a (m - t) k i * a i k))) (fun i hi => by
   rw [nc_pow n a m k i hk hi, ← Sm_mul_right]
   exact Sm_congr (fun t _ => Int.mul_assoc _ _ _)), Sm_swap]
  exact Sm_congr (fun t _ => Sm_mul_left _ _ _)

theorem newton_all (n : Nat) (a : Nat → Nat → Int) (m : Nat) : ((m + 1 : Nat) : Int) * ch n a (m + 1) = - tn n a m := by
 by_cases c : m < n + 1
 ·exact newton n a m c
 ·rw [show ch n a (m + 1) = 0 from dc_high n _ _ (by omega), Int.mul_zero]
  unfold tn
  rw [Sm_congr (g := fun _ => 0) (fun k hk => by
   rw [Sm_congr (g := fun _ => 0) (fun i _ => by rw [nc_end n a m k i hk (by omega), Int.zero_mul]), Sm_zero]), Sm_zero]
  rfl

theorem newton_cw (n : Nat) (a : Nat → Nat → Int) (m : Nat) : dd (ch n a) m = - cw (pt n a) (ch n a) m := by
 match m with
 | 0 =>
  show ((0 : Nat) : Int) * _ = -(0 + pt n a 0 * ch n a 0)
  unfold pt
  rw [if_pos rfl]
  simp
 | m + 1 =>
  show ((m + 1 : Nat) : Int) * ch n a (m + 1) = _
  rw [newton_all, tn_pt, cw_comm]
  unfold cw
  show _ = -(Sm (m + 1) (fun i => ch n a i * pt n a (m + 1 - i)) + ch n a (m + 1) * pt n a (m + 1 - (m + 1)))
  rw [Nat.sub_self, show pt n a 0 = 0 from if_pos rfl, Int.mul_zero, Int.add_zero]
theorem ch_congr (n : Nat) (a b : Nat → Nat → Int) (h : ∀ i j, i < n → j < n → a i j = b i j) (m : Nat) : ch n a m = ch n b m :=
 ch_of n a idm (ng b) (fun u => det_congr n _ _ (fun i j hi hj => by
  unfold xu ng
  rw [h i j hi hj])) m

/-- The vertex where a directed edge begins. -/
def tv (l : List (List Int)) (e : Nat) : Nat := (tl l e).toNat

section
variable {n : Int} {l : List (List Int)} (h : isGraph n l = true)
include h

theorem tl_range {e : Nat} (he : e < 2 * l.length) : 0 ≤ tl l e ∧ tl l e < n := by
 obtain ⟨e2, a, b, ea, eb, ha, hb⟩ := graph_edge h (show e / 2 < l.length by omega)
 unfold tl
 split
 ·rw [eb]; omega
 ·rw [ea]; omega

theorem tv_lt {e : Nat} (he : e < 2 * l.length) : (tv l e : Int) < n := by
 have := tl_range h he
 unfold tv
 omega

omit h in
theorem hd_flip (e : Nat) : hd l e = tl l (flip e) := by
 unfold hd tl flip
 by_cases c : e % 2 = 0
 ·rw [if_neg (show ¬ e % 2 = 1 by omega), if_pos c, if_pos (by omega), show (e + 1) / 2 = e / 2 by omega]
 ·rw [if_pos (show e % 2 = 1 by omega), if_neg c, if_neg (by omega), show (e - 1) / 2 = e / 2 by omega]

theorem W_tm {p q : Nat} (hp : p < 2 * l.length) (hq : q < 2 * l.length) : W l p q = tm (tv l) p q := by
 have h1 := tl_range h hq
 have h2 := tl_range h (flip_lt hp)
 have e : (next l p q = true) = (tv l q = tv l (flip p) ∧ q ≠ flip p) := propext (by
  rw [next_split, hd_flip]
  unfold tv
  show _ ∧ q ≠ flip p ↔ _
  constructor
  ·rintro ⟨a, b⟩; exact ⟨by rw [a], b⟩
  ·rintro ⟨a, b⟩; exact ⟨by omega, b⟩)
 unfold W tm
 simp only [e]

/-- The reciprocal, as a list. -/
def recL (l : List (List Int)) : List Int := trimN (chL (2 * l.length) (W l) (2 * l.length + 1)) (2 * l.length + 1)

omit h in
theorem chL_congr (n : Nat) (a b : Nat → Nat → Int) (h : ∀ i j, i < n → j < n → a i j = b i j) (k : Nat) : chL n a k = chL n b k := rowOf_congr (fun m _ => by rw [ch_congr n a b h m])

theorem W_bound (k : Nat) (hk : k ≤ 2 * l.length) : ab ((k : Int) * ch (2 * l.length) (W l) k) ≤ 9223372036854775807 := by
 obtain ⟨g1, g2, g3⟩ := graph_small h
 have h1 := sm_bound l.length (tv l) (fun _ => 1) (fun _ => .inl rfl) g3 (fun e he => by have := tv_lt h he; omega) k hk
 rw [ch_congr _ (sm (tv l) (fun _ => 1)) (W l) (fun i j hi hj => by
  rw [W_tm h hi hj]
  unfold sm
  rw [Int.one_mul]) k] at h1
 exact h1

theorem implRecip : Ev (fun k => impl_Graph_reciprocal.f k n l) (recL l) := by
 obtain ⟨g1, g2, g3⟩ := graph_small h
 have h1 := faddeev (2 * l.length) (by omega) (ofFn (2 * l.length) (W l)) (Sq_ofFn _ _) (fun k _ hk => by
  rw [ch_congr _ _ (W l) (fun i j hi hj => ofFn_mat _ hi hj)]
  exact W_bound h k hk)
 rw [chL_congr _ _ (W l) (fun i j hi hj => ofFn_mat _ hi hj), ← edgeM_ofFn] at h1
 unfold impl_Graph_reciprocal.f recL
 refine Ev.bind (implEdgeM h) ?_
 exact Ev.bind h1 (Ev.now _)

end

theorem trimN_rd (l : List Int) : ∀ n j : Nat, rd (trimN l n) (j : Int) = if j < n then rd l (j : Int) else 0 := by
 intro n
 induction n with
 | zero => intro j; rfl
 | succ n ih =>
  intro j
  unfold trimN
  by_cases c : rd l (n : Int) = 0
  ·rw [if_pos c, ih j]
   by_cases c1 : j < n
   ·rw [if_pos c1, if_pos (by omega)]
   ·rw [if_neg c1]
    by_cases c2 : j < n + 1
    ·rw [if_pos c2, show j = n by omega, c]
    ·rw [if_neg c2]
  ·rw [if_neg c]
   simp only [rd, List.getD_eq_getElem?_getD, Int.toNat_natCast, List.getElem?_take]
   split <;> rfl

/-- The coefficients of the reciprocal. -/
def rf (l : List (List Int)) : Nat → Int := ch (2 * l.length) (W l)

theorem ch_fit {n : Int} {l : List (List Int)} (h : isGraph n l = true) (m : Nat) : -9223372036854775807 ≤ rf l m ∧ rf l m ≤ 9223372036854775807 := by
 unfold rf
 by_cases c : m ≤ 2 * l.length
 ·by_cases c0 : m = 0
  ·rw [c0, show ch (2 * l.length) (W l) 0 = 1 from (dc_zero _ idm (ng (W l))).trans (det_idm _)]
   decide
  ·have := W_bound h m c
   rw [ab_mul] at this
   have h2 : 1 * ab (ch (2 * l.length) (W l) m) ≤ ab (m : Int) * ab (ch (2 * l.length) (W l) m) := Int.mul_le_mul_of_nonneg_right (by unfold ab; omega) (ab_nonneg _)
   unfold ab at this h2
   omega
 ·rw [show ch (2 * l.length) (W l) m = 0 from dc_high _ _ _ (by omega)]
  decide

theorem recL_rd {n : Int} {l : List (List Int)} (h : isGraph n l = true) (j : Nat) : rd (recL l) (j : Int) = rf l j := by
 unfold recL
 rw [trimN_rd]
 by_cases c : j < 2 * l.length + 1
 ·rw [if_pos c]
  unfold chL
  rw [rowOf_rd _ c]
  have := ch_fit h j
  unfold rf at *
  exact wrap_id (by omega) (by omega)
 ·rw [if_neg c]
  exact (dc_high _ _ _ (by omega)).symm

theorem rf_zero (l : List (List Int)) : rf l 0 = 1 := (dc_zero _ idm (ng (W l))).trans (det_idm _)

theorem pw_small (l : List (List Int)) (N : Nat) : ∀ (p i k : Nat), 0 ≤ pw N (W l) p i k ∧ pw N (W l) p i k ≤ (N : Int) ^ p := by
 intro p
 induction p with
 | zero =>
  intro i k
  rw [Int.pow_zero]
  exact W_range l i k
 | succ p ih =>
  intro i k
  refine ⟨Sm_nonneg (fun q _ => Int.mul_nonneg (ih i q).1 (W_range l q k).1), ?_⟩
  have : mul N (pw N (W l) p) (W l) i k ≤ N * (N : Int) ^ p := Sm_le (fun q _ => by
   have h1 := ih i q
   have h2 := W_range l q k
   have : pw N (W l) p i q * W l q k ≤ pw N (W l) p i q * 1 := Int.mul_le_mul_of_nonneg_left h2.2 h1.1
   omega)
  rw [Int.pow_succ, Int.mul_comm ((N : Int) ^ p)]
  exact this

theorem pt_small (l : List (List Int)) (hl : l.length ≤ 10) (j : Nat) (hj : 1 ≤ j) : 0 ≤ pt (2 * l.length) (W l) j ∧ pt (2 * l.length) (W l) j ≤ 20 ^ j := by
 unfold pt tr
 rw [if_neg (by omega)]
 refine ⟨Sm_nonneg (fun i _ => (pw_small l _ _ i i).1), ?_⟩
 have h1 : Sm (2 * l.length) (fun i => pw (2 * l.length) (W l) (j - 1) i i) ≤ (2 * l.length : Nat) * 20 ^ (j - 1) := Sm_le (fun i _ => by
  refine Int.le_trans (pw_small l _ _ i i).2 ?_
  have : ∀ (q : Nat), ((2 * l.length : Nat) : Int) ^ q ≤ 20 ^ q := by
   intro q
   induction q with
   | zero => exact Int.le_refl _
   | succ q ih =>
    rw [Int.pow_succ, Int.pow_succ]
    have a1 : ((2 * l.length : Nat) : Int) ^ q * ((2 * l.length : Nat) : Int) ≤ 20 ^ q * ((2 * l.length : Nat) : Int) := Int.mul_le_mul_of_nonneg_right ih (by omega)
    have a2 : (20 : Int) ^ q * ((2 * l.length : Nat) : Int) ≤ 20 ^ q * 20 := Int.mul_le_mul_of_nonneg_left (by omega) (Int.pow_nonneg (by decide))
    omega
  exact this _)
 have h2 : ((2 * l.length : Nat) : Int) * 20 ^ (j - 1) ≤ 20 * 20 ^ (j - 1) := Int.mul_le_mul_of_nonneg_right (by omega) (Int.pow_nonneg (by decide))
 have h3 : (20 : Int) ^ j = 20 * 20 ^ (j - 1) := by
  obtain ⟨q, rfl⟩ : ∃ q, j = q + 1 := ⟨j - 1, by omega⟩
  rw [Nat.add_sub_cancel, Int.pow_succ, Int.mul_comm]
 omega

theorem Sm_cut2 (f : Nat → Int) {d e : Nat} (hde : d ≤ e) (h : ∀ i, d ≤ i → f i = 0) : Sm e f = Sm d f := by
 induction e with
 | zero => rw [show d = 0 by omega]
 | succ e ih =>
  by_cases c : d = e + 1
  ·rw [c]
  ·show Sm e f + f e = _
   rw [ih (by omega), h e (by omega), Int.add_zero]

/-- f has the logarithm's derivative -P. -/
def LD (f P : Nat → Int) : Prop := ∀ n, dd f n = - cw P f n

theorem LD_mul {f g P Q : Nat → Int} (hf : LD f P) (hg : LD g Q) : LD (cw f g) (fun i => P i + Q i) := by
 intro n
 have e1 : cw (dd f) g n = - cw P (cw f g) n := by
  rw [cw_congr (f' := fun i => -cw P f i) (fun i _ => hf i) (fun _ _ => rfl), cw_comm, cw_neg, cw_comm, cw_assoc]
 have e2 : cw f (dd g) n = - cw Q (cw f g) n := by
  rw [cw_congr (g' := fun i => -cw Q g i) (fun _ _ => rfl) (fun i _ => hg i), cw_neg, ← cw_assoc, cw_congr (f' := cw Q f) (fun i _ => cw_comm _ _ _) (fun _ _ => rfl), cw_assoc]
 rw [dd_cw, e1, e2, cw_comm (fun i => P i + Q i), cw_add, cw_comm _ P, cw_comm _ Q]
 omega

theorem LD_one : LD c1 (fun _ => 0) := by
 intro n
 unfold dd cw
 rw [Sm_congr (g := fun _ => 0) (fun i _ => Int.zero_mul _), Sm_zero]
 unfold c1
 by_cases c : n = 0
 ·rw [c]; rfl
 ·rw [if_neg c, Int.mul_zero]; rfl

theorem LD_congr {f P Q : Nat → Int} (h : LD f P) (e : ∀ i, P i = Q i) : LD f Q := by
 intro n
 rw [h n, cw_congr (fun i _ => e i) (fun _ _ => rfl)]

/-- 1 - u^d. -/
def fac (d n : Nat) : Int := if n = 0 then 1 else if n = d then -1 else 0

def ps (d i : Nat) : Int := if i = 0 then 0 else if i % d = 0 then (d : Int) else 0

theorem fac_cw (d : Nat) (hd : 0 < d) (g : Nat → Int) (n : Nat) : cw (fac d) g n = g n - (if d ≤ n then g (n - d) else 0) := by
 unfold cw
 rw [Sm_first]
 show 1 * g (n - 0) + _ = _
 rw [Nat.sub_zero, Int.one_mul]
 by_cases c : d ≤ n
 ·rw [if_pos c, Sm_congr (g := fun i => (if i = d - 1 then 1 else 0) * (-g (n - (i + 1)))) (fun i hi => ?_), Sm_pick' n (fun i => -g (n - (i + 1))) (show d - 1 < n by omega), show d - 1 + 1 = d by omega]
  ·omega
  ·unfold fac
   rw [if_neg (by omega)]
   by_cases c2 : i = d - 1
   ·rw [if_pos (by omega), if_pos c2]; omega
   ·rw [if_neg (by omega), if_neg c2, Int.zero_mul, Int.zero_mul]
 ·rw [if_neg c, Sm_congr (g := fun _ => 0) (fun i hi => ?_), Sm_zero]
  ·omega
  ·unfold fac
   rw [if_neg (by omega), if_neg (by omega), Int.zero_mul]

theorem LD_fac (d : Nat) (hd : 0 < d) : LD (fac d) (ps d) := by
 intro n
 rw [cw_comm, fac_cw d hd]
 unfold dd fac ps
 by_cases c0 : n = 0
 ·subst c0
  rw [if_pos rfl, if_pos rfl]
  split <;> simp
 ·rw [if_neg c0, if_neg c0]
  by_cases c1 : n = d
  ·subst c1
   rw [if_pos rfl, Nat.mod_self, if_pos rfl, if_pos (Nat.le_refl _), Nat.sub_self, if_pos rfl]
   omega
  ·rw [if_neg c1]
   by_cases c2 : d ≤ n
   ·rw [if_pos c2, if_neg (show ¬ n - d = 0 by omega), show (n - d) % d = n % d from (Nat.mod_eq_sub_mod c2).symm]
    simp
   ·rw [if_neg c2, if_neg (show ¬ n % d = 0 by rw [Nat.mod_eq_of_lt (by omega)]; exact c0)]
    simp

/-- (1 - u^d)^c. -/
def fp (d : Nat) : Nat → Nat → Int
 | 0 => c1
 | c + 1 => cw (fac d) (fp d c)

theorem LD_fp (d : Nat) (hd : 0 < d) : ∀ c : Nat, LD (fp d c) (fun i => (c : Int) * ps d i) := by
 intro c
 induction c with
 | zero => exact LD_congr LD_one (fun i => by simp)
 | succ c ih => exact LD_congr (LD_mul (LD_fac d hd) ih) (fun i => by rw [show ((c + 1 : Nat) : Int) = 1 + (c : Int) by omega, Int.add_mul, Int.one_mul])

theorem fp_zero (d : Nat) : ∀ c : Nat, fp d c 0 = 1 := by
 intro c
 induction c with
 | zero => rfl
 | succ c ih =>
  show Sm 1 (fun i => fac d i * fp d c (0 - i)) = 1
  show 0 + fac d 0 * fp d c 0 = 1
  rw [ih]
  rfl

/-- The product of (1 - u^j)^(c j), j from 1 to m. -/
def prd (c : Nat → Nat) : Nat → Nat → Int
 | 0 => c1
 | m + 1 => cw (fp (m + 1) (c (m + 1))) (prd c m)

/-- Its logarithm's derivative, less its sign. -/
def Qd (c : Nat → Nat) (m i : Nat) : Int := Sm m (fun j => (c (j + 1) : Int) * ps (j + 1) i)

theorem LD_prd (c : Nat → Nat) : ∀ m, LD (prd c m) (Qd c m) := by
 intro m
 induction m with
 | zero => exact LD_one
 | succ m ih => exact LD_congr (LD_mul (LD_fp (m + 1) (by omega) (c (m + 1))) ih) (fun i => by
   show _ = Qd c m i + _
   rw [Int.add_comm])

theorem prd_zero (c : Nat → Nat) : ∀ m, prd c m 0 = 1 := by
 intro m
 induction m with
 | zero => rfl
 | succ m ih =>
  show 0 + fp (m + 1) (c (m + 1)) 0 * prd c m 0 = 1
  rw [ih, fp_zero]
  rfl

theorem ps_far {d i : Nat} (h : i < d) : ps d i = 0 := by
 unfold ps
 by_cases c : i = 0
 ·rw [if_pos c]
 ·rw [if_neg c, if_neg (by rw [Nat.mod_eq_of_lt h]; exact c)]

theorem Qd_zero (c : Nat → Nat) (m : Nat) : Qd c m 0 = 0 := by
 unfold Qd
 rw [Sm_congr (g := fun _ => 0) (fun j _ => by rw [show ps (j + 1) 0 = 0 from rfl, Int.mul_zero]), Sm_zero]

theorem Qd_cut (c : Nat → Nat) {m i : Nat} (h : i ≤ m) : Qd c m i = Qd c i i := by
 unfold Qd
 exact Sm_cut2 _ h (fun j hj => by rw [ps_far (by omega), Int.mul_zero])

/-- Two series with derivatives that agree up to n agree up to n. -/
theorem LD_same {f g P Q : Nat → Int} (hf : LD f P) (hg : LD g Q) (f0 : f 0 = g 0) (P0 : P 0 = 0) (Q0 : Q 0 = 0) (K : Nat) (hPQ : ∀ i, 1 ≤ i → i ≤ K → P i = Q i) : ∀ n, n ≤ K → f n = g n := by
 intro n
 induction n using Nat.strongRecOn with
 | _ n ih =>
  intro hn
  by_cases c : n = 0
  ·rw [c, f0]
  ·have h1 := hf n
   have h2 := hg n
   have e : cw P f n = cw Q g n := by
    unfold cw
    rw [Sm_first, Sm_first, P0, Q0, Int.zero_mul, Int.zero_mul]
    congr 1
    refine Sm_congr (fun i hi => ?_)
    rw [hPQ (i + 1) (by omega) (by omega), ih (n - (i + 1)) (by omega) (by omega)]
   unfold dd at h1 h2
   rw [e] at h1
   exact Int.eq_of_mul_eq_mul_left (show (n : Int) ≠ 0 by omega) (h1.trans h2.symm)

/-- Where they agree ahead of n, n divides the difference of the derivatives there. -/
theorem LD_next {f g P Q : Nat → Int} (hf : LD f P) (hg : LD g Q) (f0 : f 0 = 1) (g0 : g 0 = 1) (P0 : P 0 = 0) (Q0 : Q 0 = 0) (n : Nat) (hn : 1 ≤ n) (hPQ : ∀ i, 1 ≤ i → i < n → P i = Q i) : P n - Q n = (n : Int) * (g n - f n) := by
 have h0 := LD_same hf hg (f0.trans g0.symm) P0 Q0 (n - 1) (fun i h1 h2 => hPQ i h1 (by omega))
 have h1 := hf n
 have h2 := hg n
 obtain ⟨m, rfl⟩ : ∃ m, n = m + 1 := ⟨n - 1, by omega⟩
 have e : cw P f (m + 1) - P (m + 1) = cw Q g (m + 1) - Q (m + 1) := by
  unfold cw
  show Sm (m + 1) (fun i => P i * f (m + 1 - i)) + P (m + 1) * f (m + 1 - (m + 1)) - P (m + 1) = Sm (m + 1) (fun i => Q i * g (m + 1 - i)) + Q (m + 1) * g (m + 1 - (m + 1)) - Q (m + 1)
  rw [Nat.sub_self, f0, g0, Sm_first, Sm_first, P0, Q0, Int.zero_mul, Int.zero_mul]
  have : Sm m (fun i => P (i + 1) * f (m + 1 - (i + 1))) = Sm m (fun i => Q (i + 1) * g (m + 1 - (i + 1))) := Sm_congr (fun i hi => by
   rw [hPQ (i + 1) (by omega) (by omega), h0 (m + 1 - (i + 1)) (by omega)])
  rw [this]
  omega
 unfold dd at h1 h2
 rw [Int.mul_sub]
 omega

/-- Numbers of choices. -/
def bn : Nat → Nat → Nat
 | _, 0 => 1
 | 0, _ + 1 => 0
 | c + 1, i + 1 => bn c i + bn c (i + 1)

theorem bn_step : ∀ (c i : Nat), (i + 1) * bn c (i + 1) + i * bn c i = c * bn c i := by
 intro c
 induction c with
 | zero =>
  intro i
  match i with
  | 0 => rfl
  | i + 1 => rfl
 | succ c ih =>
  intro i
  match i with
  | 0 =>
   have := ih 0
   show (0 + 1) * (bn c 0 + bn c (0 + 1)) + 0 * _ = (c + 1) * 1
   rw [show bn c 0 = 1 from by cases c <;> rfl] at *
   omega
  | i + 1 =>
   have h1 := ih i
   have h2 := ih (i + 1)
   show (i + 1 + 1) * (bn c (i + 1) + bn c (i + 1 + 1)) + (i + 1) * (bn c i + bn c (i + 1)) = (c + 1) * (bn c i + bn c (i + 1))
   grind

theorem bn_zero (c : Nat) : bn c 0 = 1 := by cases c <;> rfl

theorem bn_high : ∀ (c i : Nat), c < i → bn c i = 0 := by
 intro c
 induction c with
 | zero =>
  intro i hi
  match i, hi with
  | i + 1, _ => rfl
 | succ c ih =>
  intro i hi
  match i, hi with
  | i + 1, hi =>
   show bn c i + bn c (i + 1) = 0
   rw [ih i (by omega), ih (i + 1) (by omega)]

theorem bn_le (c : Nat) : ∀ i : Nat, bn c i ≤ c ^ i := by
 intro i
 induction i with
 | zero => rw [bn_zero]; exact Nat.le_refl _
 | succ i ih =>
  have h1 := bn_step c i
  have h2 : bn c (i + 1) ≤ (i + 1) * bn c (i + 1) := Nat.le_mul_of_pos_left _ (by omega)
  have h3 : c * bn c i ≤ c * c ^ i := Nat.mul_le_mul_left _ ih
  rw [Nat.pow_succ, Nat.mul_comm (c ^ i) c]
  omega

/-- The sign of i. -/
def sg1 (i : Nat) : Int := if i % 2 = 0 then 1 else -1

theorem sg1_succ (i : Nat) : sg1 (i + 1) = - sg1 i := by
 unfold sg1
 by_cases c : i % 2 = 0
 ·rw [if_pos c, if_neg (by omega)]
 ·rw [if_neg c, if_pos (by omega)]; rfl

/-- (1 - u^m)^c times g, up to i terms. -/
def part2 (m c : Nat) (g : Nat → Int) (i n : Nat) : Int := Sm i (fun t => if t * m ≤ n then sg1 t * (bn c t : Int) * g (n - t * m) else 0)

theorem part2_more (m : Nat) (hm : 0 < m) (c : Nat) (g : Nat → Int) {i j n : Nat} (hi : n < i * m) (hij : i ≤ j) : part2 m c g j n = part2 m c g i n := by
 unfold part2
 refine Sm_cut2 _ hij (fun t ht => ?_)
 rw [if_neg]
 have : i * m ≤ t * m := Nat.mul_le_mul_right _ ht
 omega

theorem fp_part (m : Nat) (hm : 0 < m) (g : Nat → Int) : ∀ (c n i : Nat), n < i * m → cw (fp m c) g n = part2 m c g i n := by
 intro c
 induction c with
 | zero =>
  intro n i hi
  obtain ⟨j, rfl⟩ : ∃ j, i = j + 1 := ⟨i - 1, by
   have : i ≠ 0 := by rintro rfl; omega
   omega⟩
  show cw c1 g n = _
  rw [cw_one_left]
  unfold part2
  rw [Sm_first, Sm_congr (g := fun _ => 0) (fun t _ => by
   rw [show bn 0 (t + 1) = 0 from rfl]
   split
   ·simp
   ·rfl), Sm_zero, Nat.zero_mul, if_pos (Nat.zero_le _), bn_zero]
  show g n = 1 * ((1 : Nat) : Int) * g (n - 0) + 0
  rw [Nat.sub_zero]
  omega
 | succ c ih =>
  intro n i hi
  obtain ⟨j, rfl⟩ : ∃ j, i = j + 1 := ⟨i - 1, by
   have : i ≠ 0 := by rintro rfl; omega
   omega⟩
  show cw (cw (fac m) (fp m c)) g n = _
  rw [cw_assoc, fac_cw m hm, ih n (j + 1) hi]
  have e : part2 m (c + 1) g (j + 1) n = part2 m c g (j + 1) n - (if m ≤ n then part2 m c g j (n - m) else 0) := by
   unfold part2
   rw [Sm_first, Sm_first]
   have e0 : ∀ t : Nat, (if (t + 1) * m ≤ n then sg1 (t + 1) * (bn (c + 1) (t + 1) : Int) * g (n - (t + 1) * m) else 0) = (if (t + 1) * m ≤ n then sg1 (t + 1) * (bn c (t + 1) : Int) * g (n - (t + 1) * m) else 0) + (-1) * (if m ≤ n then (if t * m ≤ n - m then sg1 t * (bn c t : Int) * g (n - m - t * m) else 0) else 0) := by
    intro t
    have em : (t + 1) * m = t * m + m := Nat.succ_mul t m
    by_cases c1 : (t + 1) * m ≤ n
    ·rw [if_pos c1, if_pos c1, if_pos (show m ≤ n by omega), if_pos (show t * m ≤ n - m by omega), show n - m - t * m = n - (t + 1) * m by omega, sg1_succ, show bn (c + 1) (t + 1) = bn c t + bn c (t + 1) from rfl]
     generalize g (n - (t + 1) * m) = z
     rw [Int.natCast_add]
     grind
    ·rw [if_neg c1, if_neg c1]
     by_cases c2 : m ≤ n
     ·rw [if_pos c2, if_neg (show ¬ t * m ≤ n - m by omega)]; rfl
     ·rw [if_neg c2]; rfl
   rw [Sm_congr (fun t _ => e0 t), Sm_add, Sm_mul_left, bn_zero, bn_zero]
   have e1 : Sm j (fun t => if m ≤ n then (if t * m ≤ n - m then sg1 t * (bn c t : Int) * g (n - m - t * m) else 0) else 0) = (if m ≤ n then Sm j (fun t => if t * m ≤ n - m then sg1 t * (bn c t : Int) * g (n - m - t * m) else 0) else 0) := by
    by_cases c2 : m ≤ n
    ·rw [if_pos c2]
     exact Sm_congr (fun t _ => if_pos c2)
    ·rw [if_neg c2, Sm_congr (g := fun _ => 0) (fun t _ => if_neg c2), Sm_zero]
   rw [e1]
   omega
  rw [e]
  by_cases c2 : m ≤ n
  ·rw [if_pos c2, if_pos c2, ih (n - m) j (by rw [Nat.succ_mul] at hi; omega)]
  ·rw [if_neg c2, if_neg c2]
section
variable (n : Nat) (a : Nat → Nat → Int)

theorem pw_add : ∀ (q p i j : Nat), pw n a (p + q + 1) i j = mul n (pw n a p) (pw n a q) i j := by
 intro q
 induction q with
 | zero => intro p i j; rfl
 | succ q ih =>
  intro p i j
  show mul n (pw n a (p + q + 1)) a i j = _
  have h1 : mul n (pw n a (p + q + 1)) a i j = mul n (mul n (pw n a p) (pw n a q)) a i j := mul_congr (fun k _ => ih p i k) (fun _ _ => rfl)
  rw [h1, mul_assoc']
  rfl

variable (h0 : ∀ i j, 0 ≤ a i j)
include h0

theorem pw_nonneg : ∀ (p i j : Nat), 0 ≤ pw n a p i j := by
 intro p
 induction p with
 | zero => exact h0
 | succ p ih => exact fun i j => Sm_nonneg (fun k _ => Int.mul_nonneg (ih i k) (h0 k j))

theorem pw_ge (p q : Nat) {i j k : Nat} (hk : k < n) : pw n a p i k * pw n a q k j ≤ pw n a (p + q + 1) i j := by
 rw [pw_add]
 exact Sm_ge_one (f := fun k => pw n a p i k * pw n a q k j) (fun t _ => Int.mul_nonneg (pw_nonneg n a h0 p i t) (pw_nonneg n a h0 q t j)) hk

omit h0 in
theorem sq_ge {x : Int} (h : 0 ≤ x) : x ≤ x * x := by
 by_cases c : x = 0
 ·rw [c]; decide
 ·have := Int.mul_le_mul_of_nonneg_right (show 1 ≤ x by omega) h
  omega

omit h0 in
theorem mul_ge {x y : Int} (hx : 0 ≤ x) (hy : x ≤ y) : x ≤ y * x := by
 have := sq_ge hx
 have := Int.mul_le_mul_of_nonneg_right hy hx
 omega

theorem dg_mul (p r : Nat) {i : Nat} (hi : i < n) (h : pw n a r i i ≤ pw n a p i i) : pw n a r i i ≤ pw n a (p + r + 1) i i := by
 have h1 := pw_ge n a h0 p r hi (i := i) (j := i)
 have h2 := mul_ge (pw_nonneg n a h0 r i i) h
 omega

omit h0 in
/-- b, its odd power c: what c c has at (i, i). -/
theorem odd_ge (b c : Nat → Nat → Int) (hb : ∀ i j, 0 ≤ b i j) (hc : ∀ i j, 0 ≤ c i j) {i : Nat} (hi : i < n) (h1 : b i i ≤ c i i) (h2 : ∀ j k, j < n → k < n → 1 ≤ b j k → 1 ≤ b k j → b j k ≤ c j k) : c i i + mul n b b i i ≤ mul n c c i i + b i i := by
 have e1 : 0 ≤ Sm n (fun j => (c i j * c j i + (-1) * (b i j * b j i)) + (if j = i then 1 else 0) * (-(c i i * c i i - b i i * b i i))) := by
  refine Sm_nonneg (fun j hj => ?_)
  by_cases c0 : j = i
  ·subst c0
   rw [if_pos rfl]
   omega
  ·rw [if_neg c0, Int.zero_mul]
   by_cases cz : b i j = 0 ∨ b j i = 0
   ·have : b i j * b j i = 0 := by rcases cz with e | e <;> rw [e] <;> simp
    have := Int.mul_nonneg (hc i j) (hc j i)
    omega
   ·have p1 := hb i j
    have p2 := hb j i
    have q1 := h2 i j hi hj (by omega) (by omega)
    have q2 := h2 j i hj hi (by omega) (by omega)
    have := Int.mul_le_mul q1 q2 p2 (by omega)
    omega
 rw [Sm_add, Sm_add, Sm_mul_left, Sm_pick' n (fun _ => -(c i i * c i i - b i i * b i i)) hi] at e1
 have e2 : Sm n (fun j => c i j * c j i) = mul n c c i i := rfl
 have e3 : Sm n (fun j => b i j * b j i) = mul n b b i i := rfl
 rw [e2, e3] at e1
 -- x (x - 1) grows
 have e4 : b i i * b i i - b i i ≤ c i i * c i i - c i i := by
  have hx := hb i i
  by_cases cz : c i i = 0
  ·have : b i i = 0 := by omega
   rw [this, cz]
   decide
  ·have h3 : b i i * (b i i - 1) ≤ c i i * (c i i - 1) := by
    by_cases cb : b i i = 0
    ·rw [cb]
     have := Int.mul_nonneg (hc i i) (show 0 ≤ c i i - 1 by have := hc i i; omega)
     omega
    ·exact Int.mul_le_mul h1 (by omega) (by omega) (by omega)
   rw [Int.mul_sub, Int.mul_sub, Int.mul_one, Int.mul_one] at h3
   exact h3
 omega

theorem two_back (r : Nat) {i j : Nat} (hi : i < n) (hij : 1 ≤ pw n a r i j) (hji : 1 ≤ pw n a r j i) : 1 ≤ pw n a (r + r + 1) j j := by
 have := pw_ge n a h0 r r hi (i := j) (j := j)
 have := Int.mul_le_mul hji hij (by decide) (by omega)
 omega

theorem six : ∀ i, i < n → pw n a 2 i i + pw n a 1 i i ≤ pw n a 5 i i + pw n a 0 i i := by
 intro i hi
 have nn := pw_nonneg n a h0
 have hd := dg_mul n a h0 1 0 hi (dg_mul n a h0 0 0 hi (Int.le_refl _))
 have := odd_ge n (pw n a 0) (pw n a 2) (nn 0) (nn 2) hi hd (fun j k hj hk h1 h2 => by
  have b1 : 1 ≤ pw n a 1 k k := two_back n a h0 0 hj h1 h2
  have b2 : pw n a 0 j k * pw n a 1 k k ≤ pw n a 2 j k := pw_ge n a h0 0 1 hk
  have b3 := Int.mul_le_mul_of_nonneg_left b1 (nn 0 j k)
  omega)
 rw [← pw_add, ← pw_add] at this
 exact this

theorem ten : ∀ i, i < n → pw n a 4 i i + pw n a 1 i i ≤ pw n a 9 i i + pw n a 0 i i := by
 intro i hi
 have nn := pw_nonneg n a h0
 have hd := dg_mul n a h0 3 0 hi (dg_mul n a h0 2 0 hi (dg_mul n a h0 1 0 hi (dg_mul n a h0 0 0 hi (Int.le_refl _))))
 have := odd_ge n (pw n a 0) (pw n a 4) (nn 0) (nn 4) hi hd (fun j k hj hk h1 h2 => by
  have b1 : 1 ≤ pw n a 1 k k := two_back n a h0 0 hj h1 h2
  have b2 : pw n a 0 j k * pw n a 1 k k ≤ pw n a 2 j k := pw_ge n a h0 0 1 hk
  have b3 := Int.mul_le_mul_of_nonneg_left b1 (nn 0 j k)
  have b4 : pw n a 2 j k * pw n a 1 k k ≤ pw n a 4 j k := pw_ge n a h0 2 1 hk
  have b5 := Int.mul_le_mul_of_nonneg_left b1 (nn 2 j k)
  omega)
 rw [← pw_add, ← pw_add] at this
 exact this

theorem twelve : ∀ i, i < n → pw n a 5 i i + pw n a 3 i i ≤ pw n a 11 i i + pw n a 1 i i := by
 intro i hi
 have nn := pw_nonneg n a h0
 have hd := dg_mul n a h0 3 1 hi (dg_mul n a h0 1 1 hi (Int.le_refl _))
 have := odd_ge n (pw n a 1) (pw n a 5) (nn 1) (nn 5) hi hd (fun j k hj hk h1 h2 => by
  have b1 : 1 ≤ pw n a 3 k k := two_back n a h0 1 hj h1 h2
  have b2 : pw n a 1 j k * pw n a 3 k k ≤ pw n a 5 j k := pw_ge n a h0 1 3 hk
  have b3 := Int.mul_le_mul_of_nonneg_left b1 (nn 1 j k)
  omega)
 rw [← pw_add, ← pw_add] at this
 exact this

omit h0 in
theorem tr_mono {b c : Nat → Nat → Int} (h : ∀ i, i < n → b i i ≤ c i i) : tr n b ≤ tr n c := Sm_mono h

omit h0 in
theorem tr_two {b c d e : Nat → Nat → Int} (h : ∀ i, i < n → b i i + c i i ≤ d i i + e i i) : tr n b + tr n c ≤ tr n d + tr n e := by
 unfold tr
 rw [← Sm_add, ← Sm_add]
 exact Sm_mono h

/-- All that is asked of the traces. -/
theorem traces_order (N : Nat → Int) (hN : ∀ j, N j = tr n (pw n a j)) :
  (∀ j, 0 ≤ N j) ∧ N 0 ≤ N 1 ∧ N 0 ≤ N 2 ∧ N 1 ≤ N 3 ∧ N 0 ≤ N 4 ∧ N 0 ≤ N 6 ∧ N 3 ≤ N 7 ∧ N 2 ≤ N 8 ∧ N 0 ≤ N 10 ∧ N 2 + N 1 ≤ N 5 + N 0 ∧ N 4 + N 1 ≤ N 9 + N 0 ∧ N 5 + N 3 ≤ N 11 + N 1 := by
 have d0 : ∀ (i : Nat), i < n → ∀ p, pw n a 0 i i ≤ pw n a p i i := by
  intro i hi p
  induction p with
  | zero => exact Int.le_refl _
  | succ p ih => exact dg_mul n a h0 p 0 hi ih
 simp only [hN]
 refine ⟨fun j => Sm_nonneg (fun i _ => pw_nonneg n a h0 j i i), tr_mono n (fun i hi => d0 i hi 1), tr_mono n (fun i hi => d0 i hi 2), tr_mono n (fun i hi => dg_mul n a h0 1 1 hi (Int.le_refl _)), tr_mono n (fun i hi => d0 i hi 4), tr_mono n (fun i hi => d0 i hi 6), tr_mono n (fun i hi => dg_mul n a h0 3 3 hi (Int.le_refl _)), tr_mono n (fun i hi => dg_mul n a h0 5 2 hi (dg_mul n a h0 2 2 hi (Int.le_refl _))), tr_mono n (fun i hi => d0 i hi 10), tr_two n (six n a h0), tr_two n (ten n a h0), tr_two n (twelve n a h0)⟩

end
def muE : Nat → Int
 | 1 => 1 | 2 => -1 | 3 => -1 | 4 => 0 | 5 => -1 | 6 => 1 | 7 => -1 | 8 => 0 | 9 => 0 | 10 => 1 | 11 => -1 | _ => 0

def pS (N : Nat → Int) (m : Nat) : Int := Sm m (fun t => if m % (t + 1) = 0 then muE (m / (t + 1)) * N t else 0)

section
variable (N : Nat → Int) (c : Nat → Nat)

theorem nx1 (h : ∀ d, 1 ≤ d → d < 1 → (c d : Int) * (d : Int) = pS N d) : Qd c 0 1 = N 0 - pS N 1 := by
 clear h
 simp [Qd, ps, pS, Sm, muE]

theorem nx2 (h : ∀ d, 1 ≤ d → d < 2 → (c d : Int) * (d : Int) = pS N d) : Qd c 1 2 = N 1 - pS N 2 := by
 have h1 := h 1 (by decide) (by decide)
 clear h
 simp [pS, Sm, muE] at h1
 simp [Qd, ps, pS, Sm, muE]
 omega

theorem nx3 (h : ∀ d, 1 ≤ d → d < 3 → (c d : Int) * (d : Int) = pS N d) : Qd c 2 3 = N 2 - pS N 3 := by
 have h1 := h 1 (by decide) (by decide)
 clear h
 simp [pS, Sm, muE] at h1
 simp [Qd, ps, pS, Sm, muE]
 omega

theorem nx4 (h : ∀ d, 1 ≤ d → d < 4 → (c d : Int) * (d : Int) = pS N d) : Qd c 3 4 = N 3 - pS N 4 := by
 have h1 := h 1 (by decide) (by decide)
 have h2 := h 2 (by decide) (by decide)
 clear h
 simp [pS, Sm, muE] at h1 h2
 simp [Qd, ps, pS, Sm, muE]
 omega

theorem nx5 (h : ∀ d, 1 ≤ d → d < 5 → (c d : Int) * (d : Int) = pS N d) : Qd c 4 5 = N 4 - pS N 5 := by
 have h1 := h 1 (by decide) (by decide)
 clear h
 simp [pS, Sm, muE] at h1
 simp [Qd, ps, pS, Sm, muE]
 omega

theorem nx6 (h : ∀ d, 1 ≤ d → d < 6 → (c d : Int) * (d : Int) = pS N d) : Qd c 5 6 = N 5 - pS N 6 := by
 have h1 := h 1 (by decide) (by decide)
 have h2 := h 2 (by decide) (by decide)
 have h3 := h 3 (by decide) (by decide)
 clear h
 simp [pS, Sm, muE] at h1 h2 h3
 simp [Qd, ps, pS, Sm, muE]
 omega

theorem nx7 (h : ∀ d, 1 ≤ d → d < 7 → (c d : Int) * (d : Int) = pS N d) : Qd c 6 7 = N 6 - pS N 7 := by
 have h1 := h 1 (by decide) (by decide)
 clear h
 simp [pS, Sm, muE] at h1
 simp [Qd, ps, pS, Sm, muE]
 omega

theorem nx8 (h : ∀ d, 1 ≤ d → d < 8 → (c d : Int) * (d : Int) = pS N d) : Qd c 7 8 = N 7 - pS N 8 := by
 have h1 := h 1 (by decide) (by decide)
 have h2 := h 2 (by decide) (by decide)
 have h4 := h 4 (by decide) (by decide)
 clear h
 simp [pS, Sm, muE] at h1 h2 h4
 simp [Qd, ps, pS, Sm, muE]
 omega

theorem nx9 (h : ∀ d, 1 ≤ d → d < 9 → (c d : Int) * (d : Int) = pS N d) : Qd c 8 9 = N 8 - pS N 9 := by
 have h1 := h 1 (by decide) (by decide)
 have h3 := h 3 (by decide) (by decide)
 clear h
 simp [pS, Sm, muE] at h1 h3
 simp [Qd, ps, pS, Sm, muE]
 omega

theorem nx10 (h : ∀ d, 1 ≤ d → d < 10 → (c d : Int) * (d : Int) = pS N d) : Qd c 9 10 = N 9 - pS N 10 := by
 have h1 := h 1 (by decide) (by decide)
 have h2 := h 2 (by decide) (by decide)
 have h5 := h 5 (by decide) (by decide)
 clear h
 simp [pS, Sm, muE] at h1 h2 h5
 simp [Qd, ps, pS, Sm, muE]
 omega

theorem nx11 (h : ∀ d, 1 ≤ d → d < 11 → (c d : Int) * (d : Int) = pS N d) : Qd c 10 11 = N 10 - pS N 11 := by
 have h1 := h 1 (by decide) (by decide)
 clear h
 simp [pS, Sm, muE] at h1
 simp [Qd, ps, pS, Sm, muE]
 omega

theorem nx12 (h : ∀ d, 1 ≤ d → d < 12 → (c d : Int) * (d : Int) = pS N d) : Qd c 11 12 = N 11 - pS N 12 := by
 have h1 := h 1 (by decide) (by decide)
 have h2 := h 2 (by decide) (by decide)
 have h3 := h 3 (by decide) (by decide)
 have h4 := h 4 (by decide) (by decide)
 have h6 := h 6 (by decide) (by decide)
 clear h
 simp [pS, Sm, muE] at h1 h2 h3 h4 h6
 simp [Qd, ps, pS, Sm, muE]
 omega

theorem nx (m : Nat) (hm : 1 ≤ m ∧ m ≤ 12) (h : ∀ d, 1 ≤ d → d < m → (c d : Int) * (d : Int) = pS N d) : Qd c (m - 1) m = N (m - 1) - pS N m := by
 have : m = 1 ∨ m = 2 ∨ m = 3 ∨ m = 4 ∨ m = 5 ∨ m = 6 ∨ m = 7 ∨ m = 8 ∨ m = 9 ∨ m = 10 ∨ m = 11 ∨ m = 12 := by omega
 rcases this with rfl | rfl | rfl | rfl | rfl | rfl | rfl | rfl | rfl | rfl | rfl | rfl
 ·exact nx1 N c h
 ·exact nx2 N c h
 ·exact nx3 N c h
 ·exact nx4 N c h
 ·exact nx5 N c h
 ·exact nx6 N c h
 ·exact nx7 N c h
 ·exact nx8 N c h
 ·exact nx9 N c h
 ·exact nx10 N c h
 ·exact nx11 N c h
 ·exact nx12 N c h

theorem inv_q (m : Nat) (hm : 1 ≤ m ∧ m ≤ 12) (h : ∀ d, 1 ≤ d → d ≤ m → (c d : Int) * (d : Int) = pS N d) : Qd c m m = N (m - 1) := by
 have h1 := nx N c m hm (fun d a b => h d a (by omega))
 have h2 := h m hm.1 (Nat.le_refl _)
 obtain ⟨k, rfl⟩ : ∃ k, m = k + 1 := ⟨m - 1, by omega⟩
 have e : Qd c (k + 1) (k + 1) = Qd c k (k + 1) + (c (k + 1) : Int) * ps (k + 1) (k + 1) := rfl
 have e2 : ps (k + 1) (k + 1) = ((k + 1 : Nat) : Int) := by
  unfold ps
  rw [if_neg (by omega), Nat.mod_self, if_pos rfl]
 rw [Nat.add_sub_cancel] at h1 ⊢
 rw [e, e2, h1, h2]
 omega

theorem pS_nonneg (hN : (∀ j, 0 ≤ N j) ∧ N 0 ≤ N 1 ∧ N 0 ≤ N 2 ∧ N 1 ≤ N 3 ∧ N 0 ≤ N 4 ∧ N 0 ≤ N 6 ∧ N 3 ≤ N 7 ∧ N 2 ≤ N 8 ∧ N 0 ≤ N 10 ∧ N 2 + N 1 ≤ N 5 + N 0 ∧ N 4 + N 1 ≤ N 9 + N 0 ∧ N 5 + N 3 ≤ N 11 + N 1) (m : Nat) (hm : 1 ≤ m ∧ m ≤ 12) : 0 ≤ pS N m := by
 obtain ⟨n0, n1, n2, n3, n4, n6, n7, n8, n10, a6, a10, a12⟩ := hN
 have z0 := n0 0
 have : m = 1 ∨ m = 2 ∨ m = 3 ∨ m = 4 ∨ m = 5 ∨ m = 6 ∨ m = 7 ∨ m = 8 ∨ m = 9 ∨ m = 10 ∨ m = 11 ∨ m = 12 := by omega
 clear n0 hm
 rcases this with rfl | rfl | rfl | rfl | rfl | rfl | rfl | rfl | rfl | rfl | rfl | rfl
 ·simp [pS, Sm, muE]; omega
 ·simp [pS, Sm, muE]; omega
 ·simp [pS, Sm, muE]; omega
 ·simp [pS, Sm, muE]; omega
 ·simp [pS, Sm, muE]; omega
 ·simp [pS, Sm, muE]; omega
 ·simp [pS, Sm, muE]; omega
 ·simp [pS, Sm, muE]; omega
 ·simp [pS, Sm, muE]; omega
 ·simp [pS, Sm, muE]; omega
 ·simp [pS, Sm, muE]; omega
 ·simp [pS, Sm, muE]; omega

end

/-- The count of prime cycles of length m. -/
def cE (N : Nat → Int) (m : Nat) : Nat := (pS N m / (m : Int)).toNat

section
variable {N f P : Nat → Int} (hN : (∀ j, 0 ≤ N j) ∧ N 0 ≤ N 1 ∧ N 0 ≤ N 2 ∧ N 1 ≤ N 3 ∧ N 0 ≤ N 4 ∧ N 0 ≤ N 6 ∧ N 3 ≤ N 7 ∧ N 2 ≤ N 8 ∧ N 0 ≤ N 10 ∧ N 2 + N 1 ≤ N 5 + N 0 ∧ N 4 + N 1 ≤ N 9 + N 0 ∧ N 5 + N 3 ≤ N 11 + N 1) (hf : LD f P) (f0 : f 0 = 1) (P0 : P 0 = 0) (hP : ∀ j, P (j + 1) = N j)
include hN hf f0 P0 hP

theorem cE_exact : ∀ m, 1 ≤ m → m ≤ 12 → (cE N m : Int) * (m : Int) = pS N m := by
 intro m
 induction m using Nat.strongRecOn with
 | _ m ih =>
  intro h1 h12
  have hq := nx N (cE N) m ⟨h1, h12⟩ (fun d a b => ih d b a (by omega))
  have hn := LD_next hf (LD_prd (cE N) (m - 1)) f0 (prd_zero _ _) P0 (Qd_zero _ _) m h1 (fun i a b => by
   rw [Qd_cut (cE N) (show i ≤ m - 1 by omega), inv_q N (cE N) i ⟨a, by omega⟩ (fun d p q => ih d (by omega) p (by omega)), ← hP (i - 1), show i - 1 + 1 = i by omega])
  have e : P m = N (m - 1) := by
   rw [← hP (m - 1), show m - 1 + 1 = m by omega]
  rw [hq, e] at hn
  have hz := pS_nonneg N hN m ⟨h1, h12⟩
  generalize prd (cE N) (m - 1) m - f m = z at hn
  have hs : pS N m = (m : Int) * z := by omega
  have hz0 : 0 ≤ z := by
   rw [hs] at hz
   exact Int.nonneg_of_mul_nonneg_right hz (by omega)
  unfold cE
  rw [hs, Int.mul_ediv_cancel_left _ (show (m : Int) ≠ 0 by omega), Int.toNat_of_nonneg hz0, Int.mul_comm]

theorem euler (K : Nat) (hK : K ≤ 12) : ∀ n, n ≤ K → prd (cE N) K n = f n :=
 LD_same (LD_prd (cE N) K) hf ((prd_zero _ _).trans f0.symm) (Qd_zero _ _) P0 K (fun i a b => by
  rw [Qd_cut (cE N) b, inv_q N (cE N) i ⟨a, by omega⟩ (fun d p q => cE_exact hN hf f0 P0 hP d p (by omega)), ← hP (i - 1), show i - 1 + 1 = i by omega])

end
theorem pt_closed (l : List (List Int)) (j : Nat) : pt (2 * l.length) (W l) (j + 1) = closedN l j := by
 unfold pt
 rw [if_neg (by omega), Nat.add_sub_cancel]
 rfl

theorem rf_LD (l : List (List Int)) : LD (rf l) (pt (2 * l.length) (W l)) := newton_cw _ _

theorem count_exact (l : List (List Int)) (m : Nat) (hm : 1 ≤ m ∧ m ≤ 12) : (cE (closedN l) m : Int) * (m : Int) = pS (closedN l) m :=
 cE_exact (traces_order (2 * l.length) (W l) (fun i j => (W_range l i j).1) (closedN l) (fun _ => rfl)) (rf_LD l) (rf_zero l) (if_pos rfl) (pt_closed l) m hm.1 hm.2

theorem euler_rf (l : List (List Int)) (K : Nat) (hK : K ≤ 12) (n : Nat) (hn : n ≤ K) : prd (cE (closedN l)) K n = rf l n :=
 euler (traces_order (2 * l.length) (W l) (fun i j => (W_range l i j).1) (closedN l) (fun _ => rfl)) (rf_LD l) (rf_zero l) (if_pos rfl) (pt_closed l) K hK n hn

theorem pS_le (l : List (List Int)) (m : Nat) (hm : 1 ≤ m ∧ m ≤ 12) : pS (closedN l) m ≤ closedN l (m - 1) := by
 have h1 := nx (closedN l) (cE (closedN l)) m hm (fun d a b => count_exact l d ⟨a, by omega⟩)
 have h2 : 0 ≤ Qd (cE (closedN l)) (m - 1) m := Sm_nonneg (fun j _ => Int.mul_nonneg (by omega) (by
  unfold ps
  split
  ·exact Int.le_refl _
  ·split
   ·omega
   ·exact Int.le_refl _))
 omega

theorem count_le {l : List (List Int)} (hl : l.length ≤ 10) (m : Nat) (hm : 1 ≤ m ∧ m ≤ 12) : cE (closedN l) m ≤ 20 ^ m := by
 have h1 := count_exact l m hm
 have h2 := pS_le l m hm
 have h3 := (pt_small l hl m hm.1).2
 have h4 := pt_closed l (m - 1)
 rw [show m - 1 + 1 = m by omega] at h4
 rw [h4] at h3
 have h5 : (cE (closedN l) m : Int) * 1 ≤ (cE (closedN l) m : Int) * (m : Int) := Int.mul_le_mul_of_nonneg_left (by omega) (by omega)
 have h6 : (cE (closedN l) m : Int) ≤ 20 ^ m := by omega
 have h7 : ((20 ^ m : Nat) : Int) = 20 ^ m := by rw [Int.natCast_pow]; rfl
 omega

theorem mu_eq (n : Nat) (h : n ≤ 12) : mu n = muE n := by
 have : ∀ i : Fin 13, mu i.val = muE i.val := by decide
 exact this ⟨n, by omega⟩

theorem prS_pS (l : List (List Int)) (m : Nat) (hm : m ≤ 12) : prS l m m = pS (closedN l) m := by
 unfold prS pS
 refine Sm_congr (fun t ht => ?_)
 rw [mu_eq _ (Nat.le_trans (Nat.div_le_self _ _) hm)]

theorem primeN_count {l : List (List Int)} (hl : l.length ≤ 10) (m : Nat) (hm : 1 ≤ m ∧ m ≤ 12) : primeN l m = (cE (closedN l) m : Int) := by
 have h1 := count_exact l m hm
 have h2 := pS_le l m hm
 have h3 := closedN_range l hl (show m - 1 ≤ 12 by omega)
 unfold primeN
 rw [prS_pS l m hm.2]
 have h4 : 0 ≤ (cE (closedN l) m : Int) * (m : Int) := Int.mul_nonneg (by omega) (by omega)
 have h5 : (cE (closedN l) m : Int) * 1 ≤ (cE (closedN l) m : Int) * (m : Int) := Int.mul_le_mul_of_nonneg_left (by omega) (by omega)
 rw [wrap_id (x := pS (closedN l) m) (by omega) (by omega), ← h1, Int.tdiv_eq_ediv_of_nonneg h4, Int.mul_ediv_cancel _ (by omega), wrap_id (by omega) (by omega)]

theorem specChoose (c i : Nat) (hi : i ≤ c) (hi2 : i ≤ 1000) (hb : c ^ i ≤ 4096000000000000) : Ev (fun k => spec_l03Choose.f k (c : Int) (i : Int)) ((bn c i : Nat) : Int) := by
 have main : ∀ (d t : Nat), t + d = i → Ev (fun k => spec_l03Choose.l0 k (c : Int) (i : Int) ((bn c t : Nat) : Int) (t : Int)) ((bn c i : Nat) : Int) := by
  intro d
  induction d with
  | zero =>
   intro t ht
   obtain rfl : t = i := by omega
   refine Ev.succ ?_; simp only [spec_l03Choose.l0]
   exact Ev.neg (by omega) (Ev.now _)
  | succ d ih =>
   intro t ht
   have h1 := ih (t + 1) (by omega)
   have hs := bn_step c t
   have hp : c ^ (t + 1) ≤ c ^ i := Nat.pow_le_pow_right (by omega) (by omega)
   have hq := bn_le c t
   have hc : c * bn c t ≤ c * c ^ t := Nat.mul_le_mul_left _ hq
   rw [Nat.pow_succ, Nat.mul_comm (c ^ t) c] at hp
   have hm : c ^ 1 ≤ c ^ i := Nat.pow_le_pow_right (by omega) (by omega)
   rw [Nat.pow_one] at hm
   have he : ((bn c t : Nat) : Int) * ((c : Int) - (t : Int)) = (((t + 1) * bn c (t + 1) : Nat) : Int) := by
    have h2 : ((bn c t : Nat) : Int) * ((c : Int) - (t : Int)) = ((c * bn c t : Nat) : Int) - ((t * bn c t : Nat) : Int) := by
     rw [Int.mul_sub, Int.natCast_mul, Int.natCast_mul, Int.mul_comm, Int.mul_comm (t : Int)]
    omega
   have hle : bn c (t + 1) ≤ (t + 1) * bn c (t + 1) := Nat.le_mul_of_pos_left _ (by omega)
   refine Ev.succ ?_; simp only [spec_l03Choose.l0]
   rw [wrap_succ (i := t) (by omega), wrap_id (x := (c : Int) - (t : Int)) (by omega) (by omega), he, wrap_id (x := (((t + 1) * bn c (t + 1) : Nat) : Int)) (by omega) (by omega), Int.tdiv_eq_ediv_of_nonneg (by omega), ← Int.natCast_ediv, Nat.mul_div_cancel_left _ (show 0 < t + 1 by omega), wrap_id (x := ((bn c (t + 1) : Nat) : Int)) (by omega) (by omega)]
   exact Ev.pos (by omega) (Ev.neg (by omega) h1)
 have h0 := main i 0 (by omega)
 rw [bn_zero] at h0
 exact h0

section
variable (K m c : Nat) (g : Nat → Int)

/-- The next list, while the terms before i are in, and those of i up to q. -/
def nxt (i q : Nat) : List Int := rowOf (K + 1) (fun n => wrap64 (part2 m c g i n + if n < q ∧ i * m ≤ n then sg1 i * (bn c i : Int) * g (n - i * m) else 0))

theorem nxt_length (i q : Nat) : (nxt K m c g i q).length = K + 1 := rowOf_length _ _

theorem nxt_next (i : Nat) : nxt K m c g i (K + 1) = nxt K m c g (i + 1) 0 := by
 refine rowOf_congr (fun n hn => ?_)
 rw [if_neg (show ¬ (n < 0 ∧ (i + 1) * m ≤ n) by omega), Int.add_zero]
 congr 1
 show _ = part2 m c g i n + (if i * m ≤ n then sg1 i * (bn c i : Int) * g (n - i * m) else 0)
 by_cases c0 : i * m ≤ n
 ·rw [if_pos ⟨hn, c0⟩, if_pos c0]
 ·rw [if_neg (fun z => c0 z.2), if_neg c0]

theorem nxt_start (i : Nat) : nxt K m c g i (i * m) = nxt K m c g i 0 := by
 refine rowOf_congr (fun n hn => ?_)
 rw [if_neg (show ¬ (n < i * m ∧ i * m ≤ n) by omega), if_neg (show ¬ (n < 0 ∧ i * m ≤ n) by omega)]

theorem nxt_set (i q : Nat) (h1 : i * m ≤ q) (hq : q ≤ K) : (nxt K m c g i q).set q (wrap64 (rd (nxt K m c g i q) (q : Int) + wrap64 (sg1 i * (bn c i : Int) * rd (rowOf (K + 1) (fun n => wrap64 (g n))) ((q - i * m : Nat) : Int)))) = nxt K m c g i (q + 1) := by
 unfold nxt
 rw [rowOf_rd _ (show q < K + 1 by omega), rowOf_rd _ (show q - i * m < K + 1 by omega), rowOf_set _ _ (show q < K + 1 by omega), if_neg (show ¬ (q < q ∧ i * m ≤ q) by omega), Int.add_zero, wrap_mul_right, wrap_add_wrap]
 refine rowOf_congr (fun n hn => ?_)
 by_cases e : n = q
 ·subst e
  rw [if_pos rfl, if_pos ⟨by omega, h1⟩]
 ·rw [if_neg e]
  by_cases c0 : n < q ∧ i * m ≤ n
  ·rw [if_pos c0, if_pos ⟨by omega, c0.2⟩]
  ·rw [if_neg c0, if_neg (fun z => c0 ⟨by omega, z.2⟩)]

theorem nxt_zero : nxt K m c g 0 0 = List.replicate (K + 1) 0 := by
 rw [← rowOf_zero]
 refine rowOf_congr (fun n hn => ?_)
 rw [if_neg (show ¬ (n < 0 ∧ 0 * m ≤ n) by omega)]
 show wrap64 (0 + 0) = 0
 exact wrap_id (x := 0) (by decide) (by decide)

theorem nxt_done (hm : 0 < m) (i : Nat) (h : K < i * m ∨ c < i) : nxt K m c g i 0 = rowOf (K + 1) (fun n => wrap64 (cw (fp m c) g n)) := by
 refine rowOf_congr (fun n hn => ?_)
 rw [if_neg (show ¬ (n < 0 ∧ i * m ≤ n) by omega), Int.add_zero]
 congr 1
 have h2 : n < (n + 1 + i) * m := by
  have := Nat.le_mul_of_pos_right (n + 1 + i) hm
  omega
 rw [fp_part m hm g c n (n + 1 + i) h2]
 rcases h with h | h
 ·exact (part2_more m hm c g (show n < i * m by omega) (by omega)).symm
 ·unfold part2
  refine (Sm_cut2 _ (show i ≤ n + 1 + i by omega) (fun t ht => ?_)).symm
  rw [bn_high c t (by omega)]
  split
  ·simp
  ·rfl

end

theorem sign_of (i : Nat) (hi : i ≤ 1000) : wrap64 (1 - wrap64 (2 * Int.tmod (i : Int) 2)) = sg1 i := by
 rw [Int.tmod_eq_emod_of_nonneg (by omega)]
 unfold sg1
 have : (i : Int) % 2 = ((i % 2 : Nat) : Int) := rfl
 rw [this]
 rcases Nat.mod_two_eq_zero_or_one i with e | e
 ·rw [e, if_pos rfl, show wrap64 (2 * ((0 : Nat) : Int)) = 0 from wrap_id (x := 0) (by decide) (by decide)]
  exact wrap_id (x := 1) (by decide) (by decide)
 ·rw [e, if_neg (by decide), show wrap64 (2 * ((1 : Nat) : Int)) = 2 from wrap_id (x := 2) (by decide) (by decide)]
  exact wrap_id (x := -1) (by decide) (by decide)

section
variable {n : Int} {l : List (List Int)} (h : isGraph n l = true) (K : Nat) (hK : K ≤ 12)
include hK

theorem spInner2 (m c : Nat) (g : Nat → Int) (i : Nat) (him : i * m ≤ K) (hi : i ≤ 12) (hm : m ≤ 12) (cI : Int) (r : List Int × Int)
  (hr : Ev (fun f => spec_EulerProduct.l1 f (K : Int) (rowOf (K + 1) (fun n => wrap64 (g n))) (m : Int) cI (nxt K m c g (i + 1) 0) ((i + 1 : Nat) : Int) n l) r) :
  ∀ (d q : Nat), q + d = K + 1 → i * m ≤ q → Ev (fun f => spec_EulerProduct.l2 f (K : Int) (rowOf (K + 1) (fun n => wrap64 (g n))) (m : Int) cI (nxt K m c g i q) (i : Int) (sg1 i * (bn c i : Int)) (q : Int) n l) r := by
 have eim : wrap64 ((i : Int) * (m : Int)) = ((i * m : Nat) : Int) := by
  rw [← Int.natCast_mul]
  exact wrap_id (by omega) (by omega)
 have hlen : (rowOf (K + 1) (fun n => wrap64 (g n))).length = K + 1 := rowOf_length _ _
 intro d
 induction d with
 | zero =>
  intro q hq _
  obtain rfl : q = K + 1 := by omega
  refine Ev.succ ?_; simp only [spec_EulerProduct.l2]
  rw [nxt_next, wrap_succ (i := i) (by omega)]
  exact Ev.neg (by omega) hr
 | succ d ih =>
  intro q hq hq2
  have h1 := ih (q + 1) (by omega) (by omega)
  have hl := nxt_length K m c g i q
  have hset := nxt_set K m c g i q hq2 (by omega)
  refine Ev.succ ?_; simp only [spec_EulerProduct.l2]
  rw [eim, wrap_id (x := (q : Int) - ((i * m : Nat) : Int)) (by omega) (by omega), show (q : Int) - ((i * m : Nat) : Int) = ((q - i * m : Nat) : Int) by omega, Int.toNat_natCast q, hset, wrap_succ (i := q) (by omega)]
  exact Ev.pos (by omega) (Ev.pos (by omega) (Ev.pos (by omega) (Ev.pos (by omega) (Ev.pos (by omega) h1))))

theorem spMiddle2 (m c : Nat) (hm : 1 ≤ m ∧ m ≤ 12) (hc : c ≤ 20 ^ m) (g : Nat → Int) (r : List Int × Int)
  (hr : Ev (fun f => spec_EulerProduct.l0 f (K : Int) (rowOf (K + 1) (fun n => wrap64 (cw (fp m c) g n))) ((m + 1 : Nat) : Int) n l) r) :
  ∀ (d i : Nat), i + d = 14 → Ev (fun f => spec_EulerProduct.l1 f (K : Int) (rowOf (K + 1) (fun n => wrap64 (g n))) (m : Int) (c : Int) (nxt K m c g i 0) (i : Int) n l) r := by
 have stop : ∀ i : Nat, i ≤ 14 → (K < i * m ∨ c < i) → Ev (fun f => spec_EulerProduct.j2 f (K : Int) (rowOf (K + 1) (fun n => wrap64 (g n))) (m : Int) (c : Int) (nxt K m c g i 0) (i : Int) false n l) r := by
  intro i hi h
  rw [nxt_done K m c g (by omega) i h]
  refine Ev.succ ?_; simp only [spec_EulerProduct.j2]
  rw [wrap_succ (i := m) (by omega)]
  exact Ev.neg (by decide) hr
 have eim : ∀ i : Nat, i ≤ 14 → wrap64 ((i : Int) * (m : Int)) = ((i * m : Nat) : Int) := by
  intro i hi
  have : i * m ≤ 14 * 12 := Nat.mul_le_mul hi hm.2
  rw [← Int.natCast_mul]
  exact wrap_id (by omega) (by omega)
 intro d
 induction d with
 | zero =>
  intro i hi
  obtain rfl : i = 14 := by omega
  have hs := stop 14 (by omega) (.inl (by omega))
  refine Ev.succ ?_; simp only [spec_EulerProduct.l1]
  rw [eim 14 (by omega)]
  exact Ev.neg (by omega) hs
 | succ d ih =>
  intro i hi
  have h1 := ih (i + 1) (by omega)
  refine Ev.succ ?_; simp only [spec_EulerProduct.l1]
  rw [eim i (by omega)]
  by_cases c0 : i * m ≤ K
  ·refine Ev.pos (by omega) ?_
   have hi12 : i ≤ 12 := by
    have := Nat.le_mul_of_pos_right i (show 0 < m by omega)
    omega
   by_cases c2 : i ≤ c
   ·rw [decide_eq_true (show (i : Int) ≤ (c : Int) by omega)]
    have hb : c ^ i ≤ 4096000000000000 := by
     have p1 : c ^ i ≤ (20 ^ m) ^ i := Nat.pow_le_pow_left hc i
     rw [← Nat.pow_mul] at p1
     have p2 : 20 ^ (m * i) ≤ 20 ^ 12 := Nat.pow_le_pow_right (by omega) (by rw [Nat.mul_comm]; omega)
     have p3 : 20 ^ 12 = 4096000000000000 := by decide
     omega
    have hbn : (bn c i : Nat) ≤ c ^ i := bn_le c i
    have hch := specChoose c i c2 (by omega) hb
    have hin := spInner2 (n := n) (l := l) K hK m c g i c0 hi12 hm.2 (c : Int) r h1 (K + 1 - i * m) (i * m) (by omega) (Nat.le_refl _)
    rw [nxt_start] at hin
    have ef : wrap64 (((bn c i : Nat) : Int) * sg1 i) = sg1 i * (bn c i : Int) := by
     rw [Int.mul_comm]
     unfold sg1
     split
     ·rw [Int.one_mul]; exact wrap_id (by omega) (by omega)
     ·rw [show (-1 : Int) * ((bn c i : Nat) : Int) = -((bn c i : Nat) : Int) by omega]; exact wrap_id (by omega) (by omega)
    refine Ev.succ ?_; simp only [spec_EulerProduct.j2]
    rw [sign_of i (by omega)]
    refine Ev.pos trivial (Ev.bind hch ?_)
    rw [ef, eim i (by omega)]
    exact hin
   ·rw [decide_eq_false (show ¬ (i : Int) ≤ (c : Int) by omega)]
    exact stop i (by omega) (.inr (by omega))
  ·refine Ev.neg (by omega) ?_
   exact stop i (by omega) (.inl (by omega))

include h

theorem spOuter2 : ∀ (d m : Nat), m + d = K → Ev (fun f => spec_EulerProduct.l0 f (K : Int) (rowOf (K + 1) (fun q => wrap64 (prd (cE (closedN l)) m q))) ((m + 1 : Nat) : Int) n l) (rowOf (K + 1) (fun q => wrap64 (prd (cE (closedN l)) K q)), 0) := by
 obtain ⟨g1, g2, g3⟩ := graph_small h
 intro d
 induction d with
 | zero =>
  intro m hm
  obtain rfl : m = K := by omega
  refine Ev.succ ?_; simp only [spec_EulerProduct.l0]
  exact Ev.neg (by omega) (Ev.now _)
 | succ d ih =>
  intro m hm
  have h1 := ih (m + 1) (by omega)
  have hp := specPrimes h (m + 1) ⟨by omega, by omega⟩
  rw [primeN_count g3 (m + 1) ⟨by omega, by omega⟩] at hp
  have h2 := spMiddle2 (n := n) (l := l) K hK (m + 1) (cE (closedN l) (m + 1)) ⟨by omega, by omega⟩ (count_le g3 (m + 1) ⟨by omega, by omega⟩) (prd (cE (closedN l)) m) _ h1 14 0 (by omega)
  rw [nxt_zero] at h2
  refine Ev.succ ?_; simp only [spec_EulerProduct.l0]
  rw [wrap_id (x := (K : Int) + 1) (by omega) (by omega), show ((K : Int) + 1).toNat = K + 1 by omega]
  exact Ev.pos (by omega) (Ev.bind hp (Ev.pos (by omega) (Ev.pos (by omega) h2)))

theorem euler_list : rowOf (K + 1) (fun q => wrap64 (prd (cE (closedN l)) K q)) = rowOf (K + 1) (rf l) :=
 rowOf_congr (fun q hq => by
  have := ch_fit h q
  rw [euler_rf l K hK q (by omega), wrap_id (by omega) (by omega)])

theorem implEuler : ∀ (d i : Nat), i + d = K + 1 → Ev (fun f => impl_EulerProduct.l0 f (rowOf i (rf l)) (recL l) ((K + 1 : Nat) : Int) (i : Int)) (rowOf (K + 1) (rf l), 0) := by
 intro d
 induction d with
 | zero =>
  intro i hi
  obtain rfl : i = K + 1 := by omega
  refine Ev.succ ?_; simp only [impl_EulerProduct.l0]
  exact Ev.neg (by omega) (Ev.now _)
 | succ d ih =>
  intro i hi
  have h1 := ih (i + 1) (by omega)
  rw [← rowOf_snoc] at h1
  have hl : (rowOf i (rf l)).length = i := rowOf_length _ _
  have hat : impl_at.f (recL l) (i : Int) = some (rf l i) := by
   unfold impl_at.f
   rw [← recL_rd h]
   by_cases c : (i : Int) < ((recL l).length : Int)
   ·rw [if_pos c, if_pos (by omega)]
   ·rw [if_neg c, rd_ge (by omega)]
  refine Ev.succ ?_; simp only [impl_EulerProduct.l0]
  rw [hat, wrap_succ (i := i) (by omega)]
  exact Ev.pos (by omega) (Ev.bind (Ev.now _) (Ev.pos (by omega) h1))

end
theorem implCodeE (n : Int) (l : List (List Int)) (a : Int) (hl : Mod l) : Ev (fun k => impl_graphCode_at_EulerProduct_1.f k n l a) (codeL n l a 0) := by
 have h1 := implIsGraph n l hl
 unfold impl_graphCode_at_EulerProduct_1.f impl_EulerProduct_1.f codeL
 rw [implWithin]
 by_cases hg : isGraph n l = true
 ·rw [hg] at h1
  rw [if_pos hg]
  by_cases c : 0 ≤ a ∧ a ≤ 12
  ·rw [decide_eq_true c, if_pos c]
   exact Ev.bind h1 (Ev.pos rfl (Ev.bind (Ev.now _) (Ev.pos rfl (Ev.now _))))
  ·rw [decide_eq_false c, if_neg c]
   exact Ev.bind h1 (Ev.pos rfl (Ev.bind (Ev.now _) (Ev.neg (by decide) (Ev.now _))))
 ·rw [Bool.not_eq_true] at hg
  rw [hg] at h1
  rw [if_neg (by rw [hg]; decide)]
  exact Ev.bind h1 (Ev.neg (by decide) (Ev.now _))

theorem start_list (K : Nat) (c : Nat → Nat) : (List.replicate (K + 1) (0 : Int)).set (0 : Int).toNat 1 = rowOf (K + 1) (fun q => wrap64 (prd c 0 q)) := by
 rw [← rowOf_zero]
 show (rowOf (K + 1) (fun _ => 0)).set 0 1 = _
 rw [rowOf_set _ _ (show 0 < K + 1 by omega)]
 refine rowOf_congr (fun q hq => ?_)
 show _ = wrap64 (c1 q)
 unfold c1
 split
 ·exact (wrap_id (by decide) (by decide)).symm
 ·exact (wrap_id (by decide) (by decide)).symm

theorem euler_same (n : Int) (l : List (List Int)) (a : Int) (hl : Mod l) : ∃ r : List Int × Int, r.1.length ≤ 1048576 ∧ Ev (fun k => spec_EulerProduct.f k n l a) r ∧ Ev (fun k => impl_EulerProduct.f k n l a) r := by
 unfold spec_EulerProduct.f impl_EulerProduct.f
 have h1 := specLength n l a 0 hl
 have h2 := implCodeE n l a hl
 by_cases c : codeL n l a 0 = 0
 ·obtain ⟨hg, ha, hb⟩ := codeL_zero c
  obtain ⟨K, rfl⟩ := Int.eq_ofNat_of_zero_le ha
  have hs := spOuter2 hg K (by omega) K 0 (by omega)
  rw [euler_list hg K (by omega), ← start_list] at hs
  have hi := implEuler hg K (by omega) (K + 1) 0 (by omega)
  refine ⟨(rowOf (K + 1) (rf l), 0), ?_, ?_, ?_⟩
  ·show (rowOf (K + 1) (rf l)).length ≤ _
   rw [rowOf_length]; omega
  ·refine Ev.bind h1 (Ev.pos c ?_)
   rw [wrap_id (x := (K : Int) + 1) (by omega) (by omega), show ((K : Int) + 1).toNat = K + 1 by omega]
   refine Ev.pos (by omega) (Ev.pos (by omega) (Ev.bind (Ev.now _) (Ev.pos ?_ hs)))
   simp
  ·refine Ev.bind h2 (Ev.pos c (Ev.bind (implRecip hg) ?_))
   rw [wrap_id (x := (K : Int) + 1) (by omega) (by omega)]
   exact hi
 ·exact ⟨([], codeL n l a 0), by simp, Ev.bind h1 (Ev.neg c (Ev.now _)), Ev.bind h2 (Ev.neg c (Ev.now _))⟩

theorem FnExactEulerProduct : laws_FnExactEulerProduct.Pure := by
 intro n l a _ hl hr _
 refine Ev.rounds ?_
 unfold laws_FnExactEulerProduct.f
 refine Ev.ex (szGraph n l hl hr) (fun t ht => ?_)
 rcases ht with ht | ht
 ·repeat (first | with_reducible exact Ev.now _ | dsimp only | refine Ev.pos (by first | omega | rfl | assumption | decide) ?_ | refine Ev.neg (by first | omega | assumption | exact Bool.false_ne_true | exact fun e => absurd e (by decide)) ?_ | simp only [bne_self_eq_false, Bool.not_true, Bool.not_false, List.length_cons, List.length_nil] | rw [wrap_id (by omega) (by omega)] | ((with_reducible refine Ev.eq (congrArg some ?_)); rfl))
 by_cases h0 : t < 0
 ·repeat (first | with_reducible exact Ev.now _ | dsimp only | refine Ev.pos (by first | omega | rfl | assumption | decide) ?_ | refine Ev.neg (by first | omega | assumption | exact Bool.false_ne_true | exact fun e => absurd e (by decide)) ?_ | simp only [bne_self_eq_false, Bool.not_true, Bool.not_false, List.length_cons, List.length_nil] | rw [wrap_id (by omega) (by omega)] | ((with_reducible refine Ev.eq (congrArg some ?_)); rfl))
 obtain ⟨r, hr, hs, hi⟩ := euler_same n l a ht
 obtain ⟨q, hq, hq0, hq1⟩ := markGraph n l ht
 repeat (first | with_reducible exact Ev.now _ | dsimp only | with_reducible refine Ev.bind (toGraph n l ht) ?_ | with_reducible refine Ev.bind (hs) ?_ | with_reducible refine Ev.bind (hi) ?_ | with_reducible refine Ev.bind (eqInt64S_self r.1 hr) ?_ | with_reducible refine Ev.bind (eqGraph_self n l ht) ?_ | with_reducible refine Ev.bind (hq) ?_ | with_reducible refine Ev.bind (markInt64S r.1 hr 1 (by omega) (by omega)) ?_ | with_reducible refine Ev.bind (heldInt64S 1 r.1.length hr (by omega) (by omega)) ?_ | refine Ev.pos (by first | omega | rfl | assumption | decide) ?_ | refine Ev.neg (by first | omega | assumption | exact Bool.false_ne_true | exact fun e => absurd e (by decide)) ?_ | simp only [bne_self_eq_false, Bool.not_true, Bool.not_false, List.length_cons, List.length_nil] | rw [wrap_id (by omega) (by omega)] | with_reducible exact (toGraph n l ht) | with_reducible exact (hs) | with_reducible exact (hi) | with_reducible exact (eqInt64S_self r.1 hr) | with_reducible exact (eqGraph_self n l ht) | with_reducible exact (hq) | with_reducible exact (markInt64S r.1 hr 1 (by omega) (by omega)) | with_reducible exact (heldInt64S 1 r.1.length hr (by omega) (by omega)) | ((with_reducible refine Ev.eq (congrArg some ?_)); rfl))
end Go.Proofs.Yteeoehohocoecaa.Pure
