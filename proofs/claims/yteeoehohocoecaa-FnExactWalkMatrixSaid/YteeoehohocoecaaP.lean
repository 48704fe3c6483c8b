/- The plain proofs for this law. -/
import Derived.Test.YteeoehohocoecaaC4
import Derived.Test.YteeoehohocoecaaAux
namespace Go.Proofs.Yteeoehohocoecaa.Pure
open Go.RowKit Go.Proofs.Yteeoehohocoecaa.G Go.Proofs.YteeoehohocoecaaW.PrintWords Go.Proofs.YteeoehohocoecaaW.PrintLast Go.Proofs.YteeoehohocoecaaW.PrintMore Go.Proofs.Yteeoehohocoecaa.Aux
set_option linter.unusedVariables false
set_option linter.unusedSimpArgs false

theorem toInt64S_loop (l : List Int) (hl : l.length ≤ 1048576) : ∀ (d i : Nat) (ys : List Int), i + d = l.length → ys.length = l.length → ys.take i = l.take i →
  Ev (fun k => laws_toInt64S.l0 k l ys (i : Int)) l := by
 intro d
 induction d with
 | zero =>
  intro i ys hi hy ht
  refine Ev.succ ?_; simp only [laws_toInt64S.l0]
  repeat (first | with_reducible exact Ev.now _ | dsimp only | refine Ev.pos (by first | omega | rfl | assumption | decide) ?_ | refine Ev.neg (by first | omega | assumption | exact Bool.false_ne_true | exact fun e => absurd e (by decide)) ?_ | simp only [bne_self_eq_false, Bool.not_true, Bool.not_false, List.length_cons, List.length_nil] | rw [wrap_id (by omega) (by omega)] | ((with_reducible refine Ev.eq (congrArg some ?_)); rfl))
  exact Ev.eq (congrArg some (eq_of_take hy (by omega) ht))
 | succ d ih =>
  intro i ys hi hy ht
  refine Ev.succ ?_; simp only [laws_toInt64S.l0]
  rw [wrap_succ (by omega)]
  repeat (first | with_reducible exact Ev.now _ | dsimp only | refine Ev.pos (by first | omega | rfl | assumption | decide) ?_ | refine Ev.neg (by first | omega | assumption | exact Bool.false_ne_true | exact fun e => absurd e (by decide)) ?_ | simp only [bne_self_eq_false, Bool.not_true, Bool.not_false, List.length_cons, List.length_nil] | rw [wrap_id (by omega) (by omega)] | ((with_reducible refine Ev.eq (congrArg some ?_)); rfl))
  exact ih (i + 1) _ (by omega) (by simpa using hy) (take_set_succ hy (by omega) (rd_lt (by omega)) ht)

theorem toInt64S (l : List Int) (hl : l.length ≤ 1048576) : Ev (fun k => laws_toInt64S.f k l) l := by
 unfold laws_toInt64S.f
 repeat (first | with_reducible exact Ev.now _ | dsimp only | refine Ev.pos (by first | omega | rfl | assumption | decide) ?_ | refine Ev.neg (by first | omega | assumption | exact Bool.false_ne_true | exact fun e => absurd e (by decide)) ?_ | simp only [bne_self_eq_false, Bool.not_true, Bool.not_false, List.length_cons, List.length_nil] | rw [wrap_id (by omega) (by omega)] | ((with_reducible refine Ev.eq (congrArg some ?_)); rfl))
 exact toInt64S_loop l hl l.length 0 _ (by omega) (by simp) (by simp)

theorem eqInt64S_loop (a b : List Int) (hl : a.length ≤ 1048576) (hab : a.length = b.length) : ∀ (d i : Nat), i + d = a.length →
  Ev (fun k => laws_eqInt64S.l0 k a b (i : Int)) (decide (a.drop i = b.drop i)) := by
 intro d
 induction d with
 | zero =>
  intro i hi
  refine Ev.succ ?_; simp only [laws_eqInt64S.l0]
  rw [List.drop_eq_nil_of_le (by omega), List.drop_eq_nil_of_le (by omega)]
  repeat (first | with_reducible exact Ev.now _ | dsimp only | refine Ev.pos (by first | omega | rfl | assumption | decide) ?_ | refine Ev.neg (by first | omega | assumption | exact Bool.false_ne_true | exact fun e => absurd e (by decide)) ?_ | simp only [bne_self_eq_false, Bool.not_true, Bool.not_false, List.length_cons, List.length_nil] | rw [wrap_id (by omega) (by omega)] | ((with_reducible refine Ev.eq (congrArg some ?_)); rfl))
 | succ d ih =>
  intro i hi
  refine Ev.succ ?_; simp only [laws_eqInt64S.l0]
  rw [List.drop_eq_getElem_cons (by omega : i < a.length), List.drop_eq_getElem_cons (by omega : i < b.length), wrap_succ (by omega)]
  by_cases e : rd a i = rd b i
  ·repeat (first | with_reducible exact Ev.now _ | dsimp only | refine Ev.pos (by first | omega | rfl | assumption | decide) ?_ | refine Ev.neg (by first | omega | assumption | exact Bool.false_ne_true | exact fun e => absurd e (by decide)) ?_ | simp only [bne_self_eq_false, Bool.not_true, Bool.not_false, List.length_cons, List.length_nil] | rw [wrap_id (by omega) (by omega)] | ((with_reducible refine Ev.eq (congrArg some ?_)); rfl))
   have := ih (i + 1) (by omega)
   rw [rd_lt (by omega), rd_lt (by omega)] at e
   rw [e, decide_cons]
   exact this
  ·rw [decide_eq_false (fun h => e (by rw [rd_lt (by omega), rd_lt (by omega)]; exact (List.cons.inj h).1))]
   repeat (first | with_reducible exact Ev.now _ | dsimp only | refine Ev.pos (by first | omega | rfl | assumption | decide) ?_ | refine Ev.neg (by first | omega | assumption | exact Bool.false_ne_true | exact fun e => absurd e (by decide)) ?_ | simp only [bne_self_eq_false, Bool.not_true, Bool.not_false, List.length_cons, List.length_nil] | rw [wrap_id (by omega) (by omega)] | ((with_reducible refine Ev.eq (congrArg some ?_)); rfl))

theorem eqInt64S (a b : List Int) (hl : a.length ≤ 1048576) : Ev (fun k => laws_eqInt64S.f k a b) (decide (a = b)) := by
 unfold laws_eqInt64S.f
 by_cases h : a.length = b.length
 ·repeat (first | with_reducible exact Ev.now _ | dsimp only | refine Ev.pos (by first | omega | rfl | assumption | decide) ?_ | refine Ev.neg (by first | omega | assumption | exact Bool.false_ne_true | exact fun e => absurd e (by decide)) ?_ | simp only [bne_self_eq_false, Bool.not_true, Bool.not_false, List.length_cons, List.length_nil] | rw [wrap_id (by omega) (by omega)] | ((with_reducible refine Ev.eq (congrArg some ?_)); rfl))
  exact eqInt64S_loop a b hl h a.length 0 (by omega)
 ·rw [decide_eq_false (fun e => h (by rw [e]))]
  repeat (first | with_reducible exact Ev.now _ | dsimp only | refine Ev.pos (by first | omega | rfl | assumption | decide) ?_ | refine Ev.neg (by first | omega | assumption | exact Bool.false_ne_true | exact fun e => absurd e (by decide)) ?_ | simp only [bne_self_eq_false, Bool.not_true, Bool.not_false, List.length_cons, List.length_nil] | rw [wrap_id (by omega) (by omega)] | ((with_reducible refine Ev.eq (congrArg some ?_)); rfl))

theorem eqInt64S_self (a : List Int) (hl : a.length ≤ 1048576) : Ev (fun k => laws_eqInt64S.f k a a) true :=
 Ev.conv (eqInt64S a a hl) (by simp)
theorem rl_lt {xs : List (List Int)} {i : Nat} (h : i < xs.length) : rd_L1 xs (i : Int) = xs[i] := by
 simp [rd_L1, List.getD_eq_getElem?_getD, h]

/-- Rows of which each, and their number, is of a moderate size. -/
def Mod (l : List (List Int)) : Prop := l.length ≤ 1048576 ∧ ∀ r ∈ l, r.length ≤ 1048576

theorem Mod.row {l : List (List Int)} (h : Mod l) {i : Nat} (hi : i < l.length) : l[i].length ≤ 1048576 := h.2 _ (List.getElem_mem hi)

theorem szInt64S (l : List Int) (a : Int) (h0 : 0 ≤ a) (h1 : a ≤ 1048576) (hl : l.length ≤ 9223372036854775807) : ∃ t, laws_szInt64S.f l a = some t ∧ (t < 0 ∨ (l.length ≤ 1048576 ∧ 0 ≤ t ∧ t ≤ a)) := by
 unfold laws_szInt64S.f
 rw [wrap_id (by omega) (by omega)]
 by_cases h : a - (l.length : Int) < 0
 ·exact ⟨-1, if_pos h, Or.inl (by omega)⟩
 ·exact ⟨_, if_neg h, Or.inr (by omega)⟩

theorem szInt64SS_loop (l : List (List Int)) (hl : l.length ≤ 1048576) (hr : ∀ r ∈ l, r.length ≤ 9223372036854775807) : ∀ (d i : Nat) (a : Int), i + d = l.length → 0 ≤ a → a ≤ 1048576 → (∀ j, (h : j < l.length) → j < i → l[j].length ≤ 1048576) →
  ∃ t, Ev (fun k => laws_szInt64SS.l0 k l a (i : Int)) t ∧ (t < 0 ∨ (Mod l ∧ 0 ≤ t ∧ t ≤ 1048576)) := by
 intro d
 induction d with
 | zero =>
  intro i a hi h0 h1 hm
  refine ⟨a, ?_, Or.inr ⟨⟨hl, fun r h => ?_⟩, h0, h1⟩⟩
  ·refine Ev.succ ?_; simp only [laws_szInt64SS.l0]
   repeat (first | with_reducible exact Ev.now _ | dsimp only | refine Ev.pos (by first | omega | rfl | assumption | decide) ?_ | refine Ev.neg (by first | omega | assumption | exact Bool.false_ne_true | exact fun e => absurd e (by decide)) ?_ | simp only [bne_self_eq_false, Bool.not_true, Bool.not_false, List.length_cons, List.length_nil] | rw [wrap_id (by omega) (by omega)] | ((with_reducible refine Ev.eq (congrArg some ?_)); rfl))
  ·obtain ⟨j, hj, rfl⟩ := List.getElem_of_mem h
   exact hm j hj (by omega)
 | succ d ih =>
  intro i a hi h0 h1 hm
  obtain ⟨t, ht, hc⟩ := szInt64S (l[i]'(by omega)) a h0 h1 (hr _ (List.getElem_mem _))
  rw [← rl_lt (by omega)] at ht
  rcases hc with hc | ⟨hc, hc0, hc1⟩
  ·refine ⟨-1, ?_, Or.inl (by omega)⟩
   refine Ev.succ ?_; simp only [laws_szInt64SS.l0]
   repeat (first | with_reducible exact Ev.now _ | dsimp only | with_reducible refine Ev.bind (Ev.eq ht) ?_ | refine Ev.pos (by first | omega | rfl | assumption | decide) ?_ | refine Ev.neg (by first | omega | assumption | exact Bool.false_ne_true | exact fun e => absurd e (by decide)) ?_ | simp only [bne_self_eq_false, Bool.not_true, Bool.not_false, List.length_cons, List.length_nil] | rw [wrap_id (by omega) (by omega)] | with_reducible exact (Ev.eq ht) | ((with_reducible refine Ev.eq (congrArg some ?_)); rfl))
  ·obtain ⟨t', h1', h2'⟩ := ih (i + 1) t (by omega) hc0 (by omega) (fun j hj hji => by
    by_cases e : j = i
    ·subst e; exact hc
    ·exact hm j hj (by omega))
   refine ⟨t', ?_, h2'⟩
   refine Ev.succ ?_; simp only [laws_szInt64SS.l0]
   rw [wrap_succ (by omega)]
   repeat (first | with_reducible exact Ev.now _ | dsimp only | with_reducible refine Ev.bind (Ev.eq ht) ?_ | refine Ev.pos (by first | omega | rfl | assumption | decide) ?_ | refine Ev.neg (by first | omega | assumption | exact Bool.false_ne_true | exact fun e => absurd e (by decide)) ?_ | simp only [bne_self_eq_false, Bool.not_true, Bool.not_false, List.length_cons, List.length_nil] | rw [wrap_id (by omega) (by omega)] | with_reducible exact (Ev.eq ht) | ((with_reducible refine Ev.eq (congrArg some ?_)); rfl))
   exact h1'

theorem szInt64SS (l : List (List Int)) (a : Int) (h0 : 0 ≤ a) (h1 : a ≤ 1048576) (hl : l.length ≤ 9223372036854775807) (hr : ∀ r ∈ l, r.length ≤ 9223372036854775807) : ∃ t, Ev (fun k => laws_szInt64SS.f k l a) t ∧ (t < 0 ∨ (Mod l ∧ 0 ≤ t ∧ t ≤ 1048576)) := by
 unfold laws_szInt64SS.f
 rw [wrap_id (by omega) (by omega)]
 by_cases h : a - (l.length : Int) < 0
 ·refine ⟨-1, ?_, Or.inl (by omega)⟩
  repeat (first | with_reducible exact Ev.now _ | dsimp only | refine Ev.pos (by first | omega | rfl | assumption | decide) ?_ | refine Ev.neg (by first | omega | assumption | exact Bool.false_ne_true | exact fun e => absurd e (by decide)) ?_ | simp only [bne_self_eq_false, Bool.not_true, Bool.not_false, List.length_cons, List.length_nil] | rw [wrap_id (by omega) (by omega)] | ((with_reducible refine Ev.eq (congrArg some ?_)); rfl))
 ·obtain ⟨t, h1, h2⟩ := szInt64SS_loop l (by omega) hr l.length 0 (a - (l.length : Int)) (by omega) (by omega) (by omega) (fun j _ hj => by omega)
  refine ⟨t, ?_, h2⟩
  repeat (first | with_reducible exact Ev.now _ | dsimp only | refine Ev.pos (by first | omega | rfl | assumption | decide) ?_ | refine Ev.neg (by first | omega | assumption | exact Bool.false_ne_true | exact fun e => absurd e (by decide)) ?_ | simp only [bne_self_eq_false, Bool.not_true, Bool.not_false, List.length_cons, List.length_nil] | rw [wrap_id (by omega) (by omega)] | ((with_reducible refine Ev.eq (congrArg some ?_)); rfl))
  exact h1

theorem szGraph (n : Int) (l : List (List Int)) (hl : l.length ≤ maxLen) (hr : ∀ r ∈ l, r.length ≤ maxLen ∧ ∀ y ∈ r, (Lit.int .i64 y).wf = true) : ∃ t, Ev (fun k => laws_szGraph.f k n l 1048576) t ∧ (t < 0 ∨ Mod l) := by
 obtain ⟨t, h1, h2⟩ := szInt64SS l 1048576 (by omega) (by omega) (by simp [maxLen] at hl; omega) (fun r h => by have := (hr r h).1; simp [maxLen] at this; omega)
 unfold laws_szGraph.f
 rcases h2 with h2 | ⟨h2, h3, h4⟩
 ·refine ⟨-1, ?_, Or.inl (by omega)⟩
  repeat (first | with_reducible exact Ev.now _ | dsimp only | with_reducible refine Ev.bind (h1) ?_ | refine Ev.pos (by first | omega | rfl | assumption | decide) ?_ | refine Ev.neg (by first | omega | assumption | exact Bool.false_ne_true | exact fun e => absurd e (by decide)) ?_ | simp only [bne_self_eq_false, Bool.not_true, Bool.not_false, List.length_cons, List.length_nil] | rw [wrap_id (by omega) (by omega)] | with_reducible exact (h1) | ((with_reducible refine Ev.eq (congrArg some ?_)); rfl))
 ·refine ⟨t, ?_, Or.inr h2⟩
  repeat (first | with_reducible exact Ev.now _ | dsimp only | with_reducible refine Ev.bind (h1) ?_ | refine Ev.pos (by first | omega | rfl | assumption | decide) ?_ | refine Ev.neg (by first | omega | assumption | exact Bool.false_ne_true | exact fun e => absurd e (by decide)) ?_ | simp only [bne_self_eq_false, Bool.not_true, Bool.not_false, List.length_cons, List.length_nil] | rw [wrap_id (by omega) (by omega)] | with_reducible exact (h1) | ((with_reducible refine Ev.eq (congrArg some ?_)); rfl))

theorem toInt64SS_loop (l : List (List Int)) (hl : Mod l) : ∀ (d i : Nat) (ys : List (List Int)), i + d = l.length → ys.length = l.length → ys.take i = l.take i →
  Ev (fun k => laws_toInt64SS.l0 k l ys (i : Int)) l := by
 have hl1 := hl.1
 intro d
 induction d with
 | zero =>
  intro i ys hi hy ht
  refine Ev.succ ?_; simp only [laws_toInt64SS.l0]
  repeat (first | with_reducible exact Ev.now _ | dsimp only | refine Ev.pos (by first | omega | rfl | assumption | decide) ?_ | refine Ev.neg (by first | omega | assumption | exact Bool.false_ne_true | exact fun e => absurd e (by decide)) ?_ | simp only [bne_self_eq_false, Bool.not_true, Bool.not_false, List.length_cons, List.length_nil] | rw [wrap_id (by omega) (by omega)] | ((with_reducible refine Ev.eq (congrArg some ?_)); rfl))
  exact Ev.eq (congrArg some (eq_of_take hy (by omega) ht))
 | succ d ih =>
  intro i ys hi hy ht
  refine Ev.succ ?_; simp only [laws_toInt64SS.l0]
  rw [wrap_succ (by omega), rl_lt (by omega)]
  repeat (first | with_reducible exact Ev.now _ | dsimp only | with_reducible refine Ev.bind (toInt64S _ (hl.row (by omega))) ?_ | refine Ev.pos (by first | omega | rfl | assumption | decide) ?_ | refine Ev.neg (by first | omega | assumption | exact Bool.false_ne_true | exact fun e => absurd e (by decide)) ?_ | simp only [bne_self_eq_false, Bool.not_true, Bool.not_false, List.length_cons, List.length_nil] | rw [wrap_id (by omega) (by omega)] | with_reducible exact (toInt64S _ (hl.row (by omega))) | ((with_reducible refine Ev.eq (congrArg some ?_)); rfl))
  exact ih (i + 1) _ (by omega) (by simpa using hy) (take_set_succ hy (by omega) rfl ht)

theorem toInt64SS (l : List (List Int)) (hl : Mod l) : Ev (fun k => laws_toInt64SS.f k l) l := by
 have hl1 := hl.1
 unfold laws_toInt64SS.f
 repeat (first | with_reducible exact Ev.now _ | dsimp only | refine Ev.pos (by first | omega | rfl | assumption | decide) ?_ | refine Ev.neg (by first | omega | assumption | exact Bool.false_ne_true | exact fun e => absurd e (by decide)) ?_ | simp only [bne_self_eq_false, Bool.not_true, Bool.not_false, List.length_cons, List.length_nil] | rw [wrap_id (by omega) (by omega)] | ((with_reducible refine Ev.eq (congrArg some ?_)); rfl))
 exact toInt64SS_loop l hl l.length 0 _ (by omega) (by simp) (by simp)

theorem toGraph (n : Int) (l : List (List Int)) (hl : Mod l) : Ev (fun k => laws_toGraph.f k n l) (n, l) := by
 unfold laws_toGraph.f
 repeat (first | with_reducible exact Ev.now _ | dsimp only | with_reducible refine Ev.bind (toInt64SS l hl) ?_ | refine Ev.pos (by first | omega | rfl | assumption | decide) ?_ | refine Ev.neg (by first | omega | assumption | exact Bool.false_ne_true | exact fun e => absurd e (by decide)) ?_ | simp only [bne_self_eq_false, Bool.not_true, Bool.not_false, List.length_cons, List.length_nil] | rw [wrap_id (by omega) (by omega)] | with_reducible exact (toInt64SS l hl) | ((with_reducible refine Ev.eq (congrArg some ?_)); rfl))

theorem eqInt64SS_self_loop (a : List (List Int)) (hl : Mod a) : ∀ (d i : Nat), i + d = a.length →
  Ev (fun k => laws_eqInt64SS.l0 k a a (i : Int)) true := by
 have hl1 := hl.1
 intro d
 induction d with
 | zero =>
  intro i hi
  refine Ev.succ ?_; simp only [laws_eqInt64SS.l0]
  repeat (first | with_reducible exact Ev.now _ | dsimp only | refine Ev.pos (by first | omega | rfl | assumption | decide) ?_ | refine Ev.neg (by first | omega | assumption | exact Bool.false_ne_true | exact fun e => absurd e (by decide)) ?_ | simp only [bne_self_eq_false, Bool.not_true, Bool.not_false, List.length_cons, List.length_nil] | rw [wrap_id (by omega) (by omega)] | ((with_reducible refine Ev.eq (congrArg some ?_)); rfl))
 | succ d ih =>
  intro i hi
  refine Ev.succ ?_; simp only [laws_eqInt64SS.l0]
  rw [rl_lt (by omega), wrap_succ (by omega)]
  repeat (first | with_reducible exact Ev.now _ | dsimp only | with_reducible refine Ev.bind (eqInt64S_self _ (hl.row (by omega))) ?_ | refine Ev.pos (by first | omega | rfl | assumption | decide) ?_ | refine Ev.neg (by first | omega | assumption | exact Bool.false_ne_true | exact fun e => absurd e (by decide)) ?_ | simp only [bne_self_eq_false, Bool.not_true, Bool.not_false, List.length_cons, List.length_nil] | rw [wrap_id (by omega) (by omega)] | with_reducible exact (eqInt64S_self _ (hl.row (by omega))) | ((with_reducible refine Ev.eq (congrArg some ?_)); rfl))
  exact ih (i + 1) (by omega)

theorem eqInt64SS_self (a : List (List Int)) (hl : Mod a) : Ev (fun k => laws_eqInt64SS.f k a a) true := by
 unfold laws_eqInt64SS.f
 repeat (first | with_reducible exact Ev.now _ | dsimp only | refine Ev.pos (by first | omega | rfl | assumption | decide) ?_ | refine Ev.neg (by first | omega | assumption | exact Bool.false_ne_true | exact fun e => absurd e (by decide)) ?_ | simp only [bne_self_eq_false, Bool.not_true, Bool.not_false, List.length_cons, List.length_nil] | rw [wrap_id (by omega) (by omega)] | ((with_reducible refine Ev.eq (congrArg some ?_)); rfl))
 exact eqInt64SS_self_loop a hl a.length 0 (by omega)

theorem eqGraph_self (n : Int) (a : List (List Int)) (hl : Mod a) : Ev (fun k => laws_eqGraph.f k n a n a) true := by
 unfold laws_eqGraph.f
 repeat (first | with_reducible exact Ev.now _ | dsimp only | with_reducible refine Ev.bind (eqInt64SS_self a hl) ?_ | refine Ev.pos (by first | omega | rfl | assumption | decide) ?_ | refine Ev.neg (by first | omega | assumption | exact Bool.false_ne_true | exact fun e => absurd e (by decide)) ?_ | simp only [bne_self_eq_false, Bool.not_true, Bool.not_false, List.length_cons, List.length_nil] | rw [wrap_id (by omega) (by omega)] | with_reducible exact (eqInt64SS_self a hl) | ((with_reducible refine Ev.eq (congrArg some ?_)); rfl))
theorem specIn (a b c : Int) : spec_l01In.f a b c = some (decide (b ≤ a ∧ a ≤ c)) := by
 unfold spec_l01In.f
 by_cases h : b ≤ a
 ·rw [if_pos h]; simp [h]
 ·rw [if_neg h]; simp [h]

theorem implWithin (a b c : Int) : impl_within.f a b c = some (decide (b ≤ a ∧ a ≤ c)) := by
 unfold impl_within.f
 by_cases h : b ≤ a
 ·rw [if_pos h]; simp [h]
 ·rw [if_neg h]; simp [h]

/-- One edge's test. -/
def okEdge (n : Int) (e : List Int) : Bool := decide (e.length = 2) && (decide (0 ≤ rd e 0 ∧ rd e 0 ≤ wrap64 (n - 1)) && decide (0 ≤ rd e 1 ∧ rd e 1 ≤ wrap64 (n - 1)))

def isGraph (n : Int) (l : List (List Int)) : Bool := l.all (okEdge n) && (decide (1 ≤ n ∧ n ≤ 8) && decide ((l.length : Int) ≤ 10))

theorem specIs_loop (n : Int) (l : List (List Int)) (hl : Mod l) : ∀ (d i : Nat), i + d = l.length →
  Ev (fun k => spec_l01Is.l0 k (i : Int) n l) ((l.drop i).all (okEdge n)) := by
 have hl1 := hl.1
 intro d
 induction d with
 | zero =>
  intro i hi
  refine Ev.succ ?_; simp only [spec_l01Is.l0]
  rw [List.drop_eq_nil_of_le (by omega)]
  repeat (first | with_reducible exact Ev.now _ | dsimp only | refine Ev.pos (by first | omega | rfl | assumption | decide) ?_ | refine Ev.neg (by first | omega | assumption | exact Bool.false_ne_true | exact fun e => absurd e (by decide)) ?_ | simp only [bne_self_eq_false, Bool.not_true, Bool.not_false, List.length_cons, List.length_nil] | rw [wrap_id (by omega) (by omega)] | ((with_reducible refine Ev.eq (congrArg some ?_)); rfl))
 | succ d ih =>
  intro i hi
  refine Ev.succ ?_; simp only [spec_l01Is.l0]
  rw [List.drop_eq_getElem_cons (by omega : i < l.length), List.all_cons, rl_lt (by omega), wrap_succ (by omega)]
  generalize l[i] = e
  have := ih (i + 1) (by omega)
  unfold okEdge
  by_cases h2 : (e.length : Int) = 2
  ·rw [decide_eq_true (show e.length = 2 by omega), Bool.true_and]
   by_cases ha : 0 ≤ rd e 0 ∧ rd e 0 ≤ wrap64 (n - 1)
   ·by_cases hb : 0 ≤ rd e 1 ∧ rd e 1 ≤ wrap64 (n - 1)
    ·rw [decide_eq_true ha, decide_eq_true hb, Bool.true_and, Bool.true_and]
     repeat (first | with_reducible exact Ev.now _ | dsimp only | with_reducible refine Ev.bind (Ev.eq ((specIn _ _ _).trans (congrArg some (decide_eq_true ha)))) ?_ | with_reducible refine Ev.bind (Ev.eq ((specIn _ _ _).trans (congrArg some (decide_eq_true hb)))) ?_ | refine Ev.pos (by first | omega | rfl | assumption | decide) ?_ | refine Ev.neg (by first | omega | assumption | exact Bool.false_ne_true | exact fun e => absurd e (by decide)) ?_ | simp only [bne_self_eq_false, Bool.not_true, Bool.not_false, List.length_cons, List.length_nil] | rw [wrap_id (by omega) (by omega)] | with_reducible exact (Ev.eq ((specIn _ _ _).trans (congrArg some (decide_eq_true ha)))) | with_reducible exact (Ev.eq ((specIn _ _ _).trans (congrArg some (decide_eq_true hb)))) | ((with_reducible refine Ev.eq (congrArg some ?_)); rfl))
     exact this
    ·rw [decide_eq_false hb, Bool.and_false, Bool.false_and]
     repeat (first | with_reducible exact Ev.now _ | dsimp only | with_reducible refine Ev.bind (Ev.eq ((specIn _ _ _).trans (congrArg some (decide_eq_true ha)))) ?_ | with_reducible refine Ev.bind (Ev.eq ((specIn _ _ _).trans (congrArg some (decide_eq_false hb)))) ?_ | refine Ev.pos (by first | omega | rfl | assumption | decide) ?_ | refine Ev.neg (by first | omega | assumption | exact Bool.false_ne_true | exact fun e => absurd e (by decide)) ?_ | simp only [bne_self_eq_false, Bool.not_true, Bool.not_false, List.length_cons, List.length_nil] | rw [wrap_id (by omega) (by omega)] | with_reducible exact (Ev.eq ((specIn _ _ _).trans (congrArg some (decide_eq_true ha)))) | with_reducible exact (Ev.eq ((specIn _ _ _).trans (congrArg some (decide_eq_false hb)))) | ((with_reducible refine Ev.eq (congrArg some ?_)); rfl))
   ·rw [decide_eq_false ha, Bool.false_and, Bool.false_and]
    repeat (first | with_reducible exact Ev.now _ | dsimp only | with_reducible refine Ev.bind (Ev.eq ((specIn _ _ _).trans (congrArg some (decide_eq_false ha)))) ?_ | refine Ev.pos (by first | omega | rfl | assumption | decide) ?_ | refine Ev.neg (by first | omega | assumption | exact Bool.false_ne_true | exact fun e => absurd e (by decide)) ?_ | simp only [bne_self_eq_false, Bool.not_true, Bool.not_false, List.length_cons, List.length_nil] | rw [wrap_id (by omega) (by omega)] | with_reducible exact (Ev.eq ((specIn _ _ _).trans (congrArg some (decide_eq_false ha)))) | ((with_reducible refine Ev.eq (congrArg some ?_)); rfl))
  ·rw [decide_eq_false (show ¬ e.length = 2 by omega), Bool.false_and, Bool.false_and]
   repeat (first | with_reducible exact Ev.now _ | dsimp only | refine Ev.pos (by first | omega | rfl | assumption | decide) ?_ | refine Ev.neg (by first | omega | assumption | exact Bool.false_ne_true | exact fun e => absurd e (by decide)) ?_ | simp only [bne_self_eq_false, Bool.not_true, Bool.not_false, List.length_cons, List.length_nil] | rw [wrap_id (by omega) (by omega)] | ((with_reducible refine Ev.eq (congrArg some ?_)); rfl))

theorem specIs (n : Int) (l : List (List Int)) (hl : Mod l) : Ev (fun k => spec_l01Is.f k n l) (isGraph n l) := by
 unfold spec_l01Is.f isGraph
 by_cases h1 : 1 ≤ n ∧ n ≤ 8
 ·rw [decide_eq_true h1, Bool.true_and]
  repeat (first | with_reducible exact Ev.now _ | dsimp only | with_reducible refine Ev.bind (Ev.eq ((specIn n 1 8).trans (congrArg some (decide_eq_true h1)))) ?_ | refine Ev.pos (by first | omega | rfl | assumption | decide) ?_ | refine Ev.neg (by first | omega | assumption | exact Bool.false_ne_true | exact fun e => absurd e (by decide)) ?_ | simp only [bne_self_eq_false, Bool.not_true, Bool.not_false, List.length_cons, List.length_nil] | rw [wrap_id (by omega) (by omega)] | with_reducible exact (Ev.eq ((specIn n 1 8).trans (congrArg some (decide_eq_true h1)))) | ((with_reducible refine Ev.eq (congrArg some ?_)); rfl))
  refine Ev.succ ?_
  simp only [spec_l01Is.j0]
  by_cases h2 : (l.length : Int) ≤ 10
  ·rw [decide_eq_true h2, decide_eq_false (show ¬ (l.length : Int) > 10 by omega), Bool.and_true]
   repeat (first | with_reducible exact Ev.now _ | dsimp only | refine Ev.pos (by first | omega | rfl | assumption | decide) ?_ | refine Ev.neg (by first | omega | assumption | exact Bool.false_ne_true | exact fun e => absurd e (by decide)) ?_ | simp only [bne_self_eq_false, Bool.not_true, Bool.not_false, List.length_cons, List.length_nil] | rw [wrap_id (by omega) (by omega)] | ((with_reducible refine Ev.eq (congrArg some ?_)); rfl))
   exact specIs_loop n l hl l.length 0 (by omega)
  ·rw [decide_eq_false h2, decide_eq_true (show (l.length : Int) > 10 by omega), Bool.and_false]
   repeat (first | with_reducible exact Ev.now _ | dsimp only | refine Ev.pos (by first | omega | rfl | assumption | decide) ?_ | refine Ev.neg (by first | omega | assumption | exact Bool.false_ne_true | exact fun e => absurd e (by decide)) ?_ | simp only [bne_self_eq_false, Bool.not_true, Bool.not_false, List.length_cons, List.length_nil] | rw [wrap_id (by omega) (by omega)] | ((with_reducible refine Ev.eq (congrArg some ?_)); rfl))
 ·rw [decide_eq_false h1, Bool.false_and, Bool.and_false]
  repeat (first | with_reducible exact Ev.now _ | dsimp only | with_reducible refine Ev.bind (Ev.eq ((specIn n 1 8).trans (congrArg some (decide_eq_false h1)))) ?_ | refine Ev.pos (by first | omega | rfl | assumption | decide) ?_ | refine Ev.neg (by first | omega | assumption | exact Bool.false_ne_true | exact fun e => absurd e (by decide)) ?_ | simp only [bne_self_eq_false, Bool.not_true, Bool.not_false, List.length_cons, List.length_nil] | rw [wrap_id (by omega) (by omega)] | with_reducible exact (Ev.eq ((specIn n 1 8).trans (congrArg some (decide_eq_false h1)))) | ((with_reducible refine Ev.eq (congrArg some ?_)); rfl))
  refine Ev.succ ?_
  simp only [spec_l01Is.j0]
  repeat (first | with_reducible exact Ev.now _ | dsimp only | refine Ev.pos (by first | omega | rfl | assumption | decide) ?_ | refine Ev.neg (by first | omega | assumption | exact Bool.false_ne_true | exact fun e => absurd e (by decide)) ?_ | simp only [bne_self_eq_false, Bool.not_true, Bool.not_false, List.length_cons, List.length_nil] | rw [wrap_id (by omega) (by omega)] | ((with_reducible refine Ev.eq (congrArg some ?_)); rfl))

theorem implIs_loop (n : Int) (l : List (List Int)) (hl : Mod l) : ∀ (d i : Nat), i + d = l.length →
  Ev (fun k => impl_IsGraph.l0 k l (l.length : Int) (i : Int) n l) ((l.drop i).all (okEdge n) && (decide (1 ≤ n ∧ n ≤ 8) && decide ((l.length : Int) ≤ 10))) := by
 have hl1 := hl.1
 intro d
 induction d with
 | zero =>
  intro i hi
  refine Ev.succ ?_; simp only [impl_IsGraph.l0]
  rw [List.drop_eq_nil_of_le (by omega), List.all_nil, Bool.true_and]
  by_cases h1 : 1 ≤ n ∧ n ≤ 8
  ·rw [decide_eq_true h1, Bool.true_and]
   repeat (first | with_reducible exact Ev.now _ | dsimp only | with_reducible refine Ev.bind (Ev.eq ((implWithin n 1 8).trans (congrArg some (decide_eq_true h1)))) ?_ | refine Ev.pos (by first | omega | rfl | assumption | decide) ?_ | refine Ev.neg (by first | omega | assumption | exact Bool.false_ne_true | exact fun e => absurd e (by decide)) ?_ | simp only [bne_self_eq_false, Bool.not_true, Bool.not_false, List.length_cons, List.length_nil] | rw [wrap_id (by omega) (by omega)] | with_reducible exact (Ev.eq ((implWithin n 1 8).trans (congrArg some (decide_eq_true h1)))) | ((with_reducible refine Ev.eq (congrArg some ?_)); rfl))
  ·rw [decide_eq_false h1, Bool.false_and]
   repeat (first | with_reducible exact Ev.now _ | dsimp only | with_reducible refine Ev.bind (Ev.eq ((implWithin n 1 8).trans (congrArg some (decide_eq_false h1)))) ?_ | refine Ev.pos (by first | omega | rfl | assumption | decide) ?_ | refine Ev.neg (by first | omega | assumption | exact Bool.false_ne_true | exact fun e => absurd e (by decide)) ?_ | simp only [bne_self_eq_false, Bool.not_true, Bool.not_false, List.length_cons, List.length_nil] | rw [wrap_id (by omega) (by omega)] | with_reducible exact (Ev.eq ((implWithin n 1 8).trans (congrArg some (decide_eq_false h1)))) | ((with_reducible refine Ev.eq (congrArg some ?_)); rfl))
 | succ d ih =>
  intro i hi
  refine Ev.succ ?_; simp only [impl_IsGraph.l0]
  rw [List.drop_eq_getElem_cons (by omega : i < l.length), List.all_cons, rl_lt (by omega), wrap_succ (by omega)]
  generalize l[i] = e
  have := ih (i + 1) (by omega)
  unfold okEdge at this ⊢
  by_cases h2 : (e.length : Int) = 2
  ·rw [decide_eq_true (show e.length = 2 by omega), Bool.true_and]
   by_cases ha : 0 ≤ rd e 0 ∧ rd e 0 ≤ wrap64 (n - 1)
   ·by_cases hb : 0 ≤ rd e 1 ∧ rd e 1 ≤ wrap64 (n - 1)
    ·rw [decide_eq_true ha, decide_eq_true hb, Bool.true_and, Bool.true_and]
     repeat (first | with_reducible exact Ev.now _ | dsimp only | with_reducible refine Ev.bind (Ev.eq ((implWithin _ _ _).trans (congrArg some (decide_eq_true ha)))) ?_ | with_reducible refine Ev.bind (Ev.eq ((implWithin _ _ _).trans (congrArg some (decide_eq_true hb)))) ?_ | refine Ev.pos (by first | omega | rfl | assumption | decide) ?_ | refine Ev.neg (by first | omega | assumption | exact Bool.false_ne_true | exact fun e => absurd e (by decide)) ?_ | simp only [bne_self_eq_false, Bool.not_true, Bool.not_false, List.length_cons, List.length_nil] | rw [wrap_id (by omega) (by omega)] | with_reducible exact (Ev.eq ((implWithin _ _ _).trans (congrArg some (decide_eq_true ha)))) | with_reducible exact (Ev.eq ((implWithin _ _ _).trans (congrArg some (decide_eq_true hb)))) | ((with_reducible refine Ev.eq (congrArg some ?_)); rfl))
     exact this
    ·rw [decide_eq_false hb, Bool.and_false, Bool.false_and, Bool.false_and]
     repeat (first | with_reducible exact Ev.now _ | dsimp only | with_reducible refine Ev.bind (Ev.eq ((implWithin _ _ _).trans (congrArg some (decide_eq_true ha)))) ?_ | with_reducible refine Ev.bind (Ev.eq ((implWithin _ _ _).trans (congrArg some (decide_eq_false hb)))) ?_ | refine Ev.pos (by first | omega | rfl | assumption | decide) ?_ | refine Ev.neg (by first | omega | assumption | exact Bool.false_ne_true | exact fun e => absurd e (by decide)) ?_ | simp only [bne_self_eq_false, Bool.not_true, Bool.not_false, List.length_cons, List.length_nil] | rw [wrap_id (by omega) (by omega)] | with_reducible exact (Ev.eq ((implWithin _ _ _).trans (congrArg some (decide_eq_true ha)))) | with_reducible exact (Ev.eq ((implWithin _ _ _).trans (congrArg some (decide_eq_false hb)))) | ((with_reducible refine Ev.eq (congrArg some ?_)); rfl))
   ·rw [decide_eq_false ha, Bool.false_and, Bool.false_and, Bool.false_and]
    repeat (first | with_reducible exact Ev.now _ | dsimp only | with_reducible refine Ev.bind (Ev.eq ((implWithin _ _ _).trans (congrArg some (decide_eq_false ha)))) ?_ | refine Ev.pos (by first | omega | rfl | assumption | decide) ?_ | refine Ev.neg (by first | omega | assumption | exact Bool.false_ne_true | exact fun e => absurd e (by decide)) ?_ | simp only [bne_self_eq_false, Bool.not_true, Bool.not_false, List.length_cons, List.length_nil] | rw [wrap_id (by omega) (by omega)] | with_reducible exact (Ev.eq ((implWithin _ _ _).trans (congrArg some (decide_eq_false ha)))) | ((with_reducible refine Ev.eq (congrArg some ?_)); rfl))
  ·rw [decide_eq_false (show ¬ e.length = 2 by omega), Bool.false_and, Bool.false_and, Bool.false_and]
   repeat (first | with_reducible exact Ev.now _ | dsimp only | refine Ev.pos (by first | omega | rfl | assumption | decide) ?_ | refine Ev.neg (by first | omega | assumption | exact Bool.false_ne_true | exact fun e => absurd e (by decide)) ?_ | simp only [bne_self_eq_false, Bool.not_true, Bool.not_false, List.length_cons, List.length_nil] | rw [wrap_id (by omega) (by omega)] | ((with_reducible refine Ev.eq (congrArg some ?_)); rfl))

theorem implIsGraph (n : Int) (l : List (List Int)) (hl : Mod l) : Ev (fun k => impl_IsGraph.f k n l) (isGraph n l) := by
 unfold impl_IsGraph.f
 exact implIs_loop n l hl l.length 0 (by omega)

theorem len_two {α : Type} {e : List α} (h : e.length = 2) : ∃ a b, e = [a, b] := by
 match e, h with
 | [a, b], _ => exact ⟨a, b, rfl⟩

theorem isGraph_iff (n : Int) (l : List (List Int)) : isGraph n l = true ↔ 1 ≤ n ∧ n ≤ 8 ∧ l.length ≤ 10 ∧ ∀ e ∈ l, ∃ a b : Int, e = [a, b] ∧ 0 ≤ a ∧ a < n ∧ 0 ≤ b ∧ b < n := by
 unfold isGraph
 rw [Bool.and_eq_true, Bool.and_eq_true, decide_eq_true_iff, decide_eq_true_iff, List.all_eq_true]
 constructor
 ·rintro ⟨h, ⟨h1, h2⟩, h3⟩
  refine ⟨h1, h2, by omega, fun e he => ?_⟩
  have := h e he
  unfold okEdge at this
  rw [Bool.and_eq_true, Bool.and_eq_true, decide_eq_true_iff, decide_eq_true_iff, decide_eq_true_iff, wrap_id (by omega) (by omega)] at this
  obtain ⟨he2, ha, hb⟩ := this
  obtain ⟨a, b, rfl⟩ := len_two he2
  simp only [show rd [a, b] 0 = a from rfl, show rd [a, b] 1 = b from rfl] at ha hb
  exact ⟨a, b, rfl, by omega, by omega, by omega, by omega⟩
 ·rintro ⟨h1, h2, h3, h⟩
  refine ⟨fun e he => ?_, ⟨h1, h2⟩, by omega⟩
  obtain ⟨a, b, rfl, h4, h5, h6, h7⟩ := h e he
  unfold okEdge
  rw [Bool.and_eq_true, Bool.and_eq_true, decide_eq_true_iff, decide_eq_true_iff, decide_eq_true_iff, wrap_id (by omega) (by omega)]
  simp only [show rd [a, b] 0 = a from rfl, show rd [a, b] 1 = b from rfl]
  exact ⟨rfl, by omega, by omega⟩
theorem graph_edge {n : Int} {l : List (List Int)} (h : isGraph n l = true) {i : Nat} (hi : i < l.length) :
  (rd_L1 l (i : Int)).length = 2 ∧ ∃ a b : Nat, rd (rd_L1 l (i : Int)) 0 = a ∧ rd (rd_L1 l (i : Int)) 1 = b ∧ (a : Int) < n ∧ (b : Int) < n := by
 rw [rl_lt hi]
 obtain ⟨h1, h2, h3, h4⟩ := (isGraph_iff n l).1 h
 obtain ⟨a, b, e, ha, ha', hb, hb'⟩ := h4 _ (List.getElem_mem hi)
 rw [e]
 refine ⟨rfl, a.toNat, b.toNat, ?_, ?_, by omega, by omega⟩
 ·show a = _
  omega
 ·show b = _
  omega

theorem graph_small {n : Int} {l : List (List Int)} (h : isGraph n l = true) : 1 ≤ n ∧ n ≤ 8 ∧ l.length ≤ 10 := by
 obtain ⟨h1, h2, h3, h4⟩ := (isGraph_iff n l).1 h
 exact ⟨h1, h2, h3⟩
/-- The directed edge's start, its end, and its reverse. -/
def tl (l : List (List Int)) (p : Nat) : Int := if p % 2 = 1 then rd (rd_L1 l ((p / 2 : Nat) : Int)) 1 else rd (rd_L1 l ((p / 2 : Nat) : Int)) 0
def hd (l : List (List Int)) (p : Nat) : Int := if p % 2 = 1 then rd (rd_L1 l ((p / 2 : Nat) : Int)) 0 else rd (rd_L1 l ((p / 2 : Nat) : Int)) 1
def inv (p : Nat) : Nat := if p % 2 = 0 then p + 1 else p - 1
def next (l : List (List Int)) (p q : Nat) : Bool := decide (hd l p = tl l q) && decide (q ≠ inv p)

theorem half (p : Nat) (h : p < 1000) : wrap64 (Int.tdiv (p : Int) 2) = ((p / 2 : Nat) : Int) := by
 rw [Int.tdiv_eq_ediv_of_nonneg (by omega), wrap_id (by omega) (by omega)]
 omega

theorem rest2 (p : Nat) : Int.tmod (p : Int) 2 = ((p % 2 : Nat) : Int) := by
 rw [Int.tmod_eq_emod_of_nonneg (by omega)]
 omega

theorem xor_inv (p : Nat) (h : p < 20) : Go.bits .xor .i64 (p : Int) 1 = ((inv p : Nat) : Int) := by
 have : ∀ q : Fin 20, Go.bits .xor .i64 (q.val : Int) 1 = ((inv q.val : Nat) : Int) := by decide
 exact this ⟨p, h⟩

section
variable {n : Int} {l : List (List Int)} (h : isGraph n l = true)
include h

theorem specEnds {p : Nat} (hp : p < 2 * l.length) : spec_l01Ends.f n l (p : Int) = some (tl l p, hd l p) := by
 obtain ⟨g1, g2, g3⟩ := graph_small h
 obtain ⟨e2, a, b, ea, eb, ha, hb⟩ := graph_edge h (show p / 2 < l.length by omega)
 unfold spec_l01Ends.f tl hd
 rw [half p (by omega), rest2, if_pos (by omega), if_pos (by omega)]
 by_cases c : p % 2 = 1
 ·rw [if_pos (show ((p % 2 : Nat) : Int) = 1 by omega), if_pos (by omega), if_pos (by omega), if_pos c, if_pos c]
 ·rw [if_neg (show ¬ ((p % 2 : Nat) : Int) = 1 by omega), if_pos (by omega), if_pos (by omega), if_neg c, if_neg c]

theorem implEnds {p : Nat} (hp : p < 2 * l.length) : impl_Graph_ends.f n l (p : Int) = some (tl l p, hd l p) := by
 obtain ⟨g1, g2, g3⟩ := graph_small h
 obtain ⟨e2, a, b, ea, eb, ha, hb⟩ := graph_edge h (show p / 2 < l.length by omega)
 unfold impl_Graph_ends.f tl hd
 rw [half p (by omega), rest2, wrap_id (x := 1 - ((p % 2 : Nat) : Int)) (by omega) (by omega), if_pos (by omega), if_pos (by omega), if_pos (by omega), if_pos (by omega), if_pos (by omega), if_pos (by omega)]
 by_cases c : p % 2 = 1
 ·rw [if_pos c, if_pos c, c]
  rfl
 ·rw [if_neg c, if_neg c, show p % 2 = 0 by omega]
  rfl

end
theorem markInt64S_loop (n : Nat) (hn : n ≤ 1048576) (a : Int) (h0 : 0 ≤ a) (h1 : a ≤ 1125899906842624) : ∀ (d i : Nat) (ys : List Int), i + d = n → ys.length = n → ys.take i = (marks a n).take i →
  Ev (fun k => laws_markInt64S.l0 k ys (a + i) (i : Int)) (a + n, marks a n) := by
 intro d
 induction d with
 | zero =>
  intro i ys hi hy ht
  refine Ev.succ ?_; simp only [laws_markInt64S.l0]
  rw [show ys = marks a n from eq_of_take (by rw [hy, marks_length]) (by rw [marks_length]; omega) ht, show i = n by omega]
  have := marks_length a n
  repeat (first | with_reducible exact Ev.now _ | dsimp only | refine Ev.pos (by first | omega | rfl | assumption | decide) ?_ | refine Ev.neg (by first | omega | assumption | exact Bool.false_ne_true | exact fun e => absurd e (by decide)) ?_ | simp only [bne_self_eq_false, Bool.not_true, Bool.not_false, List.length_cons, List.length_nil] | rw [wrap_id (by omega) (by omega)] | ((with_reducible refine Ev.eq (congrArg some ?_)); rfl))
 | succ d ih =>
  intro i ys hi hy ht
  refine Ev.succ ?_; simp only [laws_markInt64S.l0]
  rw [wrap_succ (by omega), wrap_id (x := a + i + 1) (by omega) (by omega)]
  repeat (first | with_reducible exact Ev.now _ | dsimp only | refine Ev.pos (by first | omega | rfl | assumption | decide) ?_ | refine Ev.neg (by first | omega | assumption | exact Bool.false_ne_true | exact fun e => absurd e (by decide)) ?_ | simp only [bne_self_eq_false, Bool.not_true, Bool.not_false, List.length_cons, List.length_nil] | rw [wrap_id (by omega) (by omega)] | ((with_reducible refine Ev.eq (congrArg some ?_)); rfl))
  have := ih (i + 1) (ys.set i (a + i)) (by omega) (by simpa using hy) (take_set_succ (by rw [hy, marks_length]) (by rw [marks_length]; omega) (marks_get a n i (by rw [marks_length]; omega)).symm ht)
  rw [show a + ((i + 1 : Nat) : Int) = a + i + 1 by omega] at this
  exact this

theorem markInt64S (l : List Int) (hl : l.length ≤ 1048576) (a : Int) (h0 : 0 ≤ a) (h1 : a ≤ 1125899906842624) : Ev (fun k => laws_markInt64S.f k l a) (a + l.length, marks a l.length) := by
 unfold laws_markInt64S.f
 have := markInt64S_loop l.length hl a h0 h1 l.length 0 l (by omega) rfl (by simp)
 rw [show a + ((0 : Nat) : Int) = a by omega] at this
 exact this

theorem heldInt64S_loop (n : Nat) (hn : n ≤ 1048576) (a : Int) (h0 : 0 ≤ a) (h1 : a ≤ 1125899906842624) : ∀ (d i : Nat), i + d = n →
  Ev (fun k => laws_heldInt64S.l0 k (marks a n) (a + i) (i : Int)) (a + n) := by
 have hm := marks_length a n
 intro d
 induction d with
 | zero =>
  intro i hi
  refine Ev.succ ?_; simp only [laws_heldInt64S.l0]
  rw [show i = n by omega]
  repeat (first | with_reducible exact Ev.now _ | dsimp only | refine Ev.pos (by first | omega | rfl | assumption | decide) ?_ | refine Ev.neg (by first | omega | assumption | exact Bool.false_ne_true | exact fun e => absurd e (by decide)) ?_ | simp only [bne_self_eq_false, Bool.not_true, Bool.not_false, List.length_cons, List.length_nil] | rw [wrap_id (by omega) (by omega)] | ((with_reducible refine Ev.eq (congrArg some ?_)); rfl))
 | succ d ih =>
  intro i hi
  refine Ev.succ ?_; simp only [laws_heldInt64S.l0]
  rw [wrap_succ (by omega), wrap_id (x := a + i + 1) (by omega) (by omega)]
  have e := marks_get a n i (by omega)
  rw [← rd_lt] at e
  have := ih (i + 1) (by omega)
  rw [show a + ((i + 1 : Nat) : Int) = a + i + 1 by omega] at this
  repeat (first | with_reducible exact Ev.now _ | dsimp only | refine Ev.pos (by first | omega | rfl | assumption | decide) ?_ | refine Ev.neg (by first | omega | assumption | exact Bool.false_ne_true | exact fun e => absurd e (by decide)) ?_ | simp only [bne_self_eq_false, Bool.not_true, Bool.not_false, List.length_cons, List.length_nil] | rw [wrap_id (by omega) (by omega)] | ((with_reducible refine Ev.eq (congrArg some ?_)); rfl))
  exact this

theorem heldInt64S (a : Int) (n : Nat) (hn : n ≤ 1048576) (h0 : 0 ≤ a) (h1 : a ≤ 1125899906842624) : Ev (fun k => laws_heldInt64S.f k (marks a n) a) (a + n) := by
 unfold laws_heldInt64S.f
 have := heldInt64S_loop n hn a h0 h1 n 0 (by omega)
 rw [show a + ((0 : Nat) : Int) = a by omega] at this
 exact this
theorem markInt64SS_loop : ∀ (d i : Nat) (xs : List (List Int)) (a : Int), i + d = xs.length → xs.length ≤ 1048576 → (∀ r ∈ xs, r.length ≤ 1048576) → 0 ≤ a → a ≤ 1 + 1048576 * i →
  ∃ r : Int × List (List Int), Ev (fun k => laws_markInt64SS.l0 k xs a (i : Int)) r ∧ 0 ≤ r.1 ∧ r.1 ≤ 1 + 1048576 * xs.length := by
 intro d
 induction d with
 | zero =>
  intro i xs a hi hx hr h0 h1
  refine ⟨(a, xs), ?_, h0, by simp only; omega⟩
  refine Ev.succ ?_; simp only [laws_markInt64SS.l0]
  repeat (first | with_reducible exact Ev.now _ | dsimp only | refine Ev.pos (by first | omega | rfl | assumption | decide) ?_ | refine Ev.neg (by first | omega | assumption | exact Bool.false_ne_true | exact fun e => absurd e (by decide)) ?_ | simp only [bne_self_eq_false, Bool.not_true, Bool.not_false, List.length_cons, List.length_nil] | rw [wrap_id (by omega) (by omega)] | ((with_reducible refine Ev.eq (congrArg some ?_)); rfl))
 | succ d ih =>
  intro i xs a hi hx hr h0 h1
  have hlen : xs[i].length ≤ 1048576 := hr _ (List.getElem_mem (by omega))
  obtain ⟨r, h2, h3⟩ := ih (i + 1) (xs.set i (marks a xs[i].length)) (a + xs[i].length) (by simp; omega) (by simpa using hx) (fun r hm => by
   rcases List.mem_or_eq_of_mem_set hm with h | h
   ·exact hr r h
   ·rw [h, marks_length]; exact hlen) (by omega) (by omega)
  rw [List.length_set] at h3
  refine ⟨r, ?_, h3⟩
  refine Ev.succ ?_; simp only [laws_markInt64SS.l0]
  rw [wrap_succ (by omega), rl_lt (by omega)]
  repeat (first | with_reducible exact Ev.now _ | dsimp only | with_reducible refine Ev.bind (markInt64S xs[i] hlen a h0 (by omega)) ?_ | refine Ev.pos (by first | omega | rfl | assumption | decide) ?_ | refine Ev.neg (by first | omega | assumption | exact Bool.false_ne_true | exact fun e => absurd e (by decide)) ?_ | simp only [bne_self_eq_false, Bool.not_true, Bool.not_false, List.length_cons, List.length_nil] | rw [wrap_id (by omega) (by omega)] | with_reducible exact (markInt64S xs[i] hlen a h0 (by omega)) | ((with_reducible refine Ev.eq (congrArg some ?_)); rfl))
  exact h2

theorem markGraph (n : Int) (l : List (List Int)) (hl : Mod l) : ∃ r : Int × List (List Int), Ev (fun k => laws_markGraph.f k n l 1) r ∧ 0 ≤ r.1 ∧ r.1 ≤ 1099511627777 := by
 unfold laws_markGraph.f laws_markInt64SS.f
 have hl1 := hl.1
 obtain ⟨r, h1, h2, h3⟩ := markInt64SS_loop l.length 0 l 1 (by omega) hl.1 hl.2 (by decide) (by omega)
 exact ⟨r, h1, h2, by omega⟩
def marksR : Int → List (List Int) → List (List Int)
 | _, [] => []
 | a, r :: rs => marks a r.length :: marksR (a + r.length) rs

def total : List (List Int) → Nat
 | [] => 0
 | r :: rs => r.length + total rs

theorem total_le (rs : List (List Int)) (h : ∀ r ∈ rs, r.length ≤ 1048576) : total rs ≤ 1048576 * rs.length := by
 induction rs with
 | nil => simp [total]
 | cons r rs ih =>
  have h1 := h r (List.mem_cons_self)
  have h2 := ih (fun x hx => h x (List.mem_cons_of_mem _ hx))
  unfold total
  rw [List.length_cons]
  omega

theorem marksR_length (a : Int) (rs : List (List Int)) : (marksR a rs).length = rs.length := by
 induction rs generalizing a with
 | nil => rfl
 | cons r rs ih => simp [marksR, ih]

theorem rl_mid (A : List (List Int)) (r : List Int) (B : List (List Int)) : rd_L1 (A ++ r :: B) (A.length : Int) = r := by
 rw [rl_lt (by simp)]
 simp

theorem markRows_loop : ∀ (rest done : List (List Int)) (a : Int), (done ++ rest).length ≤ 1048576 → (∀ r ∈ rest, r.length ≤ 1048576) → 0 ≤ a → a + total rest ≤ 1125899906842624 →
  Ev (fun k => laws_markInt64SS.l0 k (done ++ rest) a (done.length : Int)) (a + total rest, done ++ marksR a rest) := by
 intro rest
 induction rest with
 | nil =>
  intro done a hl hr h0 h1
  refine Ev.succ ?_; simp only [laws_markInt64SS.l0]
  rw [List.append_nil] at *
  unfold marksR total
  rw [show a + ((0 : Nat) : Int) = a by omega, List.append_nil]
  repeat (first | with_reducible exact Ev.now _ | dsimp only | refine Ev.pos (by first | omega | rfl | assumption | decide) ?_ | refine Ev.neg (by first | omega | assumption | exact Bool.false_ne_true | exact fun e => absurd e (by decide)) ?_ | simp only [bne_self_eq_false, Bool.not_true, Bool.not_false, List.length_cons, List.length_nil] | rw [wrap_id (by omega) (by omega)] | ((with_reducible refine Ev.eq (congrArg some ?_)); rfl))
 | cons r rest ih =>
  intro done a hl hr h0 h1
  have hrl := hr r (List.mem_cons_self)
  unfold total at h1
  have hd : (done ++ r :: rest).length = done.length + rest.length + 1 := by simp; omega
  refine Ev.succ ?_; simp only [laws_markInt64SS.l0]
  rw [rl_mid, wrap_succ (by omega), Int.toNat_natCast]
  repeat (first | with_reducible exact Ev.now _ | dsimp only | with_reducible refine Ev.bind (markInt64S r hrl a h0 (by omega)) ?_ | refine Ev.pos (by first | omega | rfl | assumption | decide) ?_ | refine Ev.neg (by first | omega | assumption | exact Bool.false_ne_true | exact fun e => absurd e (by decide)) ?_ | simp only [bne_self_eq_false, Bool.not_true, Bool.not_false, List.length_cons, List.length_nil] | rw [wrap_id (by omega) (by omega)] | with_reducible exact (markInt64S r hrl a h0 (by omega)) | ((with_reducible refine Ev.eq (congrArg some ?_)); rfl))
  have e1 : (done ++ r :: rest).set done.length (marks a r.length) = (done ++ [marks a r.length]) ++ rest := by
   rw [List.set_append_right _ _ (Nat.le_refl _), Nat.sub_self, List.set_cons_zero, List.append_assoc]
   rfl
  have := ih (done ++ [marks a r.length]) (a + r.length) (by simp at hl ⊢; omega) (fun x hx => hr x (List.mem_cons_of_mem _ hx)) (by omega) (by omega)
  rw [e1]
  rw [List.length_append, List.length_singleton] at this
  unfold total marksR
  rw [show a + ((r.length + total rest : Nat) : Int) = a + r.length + total rest by omega, show done ++ marks a r.length :: marksR (a + r.length) rest = (done ++ [marks a r.length]) ++ marksR (a + r.length) rest by rw [List.append_assoc]; rfl]
  exact this

theorem markRows (rs : List (List Int)) (h : Mod rs) : Ev (fun k => laws_markInt64SS.f k rs 1) (1 + total rs, marksR 1 rs) := by
 have := total_le rs h.2
 have hl := h.1
 exact markRows_loop rs [] 1 hl h.2 (by decide) (by omega)

theorem heldRows_loop : ∀ (rest done : List (List Int)) (a : Int), (done ++ rest).length ≤ 1048576 → (∀ r ∈ rest, r.length ≤ 1048576) → 0 ≤ a → a + total rest ≤ 1125899906842624 →
  Ev (fun k => laws_heldInt64SS.l0 k (done ++ marksR a rest) a (done.length : Int)) (a + total rest) := by
 intro rest
 induction rest with
 | nil =>
  intro done a hl hr h0 h1
  refine Ev.succ ?_; simp only [laws_heldInt64SS.l0]
  unfold marksR total
  rw [show a + ((0 : Nat) : Int) = a by omega, List.append_nil]
  repeat (first | with_reducible exact Ev.now _ | dsimp only | refine Ev.pos (by first | omega | rfl | assumption | decide) ?_ | refine Ev.neg (by first | omega | assumption | exact Bool.false_ne_true | exact fun e => absurd e (by decide)) ?_ | simp only [bne_self_eq_false, Bool.not_true, Bool.not_false, List.length_cons, List.length_nil] | rw [wrap_id (by omega) (by omega)] | ((with_reducible refine Ev.eq (congrArg some ?_)); rfl))
 | cons r rest ih =>
  intro done a hl hr h0 h1
  have hrl := hr r (List.mem_cons_self)
  unfold total at h1
  have hd : (done ++ marksR a (r :: rest)).length = done.length + rest.length + 1 := by rw [List.length_append, marksR_length, List.length_cons]; omega
  have hd2 : (done ++ r :: rest).length = done.length + rest.length + 1 := by simp; omega
  refine Ev.succ ?_; simp only [laws_heldInt64SS.l0]
  unfold marksR at hd ⊢
  rw [rl_mid, wrap_succ (by omega)]
  repeat (first | with_reducible exact Ev.now _ | dsimp only | with_reducible refine Ev.bind (heldInt64S a r.length hrl h0 (by omega)) ?_ | refine Ev.pos (by first | omega | rfl | assumption | decide) ?_ | refine Ev.neg (by first | omega | assumption | exact Bool.false_ne_true | exact fun e => absurd e (by decide)) ?_ | simp only [bne_self_eq_false, Bool.not_true, Bool.not_false, List.length_cons, List.length_nil] | rw [wrap_id (by omega) (by omega)] | with_reducible exact (heldInt64S a r.length hrl h0 (by omega)) | ((with_reducible refine Ev.eq (congrArg some ?_)); rfl))
  have := ih (done ++ [marks a r.length]) (a + r.length) (by simp at hl ⊢; omega) (fun x hx => hr x (List.mem_cons_of_mem _ hx)) (by omega) (by omega)
  rw [List.length_append, List.length_singleton] at this
  unfold total
  rw [show a + ((r.length + total rest : Nat) : Int) = a + r.length + total rest by omega, show done ++ marks a r.length :: marksR (a + r.length) rest = (done ++ [marks a r.length]) ++ marksR (a + r.length) rest by rw [List.append_assoc]; rfl]
  exact this

theorem heldRows (rs : List (List Int)) (h : Mod rs) : Ev (fun k => laws_heldInt64SS.f k (marksR 1 rs) 1) (1 + total rs) := by
 have := total_le rs h.2
 have hl := h.1
 exact heldRows_loop rs [] 1 hl h.2 (by decide) (by omega)
def zeros (n : Nat) : List (List Int) := List.replicate n (List.replicate n 0)

theorem rep_succ {α : Type} (n : Nat) (x : α) : List.replicate n x ++ [x] = List.replicate (n + 1) x := List.replicate_succ'.symm

theorem implSquare (n : Int) (h0 : 0 ≤ n) (h1 : n ≤ 1000) : Ev (fun k => impl_square.f k n) (zeros n.toNat) := by
 have : ∀ (d v : Nat), (v : Int) + d = n → Ev (fun k => impl_square.l0 k n (List.replicate v (List.replicate n.toNat 0)) n (v : Int)) (zeros n.toNat) := by
  intro d
  induction d with
  | zero =>
   intro v hv
   refine Ev.succ ?_; simp only [impl_square.l0]
   rw [show v = n.toNat by omega]
   repeat (first | with_reducible exact Ev.now _ | dsimp only | refine Ev.pos (by first | omega | rfl | assumption | decide) ?_ | refine Ev.neg (by first | omega | assumption | exact Bool.false_ne_true | exact fun e => absurd e (by decide)) ?_ | simp only [bne_self_eq_false, Bool.not_true, Bool.not_false, List.length_cons, List.length_nil] | rw [wrap_id (by omega) (by omega)] | ((with_reducible refine Ev.eq (congrArg some ?_)); rfl))
  | succ d ih =>
   intro v hv
   have := ih (v + 1) (by omega)
   rw [← rep_succ] at this
   refine Ev.succ ?_; simp only [impl_square.l0]
   rw [wrap_succ (by omega)]
   refine Ev.pos (by omega) ?_
   refine Ev.pos (by omega) ?_
   refine Ev.pos (by omega) ?_
   refine Ev.pos (by simp; omega) ?_
   exact this
 exact this n.toNat 0 (by omega)
/-- f 0 + .. + f (n - 1). -/
def Sm : Nat → (Nat → Int) → Int
 | 0, _ => 0
 | n + 1, f => Sm n f + f n

theorem Sm_congr {n : Nat} {f g : Nat → Int} (h : ∀ i, i < n → f i = g i) : Sm n f = Sm n g := by
 induction n with
 | zero => rfl
 | succ n ih => unfold Sm; rw [ih (fun i hi => h i (by omega)), h n (by omega)]

theorem Sm_le {n : Nat} {f : Nat → Int} {b : Int} (h : ∀ i, i < n → f i ≤ b) : Sm n f ≤ n * b := by
 induction n with
 | zero => simp [Sm]
 | succ n ih =>
  have h1 := ih (fun i hi => h i (by omega))
  have h2 := h n (by omega)
  unfold Sm
  rw [Int.natCast_add, Int.add_mul]
  omega

theorem Sm_nonneg {n : Nat} {f : Nat → Int} (h : ∀ i, i < n → 0 ≤ f i) : 0 ≤ Sm n f := by
 induction n with
 | zero => simp [Sm]
 | succ n ih =>
  have h1 := ih (fun i hi => h i (by omega))
  have h2 := h n (by omega)
  unfold Sm
  omega

def tr (n : Nat) (a : Nat → Nat → Int) : Int := Sm n (fun i => a i i)

/-- A list's matrix, and a matrix's list. -/
def mat (m : List (List Int)) (i j : Nat) : Int := rd (rd_L1 m (i : Int)) (j : Int)

def rowOf (n : Nat) (f : Nat → Int) : List Int := (List.range n).map f

def ofFn (n : Nat) (f : Nat → Nat → Int) : List (List Int) := (List.range n).map (fun i => rowOf n (f i))

theorem rowOf_length (n : Nat) (f : Nat → Int) : (rowOf n f).length = n := by simp [rowOf]

theorem rowOf_rd {n i : Nat} (f : Nat → Int) (h : i < n) : rd (rowOf n f) (i : Int) = f i := rd_map_range f h

theorem rowOf_congr {n : Nat} {f g : Nat → Int} (h : ∀ i, i < n → f i = g i) : rowOf n f = rowOf n g := by
 unfold rowOf
 exact List.map_congr_left (fun i hi => h i (List.mem_range.1 hi))

theorem rowOf_set {n i : Nat} (f : Nat → Int) (v : Int) (h : i < n) : (rowOf n f).set i v = rowOf n (fun j => if j = i then v else f j) := by
 refine list_ext_rd (by rw [List.length_set, rowOf_length, rowOf_length]) (fun j hj => ?_)
 rw [List.length_set, rowOf_length] at hj
 rw [rd_set (by rw [rowOf_length]; exact h), rowOf_rd _ hj, rowOf_rd _ hj]

theorem rowOf_zero (n : Nat) : rowOf n (fun _ => 0) = List.replicate n 0 := by
 refine list_ext_rd (by rw [rowOf_length, List.length_replicate]) (fun j hj => ?_)
 rw [rowOf_length] at hj
 rw [rowOf_rd _ hj, rd_replicate]

theorem ofFn_length (n : Nat) (f : Nat → Nat → Int) : (ofFn n f).length = n := by simp [ofFn]

theorem ofFn_row {n i : Nat} (f : Nat → Nat → Int) (h : i < n) : rd_L1 (ofFn n f) (i : Int) = rowOf n (f i) := by
 rw [rl_lt (by rw [ofFn_length]; exact h)]
 simp [ofFn]

theorem ofFn_mat {n i j : Nat} (f : Nat → Nat → Int) (hi : i < n) (hj : j < n) : mat (ofFn n f) i j = f i j := by
 unfold mat
 rw [ofFn_row f hi, rowOf_rd _ hj]

theorem ofFn_congr {n : Nat} {f g : Nat → Nat → Int} (h : ∀ i j, i < n → j < n → f i j = g i j) : ofFn n f = ofFn n g := by
 unfold ofFn
 exact List.map_congr_left (fun i hi => rowOf_congr (fun j hj => h i j (List.mem_range.1 hi) hj))

theorem ofFn_set {n i : Nat} (f : Nat → Nat → Int) (r : Nat → Int) (h : i < n) : (ofFn n f).set i (rowOf n r) = ofFn n (fun k => if k = i then r else f k) := by
 apply List.ext_getElem
 ·rw [List.length_set, ofFn_length, ofFn_length]
 ·intro k h1 h2
  rw [ofFn_length] at h2
  simp only [List.getElem_set, ofFn, List.getElem_map, List.getElem_range]
  by_cases e : k = i
  ·subst e; simp
  ·rw [if_neg (fun x => e x.symm), if_neg e]

/-- A square list of rows. -/
def Sq (n : Nat) (m : List (List Int)) : Prop := m.length = n ∧ ∀ i : Nat, i < n → (rd_L1 m (i : Int)).length = n

theorem Sq_ofFn (n : Nat) (f : Nat → Nat → Int) : Sq n (ofFn n f) := ⟨ofFn_length n f, fun i hi => by rw [ofFn_row f hi, rowOf_length]⟩

theorem wrap_add_wrap (a b : Int) : wrap64 (wrap64 a + wrap64 b) = wrap64 (a + b) := by
 unfold wrap64
 omega

theorem wrap_add_left (a b : Int) : wrap64 (wrap64 a + b) = wrap64 (a + b) := by
 unfold wrap64
 omega

/-- Row p, told up to the place q. -/
def rowE (l : List (List Int)) (p : Nat) : Nat → List Int
 | 0 => List.replicate (2 * l.length) 0
 | q + 1 => if next l p q = true then (rowE l p q).set q 1 else rowE l p q

def edgeM (l : List (List Int)) (n : Nat) : List (List Int) := (List.range n).map (fun p => rowE l p (2 * l.length))

theorem rowE_length (l : List (List Int)) (p q : Nat) : (rowE l p q).length = 2 * l.length := by
 induction q with
 | zero => simp [rowE]
 | succ q ih => unfold rowE; split <;> simp [ih]

theorem edgeM_length (l : List (List Int)) (n : Nat) : (edgeM l n).length = n := by simp [edgeM]

theorem edgeM_succ (l : List (List Int)) (n : Nat) : edgeM l (n + 1) = edgeM l n ++ [rowE l n (2 * l.length)] := map_range_succ _ _

theorem rowE_rd (l : List (List Int)) (p : Nat) : ∀ (q j : Nat), q ≤ 2 * l.length → rd (rowE l p q) (j : Int) = if j < q ∧ next l p j = true then 1 else 0 := by
 intro q
 induction q with
 | zero =>
  intro j _
  rw [if_neg (by omega)]
  exact rd_replicate _ _
 | succ q ih =>
  intro j hq
  have hl := rowE_length l p q
  unfold rowE
  by_cases c : next l p q = true
  ·rw [if_pos c, rd_set (by omega)]
   by_cases e : j = q
   ·subst e
    rw [if_pos rfl, if_pos ⟨by omega, c⟩]
   ·rw [if_neg e, ih j (by omega)]
    by_cases c2 : j < q ∧ next l p j = true
    ·rw [if_pos c2, if_pos ⟨by omega, c2.2⟩]
    ·rw [if_neg c2, if_neg (fun x => c2 ⟨by omega, x.2⟩)]
  ·rw [if_neg c, ih j (by omega)]
   by_cases c2 : j < q ∧ next l p j = true
   ·rw [if_pos c2, if_pos ⟨by omega, c2.2⟩]
   ·rw [if_neg c2, if_neg (fun x => ?_)]
    by_cases e : j = q
    ·subst e; exact c x.2
    ·exact c2 ⟨by omega, x.2⟩

theorem next_split {l : List (List Int)} {p q : Nat} : next l p q = true ↔ hd l p = tl l q ∧ q ≠ inv p := by
 unfold next
 rw [Bool.and_eq_true, decide_eq_true_iff, decide_eq_true_iff]
/-- The matrix while row p is told up to the place q. -/
def stage (l : List (List Int)) (p q : Nat) : List (List Int) := edgeM l p ++ rowE l p q :: List.replicate (2 * l.length - (p + 1)) (List.replicate (2 * l.length) 0)

theorem stage_length (l : List (List Int)) (p q : Nat) (h : p < 2 * l.length) : (stage l p q).length = 2 * l.length := by
 simp [stage, edgeM_length]; omega

theorem stage_row (l : List (List Int)) (p q : Nat) : rd_L1 (stage l p q) (p : Int) = rowE l p q := by
 unfold stage
 rw [rl_lt (by simp [edgeM_length])]
 rw [List.getElem_append_right (by rw [edgeM_length]; omega)]
 simp [edgeM_length]

theorem stage_set (l : List (List Int)) (p q : Nat) (r : List Int) : (stage l p q).set p r = edgeM l p ++ r :: List.replicate (2 * l.length - (p + 1)) (List.replicate (2 * l.length) 0) := by
 unfold stage
 rw [List.set_append_right _ _ (by rw [edgeM_length]; omega), edgeM_length, Nat.sub_self, List.set_cons_zero]

theorem stage_zero (l : List (List Int)) : 0 < 2 * l.length → stage l 0 0 = zeros (2 * l.length) := by
 intro h
 unfold stage edgeM zeros rowE
 rw [show 2 * l.length - (0 + 1) = 2 * l.length - 1 by omega]
 simp only [List.range_zero, List.map_nil, List.nil_append]
 rw [← List.replicate_succ, Nat.sub_add_cancel (by omega)]

theorem stage_next (l : List (List Int)) (p : Nat) (h : p + 1 < 2 * l.length) : stage l p (2 * l.length) = stage l (p + 1) 0 := by
 unfold stage
 rw [edgeM_succ, show 2 * l.length - (p + 1) = (2 * l.length - (p + 1 + 1)) + 1 by omega, List.replicate_succ, List.append_assoc]
 rfl

theorem stage_last (l : List (List Int)) (p : Nat) (h : p + 1 = 2 * l.length) : stage l p (2 * l.length) = edgeM l (2 * l.length) := by
 unfold stage
 rw [show 2 * l.length - (p + 1) = 0 by omega, List.replicate_zero, ← edgeM_succ, h]

section
variable {n : Int} {l : List (List Int)} (h : isGraph n l = true)
include h

theorem implRow (p : Nat) (hp : p < 2 * l.length) (r : List (List Int)) (hr : Ev (fun k => impl_Graph_edgeMatrix.l0 k (stage l p (2 * l.length)) (2 * (l.length : Int)) ((p + 1 : Nat) : Int) n l) r) :
  ∀ (d q : Nat), q + d = 2 * l.length → Ev (fun k => impl_Graph_edgeMatrix.l1 k (stage l p q) (p : Int) (hd l p) (2 * (l.length : Int)) (p : Int) (2 * (l.length : Int)) (q : Int) n l) r := by
 obtain ⟨g1, g2, g3⟩ := graph_small h
 intro d
 induction d with
 | zero =>
  intro q hq
  have e : q = 2 * l.length := by omega
  refine Ev.succ ?_; simp only [impl_Graph_edgeMatrix.l1]
  rw [wrap_succ (i := p) (by omega), e]
  repeat (first | with_reducible exact Ev.now _ | dsimp only | refine Ev.pos (by first | omega | rfl | assumption | decide) ?_ | refine Ev.neg (by first | omega | assumption | exact Bool.false_ne_true | exact fun e => absurd e (by decide)) ?_ | simp only [bne_self_eq_false, Bool.not_true, Bool.not_false, List.length_cons, List.length_nil] | rw [wrap_id (by omega) (by omega)] | ((with_reducible refine Ev.eq (congrArg some ?_)); rfl))
  exact hr
 | succ d ih =>
  intro q hq
  have hi := ih (q + 1) (by omega)
  have he := implEnds h (show q < 2 * l.length by omega)
  have hx := xor_inv p (by omega)
  have hlen := rowE_length l p q
  have hs := stage_length l p q hp
  refine Ev.succ ?_; simp only [impl_Graph_edgeMatrix.l1]
  rw [wrap_succ (i := q) (by omega), hx, stage_row]
  by_cases c : next l p q = true
  ·have e2 : (stage l p q).set p ((rowE l p q).set q 1) = stage l p (q + 1) := by
    rw [stage_set]
    unfold stage
    rw [show rowE l p (q + 1) = (if next l p q = true then (rowE l p q).set q 1 else rowE l p q) from rfl, if_pos c]
   obtain ⟨c1, c2⟩ := next_split.1 c
   rw [Int.toNat_natCast, Int.toNat_natCast, e2]
   repeat (first | with_reducible exact Ev.now _ | dsimp only | with_reducible refine Ev.bind (Ev.eq he) ?_ | refine Ev.pos (by first | omega | rfl | assumption | decide) ?_ | refine Ev.neg (by first | omega | assumption | exact Bool.false_ne_true | exact fun e => absurd e (by decide)) ?_ | simp only [bne_self_eq_false, Bool.not_true, Bool.not_false, List.length_cons, List.length_nil] | rw [wrap_id (by omega) (by omega)] | with_reducible exact (Ev.eq he) | ((with_reducible refine Ev.eq (congrArg some ?_)); rfl))
   exact hi
  ·have e2 : stage l p q = stage l p (q + 1) := by
    unfold stage
    rw [show rowE l p (q + 1) = (if next l p q = true then (rowE l p q).set q 1 else rowE l p q) from rfl, if_neg c]
   rw [← e2] at hi
   by_cases c1 : hd l p = tl l q
   ·have c2 : q = inv p := by
     apply Classical.byContradiction
     intro e
     exact c (next_split.2 ⟨c1, e⟩)
    repeat (first | with_reducible exact Ev.now _ | dsimp only | with_reducible refine Ev.bind (Ev.eq he) ?_ | refine Ev.pos (by first | omega | rfl | assumption | decide) ?_ | refine Ev.neg (by first | omega | assumption | exact Bool.false_ne_true | exact fun e => absurd e (by decide)) ?_ | simp only [bne_self_eq_false, Bool.not_true, Bool.not_false, List.length_cons, List.length_nil] | rw [wrap_id (by omega) (by omega)] | with_reducible exact (Ev.eq he) | ((with_reducible refine Ev.eq (congrArg some ?_)); rfl))
    exact hi
   ·repeat (first | with_reducible exact Ev.now _ | dsimp only | with_reducible refine Ev.bind (Ev.eq he) ?_ | refine Ev.pos (by first | omega | rfl | assumption | decide) ?_ | refine Ev.neg (by first | omega | assumption | exact Bool.false_ne_true | exact fun e => absurd e (by decide)) ?_ | simp only [bne_self_eq_false, Bool.not_true, Bool.not_false, List.length_cons, List.length_nil] | rw [wrap_id (by omega) (by omega)] | with_reducible exact (Ev.eq he) | ((with_reducible refine Ev.eq (congrArg some ?_)); rfl))
    exact hi

theorem implEdgeM : Ev (fun k => impl_Graph_edgeMatrix.f k n l) (edgeM l (2 * l.length)) := by
 obtain ⟨g1, g2, g3⟩ := graph_small h
 have main : ∀ (d p : Nat), p + 1 + d = 2 * l.length → Ev (fun k => impl_Graph_edgeMatrix.l0 k (stage l p 0) (2 * (l.length : Int)) (p : Int) n l) (edgeM l (2 * l.length)) := by
  intro d
  induction d with
  | zero =>
   intro p hp
   have he := implEnds h (show p < 2 * l.length by omega)
   refine Ev.succ ?_; simp only [impl_Graph_edgeMatrix.l0]
   unfold impl_Graph_size.f
   repeat (first | with_reducible exact Ev.now _ | dsimp only | with_reducible refine Ev.bind (Ev.eq he) ?_ | with_reducible refine Ev.bind (Ev.now _) ?_ | refine Ev.pos (by first | omega | rfl | assumption | decide) ?_ | refine Ev.neg (by first | omega | assumption | exact Bool.false_ne_true | exact fun e => absurd e (by decide)) ?_ | simp only [bne_self_eq_false, Bool.not_true, Bool.not_false, List.length_cons, List.length_nil] | rw [wrap_id (by omega) (by omega)] | with_reducible exact (Ev.eq he) | with_reducible exact (Ev.now _) | ((with_reducible refine Ev.eq (congrArg some ?_)); rfl))
   refine implRow h p (by omega) _ ?_ (2 * l.length) 0 (by omega)
   rw [stage_last l p (by omega)]
   refine Ev.succ ?_; simp only [impl_Graph_edgeMatrix.l0]
   repeat (first | with_reducible exact Ev.now _ | dsimp only | refine Ev.pos (by first | omega | rfl | assumption | decide) ?_ | refine Ev.neg (by first | omega | assumption | exact Bool.false_ne_true | exact fun e => absurd e (by decide)) ?_ | simp only [bne_self_eq_false, Bool.not_true, Bool.not_false, List.length_cons, List.length_nil] | rw [wrap_id (by omega) (by omega)] | ((with_reducible refine Ev.eq (congrArg some ?_)); rfl))
  | succ d ih =>
   intro p hp
   have hi := ih (p + 1) (by omega)
   have he := implEnds h (show p < 2 * l.length by omega)
   refine Ev.succ ?_; simp only [impl_Graph_edgeMatrix.l0]
   unfold impl_Graph_size.f
   repeat (first | with_reducible exact Ev.now _ | dsimp only | with_reducible refine Ev.bind (Ev.eq he) ?_ | with_reducible refine Ev.bind (Ev.now _) ?_ | refine Ev.pos (by first | omega | rfl | assumption | decide) ?_ | refine Ev.neg (by first | omega | assumption | exact Bool.false_ne_true | exact fun e => absurd e (by decide)) ?_ | simp only [bne_self_eq_false, Bool.not_true, Bool.not_false, List.length_cons, List.length_nil] | rw [wrap_id (by omega) (by omega)] | with_reducible exact (Ev.eq he) | with_reducible exact (Ev.now _) | ((with_reducible refine Ev.eq (congrArg some ?_)); rfl))
   refine implRow h p (by omega) _ ?_ (2 * l.length) 0 (by omega)
   rw [stage_next l p (by omega)]
   exact hi
 unfold impl_Graph_edgeMatrix.f impl_Graph_size.f
 refine Ev.bind (Ev.now _) ?_
 rw [wrap_id (x := 2 * (l.length : Int)) (by omega) (by omega)]
 refine Ev.bind (implSquare (2 * (l.length : Int)) (by omega) (by omega)) ?_
 refine Ev.bind (Ev.now _) ?_
 rw [wrap_id (x := 2 * (l.length : Int)) (by omega) (by omega)]
 rw [show (2 * (l.length : Int)).toNat = 2 * l.length by omega]
 by_cases e : l.length = 0
 ·refine Ev.succ ?_; simp only [impl_Graph_edgeMatrix.l0]
  refine Ev.neg (by omega) ?_
  refine Ev.eq (congrArg some ?_)
  rw [e]
  rfl
 ·rw [← stage_zero l (by omega)]
  exact main (2 * l.length - 1) 0 (by omega)

end
/-- One where q may follow p. -/
def W (l : List (List Int)) (p q : Nat) : Int := if next l p q = true then 1 else 0

theorem W_range (l : List (List Int)) (p q : Nat) : 0 ≤ W l p q ∧ W l p q ≤ 1 := by
 unfold W
 split <;> decide

theorem edgeM_ofFn (l : List (List Int)) : edgeM l (2 * l.length) = ofFn (2 * l.length) (W l) := by
 unfold edgeM ofFn
 refine List.map_congr_left (fun p hp => ?_)
 refine list_ext_rd (by rw [rowE_length, rowOf_length]) (fun j hj => ?_)
 rw [rowE_length] at hj
 rw [rowE_rd l p _ j (Nat.le_refl _), rowOf_rd _ hj]
 unfold W
 by_cases c : next l p j = true
 ·rw [if_pos c, if_pos ⟨hj, c⟩]
 ·rw [if_neg c, if_neg (fun e => c e.2)]

/-- The row of the j-th power that belongs to p. -/
def vec (l : List (List Int)) (N p : Nat) : Nat → Nat → Int
 | 0, q => if q = p then 1 else 0
 | j + 1, q => Sm N (fun r => vec l N p j r * W l r q)

theorem vec_range (l : List (List Int)) (N p : Nat) (hN : N ≤ 20) : ∀ j q, 0 ≤ vec l N p j q ∧ vec l N p j q ≤ 20 ^ j := by
 intro j
 induction j with
 | zero =>
  intro q
  unfold vec
  split <;> decide
 | succ j ih =>
  intro q
  unfold vec
  have hle : ∀ r, r < N → vec l N p j r * W l r q ≤ 20 ^ j := fun r _ => by
   have h1 := ih r
   have h2 := W_range l r q
   have : vec l N p j r * W l r q ≤ vec l N p j r * 1 := Int.mul_le_mul_of_nonneg_left h2.2 h1.1
   omega
  refine ⟨Sm_nonneg (fun r _ => Int.mul_nonneg (ih r).1 (W_range l r q).1), ?_⟩
  have h3 := Sm_le hle
  have h4 : (N : Int) * 20 ^ j ≤ 20 * 20 ^ j := Int.mul_le_mul_of_nonneg_right (by omega) (Int.pow_nonneg (by decide))
  rw [Int.pow_succ, Int.mul_comm (20 ^ j) 20]
  omega

theorem pow20 {j : Nat} (h : j ≤ 13) : (20 : Int) ^ j ≤ 81920000000000000 := by
 have : ∀ i : Fin 14, (20 : Int) ^ i.val ≤ 81920000000000000 := by decide
 exact this ⟨j, by omega⟩

section
variable (n : Nat) (hn : n ≤ 1000) (a b : List (List Int)) (ha : Sq n a) (hb : Sq n b)

/-- The product's entry, of the k first places. -/
def part (k i j : Nat) : Int := wrap64 (Sm k (fun m => mat a i m * mat b m j))

/-- The result while row i is told from the places before k, and up to j from place k. -/
def rt (i k j : Nat) : List (List Int) := ofFn n (fun p q => if p < i then part a b n p q else if p = i then (if q < j then part a b (k + 1) p q else part a b k p q) else 0)

theorem rt_next (i k : Nat) : rt n a b i k n = rt n a b i (k + 1) 0 := by
 refine ofFn_congr (fun p q hp hq => ?_)
 by_cases c : p < i
 ·simp only [if_pos c]
 ·by_cases e : p = i
  ·simp only [if_neg c, if_pos e, if_pos hq, if_neg (Nat.not_lt_zero q)]
  ·simp only [if_neg c, if_neg e]

theorem part_zero (i j : Nat) : part a b 0 i j = 0 := by
 unfold part Sm
 exact wrap_id (by decide) (by decide)

theorem rt_row (i : Nat) : rt n a b i n 0 = rt n a b (i + 1) 0 0 := by
 refine ofFn_congr (fun p q hp hq => ?_)
 by_cases c : p < i
 ·rw [if_pos c, if_pos (by omega)]
 ·by_cases e : p = i
  ·rw [if_neg c, if_pos e, if_neg (by omega), if_pos (by omega)]
  ·rw [if_neg c, if_neg e, if_neg (by omega)]
   by_cases e2 : p = i + 1
   ·rw [if_pos e2, if_neg (by omega), part_zero]
   ·rw [if_neg e2]

theorem part_skip (k i j : Nat) (h : mat a i k = 0) : part a b (k + 1) i j = part a b k i j := by
 unfold part
 rw [show Sm (k + 1) (fun m => mat a i m * mat b m j) = Sm k (fun m => mat a i m * mat b m j) + mat a i k * mat b k j from rfl, h, Int.zero_mul, Int.add_zero]

theorem rt_skip (i k : Nat) (h : mat a i k = 0) : rt n a b i k 0 = rt n a b i (k + 1) 0 := by
 refine ofFn_congr (fun p q hp hq => ?_)
 by_cases c : p < i
 ·simp only [if_pos c]
 ·by_cases e : p = i
  ·subst e
   simp only [if_neg c, if_pos, if_neg (Nat.not_lt_zero q), part_skip a b k p q h]
  ·simp only [if_neg c, if_neg e]

theorem part_step (k i j : Nat) : wrap64 (part a b k i j + wrap64 (mat a i k * mat b k j)) = part a b (k + 1) i j := by
 unfold part
 rw [wrap_add_wrap]
 rfl

theorem rt_length (i k j : Nat) : (rt n a b i k j).length = n := ofFn_length _ _

theorem rt_at {i : Nat} (k j : Nat) (hi : i < n) : rd_L1 (rt n a b i k j) (i : Int) = rowOf n (fun q => if q < j then part a b (k + 1) i q else part a b k i q) := by
 unfold rt
 rw [ofFn_row _ hi]
 refine rowOf_congr (fun q hq => ?_)
 rw [if_neg (Nat.lt_irrefl i), if_pos rfl]

theorem rt_set {i j : Nat} (k : Nat) (hi : i < n) (hj : j < n) : (rt n a b i k j).set i ((rd_L1 (rt n a b i k j) (i : Int)).set j (wrap64 (rd (rd_L1 (rt n a b i k j) (i : Int)) (j : Int) + wrap64 (mat a i k * mat b k j)))) = rt n a b i k (j + 1) := by
 rw [rt_at n a b k j hi, rowOf_rd _ hj, if_neg (Nat.lt_irrefl j), part_step, rowOf_set _ _ hj]
 unfold rt
 rw [ofFn_set _ _ hi]
 refine ofFn_congr (fun p q hp hq => ?_)
 by_cases e : p = i
 ·subst e
  rw [if_pos rfl, if_neg (Nat.lt_irrefl p), if_pos rfl]
  by_cases e2 : q = j
  ·subst e2
   rw [if_pos rfl, if_pos (by omega)]
  ·rw [if_neg e2]
   by_cases c : q < j
   ·rw [if_pos c, if_pos (by omega)]
   ·rw [if_neg c, if_neg (by omega)]
 ·rw [if_neg e]
  by_cases c : p < i
  ·rw [if_pos c, if_pos c]
  ·rw [if_neg c, if_neg c, if_neg e, if_neg e]

include hn ha hb

theorem rtInner (i k : Nat) (hi : i < n) (hk : k < n) (r : List (List Int)) (hr : Ev (fun f => impl_rowsTimes.l1 f b (rt n a b i k n) (i : Int) a (n : Int) (i : Int) (rd_L1 a (i : Int)) (n : Int) ((k + 1 : Nat) : Int)) r) :
  ∀ (d j : Nat), j + d = n → Ev (fun f => impl_rowsTimes.l2 f b (rt n a b i k j) (i : Int) (mat a i k) a (n : Int) (i : Int) (rd_L1 a (i : Int)) (n : Int) (k : Int) (rd_L1 b (k : Int)) (n : Int) (j : Int)) r := by
 have hbl := hb.2 k hk
 intro d
 induction d with
 | zero =>
  intro j hj
  have e : j = n := by omega
  subst e
  refine Ev.succ ?_; simp only [impl_rowsTimes.l2]
  rw [wrap_succ (i := k) (by omega)]
  repeat (first | with_reducible exact Ev.now _ | dsimp only | refine Ev.pos (by first | omega | rfl | assumption | decide) ?_ | refine Ev.neg (by first | omega | assumption | exact Bool.false_ne_true | exact fun e => absurd e (by decide)) ?_ | simp only [bne_self_eq_false, Bool.not_true, Bool.not_false, List.length_cons, List.length_nil] | rw [wrap_id (by omega) (by omega)] | ((with_reducible refine Ev.eq (congrArg some ?_)); rfl))
  exact hr
 | succ d ih =>
  intro j hj
  have h1 := ih (j + 1) (by omega)
  have hl := rt_length n a b i k j
  have hrow : (rd_L1 (rt n a b i k j) (i : Int)).length = n := by rw [rt_at n a b k j hi, rowOf_length]
  have hset := rt_set n a b (i := i) (j := j) k hi (by omega)
  refine Ev.succ ?_; simp only [impl_rowsTimes.l2]
  rw [show rd (rd_L1 b (k : Int)) (j : Int) = mat b k j from rfl, Int.toNat_natCast, Int.toNat_natCast, hset, wrap_succ (i := j) (by omega)]
  repeat (first | with_reducible exact Ev.now _ | dsimp only | refine Ev.pos (by first | omega | rfl | assumption | decide) ?_ | refine Ev.neg (by first | omega | assumption | exact Bool.false_ne_true | exact fun e => absurd e (by decide)) ?_ | simp only [bne_self_eq_false, Bool.not_true, Bool.not_false, List.length_cons, List.length_nil] | rw [wrap_id (by omega) (by omega)] | ((with_reducible refine Ev.eq (congrArg some ?_)); rfl))
  exact h1

theorem rtMiddle (i : Nat) (hi : i < n) (r : List (List Int)) (hr : Ev (fun f => impl_rowsTimes.l0 f b (rt n a b (i + 1) 0 0) a (n : Int) ((i + 1 : Nat) : Int)) r) :
  ∀ (d k : Nat), k + d = n → Ev (fun f => impl_rowsTimes.l1 f b (rt n a b i k 0) (i : Int) a (n : Int) (i : Int) (rd_L1 a (i : Int)) (n : Int) (k : Int)) r := by
 have hal := ha.2 i hi
 have hbl := hb.1
 intro d
 induction d with
 | zero =>
  intro k hk
  have e : k = n := by omega
  refine Ev.succ ?_; simp only [impl_rowsTimes.l1]
  rw [e, rt_row, wrap_succ (i := i) (by omega)]
  repeat (first | with_reducible exact Ev.now _ | dsimp only | refine Ev.pos (by first | omega | rfl | assumption | decide) ?_ | refine Ev.neg (by first | omega | assumption | exact Bool.false_ne_true | exact fun e => absurd e (by decide)) ?_ | simp only [bne_self_eq_false, Bool.not_true, Bool.not_false, List.length_cons, List.length_nil] | rw [wrap_id (by omega) (by omega)] | ((with_reducible refine Ev.eq (congrArg some ?_)); rfl))
  exact hr
 | succ d ih =>
  intro k hk
  have h1 := ih (k + 1) (by omega)
  have hbk := hb.2 k (by omega)
  refine Ev.succ ?_; simp only [impl_rowsTimes.l1]
  rw [show rd (rd_L1 a (i : Int)) (k : Int) = mat a i k from rfl, wrap_succ (i := k) (by omega)]
  by_cases c : mat a i k = 0
  ·rw [← rt_skip n a b i k c] at h1
   repeat (first | with_reducible exact Ev.now _ | dsimp only | refine Ev.pos (by first | omega | rfl | assumption | decide) ?_ | refine Ev.neg (by first | omega | assumption | exact Bool.false_ne_true | exact fun e => absurd e (by decide)) ?_ | simp only [bne_self_eq_false, Bool.not_true, Bool.not_false, List.length_cons, List.length_nil] | rw [wrap_id (by omega) (by omega)] | ((with_reducible refine Ev.eq (congrArg some ?_)); rfl))
   exact h1
  ·rw [← rt_next] at h1
   repeat (first | with_reducible exact Ev.now _ | dsimp only | refine Ev.pos (by first | omega | rfl | assumption | decide) ?_ | refine Ev.neg (by first | omega | assumption | exact Bool.false_ne_true | exact fun e => absurd e (by decide)) ?_ | simp only [bne_self_eq_false, Bool.not_true, Bool.not_false, List.length_cons, List.length_nil] | rw [wrap_id (by omega) (by omega)] | ((with_reducible refine Ev.eq (congrArg some ?_)); rfl))
   rw [hbk]
   exact rtInner n hn a b ha hb i k hi (by omega) r h1 n 0 (by omega)

theorem rtOuter : ∀ (d i : Nat), i + d = n → Ev (fun f => impl_rowsTimes.l0 f b (rt n a b i 0 0) a (n : Int) (i : Int)) (ofFn n (part a b n)) := by
 have hal := ha.1
 intro d
 induction d with
 | zero =>
  intro i hi
  refine Ev.succ ?_; simp only [impl_rowsTimes.l0]
  have e : rt n a b i 0 0 = ofFn n (part a b n) := ofFn_congr (fun p q hp hq => if_pos (by omega))
  rw [e]
  repeat (first | with_reducible exact Ev.now _ | dsimp only | refine Ev.pos (by first | omega | rfl | assumption | decide) ?_ | refine Ev.neg (by first | omega | assumption | exact Bool.false_ne_true | exact fun e => absurd e (by decide)) ?_ | simp only [bne_self_eq_false, Bool.not_true, Bool.not_false, List.length_cons, List.length_nil] | rw [wrap_id (by omega) (by omega)] | ((with_reducible refine Ev.eq (congrArg some ?_)); rfl))
 | succ d ih =>
  intro i hi
  have h1 := ih (i + 1) (by omega)
  have hai := ha.2 i (by omega)
  refine Ev.succ ?_; simp only [impl_rowsTimes.l0]
  repeat (first | with_reducible exact Ev.now _ | dsimp only | refine Ev.pos (by first | omega | rfl | assumption | decide) ?_ | refine Ev.neg (by first | omega | assumption | exact Bool.false_ne_true | exact fun e => absurd e (by decide)) ?_ | simp only [bne_self_eq_false, Bool.not_true, Bool.not_false, List.length_cons, List.length_nil] | rw [wrap_id (by omega) (by omega)] | ((with_reducible refine Ev.eq (congrArg some ?_)); rfl))
  rw [hai]
  exact rtMiddle n hn a b ha hb i (by omega) _ h1 n 0 (by omega)

theorem rowsTimes : Ev (fun f => impl_rowsTimes.f f a b) (ofFn n (part a b n)) := by
 unfold impl_rowsTimes.f
 rw [ha.1]
 refine Ev.bind (implSquare (n : Int) (by omega) (by omega)) ?_
 have e : zeros (n : Int).toNat = rt n a b 0 0 0 := by
  rw [Int.toNat_natCast]
  apply List.ext_getElem
  ·rw [rt_length]; simp [zeros]
  ·intro k h1 h2
   rw [rt_length] at h2
   rw [← rl_lt, ← rl_lt]
   ·by_cases e : k = 0
    ·subst e
     rw [rt_at n a b 0 0 h2, rl_lt h1]
     simp only [zeros, List.getElem_replicate]
     rw [← rowOf_zero]
     refine rowOf_congr (fun q hq => ?_)
     rw [if_neg (by omega), part_zero]
    ·unfold rt
     rw [ofFn_row _ h2, rl_lt h1]
     simp only [zeros, List.getElem_replicate]
     rw [← rowOf_zero]
     refine rowOf_congr (fun q hq => ?_)
     rw [if_neg (by omega), if_neg e]
 rw [e]
 exact rtOuter n hn a b ha hb n 0 (by omega)

omit hb in
theorem trace : Ev (fun f => impl_trace.f f a) (wrap64 (tr n (mat a))) := by
 have hal := ha.1
 have : ∀ (d i : Nat), i + d = n → Ev (fun f => impl_trace.l0 f (wrap64 (Sm i (fun i => mat a i i))) a (n : Int) (i : Int)) (wrap64 (tr n (mat a))) := by
  intro d
  induction d with
  | zero =>
   intro i hi
   have e : i = n := by omega
   subst e
   refine Ev.succ ?_; simp only [impl_trace.l0]
   repeat (first | with_reducible exact Ev.now _ | dsimp only | refine Ev.pos (by first | omega | rfl | assumption | decide) ?_ | refine Ev.neg (by first | omega | assumption | exact Bool.false_ne_true | exact fun e => absurd e (by decide)) ?_ | simp only [bne_self_eq_false, Bool.not_true, Bool.not_false, List.length_cons, List.length_nil] | rw [wrap_id (by omega) (by omega)] | ((with_reducible refine Ev.eq (congrArg some ?_)); rfl))
  | succ d ih =>
   intro i hi
   have h1 := ih (i + 1) (by omega)
   have hai := ha.2 i (by omega)
   refine Ev.succ ?_; simp only [impl_trace.l0]
   rw [wrap_succ (by omega), wrap_add_left]
   repeat (first | with_reducible exact Ev.now _ | dsimp only | refine Ev.pos (by first | omega | rfl | assumption | decide) ?_ | refine Ev.neg (by first | omega | assumption | exact Bool.false_ne_true | exact fun e => absurd e (by decide)) ?_ | simp only [bne_self_eq_false, Bool.not_true, Bool.not_false, List.length_cons, List.length_nil] | rw [wrap_id (by omega) (by omega)] | ((with_reducible refine Ev.eq (congrArg some ?_)); rfl))
   exact h1
 unfold impl_trace.f
 rw [hal]
 have h0 := this n 0 (by omega)
 rw [show wrap64 (Sm 0 (fun i => mat a i i)) = 0 from wrap_id (x := 0) (by decide) (by decide)] at h0
 exact h0

end
theorem specNext {n : Int} {l : List (List Int)} (h : isGraph n l = true) {p q : Nat} (hp : p < 2 * l.length) (hq : q < 2 * l.length) : spec_l03Next.f n l (p : Int) (q : Int) = some (next l p q) := by
 obtain ⟨g1, g2, g3⟩ := graph_small h
 unfold spec_l03Next.f next
 rw [specEnds h hp, specEnds h hq, Option.bind_some, Option.bind_some, half p (by omega), half q (by omega)]
 by_cases c : hd l p = tl l q
 ·rw [if_pos c, decide_eq_true c, Bool.true_and]
  unfold inv
  by_cases c2 : ((p / 2 : Nat) : Int) = ((q / 2 : Nat) : Int)
  ·rw [if_pos c2]
   by_cases c3 : p = q
   ·rw [c3]
    simp
    split <;> omega
   ·rw [show ((p : Int) == (q : Int)) = false from beq_eq_false_iff_ne.2 (by omega)]
    congr 1
    symm
    rw [decide_eq_false_iff_not, Decidable.not_not]
    split <;> omega
  ·rw [if_neg c2]
   congr 1
   symm
   rw [decide_eq_true_iff]
   split <;> omega
 ·rw [if_neg c, decide_eq_false c, Bool.false_and]
section
variable {n : Int} {l : List (List Int)} (h : isGraph n l = true)

/-- The next row, told from the places before r, and up to q from place r. -/
def vrow (l : List (List Int)) (N : Nat) (v : Nat → Int) (r q : Nat) : List Int := rowOf N (fun j => if j < q then Sm (r + 1) (fun m => v m * W l m j) else Sm r (fun m => v m * W l m j))

theorem vrow_length (N : Nat) (v : Nat → Int) (r q : Nat) : (vrow l N v r q).length = N := rowOf_length _ _

theorem vrow_next (N : Nat) (v : Nat → Int) (r : Nat) : vrow l N v r N = vrow l N v (r + 1) 0 := by
 refine rowOf_congr (fun j hj => ?_)
 rw [if_pos hj, if_neg (by omega)]

theorem vrow_skip (N : Nat) (v : Nat → Int) (r : Nat) (h0 : v r = 0) : vrow l N v r 0 = vrow l N v (r + 1) 0 := by
 refine rowOf_congr (fun j hj => ?_)
 rw [if_neg (by omega), if_neg (by omega)]
 show _ = Sm r _ + v r * W l r j
 rw [h0, Int.zero_mul, Int.add_zero]

theorem vrow_rd (N : Nat) (v : Nat → Int) (r q : Nat) (hq : q < N) : rd (vrow l N v r q) (q : Int) = Sm r (fun m => v m * W l m q) := by
 unfold vrow
 rw [rowOf_rd _ hq, if_neg (by omega)]

theorem vrow_set (N : Nat) (v : Nat → Int) (r q : Nat) (hq : q < N) : (vrow l N v r q).set q (Sm (r + 1) (fun m => v m * W l m q)) = vrow l N v r (q + 1) := by
 unfold vrow
 rw [rowOf_set _ _ hq]
 refine rowOf_congr (fun j hj => ?_)
 by_cases e : j = q
 ·subst e
  rw [if_pos rfl, if_pos (by omega)]
 ·rw [if_neg e]
  by_cases c : j < q
  ·rw [if_pos c, if_pos (by omega)]
  ·rw [if_neg c, if_neg (by omega)]

theorem vrow_none (N : Nat) (v : Nat → Int) (r q : Nat) (hc : ¬ next l r q = true) : vrow l N v r q = vrow l N v r (q + 1) := by
 refine rowOf_congr (fun j hj => ?_)
 by_cases e : j = q
 ·subst e
  rw [if_neg (by omega), if_pos (by omega)]
  show _ = Sm r _ + v r * W l r j
  unfold W
  rw [if_neg hc, Int.mul_zero, Int.add_zero]
 ·by_cases c : j < q
  ·rw [if_pos c, if_pos (by omega)]
  ·rw [if_neg c, if_neg (by omega)]

include h

theorem specStep (k : Int) (M : List (List Int)) (p : Int) (v : Nat → Int) (B : Int) (hB : B ≤ 100000000000000000) (hv : ∀ r, r < 2 * l.length → 0 ≤ v r ∧ v r ≤ B) (x9 : Int) (res : List (List Int)) (hr : Ev (fun f => spec_l03Rows.l1 f k (2 * (l.length : Int)) M p (vrow l (2 * l.length) v (2 * l.length) 0) (wrap64 (x9 + 1)) n l) res) :
  ∀ (d r : Nat), r + d = 2 * l.length → Ev (fun f => spec_l03Rows.l2 f k (2 * (l.length : Int)) M p (rowOf (2 * l.length) v) x9 (vrow l (2 * l.length) v r 0) (r : Int) n l) res := by
 obtain ⟨g1, g2, g3⟩ := graph_small h
 have hlen : (rowOf (2 * l.length) v).length = 2 * l.length := rowOf_length _ _
 intro d
 induction d with
 | zero =>
  intro r hr'
  have e : r = 2 * l.length := by omega
  subst e
  refine Ev.succ ?_; simp only [spec_l03Rows.l2]
  repeat (first | with_reducible exact Ev.now _ | dsimp only | refine Ev.pos (by first | omega | rfl | assumption | decide) ?_ | refine Ev.neg (by first | omega | assumption | exact Bool.false_ne_true | exact fun e => absurd e (by decide)) ?_ | simp only [bne_self_eq_false, Bool.not_true, Bool.not_false, List.length_cons, List.length_nil] | rw [wrap_id (by omega) (by omega)] | ((with_reducible refine Ev.eq (congrArg some ?_)); rfl))
  exact hr
 | succ d ih =>
  intro r hr'
  have h1 := ih (r + 1) (by omega)
  have hvr := hv r (by omega)
  have erd : rd (rowOf (2 * l.length) v) (r : Int) = v r := rowOf_rd _ (by omega)
  have hsum : ∀ j, 0 ≤ Sm r (fun m => v m * W l m j) ∧ Sm r (fun m => v m * W l m j) ≤ 2000000000000000000 := fun j => by
   refine ⟨Sm_nonneg (fun m hm => Int.mul_nonneg (hv m (by omega)).1 (W_range l m j).1), ?_⟩
   have : Sm r (fun m => v m * W l m j) ≤ r * 100000000000000000 := Sm_le (fun m hm => by
    have h1 := hv m (by omega)
    have h2 := W_range l m j
    have : v m * W l m j ≤ v m * 1 := Int.mul_le_mul_of_nonneg_left h2.2 h1.1
    omega)
   omega
  have inner : ∀ (d q : Nat), 0 < v r → q + d = 2 * l.length → Ev (fun f => spec_l03Rows.l3 f k (2 * (l.length : Int)) M p (rowOf (2 * l.length) v) x9 (vrow l (2 * l.length) v r q) (r : Int) (q : Int) n l) res := by
   intro d
   induction d with
   | zero =>
    intro q hpos hq
    have e : q = 2 * l.length := by omega
    subst e
    refine Ev.succ ?_; simp only [spec_l03Rows.l3]
    refine Ev.neg (by omega) ?_
    refine Ev.succ ?_; simp only [spec_l03Rows.j4]
    rw [wrap_succ (i := r) (by omega), vrow_next]
    repeat (first | with_reducible exact Ev.now _ | dsimp only | refine Ev.pos (by first | omega | rfl | assumption | decide) ?_ | refine Ev.neg (by first | omega | assumption | exact Bool.false_ne_true | exact fun e => absurd e (by decide)) ?_ | simp only [bne_self_eq_false, Bool.not_true, Bool.not_false, List.length_cons, List.length_nil] | rw [wrap_id (by omega) (by omega)] | ((with_reducible refine Ev.eq (congrArg some ?_)); rfl))
    exact h1
   | succ d ih2 =>
    intro q hpos hq
    have h2 := ih2 (q + 1) hpos (by omega)
    have hn := specNext h (show r < 2 * l.length by omega) (show q < 2 * l.length by omega)
    have hvl := vrow_length (l := l) (2 * l.length) v r q
    refine Ev.succ ?_; simp only [spec_l03Rows.l3]
    rw [erd, decide_eq_true (show v r > 0 from hpos)]
    repeat (first | with_reducible exact Ev.now _ | dsimp only | refine Ev.pos (by first | omega | rfl | assumption | decide) ?_ | refine Ev.neg (by first | omega | assumption | exact Bool.false_ne_true | exact fun e => absurd e (by decide)) ?_ | simp only [bne_self_eq_false, Bool.not_true, Bool.not_false, List.length_cons, List.length_nil] | rw [wrap_id (by omega) (by omega)] | ((with_reducible refine Ev.eq (congrArg some ?_)); rfl))
    refine Ev.succ ?_; simp only [spec_l03Rows.j4]
    rw [erd, wrap_succ (i := q) (by omega), vrow_rd _ _ _ _ (by omega)]
    by_cases c : next l r q = true
    ·have hs := hsum q
     have e1 : Sm (r + 1) (fun m => v m * W l m q) = Sm r (fun m => v m * W l m q) + v r := by
      show Sm r _ + v r * W l r q = _
      unfold W
      rw [if_pos c, Int.mul_one]
     rw [wrap_id (x := Sm r (fun m => v m * W l m q) + v r) (by omega) (by omega), ← e1, Int.toNat_natCast, vrow_set _ _ _ _ (by omega)]
     rw [c] at hn
     repeat (first | with_reducible exact Ev.now _ | dsimp only | with_reducible refine Ev.bind (Ev.eq hn) ?_ | refine Ev.pos (by first | omega | rfl | assumption | decide) ?_ | refine Ev.neg (by first | omega | assumption | exact Bool.false_ne_true | exact fun e => absurd e (by decide)) ?_ | simp only [bne_self_eq_false, Bool.not_true, Bool.not_false, List.length_cons, List.length_nil] | rw [wrap_id (by omega) (by omega)] | with_reducible exact (Ev.eq hn) | ((with_reducible refine Ev.eq (congrArg some ?_)); rfl))
     exact h2
    ·have hn' := hn
     rw [Bool.not_eq_true] at c
     rw [c] at hn'
     rw [← vrow_none (l := l) _ v r q (by rw [c]; decide)] at h2
     repeat (first | with_reducible exact Ev.now _ | dsimp only | with_reducible refine Ev.bind (Ev.eq hn') ?_ | refine Ev.pos (by first | omega | rfl | assumption | decide) ?_ | refine Ev.neg (by first | omega | assumption | exact Bool.false_ne_true | exact fun e => absurd e (by decide)) ?_ | simp only [bne_self_eq_false, Bool.not_true, Bool.not_false, List.length_cons, List.length_nil] | rw [wrap_id (by omega) (by omega)] | with_reducible exact (Ev.eq hn') | ((with_reducible refine Ev.eq (congrArg some ?_)); rfl))
     exact h2
  refine Ev.succ ?_; simp only [spec_l03Rows.l2]
  refine Ev.pos (by omega) ?_
  by_cases c : 0 < v r
  ·exact inner (2 * l.length) 0 c (by omega)
  ·rw [← vrow_skip _ v r (by omega)] at h1
   refine Ev.succ ?_; simp only [spec_l03Rows.l3]
   rw [erd, decide_eq_false (show ¬ v r > 0 by omega)]
   refine Ev.pos (by omega) ?_
   refine Ev.pos (by omega) ?_
   refine Ev.pos (by omega) ?_
   refine Ev.succ ?_; simp only [spec_l03Rows.j4]
   rw [wrap_succ (i := r) (by omega)]
   repeat (first | with_reducible exact Ev.now _ | dsimp only | refine Ev.pos (by first | omega | rfl | assumption | decide) ?_ | refine Ev.neg (by first | omega | assumption | exact Bool.false_ne_true | exact fun e => absurd e (by decide)) ?_ | simp only [bne_self_eq_false, Bool.not_true, Bool.not_false, List.length_cons, List.length_nil] | rw [wrap_id (by omega) (by omega)] | ((with_reducible refine Ev.eq (congrArg some ?_)); rfl))
   exact h1

/-- The rows of the power k - 1. -/
theorem specRowsOf (k : Nat) (hk : 1 ≤ k ∧ k ≤ 12) : Ev (fun f => spec_l03Rows.f f n l (k : Int)) (ofFn (2 * l.length) (fun p => vec l (2 * l.length) p (k - 1))) := by
 obtain ⟨g1, g2, g3⟩ := graph_small h
 have steps : ∀ (M : List (List Int)) (p : Nat) (res : List (List Int)), M.length ≤ 20 → p < 2 * l.length → Ev (fun f => spec_l03Rows.l0 f (k : Int) (2 * (l.length : Int)) (M ++ [rowOf (2 * l.length) (vec l (2 * l.length) p (k - 1))]) ((p + 1 : Nat) : Int) n l) res →
   ∀ (d j : Nat), j + 1 + d = k → Ev (fun f => spec_l03Rows.l1 f (k : Int) (2 * (l.length : Int)) M (p : Int) (rowOf (2 * l.length) (vec l (2 * l.length) p j)) ((j + 1 : Nat) : Int) n l) res := by
  intro M p res hM hp hres d
  induction d with
  | zero =>
   intro j hj
   have e : j = k - 1 := by omega
   subst e
   refine Ev.succ ?_; simp only [spec_l03Rows.l1]
   rw [wrap_succ (i := p) (by omega)]
   repeat (first | with_reducible exact Ev.now _ | dsimp only | refine Ev.pos (by first | omega | rfl | assumption | decide) ?_ | refine Ev.neg (by first | omega | assumption | exact Bool.false_ne_true | exact fun e => absurd e (by decide)) ?_ | simp only [bne_self_eq_false, Bool.not_true, Bool.not_false, List.length_cons, List.length_nil] | rw [wrap_id (by omega) (by omega)] | ((with_reducible refine Ev.eq (congrArg some ?_)); rfl))
   exact hres
  | succ d ih =>
   intro j hj
   have h1 := ih (j + 1) (by omega)
   have hb := fun r (_ : r < 2 * l.length) => vec_range l (2 * l.length) p (by omega) j r
   have hB := pow20 (show j ≤ 13 by omega)
   refine Ev.succ ?_; simp only [spec_l03Rows.l1]
   rw [show (2 * (l.length : Int)).toNat = 2 * l.length by omega, ← rowOf_zero]
   repeat (first | with_reducible exact Ev.now _ | dsimp only | refine Ev.pos (by first | omega | rfl | assumption | decide) ?_ | refine Ev.neg (by first | omega | assumption | exact Bool.false_ne_true | exact fun e => absurd e (by decide)) ?_ | simp only [bne_self_eq_false, Bool.not_true, Bool.not_false, List.length_cons, List.length_nil] | rw [wrap_id (by omega) (by omega)] | ((with_reducible refine Ev.eq (congrArg some ?_)); rfl))
   refine specStep h (k : Int) M (p : Int) (vec l (2 * l.length) p j) (20 ^ j) (by omega) hb _ _ ?_ (2 * l.length) 0 (by omega)
   rw [wrap_succ (by omega)]
   have e : vrow l (2 * l.length) (vec l (2 * l.length) p j) (2 * l.length) 0 = rowOf (2 * l.length) (vec l (2 * l.length) p (j + 1)) := rowOf_congr (fun q hq => if_neg (by omega))
   rw [e]
   exact h1
 have main : ∀ (d p : Nat), p + d = 2 * l.length → Ev (fun f => spec_l03Rows.l0 f (k : Int) (2 * (l.length : Int)) ((List.range p).map (fun p => rowOf (2 * l.length) (vec l (2 * l.length) p (k - 1)))) (p : Int) n l) (ofFn (2 * l.length) (fun p => vec l (2 * l.length) p (k - 1))) := by
  intro d
  induction d with
  | zero =>
   intro p hp
   have e : p = 2 * l.length := by omega
   subst e
   refine Ev.succ ?_; simp only [spec_l03Rows.l0]
   refine Ev.neg (by omega) ?_
   exact Ev.now _
  | succ d ih =>
   intro p hp
   have h1 := ih (p + 1) (by omega)
   rw [map_range_succ] at h1
   have h2 := steps _ p _ (by simp; omega) (by omega) h1 (k - 1) 0 (by omega)
   refine Ev.succ ?_; simp only [spec_l03Rows.l0]
   rw [show (2 * (l.length : Int)).toNat = 2 * l.length by omega, ← rowOf_zero, Int.toNat_natCast]
   have hl : (rowOf (2 * l.length) (fun _ => 0)).length = 2 * l.length := rowOf_length _ _
   repeat (first | with_reducible exact Ev.now _ | dsimp only | with_reducible refine Ev.bind (Ev.now _) ?_ | refine Ev.pos (by first | omega | rfl | assumption | decide) ?_ | refine Ev.neg (by first | omega | assumption | exact Bool.false_ne_true | exact fun e => absurd e (by decide)) ?_ | simp only [bne_self_eq_false, Bool.not_true, Bool.not_false, List.length_cons, List.length_nil] | rw [wrap_id (by omega) (by omega)] | with_reducible exact (Ev.now _) | ((with_reducible refine Ev.eq (congrArg some ?_)); rfl))
   rw [rowOf_set _ _ (by omega)]
   have e : rowOf (2 * l.length) (fun j => if j = p then 1 else 0) = rowOf (2 * l.length) (vec l (2 * l.length) p 0) := rfl
   rw [e]
   exact h2
 unfold spec_l03Rows.f
 rw [wrap_id (x := 2 * (l.length : Int)) (by omega) (by omega)]
 exact main (2 * l.length) 0 (by omega)

end
/-- 1: no graph; 2: no length from lo to 12; 0: both are well. -/
def codeL (n : Int) (l : List (List Int)) (a lo : Int) : Int := if isGraph n l = true then (if lo ≤ a ∧ a ≤ 12 then 0 else 2) else 1

theorem specLength (n : Int) (l : List (List Int)) (a lo : Int) (hl : Mod l) : Ev (fun k => spec_l03Length.f k n l a lo) (codeL n l a lo) := by
 have h1 := specIs n l hl
 have hc := specIn a lo 12
 unfold spec_l03Length.f codeL
 by_cases hg : isGraph n l = true
 ·rw [hg] at h1
  rw [if_pos hg]
  by_cases c : lo ≤ a ∧ a ≤ 12
  ·rw [decide_eq_true c] at hc
   rw [if_pos c]
   repeat (first | with_reducible exact Ev.now _ | dsimp only | with_reducible refine Ev.bind (h1) ?_ | with_reducible refine Ev.bind (Ev.eq hc) ?_ | refine Ev.pos (by first | omega | rfl | assumption | decide) ?_ | refine Ev.neg (by first | omega | assumption | exact Bool.false_ne_true | exact fun e => absurd e (by decide)) ?_ | simp only [bne_self_eq_false, Bool.not_true, Bool.not_false, List.length_cons, List.length_nil] | rw [wrap_id (by omega) (by omega)] | with_reducible exact (h1) | with_reducible exact (Ev.eq hc) | ((with_reducible refine Ev.eq (congrArg some ?_)); rfl))
  ·rw [decide_eq_false c] at hc
   rw [if_neg c]
   repeat (first | with_reducible exact Ev.now _ | dsimp only | with_reducible refine Ev.bind (h1) ?_ | with_reducible refine Ev.bind (Ev.eq hc) ?_ | refine Ev.pos (by first | omega | rfl | assumption | decide) ?_ | refine Ev.neg (by first | omega | assumption | exact Bool.false_ne_true | exact fun e => absurd e (by decide)) ?_ | simp only [bne_self_eq_false, Bool.not_true, Bool.not_false, List.length_cons, List.length_nil] | rw [wrap_id (by omega) (by omega)] | with_reducible exact (h1) | with_reducible exact (Ev.eq hc) | ((with_reducible refine Ev.eq (congrArg some ?_)); rfl))
 ·rw [Bool.not_eq_true] at hg
  rw [hg] at h1
  rw [if_neg (by rw [hg]; decide)]
  repeat (first | with_reducible exact Ev.now _ | dsimp only | with_reducible refine Ev.bind (h1) ?_ | refine Ev.pos (by first | omega | rfl | assumption | decide) ?_ | refine Ev.neg (by first | omega | assumption | exact Bool.false_ne_true | exact fun e => absurd e (by decide)) ?_ | simp only [bne_self_eq_false, Bool.not_true, Bool.not_false, List.length_cons, List.length_nil] | rw [wrap_id (by omega) (by omega)] | with_reducible exact (h1) | ((with_reducible refine Ev.eq (congrArg some ?_)); rfl))

theorem codeL_zero {n : Int} {l : List (List Int)} {a lo : Int} (h : codeL n l a lo = 0) : isGraph n l = true ∧ lo ≤ a ∧ a ≤ 12 := by
 unfold codeL at h
 by_cases hg : isGraph n l = true
 ·rw [if_pos hg] at h
  by_cases c : lo ≤ a ∧ a ≤ 12
  ·exact ⟨hg, c⟩
  ·rw [if_neg c] at h
   cases h
 ·rw [if_neg hg] at h
  cases h

theorem zeros_ofFn (n : Nat) : zeros n = ofFn n (fun _ _ => 0) := by
 show List.replicate n (List.replicate n 0) = (List.range n).map (fun _ => rowOf n (fun _ => 0))
 rw [rowOf_zero]
 simp [List.map_const']

/-- Ones on the diagonal, up to s. -/
def dgM (N s : Nat) : List (List Int) := ofFn N (fun i j => if i = j ∧ i < s then 1 else 0)

theorem dgM_length (N s : Nat) : (dgM N s).length = N := ofFn_length _ _

theorem dgM_zero (N : Nat) : zeros N = dgM N 0 := by
 rw [zeros_ofFn]
 exact ofFn_congr (fun i j _ _ => (if_neg (by omega)).symm)

theorem dgM_row (N s : Nat) (hs : s < N) : rd_L1 (dgM N s) (s : Int) = rowOf N (fun _ => 0) := by
 unfold dgM
 rw [ofFn_row _ hs]
 exact rowOf_congr (fun j _ => if_neg (by omega))

theorem dgM_set (N s : Nat) (hs : s < N) : (dgM N s).set s ((rd_L1 (dgM N s) (s : Int)).set s 1) = dgM N (s + 1) := by
 rw [dgM_row N s hs, rowOf_set _ _ hs]
 unfold dgM
 rw [ofFn_set _ _ hs]
 refine ofFn_congr (fun i j hi hj => ?_)
 by_cases c : i = s
 ·subst c
  rw [if_pos rfl]
  by_cases c2 : j = i
  ·rw [if_pos c2, if_pos ⟨c2.symm, by omega⟩]
  ·rw [if_neg c2, if_neg (fun z => c2 z.1.symm)]
 ·rw [if_neg c]
  by_cases c2 : i = j ∧ i < s
  ·rw [if_pos c2, if_pos ⟨c2.1, by omega⟩]
  ·rw [if_neg c2, if_neg (fun z => c2 ⟨z.1, by omega⟩)]

/-- The vertices where a directed edge begins and ends. -/
def bv (l : List (List Int)) (e : Nat) : Nat := (tl l e).toNat
def ev (l : List (List Int)) (e : Nat) : Nat := (hd l e).toNat

section
variable (l : List (List Int)) (m : Nat) (R : Nat → Nat → Int)

/-- The sum for v and w, over all rows before a and over row a up to b. -/
def S2 (a b v w : Nat) : Int := Sm a (fun p => if bv l p = v then Sm (2 * l.length) (fun q => if ev l q = w then R p q else 0) else 0) + (if bv l a = v then Sm b (fun q => if ev l q = w then R a q else 0) else 0)

def outM (a b : Nat) : List (List Int) := ofFn m (fun v w => wrap64 (S2 l R a b v w))
def rowS (a b : Nat) : List Int := rowOf m (fun w => wrap64 (S2 l R a b (bv l a) w))

theorem outM_length (a b : Nat) : (outM l m R a b).length = m := ofFn_length _ _
theorem rowS_length (a b : Nat) : (rowS l m R a b).length = m := rowOf_length _ _

theorem outM_row (a b : Nat) (ha : bv l a < m) : rd_L1 (outM l m R a b) ((bv l a : Nat) : Int) = rowS l m R a b := ofFn_row _ ha

theorem rowS_set (a b : Nat) (hb : ev l b < m) : (rowS l m R a b).set (ev l b) (wrap64 (rd (rowS l m R a b) ((ev l b : Nat) : Int) + R a b)) = rowS l m R a (b + 1) := by
 unfold rowS
 rw [rowOf_rd _ hb, rowOf_set _ _ hb, wrap_add_left]
 refine rowOf_congr (fun w hw => ?_)
 have e : S2 l R a (b + 1) (bv l a) w = S2 l R a b (bv l a) w + (if ev l b = w then R a b else 0) := by
  unfold S2
  rw [if_pos rfl, if_pos rfl]
  exact (Int.add_assoc _ _ _).symm
 by_cases c : w = ev l b
 ·rw [if_pos c, e, if_pos c.symm, c]
 ·rw [if_neg c, e, if_neg (fun z => c z.symm), Int.add_zero]

theorem outM_set (a b b' : Nat) (ha : bv l a < m) : (outM l m R a b).set (bv l a) (rowS l m R a b') = outM l m R a b' := by
 unfold outM rowS
 rw [ofFn_set _ _ ha]
 refine ofFn_congr (fun v w hv hw => ?_)
 by_cases c : v = bv l a
 ·rw [if_pos c, c]
 ·rw [if_neg c]
  unfold S2
  rw [if_neg (fun z => c z.symm), if_neg (fun z => c z.symm)]

theorem outM_next (a : Nat) : outM l m R a (2 * l.length) = outM l m R (a + 1) 0 := by
 refine ofFn_congr (fun v w hv hw => ?_)
 congr 1
 unfold S2
 show _ = (_ + _) + (if bv l (a + 1) = v then 0 else 0)
 have : (if bv l (a + 1) = v then (0 : Int) else 0) = 0 := by split <;> rfl
 rw [this, Int.add_zero]

theorem outM_zero : outM l m R 0 0 = zeros m := by
 rw [zeros_ofFn]
 refine ofFn_congr (fun v w hv hw => ?_)
 have : S2 l R 0 0 v w = 0 := by
  unfold S2
  show 0 + (if bv l 0 = v then 0 else 0) = (0 : Int)
  split <;> rfl
 rw [this]
 exact wrap_id (by decide) (by decide)

end

section
variable {n : Int} {l : List (List Int)} (h : isGraph n l = true) (m : Nat) (hm : n = (m : Int)) (R : Nat → Nat → Int)
include h hm

theorem ends_ok {e : Nat} (he : e < 2 * l.length) : tl l e = ((bv l e : Nat) : Int) ∧ bv l e < m ∧ hd l e = ((ev l e : Nat) : Int) ∧ ev l e < m := by
 obtain ⟨e2, a, b, ea, eb, ha, hb⟩ := graph_edge h (show e / 2 < l.length by omega)
 have h1 : 0 ≤ tl l e ∧ tl l e < n := by
  unfold tl
  split
  ·rw [eb]; omega
  ·rw [ea]; omega
 have h2 : 0 ≤ hd l e ∧ hd l e < n := by
  unfold hd
  split
  ·rw [ea]; omega
  ·rw [eb]; omega
 unfold bv ev
 omega

theorem spAdd (a : Nat) (ha : a < 2 * l.length) (r : List (List Int) × Int) (hr : Ev (fun k => spec_WalkMatrix.l1 k (outM l m R (a + 1) 0) (ofFn (2 * l.length) R) ((a + 1 : Nat) : Int) n l) r) :
  ∀ (d b : Nat), b + d = 2 * l.length → Ev (fun k => spec_WalkMatrix.l2 k (outM l m R a 0) (ofFn (2 * l.length) R) (a : Int) (rowS l m R a b) (b : Int) n l) r := by
 obtain ⟨g1, g2, g3⟩ := graph_small h
 obtain ⟨t1, t2, _, _⟩ := ends_ok h m hm ha
 have hrl : (ofFn (2 * l.length) R).length = 2 * l.length := ofFn_length _ _
 intro d
 induction d with
 | zero =>
  intro b hb
  obtain rfl : b = 2 * l.length := by omega
  have he := specEnds h ha
  refine Ev.succ ?_; simp only [spec_WalkMatrix.l2]
  rw [he, t1]
  refine Ev.neg (by omega) (Ev.bind (Ev.now _) ?_)
  show Ev (fun k => spec_WalkMatrix.l1 k ((outM l m R a 0).set (((bv l a : Nat) : Int)).toNat (rowS l m R a (2 * l.length))) (ofFn (2 * l.length) R) (wrap64 ((a : Int) + 1)) n l) r
  rw [Int.toNat_natCast, outM_set l m R a 0 _ t2, outM_next, wrap_succ (i := a) (by omega)]
  exact hr
 | succ d ih =>
  intro b hb
  have h1 := ih (b + 1) (by omega)
  have he := specEnds h (show b < 2 * l.length by omega)
  obtain ⟨_, _, u1, u2⟩ := ends_ok h m hm (show b < 2 * l.length by omega)
  have hl := rowS_length l m R a b
  have hset := rowS_set l m R a b u2
  have hrow : (rd_L1 (ofFn (2 * l.length) R) (a : Int)).length = 2 * l.length := by rw [ofFn_row _ ha, rowOf_length]
  have hval : rd (rd_L1 (ofFn (2 * l.length) R) (a : Int)) (b : Int) = R a b := ofFn_mat R ha (by omega)
  refine Ev.succ ?_; simp only [spec_WalkMatrix.l2]
  rw [he, hval, wrap_succ (i := b) (by omega)]
  refine Ev.pos (by omega) (Ev.bind (Ev.now _) ?_)
  show Ev (fun k => if 0 ≤ hd l b then _ else _) r
  rw [u1, Int.toNat_natCast, hset]
  exact Ev.pos (by omega) (Ev.pos (by omega) (Ev.pos (by omega) (Ev.pos (by omega) (Ev.pos (by omega) (Ev.pos (by omega) h1)))))

theorem spAddAll : ∀ (d a : Nat), a + d = 2 * l.length → Ev (fun k => spec_WalkMatrix.l1 k (outM l m R a 0) (ofFn (2 * l.length) R) (a : Int) n l) (outM l m R (2 * l.length) 0, 0) := by
 obtain ⟨g1, g2, g3⟩ := graph_small h
 have hrl : (ofFn (2 * l.length) R).length = 2 * l.length := ofFn_length _ _
 intro d
 induction d with
 | zero =>
  intro a ha
  obtain rfl : a = 2 * l.length := by omega
  refine Ev.succ ?_; simp only [spec_WalkMatrix.l1]
  exact Ev.neg (by omega) (Ev.now _)
 | succ d ih =>
  intro a ha
  have h1 := ih (a + 1) (by omega)
  have he := specEnds h (show a < 2 * l.length by omega)
  obtain ⟨t1, t2, _, _⟩ := ends_ok h m hm (show a < 2 * l.length by omega)
  have hl := outM_length l m R a 0
  refine Ev.succ ?_; simp only [spec_WalkMatrix.l1]
  rw [he]
  refine Ev.pos (by omega) (Ev.bind (Ev.now _) ?_)
  show Ev (fun k => if 0 ≤ tl l a then _ else _) _
  rw [t1, outM_row l m R a 0 t2]
  exact Ev.pos (by omega) (Ev.pos (by omega) (spAdd h m hm R a (by omega) _ h1 (2 * l.length) 0 (by omega)))

theorem imAdd (a : Nat) (ha : a < 2 * l.length) (X : List (List Int)) (r : List (List Int)) (hr : Ev (fun k => impl_Graph_walkMatrix.l3 k (outM l m R (a + 1) 0) X ((2 * l.length : Nat) : Int) ((a + 1 : Nat) : Int) n l) r) :
  ∀ (d b : Nat), b + d = 2 * l.length → Ev (fun k => impl_Graph_walkMatrix.l4 k (outM l m R a b) X ((bv l a : Nat) : Int) ((2 * l.length : Nat) : Int) (a : Int) (rowOf (2 * l.length) (R a)) ((2 * l.length : Nat) : Int) (b : Int) n l) r := by
 obtain ⟨g1, g2, g3⟩ := graph_small h
 obtain ⟨t1, t2, _, _⟩ := ends_ok h m hm ha
 have hrl : (rowOf (2 * l.length) (R a)).length = 2 * l.length := rowOf_length _ _
 intro d
 induction d with
 | zero =>
  intro b hb
  obtain rfl : b = 2 * l.length := by omega
  refine Ev.succ ?_; simp only [impl_Graph_walkMatrix.l4]
  rw [outM_next, wrap_succ (i := a) (by omega)]
  exact Ev.neg (by omega) hr
 | succ d ih =>
  intro b hb
  have h1 := ih (b + 1) (by omega)
  have he := implEnds h (show b < 2 * l.length by omega)
  obtain ⟨_, _, u1, u2⟩ := ends_ok h m hm (show b < 2 * l.length by omega)
  have hl := rowS_length l m R a b
  have hol := outM_length l m R a b
  have hval : rd (rowOf (2 * l.length) (R a)) (b : Int) = R a b := rowOf_rd _ (by omega)
  refine Ev.succ ?_; simp only [impl_Graph_walkMatrix.l4]
  rw [he, hval, wrap_succ (i := b) (by omega), outM_row l m R a b t2]
  refine Ev.pos (by omega) (Ev.pos (by omega) (Ev.pos (by omega) (Ev.bind (Ev.now _) (Ev.pos (by omega) (Ev.pos (by omega) ?_)))))
  show Ev (fun k => if 0 ≤ hd l b then _ else _) r
  rw [u1, Int.toNat_natCast, Int.toNat_natCast, rowS_set l m R a b u2, outM_set l m R a b (b + 1) t2]
  exact Ev.pos (by omega) (Ev.pos (by omega) h1)

theorem imAddAll : ∀ (d a : Nat), a + d = 2 * l.length → Ev (fun k => impl_Graph_walkMatrix.l3 k (outM l m R a 0) (ofFn (2 * l.length) R) ((2 * l.length : Nat) : Int) (a : Int) n l) (outM l m R (2 * l.length) 0) := by
 obtain ⟨g1, g2, g3⟩ := graph_small h
 have hrl : (ofFn (2 * l.length) R).length = 2 * l.length := ofFn_length _ _
 intro d
 induction d with
 | zero =>
  intro a ha
  obtain rfl : a = 2 * l.length := by omega
  refine Ev.succ ?_; simp only [impl_Graph_walkMatrix.l3]
  exact Ev.neg (by omega) (Ev.now _)
 | succ d ih =>
  intro a ha
  have h1 := ih (a + 1) (by omega)
  have he := implEnds h (show a < 2 * l.length by omega)
  obtain ⟨t1, t2, _, _⟩ := ends_ok h m hm (show a < 2 * l.length by omega)
  have h2 := imAdd h m hm R a (by omega) (ofFn (2 * l.length) R) _ h1 (2 * l.length) 0 (by omega)
  refine Ev.succ ?_; simp only [impl_Graph_walkMatrix.l3]
  rw [he, ofFn_row _ (show a < 2 * l.length by omega), rowOf_length]
  refine Ev.pos (by omega) (Ev.pos (by omega) (Ev.pos (by omega) (Ev.bind (Ev.now _) ?_)))
  show Ev (fun k => impl_Graph_walkMatrix.l4 k _ _ (tl l a) _ _ _ _ _ _ _) _
  rw [t1]
  exact h2

end

section
variable {n : Int} {l : List (List Int)} (h : isGraph n l = true) (m : Nat) (hm : n = (m : Int)) (k : Nat) (hk : k ≤ 12)
include h hm hk

/-- The reference makes the rows: zero rows, or those of the one. -/
def mkM (m k i : Nat) : List (List Int) := (List.range i).map (fun p => rowOf m (fun q => if k = 0 ∧ q = p then 1 else 0))

theorem spMake (r : List (List Int) × Int) (hr0 : k = 0 → r = (mkM m 0 m, 0)) (hr1 : k ≠ 0 → Ev (fun f => (spec_l03Rows.f f n l (k : Int)).bind fun t => spec_WalkMatrix.l1 f (mkM m k m) t 0 n l) r) :
  ∀ (d i : Nat), i + d = m → Ev (fun f => spec_WalkMatrix.l0 f (k : Int) (mkM m k i) (i : Int) n l) r := by
 obtain ⟨g1, g2, g3⟩ := graph_small h
 intro d
 induction d with
 | zero =>
  intro i hi
  obtain rfl : i = m := by omega
  refine Ev.succ ?_; simp only [spec_WalkMatrix.l0]
  refine Ev.neg (by omega) ?_
  by_cases c : k = 0
  ·rw [hr0 c]
   subst c
   exact Ev.pos rfl (Ev.now _)
  ·exact Ev.neg (by omega) (hr1 c)
 | succ d ih =>
  intro i hi
  have h1 := ih (i + 1) (by omega)
  have hl : (mkM m k i).length = i := by simp [mkM]
  rw [show mkM m k (i + 1) = mkM m k i ++ [rowOf m (fun q => if k = 0 ∧ q = i then 1 else 0)] from map_range_succ _ _] at h1
  refine Ev.succ ?_; simp only [spec_WalkMatrix.l0]
  rw [wrap_succ (i := i) (by omega), show n.toNat = m by omega]
  refine Ev.pos (by omega) (Ev.pos (by omega) (Ev.pos (by omega) (Ev.bind (Ev.now _) ?_)))
  by_cases c : k = 0
  ·subst c
   have e : (List.replicate m (0 : Int)).set i 1 = rowOf m (fun q => if 0 = 0 ∧ q = i then 1 else 0) := by
    rw [← rowOf_zero, rowOf_set _ _ (show i < m by omega)]
    refine rowOf_congr (fun q _ => ?_)
    by_cases c2 : q = i
    ·rw [if_pos c2, if_pos ⟨rfl, c2⟩]
    ·rw [if_neg c2, if_neg (fun z => c2 z.2)]
   rw [← e] at h1
   refine Ev.pos rfl (Ev.pos (by omega) (Ev.pos ?_ (Ev.pos (by omega) ?_)))
   ·rw [List.length_replicate]; omega
   ·rw [Int.toNat_natCast]
    exact h1
  ·have e : List.replicate m (0 : Int) = rowOf m (fun q => if k = 0 ∧ q = i then 1 else 0) := by
    rw [← rowOf_zero]
    exact rowOf_congr (fun q _ => (if_neg (fun z => c z.1)).symm)
   rw [← e] at h1
   exact Ev.neg (by omega) (Ev.pos (by omega) h1)

omit h hm hk in
theorem mkM_one : mkM m 0 m = dgM m m := by
 unfold mkM dgM ofFn
 refine List.map_congr_left (fun p hp => ?_)
 have := List.mem_range.1 hp
 refine rowOf_congr (fun q hq => ?_)
 show (if 0 = 0 ∧ q = p then (1 : Int) else 0) = if p = q ∧ p < m then 1 else 0
 by_cases c : q = p
 ·rw [if_pos ⟨rfl, c⟩, if_pos ⟨c.symm, this⟩]
 ·rw [if_neg (fun z => c z.2), if_neg (fun z => c z.1.symm)]

omit h hm hk in
theorem mkM_none (hk0 : k ≠ 0) : mkM m k m = zeros m := by
 rw [zeros_ofFn]
 unfold mkM ofFn
 exact List.map_congr_left (fun p _ => rowOf_congr (fun q _ => if_neg (fun z => hk0 z.1)))

/-- The answer. -/
def wmR (l : List (List Int)) (m k : Nat) : List (List Int) := if k = 0 then dgM m m else outM l m (fun p q => vec l (2 * l.length) p (k - 1) q) (2 * l.length) 0

theorem specWalkM : Ev (fun f => spec_WalkMatrix.l0 f (k : Int) [] 0 n l) (wmR l m k, 0) := by
 refine spMake h m hm k hk (wmR l m k, 0) (fun c => ?_) (fun c => ?_) m 0 (by omega)
 ·unfold wmR
  rw [if_pos c, mkM_one]
 ·unfold wmR
  rw [if_neg c, mkM_none m k c, ← outM_zero l m (fun p q => vec l (2 * l.length) p (k - 1) q)]
  exact Ev.bind (specRowsOf h k ⟨by omega, hk⟩) (spAddAll h m hm _ (2 * l.length) 0 (by omega))

omit hk in
theorem implOne : ∀ (d i : Nat), i + d = m → Ev (fun f => impl_Graph_walkMatrix.l0 f (dgM m i) (m : Int) (i : Int)) (dgM m m) := by
 obtain ⟨g1, g2, g3⟩ := graph_small h
 intro d
 induction d with
 | zero =>
  intro i hi
  obtain rfl : i = m := by omega
  refine Ev.succ ?_; simp only [impl_Graph_walkMatrix.l0]
  exact Ev.neg (by omega) (Ev.now _)
 | succ d ih =>
  intro i hi
  have h1 := ih (i + 1) (by omega)
  have hl := dgM_length m i
  have hr : (rd_L1 (dgM m i) (i : Int)).length = m := by rw [dgM_row m i (by omega), rowOf_length]
  refine Ev.succ ?_; simp only [impl_Graph_walkMatrix.l0]
  rw [Int.toNat_natCast i, dgM_set m i (by omega), wrap_succ (i := i) (by omega)]
  exact Ev.pos (by omega) (Ev.pos (by omega) (Ev.pos (by omega) (Ev.pos (by omega) h1)))

omit hm in
theorem implPowers (hk1 : 1 ≤ k) (Y : List (List Int)) (r : List (List Int)) (hr : Ev (fun f => impl_Graph_walkMatrix.l3 f Y (ofFn (2 * l.length) (fun p q => vec l (2 * l.length) p (k - 1) q)) ((2 * l.length : Nat) : Int) 0 n l) r) :
  ∀ (d t : Nat), t + d = k - 1 → Ev (fun f => impl_Graph_walkMatrix.l2 f Y (ofFn (2 * l.length) (W l)) (ofFn (2 * l.length) (fun p q => vec l (2 * l.length) p t q)) ((k - 1 : Nat) : Int) (t : Int) n l) r := by
 obtain ⟨g1, g2, g3⟩ := graph_small h
 have hSq : Sq (2 * l.length) (ofFn (2 * l.length) (W l)) := Sq_ofFn _ _
 intro d
 induction d with
 | zero =>
  intro t ht
  obtain rfl : t = k - 1 := by omega
  have hl : (ofFn (2 * l.length) (fun p q => vec l (2 * l.length) p (k - 1) q)).length = 2 * l.length := ofFn_length _ _
  refine Ev.succ ?_; simp only [impl_Graph_walkMatrix.l2]
  rw [hl]
  exact Ev.neg (by omega) hr
 | succ d ih =>
  intro t ht
  have h1 := ih (t + 1) (by omega)
  have hP : Sq (2 * l.length) (ofFn (2 * l.length) (fun p q => vec l (2 * l.length) p t q)) := Sq_ofFn _ _
  have hmm := rowsTimes (2 * l.length) (by omega) _ _ hP hSq
  have em : ofFn (2 * l.length) (part (ofFn (2 * l.length) (fun p q => vec l (2 * l.length) p t q)) (ofFn (2 * l.length) (W l)) (2 * l.length)) = ofFn (2 * l.length) (fun p q => vec l (2 * l.length) p (t + 1) q) := by
   refine ofFn_congr (fun p q hp hq => ?_)
   unfold part
   have e1 : Sm (2 * l.length) (fun m => mat (ofFn (2 * l.length) (fun p q => vec l (2 * l.length) p t q)) p m * mat (ofFn (2 * l.length) (W l)) m q) = vec l (2 * l.length) p (t + 1) q := Sm_congr (fun m hm => by rw [ofFn_mat _ hp hm, ofFn_mat _ hm hq])
   have hb := vec_range l (2 * l.length) p (by omega) (t + 1) q
   have := pow20 (show t + 1 ≤ 13 by omega)
   rw [e1, wrap_id (by omega) (by omega)]
  rw [em] at hmm
  refine Ev.succ ?_; simp only [impl_Graph_walkMatrix.l2]
  rw [wrap_succ (i := t) (by omega)]
  exact Ev.pos (by omega) (Ev.bind hmm h1)

omit hm in
theorem implDiag (hk1 : 1 ≤ k) (Y : List (List Int)) (r : List (List Int)) (hr : Ev (fun f => impl_Graph_walkMatrix.l2 f Y (ofFn (2 * l.length) (W l)) (dgM (2 * l.length) (2 * l.length)) ((k - 1 : Nat) : Int) 0 n l) r) :
  ∀ (d i : Nat), i + d = 2 * l.length → Ev (fun f => impl_Graph_walkMatrix.l1 f (k : Int) Y (ofFn (2 * l.length) (W l)) (dgM (2 * l.length) i) ((2 * l.length : Nat) : Int) (i : Int) n l) r := by
 obtain ⟨g1, g2, g3⟩ := graph_small h
 intro d
 induction d with
 | zero =>
  intro i hi
  obtain rfl : i = 2 * l.length := by omega
  refine Ev.succ ?_; simp only [impl_Graph_walkMatrix.l1]
  rw [wrap_id (x := (k : Int) - 1) (by omega) (by omega), show (k : Int) - 1 = ((k - 1 : Nat) : Int) by omega]
  exact Ev.neg (by omega) hr
 | succ d ih =>
  intro i hi
  have h1 := ih (i + 1) (by omega)
  have hl := dgM_length (2 * l.length) i
  have hrw : (rd_L1 (dgM (2 * l.length) i) (i : Int)).length = 2 * l.length := by rw [dgM_row _ i (by omega), rowOf_length]
  refine Ev.succ ?_; simp only [impl_Graph_walkMatrix.l1]
  rw [Int.toNat_natCast i, dgM_set _ i (by omega), wrap_succ (i := i) (by omega)]
  exact Ev.pos (by omega) (Ev.pos (by omega) (Ev.pos (by omega) (Ev.pos (by omega) h1)))

omit h hm hk in
theorem dgM_vec : dgM (2 * l.length) (2 * l.length) = ofFn (2 * l.length) (fun p q => vec l (2 * l.length) p 0 q) := by
 refine ofFn_congr (fun p q hp hq => ?_)
 show _ = if q = p then (1 : Int) else 0
 by_cases c : q = p
 ·rw [if_pos c, if_pos ⟨c.symm, hp⟩]
 ·rw [if_neg c, if_neg (fun z => c z.1.symm)]

theorem implWalkM : Ev (fun f => impl_Graph_walkMatrix.f f n l (k : Int)) (wmR l m k) := by
 obtain ⟨g1, g2, g3⟩ := graph_small h
 have hs := implSquare n (by omega) (by omega)
 rw [show n.toNat = m by omega] at hs
 unfold impl_Graph_walkMatrix.f impl_Graph_size.f
 refine Ev.bind hs ?_
 unfold wmR
 by_cases c : k = 0
 ·rw [if_pos c, dgM_zero, dgM_length]
  subst c
  exact Ev.pos rfl (implOne h m hm m 0 (by omega))
 ·rw [if_neg c]
  have hE := implEdgeM h
  rw [edgeM_ofFn] at hE
  have h2 := implSquare (2 * (l.length : Int)) (by omega) (by omega)
  rw [show (2 * (l.length : Int)).toNat = 2 * l.length by omega, dgM_zero] at h2
  have h3 := imAddAll h m hm (fun p q => vec l (2 * l.length) p (k - 1) q) (2 * l.length) 0 (by omega)
  rw [outM_zero] at h3
  have h4 := implPowers h k hk (by omega) _ _ h3 (k - 1) 0 (by omega)
  rw [← dgM_vec] at h4
  have h5 := implDiag h k hk (by omega) _ _ h4 (2 * l.length) 0 (by omega)
  refine Ev.neg (by omega) (Ev.bind hE (Ev.bind (Ev.now _) ?_))
  rw [wrap_id (x := 2 * (l.length : Int)) (by omega) (by omega)]
  refine Ev.bind h2 ?_
  rw [dgM_length]
  exact h5

end
theorem implCodeW (n : Int) (l : List (List Int)) (a : Int) (hl : Mod l) : Ev (fun k => impl_graphCode_at_WalkMatrix_1.f k n l a) (codeL n l a 0) := by
 have h1 := implIsGraph n l hl
 unfold impl_graphCode_at_WalkMatrix_1.f impl_WalkMatrix_1.f codeL
 rw [implWithin]
 by_cases hg : isGraph n l = true
 ·rw [hg] at h1
  rw [if_pos hg]
  by_cases c : 0 ≤ a ∧ a ≤ 12
  ·rw [decide_eq_true c, if_pos c]
   exact Ev.bind h1 (Ev.pos rfl (Ev.bind (Ev.now _) (Ev.pos rfl (Ev.now _))))
  ·rw [decide_eq_false c, if_neg c]
   exact Ev.bind h1 (Ev.pos rfl (Ev.bind (Ev.now _) (Ev.neg (by decide) (Ev.now _))))
 ·rw [Bool.not_eq_true] at hg
  rw [hg] at h1
  rw [if_neg (by rw [hg]; decide)]
  exact Ev.bind h1 (Ev.neg (by decide) (Ev.now _))

theorem wmR_mod (l : List (List Int)) (m k : Nat) (hm : m ≤ 8) : Mod (wmR l m k) := by
 have hx : ∀ f : Nat → Nat → Int, Mod (ofFn m f) := by
  intro f
  refine ⟨by rw [ofFn_length]; omega, fun r hr => ?_⟩
  simp only [ofFn, List.mem_map] at hr
  obtain ⟨p, _, rfl⟩ := hr
  rw [rowOf_length]
  omega
 unfold wmR
 split
 ·exact hx _
 ·exact hx _

theorem walkm_same (n : Int) (l : List (List Int)) (a : Int) (hl : Mod l) : ∃ r : List (List Int) × Int, Mod r.1 ∧ Ev (fun k => spec_WalkMatrix.f k n l a) r ∧ Ev (fun k => impl_WalkMatrix.f k n l a) r := by
 unfold spec_WalkMatrix.f impl_WalkMatrix.f
 have h1 := specLength n l a 0 hl
 have h2 := implCodeW n l a hl
 by_cases c : codeL n l a 0 = 0
 ·obtain ⟨hg, ha, hb⟩ := codeL_zero c
  obtain ⟨g1, g2, g3⟩ := graph_small hg
  obtain ⟨k, rfl⟩ := Int.eq_ofNat_of_zero_le ha
  obtain ⟨m, hm⟩ := Int.eq_ofNat_of_zero_le (show 0 ≤ n by omega)
  refine ⟨(wmR l m k, 0), wmR_mod l m k (by omega), ?_, ?_⟩
  ·exact Ev.bind h1 (Ev.pos c (specWalkM hg m hm k (by omega)))
  ·exact Ev.bind h2 (Ev.pos c (Ev.bind (implWalkM hg m hm k (by omega)) (Ev.now _)))
 ·exact ⟨([], codeL n l a 0), ⟨by simp, fun r hr => absurd hr (by simp)⟩, Ev.bind h1 (Ev.neg c (Ev.now _)), Ev.bind h2 (Ev.neg c (Ev.now _))⟩

theorem FnExactWalkMatrix : laws_FnExactWalkMatrix.Pure := by
 intro n l a _ hl hr _
 refine Ev.rounds ?_
 unfold laws_FnExactWalkMatrix.f
 refine Ev.ex (szGraph n l hl hr) (fun t ht => ?_)
 rcases ht with ht | ht
 ·repeat (first | with_reducible exact Ev.now _ | dsimp only | refine Ev.pos (by first | omega | rfl | assumption | decide) ?_ | refine Ev.neg (by first | omega | assumption | exact Bool.false_ne_true | exact fun e => absurd e (by decide)) ?_ | simp only [bne_self_eq_false, Bool.not_true, Bool.not_false, List.length_cons, List.length_nil] | rw [wrap_id (by omega) (by omega)] | ((with_reducible refine Ev.eq (congrArg some ?_)); rfl))
 by_cases h0 : t < 0
 ·repeat (first | with_reducible exact Ev.now _ | dsimp only | refine Ev.pos (by first | omega | rfl | assumption | decide) ?_ | refine Ev.neg (by first | omega | assumption | exact Bool.false_ne_true | exact fun e => absurd e (by decide)) ?_ | simp only [bne_self_eq_false, Bool.not_true, Bool.not_false, List.length_cons, List.length_nil] | rw [wrap_id (by omega) (by omega)] | ((with_reducible refine Ev.eq (congrArg some ?_)); rfl))
 obtain ⟨r, hr, hs, hi⟩ := walkm_same n l a ht
 obtain ⟨q, hq, hq0, hq1⟩ := markGraph n l ht
 repeat (first | with_reducible exact Ev.now _ | dsimp only | with_reducible refine Ev.bind (toGraph n l ht) ?_ | with_reducible refine Ev.bind (hs) ?_ | with_reducible refine Ev.bind (hi) ?_ | with_reducible refine Ev.bind (eqInt64SS_self r.1 hr) ?_ | with_reducible refine Ev.bind (eqGraph_self n l ht) ?_ | with_reducible refine Ev.bind (hq) ?_ | with_reducible refine Ev.bind (markRows r.1 hr) ?_ | with_reducible refine Ev.bind (heldRows r.1 hr) ?_ | refine Ev.pos (by first | omega | rfl | assumption | decide) ?_ | refine Ev.neg (by first | omega | assumption | exact Bool.false_ne_true | exact fun e => absurd e (by decide)) ?_ | simp only [bne_self_eq_false, Bool.not_true, Bool.not_false, List.length_cons, List.length_nil] | rw [wrap_id (by omega) (by omega)] | with_reducible exact (toGraph n l ht) | with_reducible exact (hs) | with_reducible exact (hi) | with_reducible exact (eqInt64SS_self r.1 hr) | with_reducible exact (eqGraph_self n l ht) | with_reducible exact (hq) | with_reducible exact (markRows r.1 hr) | with_reducible exact (heldRows r.1 hr) | ((with_reducible refine Ev.eq (congrArg some ?_)); rfl))
end Go.Proofs.Yteeoehohocoecaa.Pure
