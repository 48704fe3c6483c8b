/- The plain proofs for this law. -/
import Derived.Test.YteeoehohocoecaaC3
import Derived.Test.YteeoehohocoecaaAux
namespace Go.Proofs.Yteeoehohocoecaa.Pure
open Go.RowKit Go.Proofs.Yteeoehohocoecaa.G Go.Proofs.YteeoehohocoecaaW.PrintWords Go.Proofs.YteeoehohocoecaaW.PrintLast Go.Proofs.YteeoehohocoecaaW.PrintMore Go.Proofs.Yteeoehohocoecaa.Aux
set_option linter.unusedVariables false
set_option linter.unusedSimpArgs false

theorem toInt64S_loop (l : List Int) (hl : l.length ≤ 1048576) : ∀ (d i : Nat) (ys : List Int), i + d = l.length → ys.length = l.length → ys.take i = l.take i →
  Ev (fun k => laws_toInt64S.l0 k l ys (i : Int)) l := by
 intro d
 induction d with
 | zero =>
  intro i ys hi hy ht
  refine Ev.succ ?_; simp only [laws_toInt64S.l0]
  repeat (first | with_reducible exact Ev.now _ | dsimp only | refine Ev.pos (by first | omega | rfl | assumption | decide) ?_ | refine Ev.neg (by first | omega | assumption | exact Bool.false_ne_true | exact fun e => absurd e (by decide)) ?_ | simp only [bne_self_eq_false, Bool.not_true, Bool.not_false, List.length_cons, List.length_nil] | rw [wrap_id (by omega) (by omega)] | ((with_reducible refine Ev.eq (congrArg some ?_)); rfl))
  exact Ev.eq (congrArg some (eq_of_take hy (by omega) ht))
 | succ d ih =>
  intro i ys hi hy ht
  refine Ev.succ ?_; simp only [laws_toInt64S.l0]
  rw [wrap_succ (by omega)]
  repeat (first | with_reducible exact Ev.now _ | dsimp only | refine Ev.pos (by first | omega | rfl | assumption | decide) ?_ | refine Ev.neg (by first | omega | assumption | exact Bool.false_ne_true | exact fun e => absurd e (by decide)) ?_ | simp only [bne_self_eq_false, Bool.not_true, Bool.not_false, List.length_cons, List.length_nil] | rw [wrap_id (by omega) (by omega)] | ((with_reducible refine Ev.eq (congrArg some ?_)); rfl))
  exact ih (i + 1) _ (by omega) (by simpa using hy) (take_set_succ hy (by omega) (rd_lt (by omega)) ht)

theorem toInt64S (l : List Int) (hl : l.length ≤ 1048576) : Ev (fun k => laws_toInt64S.f k l) l := by
 unfold laws_toInt64S.f
 repeat (first | with_reducible exact Ev.now _ | dsimp only | refine Ev.pos (by first | omega | rfl | assumption | decide) ?_ | refine Ev.neg (by first | omega | assumption | exact Bool.false_ne_true | exact fun e => absurd e (by decide)) ?_ | simp only [bne_self_eq_false, Bool.not_true, Bool.not_false, List.length_cons, List.length_nil] | rw [wrap_id (by omega) (by omega)] | ((with_reducible refine Ev.eq (congrArg some ?_)); rfl))
 exact toInt64S_loop l hl l.length 0 _ (by omega) (by simp) (by simp)

theorem eqInt64S_loop (a b : List Int) (hl : a.length ≤ 1048576) (hab : a.length = b.length) : ∀ (d i : Nat), i + d = a.length →
  Ev (fun k => laws_eqInt64S.l0 k a b (i : Int)) (decide (a.drop i = b.drop i)) := by
 intro d
 induction d with
 | zero =>
  intro i hi
  refine Ev.succ ?_; simp only [laws_eqInt64S.l0]
  rw [List.drop_eq_nil_of_le (by omega), List.drop_eq_nil_of_le (by omega)]
  repeat (first | with_reducible exact Ev.now _ | dsimp only | refine Ev.pos (by first | omega | rfl | assumption | decide) ?_ | refine Ev.neg (by first | omega | assumption | exact Bool.false_ne_true | exact fun e => absurd e (by decide)) ?_ | simp only [bne_self_eq_false, Bool.not_true, Bool.not_false, List.length_cons, List.length_nil] | rw [wrap_id (by omega) (by omega)] | ((with_reducible refine Ev.eq (congrArg some ?_)); rfl))
 | succ d ih =>
  intro i hi
  refine Ev.succ ?_; simp only [laws_eqInt64S.l0]
  rw [List.drop_eq_getElem_cons (by omega : i < a.length), List.drop_eq_getElem_cons (by omega : i < b.length), wrap_succ (by omega)]
  by_cases e : rd a i = rd b i
  ·repeat (first | with_reducible exact Ev.now _ | dsimp only | refine Ev.pos (by first | omega | rfl | assumption | decide) ?_ | refine Ev.neg (by first | omega | assumption | exact Bool.false_ne_true | exact fun e => absurd e (by decide)) ?_ | simp only [bne_self_eq_false, Bool.not_true, Bool.not_false, List.length_cons, List.length_nil] | rw [wrap_id (by omega) (by omega)] | ((with_reducible refine Ev.eq (congrArg some ?_)); rfl))
   have := ih (i + 1) (by omega)
   rw [rd_lt (by omega), rd_lt (by omega)] at e
   rw [e, decide_cons]
   exact this
  ·rw [decide_eq_false (fun h => e (by rw [rd_lt (by omega), rd_lt (by omega)]; exact (List.cons.inj h).1))]
   repeat (first | with_reducible exact Ev.now _ | dsimp only | refine Ev.pos (by first | omega | rfl | assumption | decide) ?_ | refine Ev.neg (by first | omega | assumption | exact Bool.false_ne_true | exact fun e => absurd e (by decide)) ?_ | simp only [bne_self_eq_false, Bool.not_true, Bool.not_false, List.length_cons, List.length_nil] | rw [wrap_id (by omega) (by omega)] | ((with_reducible refine Ev.eq (congrArg some ?_)); rfl))

theorem eqInt64S (a b : List Int) (hl : a.length ≤ 1048576) : Ev (fun k => laws_eqInt64S.f k a b) (decide (a = b)) := by
 unfold laws_eqInt64S.f
 by_cases h : a.length = b.length
 ·repeat (first | with_reducible exact Ev.now _ | dsimp only | refine Ev.pos (by first | omega | rfl | assumption | decide) ?_ | refine Ev.neg (by first | omega | assumption | exact Bool.false_ne_true | exact fun e => absurd e (by decide)) ?_ | simp only [bne_self_eq_false, Bool.not_true, Bool.not_false, List.length_cons, List.length_nil] | rw [wrap_id (by omega) (by omega)] | ((with_reducible refine Ev.eq (congrArg some ?_)); rfl))
  exact eqInt64S_loop a b hl h a.length 0 (by omega)
 ·rw [decide_eq_false (fun e => h (by rw [e]))]
  repeat (first | with_reducible exact Ev.now _ | dsimp only | refine Ev.pos (by first | omega | rfl | assumption | decide) ?_ | refine Ev.neg (by first | omega | assumption | exact Bool.false_ne_true | exact fun e => absurd e (by decide)) ?_ | simp only [bne_self_eq_false, Bool.not_true, Bool.not_false, List.length_cons, List.length_nil] | rw [wrap_id (by omega) (by omega)] | ((with_reducible refine Ev.eq (congrArg some ?_)); rfl))

theorem eqInt64S_self (a : List Int) (hl : a.length ≤ 1048576) : Ev (fun k => laws_eqInt64S.f k a a) true :=
 Ev.conv (eqInt64S a a hl) (by simp)
theorem rl_lt {xs : List (List Int)} {i : Nat} (h : i < xs.length) : rd_L1 xs (i : Int) = xs[i] := by
 simp [rd_L1, List.getD_eq_getElem?_getD, h]

/-- Rows of which each, and their number, is of a moderate size. -/
def Mod (l : List (List Int)) : Prop := l.length ≤ 1048576 ∧ ∀ r ∈ l, r.length ≤ 1048576

theorem Mod.row {l : List (List Int)} (h : Mod l) {i : Nat} (hi : i < l.length) : l[i].length ≤ 1048576 := h.2 _ (List.getElem_mem hi)

theorem szInt64S (l : List Int) (a : Int) (h0 : 0 ≤ a) (h1 : a ≤ 1048576) (hl : l.length ≤ 9223372036854775807) : ∃ t, laws_szInt64S.f l a = some t ∧ (t < 0 ∨ (l.length ≤ 1048576 ∧ 0 ≤ t ∧ t ≤ a)) := by
 unfold laws_szInt64S.f
 rw [wrap_id (by omega) (by omega)]
 by_cases h : a - (l.length : Int) < 0
 ·exact ⟨-1, if_pos h, Or.inl (by omega)⟩
 ·exact ⟨_, if_neg h, Or.inr (by omega)⟩

theorem szInt64SS_loop (l : List (List Int)) (hl : l.length ≤ 1048576) (hr : ∀ r ∈ l, r.length ≤ 9223372036854775807) : ∀ (d i : Nat) (a : Int), i + d = l.length → 0 ≤ a → a ≤ 1048576 → (∀ j, (h : j < l.length) → j < i → l[j].length ≤ 1048576) →
  ∃ t, Ev (fun k => laws_szInt64SS.l0 k l a (i : Int)) t ∧ (t < 0 ∨ (Mod l ∧ 0 ≤ t ∧ t ≤ 1048576)) := by
 intro d
 induction d with
 | zero =>
  intro i a hi h0 h1 hm
  refine ⟨a, ?_, Or.inr ⟨⟨hl, fun r h => ?_⟩, h0, h1⟩⟩
  ·refine Ev.succ ?_; simp only [laws_szInt64SS.l0]
   repeat (first | with_reducible exact Ev.now _ | dsimp only | refine Ev.pos (by first | omega | rfl | assumption | decide) ?_ | refine Ev.neg (by first | omega | assumption | exact Bool.false_ne_true | exact fun e => absurd e (by decide)) ?_ | simp only [bne_self_eq_false, Bool.not_true, Bool.not_false, List.length_cons, List.length_nil] | rw [wrap_id (by omega) (by omega)] | ((with_reducible refine Ev.eq (congrArg some ?_)); rfl))
  ·obtain ⟨j, hj, rfl⟩ := List.getElem_of_mem h
   exact hm j hj (by omega)
 | succ d ih =>
  intro i a hi h0 h1 hm
  obtain ⟨t, ht, hc⟩ := szInt64S (l[i]'(by omega)) a h0 h1 (hr _ (List.getElem_mem _))
  rw [← rl_lt (by omega)] at ht
  rcases hc with hc | ⟨hc, hc0, hc1⟩
  ·refine ⟨-1, ?_, Or.inl (by omega)⟩
   refine Ev.succ ?_; simp only [laws_szInt64SS.l0]
   repeat (first | with_reducible exact Ev.now _ | dsimp only | with_reducible refine Ev.bind (Ev.eq ht) ?_ | refine Ev.pos (by first | omega | rfl | assumption | decide) ?_ | refine Ev.neg (by first | omega | assumption | exact Bool.false_ne_true | exact fun e => absurd e (by decide)) ?_ | simp only [bne_self_eq_false, Bool.not_true, Bool.not_false, List.length_cons, List.length_nil] | rw [wrap_id (by omega) (by omega)] | with_reducible exact (Ev.eq ht) | ((with_reducible refine Ev.eq (congrArg some ?_)); rfl))
  ·obtain ⟨t', h1', h2'⟩ := ih (i + 1) t (by omega) hc0 (by omega) (fun j hj hji => by
    by_cases e : j = i
    ·subst e; exact hc
    ·exact hm j hj (by omega))
   refine ⟨t', ?_, h2'⟩
   refine Ev.succ ?_; simp only [laws_szInt64SS.l0]
   rw [wrap_succ (by omega)]
   repeat (first | with_reducible exact Ev.now _ | dsimp only | with_reducible refine Ev.bind (Ev.eq ht) ?_ | refine Ev.pos (by first | omega | rfl | assumption | decide) ?_ | refine Ev.neg (by first | omega | assumption | exact Bool.false_ne_true | exact fun e => absurd e (by decide)) ?_ | simp only [bne_self_eq_false, Bool.not_true, Bool.not_false, List.length_cons, List.length_nil] | rw [wrap_id (by omega) (by omega)] | with_reducible exact (Ev.eq ht) | ((with_reducible refine Ev.eq (congrArg some ?_)); rfl))
   exact h1'

theorem szInt64SS (l : List (List Int)) (a : Int) (h0 : 0 ≤ a) (h1 : a ≤ 1048576) (hl : l.length ≤ 9223372036854775807) (hr : ∀ r ∈ l, r.length ≤ 9223372036854775807) : ∃ t, Ev (fun k => laws_szInt64SS.f k l a) t ∧ (t < 0 ∨ (Mod l ∧ 0 ≤ t ∧ t ≤ 1048576)) := by
 unfold laws_szInt64SS.f
 rw [wrap_id (by omega) (by omega)]
 by_cases h : a - (l.length : Int) < 0
 ·refine ⟨-1, ?_, Or.inl (by omega)⟩
  repeat (first | with_reducible exact Ev.now _ | dsimp only | refine Ev.pos (by first | omega | rfl | assumption | decide) ?_ | refine Ev.neg (by first | omega | assumption | exact Bool.false_ne_true | exact fun e => absurd e (by decide)) ?_ | simp only [bne_self_eq_false, Bool.not_true, Bool.not_false, List.length_cons, List.length_nil] | rw [wrap_id (by omega) (by omega)] | ((with_reducible refine Ev.eq (congrArg some ?_)); rfl))
 ·obtain ⟨t, h1, h2⟩ := szInt64SS_loop l (by omega) hr l.length 0 (a - (l.length : Int)) (by omega) (by omega) (by omega) (fun j _ hj => by omega)
  refine ⟨t, ?_, h2⟩
  repeat (first | with_reducible exact Ev.now _ | dsimp only | refine Ev.pos (by first | omega | rfl | assumption | decide) ?_ | refine Ev.neg (by first | omega | assumption | exact Bool.false_ne_true | exact fun e => absurd e (by decide)) ?_ | simp only [bne_self_eq_false, Bool.not_true, Bool.not_false, List.length_cons, List.length_nil] | rw [wrap_id (by omega) (by omega)] | ((with_reducible refine Ev.eq (congrArg some ?_)); rfl))
  exact h1

theorem szGraph (n : Int) (l : List (List Int)) (hl : l.length ≤ maxLen) (hr : ∀ r ∈ l, r.length ≤ maxLen ∧ ∀ y ∈ r, (Lit.int .i64 y).wf = true) : ∃ t, Ev (fun k => laws_szGraph.f k n l 1048576) t ∧ (t < 0 ∨ Mod l) := by
 obtain ⟨t, h1, h2⟩ := szInt64SS l 1048576 (by omega) (by omega) (by simp [maxLen] at hl; omega) (fun r h => by have := (hr r h).1; simp [maxLen] at this; omega)
 unfold laws_szGraph.f
 rcases h2 with h2 | ⟨h2, h3, h4⟩
 ·refine ⟨-1, ?_, Or.inl (by omega)⟩
  repeat (first | with_reducible exact Ev.now _ | dsimp only | with_reducible refine Ev.bind (h1) ?_ | refine Ev.pos (by first | omega | rfl | assumption | decide) ?_ | refine Ev.neg (by first | omega | assumption | exact Bool.false_ne_true | exact fun e => absurd e (by decide)) ?_ | simp only [bne_self_eq_false, Bool.not_true, Bool.not_false, List.length_cons, List.length_nil] | rw [wrap_id (by omega) (by omega)] | with_reducible exact (h1) | ((with_reducible refine Ev.eq (congrArg some ?_)); rfl))
 ·refine ⟨t, ?_, Or.inr h2⟩
  repeat (first | with_reducible exact Ev.now _ | dsimp only | with_reducible refine Ev.bind (h1) ?_ | refine Ev.pos (by first | omega | rfl | assumption | decide) ?_ | refine Ev.neg (by first | omega | assumption | exact Bool.false_ne_true | exact fun e => absurd e (by decide)) ?_ | simp only [bne_self_eq_false, Bool.not_true, Bool.not_false, List.length_cons, List.length_nil] | rw [wrap_id (by omega) (by omega)] | with_reducible exact (h1) | ((with_reducible refine Ev.eq (congrArg some ?_)); rfl))

theorem toInt64SS_loop (l : List (List Int)) (hl : Mod l) : ∀ (d i : Nat) (ys : List (List Int)), i + d = l.length → ys.length = l.length → ys.take i = l.take i →
  Ev (fun k => laws_toInt64SS.l0 k l ys (i : Int)) l := by
 have hl1 := hl.1
 intro d
 induction d with
 | zero =>
  intro i ys hi hy ht
  refine Ev.succ ?_; simp only [laws_toInt64SS.l0]
  repeat (first | with_reducible exact Ev.now _ | dsimp only | refine Ev.pos (by first | omega | rfl | assumption | decide) ?_ | refine Ev.neg (by first | omega | assumption | exact Bool.false_ne_true | exact fun e => absurd e (by decide)) ?_ | simp only [bne_self_eq_false, Bool.not_true, Bool.not_false, List.length_cons, List.length_nil] | rw [wrap_id (by omega) (by omega)] | ((with_reducible refine Ev.eq (congrArg some ?_)); rfl))
  exact Ev.eq (congrArg some (eq_of_take hy (by omega) ht))
 | succ d ih =>
  intro i ys hi hy ht
  refine Ev.succ ?_; simp only [laws_toInt64SS.l0]
  rw [wrap_succ (by omega), rl_lt (by omega)]
  repeat (first | with_reducible exact Ev.now _ | dsimp only | with_reducible refine Ev.bind (toInt64S _ (hl.row (by omega))) ?_ | refine Ev.pos (by first | omega | rfl | assumption | decide) ?_ | refine Ev.neg (by first | omega | assumption | exact Bool.false_ne_true | exact fun e => absurd e (by decide)) ?_ | simp only [bne_self_eq_false, Bool.not_true, Bool.not_false, List.length_cons, List.length_nil] | rw [wrap_id (by omega) (by omega)] | with_reducible exact (toInt64S _ (hl.row (by omega))) | ((with_reducible refine Ev.eq (congrArg some ?_)); rfl))
  exact ih (i + 1) _ (by omega) (by simpa using hy) (take_set_succ hy (by omega) rfl ht)

theorem toInt64SS (l : List (List Int)) (hl : Mod l) : Ev (fun k => laws_toInt64SS.f k l) l := by
 have hl1 := hl.1
 unfold laws_toInt64SS.f
 repeat (first | with_reducible exact Ev.now _ | dsimp only | refine Ev.pos (by first | omega | rfl | assumption | decide) ?_ | refine Ev.neg (by first | omega | assumption | exact Bool.false_ne_true | exact fun e => absurd e (by decide)) ?_ | simp only [bne_self_eq_false, Bool.not_true, Bool.not_false, List.length_cons, List.length_nil] | rw [wrap_id (by omega) (by omega)] | ((with_reducible refine Ev.eq (congrArg some ?_)); rfl))
 exact toInt64SS_loop l hl l.length 0 _ (by omega) (by simp) (by simp)

theorem toGraph (n : Int) (l : List (List Int)) (hl : Mod l) : Ev (fun k => laws_toGraph.f k n l) (n, l) := by
 unfold laws_toGraph.f
 repeat (first | with_reducible exact Ev.now _ | dsimp only | with_reducible refine Ev.bind (toInt64SS l hl) ?_ | refine Ev.pos (by first | omega | rfl | assumption | decide) ?_ | refine Ev.neg (by first | omega | assumption | exact Bool.false_ne_true | exact fun e => absurd e (by decide)) ?_ | simp only [bne_self_eq_false, Bool.not_true, Bool.not_false, List.length_cons, List.length_nil] | rw [wrap_id (by omega) (by omega)] | with_reducible exact (toInt64SS l hl) | ((with_reducible refine Ev.eq (congrArg some ?_)); rfl))

theorem eqInt64SS_self_loop (a : List (List Int)) (hl : Mod a) : ∀ (d i : Nat), i + d = a.length →
  Ev (fun k => laws_eqInt64SS.l0 k a a (i : Int)) true := by
 have hl1 := hl.1
 intro d
 induction d with
 | zero =>
  intro i hi
  refine Ev.succ ?_; simp only [laws_eqInt64SS.l0]
  repeat (first | with_reducible exact Ev.now _ | dsimp only | refine Ev.pos (by first | omega | rfl | assumption | decide) ?_ | refine Ev.neg (by first | omega | assumption | exact Bool.false_ne_true | exact fun e => absurd e (by decide)) ?_ | simp only [bne_self_eq_false, Bool.not_true, Bool.not_false, List.length_cons, List.length_nil] | rw [wrap_id (by omega) (by omega)] | ((with_reducible refine Ev.eq (congrArg some ?_)); rfl))
 | succ d ih =>
  intro i hi
  refine Ev.succ ?_; simp only [laws_eqInt64SS.l0]
  rw [rl_lt (by omega), wrap_succ (by omega)]
  repeat (first | with_reducible exact Ev.now _ | dsimp only | with_reducible refine Ev.bind (eqInt64S_self _ (hl.row (by omega))) ?_ | refine Ev.pos (by first | omega | rfl | assumption | decide) ?_ | refine Ev.neg (by first | omega | assumption | exact Bool.false_ne_true | exact fun e => absurd e (by decide)) ?_ | simp only [bne_self_eq_false, Bool.not_true, Bool.not_false, List.length_cons, List.length_nil] | rw [wrap_id (by omega) (by omega)] | with_reducible exact (eqInt64S_self _ (hl.row (by omega))) | ((with_reducible refine Ev.eq (congrArg some ?_)); rfl))
  exact ih (i + 1) (by omega)

theorem eqInt64SS_self (a : List (List Int)) (hl : Mod a) : Ev (fun k => laws_eqInt64SS.f k a a) true := by
 unfold laws_eqInt64SS.f
 repeat (first | with_reducible exact Ev.now _ | dsimp only | refine Ev.pos (by first | omega | rfl | assumption | decide) ?_ | refine Ev.neg (by first | omega | assumption | exact Bool.false_ne_true | exact fun e => absurd e (by decide)) ?_ | simp only [bne_self_eq_false, Bool.not_true, Bool.not_false, List.length_cons, List.length_nil] | rw [wrap_id (by omega) (by omega)] | ((with_reducible refine Ev.eq (congrArg some ?_)); rfl))
 exact eqInt64SS_self_loop a hl a.length 0 (by omega)

theorem eqGraph_self (n : Int) (a : List (List Int)) (hl : Mod a) : Ev (fun k => laws_eqGraph.f k n a n a) true := by
 unfold laws_eqGraph.f
 repeat (first | with_reducible exact Ev.now _ | dsimp only | with_reducible refine Ev.bind (eqInt64SS_self a hl) ?_ | refine Ev.pos (by first | omega | rfl | assumption | decide) ?_ | refine Ev.neg (by first | omega | assumption | exact Bool.false_ne_true | exact fun e => absurd e (by decide)) ?_ | simp only [bne_self_eq_false, Bool.not_true, Bool.not_false, List.length_cons, List.length_nil] | rw [wrap_id (by omega) (by omega)] | with_reducible exact (eqInt64SS_self a hl) | ((with_reducible refine Ev.eq (congrArg some ?_)); rfl))
theorem specIn (a b c : Int) : spec_l01In.f a b c = some (decide (b ≤ a ∧ a ≤ c)) := by
 unfold spec_l01In.f
 by_cases h : b ≤ a
 ·rw [if_pos h]; simp [h]
 ·rw [if_neg h]; simp [h]

theorem implWithin (a b c : Int) : impl_within.f a b c = some (decide (b ≤ a ∧ a ≤ c)) := by
 unfold impl_within.f
 by_cases h : b ≤ a
 ·rw [if_pos h]; simp [h]
 ·rw [if_neg h]; simp [h]

/-- One edge's test. -/
def okEdge (n : Int) (e : List Int) : Bool := decide (e.length = 2) && (decide (0 ≤ rd e 0 ∧ rd e 0 ≤ wrap64 (n - 1)) && decide (0 ≤ rd e 1 ∧ rd e 1 ≤ wrap64 (n - 1)))

def isGraph (n : Int) (l : List (List Int)) : Bool := l.all (okEdge n) && (decide (1 ≤ n ∧ n ≤ 8) && decide ((l.length : Int) ≤ 10))

theorem specIs_loop (n : Int) (l : List (List Int)) (hl : Mod l) : ∀ (d i : Nat), i + d = l.length →
  Ev (fun k => spec_l01Is.l0 k (i : Int) n l) ((l.drop i).all (okEdge n)) := by
 have hl1 := hl.1
 intro d
 induction d with
 | zero =>
  intro i hi
  refine Ev.succ ?_; simp only [spec_l01Is.l0]
  rw [List.drop_eq_nil_of_le (by omega)]
  repeat (first | with_reducible exact Ev.now _ | dsimp only | refine Ev.pos (by first | omega | rfl | assumption | decide) ?_ | refine Ev.neg (by first | omega | assumption | exact Bool.false_ne_true | exact fun e => absurd e (by decide)) ?_ | simp only [bne_self_eq_false, Bool.not_true, Bool.not_false, List.length_cons, List.length_nil] | rw [wrap_id (by omega) (by omega)] | ((with_reducible refine Ev.eq (congrArg some ?_)); rfl))
 | succ d ih =>
  intro i hi
  refine Ev.succ ?_; simp only [spec_l01Is.l0]
  rw [List.drop_eq_getElem_cons (by omega : i < l.length), List.all_cons, rl_lt (by omega), wrap_succ (by omega)]
  generalize l[i] = e
  have := ih (i + 1) (by omega)
  unfold okEdge
  by_cases h2 : (e.length : Int) = 2
  ·rw [decide_eq_true (show e.length = 2 by omega), Bool.true_and]
   by_cases ha : 0 ≤ rd e 0 ∧ rd e 0 ≤ wrap64 (n - 1)
   ·by_cases hb : 0 ≤ rd e 1 ∧ rd e 1 ≤ wrap64 (n - 1)
    ·rw [decide_eq_true ha, decide_eq_true hb, Bool.true_and, Bool.true_and]
     repeat (first | with_reducible exact Ev.now _ | dsimp only | with_reducible refine Ev.bind (Ev.eq ((specIn _ _ _).trans (congrArg some (decide_eq_true ha)))) ?_ | with_reducible refine Ev.bind (Ev.eq ((specIn _ _ _).trans (congrArg some (decide_eq_true hb)))) ?_ | refine Ev.pos (by first | omega | rfl | assumption | decide) ?_ | refine Ev.neg (by first | omega | assumption | exact Bool.false_ne_true | exact fun e => absurd e (by decide)) ?_ | simp only [bne_self_eq_false, Bool.not_true, Bool.not_false, List.length_cons, List.length_nil] | rw [wrap_id (by omega) (by omega)] | with_reducible exact (Ev.eq ((specIn _ _ _).trans (congrArg some (decide_eq_true ha)))) | with_reducible exact (Ev.eq ((specIn _ _ _).trans (congrArg some (decide_eq_true hb)))) | ((with_reducible refine Ev.eq (congrArg some ?_)); rfl))
     exact this
    ·rw [decide_eq_false hb, Bool.and_false, Bool.false_and]
     repeat (first | with_reducible exact Ev.now _ | dsimp only | with_reducible refine Ev.bind (Ev.eq ((specIn _ _ _).trans (congrArg some (decide_eq_true ha)))) ?_ | with_reducible refine Ev.bind (Ev.eq ((specIn _ _ _).trans (congrArg some (decide_eq_false hb)))) ?_ | refine Ev.pos (by first | omega | rfl | assumption | decide) ?_ | refine Ev.neg (by first | omega | assumption | exact Bool.false_ne_true | exact fun e => absurd e (by decide)) ?_ | simp only [bne_self_eq_false, Bool.not_true, Bool.not_false, List.length_cons, List.length_nil] | rw [wrap_id (by omega) (by omega)] | with_reducible exact (Ev.eq ((specIn _ _ _).trans (congrArg some (decide_eq_true ha)))) | with_reducible exact (Ev.eq ((specIn _ _ _).trans (congrArg some (decide_eq_false hb)))) | ((with_reducible refine Ev.eq (congrArg some ?_)); rfl))
   ·rw [decide_eq_false ha, Bool.false_and, Bool.false_and]
    repeat (first | with_reducible exact Ev.now _ | dsimp only | with_reducible refine Ev.bind (Ev.eq ((specIn _ _ _).trans (congrArg some (decide_eq_false ha)))) ?_ | refine Ev.pos (by first | omega | rfl | assumption | decide) ?_ | refine Ev.neg (by first | omega | assumption | exact Bool.false_ne_true | exact fun e => absurd e (by decide)) ?_ | simp only [bne_self_eq_false, Bool.not_true, Bool.not_false, List.length_cons, List.length_nil] | rw [wrap_id (by omega) (by omega)] | with_reducible exact (Ev.eq ((specIn _ _ _).trans (congrArg some (decide_eq_false ha)))) | ((with_reducible refine Ev.eq (congrArg some ?_)); rfl))
  ·rw [decide_eq_false (show ¬ e.length = 2 by omega), Bool.false_and, Bool.false_and]
   repeat (first | with_reducible exact Ev.now _ | dsimp only | refine Ev.pos (by first | omega | rfl | assumption | decide) ?_ | refine Ev.neg (by first | omega | assumption | exact Bool.false_ne_true | exact fun e => absurd e (by decide)) ?_ | simp only [bne_self_eq_false, Bool.not_true, Bool.not_false, List.length_cons, List.length_nil] | rw [wrap_id (by omega) (by omega)] | ((with_reducible refine Ev.eq (congrArg some ?_)); rfl))

theorem specIs (n : Int) (l : List (List Int)) (hl : Mod l) : Ev (fun k => spec_l01Is.f k n l) (isGraph n l) := by
 unfold spec_l01Is.f isGraph
 by_cases h1 : 1 ≤ n ∧ n ≤ 8
 ·rw [decide_eq_true h1, Bool.true_and]
  repeat (first | with_reducible exact Ev.now _ | dsimp only | with_reducible refine Ev.bind (Ev.eq ((specIn n 1 8).trans (congrArg some (decide_eq_true h1)))) ?_ | refine Ev.pos (by first | omega | rfl | assumption | decide) ?_ | refine Ev.neg (by first | omega | assumption | exact Bool.false_ne_true | exact fun e => absurd e (by decide)) ?_ | simp only [bne_self_eq_false, Bool.not_true, Bool.not_false, List.length_cons, List.length_nil] | rw [wrap_id (by omega) (by omega)] | with_reducible exact (Ev.eq ((specIn n 1 8).trans (congrArg some (decide_eq_true h1)))) | ((with_reducible refine Ev.eq (congrArg some ?_)); rfl))
  refine Ev.succ ?_
  simp only [spec_l01Is.j0]
  by_cases h2 : (l.length : Int) ≤ 10
  ·rw [decide_eq_true h2, decide_eq_false (show ¬ (l.length : Int) > 10 by omega), Bool.and_true]
   repeat (first | with_reducible exact Ev.now _ | dsimp only | refine Ev.pos (by first | omega | rfl | assumption | decide) ?_ | refine Ev.neg (by first | omega | assumption | exact Bool.false_ne_true | exact fun e => absurd e (by decide)) ?_ | simp only [bne_self_eq_false, Bool.not_true, Bool.not_false, List.length_cons, List.length_nil] | rw [wrap_id (by omega) (by omega)] | ((with_reducible refine Ev.eq (congrArg some ?_)); rfl))
   exact specIs_loop n l hl l.length 0 (by omega)
  ·rw [decide_eq_false h2, decide_eq_true (show (l.length : Int) > 10 by omega), Bool.and_false]
   repeat (first | with_reducible exact Ev.now _ | dsimp only | refine Ev.pos (by first | omega | rfl | assumption | decide) ?_ | refine Ev.neg (by first | omega | assumption | exact Bool.false_ne_true | exact fun e => absurd e (by decide)) ?_ | simp only [bne_self_eq_false, Bool.not_true, Bool.not_false, List.length_cons, List.length_nil] | rw [wrap_id (by omega) (by omega)] | ((with_reducible refine Ev.eq (congrArg some ?_)); rfl))
 ·rw [decide_eq_false h1, Bool.false_and, Bool.and_false]
  repeat (first | with_reducible exact Ev.now _ | dsimp only | with_reducible refine Ev.bind (Ev.eq ((specIn n 1 8).trans (congrArg some (decide_eq_false h1)))) ?_ | refine Ev.pos (by first | omega | rfl | assumption | decide) ?_ | refine Ev.neg (by first | omega | assumption | exact Bool.false_ne_true | exact fun e => absurd e (by decide)) ?_ | simp only [bne_self_eq_false, Bool.not_true, Bool.not_false, List.length_cons, List.length_nil] | rw [wrap_id (by omega) (by omega)] | with_reducible exact (Ev.eq ((specIn n 1 8).trans (congrArg some (decide_eq_false h1)))) | ((with_reducible refine Ev.eq (congrArg some ?_)); rfl))
  refine Ev.succ ?_
  simp only [spec_l01Is.j0]
  repeat (first | with_reducible exact Ev.now _ | dsimp only | refine Ev.pos (by first | omega | rfl | assumption | decide) ?_ | refine Ev.neg (by first | omega | assumption | exact Bool.false_ne_true | exact fun e => absurd e (by decide)) ?_ | simp only [bne_self_eq_false, Bool.not_true, Bool.not_false, List.length_cons, List.length_nil] | rw [wrap_id (by omega) (by omega)] | ((with_reducible refine Ev.eq (congrArg some ?_)); rfl))

theorem implIs_loop (n : Int) (l : List (List Int)) (hl : Mod l) : ∀ (d i : Nat), i + d = l.length →
  Ev (fun k => impl_IsGraph.l0 k l (l.length : Int) (i : Int) n l) ((l.drop i).all (okEdge n) && (decide (1 ≤ n ∧ n ≤ 8) && decide ((l.length : Int) ≤ 10))) := by
 have hl1 := hl.1
 intro d
 induction d with
 | zero =>
  intro i hi
  refine Ev.succ ?_; simp only [impl_IsGraph.l0]
  rw [List.drop_eq_nil_of_le (by omega), List.all_nil, Bool.true_and]
  by_cases h1 : 1 ≤ n ∧ n ≤ 8
  ·rw [decide_eq_true h1, Bool.true_and]
   repeat (first | with_reducible exact Ev.now _ | dsimp only | with_reducible refine Ev.bind (Ev.eq ((implWithin n 1 8).trans (congrArg some (decide_eq_true h1)))) ?_ | refine Ev.pos (by first | omega | rfl | assumption | decide) ?_ | refine Ev.neg (by first | omega | assumption | exact Bool.false_ne_true | exact fun e => absurd e (by decide)) ?_ | simp only [bne_self_eq_false, Bool.not_true, Bool.not_false, List.length_cons, List.length_nil] | rw [wrap_id (by omega) (by omega)] | with_reducible exact (Ev.eq ((implWithin n 1 8).trans (congrArg some (decide_eq_true h1)))) | ((with_reducible refine Ev.eq (congrArg some ?_)); rfl))
  ·rw [decide_eq_false h1, Bool.false_and]
   repeat (first | with_reducible exact Ev.now _ | dsimp only | with_reducible refine Ev.bind (Ev.eq ((implWithin n 1 8).trans (congrArg some (decide_eq_false h1)))) ?_ | refine Ev.pos (by first | omega | rfl | assumption | decide) ?_ | refine Ev.neg (by first | omega | assumption | exact Bool.false_ne_true | exact fun e => absurd e (by decide)) ?_ | simp only [bne_self_eq_false, Bool.not_true, Bool.not_false, List.length_cons, List.length_nil] | rw [wrap_id (by omega) (by omega)] | with_reducible exact (Ev.eq ((implWithin n 1 8).trans (congrArg some (decide_eq_false h1)))) | ((with_reducible refine Ev.eq (congrArg some ?_)); rfl))
 | succ d ih =>
  intro i hi
  refine Ev.succ ?_; simp only [impl_IsGraph.l0]
  rw [List.drop_eq_getElem_cons (by omega : i < l.length), List.all_cons, rl_lt (by omega), wrap_succ (by omega)]
  generalize l[i] = e
  have := ih (i + 1) (by omega)
  unfold okEdge at this ⊢
  by_cases h2 : (e.length : Int) = 2
  ·rw [decide_eq_true (show e.length = 2 by omega), Bool.true_and]
   by_cases ha : 0 ≤ rd e 0 ∧ rd e 0 ≤ wrap64 (n - 1)
   ·by_cases hb : 0 ≤ rd e 1 ∧ rd e 1 ≤ wrap64 (n - 1)
    ·rw [decide_eq_true ha, decide_eq_true hb, Bool.true_and, Bool.true_and]
     repeat (first | with_reducible exact Ev.now _ | dsimp only | with_reducible refine Ev.bind (Ev.eq ((implWithin _ _ _).trans (congrArg some (decide_eq_true ha)))) ?_ | with_reducible refine Ev.bind (Ev.eq ((implWithin _ _ _).trans (congrArg some (decide_eq_true hb)))) ?_ | refine Ev.pos (by first | omega | rfl | assumption | decide) ?_ | refine Ev.neg (by first | omega | assumption | exact Bool.false_ne_true | exact fun e => absurd e (by decide)) ?_ | simp only [bne_self_eq_false, Bool.not_true, Bool.not_false, List.length_cons, List.length_nil] | rw [wrap_id (by omega) (by omega)] | with_reducible exact (Ev.eq ((implWithin _ _ _).trans (congrArg some (decide_eq_true ha)))) | with_reducible exact (Ev.eq ((implWithin _ _ _).trans (congrArg some (decide_eq_true hb)))) | ((with_reducible refine Ev.eq (congrArg some ?_)); rfl))
     exact this
    ·rw [decide_eq_false hb, Bool.and_false, Bool.false_and, Bool.false_and]
     repeat (first | with_reducible exact Ev.now _ | dsimp only | with_reducible refine Ev.bind (Ev.eq ((implWithin _ _ _).trans (congrArg some (decide_eq_true ha)))) ?_ | with_reducible refine Ev.bind (Ev.eq ((implWithin _ _ _).trans (congrArg some (decide_eq_false hb)))) ?_ | refine Ev.pos (by first | omega | rfl | assumption | decide) ?_ | refine Ev.neg (by first | omega | assumption | exact Bool.false_ne_true | exact fun e => absurd e (by decide)) ?_ | simp only [bne_self_eq_false, Bool.not_true, Bool.not_false, List.length_cons, List.length_nil] | rw [wrap_id (by omega) (by omega)] | with_reducible exact (Ev.eq ((implWithin _ _ _).trans (congrArg some (decide_eq_true ha)))) | with_reducible exact (Ev.eq ((implWithin _ _ _).trans (congrArg some (decide_eq_false hb)))) | ((with_reducible refine Ev.eq (congrArg some ?_)); rfl))
   ·rw [decide_eq_false ha, Bool.false_and, Bool.false_and, Bool.false_and]
    repeat (first | with_reducible exact Ev.now _ | dsimp only | with_reducible refine Ev.bind (Ev.eq ((implWithin _ _ _).trans (congrArg some (decide_eq_false ha)))) ?_ | refine Ev.pos (by first | omega | rfl | assumption | decide) ?_ | refine Ev.neg (by first | omega | assumption | exact Bool.false_ne_true | exact fun e => absurd e (by decide)) ?_ | simp only [bne_self_eq_false, Bool.not_true, Bool.not_false, List.length_cons, List.length_nil] | rw [wrap_id (by omega) (by omega)] | with_reducible exact (Ev.eq ((implWithin _ _ _).trans (congrArg some (decide_eq_false ha)))) | ((with_reducible refine Ev.eq (congrArg some ?_)); rfl))
  ·rw [decide_eq_false (show ¬ e.length = 2 by omega), Bool.false_and, Bool.false_and, Bool.false_and]
   repeat (first | with_reducible exact Ev.now _ | dsimp only | refine Ev.pos (by first | omega | rfl | assumption | decide) ?_ | refine Ev.neg (by first | omega | assumption | exact Bool.false_ne_true | exact fun e => absurd e (by decide)) ?_ | simp only [bne_self_eq_false, Bool.not_true, Bool.not_false, List.length_cons, List.length_nil] | rw [wrap_id (by omega) (by omega)] | ((with_reducible refine Ev.eq (congrArg some ?_)); rfl))

theorem implIsGraph (n : Int) (l : List (List Int)) (hl : Mod l) : Ev (fun k => impl_IsGraph.f k n l) (isGraph n l) := by
 unfold impl_IsGraph.f
 exact implIs_loop n l hl l.length 0 (by omega)

theorem len_two {α : Type} {e : List α} (h : e.length = 2) : ∃ a b, e = [a, b] := by
 match e, h with
 | [a, b], _ => exact ⟨a, b, rfl⟩

theorem isGraph_iff (n : Int) (l : List (List Int)) : isGraph n l = true ↔ 1 ≤ n ∧ n ≤ 8 ∧ l.length ≤ 10 ∧ ∀ e ∈ l, ∃ a b : Int, e = [a, b] ∧ 0 ≤ a ∧ a < n ∧ 0 ≤ b ∧ b < n := by
 unfold isGraph
 rw [Bool.and_eq_true, Bool.and_eq_true, decide_eq_true_iff, decide_eq_true_iff, List.all_eq_true]
 constructor
 ·rintro ⟨h, ⟨h1, h2⟩, h3⟩
  refine ⟨h1, h2, by omega, fun e he => ?_⟩
  have := h e he
  unfold okEdge at this
  rw [Bool.and_eq_true, Bool.and_eq_true, decide_eq_true_iff, decide_eq_true_iff, decide_eq_true_iff, wrap_id (by omega) (by omega)] at this
  obtain ⟨he2, ha, hb⟩ := this
  obtain ⟨a, b, rfl⟩ := len_two he2
  simp only [show rd [a, b] 0 = a from rfl, show rd [a, b] 1 = b from rfl] at ha hb
  exact ⟨a, b, rfl, by omega, by omega, by omega, by omega⟩
 ·rintro ⟨h1, h2, h3, h⟩
  refine ⟨fun e he => ?_, ⟨h1, h2⟩, by omega⟩
  obtain ⟨a, b, rfl, h4, h5, h6, h7⟩ := h e he
  unfold okEdge
  rw [Bool.and_eq_true, Bool.and_eq_true, decide_eq_true_iff, decide_eq_true_iff, decide_eq_true_iff, wrap_id (by omega) (by omega)]
  simp only [show rd [a, b] 0 = a from rfl, show rd [a, b] 1 = b from rfl]
  exact ⟨rfl, by omega, by omega⟩
theorem graph_edge {n : Int} {l : List (List Int)} (h : isGraph n l = true) {i : Nat} (hi : i < l.length) :
  (rd_L1 l (i : Int)).length = 2 ∧ ∃ a b : Nat, rd (rd_L1 l (i : Int)) 0 = a ∧ rd (rd_L1 l (i : Int)) 1 = b ∧ (a : Int) < n ∧ (b : Int) < n := by
 rw [rl_lt hi]
 obtain ⟨h1, h2, h3, h4⟩ := (isGraph_iff n l).1 h
 obtain ⟨a, b, e, ha, ha', hb, hb'⟩ := h4 _ (List.getElem_mem hi)
 rw [e]
 refine ⟨rfl, a.toNat, b.toNat, ?_, ?_, by omega, by omega⟩
 ·show a = _
  omega
 ·show b = _
  omega

theorem graph_small {n : Int} {l : List (List Int)} (h : isGraph n l = true) : 1 ≤ n ∧ n ≤ 8 ∧ l.length ≤ 10 := by
 obtain ⟨h1, h2, h3, h4⟩ := (isGraph_iff n l).1 h
 exact ⟨h1, h2, h3⟩
/-- The directed edge's start, its end, and its reverse. -/
def tl (l : List (List Int)) (p : Nat) : Int := if p % 2 = 1 then rd (rd_L1 l ((p / 2 : Nat) : Int)) 1 else rd (rd_L1 l ((p / 2 : Nat) : Int)) 0
def hd (l : List (List Int)) (p : Nat) : Int := if p % 2 = 1 then rd (rd_L1 l ((p / 2 : Nat) : Int)) 0 else rd (rd_L1 l ((p / 2 : Nat) : Int)) 1
def inv (p : Nat) : Nat := if p % 2 = 0 then p + 1 else p - 1
def next (l : List (List Int)) (p q : Nat) : Bool := decide (hd l p = tl l q) && decide (q ≠ inv p)

theorem half (p : Nat) (h : p < 1000) : wrap64 (Int.tdiv (p : Int) 2) = ((p / 2 : Nat) : Int) := by
 rw [Int.tdiv_eq_ediv_of_nonneg (by omega), wrap_id (by omega) (by omega)]
 omega

theorem rest2 (p : Nat) : Int.tmod (p : Int) 2 = ((p % 2 : Nat) : Int) := by
 rw [Int.tmod_eq_emod_of_nonneg (by omega)]
 omega

theorem xor_inv (p : Nat) (h : p < 20) : Go.bits .xor .i64 (p : Int) 1 = ((inv p : Nat) : Int) := by
 have : ∀ q : Fin 20, Go.bits .xor .i64 (q.val : Int) 1 = ((inv q.val : Nat) : Int) := by decide
 exact this ⟨p, h⟩

section
variable {n : Int} {l : List (List Int)} (h : isGraph n l = true)
include h

theorem specEnds {p : Nat} (hp : p < 2 * l.length) : spec_l01Ends.f n l (p : Int) = some (tl l p, hd l p) := by
 obtain ⟨g1, g2, g3⟩ := graph_small h
 obtain ⟨e2, a, b, ea, eb, ha, hb⟩ := graph_edge h (show p / 2 < l.length by omega)
 unfold spec_l01Ends.f tl hd
 rw [half p (by omega), rest2, if_pos (by omega), if_pos (by omega)]
 by_cases c : p % 2 = 1
 ·rw [if_pos (show ((p % 2 : Nat) : Int) = 1 by omega), if_pos (by omega), if_pos (by omega), if_pos c, if_pos c]
 ·rw [if_neg (show ¬ ((p % 2 : Nat) : Int) = 1 by omega), if_pos (by omega), if_pos (by omega), if_neg c, if_neg c]

theorem implEnds {p : Nat} (hp : p < 2 * l.length) : impl_Graph_ends.f n l (p : Int) = some (tl l p, hd l p) := by
 obtain ⟨g1, g2, g3⟩ := graph_small h
 obtain ⟨e2, a, b, ea, eb, ha, hb⟩ := graph_edge h (show p / 2 < l.length by omega)
 unfold impl_Graph_ends.f tl hd
 rw [half p (by omega), rest2, wrap_id (x := 1 - ((p % 2 : Nat) : Int)) (by omega) (by omega), if_pos (by omega), if_pos (by omega), if_pos (by omega), if_pos (by omega), if_pos (by omega), if_pos (by omega)]
 by_cases c : p % 2 = 1
 ·rw [if_pos c, if_pos c, c]
  rfl
 ·rw [if_neg c, if_neg c, show p % 2 = 0 by omega]
  rfl

end
theorem markInt64S_loop (n : Nat) (hn : n ≤ 1048576) (a : Int) (h0 : 0 ≤ a) (h1 : a ≤ 1125899906842624) : ∀ (d i : Nat) (ys : List Int), i + d = n → ys.length = n → ys.take i = (marks a n).take i →
  Ev (fun k => laws_markInt64S.l0 k ys (a + i) (i : Int)) (a + n, marks a n) := by
 intro d
 induction d with
 | zero =>
  intro i ys hi hy ht
  refine Ev.succ ?_; simp only [laws_markInt64S.l0]
  rw [show ys = marks a n from eq_of_take (by rw [hy, marks_length]) (by rw [marks_length]; omega) ht, show i = n by omega]
  have := marks_length a n
  repeat (first | with_reducible exact Ev.now _ | dsimp only | refine Ev.pos (by first | omega | rfl | assumption | decide) ?_ | refine Ev.neg (by first | omega | assumption | exact Bool.false_ne_true | exact fun e => absurd e (by decide)) ?_ | simp only [bne_self_eq_false, Bool.not_true, Bool.not_false, List.length_cons, List.length_nil] | rw [wrap_id (by omega) (by omega)] | ((with_reducible refine Ev.eq (congrArg some ?_)); rfl))
 | succ d ih =>
  intro i ys hi hy ht
  refine Ev.succ ?_; simp only [laws_markInt64S.l0]
  rw [wrap_succ (by omega), wrap_id (x := a + i + 1) (by omega) (by omega)]
  repeat (first | with_reducible exact Ev.now _ | dsimp only | refine Ev.pos (by first | omega | rfl | assumption | decide) ?_ | refine Ev.neg (by first | omega | assumption | exact Bool.false_ne_true | exact fun e => absurd e (by decide)) ?_ | simp only [bne_self_eq_false, Bool.not_true, Bool.not_false, List.length_cons, List.length_nil] | rw [wrap_id (by omega) (by omega)] | ((with_reducible refine Ev.eq (congrArg some ?_)); rfl))
  have := ih (i + 1) (ys.set i (a + i)) (by omega) (by simpa using hy) (take_set_succ (by rw [hy, marks_length]) (by rw [marks_length]; omega) (marks_get a n i (by rw [marks_length]; omega)).symm ht)
  rw [show a + ((i + 1 : Nat) : Int) = a + i + 1 by omega] at this
  exact this

theorem markInt64S (l : List Int) (hl : l.length ≤ 1048576) (a : Int) (h0 : 0 ≤ a) (h1 : a ≤ 1125899906842624) : Ev (fun k => laws_markInt64S.f k l a) (a + l.length, marks a l.length) := by
 unfold laws_markInt64S.f
 have := markInt64S_loop l.length hl a h0 h1 l.length 0 l (by omega) rfl (by simp)
 rw [show a + ((0 : Nat) : Int) = a by omega] at this
 exact this

theorem heldInt64S_loop (n : Nat) (hn : n ≤ 1048576) (a : Int) (h0 : 0 ≤ a) (h1 : a ≤ 1125899906842624) : ∀ (d i : Nat), i + d = n →
  Ev (fun k => laws_heldInt64S.l0 k (marks a n) (a + i) (i : Int)) (a + n) := by
 have hm := marks_length a n
 intro d
 induction d with
 | zero =>
  intro i hi
  refine Ev.succ ?_; simp only [laws_heldInt64S.l0]
  rw [show i = n by omega]
  repeat (first | with_reducible exact Ev.now _ | dsimp only | refine Ev.pos (by first | omega | rfl | assumption | decide) ?_ | refine Ev.neg (by first | omega | assumption | exact Bool.false_ne_true | exact fun e => absurd e (by decide)) ?_ | simp only [bne_self_eq_false, Bool.not_true, Bool.not_false, List.length_cons, List.length_nil] | rw [wrap_id (by omega) (by omega)] | ((with_reducible refine Ev.eq (congrArg some ?_)); rfl))
 | succ d ih =>
  intro i hi
  refine Ev.succ ?_; simp only [laws_heldInt64S.l0]
  rw [wrap_succ (by omega), wrap_id (x := a + i + 1) (by omega) (by omega)]
  have e := marks_get a n i (by omega)
  rw [← rd_lt] at e
  have := ih (i + 1) (by omega)
  rw [show a + ((i + 1 : Nat) : Int) = a + i + 1 by omega] at this
  repeat (first | with_reducible exact Ev.now _ | dsimp only | refine Ev.pos (by first | omega | rfl | assumption | decide) ?_ | refine Ev.neg (by first | omega | assumption | exact Bool.false_ne_true | exact fun e => absurd e (by decide)) ?_ | simp only [bne_self_eq_false, Bool.not_true, Bool.not_false, List.length_cons, List.length_nil] | rw [wrap_id (by omega) (by omega)] | ((with_reducible refine Ev.eq (congrArg some ?_)); rfl))
  exact this

theorem heldInt64S (a : Int) (n : Nat) (hn : n ≤ 1048576) (h0 : 0 ≤ a) (h1 : a ≤ 1125899906842624) : Ev (fun k => laws_heldInt64S.f k (marks a n) a) (a + n) := by
 unfold laws_heldInt64S.f
 have := heldInt64S_loop n hn a h0 h1 n 0 (by omega)
 rw [show a + ((0 : Nat) : Int) = a by omega] at this
 exact this
theorem markInt64SS_loop : ∀ (d i : Nat) (xs : List (List Int)) (a : Int), i + d = xs.length → xs.length ≤ 1048576 → (∀ r ∈ xs, r.length ≤ 1048576) → 0 ≤ a → a ≤ 1 + 1048576 * i →
  ∃ r : Int × List (List Int), Ev (fun k => laws_markInt64SS.l0 k xs a (i : Int)) r ∧ 0 ≤ r.1 ∧ r.1 ≤ 1 + 1048576 * xs.length := by
 intro d
 induction d with
 | zero =>
  intro i xs a hi hx hr h0 h1
  refine ⟨(a, xs), ?_, h0, by simp only; omega⟩
  refine Ev.succ ?_; simp only [laws_markInt64SS.l0]
  repeat (first | with_reducible exact Ev.now _ | dsimp only | refine Ev.pos (by first | omega | rfl | assumption | decide) ?_ | refine Ev.neg (by first | omega | assumption | exact Bool.false_ne_true | exact fun e => absurd e (by decide)) ?_ | simp only [bne_self_eq_false, Bool.not_true, Bool.not_false, List.length_cons, List.length_nil] | rw [wrap_id (by omega) (by omega)] | ((with_reducible refine Ev.eq (congrArg some ?_)); rfl))
 | succ d ih =>
  intro i xs a hi hx hr h0 h1
  have hlen : xs[i].length ≤ 1048576 := hr _ (List.getElem_mem (by omega))
  obtain ⟨r, h2, h3⟩ := ih (i + 1) (xs.set i (marks a xs[i].length)) (a + xs[i].length) (by simp; omega) (by simpa using hx) (fun r hm => by
   rcases List.mem_or_eq_of_mem_set hm with h | h
   ·exact hr r h
   ·rw [h, marks_length]; exact hlen) (by omega) (by omega)
  rw [List.length_set] at h3
  refine ⟨r, ?_, h3⟩
  refine Ev.succ ?_; simp only [laws_markInt64SS.l0]
  rw [wrap_succ (by omega), rl_lt (by omega)]
  repeat (first | with_reducible exact Ev.now _ | dsimp only | with_reducible refine Ev.bind (markInt64S xs[i] hlen a h0 (by omega)) ?_ | refine Ev.pos (by first | omega | rfl | assumption | decide) ?_ | refine Ev.neg (by first | omega | assumption | exact Bool.false_ne_true | exact fun e => absurd e (by decide)) ?_ | simp only [bne_self_eq_false, Bool.not_true, Bool.not_false, List.length_cons, List.length_nil] | rw [wrap_id (by omega) (by omega)] | with_reducible exact (markInt64S xs[i] hlen a h0 (by omega)) | ((with_reducible refine Ev.eq (congrArg some ?_)); rfl))
  exact h2

theorem markGraph (n : Int) (l : List (List Int)) (hl : Mod l) : ∃ r : Int × List (List Int), Ev (fun k => laws_markGraph.f k n l 1) r ∧ 0 ≤ r.1 ∧ r.1 ≤ 1099511627777 := by
 unfold laws_markGraph.f laws_markInt64SS.f
 have hl1 := hl.1
 obtain ⟨r, h1, h2, h3⟩ := markInt64SS_loop l.length 0 l 1 (by omega) hl.1 hl.2 (by decide) (by omega)
 exact ⟨r, h1, h2, by omega⟩
def zeros (n : Nat) : List (List Int) := List.replicate n (List.replicate n 0)

theorem rep_succ {α : Type} (n : Nat) (x : α) : List.replicate n x ++ [x] = List.replicate (n + 1) x := List.replicate_succ'.symm

theorem implSquare (n : Int) (h0 : 0 ≤ n) (h1 : n ≤ 1000) : Ev (fun k => impl_square.f k n) (zeros n.toNat) := by
 have : ∀ (d v : Nat), (v : Int) + d = n → Ev (fun k => impl_square.l0 k n (List.replicate v (List.replicate n.toNat 0)) n (v : Int)) (zeros n.toNat) := by
  intro d
  induction d with
  | zero =>
   intro v hv
   refine Ev.succ ?_; simp only [impl_square.l0]
   rw [show v = n.toNat by omega]
   repeat (first | with_reducible exact Ev.now _ | dsimp only | refine Ev.pos (by first | omega | rfl | assumption | decide) ?_ | refine Ev.neg (by first | omega | assumption | exact Bool.false_ne_true | exact fun e => absurd e (by decide)) ?_ | simp only [bne_self_eq_false, Bool.not_true, Bool.not_false, List.length_cons, List.length_nil] | rw [wrap_id (by omega) (by omega)] | ((with_reducible refine Ev.eq (congrArg some ?_)); rfl))
  | succ d ih =>
   intro v hv
   have := ih (v + 1) (by omega)
   rw [← rep_succ] at this
   refine Ev.succ ?_; simp only [impl_square.l0]
   rw [wrap_succ (by omega)]
   refine Ev.pos (by omega) ?_
   refine Ev.pos (by omega) ?_
   refine Ev.pos (by omega) ?_
   refine Ev.pos (by simp; omega) ?_
   exact this
 exact this n.toNat 0 (by omega)
/-- f 0 + .. + f (n - 1). -/
def Sm : Nat → (Nat → Int) → Int
 | 0, _ => 0
 | n + 1, f => Sm n f + f n

theorem Sm_congr {n : Nat} {f g : Nat → Int} (h : ∀ i, i < n → f i = g i) : Sm n f = Sm n g := by
 induction n with
 | zero => rfl
 | succ n ih => unfold Sm; rw [ih (fun i hi => h i (by omega)), h n (by omega)]

theorem Sm_zero (n : Nat) : Sm n (fun _ => 0) = 0 := by
 induction n with
 | zero => rfl
 | succ n ih => unfold Sm; rw [ih]; rfl

theorem Sm_le {n : Nat} {f : Nat → Int} {b : Int} (h : ∀ i, i < n → f i ≤ b) : Sm n f ≤ n * b := by
 induction n with
 | zero => simp [Sm]
 | succ n ih =>
  have h1 := ih (fun i hi => h i (by omega))
  have h2 := h n (by omega)
  unfold Sm
  rw [Int.natCast_add, Int.add_mul]
  omega

theorem Sm_nonneg {n : Nat} {f : Nat → Int} (h : ∀ i, i < n → 0 ≤ f i) : 0 ≤ Sm n f := by
 induction n with
 | zero => simp [Sm]
 | succ n ih =>
  have h1 := ih (fun i hi => h i (by omega))
  have h2 := h n (by omega)
  unfold Sm
  omega

/-- The product of two square matrices. -/
def mul (n : Nat) (a b : Nat → Nat → Int) : Nat → Nat → Int := fun i j => Sm n (fun k => a i k * b k j)

def tr (n : Nat) (a : Nat → Nat → Int) : Int := Sm n (fun i => a i i)

/-- a to the power p + 1, multiplied from the right. -/
def pw (n : Nat) (a : Nat → Nat → Int) : Nat → Nat → Nat → Int
 | 0 => a
 | p + 1 => mul n (pw n a p) a

/-- A list's matrix, and a matrix's list. -/
def mat (m : List (List Int)) (i j : Nat) : Int := rd (rd_L1 m (i : Int)) (j : Int)

def rowOf (n : Nat) (f : Nat → Int) : List Int := (List.range n).map f

def ofFn (n : Nat) (f : Nat → Nat → Int) : List (List Int) := (List.range n).map (fun i => rowOf n (f i))

theorem rowOf_length (n : Nat) (f : Nat → Int) : (rowOf n f).length = n := by simp [rowOf]

theorem rowOf_rd {n i : Nat} (f : Nat → Int) (h : i < n) : rd (rowOf n f) (i : Int) = f i := rd_map_range f h

theorem rowOf_congr {n : Nat} {f g : Nat → Int} (h : ∀ i, i < n → f i = g i) : rowOf n f = rowOf n g := by
 unfold rowOf
 exact List.map_congr_left (fun i hi => h i (List.mem_range.1 hi))

theorem rowOf_set {n i : Nat} (f : Nat → Int) (v : Int) (h : i < n) : (rowOf n f).set i v = rowOf n (fun j => if j = i then v else f j) := by
 refine list_ext_rd (by rw [List.length_set, rowOf_length, rowOf_length]) (fun j hj => ?_)
 rw [List.length_set, rowOf_length] at hj
 rw [rd_set (by rw [rowOf_length]; exact h), rowOf_rd _ hj, rowOf_rd _ hj]

theorem rowOf_zero (n : Nat) : rowOf n (fun _ => 0) = List.replicate n 0 := by
 refine list_ext_rd (by rw [rowOf_length, List.length_replicate]) (fun j hj => ?_)
 rw [rowOf_length] at hj
 rw [rowOf_rd _ hj, rd_replicate]

theorem ofFn_length (n : Nat) (f : Nat → Nat → Int) : (ofFn n f).length = n := by simp [ofFn]

theorem ofFn_row {n i : Nat} (f : Nat → Nat → Int) (h : i < n) : rd_L1 (ofFn n f) (i : Int) = rowOf n (f i) := by
 rw [rl_lt (by rw [ofFn_length]; exact h)]
 simp [ofFn]

theorem ofFn_mat {n i j : Nat} (f : Nat → Nat → Int) (hi : i < n) (hj : j < n) : mat (ofFn n f) i j = f i j := by
 unfold mat
 rw [ofFn_row f hi, rowOf_rd _ hj]

theorem ofFn_congr {n : Nat} {f g : Nat → Nat → Int} (h : ∀ i j, i < n → j < n → f i j = g i j) : ofFn n f = ofFn n g := by
 unfold ofFn
 exact List.map_congr_left (fun i hi => rowOf_congr (fun j hj => h i j (List.mem_range.1 hi) hj))

theorem ofFn_set {n i : Nat} (f : Nat → Nat → Int) (r : Nat → Int) (h : i < n) : (ofFn n f).set i (rowOf n r) = ofFn n (fun k => if k = i then r else f k) := by
 apply List.ext_getElem
 ·rw [List.length_set, ofFn_length, ofFn_length]
 ·intro k h1 h2
  rw [ofFn_length] at h2
  simp only [List.getElem_set, ofFn, List.getElem_map, List.getElem_range]
  by_cases e : k = i
  ·subst e; simp
  ·rw [if_neg (fun x => e x.symm), if_neg e]

/-- A square list of rows. -/
def Sq (n : Nat) (m : List (List Int)) : Prop := m.length = n ∧ ∀ i : Nat, i < n → (rd_L1 m (i : Int)).length = n

theorem Sq_ofFn (n : Nat) (f : Nat → Nat → Int) : Sq n (ofFn n f) := ⟨ofFn_length n f, fun i hi => by rw [ofFn_row f hi, rowOf_length]⟩

theorem wrap_add_wrap (a b : Int) : wrap64 (wrap64 a + wrap64 b) = wrap64 (a + b) := by
 unfold wrap64
 omega

theorem wrap_add_left (a b : Int) : wrap64 (wrap64 a + b) = wrap64 (a + b) := by
 unfold wrap64
 omega

/-- Row p, told up to the place q. -/
def rowE (l : List (List Int)) (p : Nat) : Nat → List Int
 | 0 => List.replicate (2 * l.length) 0
 | q + 1 => if next l p q = true then (rowE l p q).set q 1 else rowE l p q

def edgeM (l : List (List Int)) (n : Nat) : List (List Int) := (List.range n).map (fun p => rowE l p (2 * l.length))

theorem rowE_length (l : List (List Int)) (p q : Nat) : (rowE l p q).length = 2 * l.length := by
 induction q with
 | zero => simp [rowE]
 | succ q ih => unfold rowE; split <;> simp [ih]

theorem edgeM_length (l : List (List Int)) (n : Nat) : (edgeM l n).length = n := by simp [edgeM]

theorem edgeM_succ (l : List (List Int)) (n : Nat) : edgeM l (n + 1) = edgeM l n ++ [rowE l n (2 * l.length)] := map_range_succ _ _

theorem rowE_rd (l : List (List Int)) (p : Nat) : ∀ (q j : Nat), q ≤ 2 * l.length → rd (rowE l p q) (j : Int) = if j < q ∧ next l p j = true then 1 else 0 := by
 intro q
 induction q with
 | zero =>
  intro j _
  rw [if_neg (by omega)]
  exact rd_replicate _ _
 | succ q ih =>
  intro j hq
  have hl := rowE_length l p q
  unfold rowE
  by_cases c : next l p q = true
  ·rw [if_pos c, rd_set (by omega)]
   by_cases e : j = q
   ·subst e
    rw [if_pos rfl, if_pos ⟨by omega, c⟩]
   ·rw [if_neg e, ih j (by omega)]
    by_cases c2 : j < q ∧ next l p j = true
    ·rw [if_pos c2, if_pos ⟨by omega, c2.2⟩]
    ·rw [if_neg c2, if_neg (fun x => c2 ⟨by omega, x.2⟩)]
  ·rw [if_neg c, ih j (by omega)]
   by_cases c2 : j < q ∧ next l p j = true
   ·rw [if_pos c2, if_pos ⟨by omega, c2.2⟩]
   ·rw [if_neg c2, if_neg (fun x => ?_)]
    by_cases e : j = q
    ·subst e; exact c x.2
    ·exact c2 ⟨by omega, x.2⟩

theorem next_split {l : List (List Int)} {p q : Nat} : next l p q = true ↔ hd l p = tl l q ∧ q ≠ inv p := by
 unfold next
 rw [Bool.and_eq_true, decide_eq_true_iff, decide_eq_true_iff]
section
variable {n : Int} {l : List (List Int)} (h : isGraph n l = true)
include h

theorem specRow (p : Nat) (hp : p < 2 * l.length) (m : List (List Int)) (hm : m.length ≤ 20) (r : List (List Int)) (hr : Ev (fun k => spec_l02Matrix.l0 k (m ++ [rowE l p (2 * l.length)]) (2 * (l.length : Int)) ((p + 1 : Nat) : Int) n l) r) :
  ∀ (d q : Nat), q + d = 2 * l.length → Ev (fun k => spec_l02Matrix.l1 k m (2 * (l.length : Int)) (p : Int) (rowE l p q) (hd l p) (q : Int) n l) r := by
 obtain ⟨g1, g2, g3⟩ := graph_small h
 intro d
 induction d with
 | zero =>
  intro q hq
  have e : q = 2 * l.length := by omega
  refine Ev.succ ?_; simp only [spec_l02Matrix.l1]
  rw [wrap_succ (by omega), e]
  repeat (first | with_reducible exact Ev.now _ | dsimp only | refine Ev.pos (by first | omega | rfl | assumption | decide) ?_ | refine Ev.neg (by first | omega | assumption | exact Bool.false_ne_true | exact fun e => absurd e (by decide)) ?_ | simp only [bne_self_eq_false, Bool.not_true, Bool.not_false, List.length_cons, List.length_nil] | rw [wrap_id (by omega) (by omega)] | ((with_reducible refine Ev.eq (congrArg some ?_)); rfl))
  exact hr
 | succ d ih =>
  intro q hq
  have hi := ih (q + 1) (by omega)
  rw [show rowE l p (q + 1) = (if next l p q = true then (rowE l p q).set q 1 else rowE l p q) from rfl] at hi
  have he := specEnds h (show q < 2 * l.length by omega)
  have hx := xor_inv p (by omega)
  have hlen := rowE_length l p q
  refine Ev.succ ?_; simp only [spec_l02Matrix.l1]
  rw [wrap_succ (i := q) (by omega), hx]
  by_cases c : next l p q = true
  ·rw [if_pos c] at hi
   obtain ⟨c1, c2⟩ := next_split.1 c
   repeat (first | with_reducible exact Ev.now _ | dsimp only | with_reducible refine Ev.bind (Ev.eq he) ?_ | refine Ev.pos (by first | omega | rfl | assumption | decide) ?_ | refine Ev.neg (by first | omega | assumption | exact Bool.false_ne_true | exact fun e => absurd e (by decide)) ?_ | simp only [bne_self_eq_false, Bool.not_true, Bool.not_false, List.length_cons, List.length_nil] | rw [wrap_id (by omega) (by omega)] | with_reducible exact (Ev.eq he) | ((with_reducible refine Ev.eq (congrArg some ?_)); rfl))
   exact hi
  ·rw [if_neg c] at hi
   by_cases c1 : hd l p = tl l q
   ·have c2 : q = inv p := by
     apply Classical.byContradiction
     intro e
     exact c (next_split.2 ⟨c1, e⟩)
    repeat (first | with_reducible exact Ev.now _ | dsimp only | with_reducible refine Ev.bind (Ev.eq he) ?_ | refine Ev.pos (by first | omega | rfl | assumption | decide) ?_ | refine Ev.neg (by first | omega | assumption | exact Bool.false_ne_true | exact fun e => absurd e (by decide)) ?_ | simp only [bne_self_eq_false, Bool.not_true, Bool.not_false, List.length_cons, List.length_nil] | rw [wrap_id (by omega) (by omega)] | with_reducible exact (Ev.eq he) | ((with_reducible refine Ev.eq (congrArg some ?_)); rfl))
    exact hi
   ·repeat (first | with_reducible exact Ev.now _ | dsimp only | with_reducible refine Ev.bind (Ev.eq he) ?_ | refine Ev.pos (by first | omega | rfl | assumption | decide) ?_ | refine Ev.neg (by first | omega | assumption | exact Bool.false_ne_true | exact fun e => absurd e (by decide)) ?_ | simp only [bne_self_eq_false, Bool.not_true, Bool.not_false, List.length_cons, List.length_nil] | rw [wrap_id (by omega) (by omega)] | with_reducible exact (Ev.eq he) | ((with_reducible refine Ev.eq (congrArg some ?_)); rfl))
    exact hi

theorem specEdgeM : Ev (fun k => spec_l02Matrix.f k n l) (edgeM l (2 * l.length)) := by
 obtain ⟨g1, g2, g3⟩ := graph_small h
 have : ∀ (d p : Nat), p + d = 2 * l.length → Ev (fun k => spec_l02Matrix.l0 k (edgeM l p) (2 * (l.length : Int)) (p : Int) n l) (edgeM l (2 * l.length)) := by
  intro d
  induction d with
  | zero =>
   intro p hp
   have e : p = 2 * l.length := by omega
   refine Ev.succ ?_; simp only [spec_l02Matrix.l0]
   rw [e]
   repeat (first | with_reducible exact Ev.now _ | dsimp only | refine Ev.pos (by first | omega | rfl | assumption | decide) ?_ | refine Ev.neg (by first | omega | assumption | exact Bool.false_ne_true | exact fun e => absurd e (by decide)) ?_ | simp only [bne_self_eq_false, Bool.not_true, Bool.not_false, List.length_cons, List.length_nil] | rw [wrap_id (by omega) (by omega)] | ((with_reducible refine Ev.eq (congrArg some ?_)); rfl))
  | succ d ih =>
   intro p hp
   have hi := ih (p + 1) (by omega)
   rw [edgeM_succ] at hi
   have he := specEnds h (show p < 2 * l.length by omega)
   have hl := edgeM_length l p
   refine Ev.succ ?_; simp only [spec_l02Matrix.l0]
   rw [show (2 * (l.length : Int)).toNat = 2 * l.length by omega]
   repeat (first | with_reducible exact Ev.now _ | dsimp only | with_reducible refine Ev.bind (Ev.eq he) ?_ | refine Ev.pos (by first | omega | rfl | assumption | decide) ?_ | refine Ev.neg (by first | omega | assumption | exact Bool.false_ne_true | exact fun e => absurd e (by decide)) ?_ | simp only [bne_self_eq_false, Bool.not_true, Bool.not_false, List.length_cons, List.length_nil] | rw [wrap_id (by omega) (by omega)] | with_reducible exact (Ev.eq he) | ((with_reducible refine Ev.eq (congrArg some ?_)); rfl))
   exact specRow h p (by omega) (edgeM l p) (by omega) _ hi (2 * l.length) 0 (by omega)
 unfold spec_l02Matrix.f
 rw [wrap_id (x := 2 * (l.length : Int)) (by omega) (by omega)]
 exact this (2 * l.length) 0 (by omega)

end
/-- The matrix while row p is told up to the place q. -/
def stage (l : List (List Int)) (p q : Nat) : List (List Int) := edgeM l p ++ rowE l p q :: List.replicate (2 * l.length - (p + 1)) (List.replicate (2 * l.length) 0)

theorem stage_length (l : List (List Int)) (p q : Nat) (h : p < 2 * l.length) : (stage l p q).length = 2 * l.length := by
 simp [stage, edgeM_length]; omega

theorem stage_row (l : List (List Int)) (p q : Nat) : rd_L1 (stage l p q) (p : Int) = rowE l p q := by
 unfold stage
 rw [rl_lt (by simp [edgeM_length])]
 rw [List.getElem_append_right (by rw [edgeM_length]; omega)]
 simp [edgeM_length]

theorem stage_set (l : List (List Int)) (p q : Nat) (r : List Int) : (stage l p q).set p r = edgeM l p ++ r :: List.replicate (2 * l.length - (p + 1)) (List.replicate (2 * l.length) 0) := by
 unfold stage
 rw [List.set_append_right _ _ (by rw [edgeM_length]; omega), edgeM_length, Nat.sub_self, List.set_cons_zero]

theorem stage_zero (l : List (List Int)) : 0 < 2 * l.length → stage l 0 0 = zeros (2 * l.length) := by
 intro h
 unfold stage edgeM zeros rowE
 rw [show 2 * l.length - (0 + 1) = 2 * l.length - 1 by omega]
 simp only [List.range_zero, List.map_nil, List.nil_append]
 rw [← List.replicate_succ, Nat.sub_add_cancel (by omega)]

theorem stage_next (l : List (List Int)) (p : Nat) (h : p + 1 < 2 * l.length) : stage l p (2 * l.length) = stage l (p + 1) 0 := by
 unfold stage
 rw [edgeM_succ, show 2 * l.length - (p + 1) = (2 * l.length - (p + 1 + 1)) + 1 by omega, List.replicate_succ, List.append_assoc]
 rfl

theorem stage_last (l : List (List Int)) (p : Nat) (h : p + 1 = 2 * l.length) : stage l p (2 * l.length) = edgeM l (2 * l.length) := by
 unfold stage
 rw [show 2 * l.length - (p + 1) = 0 by omega, List.replicate_zero, ← edgeM_succ, h]

section
variable {n : Int} {l : List (List Int)} (h : isGraph n l = true)
include h

theorem implRow (p : Nat) (hp : p < 2 * l.length) (r : List (List Int)) (hr : Ev (fun k => impl_Graph_edgeMatrix.l0 k (stage l p (2 * l.length)) (2 * (l.length : Int)) ((p + 1 : Nat) : Int) n l) r) :
  ∀ (d q : Nat), q + d = 2 * l.length → Ev (fun k => impl_Graph_edgeMatrix.l1 k (stage l p q) (p : Int) (hd l p) (2 * (l.length : Int)) (p : Int) (2 * (l.length : Int)) (q : Int) n l) r := by
 obtain ⟨g1, g2, g3⟩ := graph_small h
 intro d
 induction d with
 | zero =>
  intro q hq
  have e : q = 2 * l.length := by omega
  refine Ev.succ ?_; simp only [impl_Graph_edgeMatrix.l1]
  rw [wrap_succ (i := p) (by omega), e]
  repeat (first | with_reducible exact Ev.now _ | dsimp only | refine Ev.pos (by first | omega | rfl | assumption | decide) ?_ | refine Ev.neg (by first | omega | assumption | exact Bool.false_ne_true | exact fun e => absurd e (by decide)) ?_ | simp only [bne_self_eq_false, Bool.not_true, Bool.not_false, List.length_cons, List.length_nil] | rw [wrap_id (by omega) (by omega)] | ((with_reducible refine Ev.eq (congrArg some ?_)); rfl))
  exact hr
 | succ d ih =>
  intro q hq
  have hi := ih (q + 1) (by omega)
  have he := implEnds h (show q < 2 * l.length by omega)
  have hx := xor_inv p (by omega)
  have hlen := rowE_length l p q
  have hs := stage_length l p q hp
  refine Ev.succ ?_; simp only [impl_Graph_edgeMatrix.l1]
  rw [wrap_succ (i := q) (by omega), hx, stage_row]
  by_cases c : next l p q = true
  ·have e2 : (stage l p q).set p ((rowE l p q).set q 1) = stage l p (q + 1) := by
    rw [stage_set]
    unfold stage
    rw [show rowE l p (q + 1) = (if next l p q = true then (rowE l p q).set q 1 else rowE l p q) from rfl, if_pos c]
   obtain ⟨c1, c2⟩ := next_split.1 c
   rw [Int.toNat_natCast, Int.toNat_natCast, e2]
   repeat (first | with_reducible exact Ev.now _ | dsimp only | with_reducible refine Ev.bind (Ev.eq he) ?_ | refine Ev.pos (by first | omega | rfl | assumption | decide) ?_ | refine Ev.neg (by first | omega | assumption | exact Bool.false_ne_true | exact fun e => absurd e (by decide)) ?_ | simp only [bne_self_eq_false, Bool.not_true, Bool.not_false, List.length_cons, List.length_nil] | rw [wrap_id (by omega) (by omega)] | with_reducible exact (Ev.eq he) | ((with_reducible refine Ev.eq (congrArg some ?_)); rfl))
   exact hi
  ·have e2 : stage l p q = stage l p (q + 1) := by
    unfold stage
    rw [show rowE l p (q + 1) = (if next l p q = true then (rowE l p q).set q 1 else rowE l p q) from rfl, if_neg c]
   rw [← e2] at hi
   by_cases c1 : hd l p = tl l q
   ·have c2 : q = inv p := by
     apply Classical.byContradiction
     intro e
     exact c (next_split.2 ⟨c1, e⟩)
    repeat (first | with_reducible exact Ev.now _ | dsimp only | with_reducible refine Ev.bind (Ev.eq he) ?_ | refine Ev.pos (by first | omega | rfl | assumption | decide) ?_ | refine Ev.neg (by first | omega | assumption | exact Bool.false_ne_true | exact fun e => absurd e (by decide)) ?_ | simp only [bne_self_eq_false, Bool.not_true, Bool.not_false, List.length_cons, List.length_nil] | rw [wrap_id (by omega) (by omega)] | with_reducible exact (Ev.eq he) | ((with_reducible refine Ev.eq (congrArg some ?_)); rfl))
    exact hi
   ·repeat (first | with_reducible exact Ev.now _ | dsimp only | with_reducible refine Ev.bind (Ev.eq he) ?_ | refine Ev.pos (by first | omega | rfl | assumption | decide) ?_ | refine Ev.neg (by first | omega | assumption | exact Bool.false_ne_true | exact fun e => absurd e (by decide)) ?_ | simp only [bne_self_eq_false, Bool.not_true, Bool.not_false, List.length_cons, List.length_nil] | rw [wrap_id (by omega) (by omega)] | with_reducible exact (Ev.eq he) | ((with_reducible refine Ev.eq (congrArg some ?_)); rfl))
    exact hi

theorem implEdgeM : Ev (fun k => impl_Graph_edgeMatrix.f k n l) (edgeM l (2 * l.length)) := by
 obtain ⟨g1, g2, g3⟩ := graph_small h
 have main : ∀ (d p : Nat), p + 1 + d = 2 * l.length → Ev (fun k => impl_Graph_edgeMatrix.l0 k (stage l p 0) (2 * (l.length : Int)) (p : Int) n l) (edgeM l (2 * l.length)) := by
  intro d
  induction d with
  | zero =>
   intro p hp
   have he := implEnds h (show p < 2 * l.length by omega)
   refine Ev.succ ?_; simp only [impl_Graph_edgeMatrix.l0]
   unfold impl_Graph_size.f
   repeat (first | with_reducible exact Ev.now _ | dsimp only | with_reducible refine Ev.bind (Ev.eq he) ?_ | with_reducible refine Ev.bind (Ev.now _) ?_ | refine Ev.pos (by first | omega | rfl | assumption | decide) ?_ | refine Ev.neg (by first | omega | assumption | exact Bool.false_ne_true | exact fun e => absurd e (by decide)) ?_ | simp only [bne_self_eq_false, Bool.not_true, Bool.not_false, List.length_cons, List.length_nil] | rw [wrap_id (by omega) (by omega)] | with_reducible exact (Ev.eq he) | with_reducible exact (Ev.now _) | ((with_reducible refine Ev.eq (congrArg some ?_)); rfl))
   refine implRow h p (by omega) _ ?_ (2 * l.length) 0 (by omega)
   rw [stage_last l p (by omega)]
   refine Ev.succ ?_; simp only [impl_Graph_edgeMatrix.l0]
   repeat (first | with_reducible exact Ev.now _ | dsimp only | refine Ev.pos (by first | omega | rfl | assumption | decide) ?_ | refine Ev.neg (by first | omega | assumption | exact Bool.false_ne_true | exact fun e => absurd e (by decide)) ?_ | simp only [bne_self_eq_false, Bool.not_true, Bool.not_false, List.length_cons, List.length_nil] | rw [wrap_id (by omega) (by omega)] | ((with_reducible refine Ev.eq (congrArg some ?_)); rfl))
  | succ d ih =>
   intro p hp
   have hi := ih (p + 1) (by omega)
   have he := implEnds h (show p < 2 * l.length by omega)
   refine Ev.succ ?_; simp only [impl_Graph_edgeMatrix.l0]
   unfold impl_Graph_size.f
   repeat (first | with_reducible exact Ev.now _ | dsimp only | with_reducible refine Ev.bind (Ev.eq he) ?_ | with_reducible refine Ev.bind (Ev.now _) ?_ | refine Ev.pos (by first | omega | rfl | assumption | decide) ?_ | refine Ev.neg (by first | omega | assumption | exact Bool.false_ne_true | exact fun e => absurd e (by decide)) ?_ | simp only [bne_self_eq_false, Bool.not_true, Bool.not_false, List.length_cons, List.length_nil] | rw [wrap_id (by omega) (by omega)] | with_reducible exact (Ev.eq he) | with_reducible exact (Ev.now _) | ((with_reducible refine Ev.eq (congrArg some ?_)); rfl))
   refine implRow h p (by omega) _ ?_ (2 * l.length) 0 (by omega)
   rw [stage_next l p (by omega)]
   exact hi
 unfold impl_Graph_edgeMatrix.f impl_Graph_size.f
 refine Ev.bind (Ev.now _) ?_
 rw [wrap_id (x := 2 * (l.length : Int)) (by omega) (by omega)]
 refine Ev.bind (implSquare (2 * (l.length : Int)) (by omega) (by omega)) ?_
 refine Ev.bind (Ev.now _) ?_
 rw [wrap_id (x := 2 * (l.length : Int)) (by omega) (by omega)]
 rw [show (2 * (l.length : Int)).toNat = 2 * l.length by omega]
 by_cases e : l.length = 0
 ·refine Ev.succ ?_; simp only [impl_Graph_edgeMatrix.l0]
  refine Ev.neg (by omega) ?_
  refine Ev.eq (congrArg some ?_)
  rw [e]
  rfl
 ·rw [← stage_zero l (by omega)]
  exact main (2 * l.length - 1) 0 (by omega)

end
section
variable (n : Nat) (hn : n ≤ 1000) (a b : List (List Int)) (ha : Sq n a) (hb : Sq n b)

/-- The product's entry, of the k first places. -/
def part (k i j : Nat) : Int := wrap64 (Sm k (fun m => mat a i m * mat b m j))

/-- The result while row i is told from the places before k, and up to j from place k. -/
def rt (i k j : Nat) : List (List Int) := ofFn n (fun p q => if p < i then part a b n p q else if p = i then (if q < j then part a b (k + 1) p q else part a b k p q) else 0)

theorem rt_next (i k : Nat) : rt n a b i k n = rt n a b i (k + 1) 0 := by
 refine ofFn_congr (fun p q hp hq => ?_)
 by_cases c : p < i
 ·simp only [if_pos c]
 ·by_cases e : p = i
  ·simp only [if_neg c, if_pos e, if_pos hq, if_neg (Nat.not_lt_zero q)]
  ·simp only [if_neg c, if_neg e]

theorem part_zero (i j : Nat) : part a b 0 i j = 0 := by
 unfold part Sm
 exact wrap_id (by decide) (by decide)

theorem rt_row (i : Nat) : rt n a b i n 0 = rt n a b (i + 1) 0 0 := by
 refine ofFn_congr (fun p q hp hq => ?_)
 by_cases c : p < i
 ·rw [if_pos c, if_pos (by omega)]
 ·by_cases e : p = i
  ·rw [if_neg c, if_pos e, if_neg (by omega), if_pos (by omega)]
  ·rw [if_neg c, if_neg e, if_neg (by omega)]
   by_cases e2 : p = i + 1
   ·rw [if_pos e2, if_neg (by omega), part_zero]
   ·rw [if_neg e2]

theorem part_skip (k i j : Nat) (h : mat a i k = 0) : part a b (k + 1) i j = part a b k i j := by
 unfold part
 rw [show Sm (k + 1) (fun m => mat a i m * mat b m j) = Sm k (fun m => mat a i m * mat b m j) + mat a i k * mat b k j from rfl, h, Int.zero_mul, Int.add_zero]

theorem rt_skip (i k : Nat) (h : mat a i k = 0) : rt n a b i k 0 = rt n a b i (k + 1) 0 := by
 refine ofFn_congr (fun p q hp hq => ?_)
 by_cases c : p < i
 ·simp only [if_pos c]
 ·by_cases e : p = i
  ·subst e
   simp only [if_neg c, if_pos, if_neg (Nat.not_lt_zero q), part_skip a b k p q h]
  ·simp only [if_neg c, if_neg e]

theorem part_step (k i j : Nat) : wrap64 (part a b k i j + wrap64 (mat a i k * mat b k j)) = part a b (k + 1) i j := by
 unfold part
 rw [wrap_add_wrap]
 rfl

theorem rt_length (i k j : Nat) : (rt n a b i k j).length = n := ofFn_length _ _

theorem rt_at {i : Nat} (k j : Nat) (hi : i < n) : rd_L1 (rt n a b i k j) (i : Int) = rowOf n (fun q => if q < j then part a b (k + 1) i q else part a b k i q) := by
 unfold rt
 rw [ofFn_row _ hi]
 refine rowOf_congr (fun q hq => ?_)
 rw [if_neg (Nat.lt_irrefl i), if_pos rfl]

theorem rt_set {i j : Nat} (k : Nat) (hi : i < n) (hj : j < n) : (rt n a b i k j).set i ((rd_L1 (rt n a b i k j) (i : Int)).set j (wrap64 (rd (rd_L1 (rt n a b i k j) (i : Int)) (j : Int) + wrap64 (mat a i k * mat b k j)))) = rt n a b i k (j + 1) := by
 rw [rt_at n a b k j hi, rowOf_rd _ hj, if_neg (Nat.lt_irrefl j), part_step, rowOf_set _ _ hj]
 unfold rt
 rw [ofFn_set _ _ hi]
 refine ofFn_congr (fun p q hp hq => ?_)
 by_cases e : p = i
 ·subst e
  rw [if_pos rfl, if_neg (Nat.lt_irrefl p), if_pos rfl]
  by_cases e2 : q = j
  ·subst e2
   rw [if_pos rfl, if_pos (by omega)]
  ·rw [if_neg e2]
   by_cases c : q < j
   ·rw [if_pos c, if_pos (by omega)]
   ·rw [if_neg c, if_neg (by omega)]
 ·rw [if_neg e]
  by_cases c : p < i
  ·rw [if_pos c, if_pos c]
  ·rw [if_neg c, if_neg c, if_neg e, if_neg e]

include hn ha hb

theorem rtInner (i k : Nat) (hi : i < n) (hk : k < n) (r : List (List Int)) (hr : Ev (fun f => impl_rowsTimes.l1 f b (rt n a b i k n) (i : Int) a (n : Int) (i : Int) (rd_L1 a (i : Int)) (n : Int) ((k + 1 : Nat) : Int)) r) :
  ∀ (d j : Nat), j + d = n → Ev (fun f => impl_rowsTimes.l2 f b (rt n a b i k j) (i : Int) (mat a i k) a (n : Int) (i : Int) (rd_L1 a (i : Int)) (n : Int) (k : Int) (rd_L1 b (k : Int)) (n : Int) (j : Int)) r := by
 have hbl := hb.2 k hk
 intro d
 induction d with
 | zero =>
  intro j hj
  have e : j = n := by omega
  subst e
  refine Ev.succ ?_; simp only [impl_rowsTimes.l2]
  rw [wrap_succ (i := k) (by omega)]
  repeat (first | with_reducible exact Ev.now _ | dsimp only | refine Ev.pos (by first | omega | rfl | assumption | decide) ?_ | refine Ev.neg (by first | omega | assumption | exact Bool.false_ne_true | exact fun e => absurd e (by decide)) ?_ | simp only [bne_self_eq_false, Bool.not_true, Bool.not_false, List.length_cons, List.length_nil] | rw [wrap_id (by omega) (by omega)] | ((with_reducible refine Ev.eq (congrArg some ?_)); rfl))
  exact hr
 | succ d ih =>
  intro j hj
  have h1 := ih (j + 1) (by omega)
  have hl := rt_length n a b i k j
  have hrow : (rd_L1 (rt n a b i k j) (i : Int)).length = n := by rw [rt_at n a b k j hi, rowOf_length]
  have hset := rt_set n a b (i := i) (j := j) k hi (by omega)
  refine Ev.succ ?_; simp only [impl_rowsTimes.l2]
  rw [show rd (rd_L1 b (k : Int)) (j : Int) = mat b k j from rfl, Int.toNat_natCast, Int.toNat_natCast, hset, wrap_succ (i := j) (by omega)]
  repeat (first | with_reducible exact Ev.now _ | dsimp only | refine Ev.pos (by first | omega | rfl | assumption | decide) ?_ | refine Ev.neg (by first | omega | assumption | exact Bool.false_ne_true | exact fun e => absurd e (by decide)) ?_ | simp only [bne_self_eq_false, Bool.not_true, Bool.not_false, List.length_cons, List.length_nil] | rw [wrap_id (by omega) (by omega)] | ((with_reducible refine Ev.eq (congrArg some ?_)); rfl))
  exact h1

theorem rtMiddle (i : Nat) (hi : i < n) (r : List (List Int)) (hr : Ev (fun f => impl_rowsTimes.l0 f b (rt n a b (i + 1) 0 0) a (n : Int) ((i + 1 : Nat) : Int)) r) :
  ∀ (d k : Nat), k + d = n → Ev (fun f => impl_rowsTimes.l1 f b (rt n a b i k 0) (i : Int) a (n : Int) (i : Int) (rd_L1 a (i : Int)) (n : Int) (k : Int)) r := by
 have hal := ha.2 i hi
 have hbl := hb.1
 intro d
 induction d with
 | zero =>
  intro k hk
  have e : k = n := by omega
  refine Ev.succ ?_; simp only [impl_rowsTimes.l1]
  rw [e, rt_row, wrap_succ (i := i) (by omega)]
  repeat (first | with_reducible exact Ev.now _ | dsimp only | refine Ev.pos (by first | omega | rfl | assumption | decide) ?_ | refine Ev.neg (by first | omega | assumption | exact Bool.false_ne_true | exact fun e => absurd e (by decide)) ?_ | simp only [bne_self_eq_false, Bool.not_true, Bool.not_false, List.length_cons, List.length_nil] | rw [wrap_id (by omega) (by omega)] | ((with_reducible refine Ev.eq (congrArg some ?_)); rfl))
  exact hr
 | succ d ih =>
  intro k hk
  have h1 := ih (k + 1) (by omega)
  have hbk := hb.2 k (by omega)
  refine Ev.succ ?_; simp only [impl_rowsTimes.l1]
  rw [show rd (rd_L1 a (i : Int)) (k : Int) = mat a i k from rfl, wrap_succ (i := k) (by omega)]
  by_cases c : mat a i k = 0
  ·rw [← rt_skip n a b i k c] at h1
   repeat (first | with_reducible exact Ev.now _ | dsimp only | refine Ev.pos (by first | omega | rfl | assumption | decide) ?_ | refine Ev.neg (by first | omega | assumption | exact Bool.false_ne_true | exact fun e => absurd e (by decide)) ?_ | simp only [bne_self_eq_false, Bool.not_true, Bool.not_false, List.length_cons, List.length_nil] | rw [wrap_id (by omega) (by omega)] | ((with_reducible refine Ev.eq (congrArg some ?_)); rfl))
   exact h1
  ·rw [← rt_next] at h1
   repeat (first | with_reducible exact Ev.now _ | dsimp only | refine Ev.pos (by first | omega | rfl | assumption | decide) ?_ | refine Ev.neg (by first | omega | assumption | exact Bool.false_ne_true | exact fun e => absurd e (by decide)) ?_ | simp only [bne_self_eq_false, Bool.not_true, Bool.not_false, List.length_cons, List.length_nil] | rw [wrap_id (by omega) (by omega)] | ((with_reducible refine Ev.eq (congrArg some ?_)); rfl))
   rw [hbk]
   exact rtInner n hn a b ha hb i k hi (by omega) r h1 n 0 (by omega)

theorem rtOuter : ∀ (d i : Nat), i + d = n → Ev (fun f => impl_rowsTimes.l0 f b (rt n a b i 0 0) a (n : Int) (i : Int)) (ofFn n (part a b n)) := by
 have hal := ha.1
 intro d
 induction d with
 | zero =>
  intro i hi
  refine Ev.succ ?_; simp only [impl_rowsTimes.l0]
  have e : rt n a b i 0 0 = ofFn n (part a b n) := ofFn_congr (fun p q hp hq => if_pos (by omega))
  rw [e]
  repeat (first | with_reducible exact Ev.now _ | dsimp only | refine Ev.pos (by first | omega | rfl | assumption | decide) ?_ | refine Ev.neg (by first | omega | assumption | exact Bool.false_ne_true | exact fun e => absurd e (by decide)) ?_ | simp only [bne_self_eq_false, Bool.not_true, Bool.not_false, List.length_cons, List.length_nil] | rw [wrap_id (by omega) (by omega)] | ((with_reducible refine Ev.eq (congrArg some ?_)); rfl))
 | succ d ih =>
  intro i hi
  have h1 := ih (i + 1) (by omega)
  have hai := ha.2 i (by omega)
  refine Ev.succ ?_; simp only [impl_rowsTimes.l0]
  repeat (first | with_reducible exact Ev.now _ | dsimp only | refine Ev.pos (by first | omega | rfl | assumption | decide) ?_ | refine Ev.neg (by first | omega | assumption | exact Bool.false_ne_true | exact fun e => absurd e (by decide)) ?_ | simp only [bne_self_eq_false, Bool.not_true, Bool.not_false, List.length_cons, List.length_nil] | rw [wrap_id (by omega) (by omega)] | ((with_reducible refine Ev.eq (congrArg some ?_)); rfl))
  rw [hai]
  exact rtMiddle n hn a b ha hb i (by omega) _ h1 n 0 (by omega)

theorem rowsTimes : Ev (fun f => impl_rowsTimes.f f a b) (ofFn n (part a b n)) := by
 unfold impl_rowsTimes.f
 rw [ha.1]
 refine Ev.bind (implSquare (n : Int) (by omega) (by omega)) ?_
 have e : zeros (n : Int).toNat = rt n a b 0 0 0 := by
  rw [Int.toNat_natCast]
  apply List.ext_getElem
  ·rw [rt_length]; simp [zeros]
  ·intro k h1 h2
   rw [rt_length] at h2
   rw [← rl_lt, ← rl_lt]
   ·by_cases e : k = 0
    ·subst e
     rw [rt_at n a b 0 0 h2, rl_lt h1]
     simp only [zeros, List.getElem_replicate]
     rw [← rowOf_zero]
     refine rowOf_congr (fun q hq => ?_)
     rw [if_neg (by omega), part_zero]
    ·unfold rt
     rw [ofFn_row _ h2, rl_lt h1]
     simp only [zeros, List.getElem_replicate]
     rw [← rowOf_zero]
     refine rowOf_congr (fun q hq => ?_)
     rw [if_neg (by omega), if_neg e]
 rw [e]
 exact rtOuter n hn a b ha hb n 0 (by omega)

omit hb in
theorem trace : Ev (fun f => impl_trace.f f a) (wrap64 (tr n (mat a))) := by
 have hal := ha.1
 have : ∀ (d i : Nat), i + d = n → Ev (fun f => impl_trace.l0 f (wrap64 (Sm i (fun i => mat a i i))) a (n : Int) (i : Int)) (wrap64 (tr n (mat a))) := by
  intro d
  induction d with
  | zero =>
   intro i hi
   have e : i = n := by omega
   subst e
   refine Ev.succ ?_; simp only [impl_trace.l0]
   repeat (first | with_reducible exact Ev.now _ | dsimp only | refine Ev.pos (by first | omega | rfl | assumption | decide) ?_ | refine Ev.neg (by first | omega | assumption | exact Bool.false_ne_true | exact fun e => absurd e (by decide)) ?_ | simp only [bne_self_eq_false, Bool.not_true, Bool.not_false, List.length_cons, List.length_nil] | rw [wrap_id (by omega) (by omega)] | ((with_reducible refine Ev.eq (congrArg some ?_)); rfl))
  | succ d ih =>
   intro i hi
   have h1 := ih (i + 1) (by omega)
   have hai := ha.2 i (by omega)
   refine Ev.succ ?_; simp only [impl_trace.l0]
   rw [wrap_succ (by omega), wrap_add_left]
   repeat (first | with_reducible exact Ev.now _ | dsimp only | refine Ev.pos (by first | omega | rfl | assumption | decide) ?_ | refine Ev.neg (by first | omega | assumption | exact Bool.false_ne_true | exact fun e => absurd e (by decide)) ?_ | simp only [bne_self_eq_false, Bool.not_true, Bool.not_false, List.length_cons, List.length_nil] | rw [wrap_id (by omega) (by omega)] | ((with_reducible refine Ev.eq (congrArg some ?_)); rfl))
   exact h1
 unfold impl_trace.f
 rw [hal]
 have h0 := this n 0 (by omega)
 rw [show wrap64 (Sm 0 (fun i => mat a i i)) = 0 from wrap_id (x := 0) (by decide) (by decide)] at h0
 exact h0

end
/-- One where q may follow p. -/
def W (l : List (List Int)) (p q : Nat) : Int := if next l p q = true then 1 else 0

theorem W_range (l : List (List Int)) (p q : Nat) : 0 ≤ W l p q ∧ W l p q ≤ 1 := by
 unfold W
 split <;> decide

theorem edgeM_ofFn (l : List (List Int)) : edgeM l (2 * l.length) = ofFn (2 * l.length) (W l) := by
 unfold edgeM ofFn
 refine List.map_congr_left (fun p hp => ?_)
 refine list_ext_rd (by rw [rowE_length, rowOf_length]) (fun j hj => ?_)
 rw [rowE_length] at hj
 rw [rowE_rd l p _ j (Nat.le_refl _), rowOf_rd _ hj]
 unfold W
 by_cases c : next l p j = true
 ·rw [if_pos c, if_pos ⟨hj, c⟩]
 ·rw [if_neg c, if_neg (fun e => c e.2)]

/-- The row of the j-th power that belongs to p. -/
def vec (l : List (List Int)) (N p : Nat) : Nat → Nat → Int
 | 0, q => if q = p then 1 else 0
 | j + 1, q => Sm N (fun r => vec l N p j r * W l r q)

theorem vec_range (l : List (List Int)) (N p : Nat) (hN : N ≤ 20) : ∀ j q, 0 ≤ vec l N p j q ∧ vec l N p j q ≤ 20 ^ j := by
 intro j
 induction j with
 | zero =>
  intro q
  unfold vec
  split <;> decide
 | succ j ih =>
  intro q
  unfold vec
  have hle : ∀ r, r < N → vec l N p j r * W l r q ≤ 20 ^ j := fun r _ => by
   have h1 := ih r
   have h2 := W_range l r q
   have : vec l N p j r * W l r q ≤ vec l N p j r * 1 := Int.mul_le_mul_of_nonneg_left h2.2 h1.1
   omega
  refine ⟨Sm_nonneg (fun r _ => Int.mul_nonneg (ih r).1 (W_range l r q).1), ?_⟩
  have h3 := Sm_le hle
  have h4 : (N : Int) * 20 ^ j ≤ 20 * 20 ^ j := Int.mul_le_mul_of_nonneg_right (by omega) (Int.pow_nonneg (by decide))
  rw [Int.pow_succ, Int.mul_comm (20 ^ j) 20]
  omega

theorem Sm_pick (N : Nat) (f : Nat → Int) {p : Nat} (hp : p < N) : Sm N (fun r => (if r = p then 1 else 0) * f r) = f p := by
 induction N with
 | zero => omega
 | succ N ih =>
  show Sm N (fun r => (if r = p then 1 else 0) * f r) + (if N = p then 1 else 0) * f N = f p
  by_cases e : p = N
  ·subst e
   rw [if_pos rfl, Int.one_mul]
   have : Sm p (fun r => (if r = p then 1 else 0) * f r) = Sm p (fun _ => 0) := Sm_congr (fun i hi => by rw [if_neg (by omega), Int.zero_mul])
   rw [this, Sm_zero, Int.zero_add]
  ·rw [ih (by omega), if_neg (by omega), Int.zero_mul, Int.add_zero]

theorem vec_pw (l : List (List Int)) (N : Nat) {p : Nat} (hp : p < N) : ∀ j q, vec l N p (j + 1) q = pw N (W l) j p q := by
 intro j
 induction j with
 | zero =>
  intro q
  show Sm N (fun r => (if r = p then 1 else 0) * W l r q) = W l p q
  exact Sm_pick N (fun r => W l r q) hp
 | succ j ih =>
  intro q
  show Sm N (fun r => vec l N p (j + 1) r * W l r q) = Sm N (fun r => pw N (W l) j p r * W l r q)
  exact Sm_congr (fun r _ => by rw [ih r])

theorem pw_range (l : List (List Int)) (N : Nat) (hN : N ≤ 20) {p : Nat} (hp : p < N) (j q : Nat) : 0 ≤ pw N (W l) j p q ∧ pw N (W l) j p q ≤ 20 ^ (j + 1) := by
 rw [← vec_pw l N hp]
 exact vec_range l N p hN (j + 1) q

/-- How many closed walks of j + 1 steps there are. -/
def closedN (l : List (List Int)) (j : Nat) : Int := tr (2 * l.length) (pw (2 * l.length) (W l) j)

theorem pow20 {j : Nat} (h : j ≤ 13) : (20 : Int) ^ j ≤ 81920000000000000 := by
 have : ∀ i : Fin 14, (20 : Int) ^ i.val ≤ 81920000000000000 := by decide
 exact this ⟨j, by omega⟩

theorem closedN_range (l : List (List Int)) (h : l.length ≤ 10) {j : Nat} (hj : j ≤ 12) : 0 ≤ closedN l j ∧ closedN l j ≤ 1638400000000000000 := by
 unfold closedN tr
 refine ⟨Sm_nonneg (fun i hi => (pw_range l _ (by omega) hi j i).1), ?_⟩
 have h1 : Sm (2 * l.length) (fun i => pw (2 * l.length) (W l) j i i) ≤ (2 * l.length : Nat) * 81920000000000000 := Sm_le (fun i hi => by
  have := (pw_range l _ (by omega) hi j i).2
  have := pow20 (show j + 1 ≤ 13 by omega)
  omega)
 omega
def traces (l : List (List Int)) (k : Nat) : List Int := (List.range k).map (closedN l)

theorem traces_length (l : List (List Int)) (k : Nat) : (traces l k).length = k := by simp [traces]

theorem implTraces {l : List (List Int)} (h10 : l.length ≤ 10) (k : Nat) (hk : k ≤ 12) : Ev (fun f => impl_traces.f f (edgeM l (2 * l.length)) (k : Int)) (traces l k) := by
 have hN : 2 * l.length ≤ 20 := by omega
 have hSq : Sq (2 * l.length) (ofFn (2 * l.length) (W l)) := Sq_ofFn _ _
 have main : ∀ (d i : Nat), i + d = k → Ev (fun f => impl_traces.l0 f (ofFn (2 * l.length) (W l)) (traces l i) (ofFn (2 * l.length) (pw (2 * l.length) (W l) i)) (k : Int) (i : Int)) (traces l k) := by
  intro d
  induction d with
  | zero =>
   intro i hi
   have e : i = k := by omega
   subst e
   refine Ev.succ ?_; simp only [impl_traces.l0]
   repeat (first | with_reducible exact Ev.now _ | dsimp only | refine Ev.pos (by first | omega | rfl | assumption | decide) ?_ | refine Ev.neg (by first | omega | assumption | exact Bool.false_ne_true | exact fun e => absurd e (by decide)) ?_ | simp only [bne_self_eq_false, Bool.not_true, Bool.not_false, List.length_cons, List.length_nil] | rw [wrap_id (by omega) (by omega)] | ((with_reducible refine Ev.eq (congrArg some ?_)); rfl))
  | succ d ih =>
   intro i hi
   have h1 := ih (i + 1) (by omega)
   have hP : Sq (2 * l.length) (ofFn (2 * l.length) (pw (2 * l.length) (W l) i)) := Sq_ofFn _ _
   have ht := trace (2 * l.length) (by omega) _ hP
   have et : tr (2 * l.length) (mat (ofFn (2 * l.length) (pw (2 * l.length) (W l) i))) = closedN l i := Sm_congr (fun j hj => ofFn_mat _ hj hj)
   have hr := closedN_range l h10 (show i ≤ 12 by omega)
   rw [et, wrap_id (by omega) (by omega)] at ht
   have hm := rowsTimes (2 * l.length) (by omega) _ _ hP hSq
   have em : ofFn (2 * l.length) (part (ofFn (2 * l.length) (pw (2 * l.length) (W l) i)) (ofFn (2 * l.length) (W l)) (2 * l.length)) = ofFn (2 * l.length) (pw (2 * l.length) (W l) (i + 1)) := by
    refine ofFn_congr (fun p q hp hq => ?_)
    unfold part
    have e1 : Sm (2 * l.length) (fun m => mat (ofFn (2 * l.length) (pw (2 * l.length) (W l) i)) p m * mat (ofFn (2 * l.length) (W l)) m q) = pw (2 * l.length) (W l) (i + 1) p q := Sm_congr (fun m hm => by rw [ofFn_mat _ hp hm, ofFn_mat _ hm hq])
    have hb := pw_range l _ hN hp (i + 1) q
    have := pow20 (show i + 1 + 1 ≤ 13 by omega)
    rw [e1, wrap_id (by omega) (by omega)]
   rw [em] at hm
   have hl := traces_length l i
   rw [traces, map_range_succ] at h1
   refine Ev.succ ?_; simp only [impl_traces.l0]
   rw [wrap_succ (by omega)]
   repeat (first | with_reducible exact Ev.now _ | dsimp only | with_reducible refine Ev.bind (ht) ?_ | with_reducible refine Ev.bind (hm) ?_ | refine Ev.pos (by first | omega | rfl | assumption | decide) ?_ | refine Ev.neg (by first | omega | assumption | exact Bool.false_ne_true | exact fun e => absurd e (by decide)) ?_ | simp only [bne_self_eq_false, Bool.not_true, Bool.not_false, List.length_cons, List.length_nil] | rw [wrap_id (by omega) (by omega)] | with_reducible exact (ht) | with_reducible exact (hm) | ((with_reducible refine Ev.eq (congrArg some ?_)); rfl))
   exact h1
 rw [edgeM_ofFn]
 unfold impl_traces.f
 exact main k 0 (by omega)
def mu : Nat → Int
 | 1 => 1 | 2 => -1 | 3 => -1 | 4 => 0 | 5 => -1 | 6 => 1 | 7 => -1 | 8 => 0 | 9 => 0 | 10 => 1 | 11 => -1 | _ => 0

theorem implMu (n : Nat) (h : 1 ≤ n ∧ n ≤ 12) : Ev (fun k => impl_moebius.f k (n : Int)) (mu n) := by
 have : ∀ i : Fin 13, 1 ≤ i.val → impl_moebius.f 20 (i.val : Int) = some (mu i.val) := by decide +kernel
 exact Ev.of (impl_moebius.mono _) (this ⟨n, by omega⟩ h.1)

/-- The sum over the divisors up to j. -/
def prS (l : List (List Int)) (m j : Nat) : Int := Sm j (fun t => if m % (t + 1) = 0 then mu (m / (t + 1)) * closedN l t else 0)

def primeN (l : List (List Int)) (m : Nat) : Int := wrap64 (Int.tdiv (wrap64 (prS l m m)) m)

theorem div_of (m d : Nat) (hd : 0 < d) (hm : m ≤ 1000) : wrap64 (Int.tdiv (m : Int) (d : Int)) = ((m / d : Nat) : Int) := by
 rw [Int.tdiv_eq_ediv_of_nonneg (by omega), ← Int.natCast_ediv]
 have := Nat.div_le_self m d
 generalize m / d = q at *
 exact wrap_id (by omega) (by omega)

theorem mod_of (m d : Nat) : Int.tmod (m : Int) (d : Int) = ((m % d : Nat) : Int) := by
 rw [Int.tmod_eq_emod_of_nonneg (by omega)]
 rfl

theorem prS_hit (l : List (List Int)) (m j : Nat) (h : m % (j + 1) = 0) : wrap64 (wrap64 (prS l m j) + wrap64 (mu (m / (j + 1)) * closedN l j)) = wrap64 (prS l m (j + 1)) := by
 rw [wrap_add_wrap]
 show _ = wrap64 (prS l m j + if m % (j + 1) = 0 then _ else 0)
 rw [if_pos h]

theorem prS_miss (l : List (List Int)) (m j : Nat) (h : ¬ m % (j + 1) = 0) : prS l m (j + 1) = prS l m j := by
 show prS l m j + (if m % (j + 1) = 0 then _ else 0) = _
 rw [if_neg h, Int.add_zero]

theorem quot_range (m j : Nat) (hm : 1 ≤ m ∧ m ≤ 12) (hj : j < m) : 1 ≤ m / (j + 1) ∧ m / (j + 1) ≤ 12 := by
 refine ⟨(Nat.le_div_iff_mul_le (by omega)).2 (by omega), Nat.le_trans (Nat.div_le_self _ _) hm.2⟩

theorem implPrimes (l : List (List Int)) (k : Nat) (hk : k ≤ 12) : Ev (fun f => impl_primesOf.f f (traces l k)) ((List.range k).map (fun i => primeN l (i + 1))) := by
 have hl := traces_length l k
 have outer : ∀ (d i : Nat), i + d = k → Ev (fun f => impl_primesOf.l0 f (traces l k) ((List.range i).map (fun i => primeN l (i + 1))) (k : Int) (i : Int)) ((List.range k).map (fun i => primeN l (i + 1))) := by
  intro d
  induction d with
  | zero =>
   intro i hi
   obtain rfl : i = k := by omega
   refine Ev.succ ?_; simp only [impl_primesOf.l0]
   exact Ev.neg (by omega) (Ev.now _)
  | succ d ih =>
   intro i hi
   have h1 := ih (i + 1) (by omega)
   rw [map_range_succ] at h1
   have inner : ∀ (e j : Nat), j + e = i + 1 → Ev (fun f => impl_primesOf.l1 f (traces l k) ((List.range i).map (fun i => primeN l (i + 1))) ((i + 1 : Nat) : Int) (wrap64 (prS l (i + 1) j)) ((j + 1 : Nat) : Int) (k : Int) (i : Int)) ((List.range k).map (fun i => primeN l (i + 1))) := by
    intro e
    induction e with
    | zero =>
     intro j hj
     obtain rfl : j = i + 1 := by omega
     refine Ev.succ ?_; simp only [impl_primesOf.l1]
     rw [wrap_succ (i := i) (by omega)]
     refine Ev.neg (by omega) (Ev.neg (by omega) (Ev.pos (by simp; omega) ?_))
     exact h1
    | succ e ih2 =>
     intro j hj
     have h2 := ih2 (j + 1) (by omega)
     have hq := quot_range (i + 1) j ⟨by omega, by omega⟩ (by omega)
     refine Ev.succ ?_; simp only [impl_primesOf.l1]
     rw [div_of (i + 1) (j + 1) (by omega) (by omega), mod_of, wrap_succ (i := j + 1) (by omega)]
     refine Ev.pos (by omega) (Ev.neg (by omega) ?_)
     by_cases c : (i + 1) % (j + 1) = 0
     ·have e1 : rd (traces l k) (j : Int) = closedN l j := rd_map_range _ (by omega)
      rw [← prS_hit l (i + 1) j c] at h2
      refine Ev.pos (by omega) (Ev.bind (implMu _ hq) ?_)
      rw [wrap_id (x := ((j + 1 : Nat) : Int) - 1) (by omega) (by omega), show ((j + 1 : Nat) : Int) - 1 = (j : Int) by omega, e1]
      exact Ev.pos (by omega) (Ev.pos (by omega) h2)
     ·rw [prS_miss l (i + 1) j c] at h2
      exact Ev.neg (by omega) h2
   have h0 := inner (i + 1) 0 (by omega)
   rw [show wrap64 (prS l (i + 1) 0) = 0 from wrap_id (x := 0) (by decide) (by decide)] at h0
   refine Ev.succ ?_; simp only [impl_primesOf.l0]
   rw [wrap_succ (i := i) (by omega)]
   exact Ev.pos (by omega) h0
 unfold impl_primesOf.f
 rw [hl]
 exact outer k 0 (by omega)
section
variable (n : Nat) (hn : n ≤ 1000) (a b : List (List Int)) (ha : Sq n a) (hb : Sq n b)

/-- The rows that are told. -/
def rowsT (i : Nat) : List (List Int) := (List.range i).map (fun p => rowOf n (part a b n p))

/-- Row i, told from the places before k, and up to j from place k. -/
def rowT (i k j : Nat) : List Int := rowOf n (fun q => if q < j then part a b (k + 1) i q else part a b k i q)

theorem rowT_length (i k j : Nat) : (rowT n a b i k j).length = n := rowOf_length _ _

theorem rowT_next (i k : Nat) : rowT n a b i k n = rowT n a b i (k + 1) 0 :=
 rowOf_congr (fun q hq => by simp only [if_pos hq, if_neg (Nat.not_lt_zero q)])

theorem rowT_skip (i k : Nat) (h : mat a i k = 0) : rowT n a b i k 0 = rowT n a b i (k + 1) 0 :=
 rowOf_congr (fun q hq => by simp only [if_neg (Nat.not_lt_zero q), part_skip a b k i q h])

theorem rowT_zero (i : Nat) : rowT n a b i 0 0 = List.replicate n 0 := by
 rw [← rowOf_zero]
 exact rowOf_congr (fun q hq => by rw [if_neg (Nat.not_lt_zero q), part_zero])

theorem rowT_full (i : Nat) : rowT n a b i n 0 = rowOf n (part a b n i) :=
 rowOf_congr (fun q hq => by rw [if_neg (Nat.not_lt_zero q)])

theorem rowT_set (i k j : Nat) (hj : j < n) : (rowT n a b i k j).set j (wrap64 (rd (rowT n a b i k j) (j : Int) + wrap64 (mat a i k * mat b k j))) = rowT n a b i k (j + 1) := by
 unfold rowT
 rw [rowOf_rd _ hj, if_neg (Nat.lt_irrefl j), part_step, rowOf_set _ _ hj]
 refine rowOf_congr (fun q hq => ?_)
 by_cases e2 : q = j
 ·subst e2
  rw [if_pos rfl, if_pos (by omega)]
 ·rw [if_neg e2]
  by_cases c : q < j
  ·rw [if_pos c, if_pos (by omega)]
  ·rw [if_neg c, if_neg (by omega)]

include hn ha hb

theorem spInner (i k : Nat) (hi : i < n) (hk : k < n) (R : List (List Int)) (r : List (List Int)) (hr : Ev (fun f => spec_l02Product.l1 f a b R (i : Int) (rowT n a b i (k + 1) 0) ((k + 1 : Nat) : Int)) r) :
  ∀ (d j : Nat), j + d = n → Ev (fun f => spec_l02Product.l2 f a b R (i : Int) (rowT n a b i k j) (k : Int) (j : Int)) r := by
 have hbl := hb.2 k hk
 have hal := ha.2 i hi
 have ha1 := ha.1
 have hb1 := hb.1
 intro d
 induction d with
 | zero =>
  intro j hj
  obtain rfl : j = n := by omega
  refine Ev.succ ?_; simp only [spec_l02Product.l2]
  rw [wrap_succ (i := k) (by omega), rowT_next]
  exact Ev.neg (by omega) hr
 | succ d ih =>
  intro j hj
  have h1 := ih (j + 1) (by omega)
  have hl := rowT_length n a b i k j
  have hset := rowT_set n a b i k j (by omega)
  refine Ev.succ ?_; simp only [spec_l02Product.l2]
  rw [show rd (rd_L1 b (k : Int)) (j : Int) = mat b k j from rfl, show rd (rd_L1 a (i : Int)) (k : Int) = mat a i k from rfl, Int.toNat_natCast, hset, wrap_succ (i := j) (by omega)]
  exact Ev.pos (by omega) (Ev.pos (by omega) (Ev.pos (by omega) (Ev.pos (by omega) (Ev.pos (by omega) (Ev.pos (by omega) (Ev.pos (by omega) (Ev.pos (by omega) (Ev.pos (by omega) h1))))))))

theorem spMiddle (i : Nat) (hi : i < n) (R : List (List Int)) (hR : R.length ≤ 1000) (r : List (List Int)) (hr : Ev (fun f => spec_l02Product.l0 f a b (R ++ [rowOf n (part a b n i)]) ((i + 1 : Nat) : Int)) r) :
  ∀ (d k : Nat), k + d = n → Ev (fun f => spec_l02Product.l1 f a b R (i : Int) (rowT n a b i k 0) (k : Int)) r := by
 have hal := ha.2 i hi
 have ha1 := ha.1
 have hb1 := hb.1
 intro d
 induction d with
 | zero =>
  intro k hk
  obtain rfl : k = n := by omega
  refine Ev.succ ?_; simp only [spec_l02Product.l1]
  rw [rowT_full, wrap_succ (i := i) (by omega)]
  exact Ev.neg (by omega) (Ev.pos (by omega) hr)
 | succ d ih =>
  intro k hk
  have h1 := ih (k + 1) (by omega)
  refine Ev.succ ?_; simp only [spec_l02Product.l1]
  rw [show rd (rd_L1 a (i : Int)) (k : Int) = mat a i k from rfl, wrap_succ (i := k) (by omega)]
  refine Ev.pos (by omega) (Ev.pos (by omega) (Ev.pos (by omega) (Ev.pos (by omega) (Ev.pos (by omega) ?_))))
  by_cases c : mat a i k = 0
  ·rw [← rowT_skip n a b i k c] at h1
   exact Ev.pos c h1
  ·exact Ev.neg c (spInner n hn a b ha hb i k hi (by omega) R r h1 n 0 (by omega))

theorem specProduct : Ev (fun f => spec_l02Product.f f a b) (ofFn n (part a b n)) := by
 have ha1 := ha.1
 have hb1 := hb.1
 have main : ∀ (d i : Nat), i + d = n → Ev (fun f => spec_l02Product.l0 f a b (rowsT n a b i) (i : Int)) (ofFn n (part a b n)) := by
  intro d
  induction d with
  | zero =>
   intro i hi
   obtain rfl : i = n := by omega
   refine Ev.succ ?_; simp only [spec_l02Product.l0]
   exact Ev.neg (by omega) (Ev.now _)
  | succ d ih =>
   intro i hi
   have h1 := ih (i + 1) (by omega)
   have hl : (rowsT n a b i).length = i := by simp [rowsT]
   rw [show rowsT n a b (i + 1) = rowsT n a b i ++ [rowOf n (part a b n i)] from map_range_succ _ _] at h1
   refine Ev.succ ?_; simp only [spec_l02Product.l0]
   rw [hb1, Int.toNat_natCast, ← rowT_zero n a b i]
   exact Ev.pos (by omega) (Ev.pos (by omega) (Ev.pos (by omega) (spMiddle n hn a b ha hb i (by omega) _ (by omega) _ h1 n 0 (by omega))))
 exact main n 0 (by omega)

end

section
variable {n : Int} {l : List (List Int)} (h : isGraph n l = true)
include h

theorem specStraight (k : Nat) (hk : k ≤ 10) : Ev (fun f => spec_l02Straight.f f n l (k : Int)) (traces l k) := by
 obtain ⟨g1, g2, h10⟩ := graph_small h
 have hN : 2 * l.length ≤ 20 := by omega
 have hSq : Sq (2 * l.length) (ofFn (2 * l.length) (W l)) := Sq_ofFn _ _
 have main : ∀ (d i : Nat), i + d = k → Ev (fun f => spec_l02Straight.l0 f (d : Int) (ofFn (2 * l.length) (W l)) (traces l i) (ofFn (2 * l.length) (pw (2 * l.length) (W l) i))) (traces l k) := by
  intro d
  induction d with
  | zero =>
   intro i hi
   obtain rfl : i = k := by omega
   refine Ev.succ ?_; simp only [spec_l02Straight.l0]
   exact Ev.neg (by omega) (Ev.now _)
  | succ d ih =>
   intro i hi
   have h1 := ih (i + 1) (by omega)
   have hP : Sq (2 * l.length) (ofFn (2 * l.length) (pw (2 * l.length) (W l) i)) := Sq_ofFn _ _
   have hr := closedN_range l h10 (show i ≤ 12 by omega)
   have hm := specProduct (2 * l.length) (by omega) _ _ hP hSq
   have em : ofFn (2 * l.length) (part (ofFn (2 * l.length) (pw (2 * l.length) (W l) i)) (ofFn (2 * l.length) (W l)) (2 * l.length)) = ofFn (2 * l.length) (pw (2 * l.length) (W l) (i + 1)) := by
    refine ofFn_congr (fun p q hp hq => ?_)
    unfold part
    have e1 : Sm (2 * l.length) (fun m => mat (ofFn (2 * l.length) (pw (2 * l.length) (W l) i)) p m * mat (ofFn (2 * l.length) (W l)) m q) = pw (2 * l.length) (W l) (i + 1) p q := Sm_congr (fun m hm => by rw [ofFn_mat _ hp hm, ofFn_mat _ hm hq])
    have hb := pw_range l _ hN hp (i + 1) q
    have := pow20 (show i + 1 + 1 ≤ 13 by omega)
    rw [e1, wrap_id (by omega) (by omega)]
   rw [em] at hm
   have hl := traces_length l i
   rw [traces, map_range_succ] at h1
   have inner : ∀ (e j : Nat), j + e = 2 * l.length → Ev (fun f => spec_l02Straight.l1 f ((d + 1 : Nat) : Int) (ofFn (2 * l.length) (W l)) (traces l i) (ofFn (2 * l.length) (pw (2 * l.length) (W l) i)) (wrap64 (Sm j (fun p => pw (2 * l.length) (W l) i p p))) (j : Int)) (traces l k) := by
    intro e
    induction e with
    | zero =>
     intro j hj
     obtain rfl : j = 2 * l.length := by omega
     have et : wrap64 (Sm (2 * l.length) (fun p => pw (2 * l.length) (W l) i p p)) = closedN l i := wrap_id (by show _ ≤ closedN l i; omega) (by show closedN l i ≤ _; omega)
     have hpl := hP.1
     refine Ev.succ ?_; simp only [spec_l02Straight.l1]
     rw [et, show wrap64 (((d + 1 : Nat) : Int) - 1) = (d : Int) by rw [wrap_id (by omega) (by omega)]; omega]
     refine Ev.neg (by omega) (Ev.pos (by omega) (Ev.bind (Ev.now _) ?_))
     by_cases c : d = 0
     ·subst c
      refine Ev.neg (by omega) ?_
      -- the last round: the power is not told anew
      refine Ev.succ ?_
      simp only [spec_l02Straight.l0]
      obtain rfl : k = i + 1 := by omega
      rw [traces, traces, map_range_succ]
      exact Ev.neg (by omega) (Ev.now _)
     ·exact Ev.pos (by omega) (Ev.bind hm h1)
    | succ e ih2 =>
     intro j hj
     have h2 := ih2 (j + 1) (by omega)
     have hpl := hP.1
     have hpr := hP.2 j (by omega)
     have ej : rd (rd_L1 (ofFn (2 * l.length) (pw (2 * l.length) (W l) i)) (j : Int)) (j : Int) = pw (2 * l.length) (W l) i j j := ofFn_mat _ (by omega) (by omega)
     refine Ev.succ ?_; simp only [spec_l02Straight.l1]
     rw [ej, wrap_add_left, wrap_succ (i := j) (by omega)]
     exact Ev.pos (by omega) (Ev.pos (by omega) (Ev.pos (by omega) h2))
   have h0 := inner (2 * l.length) 0 (by omega)
   rw [show wrap64 (Sm 0 (fun p => pw (2 * l.length) (W l) i p p)) = 0 from wrap_id (x := 0) (by decide) (by decide)] at h0
   refine Ev.succ ?_; simp only [spec_l02Straight.l0]
   exact Ev.pos (by omega) h0
 have hE := specEdgeM h
 rw [edgeM_ofFn] at hE
 unfold spec_l02Straight.f
 exact Ev.bind hE (main k 0 (by omega))

end

theorem specMu2 (n : Nat) (h : 1 ≤ n ∧ n ≤ 12) : Ev (fun k => spec_l02Moebius.f k (n : Int)) (mu n) := by
 have : ∀ i : Fin 13, 1 ≤ i.val → spec_l02Moebius.f 20 (i.val : Int) = some (mu i.val) := by decide +kernel
 exact Ev.of (spec_l02Moebius.mono _) (this ⟨n, by omega⟩ h.1)

theorem specPrimeCounts (l : List (List Int)) (k : Nat) (hk : k ≤ 12) : Ev (fun f => spec_PrimeCounts.l0 f (k : Int) (traces l k) [] 1) ((List.range k).map (fun i => primeN l (i + 1)), 0) := by
 have hl := traces_length l k
 have outer : ∀ (d i : Nat), i + d = k → Ev (fun f => spec_PrimeCounts.l0 f (k : Int) (traces l k) ((List.range i).map (fun i => primeN l (i + 1))) ((i + 1 : Nat) : Int)) ((List.range k).map (fun i => primeN l (i + 1)), 0) := by
  intro d
  induction d with
  | zero =>
   intro i hi
   obtain rfl : i = k := by omega
   refine Ev.succ ?_; simp only [spec_PrimeCounts.l0]
   exact Ev.neg (by omega) (Ev.now _)
  | succ d ih =>
   intro i hi
   have h1 := ih (i + 1) (by omega)
   rw [map_range_succ] at h1
   have inner : ∀ (e j : Nat), j + e = i + 1 → Ev (fun f => spec_PrimeCounts.l1 f (k : Int) (traces l k) ((List.range i).map (fun i => primeN l (i + 1))) ((i + 1 : Nat) : Int) (wrap64 (prS l (i + 1) j)) ((j + 1 : Nat) : Int)) ((List.range k).map (fun i => primeN l (i + 1)), 0) := by
    intro e
    induction e with
    | zero =>
     intro j hj
     obtain rfl : j = i + 1 := by omega
     refine Ev.succ ?_; simp only [spec_PrimeCounts.l1]
     rw [wrap_succ (i := i + 1) (by omega)]
     refine Ev.neg (by omega) (Ev.neg (by omega) (Ev.pos (by simp; omega) ?_))
     exact h1
    | succ e ih2 =>
     intro j hj
     have h2 := ih2 (j + 1) (by omega)
     have hq := quot_range (i + 1) j ⟨by omega, by omega⟩ (by omega)
     refine Ev.succ ?_; simp only [spec_PrimeCounts.l1]
     rw [div_of (i + 1) (j + 1) (by omega) (by omega), mod_of, wrap_succ (i := j + 1) (by omega)]
     refine Ev.pos (by omega) (Ev.neg (by omega) ?_)
     by_cases c : (i + 1) % (j + 1) = 0
     ·have e1 : rd (traces l k) (j : Int) = closedN l j := rd_map_range _ (by omega)
      rw [← prS_hit l (i + 1) j c] at h2
      refine Ev.pos (by omega) (Ev.bind (specMu2 _ hq) ?_)
      rw [wrap_id (x := ((j + 1 : Nat) : Int) - 1) (by omega) (by omega), show ((j + 1 : Nat) : Int) - 1 = (j : Int) by omega, e1]
      exact Ev.pos (by omega) (Ev.pos (by omega) h2)
     ·rw [prS_miss l (i + 1) j c] at h2
      exact Ev.neg (by omega) h2
   have h0 := inner (i + 1) 0 (by omega)
   rw [show wrap64 (prS l (i + 1) 0) = 0 from wrap_id (x := 0) (by decide) (by decide)] at h0
   refine Ev.succ ?_; simp only [spec_PrimeCounts.l0]
   exact Ev.pos (by omega) h0
 exact outer k 0 (by omega)

/-- 1: no graph; 2: no number from lo to 10; 0: both are well. -/
def codeC (n : Int) (l : List (List Int)) (a lo : Int) : Int := if isGraph n l = true then (if lo ≤ a ∧ a ≤ 10 then 0 else 2) else 1

theorem specCodeC (n : Int) (l : List (List Int)) (a lo : Int) (hl : Mod l) : Ev (fun k => spec_l02Code.f k n l a lo) (codeC n l a lo) := by
 have h1 := specIs n l hl
 have hc := specIn a lo 10
 unfold spec_l02Code.f codeC
 by_cases hg : isGraph n l = true
 ·rw [hg] at h1
  rw [if_pos hg]
  by_cases c : lo ≤ a ∧ a ≤ 10
  ·rw [decide_eq_true c] at hc
   rw [if_pos c]
   repeat (first | with_reducible exact Ev.now _ | dsimp only | with_reducible refine Ev.bind (h1) ?_ | with_reducible refine Ev.bind (Ev.eq hc) ?_ | refine Ev.pos (by first | omega | rfl | assumption | decide) ?_ | refine Ev.neg (by first | omega | assumption | exact Bool.false_ne_true | exact fun e => absurd e (by decide)) ?_ | simp only [bne_self_eq_false, Bool.not_true, Bool.not_false, List.length_cons, List.length_nil] | rw [wrap_id (by omega) (by omega)] | with_reducible exact (h1) | with_reducible exact (Ev.eq hc) | ((with_reducible refine Ev.eq (congrArg some ?_)); rfl))
  ·rw [decide_eq_false c] at hc
   rw [if_neg c]
   repeat (first | with_reducible exact Ev.now _ | dsimp only | with_reducible refine Ev.bind (h1) ?_ | with_reducible refine Ev.bind (Ev.eq hc) ?_ | refine Ev.pos (by first | omega | rfl | assumption | decide) ?_ | refine Ev.neg (by first | omega | assumption | exact Bool.false_ne_true | exact fun e => absurd e (by decide)) ?_ | simp only [bne_self_eq_false, Bool.not_true, Bool.not_false, List.length_cons, List.length_nil] | rw [wrap_id (by omega) (by omega)] | with_reducible exact (h1) | with_reducible exact (Ev.eq hc) | ((with_reducible refine Ev.eq (congrArg some ?_)); rfl))
 ·rw [Bool.not_eq_true] at hg
  rw [hg] at h1
  rw [if_neg (by rw [hg]; decide)]
  repeat (first | with_reducible exact Ev.now _ | dsimp only | with_reducible refine Ev.bind (h1) ?_ | refine Ev.pos (by first | omega | rfl | assumption | decide) ?_ | refine Ev.neg (by first | omega | assumption | exact Bool.false_ne_true | exact fun e => absurd e (by decide)) ?_ | simp only [bne_self_eq_false, Bool.not_true, Bool.not_false, List.length_cons, List.length_nil] | rw [wrap_id (by omega) (by omega)] | with_reducible exact (h1) | ((with_reducible refine Ev.eq (congrArg some ?_)); rfl))

theorem codeC_zero {n : Int} {l : List (List Int)} {a lo : Int} (h : codeC n l a lo = 0) : isGraph n l = true ∧ lo ≤ a ∧ a ≤ 10 := by
 unfold codeC at h
 by_cases hg : isGraph n l = true
 ·rw [if_pos hg] at h
  by_cases c : lo ≤ a ∧ a ≤ 10
  ·exact ⟨hg, c⟩
  ·rw [if_neg c] at h
   cases h
 ·rw [if_neg hg] at h
  cases h

theorem implCodeS (n : Int) (l : List (List Int)) (a : Int) (hl : Mod l) : Ev (fun k => impl_graphCode_at_StraightCounts_1.f k n l a) (codeC n l a 1) := by
 have h1 := implIsGraph n l hl
 unfold impl_graphCode_at_StraightCounts_1.f impl_StraightCounts_1.f codeC
 rw [implWithin]
 by_cases hg : isGraph n l = true
 ·rw [hg] at h1
  rw [if_pos hg]
  by_cases c : 1 ≤ a ∧ a ≤ 10
  ·rw [decide_eq_true c, if_pos c]
   exact Ev.bind h1 (Ev.pos rfl (Ev.bind (Ev.now _) (Ev.pos rfl (Ev.now _))))
  ·rw [decide_eq_false c, if_neg c]
   exact Ev.bind h1 (Ev.pos rfl (Ev.bind (Ev.now _) (Ev.neg (by decide) (Ev.now _))))
 ·rw [Bool.not_eq_true] at hg
  rw [hg] at h1
  rw [if_neg (by rw [hg]; decide)]
  exact Ev.bind h1 (Ev.neg (by decide) (Ev.now _))

/-- What both sides answer. -/
def straightR (n : Int) (l : List (List Int)) (a : Int) : List Int × Int := if codeC n l a 1 = 0 then (traces l a.toNat, 0) else ([], codeC n l a 1)

theorem implStraightCounts (n : Int) (l : List (List Int)) (a : Int) (hl : Mod l) : Ev (fun k => impl_StraightCounts.f k n l a) (straightR n l a) := by
 unfold impl_StraightCounts.f straightR
 have h1 := implCodeS n l a hl
 by_cases c : codeC n l a 1 = 0
 ·obtain ⟨hg, ha, hb⟩ := codeC_zero c
  obtain ⟨g1, g2, g3⟩ := graph_small hg
  obtain ⟨k, rfl⟩ := Int.eq_ofNat_of_zero_le (show 0 ≤ a by omega)
  rw [if_pos c]
  exact Ev.bind h1 (Ev.pos c (Ev.bind (implEdgeM hg) (Ev.bind (implTraces g3 k (by omega)) (Ev.now _))))
 ·rw [if_neg c]
  exact Ev.bind h1 (Ev.neg c (Ev.now _))
theorem primes_same (n : Int) (l : List (List Int)) (a : Int) (hl : Mod l) : ∃ r : List Int × Int, r.1.length ≤ 1048576 ∧ Ev (fun k => spec_PrimeCounts.f k n l a) r ∧ Ev (fun k => impl_PrimeCounts.f k n l a) r := by
 unfold spec_PrimeCounts.f impl_PrimeCounts.f
 have h1 := specCodeC n l a 1 hl
 have h2 := implStraightCounts n l a hl
 by_cases c : codeC n l a 1 = 0
 ·obtain ⟨hg, ha, hb⟩ := codeC_zero c
  obtain ⟨k, rfl⟩ := Int.eq_ofNat_of_zero_le (show 0 ≤ a by omega)
  have e : straightR n l (k : Int) = (traces l k, 0) := by
   unfold straightR
   rw [if_pos c, Int.toNat_natCast]
  rw [e] at h2
  refine ⟨((List.range k).map (fun i => primeN l (i + 1)), 0), ?_, ?_, ?_⟩
  ·show ((List.range k).map (fun i => primeN l (i + 1))).length ≤ _
   simp
   omega
  ·exact Ev.bind h1 (Ev.pos c (Ev.bind (specStraight hg k (by omega)) (specPrimeCounts l k (by omega))))
  ·exact Ev.bind h2 (Ev.pos rfl (Ev.bind (implPrimes l k (by omega)) (Ev.now _)))
 ·have e : straightR n l a = ([], codeC n l a 1) := by
   unfold straightR
   rw [if_neg c]
  rw [e] at h2
  exact ⟨([], codeC n l a 1), by simp, Ev.bind h1 (Ev.neg c (Ev.now _)), Ev.bind h2 (Ev.neg c (Ev.now _))⟩

theorem FnExactPrimeCounts : laws_FnExactPrimeCounts.Pure := by
 intro n l a _ hl hr _
 refine Ev.rounds ?_
 unfold laws_FnExactPrimeCounts.f
 refine Ev.ex (szGraph n l hl hr) (fun t ht => ?_)
 rcases ht with ht | ht
 ·repeat (first | with_reducible exact Ev.now _ | dsimp only | refine Ev.pos (by first | omega | rfl | assumption | decide) ?_ | refine Ev.neg (by first | omega | assumption | exact Bool.false_ne_true | exact fun e => absurd e (by decide)) ?_ | simp only [bne_self_eq_false, Bool.not_true, Bool.not_false, List.length_cons, List.length_nil] | rw [wrap_id (by omega) (by omega)] | ((with_reducible refine Ev.eq (congrArg some ?_)); rfl))
 by_cases h0 : t < 0
 ·repeat (first | with_reducible exact Ev.now _ | dsimp only | refine Ev.pos (by first | omega | rfl | assumption | decide) ?_ | refine Ev.neg (by first | omega | assumption | exact Bool.false_ne_true | exact fun e => absurd e (by decide)) ?_ | simp only [bne_self_eq_false, Bool.not_true, Bool.not_false, List.length_cons, List.length_nil] | rw [wrap_id (by omega) (by omega)] | ((with_reducible refine Ev.eq (congrArg some ?_)); rfl))
 obtain ⟨r, hr, hs, hi⟩ := primes_same n l a ht
 obtain ⟨q, hq, hq0, hq1⟩ := markGraph n l ht
 repeat (first | with_reducible exact Ev.now _ | dsimp only | with_reducible refine Ev.bind (toGraph n l ht) ?_ | with_reducible refine Ev.bind (hs) ?_ | with_reducible refine Ev.bind (hi) ?_ | with_reducible refine Ev.bind (eqInt64S_self r.1 hr) ?_ | with_reducible refine Ev.bind (eqGraph_self n l ht) ?_ | with_reducible refine Ev.bind (hq) ?_ | with_reducible refine Ev.bind (markInt64S r.1 hr 1 (by omega) (by omega)) ?_ | with_reducible refine Ev.bind (heldInt64S 1 r.1.length hr (by omega) (by omega)) ?_ | refine Ev.pos (by first | omega | rfl | assumption | decide) ?_ | refine Ev.neg (by first | omega | assumption | exact Bool.false_ne_true | exact fun e => absurd e (by decide)) ?_ | simp only [bne_self_eq_false, Bool.not_true, Bool.not_false, List.length_cons, List.length_nil] | rw [wrap_id (by omega) (by omega)] | with_reducible exact (toGraph n l ht) | with_reducible exact (hs) | with_reducible exact (hi) | with_reducible exact (eqInt64S_self r.1 hr) | with_reducible exact (eqGraph_self n l ht) | with_reducible exact (hq) | with_reducible exact (markInt64S r.1 hr 1 (by omega) (by omega)) | with_reducible exact (heldInt64S 1 r.1.length hr (by omega) (by omega)) | ((with_reducible refine Ev.eq (congrArg some ?_)); rfl))
end Go.Proofs.Yteeoehohocoecaa.Pure
