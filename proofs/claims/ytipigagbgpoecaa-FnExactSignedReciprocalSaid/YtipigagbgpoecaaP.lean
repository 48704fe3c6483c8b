/- The plain proofs for this law. -/
import Derived.Test.YtipigagbgpoecaaC4
import Derived.Test.YtipigagbgpoecaaAux
namespace Go.Proofs.Ytipigagbgpoecaa.Pure
open Go.RowKit Go.Proofs.Ytipigagbgpoecaa.G Go.Proofs.YtipigagbgpoecaaW.PrintWords Go.Proofs.YtipigagbgpoecaaW.PrintLast Go.Proofs.YtipigagbgpoecaaW.PrintMore Go.Proofs.Ytipigagbgpoecaa.Aux
set_option linter.unusedVariables false
set_option linter.unusedSimpArgs false

theorem toInt64S_loop (l : List Int) (hl : l.length ≤ 1048576) : ∀ (d i : Nat) (ys : List Int), i + d = l.length → ys.length = l.length → ys.take i = l.take i →
  Ev (fun k => laws_toInt64S.l0 k l ys (i : Int)) l := by
 intro d
 induction d with
 | zero =>
  intro i ys hi hy ht
  refine Ev.succ ?_; simp only [laws_toInt64S.l0]
  repeat (first | with_reducible exact Ev.now _ | dsimp only | refine Ev.pos (by first | omega | rfl | assumption | decide) ?_ | refine Ev.neg (by first | omega | assumption | exact Bool.false_ne_true | exact fun e => absurd e (by decide)) ?_ | simp only [bne_self_eq_false, Bool.not_true, Bool.not_false, List.length_cons, List.length_nil] | rw [wrap_id (by omega) (by omega)] | ((with_reducible refine Ev.eq (congrArg some ?_)); rfl))
  exact Ev.eq (congrArg some (eq_of_take hy (by omega) ht))
 | succ d ih =>
  intro i ys hi hy ht
  refine Ev.succ ?_; simp only [laws_toInt64S.l0]
  rw [wrap_succ (by omega)]
  repeat (first | with_reducible exact Ev.now _ | dsimp only | refine Ev.pos (by first | omega | rfl | assumption | decide) ?_ | refine Ev.neg (by first | omega | assumption | exact Bool.false_ne_true | exact fun e => absurd e (by decide)) ?_ | simp only [bne_self_eq_false, Bool.not_true, Bool.not_false, List.length_cons, List.length_nil] | rw [wrap_id (by omega) (by omega)] | ((with_reducible refine Ev.eq (congrArg some ?_)); rfl))
  exact ih (i + 1) _ (by omega) (by simpa using hy) (take_set_succ hy (by omega) (rd_lt (by omega)) ht)

theorem toInt64S (l : List Int) (hl : l.length ≤ 1048576) : Ev (fun k => laws_toInt64S.f k l) l := by
 unfold laws_toInt64S.f
 repeat (first | with_reducible exact Ev.now _ | dsimp only | refine Ev.pos (by first | omega | rfl | assumption | decide) ?_ | refine Ev.neg (by first | omega | assumption | exact Bool.false_ne_true | exact fun e => absurd e (by decide)) ?_ | simp only [bne_self_eq_false, Bool.not_true, Bool.not_false, List.length_cons, List.length_nil] | rw [wrap_id (by omega) (by omega)] | ((with_reducible refine Ev.eq (congrArg some ?_)); rfl))
 exact toInt64S_loop l hl l.length 0 _ (by omega) (by simp) (by simp)

theorem eqInt64S_loop (a b : List Int) (hl : a.length ≤ 1048576) (hab : a.length = b.length) : ∀ (d i : Nat), i + d = a.length →
  Ev (fun k => laws_eqInt64S.l0 k a b (i : Int)) (decide (a.drop i = b.drop i)) := by
 intro d
 induction d with
 | zero =>
  intro i hi
  refine Ev.succ ?_; simp only [laws_eqInt64S.l0]
  rw [List.drop_eq_nil_of_le (by omega), List.drop_eq_nil_of_le (by omega)]
  repeat (first | with_reducible exact Ev.now _ | dsimp only | refine Ev.pos (by first | omega | rfl | assumption | decide) ?_ | refine Ev.neg (by first | omega | assumption | exact Bool.false_ne_true | exact fun e => absurd e (by decide)) ?_ | simp only [bne_self_eq_false, Bool.not_true, Bool.not_false, List.length_cons, List.length_nil] | rw [wrap_id (by omega) (by omega)] | ((with_reducible refine Ev.eq (congrArg some ?_)); rfl))
 | succ d ih =>
  intro i hi
  refine Ev.succ ?_; simp only [laws_eqInt64S.l0]
  rw [List.drop_eq_getElem_cons (by omega : i < a.length), List.drop_eq_getElem_cons (by omega : i < b.length), wrap_succ (by omega)]
  by_cases e : rd a i = rd b i
  ·repeat (first | with_reducible exact Ev.now _ | dsimp only | refine Ev.pos (by first | omega | rfl | assumption | decide) ?_ | refine Ev.neg (by first | omega | assumption | exact Bool.false_ne_true | exact fun e => absurd e (by decide)) ?_ | simp only [bne_self_eq_false, Bool.not_true, Bool.not_false, List.length_cons, List.length_nil] | rw [wrap_id (by omega) (by omega)] | ((with_reducible refine Ev.eq (congrArg some ?_)); rfl))
   have := ih (i + 1) (by omega)
   rw [rd_lt (by omega), rd_lt (by omega)] at e
   rw [e, decide_cons]
   exact this
  ·rw [decide_eq_false (fun h => e (by rw [rd_lt (by omega), rd_lt (by omega)]; exact (List.cons.inj h).1))]
   repeat (first | with_reducible exact Ev.now _ | dsimp only | refine Ev.pos (by first | omega | rfl | assumption | decide) ?_ | refine Ev.neg (by first | omega | assumption | exact Bool.false_ne_true | exact fun e => absurd e (by decide)) ?_ | simp only [bne_self_eq_false, Bool.not_true, Bool.not_false, List.length_cons, List.length_nil] | rw [wrap_id (by omega) (by omega)] | ((with_reducible refine Ev.eq (congrArg some ?_)); rfl))

theorem eqInt64S (a b : List Int) (hl : a.length ≤ 1048576) : Ev (fun k => laws_eqInt64S.f k a b) (decide (a = b)) := by
 unfold laws_eqInt64S.f
 by_cases h : a.length = b.length
 ·repeat (first | with_reducible exact Ev.now _ | dsimp only | refine Ev.pos (by first | omega | rfl | assumption | decide) ?_ | refine Ev.neg (by first | omega | assumption | exact Bool.false_ne_true | exact fun e => absurd e (by decide)) ?_ | simp only [bne_self_eq_false, Bool.not_true, Bool.not_false, List.length_cons, List.length_nil] | rw [wrap_id (by omega) (by omega)] | ((with_reducible refine Ev.eq (congrArg some ?_)); rfl))
  exact eqInt64S_loop a b hl h a.length 0 (by omega)
 ·rw [decide_eq_false (fun e => h (by rw [e]))]
  repeat (first | with_reducible exact Ev.now _ | dsimp only | refine Ev.pos (by first | omega | rfl | assumption | decide) ?_ | refine Ev.neg (by first | omega | assumption | exact Bool.false_ne_true | exact fun e => absurd e (by decide)) ?_ | simp only [bne_self_eq_false, Bool.not_true, Bool.not_false, List.length_cons, List.length_nil] | rw [wrap_id (by omega) (by omega)] | ((with_reducible refine Ev.eq (congrArg some ?_)); rfl))

theorem eqInt64S_self (a : List Int) (hl : a.length ≤ 1048576) : Ev (fun k => laws_eqInt64S.f k a a) true :=
 Ev.conv (eqInt64S a a hl) (by simp)
theorem rl_lt {xs : List (List Int)} {i : Nat} (h : i < xs.length) : rd_L1 xs (i : Int) = xs[i] := by
 simp [rd_L1, List.getD_eq_getElem?_getD, h]

/-- Rows of which each, and their number, is of a moderate size. -/
def Mod (l : List (List Int)) : Prop := l.length ≤ 1048576 ∧ ∀ r ∈ l, r.length ≤ 1048576

theorem Mod.row {l : List (List Int)} (h : Mod l) {i : Nat} (hi : i < l.length) : l[i].length ≤ 1048576 := h.2 _ (List.getElem_mem hi)

theorem szInt64S (l : List Int) (a : Int) (h0 : 0 ≤ a) (h1 : a ≤ 1048576) (hl : l.length ≤ 9223372036854775807) : ∃ t, laws_szInt64S.f l a = some t ∧ (t < 0 ∨ (l.length ≤ 1048576 ∧ 0 ≤ t ∧ t ≤ a)) := by
 unfold laws_szInt64S.f
 rw [wrap_id (by omega) (by omega)]
 by_cases h : a - (l.length : Int) < 0
 ·exact ⟨-1, if_pos h, Or.inl (by omega)⟩
 ·exact ⟨_, if_neg h, Or.inr (by omega)⟩

theorem szInt64SS_loop (l : List (List Int)) (hl : l.length ≤ 1048576) (hr : ∀ r ∈ l, r.length ≤ 9223372036854775807) : ∀ (d i : Nat) (a : Int), i + d = l.length → 0 ≤ a → a ≤ 1048576 → (∀ j, (h : j < l.length) → j < i → l[j].length ≤ 1048576) →
  ∃ t, Ev (fun k => laws_szInt64SS.l0 k l a (i : Int)) t ∧ (t < 0 ∨ (Mod l ∧ 0 ≤ t ∧ t ≤ 1048576)) := by
 intro d
 induction d with
 | zero =>
  intro i a hi h0 h1 hm
  refine ⟨a, ?_, Or.inr ⟨⟨hl, fun r h => ?_⟩, h0, h1⟩⟩
  ·refine Ev.succ ?_; simp only [laws_szInt64SS.l0]
   repeat (first | with_reducible exact Ev.now _ | dsimp only | refine Ev.pos (by first | omega | rfl | assumption | decide) ?_ | refine Ev.neg (by first | omega | assumption | exact Bool.false_ne_true | exact fun e => absurd e (by decide)) ?_ | simp only [bne_self_eq_false, Bool.not_true, Bool.not_false, List.length_cons, List.length_nil] | rw [wrap_id (by omega) (by omega)] | ((with_reducible refine Ev.eq (congrArg some ?_)); rfl))
  ·obtain ⟨j, hj, rfl⟩ := List.getElem_of_mem h
   exact hm j hj (by omega)
 | succ d ih =>
  intro i a hi h0 h1 hm
  obtain ⟨t, ht, hc⟩ := szInt64S (l[i]'(by omega)) a h0 h1 (hr _ (List.getElem_mem _))
  rw [← rl_lt (by omega)] at ht
  rcases hc with hc | ⟨hc, hc0, hc1⟩
  ·refine ⟨-1, ?_, Or.inl (by omega)⟩
   refine Ev.succ ?_; simp only [laws_szInt64SS.l0]
   repeat (first | with_reducible exact Ev.now _ | dsimp only | with_reducible refine Ev.bind (Ev.eq ht) ?_ | refine Ev.pos (by first | omega | rfl | assumption | decide) ?_ | refine Ev.neg (by first | omega | assumption | exact Bool.false_ne_true | exact fun e => absurd e (by decide)) ?_ | simp only [bne_self_eq_false, Bool.not_true, Bool.not_false, List.length_cons, List.length_nil] | rw [wrap_id (by omega) (by omega)] | with_reducible exact (Ev.eq ht) | ((with_reducible refine Ev.eq (congrArg some ?_)); rfl))
  ·obtain ⟨t', h1', h2'⟩ := ih (i + 1) t (by omega) hc0 (by omega) (fun j hj hji => by
    by_cases e : j = i
    ·subst e; exact hc
    ·exact hm j hj (by omega))
   refine ⟨t', ?_, h2'⟩
   refine Ev.succ ?_; simp only [laws_szInt64SS.l0]
   rw [wrap_succ (by omega)]
   repeat (first | with_reducible exact Ev.now _ | dsimp only | with_reducible refine Ev.bind (Ev.eq ht) ?_ | refine Ev.pos (by first | omega | rfl | assumption | decide) ?_ | refine Ev.neg (by first | omega | assumption | exact Bool.false_ne_true | exact fun e => absurd e (by decide)) ?_ | simp only [bne_self_eq_false, Bool.not_true, Bool.not_false, List.length_cons, List.length_nil] | rw [wrap_id (by omega) (by omega)] | with_reducible exact (Ev.eq ht) | ((with_reducible refine Ev.eq (congrArg some ?_)); rfl))
   exact h1'

theorem szInt64SS (l : List (List Int)) (a : Int) (h0 : 0 ≤ a) (h1 : a ≤ 1048576) (hl : l.length ≤ 9223372036854775807) (hr : ∀ r ∈ l, r.length ≤ 9223372036854775807) : ∃ t, Ev (fun k => laws_szInt64SS.f k l a) t ∧ (t < 0 ∨ (Mod l ∧ 0 ≤ t ∧ t ≤ 1048576)) := by
 unfold laws_szInt64SS.f
 rw [wrap_id (by omega) (by omega)]
 by_cases h : a - (l.length : Int) < 0
 ·refine ⟨-1, ?_, Or.inl (by omega)⟩
  repeat (first | with_reducible exact Ev.now _ | dsimp only | refine Ev.pos (by first | omega | rfl | assumption | decide) ?_ | refine Ev.neg (by first | omega | assumption | exact Bool.false_ne_true | exact fun e => absurd e (by decide)) ?_ | simp only [bne_self_eq_false, Bool.not_true, Bool.not_false, List.length_cons, List.length_nil] | rw [wrap_id (by omega) (by omega)] | ((with_reducible refine Ev.eq (congrArg some ?_)); rfl))
 ·obtain ⟨t, h1, h2⟩ := szInt64SS_loop l (by omega) hr l.length 0 (a - (l.length : Int)) (by omega) (by omega) (by omega) (fun j _ hj => by omega)
  refine ⟨t, ?_, h2⟩
  repeat (first | with_reducible exact Ev.now _ | dsimp only | refine Ev.pos (by first | omega | rfl | assumption | decide) ?_ | refine Ev.neg (by first | omega | assumption | exact Bool.false_ne_true | exact fun e => absurd e (by decide)) ?_ | simp only [bne_self_eq_false, Bool.not_true, Bool.not_false, List.length_cons, List.length_nil] | rw [wrap_id (by omega) (by omega)] | ((with_reducible refine Ev.eq (congrArg some ?_)); rfl))
  exact h1

theorem szGraph (n : Int) (l : List (List Int)) (hl : l.length ≤ maxLen) (hr : ∀ r ∈ l, r.length ≤ maxLen ∧ ∀ y ∈ r, (Lit.int .i64 y).wf = true) : ∃ t, Ev (fun k => laws_szGraph.f k n l 1048576) t ∧ (t < 0 ∨ Mod l) := by
 obtain ⟨t, h1, h2⟩ := szInt64SS l 1048576 (by omega) (by omega) (by simp [maxLen] at hl; omega) (fun r h => by have := (hr r h).1; simp [maxLen] at this; omega)
 unfold laws_szGraph.f
 rcases h2 with h2 | ⟨h2, h3, h4⟩
 ·refine ⟨-1, ?_, Or.inl (by omega)⟩
  repeat (first | with_reducible exact Ev.now _ | dsimp only | with_reducible refine Ev.bind (h1) ?_ | refine Ev.pos (by first | omega | rfl | assumption | decide) ?_ | refine Ev.neg (by first | omega | assumption | exact Bool.false_ne_true | exact fun e => absurd e (by decide)) ?_ | simp only [bne_self_eq_false, Bool.not_true, Bool.not_false, List.length_cons, List.length_nil] | rw [wrap_id (by omega) (by omega)] | with_reducible exact (h1) | ((with_reducible refine Ev.eq (congrArg some ?_)); rfl))
 ·refine ⟨t, ?_, Or.inr h2⟩
  repeat (first | with_reducible exact Ev.now _ | dsimp only | with_reducible refine Ev.bind (h1) ?_ | refine Ev.pos (by first | omega | rfl | assumption | decide) ?_ | refine Ev.neg (by first | omega | assumption | exact Bool.false_ne_true | exact fun e => absurd e (by decide)) ?_ | simp only [bne_self_eq_false, Bool.not_true, Bool.not_false, List.length_cons, List.length_nil] | rw [wrap_id (by omega) (by omega)] | with_reducible exact (h1) | ((with_reducible refine Ev.eq (congrArg some ?_)); rfl))

theorem toInt64SS_loop (l : List (List Int)) (hl : Mod l) : ∀ (d i : Nat) (ys : List (List Int)), i + d = l.length → ys.length = l.length → ys.take i = l.take i →
  Ev (fun k => laws_toInt64SS.l0 k l ys (i : Int)) l := by
 have hl1 := hl.1
 intro d
 induction d with
 | zero =>
  intro i ys hi hy ht
  refine Ev.succ ?_; simp only [laws_toInt64SS.l0]
  repeat (first | with_reducible exact Ev.now _ | dsimp only | refine Ev.pos (by first | omega | rfl | assumption | decide) ?_ | refine Ev.neg (by first | omega | assumption | exact Bool.false_ne_true | exact fun e => absurd e (by decide)) ?_ | simp only [bne_self_eq_false, Bool.not_true, Bool.not_false, List.length_cons, List.length_nil] | rw [wrap_id (by omega) (by omega)] | ((with_reducible refine Ev.eq (congrArg some ?_)); rfl))
  exact Ev.eq (congrArg some (eq_of_take hy (by omega) ht))
 | succ d ih =>
  intro i ys hi hy ht
  refine Ev.succ ?_; simp only [laws_toInt64SS.l0]
  rw [wrap_succ (by omega), rl_lt (by omega)]
  repeat (first | with_reducible exact Ev.now _ | dsimp only | with_reducible refine Ev.bind (toInt64S _ (hl.row (by omega))) ?_ | refine Ev.pos (by first | omega | rfl | assumption | decide) ?_ | refine Ev.neg (by first | omega | assumption | exact Bool.false_ne_true | exact fun e => absurd e (by decide)) ?_ | simp only [bne_self_eq_false, Bool.not_true, Bool.not_false, List.length_cons, List.length_nil] | rw [wrap_id (by omega) (by omega)] | with_reducible exact (toInt64S _ (hl.row (by omega))) | ((with_reducible refine Ev.eq (congrArg some ?_)); rfl))
  exact ih (i + 1) _ (by omega) (by simpa using hy) (take_set_succ hy (by omega) rfl ht)

theorem toInt64SS (l : List (List Int)) (hl : Mod l) : Ev (fun k => laws_toInt64SS.f k l) l := by
 have hl1 := hl.1
 unfold laws_toInt64SS.f
 repeat (first | with_reducible exact Ev.now _ | dsimp only | refine Ev.pos (by first | omega | rfl | assumption | decide) ?_ | refine Ev.neg (by first | omega | assumption | exact Bool.false_ne_true | exact fun e => absurd e (by decide)) ?_ | simp only [bne_self_eq_false, Bool.not_true, Bool.not_false, List.length_cons, List.length_nil] | rw [wrap_id (by omega) (by omega)] | ((with_reducible refine Ev.eq (congrArg some ?_)); rfl))
 exact toInt64SS_loop l hl l.length 0 _ (by omega) (by simp) (by simp)

theorem toGraph (n : Int) (l : List (List Int)) (hl : Mod l) : Ev (fun k => laws_toGraph.f k n l) (n, l) := by
 unfold laws_toGraph.f
 repeat (first | with_reducible exact Ev.now _ | dsimp only | with_reducible refine Ev.bind (toInt64SS l hl) ?_ | refine Ev.pos (by first | omega | rfl | assumption | decide) ?_ | refine Ev.neg (by first | omega | assumption | exact Bool.false_ne_true | exact fun e => absurd e (by decide)) ?_ | simp only [bne_self_eq_false, Bool.not_true, Bool.not_false, List.length_cons, List.length_nil] | rw [wrap_id (by omega) (by omega)] | with_reducible exact (toInt64SS l hl) | ((with_reducible refine Ev.eq (congrArg some ?_)); rfl))

theorem eqInt64SS_self_loop (a : List (List Int)) (hl : Mod a) : ∀ (d i : Nat), i + d = a.length →
  Ev (fun k => laws_eqInt64SS.l0 k a a (i : Int)) true := by
 have hl1 := hl.1
 intro d
 induction d with
 | zero =>
  intro i hi
  refine Ev.succ ?_; simp only [laws_eqInt64SS.l0]
  repeat (first | with_reducible exact Ev.now _ | dsimp only | refine Ev.pos (by first | omega | rfl | assumption | decide) ?_ | refine Ev.neg (by first | omega | assumption | exact Bool.false_ne_true | exact fun e => absurd e (by decide)) ?_ | simp only [bne_self_eq_false, Bool.not_true, Bool.not_false, List.length_cons, List.length_nil] | rw [wrap_id (by omega) (by omega)] | ((with_reducible refine Ev.eq (congrArg some ?_)); rfl))
 | succ d ih =>
  intro i hi
  refine Ev.succ ?_; simp only [laws_eqInt64SS.l0]
  rw [rl_lt (by omega), wrap_succ (by omega)]
  repeat (first | with_reducible exact Ev.now _ | dsimp only | with_reducible refine Ev.bind (eqInt64S_self _ (hl.row (by omega))) ?_ | refine Ev.pos (by first | omega | rfl | assumption | decide) ?_ | refine Ev.neg (by first | omega | assumption | exact Bool.false_ne_true | exact fun e => absurd e (by decide)) ?_ | simp only [bne_self_eq_false, Bool.not_true, Bool.not_false, List.length_cons, List.length_nil] | rw [wrap_id (by omega) (by omega)] | with_reducible exact (eqInt64S_self _ (hl.row (by omega))) | ((with_reducible refine Ev.eq (congrArg some ?_)); rfl))
  exact ih (i + 1) (by omega)

theorem eqInt64SS_self (a : List (List Int)) (hl : Mod a) : Ev (fun k => laws_eqInt64SS.f k a a) true := by
 unfold laws_eqInt64SS.f
 repeat (first | with_reducible exact Ev.now _ | dsimp only | refine Ev.pos (by first | omega | rfl | assumption | decide) ?_ | refine Ev.neg (by first | omega | assumption | exact Bool.false_ne_true | exact fun e => absurd e (by decide)) ?_ | simp only [bne_self_eq_false, Bool.not_true, Bool.not_false, List.length_cons, List.length_nil] | rw [wrap_id (by omega) (by omega)] | ((with_reducible refine Ev.eq (congrArg some ?_)); rfl))
 exact eqInt64SS_self_loop a hl a.length 0 (by omega)

theorem eqGraph_self (n : Int) (a : List (List Int)) (hl : Mod a) : Ev (fun k => laws_eqGraph.f k n a n a) true := by
 unfold laws_eqGraph.f
 repeat (first | with_reducible exact Ev.now _ | dsimp only | with_reducible refine Ev.bind (eqInt64SS_self a hl) ?_ | refine Ev.pos (by first | omega | rfl | assumption | decide) ?_ | refine Ev.neg (by first | omega | assumption | exact Bool.false_ne_true | exact fun e => absurd e (by decide)) ?_ | simp only [bne_self_eq_false, Bool.not_true, Bool.not_false, List.length_cons, List.length_nil] | rw [wrap_id (by omega) (by omega)] | with_reducible exact (eqInt64SS_self a hl) | ((with_reducible refine Ev.eq (congrArg some ?_)); rfl))
theorem specIn (a b c : Int) : spec_l01In.f a b c = some (decide (b ≤ a ∧ a ≤ c)) := by
 unfold spec_l01In.f
 by_cases h : b ≤ a
 ·rw [if_pos h]; simp [h]
 ·rw [if_neg h]; simp [h]

theorem implWithin (a b c : Int) : impl_within.f a b c = some (decide (b ≤ a ∧ a ≤ c)) := by
 unfold impl_within.f
 by_cases h : b ≤ a
 ·rw [if_pos h]; simp [h]
 ·rw [if_neg h]; simp [h]

/-- One edge's test. -/
def okEdge (n : Int) (e : List Int) : Bool := decide (e.length = 2) && (decide (0 ≤ rd e 0 ∧ rd e 0 ≤ wrap64 (n - 1)) && decide (0 ≤ rd e 1 ∧ rd e 1 ≤ wrap64 (n - 1)))

def isGraph (n : Int) (l : List (List Int)) : Bool := l.all (okEdge n) && (decide (1 ≤ n ∧ n ≤ 8) && decide ((l.length : Int) ≤ 10))

theorem specIs_loop (n : Int) (l : List (List Int)) (hl : Mod l) : ∀ (d i : Nat), i + d = l.length →
  Ev (fun k => spec_l01Is.l0 k (i : Int) n l) ((l.drop i).all (okEdge n)) := by
 have hl1 := hl.1
 intro d
 induction d with
 | zero =>
  intro i hi
  refine Ev.succ ?_; simp only [spec_l01Is.l0]
  rw [List.drop_eq_nil_of_le (by omega)]
  repeat (first | with_reducible exact Ev.now _ | dsimp only | refine Ev.pos (by first | omega | rfl | assumption | decide) ?_ | refine Ev.neg (by first | omega | assumption | exact Bool.false_ne_true | exact fun e => absurd e (by decide)) ?_ | simp only [bne_self_eq_false, Bool.not_true, Bool.not_false, List.length_cons, List.length_nil] | rw [wrap_id (by omega) (by omega)] | ((with_reducible refine Ev.eq (congrArg some ?_)); rfl))
 | succ d ih =>
  intro i hi
  refine Ev.succ ?_; simp only [spec_l01Is.l0]
  rw [List.drop_eq_getElem_cons (by omega : i < l.length), List.all_cons, rl_lt (by omega), wrap_succ (by omega)]
  generalize l[i] = e
  have := ih (i + 1) (by omega)
  unfold okEdge
  by_cases h2 : (e.length : Int) = 2
  ·rw [decide_eq_true (show e.length = 2 by omega), Bool.true_and]
   by_cases ha : 0 ≤ rd e 0 ∧ rd e 0 ≤ wrap64 (n - 1)
   ·by_cases hb : 0 ≤ rd e 1 ∧ rd e 1 ≤ wrap64 (n - 1)
    ·rw [decide_eq_true ha, decide_eq_true hb, Bool.true_and, Bool.true_and]
     repeat (first | with_reducible exact Ev.now _ | dsimp only | with_reducible refine Ev.bind (Ev.eq ((specIn _ _ _).trans (congrArg some (decide_eq_true ha)))) ?_ | with_reducible refine Ev.bind (Ev.eq ((specIn _ _ _).trans (congrArg some (decide_eq_true hb)))) ?_ | refine Ev.pos (by first | omega | rfl | assumption | decide) ?_ | refine Ev.neg (by first | omega | assumption | exact Bool.false_ne_true | exact fun e => absurd e (by decide)) ?_ | simp only [bne_self_eq_false, Bool.not_true, Bool.not_false, List.length_cons, List.length_nil] | rw [wrap_id (by omega) (by omega)] | with_reducible exact (Ev.eq ((specIn _ _ _).trans (congrArg some (decide_eq_true ha)))) | with_reducible exact (Ev.eq ((specIn _ _ _).trans (congrArg some (decide_eq_true hb)))) | ((with_reducible refine Ev.eq (congrArg some ?_)); rfl))
     exact this
    ·rw [decide_eq_false hb, Bool.and_false, Bool.false_and]
     repeat (first | with_reducible exact Ev.now _ | dsimp only | with_reducible refine Ev.bind (Ev.eq ((specIn _ _ _).trans (congrArg some (decide_eq_true ha)))) ?_ | with_reducible refine Ev.bind (Ev.eq ((specIn _ _ _).trans (congrArg some (decide_eq_false hb)))) ?_ | refine Ev.pos (by first | omega | rfl | assumption | decide) ?_ | refine Ev.neg (by first | omega | assumption | exact Bool.false_ne_true | exact fun e => absurd e (by decide)) ?_ | simp only [bne_self_eq_false, Bool.not_true, Bool.not_false, List.length_cons, List.length_nil] | rw [wrap_id (by omega) (by omega)] | with_reducible exact (Ev.eq ((specIn _ _ _).trans (congrArg some (decide_eq_true ha)))) | with_reducible exact (Ev.eq ((specIn _ _ _).trans (congrArg some (decide_eq_false hb)))) | ((with_reducible refine Ev.eq (congrArg some ?_)); rfl))
   ·rw [decide_eq_false ha, Bool.false_and, Bool.false_and]
    repeat (first | with_reducible exact Ev.now _ | dsimp only | with_reducible refine Ev.bind (Ev.eq ((specIn _ _ _).trans (congrArg some (decide_eq_false ha)))) ?_ | refine Ev.pos (by first | omega | rfl | assumption | decide) ?_ | refine Ev.neg (by first | omega | assumption | exact Bool.false_ne_true | exact fun e => absurd e (by decide)) ?_ | simp only [bne_self_eq_false, Bool.not_true, Bool.not_false, List.length_cons, List.length_nil] | rw [wrap_id (by omega) (by omega)] | with_reducible exact (Ev.eq ((specIn _ _ _).trans (congrArg some (decide_eq_false ha)))) | ((with_reducible refine Ev.eq (congrArg some ?_)); rfl))
  ·rw [decide_eq_false (show ¬ e.length = 2 by omega), Bool.false_and, Bool.false_and]
   repeat (first | with_reducible exact Ev.now _ | dsimp only | refine Ev.pos (by first | omega | rfl | assumption | decide) ?_ | refine Ev.neg (by first | omega | assumption | exact Bool.false_ne_true | exact fun e => absurd e (by decide)) ?_ | simp only [bne_self_eq_false, Bool.not_true, Bool.not_false, List.length_cons, List.length_nil] | rw [wrap_id (by omega) (by omega)] | ((with_reducible refine Ev.eq (congrArg some ?_)); rfl))

theorem specIs (n : Int) (l : List (List Int)) (hl : Mod l) : Ev (fun k => spec_l01Is.f k n l) (isGraph n l) := by
 unfold spec_l01Is.f isGraph
 by_cases h1 : 1 ≤ n ∧ n ≤ 8
 ·rw [decide_eq_true h1, Bool.true_and]
  repeat (first | with_reducible exact Ev.now _ | dsimp only | with_reducible refine Ev.bind (Ev.eq ((specIn n 1 8).trans (congrArg some (decide_eq_true h1)))) ?_ | refine Ev.pos (by first | omega | rfl | assumption | decide) ?_ | refine Ev.neg (by first | omega | assumption | exact Bool.false_ne_true | exact fun e => absurd e (by decide)) ?_ | simp only [bne_self_eq_false, Bool.not_true, Bool.not_false, List.length_cons, List.length_nil] | rw [wrap_id (by omega) (by omega)] | with_reducible exact (Ev.eq ((specIn n 1 8).trans (congrArg some (decide_eq_true h1)))) | ((with_reducible refine Ev.eq (congrArg some ?_)); rfl))
  refine Ev.succ ?_
  simp only [spec_l01Is.j0]
  by_cases h2 : (l.length : Int) ≤ 10
  ·rw [decide_eq_true h2, decide_eq_false (show ¬ (l.length : Int) > 10 by omega), Bool.and_true]
   repeat (first | with_reducible exact Ev.now _ | dsimp only | refine Ev.pos (by first | omega | rfl | assumption | decide) ?_ | refine Ev.neg (by first | omega | assumption | exact Bool.false_ne_true | exact fun e => absurd e (by decide)) ?_ | simp only [bne_self_eq_false, Bool.not_true, Bool.not_false, List.length_cons, List.length_nil] | rw [wrap_id (by omega) (by omega)] | ((with_reducible refine Ev.eq (congrArg some ?_)); rfl))
   exact specIs_loop n l hl l.length 0 (by omega)
  ·rw [decide_eq_false h2, decide_eq_true (show (l.length : Int) > 10 by omega), Bool.and_false]
   repeat (first | with_reducible exact Ev.now _ | dsimp only | refine Ev.pos (by first | omega | rfl | assumption | decide) ?_ | refine Ev.neg (by first | omega | assumption | exact Bool.false_ne_true | exact fun e => absurd e (by decide)) ?_ | simp only [bne_self_eq_false, Bool.not_true, Bool.not_false, List.length_cons, List.length_nil] | rw [wrap_id (by omega) (by omega)] | ((with_reducible refine Ev.eq (congrArg some ?_)); rfl))
 ·rw [decide_eq_false h1, Bool.false_and, Bool.and_false]
  repeat (first | with_reducible exact Ev.now _ | dsimp only | with_reducible refine Ev.bind (Ev.eq ((specIn n 1 8).trans (congrArg some (decide_eq_false h1)))) ?_ | refine Ev.pos (by first | omega | rfl | assumption | decide) ?_ | refine Ev.neg (by first | omega | assumption | exact Bool.false_ne_true | exact fun e => absurd e (by decide)) ?_ | simp only [bne_self_eq_false, Bool.not_true, Bool.not_false, List.length_cons, List.length_nil] | rw [wrap_id (by omega) (by omega)] | with_reducible exact (Ev.eq ((specIn n 1 8).trans (congrArg some (decide_eq_false h1)))) | ((with_reducible refine Ev.eq (congrArg some ?_)); rfl))
  refine Ev.succ ?_
  simp only [spec_l01Is.j0]
  repeat (first | with_reducible exact Ev.now _ | dsimp only | refine Ev.pos (by first | omega | rfl | assumption | decide) ?_ | refine Ev.neg (by first | omega | assumption | exact Bool.false_ne_true | exact fun e => absurd e (by decide)) ?_ | simp only [bne_self_eq_false, Bool.not_true, Bool.not_false, List.length_cons, List.length_nil] | rw [wrap_id (by omega) (by omega)] | ((with_reducible refine Ev.eq (congrArg some ?_)); rfl))

theorem implIs_loop (n : Int) (l : List (List Int)) (hl : Mod l) : ∀ (d i : Nat), i + d = l.length →
  Ev (fun k => impl_IsGraph.l0 k l (l.length : Int) (i : Int) n l) ((l.drop i).all (okEdge n) && (decide (1 ≤ n ∧ n ≤ 8) && decide ((l.length : Int) ≤ 10))) := by
 have hl1 := hl.1
 intro d
 induction d with
 | zero =>
  intro i hi
  refine Ev.succ ?_; simp only [impl_IsGraph.l0]
  rw [List.drop_eq_nil_of_le (by omega), List.all_nil, Bool.true_and]
  by_cases h1 : 1 ≤ n ∧ n ≤ 8
  ·rw [decide_eq_true h1, Bool.true_and]
   repeat (first | with_reducible exact Ev.now _ | dsimp only | with_reducible refine Ev.bind (Ev.eq ((implWithin n 1 8).trans (congrArg some (decide_eq_true h1)))) ?_ | refine Ev.pos (by first | omega | rfl | assumption | decide) ?_ | refine Ev.neg (by first | omega | assumption | exact Bool.false_ne_true | exact fun e => absurd e (by decide)) ?_ | simp only [bne_self_eq_false, Bool.not_true, Bool.not_false, List.length_cons, List.length_nil] | rw [wrap_id (by omega) (by omega)] | with_reducible exact (Ev.eq ((implWithin n 1 8).trans (congrArg some (decide_eq_true h1)))) | ((with_reducible refine Ev.eq (congrArg some ?_)); rfl))
  ·rw [decide_eq_false h1, Bool.false_and]
   repeat (first | with_reducible exact Ev.now _ | dsimp only | with_reducible refine Ev.bind (Ev.eq ((implWithin n 1 8).trans (congrArg some (decide_eq_false h1)))) ?_ | refine Ev.pos (by first | omega | rfl | assumption | decide) ?_ | refine Ev.neg (by first | omega | assumption | exact Bool.false_ne_true | exact fun e => absurd e (by decide)) ?_ | simp only [bne_self_eq_false, Bool.not_true, Bool.not_false, List.length_cons, List.length_nil] | rw [wrap_id (by omega) (by omega)] | with_reducible exact (Ev.eq ((implWithin n 1 8).trans (congrArg some (decide_eq_false h1)))) | ((with_reducible refine Ev.eq (congrArg some ?_)); rfl))
 | succ d ih =>
  intro i hi
  refine Ev.succ ?_; simp only [impl_IsGraph.l0]
  rw [List.drop_eq_getElem_cons (by omega : i < l.length), List.all_cons, rl_lt (by omega), wrap_succ (by omega)]
  generalize l[i] = e
  have := ih (i + 1) (by omega)
  unfold okEdge at this ⊢
  by_cases h2 : (e.length : Int) = 2
  ·rw [decide_eq_true (show e.length = 2 by omega), Bool.true_and]
   by_cases ha : 0 ≤ rd e 0 ∧ rd e 0 ≤ wrap64 (n - 1)
   ·by_cases hb : 0 ≤ rd e 1 ∧ rd e 1 ≤ wrap64 (n - 1)
    ·rw [decide_eq_true ha, decide_eq_true hb, Bool.true_and, Bool.true_and]
     repeat (first | with_reducible exact Ev.now _ | dsimp only | with_reducible refine Ev.bind (Ev.eq ((implWithin _ _ _).trans (congrArg some (decide_eq_true ha)))) ?_ | with_reducible refine Ev.bind (Ev.eq ((implWithin _ _ _).trans (congrArg some (decide_eq_true hb)))) ?_ | refine Ev.pos (by first | omega | rfl | assumption | decide) ?_ | refine Ev.neg (by first | omega | assumption | exact Bool.false_ne_true | exact fun e => absurd e (by decide)) ?_ | simp only [bne_self_eq_false, Bool.not_true, Bool.not_false, List.length_cons, List.length_nil] | rw [wrap_id (by omega) (by omega)] | with_reducible exact (Ev.eq ((implWithin _ _ _).trans (congrArg some (decide_eq_true ha)))) | with_reducible exact (Ev.eq ((implWithin _ _ _).trans (congrArg some (decide_eq_true hb)))) | ((with_reducible refine Ev.eq (congrArg some ?_)); rfl))
     exact this
    ·rw [decide_eq_false hb, Bool.and_false, Bool.false_and, Bool.false_and]
     repeat (first | with_reducible exact Ev.now _ | dsimp only | with_reducible refine Ev.bind (Ev.eq ((implWithin _ _ _).trans (congrArg some (decide_eq_true ha)))) ?_ | with_reducible refine Ev.bind (Ev.eq ((implWithin _ _ _).trans (congrArg some (decide_eq_false hb)))) ?_ | refine Ev.pos (by first | omega | rfl | assumption | decide) ?_ | refine Ev.neg (by first | omega | assumption | exact Bool.false_ne_true | exact fun e => absurd e (by decide)) ?_ | simp only [bne_self_eq_false, Bool.not_true, Bool.not_false, List.length_cons, List.length_nil] | rw [wrap_id (by omega) (by omega)] | with_reducible exact (Ev.eq ((implWithin _ _ _).trans (congrArg some (decide_eq_true ha)))) | with_reducible exact (Ev.eq ((implWithin _ _ _).trans (congrArg some (decide_eq_false hb)))) | ((with_reducible refine Ev.eq (congrArg some ?_)); rfl))
   ·rw [decide_eq_false ha, Bool.false_and, Bool.false_and, Bool.false_and]
    repeat (first | with_reducible exact Ev.now _ | dsimp only | with_reducible refine Ev.bind (Ev.eq ((implWithin _ _ _).trans (congrArg some (decide_eq_false ha)))) ?_ | refine Ev.pos (by first | omega | rfl | assumption | decide) ?_ | refine Ev.neg (by first | omega | assumption | exact Bool.false_ne_true | exact fun e => absurd e (by decide)) ?_ | simp only [bne_self_eq_false, Bool.not_true, Bool.not_false, List.length_cons, List.length_nil] | rw [wrap_id (by omega) (by omega)] | with_reducible exact (Ev.eq ((implWithin _ _ _).trans (congrArg some (decide_eq_false ha)))) | ((with_reducible refine Ev.eq (congrArg some ?_)); rfl))
  ·rw [decide_eq_false (show ¬ e.length = 2 by omega), Bool.false_and, Bool.false_and, Bool.false_and]
   repeat (first | with_reducible exact Ev.now _ | dsimp only | refine Ev.pos (by first | omega | rfl | assumption | decide) ?_ | refine Ev.neg (by first | omega | assumption | exact Bool.false_ne_true | exact fun e => absurd e (by decide)) ?_ | simp only [bne_self_eq_false, Bool.not_true, Bool.not_false, List.length_cons, List.length_nil] | rw [wrap_id (by omega) (by omega)] | ((with_reducible refine Ev.eq (congrArg some ?_)); rfl))

theorem implIsGraph (n : Int) (l : List (List Int)) (hl : Mod l) : Ev (fun k => impl_IsGraph.f k n l) (isGraph n l) := by
 unfold impl_IsGraph.f
 exact implIs_loop n l hl l.length 0 (by omega)

theorem len_two {α : Type} {e : List α} (h : e.length = 2) : ∃ a b, e = [a, b] := by
 match e, h with
 | [a, b], _ => exact ⟨a, b, rfl⟩

theorem isGraph_iff (n : Int) (l : List (List Int)) : isGraph n l = true ↔ 1 ≤ n ∧ n ≤ 8 ∧ l.length ≤ 10 ∧ ∀ e ∈ l, ∃ a b : Int, e = [a, b] ∧ 0 ≤ a ∧ a < n ∧ 0 ≤ b ∧ b < n := by
 unfold isGraph
 rw [Bool.and_eq_true, Bool.and_eq_true, decide_eq_true_iff, decide_eq_true_iff, List.all_eq_true]
 constructor
 ·rintro ⟨h, ⟨h1, h2⟩, h3⟩
  refine ⟨h1, h2, by omega, fun e he => ?_⟩
  have := h e he
  unfold okEdge at this
  rw [Bool.and_eq_true, Bool.and_eq_true, decide_eq_true_iff, decide_eq_true_iff, decide_eq_true_iff, wrap_id (by omega) (by omega)] at this
  obtain ⟨he2, ha, hb⟩ := this
  obtain ⟨a, b, rfl⟩ := len_two he2
  simp only [show rd [a, b] 0 = a from rfl, show rd [a, b] 1 = b from rfl] at ha hb
  exact ⟨a, b, rfl, by omega, by omega, by omega, by omega⟩
 ·rintro ⟨h1, h2, h3, h⟩
  refine ⟨fun e he => ?_, ⟨h1, h2⟩, by omega⟩
  obtain ⟨a, b, rfl, h4, h5, h6, h7⟩ := h e he
  unfold okEdge
  rw [Bool.and_eq_true, Bool.and_eq_true, decide_eq_true_iff, decide_eq_true_iff, decide_eq_true_iff, wrap_id (by omega) (by omega)]
  simp only [show rd [a, b] 0 = a from rfl, show rd [a, b] 1 = b from rfl]
  exact ⟨rfl, by omega, by omega⟩
theorem graph_edge {n : Int} {l : List (List Int)} (h : isGraph n l = true) {i : Nat} (hi : i < l.length) :
  (rd_L1 l (i : Int)).length = 2 ∧ ∃ a b : Nat, rd (rd_L1 l (i : Int)) 0 = a ∧ rd (rd_L1 l (i : Int)) 1 = b ∧ (a : Int) < n ∧ (b : Int) < n := by
 rw [rl_lt hi]
 obtain ⟨h1, h2, h3, h4⟩ := (isGraph_iff n l).1 h
 obtain ⟨a, b, e, ha, ha', hb, hb'⟩ := h4 _ (List.getElem_mem hi)
 rw [e]
 refine ⟨rfl, a.toNat, b.toNat, ?_, ?_, by omega, by omega⟩
 ·show a = _
  omega
 ·show b = _
  omega

theorem graph_small {n : Int} {l : List (List Int)} (h : isGraph n l = true) : 1 ≤ n ∧ n ≤ 8 ∧ l.length ≤ 10 := by
 obtain ⟨h1, h2, h3, h4⟩ := (isGraph_iff n l).1 h
 exact ⟨h1, h2, h3⟩
/-- The directed edge's start, its end, and its reverse. -/
def tl (l : List (List Int)) (p : Nat) : Int := if p % 2 = 1 then rd (rd_L1 l ((p / 2 : Nat) : Int)) 1 else rd (rd_L1 l ((p / 2 : Nat) : Int)) 0
def hd (l : List (List Int)) (p : Nat) : Int := if p % 2 = 1 then rd (rd_L1 l ((p / 2 : Nat) : Int)) 0 else rd (rd_L1 l ((p / 2 : Nat) : Int)) 1
def inv (p : Nat) : Nat := if p % 2 = 0 then p + 1 else p - 1
def next (l : List (List Int)) (p q : Nat) : Bool := decide (hd l p = tl l q) && decide (q ≠ inv p)

theorem half (p : Nat) (h : p < 1000) : wrap64 (Int.tdiv (p : Int) 2) = ((p / 2 : Nat) : Int) := by
 rw [Int.tdiv_eq_ediv_of_nonneg (by omega), wrap_id (by omega) (by omega)]
 omega

theorem rest2 (p : Nat) : Int.tmod (p : Int) 2 = ((p % 2 : Nat) : Int) := by
 rw [Int.tmod_eq_emod_of_nonneg (by omega)]
 omega

theorem xor_inv (p : Nat) (h : p < 20) : Go.bits .xor .i64 (p : Int) 1 = ((inv p : Nat) : Int) := by
 have : ∀ q : Fin 20, Go.bits .xor .i64 (q.val : Int) 1 = ((inv q.val : Nat) : Int) := by decide
 exact this ⟨p, h⟩

section
variable {n : Int} {l : List (List Int)} (h : isGraph n l = true)
include h

theorem specEnds {p : Nat} (hp : p < 2 * l.length) : spec_l01Ends.f n l (p : Int) = some (tl l p, hd l p) := by
 obtain ⟨g1, g2, g3⟩ := graph_small h
 obtain ⟨e2, a, b, ea, eb, ha, hb⟩ := graph_edge h (show p / 2 < l.length by omega)
 unfold spec_l01Ends.f tl hd
 rw [half p (by omega), rest2, if_pos (by omega), if_pos (by omega)]
 by_cases c : p % 2 = 1
 ·rw [if_pos (show ((p % 2 : Nat) : Int) = 1 by omega), if_pos (by omega), if_pos (by omega), if_pos c, if_pos c]
 ·rw [if_neg (show ¬ ((p % 2 : Nat) : Int) = 1 by omega), if_pos (by omega), if_pos (by omega), if_neg c, if_neg c]

theorem implEnds {p : Nat} (hp : p < 2 * l.length) : impl_Graph_ends.f n l (p : Int) = some (tl l p, hd l p) := by
 obtain ⟨g1, g2, g3⟩ := graph_small h
 obtain ⟨e2, a, b, ea, eb, ha, hb⟩ := graph_edge h (show p / 2 < l.length by omega)
 unfold impl_Graph_ends.f tl hd
 rw [half p (by omega), rest2, wrap_id (x := 1 - ((p % 2 : Nat) : Int)) (by omega) (by omega), if_pos (by omega), if_pos (by omega), if_pos (by omega), if_pos (by omega), if_pos (by omega), if_pos (by omega)]
 by_cases c : p % 2 = 1
 ·rw [if_pos c, if_pos c, c]
  rfl
 ·rw [if_neg c, if_neg c, show p % 2 = 0 by omega]
  rfl

theorem implFollows {p q : Nat} (hp : p < 2 * l.length) (hq : q < 2 * l.length) : impl_Graph_follows.f n l (p : Int) (q : Int) = some (next l p q) := by
 obtain ⟨g1, g2, g3⟩ := graph_small h
 unfold impl_Graph_follows.f next
 rw [implEnds h hp, implEnds h hq, Option.bind_some, Option.bind_some, xor_inv p (by omega)]
 by_cases c : hd l p = tl l q
 ·rw [if_pos c.symm, decide_eq_true c, Bool.true_and]
  by_cases c2 : q = inv p
  ·rw [c2]; simp
  ·simp [c2, bne]
   omega
 ·rw [if_neg (fun e => c e.symm), decide_eq_false c, Bool.false_and]

end
theorem markInt64S_loop (n : Nat) (hn : n ≤ 1048576) (a : Int) (h0 : 0 ≤ a) (h1 : a ≤ 1125899906842624) : ∀ (d i : Nat) (ys : List Int), i + d = n → ys.length = n → ys.take i = (marks a n).take i →
  Ev (fun k => laws_markInt64S.l0 k ys (a + i) (i : Int)) (a + n, marks a n) := by
 intro d
 induction d with
 | zero =>
  intro i ys hi hy ht
  refine Ev.succ ?_; simp only [laws_markInt64S.l0]
  rw [show ys = marks a n from eq_of_take (by rw [hy, marks_length]) (by rw [marks_length]; omega) ht, show i = n by omega]
  have := marks_length a n
  repeat (first | with_reducible exact Ev.now _ | dsimp only | refine Ev.pos (by first | omega | rfl | assumption | decide) ?_ | refine Ev.neg (by first | omega | assumption | exact Bool.false_ne_true | exact fun e => absurd e (by decide)) ?_ | simp only [bne_self_eq_false, Bool.not_true, Bool.not_false, List.length_cons, List.length_nil] | rw [wrap_id (by omega) (by omega)] | ((with_reducible refine Ev.eq (congrArg some ?_)); rfl))
 | succ d ih =>
  intro i ys hi hy ht
  refine Ev.succ ?_; simp only [laws_markInt64S.l0]
  rw [wrap_succ (by omega), wrap_id (x := a + i + 1) (by omega) (by omega)]
  repeat (first | with_reducible exact Ev.now _ | dsimp only | refine Ev.pos (by first | omega | rfl | assumption | decide) ?_ | refine Ev.neg (by first | omega | assumption | exact Bool.false_ne_true | exact fun e => absurd e (by decide)) ?_ | simp only [bne_self_eq_false, Bool.not_true, Bool.not_false, List.length_cons, List.length_nil] | rw [wrap_id (by omega) (by omega)] | ((with_reducible refine Ev.eq (congrArg some ?_)); rfl))
  have := ih (i + 1) (ys.set i (a + i)) (by omega) (by simpa using hy) (take_set_succ (by rw [hy, marks_length]) (by rw [marks_length]; omega) (marks_get a n i (by rw [marks_length]; omega)).symm ht)
  rw [show a + ((i + 1 : Nat) : Int) = a + i + 1 by omega] at this
  exact this

theorem markInt64S (l : List Int) (hl : l.length ≤ 1048576) (a : Int) (h0 : 0 ≤ a) (h1 : a ≤ 1125899906842624) : Ev (fun k => laws_markInt64S.f k l a) (a + l.length, marks a l.length) := by
 unfold laws_markInt64S.f
 have := markInt64S_loop l.length hl a h0 h1 l.length 0 l (by omega) rfl (by simp)
 rw [show a + ((0 : Nat) : Int) = a by omega] at this
 exact this

theorem heldInt64S_loop (n : Nat) (hn : n ≤ 1048576) (a : Int) (h0 : 0 ≤ a) (h1 : a ≤ 1125899906842624) : ∀ (d i : Nat), i + d = n →
  Ev (fun k => laws_heldInt64S.l0 k (marks a n) (a + i) (i : Int)) (a + n) := by
 have hm := marks_length a n
 intro d
 induction d with
 | zero =>
  intro i hi
  refine Ev.succ ?_; simp only [laws_heldInt64S.l0]
  rw [show i = n by omega]
  repeat (first | with_reducible exact Ev.now _ | dsimp only | refine Ev.pos (by first | omega | rfl | assumption | decide) ?_ | refine Ev.neg (by first | omega | assumption | exact Bool.false_ne_true | exact fun e => absurd e (by decide)) ?_ | simp only [bne_self_eq_false, Bool.not_true, Bool.not_false, List.length_cons, List.length_nil] | rw [wrap_id (by omega) (by omega)] | ((with_reducible refine Ev.eq (congrArg some ?_)); rfl))
 | succ d ih =>
  intro i hi
  refine Ev.succ ?_; simp only [laws_heldInt64S.l0]
  rw [wrap_succ (by omega), wrap_id (x := a + i + 1) (by omega) (by omega)]
  have e := marks_get a n i (by omega)
  rw [← rd_lt] at e
  have := ih (i + 1) (by omega)
  rw [show a + ((i + 1 : Nat) : Int) = a + i + 1 by omega] at this
  repeat (first | with_reducible exact Ev.now _ | dsimp only | refine Ev.pos (by first | omega | rfl | assumption | decide) ?_ | refine Ev.neg (by first | omega | assumption | exact Bool.false_ne_true | exact fun e => absurd e (by decide)) ?_ | simp only [bne_self_eq_false, Bool.not_true, Bool.not_false, List.length_cons, List.length_nil] | rw [wrap_id (by omega) (by omega)] | ((with_reducible refine Ev.eq (congrArg some ?_)); rfl))
  exact this

theorem heldInt64S (a : Int) (n : Nat) (hn : n ≤ 1048576) (h0 : 0 ≤ a) (h1 : a ≤ 1125899906842624) : Ev (fun k => laws_heldInt64S.f k (marks a n) a) (a + n) := by
 unfold laws_heldInt64S.f
 have := heldInt64S_loop n hn a h0 h1 n 0 (by omega)
 rw [show a + ((0 : Nat) : Int) = a by omega] at this
 exact this
theorem markInt64SS_loop : ∀ (d i : Nat) (xs : List (List Int)) (a : Int), i + d = xs.length → xs.length ≤ 1048576 → (∀ r ∈ xs, r.length ≤ 1048576) → 0 ≤ a → a ≤ 1 + 1048576 * i →
  ∃ r : Int × List (List Int), Ev (fun k => laws_markInt64SS.l0 k xs a (i : Int)) r ∧ 0 ≤ r.1 ∧ r.1 ≤ 1 + 1048576 * xs.length := by
 intro d
 induction d with
 | zero =>
  intro i xs a hi hx hr h0 h1
  refine ⟨(a, xs), ?_, h0, by simp only; omega⟩
  refine Ev.succ ?_; simp only [laws_markInt64SS.l0]
  repeat (first | with_reducible exact Ev.now _ | dsimp only | refine Ev.pos (by first | omega | rfl | assumption | decide) ?_ | refine Ev.neg (by first | omega | assumption | exact Bool.false_ne_true | exact fun e => absurd e (by decide)) ?_ | simp only [bne_self_eq_false, Bool.not_true, Bool.not_false, List.length_cons, List.length_nil] | rw [wrap_id (by omega) (by omega)] | ((with_reducible refine Ev.eq (congrArg some ?_)); rfl))
 | succ d ih =>
  intro i xs a hi hx hr h0 h1
  have hlen : xs[i].length ≤ 1048576 := hr _ (List.getElem_mem (by omega))
  obtain ⟨r, h2, h3⟩ := ih (i + 1) (xs.set i (marks a xs[i].length)) (a + xs[i].length) (by simp; omega) (by simpa using hx) (fun r hm => by
   rcases List.mem_or_eq_of_mem_set hm with h | h
   ·exact hr r h
   ·rw [h, marks_length]; exact hlen) (by omega) (by omega)
  rw [List.length_set] at h3
  refine ⟨r, ?_, h3⟩
  refine Ev.succ ?_; simp only [laws_markInt64SS.l0]
  rw [wrap_succ (by omega), rl_lt (by omega)]
  repeat (first | with_reducible exact Ev.now _ | dsimp only | with_reducible refine Ev.bind (markInt64S xs[i] hlen a h0 (by omega)) ?_ | refine Ev.pos (by first | omega | rfl | assumption | decide) ?_ | refine Ev.neg (by first | omega | assumption | exact Bool.false_ne_true | exact fun e => absurd e (by decide)) ?_ | simp only [bne_self_eq_false, Bool.not_true, Bool.not_false, List.length_cons, List.length_nil] | rw [wrap_id (by omega) (by omega)] | with_reducible exact (markInt64S xs[i] hlen a h0 (by omega)) | ((with_reducible refine Ev.eq (congrArg some ?_)); rfl))
  exact h2

theorem markGraph (n : Int) (l : List (List Int)) (hl : Mod l) : ∃ r : Int × List (List Int), Ev (fun k => laws_markGraph.f k n l 1) r ∧ 0 ≤ r.1 ∧ r.1 ≤ 1099511627777 := by
 unfold laws_markGraph.f laws_markInt64SS.f
 have hl1 := hl.1
 obtain ⟨r, h1, h2, h3⟩ := markInt64SS_loop l.length 0 l 1 (by omega) hl.1 hl.2 (by decide) (by omega)
 exact ⟨r, h1, h2, by omega⟩
def zeros (n : Nat) : List (List Int) := List.replicate n (List.replicate n 0)

theorem rep_succ {α : Type} (n : Nat) (x : α) : List.replicate n x ++ [x] = List.replicate (n + 1) x := List.replicate_succ'.symm

theorem implSquare (n : Int) (h0 : 0 ≤ n) (h1 : n ≤ 1000) : Ev (fun k => impl_square.f k n) (zeros n.toNat) := by
 have : ∀ (d v : Nat), (v : Int) + d = n → Ev (fun k => impl_square.l0 k n (List.replicate v (List.replicate n.toNat 0)) n (v : Int)) (zeros n.toNat) := by
  intro d
  induction d with
  | zero =>
   intro v hv
   refine Ev.succ ?_; simp only [impl_square.l0]
   rw [show v = n.toNat by omega]
   repeat (first | with_reducible exact Ev.now _ | dsimp only | refine Ev.pos (by first | omega | rfl | assumption | decide) ?_ | refine Ev.neg (by first | omega | assumption | exact Bool.false_ne_true | exact fun e => absurd e (by decide)) ?_ | simp only [bne_self_eq_false, Bool.not_true, Bool.not_false, List.length_cons, List.length_nil] | rw [wrap_id (by omega) (by omega)] | ((with_reducible refine Ev.eq (congrArg some ?_)); rfl))
  | succ d ih =>
   intro v hv
   have := ih (v + 1) (by omega)
   rw [← rep_succ] at this
   refine Ev.succ ?_; simp only [impl_square.l0]
   rw [wrap_succ (by omega)]
   refine Ev.pos (by omega) ?_
   refine Ev.pos (by omega) ?_
   refine Ev.pos (by omega) ?_
   refine Ev.pos (by simp; omega) ?_
   exact this
 exact this n.toNat 0 (by omega)
/-- f 0 + .. + f (n - 1). -/
def Sm : Nat → (Nat → Int) → Int
 | 0, _ => 0
 | n + 1, f => Sm n f + f n

theorem Sm_congr {n : Nat} {f g : Nat → Int} (h : ∀ i, i < n → f i = g i) : Sm n f = Sm n g := by
 induction n with
 | zero => rfl
 | succ n ih => unfold Sm; rw [ih (fun i hi => h i (by omega)), h n (by omega)]

theorem Sm_add (n : Nat) (f g : Nat → Int) : Sm n (fun i => f i + g i) = Sm n f + Sm n g := by
 induction n with
 | zero => rfl
 | succ n ih =>
  show Sm n (fun i => f i + g i) + (f n + g n) = Sm n f + f n + (Sm n g + g n)
  rw [ih]; omega

theorem Sm_mul_left (n : Nat) (c : Int) (f : Nat → Int) : Sm n (fun i => c * f i) = c * Sm n f := by
 induction n with
 | zero => simp [Sm]
 | succ n ih => unfold Sm; rw [ih, Int.mul_add]

theorem Sm_mul_right (n : Nat) (c : Int) (f : Nat → Int) : Sm n (fun i => f i * c) = Sm n f * c := by
 induction n with
 | zero => simp [Sm]
 | succ n ih => unfold Sm; rw [ih, Int.add_mul]

theorem Sm_zero (n : Nat) : Sm n (fun _ => 0) = 0 := by
 induction n with
 | zero => rfl
 | succ n ih => unfold Sm; rw [ih]; rfl

theorem Sm_swap (n m : Nat) (f : Nat → Nat → Int) : Sm n (fun i => Sm m (fun j => f i j)) = Sm m (fun j => Sm n (fun i => f i j)) := by
 induction n with
 | zero => exact (Sm_zero m).symm
 | succ n ih =>
  show Sm n (fun i => Sm m (fun j => f i j)) + Sm m (fun j => f n j) = _
  rw [ih, ← Sm_add]
  rfl

theorem Sm_le {n : Nat} {f : Nat → Int} {b : Int} (h : ∀ i, i < n → f i ≤ b) : Sm n f ≤ n * b := by
 induction n with
 | zero => simp [Sm]
 | succ n ih =>
  have h1 := ih (fun i hi => h i (by omega))
  have h2 := h n (by omega)
  unfold Sm
  rw [Int.natCast_add, Int.add_mul]
  omega

theorem Sm_nonneg {n : Nat} {f : Nat → Int} (h : ∀ i, i < n → 0 ≤ f i) : 0 ≤ Sm n f := by
 induction n with
 | zero => simp [Sm]
 | succ n ih =>
  have h1 := ih (fun i hi => h i (by omega))
  have h2 := h n (by omega)
  unfold Sm
  omega

/-- The product of two square matrices. -/
def mul (n : Nat) (a b : Nat → Nat → Int) : Nat → Nat → Int := fun i j => Sm n (fun k => a i k * b k j)

theorem mul_assoc' (n : Nat) (a b c : Nat → Nat → Int) (i j : Nat) : mul n (mul n a b) c i j = mul n a (mul n b c) i j := by
 unfold mul
 rw [Sm_congr (g := fun k => Sm n (fun m => a i m * b m k * c k j)) (fun k _ => (Sm_mul_right n _ _).symm)]
 rw [Sm_swap]
 refine Sm_congr (fun m _ => ?_)
 rw [← Sm_mul_left]
 exact Sm_congr (fun k _ => Int.mul_assoc _ _ _)

def tr (n : Nat) (a : Nat → Nat → Int) : Int := Sm n (fun i => a i i)

theorem mul_congr {n : Nat} {a b a' b' : Nat → Nat → Int} {i j : Nat} (ha : ∀ k, k < n → a i k = a' i k) (hb : ∀ k, k < n → b k j = b' k j) : mul n a b i j = mul n a' b' i j :=
 Sm_congr (fun k hk => by rw [ha k hk, hb k hk])

/-- A list's matrix, and a matrix's list. -/
def mat (m : List (List Int)) (i j : Nat) : Int := rd (rd_L1 m (i : Int)) (j : Int)

def rowOf (n : Nat) (f : Nat → Int) : List Int := (List.range n).map f

def ofFn (n : Nat) (f : Nat → Nat → Int) : List (List Int) := (List.range n).map (fun i => rowOf n (f i))

theorem rowOf_length (n : Nat) (f : Nat → Int) : (rowOf n f).length = n := by simp [rowOf]

theorem rowOf_rd {n i : Nat} (f : Nat → Int) (h : i < n) : rd (rowOf n f) (i : Int) = f i := rd_map_range f h

theorem rowOf_congr {n : Nat} {f g : Nat → Int} (h : ∀ i, i < n → f i = g i) : rowOf n f = rowOf n g := by
 unfold rowOf
 exact List.map_congr_left (fun i hi => h i (List.mem_range.1 hi))

theorem rowOf_set {n i : Nat} (f : Nat → Int) (v : Int) (h : i < n) : (rowOf n f).set i v = rowOf n (fun j => if j = i then v else f j) := by
 refine list_ext_rd (by rw [List.length_set, rowOf_length, rowOf_length]) (fun j hj => ?_)
 rw [List.length_set, rowOf_length] at hj
 rw [rd_set (by rw [rowOf_length]; exact h), rowOf_rd _ hj, rowOf_rd _ hj]

theorem rowOf_zero (n : Nat) : rowOf n (fun _ => 0) = List.replicate n 0 := by
 refine list_ext_rd (by rw [rowOf_length, List.length_replicate]) (fun j hj => ?_)
 rw [rowOf_length] at hj
 rw [rowOf_rd _ hj, rd_replicate]

theorem ofFn_length (n : Nat) (f : Nat → Nat → Int) : (ofFn n f).length = n := by simp [ofFn]

theorem ofFn_row {n i : Nat} (f : Nat → Nat → Int) (h : i < n) : rd_L1 (ofFn n f) (i : Int) = rowOf n (f i) := by
 rw [rl_lt (by rw [ofFn_length]; exact h)]
 simp [ofFn]

theorem ofFn_mat {n i j : Nat} (f : Nat → Nat → Int) (hi : i < n) (hj : j < n) : mat (ofFn n f) i j = f i j := by
 unfold mat
 rw [ofFn_row f hi, rowOf_rd _ hj]

theorem ofFn_congr {n : Nat} {f g : Nat → Nat → Int} (h : ∀ i j, i < n → j < n → f i j = g i j) : ofFn n f = ofFn n g := by
 unfold ofFn
 exact List.map_congr_left (fun i hi => rowOf_congr (fun j hj => h i j (List.mem_range.1 hi) hj))

theorem ofFn_set {n i : Nat} (f : Nat → Nat → Int) (r : Nat → Int) (h : i < n) : (ofFn n f).set i (rowOf n r) = ofFn n (fun k => if k = i then r else f k) := by
 apply List.ext_getElem
 ·rw [List.length_set, ofFn_length, ofFn_length]
 ·intro k h1 h2
  rw [ofFn_length] at h2
  simp only [List.getElem_set, ofFn, List.getElem_map, List.getElem_range]
  by_cases e : k = i
  ·subst e; simp
  ·rw [if_neg (fun x => e x.symm), if_neg e]

/-- A square list of rows. -/
def Sq (n : Nat) (m : List (List Int)) : Prop := m.length = n ∧ ∀ i : Nat, i < n → (rd_L1 m (i : Int)).length = n

theorem Sq_ofFn (n : Nat) (f : Nat → Nat → Int) : Sq n (ofFn n f) := ⟨ofFn_length n f, fun i hi => by rw [ofFn_row f hi, rowOf_length]⟩

theorem wrap_add_wrap (a b : Int) : wrap64 (wrap64 a + wrap64 b) = wrap64 (a + b) := by
 unfold wrap64
 omega

theorem wrap_add_left (a b : Int) : wrap64 (wrap64 a + b) = wrap64 (a + b) := by
 unfold wrap64
 omega

/-- Row p, told up to the place q. -/
def rowE (l : List (List Int)) (p : Nat) : Nat → List Int
 | 0 => List.replicate (2 * l.length) 0
 | q + 1 => if next l p q = true then (rowE l p q).set q 1 else rowE l p q

def edgeM (l : List (List Int)) (n : Nat) : List (List Int) := (List.range n).map (fun p => rowE l p (2 * l.length))

theorem rowE_length (l : List (List Int)) (p q : Nat) : (rowE l p q).length = 2 * l.length := by
 induction q with
 | zero => simp [rowE]
 | succ q ih => unfold rowE; split <;> simp [ih]

theorem edgeM_length (l : List (List Int)) (n : Nat) : (edgeM l n).length = n := by simp [edgeM]

theorem edgeM_succ (l : List (List Int)) (n : Nat) : edgeM l (n + 1) = edgeM l n ++ [rowE l n (2 * l.length)] := map_range_succ _ _

theorem rowE_rd (l : List (List Int)) (p : Nat) : ∀ (q j : Nat), q ≤ 2 * l.length → rd (rowE l p q) (j : Int) = if j < q ∧ next l p j = true then 1 else 0 := by
 intro q
 induction q with
 | zero =>
  intro j _
  rw [if_neg (by omega)]
  exact rd_replicate _ _
 | succ q ih =>
  intro j hq
  have hl := rowE_length l p q
  unfold rowE
  by_cases c : next l p q = true
  ·rw [if_pos c, rd_set (by omega)]
   by_cases e : j = q
   ·subst e
    rw [if_pos rfl, if_pos ⟨by omega, c⟩]
   ·rw [if_neg e, ih j (by omega)]
    by_cases c2 : j < q ∧ next l p j = true
    ·rw [if_pos c2, if_pos ⟨by omega, c2.2⟩]
    ·rw [if_neg c2, if_neg (fun x => c2 ⟨by omega, x.2⟩)]
  ·rw [if_neg c, ih j (by omega)]
   by_cases c2 : j < q ∧ next l p j = true
   ·rw [if_pos c2, if_pos ⟨by omega, c2.2⟩]
   ·rw [if_neg c2, if_neg (fun x => ?_)]
    by_cases e : j = q
    ·subst e; exact c x.2
    ·exact c2 ⟨by omega, x.2⟩

theorem next_split {l : List (List Int)} {p q : Nat} : next l p q = true ↔ hd l p = tl l q ∧ q ≠ inv p := by
 unfold next
 rw [Bool.and_eq_true, decide_eq_true_iff, decide_eq_true_iff]
section
variable {n : Int} {l : List (List Int)} (h : isGraph n l = true)
include h

theorem specRow (p : Nat) (hp : p < 2 * l.length) (m : List (List Int)) (hm : m.length ≤ 20) (r : List (List Int)) (hr : Ev (fun k => spec_l02Matrix.l0 k (m ++ [rowE l p (2 * l.length)]) (2 * (l.length : Int)) ((p + 1 : Nat) : Int) n l) r) :
  ∀ (d q : Nat), q + d = 2 * l.length → Ev (fun k => spec_l02Matrix.l1 k m (2 * (l.length : Int)) (p : Int) (rowE l p q) (hd l p) (q : Int) n l) r := by
 obtain ⟨g1, g2, g3⟩ := graph_small h
 intro d
 induction d with
 | zero =>
  intro q hq
  have e : q = 2 * l.length := by omega
  refine Ev.succ ?_; simp only [spec_l02Matrix.l1]
  rw [wrap_succ (by omega), e]
  repeat (first | with_reducible exact Ev.now _ | dsimp only | refine Ev.pos (by first | omega | rfl | assumption | decide) ?_ | refine Ev.neg (by first | omega | assumption | exact Bool.false_ne_true | exact fun e => absurd e (by decide)) ?_ | simp only [bne_self_eq_false, Bool.not_true, Bool.not_false, List.length_cons, List.length_nil] | rw [wrap_id (by omega) (by omega)] | ((with_reducible refine Ev.eq (congrArg some ?_)); rfl))
  exact hr
 | succ d ih =>
  intro q hq
  have hi := ih (q + 1) (by omega)
  rw [show rowE l p (q + 1) = (if next l p q = true then (rowE l p q).set q 1 else rowE l p q) from rfl] at hi
  have he := specEnds h (show q < 2 * l.length by omega)
  have hx := xor_inv p (by omega)
  have hlen := rowE_length l p q
  refine Ev.succ ?_; simp only [spec_l02Matrix.l1]
  rw [wrap_succ (i := q) (by omega), hx]
  by_cases c : next l p q = true
  ·rw [if_pos c] at hi
   obtain ⟨c1, c2⟩ := next_split.1 c
   repeat (first | with_reducible exact Ev.now _ | dsimp only | with_reducible refine Ev.bind (Ev.eq he) ?_ | refine Ev.pos (by first | omega | rfl | assumption | decide) ?_ | refine Ev.neg (by first | omega | assumption | exact Bool.false_ne_true | exact fun e => absurd e (by decide)) ?_ | simp only [bne_self_eq_false, Bool.not_true, Bool.not_false, List.length_cons, List.length_nil] | rw [wrap_id (by omega) (by omega)] | with_reducible exact (Ev.eq he) | ((with_reducible refine Ev.eq (congrArg some ?_)); rfl))
   exact hi
  ·rw [if_neg c] at hi
   by_cases c1 : hd l p = tl l q
   ·have c2 : q = inv p := by
     apply Classical.byContradiction
     intro e
     exact c (next_split.2 ⟨c1, e⟩)
    repeat (first | with_reducible exact Ev.now _ | dsimp only | with_reducible refine Ev.bind (Ev.eq he) ?_ | refine Ev.pos (by first | omega | rfl | assumption | decide) ?_ | refine Ev.neg (by first | omega | assumption | exact Bool.false_ne_true | exact fun e => absurd e (by decide)) ?_ | simp only [bne_self_eq_false, Bool.not_true, Bool.not_false, List.length_cons, List.length_nil] | rw [wrap_id (by omega) (by omega)] | with_reducible exact (Ev.eq he) | ((with_reducible refine Ev.eq (congrArg some ?_)); rfl))
    exact hi
   ·repeat (first | with_reducible exact Ev.now _ | dsimp only | with_reducible refine Ev.bind (Ev.eq he) ?_ | refine Ev.pos (by first | omega | rfl | assumption | decide) ?_ | refine Ev.neg (by first | omega | assumption | exact Bool.false_ne_true | exact fun e => absurd e (by decide)) ?_ | simp only [bne_self_eq_false, Bool.not_true, Bool.not_false, List.length_cons, List.length_nil] | rw [wrap_id (by omega) (by omega)] | with_reducible exact (Ev.eq he) | ((with_reducible refine Ev.eq (congrArg some ?_)); rfl))
    exact hi

theorem specEdgeM : Ev (fun k => spec_l02Matrix.f k n l) (edgeM l (2 * l.length)) := by
 obtain ⟨g1, g2, g3⟩ := graph_small h
 have : ∀ (d p : Nat), p + d = 2 * l.length → Ev (fun k => spec_l02Matrix.l0 k (edgeM l p) (2 * (l.length : Int)) (p : Int) n l) (edgeM l (2 * l.length)) := by
  intro d
  induction d with
  | zero =>
   intro p hp
   have e : p = 2 * l.length := by omega
   refine Ev.succ ?_; simp only [spec_l02Matrix.l0]
   rw [e]
   repeat (first | with_reducible exact Ev.now _ | dsimp only | refine Ev.pos (by first | omega | rfl | assumption | decide) ?_ | refine Ev.neg (by first | omega | assumption | exact Bool.false_ne_true | exact fun e => absurd e (by decide)) ?_ | simp only [bne_self_eq_false, Bool.not_true, Bool.not_false, List.length_cons, List.length_nil] | rw [wrap_id (by omega) (by omega)] | ((with_reducible refine Ev.eq (congrArg some ?_)); rfl))
  | succ d ih =>
   intro p hp
   have hi := ih (p + 1) (by omega)
   rw [edgeM_succ] at hi
   have he := specEnds h (show p < 2 * l.length by omega)
   have hl := edgeM_length l p
   refine Ev.succ ?_; simp only [spec_l02Matrix.l0]
   rw [show (2 * (l.length : Int)).toNat = 2 * l.length by omega]
   repeat (first | with_reducible exact Ev.now _ | dsimp only | with_reducible refine Ev.bind (Ev.eq he) ?_ | refine Ev.pos (by first | omega | rfl | assumption | decide) ?_ | refine Ev.neg (by first | omega | assumption | exact Bool.false_ne_true | exact fun e => absurd e (by decide)) ?_ | simp only [bne_self_eq_false, Bool.not_true, Bool.not_false, List.length_cons, List.length_nil] | rw [wrap_id (by omega) (by omega)] | with_reducible exact (Ev.eq he) | ((with_reducible refine Ev.eq (congrArg some ?_)); rfl))
   exact specRow h p (by omega) (edgeM l p) (by omega) _ hi (2 * l.length) 0 (by omega)
 unfold spec_l02Matrix.f
 rw [wrap_id (x := 2 * (l.length : Int)) (by omega) (by omega)]
 exact this (2 * l.length) 0 (by omega)

end
/-- The matrix while row p is told up to the place q. -/
def stage (l : List (List Int)) (p q : Nat) : List (List Int) := edgeM l p ++ rowE l p q :: List.replicate (2 * l.length - (p + 1)) (List.replicate (2 * l.length) 0)

theorem stage_length (l : List (List Int)) (p q : Nat) (h : p < 2 * l.length) : (stage l p q).length = 2 * l.length := by
 simp [stage, edgeM_length]; omega

theorem stage_row (l : List (List Int)) (p q : Nat) : rd_L1 (stage l p q) (p : Int) = rowE l p q := by
 unfold stage
 rw [rl_lt (by simp [edgeM_length])]
 rw [List.getElem_append_right (by rw [edgeM_length]; omega)]
 simp [edgeM_length]

theorem stage_set (l : List (List Int)) (p q : Nat) (r : List Int) : (stage l p q).set p r = edgeM l p ++ r :: List.replicate (2 * l.length - (p + 1)) (List.replicate (2 * l.length) 0) := by
 unfold stage
 rw [List.set_append_right _ _ (by rw [edgeM_length]; omega), edgeM_length, Nat.sub_self, List.set_cons_zero]

theorem stage_zero (l : List (List Int)) : 0 < 2 * l.length → stage l 0 0 = zeros (2 * l.length) := by
 intro h
 unfold stage edgeM zeros rowE
 rw [show 2 * l.length - (0 + 1) = 2 * l.length - 1 by omega]
 simp only [List.range_zero, List.map_nil, List.nil_append]
 rw [← List.replicate_succ, Nat.sub_add_cancel (by omega)]

theorem stage_next (l : List (List Int)) (p : Nat) (h : p + 1 < 2 * l.length) : stage l p (2 * l.length) = stage l (p + 1) 0 := by
 unfold stage
 rw [edgeM_succ, show 2 * l.length - (p + 1) = (2 * l.length - (p + 1 + 1)) + 1 by omega, List.replicate_succ, List.append_assoc]
 rfl

theorem stage_last (l : List (List Int)) (p : Nat) (h : p + 1 = 2 * l.length) : stage l p (2 * l.length) = edgeM l (2 * l.length) := by
 unfold stage
 rw [show 2 * l.length - (p + 1) = 0 by omega, List.replicate_zero, ← edgeM_succ, h]

section
variable {n : Int} {l : List (List Int)} (h : isGraph n l = true)
include h

theorem implRow (p : Nat) (hp : p < 2 * l.length) (r : List (List Int)) (hr : Ev (fun k => impl_Graph_edgeMatrix.l0 k (stage l p (2 * l.length)) (2 * (l.length : Int)) ((p + 1 : Nat) : Int) n l) r) :
  ∀ (d q : Nat), q + d = 2 * l.length → Ev (fun k => impl_Graph_edgeMatrix.l1 k (stage l p q) (p : Int) (hd l p) (2 * (l.length : Int)) (p : Int) (2 * (l.length : Int)) (q : Int) n l) r := by
 obtain ⟨g1, g2, g3⟩ := graph_small h
 intro d
 induction d with
 | zero =>
  intro q hq
  have e : q = 2 * l.length := by omega
  refine Ev.succ ?_; simp only [impl_Graph_edgeMatrix.l1]
  rw [wrap_succ (i := p) (by omega), e]
  repeat (first | with_reducible exact Ev.now _ | dsimp only | refine Ev.pos (by first | omega | rfl | assumption | decide) ?_ | refine Ev.neg (by first | omega | assumption | exact Bool.false_ne_true | exact fun e => absurd e (by decide)) ?_ | simp only [bne_self_eq_false, Bool.not_true, Bool.not_false, List.length_cons, List.length_nil] | rw [wrap_id (by omega) (by omega)] | ((with_reducible refine Ev.eq (congrArg some ?_)); rfl))
  exact hr
 | succ d ih =>
  intro q hq
  have hi := ih (q + 1) (by omega)
  have he := implEnds h (show q < 2 * l.length by omega)
  have hx := xor_inv p (by omega)
  have hlen := rowE_length l p q
  have hs := stage_length l p q hp
  refine Ev.succ ?_; simp only [impl_Graph_edgeMatrix.l1]
  rw [wrap_succ (i := q) (by omega), hx, stage_row]
  by_cases c : next l p q = true
  ·have e2 : (stage l p q).set p ((rowE l p q).set q 1) = stage l p (q + 1) := by
    rw [stage_set]
    unfold stage
    rw [show rowE l p (q + 1) = (if next l p q = true then (rowE l p q).set q 1 else rowE l p q) from rfl, if_pos c]
   obtain ⟨c1, c2⟩ := next_split.1 c
   rw [Int.toNat_natCast, Int.toNat_natCast, e2]
   repeat (first | with_reducible exact Ev.now _ | dsimp only | with_reducible refine Ev.bind (Ev.eq he) ?_ | refine Ev.pos (by first | omega | rfl | assumption | decide) ?_ | refine Ev.neg (by first | omega | assumption | exact Bool.false_ne_true | exact fun e => absurd e (by decide)) ?_ | simp only [bne_self_eq_false, Bool.not_true, Bool.not_false, List.length_cons, List.length_nil] | rw [wrap_id (by omega) (by omega)] | with_reducible exact (Ev.eq he) | ((with_reducible refine Ev.eq (congrArg some ?_)); rfl))
   exact hi
  ·have e2 : stage l p q = stage l p (q + 1) := by
    unfold stage
    rw [show rowE l p (q + 1) = (if next l p q = true then (rowE l p q).set q 1 else rowE l p q) from rfl, if_neg c]
   rw [← e2] at hi
   by_cases c1 : hd l p = tl l q
   ·have c2 : q = inv p := by
     apply Classical.byContradiction
     intro e
     exact c (next_split.2 ⟨c1, e⟩)
    repeat (first | with_reducible exact Ev.now _ | dsimp only | with_reducible refine Ev.bind (Ev.eq he) ?_ | refine Ev.pos (by first | omega | rfl | assumption | decide) ?_ | refine Ev.neg (by first | omega | assumption | exact Bool.false_ne_true | exact fun e => absurd e (by decide)) ?_ | simp only [bne_self_eq_false, Bool.not_true, Bool.not_false, List.length_cons, List.length_nil] | rw [wrap_id (by omega) (by omega)] | with_reducible exact (Ev.eq he) | ((with_reducible refine Ev.eq (congrArg some ?_)); rfl))
    exact hi
   ·repeat (first | with_reducible exact Ev.now _ | dsimp only | with_reducible refine Ev.bind (Ev.eq he) ?_ | refine Ev.pos (by first | omega | rfl | assumption | decide) ?_ | refine Ev.neg (by first | omega | assumption | exact Bool.false_ne_true | exact fun e => absurd e (by decide)) ?_ | simp only [bne_self_eq_false, Bool.not_true, Bool.not_false, List.length_cons, List.length_nil] | rw [wrap_id (by omega) (by omega)] | with_reducible exact (Ev.eq he) | ((with_reducible refine Ev.eq (congrArg some ?_)); rfl))
    exact hi

theorem implEdgeM : Ev (fun k => impl_Graph_edgeMatrix.f k n l) (edgeM l (2 * l.length)) := by
 obtain ⟨g1, g2, g3⟩ := graph_small h
 have main : ∀ (d p : Nat), p + 1 + d = 2 * l.length → Ev (fun k => impl_Graph_edgeMatrix.l0 k (stage l p 0) (2 * (l.length : Int)) (p : Int) n l) (edgeM l (2 * l.length)) := by
  intro d
  induction d with
  | zero =>
   intro p hp
   have he := implEnds h (show p < 2 * l.length by omega)
   refine Ev.succ ?_; simp only [impl_Graph_edgeMatrix.l0]
   unfold impl_Graph_size.f
   repeat (first | with_reducible exact Ev.now _ | dsimp only | with_reducible refine Ev.bind (Ev.eq he) ?_ | with_reducible refine Ev.bind (Ev.now _) ?_ | refine Ev.pos (by first | omega | rfl | assumption | decide) ?_ | refine Ev.neg (by first | omega | assumption | exact Bool.false_ne_true | exact fun e => absurd e (by decide)) ?_ | simp only [bne_self_eq_false, Bool.not_true, Bool.not_false, List.length_cons, List.length_nil] | rw [wrap_id (by omega) (by omega)] | with_reducible exact (Ev.eq he) | with_reducible exact (Ev.now _) | ((with_reducible refine Ev.eq (congrArg some ?_)); rfl))
   refine implRow h p (by omega) _ ?_ (2 * l.length) 0 (by omega)
   rw [stage_last l p (by omega)]
   refine Ev.succ ?_; simp only [impl_Graph_edgeMatrix.l0]
   repeat (first | with_reducible exact Ev.now _ | dsimp only | refine Ev.pos (by first | omega | rfl | assumption | decide) ?_ | refine Ev.neg (by first | omega | assumption | exact Bool.false_ne_true | exact fun e => absurd e (by decide)) ?_ | simp only [bne_self_eq_false, Bool.not_true, Bool.not_false, List.length_cons, List.length_nil] | rw [wrap_id (by omega) (by omega)] | ((with_reducible refine Ev.eq (congrArg some ?_)); rfl))
  | succ d ih =>
   intro p hp
   have hi := ih (p + 1) (by omega)
   have he := implEnds h (show p < 2 * l.length by omega)
   refine Ev.succ ?_; simp only [impl_Graph_edgeMatrix.l0]
   unfold impl_Graph_size.f
   repeat (first | with_reducible exact Ev.now _ | dsimp only | with_reducible refine Ev.bind (Ev.eq he) ?_ | with_reducible refine Ev.bind (Ev.now _) ?_ | refine Ev.pos (by first | omega | rfl | assumption | decide) ?_ | refine Ev.neg (by first | omega | assumption | exact Bool.false_ne_true | exact fun e => absurd e (by decide)) ?_ | simp only [bne_self_eq_false, Bool.not_true, Bool.not_false, List.length_cons, List.length_nil] | rw [wrap_id (by omega) (by omega)] | with_reducible exact (Ev.eq he) | with_reducible exact (Ev.now _) | ((with_reducible refine Ev.eq (congrArg some ?_)); rfl))
   refine implRow h p (by omega) _ ?_ (2 * l.length) 0 (by omega)
   rw [stage_next l p (by omega)]
   exact hi
 unfold impl_Graph_edgeMatrix.f impl_Graph_size.f
 refine Ev.bind (Ev.now _) ?_
 rw [wrap_id (x := 2 * (l.length : Int)) (by omega) (by omega)]
 refine Ev.bind (implSquare (2 * (l.length : Int)) (by omega) (by omega)) ?_
 refine Ev.bind (Ev.now _) ?_
 rw [wrap_id (x := 2 * (l.length : Int)) (by omega) (by omega)]
 rw [show (2 * (l.length : Int)).toNat = 2 * l.length by omega]
 by_cases e : l.length = 0
 ·refine Ev.succ ?_; simp only [impl_Graph_edgeMatrix.l0]
  refine Ev.neg (by omega) ?_
  refine Ev.eq (congrArg some ?_)
  rw [e]
  rfl
 ·rw [← stage_zero l (by omega)]
  exact main (2 * l.length - 1) 0 (by omega)

end
/-- One where q may follow p. -/
def W (l : List (List Int)) (p q : Nat) : Int := if next l p q = true then 1 else 0

theorem W_range (l : List (List Int)) (p q : Nat) : 0 ≤ W l p q ∧ W l p q ≤ 1 := by
 unfold W
 split <;> decide

theorem edgeM_ofFn (l : List (List Int)) : edgeM l (2 * l.length) = ofFn (2 * l.length) (W l) := by
 unfold edgeM ofFn
 refine List.map_congr_left (fun p hp => ?_)
 refine list_ext_rd (by rw [rowE_length, rowOf_length]) (fun j hj => ?_)
 rw [rowE_length] at hj
 rw [rowE_rd l p _ j (Nat.le_refl _), rowOf_rd _ hj]
 unfold W
 by_cases c : next l p j = true
 ·rw [if_pos c, if_pos ⟨hj, c⟩]
 ·rw [if_neg c, if_neg (fun e => c e.2)]

/-- The first i numbers without zeros at the end. -/
def trimN (l : List Int) : Nat → List Int
 | 0 => []
 | i + 1 => if rd l (i : Int) = 0 then trimN l i else l.take (i + 1)

theorem trimN_length (l : List Int) (i : Nat) : (trimN l i).length ≤ l.length := by
 induction i with
 | zero => simp [trimN]
 | succ i ih =>
  unfold trimN
  split
  ·exact ih
  ·simp only [List.length_take]; omega

theorem specOwn (l : List Int) (hl : l.length ≤ 1048576) : spec_l01Own.f l = some l := by
 unfold spec_l01Own.f
 simp only [Option.bind_some, List.length_nil, List.nil_append]
 exact if_pos (by omega)

theorem specTrim_loop (l : List Int) (hl : l.length ≤ 1048576) : ∀ (i : Nat), i ≤ l.length → Ev (fun k => spec_l01Trim.l0 k l (i : Int)) (trimN l i) := by
 intro i
 induction i with
 | zero =>
  intro hi
  refine Ev.succ ?_; simp only [spec_l01Trim.l0]
  repeat (first | with_reducible exact Ev.now _ | dsimp only | with_reducible refine Ev.bind (Ev.eq (specOwn _ (by simp))) ?_ | refine Ev.pos (by first | omega | rfl | assumption | decide) ?_ | refine Ev.neg (by first | omega | assumption | exact Bool.false_ne_true | exact fun e => absurd e (by decide)) ?_ | simp only [bne_self_eq_false, Bool.not_true, Bool.not_false, List.length_cons, List.length_nil] | rw [wrap_id (by omega) (by omega)] | with_reducible exact (Ev.eq (specOwn _ (by simp))) | ((with_reducible refine Ev.eq (congrArg some ?_)); rfl))
 | succ i ih =>
  intro hi
  refine Ev.succ ?_; simp only [spec_l01Trim.l0]
  rw [wrap_id (by omega) (by omega), show ((i + 1 : Nat) : Int) - 1 = i by omega]
  unfold trimN
  by_cases h : rd l (i : Int) = 0
  ·rw [if_pos h]
   repeat (first | with_reducible exact Ev.now _ | dsimp only | refine Ev.pos (by first | omega | rfl | assumption | decide) ?_ | refine Ev.neg (by first | omega | assumption | exact Bool.false_ne_true | exact fun e => absurd e (by decide)) ?_ | simp only [bne_self_eq_false, Bool.not_true, Bool.not_false, List.length_cons, List.length_nil] | rw [wrap_id (by omega) (by omega)] | ((with_reducible refine Ev.eq (congrArg some ?_)); rfl))
   exact ih (by omega)
  ·rw [if_neg h, Int.toNat_natCast]
   repeat (first | with_reducible exact Ev.now _ | dsimp only | (with_reducible refine Ev.bind (Ev.eq (specOwn (l.take (i + 1)) (by simp only [List.length_take]; omega))) ?_) | refine Ev.pos (by first | omega | rfl | assumption | decide) ?_ | refine Ev.neg (by first | omega | assumption | exact Bool.false_ne_true | exact fun e => absurd e (by decide)) ?_ | simp only [bne_self_eq_false, Bool.not_true, Bool.not_false, List.length_cons, List.length_nil] | rw [wrap_id (by omega) (by omega)] | (with_reducible exact (Ev.eq (specOwn (l.take (i + 1)) (by simp only [List.length_take]; omega)))) | ((with_reducible refine Ev.eq (congrArg some ?_)); rfl))

theorem specTrim (l : List Int) (hl : l.length ≤ 1048576) : Ev (fun k => spec_l01Trim.f k l) (trimN l l.length) := by
 unfold spec_l01Trim.f
 exact specTrim_loop l hl _ (Nat.le_refl _)
theorem implTrim_loop (l : List Int) (hl : l.length ≤ 1048576) : ∀ (i : Nat), i ≤ l.length → Ev (fun k => impl_trimmed.l0 k (l.take i)) (trimN l i) := by
 intro i
 have hc : ∀ x : List Int, x.length ≤ 1048576 → slices_Clone_int64_int64.f x = some x := fun x hx => if_pos (by omega)
 induction i with
 | zero =>
  intro hi
  refine Ev.succ ?_; simp only [impl_trimmed.l0]
  rw [List.take_zero]
  repeat (first | with_reducible exact Ev.now _ | dsimp only | with_reducible refine Ev.bind (Ev.eq (hc _ (by simp))) ?_ | refine Ev.pos (by first | omega | rfl | assumption | decide) ?_ | refine Ev.neg (by first | omega | assumption | exact Bool.false_ne_true | exact fun e => absurd e (by decide)) ?_ | simp only [bne_self_eq_false, Bool.not_true, Bool.not_false, List.length_cons, List.length_nil] | rw [wrap_id (by omega) (by omega)] | with_reducible exact (Ev.eq (hc _ (by simp))) | ((with_reducible refine Ev.eq (congrArg some ?_)); rfl))
 | succ i ih =>
  intro hi
  refine Ev.succ ?_; simp only [impl_trimmed.l0]
  have e : (l.take (i + 1)).length = i + 1 := by simp only [List.length_take]; omega
  rw [e, wrap_id (by omega) (by omega), show ((i + 1 : Nat) : Int) - 1 = i by omega]
  have e2 : rd (l.take (i + 1)) (i : Int) = rd l (i : Int) := by rw [rd_lt (by omega), rd_lt (by omega), List.getElem_take]
  have e3 : (l.take (i + 1)).take i = l.take i := by rw [List.take_take, Nat.min_eq_left (by omega)]
  rw [e2, show ((i : Int)).toNat = i from rfl, e3]
  unfold trimN
  by_cases h : rd l (i : Int) = 0
  ·rw [if_pos h]
   repeat (first | with_reducible exact Ev.now _ | dsimp only | refine Ev.pos (by first | omega | rfl | assumption | decide) ?_ | refine Ev.neg (by first | omega | assumption | exact Bool.false_ne_true | exact fun e => absurd e (by decide)) ?_ | simp only [bne_self_eq_false, Bool.not_true, Bool.not_false, List.length_cons, List.length_nil] | rw [wrap_id (by omega) (by omega)] | ((with_reducible refine Ev.eq (congrArg some ?_)); rfl))
   exact ih (by omega)
  ·rw [if_neg h]
   repeat (first | with_reducible exact Ev.now _ | dsimp only | with_reducible refine Ev.bind (Ev.eq (hc (l.take (i + 1)) (by omega))) ?_ | refine Ev.pos (by first | omega | rfl | assumption | decide) ?_ | refine Ev.neg (by first | omega | assumption | exact Bool.false_ne_true | exact fun e => absurd e (by decide)) ?_ | simp only [bne_self_eq_false, Bool.not_true, Bool.not_false, List.length_cons, List.length_nil] | rw [wrap_id (by omega) (by omega)] | with_reducible exact (Ev.eq (hc (l.take (i + 1)) (by omega))) | ((with_reducible refine Ev.eq (congrArg some ?_)); rfl))

theorem implTrim (l : List Int) (hl : l.length ≤ 1048576) : Ev (fun k => impl_trimmed.f k l) (trimN l l.length) := by
 unfold impl_trimmed.f
 have := implTrim_loop l hl _ (Nat.le_refl _)
 rw [List.take_length] at this
 exact this
section
variable (n : Nat) (hn : n ≤ 1000) (a b : List (List Int)) (ha : Sq n a) (hb : Sq n b)

/-- The product's entry, of the k first places. -/
def part (k i j : Nat) : Int := wrap64 (Sm k (fun m => mat a i m * mat b m j))

/-- The result while row i is told from the places before k, and up to j from place k. -/
def rt (i k j : Nat) : List (List Int) := ofFn n (fun p q => if p < i then part a b n p q else if p = i then (if q < j then part a b (k + 1) p q else part a b k p q) else 0)

theorem rt_next (i k : Nat) : rt n a b i k n = rt n a b i (k + 1) 0 := by
 refine ofFn_congr (fun p q hp hq => ?_)
 by_cases c : p < i
 ·simp only [if_pos c]
 ·by_cases e : p = i
  ·simp only [if_neg c, if_pos e, if_pos hq, if_neg (Nat.not_lt_zero q)]
  ·simp only [if_neg c, if_neg e]

theorem part_zero (i j : Nat) : part a b 0 i j = 0 := by
 unfold part Sm
 exact wrap_id (by decide) (by decide)

theorem rt_row (i : Nat) : rt n a b i n 0 = rt n a b (i + 1) 0 0 := by
 refine ofFn_congr (fun p q hp hq => ?_)
 by_cases c : p < i
 ·rw [if_pos c, if_pos (by omega)]
 ·by_cases e : p = i
  ·rw [if_neg c, if_pos e, if_neg (by omega), if_pos (by omega)]
  ·rw [if_neg c, if_neg e, if_neg (by omega)]
   by_cases e2 : p = i + 1
   ·rw [if_pos e2, if_neg (by omega), part_zero]
   ·rw [if_neg e2]

theorem part_skip (k i j : Nat) (h : mat a i k = 0) : part a b (k + 1) i j = part a b k i j := by
 unfold part
 rw [show Sm (k + 1) (fun m => mat a i m * mat b m j) = Sm k (fun m => mat a i m * mat b m j) + mat a i k * mat b k j from rfl, h, Int.zero_mul, Int.add_zero]

theorem rt_skip (i k : Nat) (h : mat a i k = 0) : rt n a b i k 0 = rt n a b i (k + 1) 0 := by
 refine ofFn_congr (fun p q hp hq => ?_)
 by_cases c : p < i
 ·simp only [if_pos c]
 ·by_cases e : p = i
  ·subst e
   simp only [if_neg c, if_pos, if_neg (Nat.not_lt_zero q), part_skip a b k p q h]
  ·simp only [if_neg c, if_neg e]

theorem part_step (k i j : Nat) : wrap64 (part a b k i j + wrap64 (mat a i k * mat b k j)) = part a b (k + 1) i j := by
 unfold part
 rw [wrap_add_wrap]
 rfl

theorem rt_length (i k j : Nat) : (rt n a b i k j).length = n := ofFn_length _ _

theorem rt_at {i : Nat} (k j : Nat) (hi : i < n) : rd_L1 (rt n a b i k j) (i : Int) = rowOf n (fun q => if q < j then part a b (k + 1) i q else part a b k i q) := by
 unfold rt
 rw [ofFn_row _ hi]
 refine rowOf_congr (fun q hq => ?_)
 rw [if_neg (Nat.lt_irrefl i), if_pos rfl]

theorem rt_set {i j : Nat} (k : Nat) (hi : i < n) (hj : j < n) : (rt n a b i k j).set i ((rd_L1 (rt n a b i k j) (i : Int)).set j (wrap64 (rd (rd_L1 (rt n a b i k j) (i : Int)) (j : Int) + wrap64 (mat a i k * mat b k j)))) = rt n a b i k (j + 1) := by
 rw [rt_at n a b k j hi, rowOf_rd _ hj, if_neg (Nat.lt_irrefl j), part_step, rowOf_set _ _ hj]
 unfold rt
 rw [ofFn_set _ _ hi]
 refine ofFn_congr (fun p q hp hq => ?_)
 by_cases e : p = i
 ·subst e
  rw [if_pos rfl, if_neg (Nat.lt_irrefl p), if_pos rfl]
  by_cases e2 : q = j
  ·subst e2
   rw [if_pos rfl, if_pos (by omega)]
  ·rw [if_neg e2]
   by_cases c : q < j
   ·rw [if_pos c, if_pos (by omega)]
   ·rw [if_neg c, if_neg (by omega)]
 ·rw [if_neg e]
  by_cases c : p < i
  ·rw [if_pos c, if_pos c]
  ·rw [if_neg c, if_neg c, if_neg e, if_neg e]

include hn ha hb

theorem rtInner (i k : Nat) (hi : i < n) (hk : k < n) (r : List (List Int)) (hr : Ev (fun f => impl_rowsTimes.l1 f b (rt n a b i k n) (i : Int) a (n : Int) (i : Int) (rd_L1 a (i : Int)) (n : Int) ((k + 1 : Nat) : Int)) r) :
  ∀ (d j : Nat), j + d = n → Ev (fun f => impl_rowsTimes.l2 f b (rt n a b i k j) (i : Int) (mat a i k) a (n : Int) (i : Int) (rd_L1 a (i : Int)) (n : Int) (k : Int) (rd_L1 b (k : Int)) (n : Int) (j : Int)) r := by
 have hbl := hb.2 k hk
 intro d
 induction d with
 | zero =>
  intro j hj
  have e : j = n := by omega
  subst e
  refine Ev.succ ?_; simp only [impl_rowsTimes.l2]
  rw [wrap_succ (i := k) (by omega)]
  repeat (first | with_reducible exact Ev.now _ | dsimp only | refine Ev.pos (by first | omega | rfl | assumption | decide) ?_ | refine Ev.neg (by first | omega | assumption | exact Bool.false_ne_true | exact fun e => absurd e (by decide)) ?_ | simp only [bne_self_eq_false, Bool.not_true, Bool.not_false, List.length_cons, List.length_nil] | rw [wrap_id (by omega) (by omega)] | ((with_reducible refine Ev.eq (congrArg some ?_)); rfl))
  exact hr
 | succ d ih =>
  intro j hj
  have h1 := ih (j + 1) (by omega)
  have hl := rt_length n a b i k j
  have hrow : (rd_L1 (rt n a b i k j) (i : Int)).length = n := by rw [rt_at n a b k j hi, rowOf_length]
  have hset := rt_set n a b (i := i) (j := j) k hi (by omega)
  refine Ev.succ ?_; simp only [impl_rowsTimes.l2]
  rw [show rd (rd_L1 b (k : Int)) (j : Int) = mat b k j from rfl, Int.toNat_natCast, Int.toNat_natCast, hset, wrap_succ (i := j) (by omega)]
  repeat (first | with_reducible exact Ev.now _ | dsimp only | refine Ev.pos (by first | omega | rfl | assumption | decide) ?_ | refine Ev.neg (by first | omega | assumption | exact Bool.false_ne_true | exact fun e => absurd e (by decide)) ?_ | simp only [bne_self_eq_false, Bool.not_true, Bool.not_false, List.length_cons, List.length_nil] | rw [wrap_id (by omega) (by omega)] | ((with_reducible refine Ev.eq (congrArg some ?_)); rfl))
  exact h1

theorem rtMiddle (i : Nat) (hi : i < n) (r : List (List Int)) (hr : Ev (fun f => impl_rowsTimes.l0 f b (rt n a b (i + 1) 0 0) a (n : Int) ((i + 1 : Nat) : Int)) r) :
  ∀ (d k : Nat), k + d = n → Ev (fun f => impl_rowsTimes.l1 f b (rt n a b i k 0) (i : Int) a (n : Int) (i : Int) (rd_L1 a (i : Int)) (n : Int) (k : Int)) r := by
 have hal := ha.2 i hi
 have hbl := hb.1
 intro d
 induction d with
 | zero =>
  intro k hk
  have e : k = n := by omega
  refine Ev.succ ?_; simp only [impl_rowsTimes.l1]
  rw [e, rt_row, wrap_succ (i := i) (by omega)]
  repeat (first | with_reducible exact Ev.now _ | dsimp only | refine Ev.pos (by first | omega | rfl | assumption | decide) ?_ | refine Ev.neg (by first | omega | assumption | exact Bool.false_ne_true | exact fun e => absurd e (by decide)) ?_ | simp only [bne_self_eq_false, Bool.not_true, Bool.not_false, List.length_cons, List.length_nil] | rw [wrap_id (by omega) (by omega)] | ((with_reducible refine Ev.eq (congrArg some ?_)); rfl))
  exact hr
 | succ d ih =>
  intro k hk
  have h1 := ih (k + 1) (by omega)
  have hbk := hb.2 k (by omega)
  refine Ev.succ ?_; simp only [impl_rowsTimes.l1]
  rw [show rd (rd_L1 a (i : Int)) (k : Int) = mat a i k from rfl, wrap_succ (i := k) (by omega)]
  by_cases c : mat a i k = 0
  ·rw [← rt_skip n a b i k c] at h1
   repeat (first | with_reducible exact Ev.now _ | dsimp only | refine Ev.pos (by first | omega | rfl | assumption | decide) ?_ | refine Ev.neg (by first | omega | assumption | exact Bool.false_ne_true | exact fun e => absurd e (by decide)) ?_ | simp only [bne_self_eq_false, Bool.not_true, Bool.not_false, List.length_cons, List.length_nil] | rw [wrap_id (by omega) (by omega)] | ((with_reducible refine Ev.eq (congrArg some ?_)); rfl))
   exact h1
  ·rw [← rt_next] at h1
   repeat (first | with_reducible exact Ev.now _ | dsimp only | refine Ev.pos (by first | omega | rfl | assumption | decide) ?_ | refine Ev.neg (by first | omega | assumption | exact Bool.false_ne_true | exact fun e => absurd e (by decide)) ?_ | simp only [bne_self_eq_false, Bool.not_true, Bool.not_false, List.length_cons, List.length_nil] | rw [wrap_id (by omega) (by omega)] | ((with_reducible refine Ev.eq (congrArg some ?_)); rfl))
   rw [hbk]
   exact rtInner n hn a b ha hb i k hi (by omega) r h1 n 0 (by omega)

theorem rtOuter : ∀ (d i : Nat), i + d = n → Ev (fun f => impl_rowsTimes.l0 f b (rt n a b i 0 0) a (n : Int) (i : Int)) (ofFn n (part a b n)) := by
 have hal := ha.1
 intro d
 induction d with
 | zero =>
  intro i hi
  refine Ev.succ ?_; simp only [impl_rowsTimes.l0]
  have e : rt n a b i 0 0 = ofFn n (part a b n) := ofFn_congr (fun p q hp hq => if_pos (by omega))
  rw [e]
  repeat (first | with_reducible exact Ev.now _ | dsimp only | refine Ev.pos (by first | omega | rfl | assumption | decide) ?_ | refine Ev.neg (by first | omega | assumption | exact Bool.false_ne_true | exact fun e => absurd e (by decide)) ?_ | simp only [bne_self_eq_false, Bool.not_true, Bool.not_false, List.length_cons, List.length_nil] | rw [wrap_id (by omega) (by omega)] | ((with_reducible refine Ev.eq (congrArg some ?_)); rfl))
 | succ d ih =>
  intro i hi
  have h1 := ih (i + 1) (by omega)
  have hai := ha.2 i (by omega)
  refine Ev.succ ?_; simp only [impl_rowsTimes.l0]
  repeat (first | with_reducible exact Ev.now _ | dsimp only | refine Ev.pos (by first | omega | rfl | assumption | decide) ?_ | refine Ev.neg (by first | omega | assumption | exact Bool.false_ne_true | exact fun e => absurd e (by decide)) ?_ | simp only [bne_self_eq_false, Bool.not_true, Bool.not_false, List.length_cons, List.length_nil] | rw [wrap_id (by omega) (by omega)] | ((with_reducible refine Ev.eq (congrArg some ?_)); rfl))
  rw [hai]
  exact rtMiddle n hn a b ha hb i (by omega) _ h1 n 0 (by omega)

theorem rowsTimes : Ev (fun f => impl_rowsTimes.f f a b) (ofFn n (part a b n)) := by
 unfold impl_rowsTimes.f
 rw [ha.1]
 refine Ev.bind (implSquare (n : Int) (by omega) (by omega)) ?_
 have e : zeros (n : Int).toNat = rt n a b 0 0 0 := by
  rw [Int.toNat_natCast]
  apply List.ext_getElem
  ·rw [rt_length]; simp [zeros]
  ·intro k h1 h2
   rw [rt_length] at h2
   rw [← rl_lt, ← rl_lt]
   ·by_cases e : k = 0
    ·subst e
     rw [rt_at n a b 0 0 h2, rl_lt h1]
     simp only [zeros, List.getElem_replicate]
     rw [← rowOf_zero]
     refine rowOf_congr (fun q hq => ?_)
     rw [if_neg (by omega), part_zero]
    ·unfold rt
     rw [ofFn_row _ h2, rl_lt h1]
     simp only [zeros, List.getElem_replicate]
     rw [← rowOf_zero]
     refine rowOf_congr (fun q hq => ?_)
     rw [if_neg (by omega), if_neg e]
 rw [e]
 exact rtOuter n hn a b ha hb n 0 (by omega)

omit hb in
theorem trace : Ev (fun f => impl_trace.f f a) (wrap64 (tr n (mat a))) := by
 have hal := ha.1
 have : ∀ (d i : Nat), i + d = n → Ev (fun f => impl_trace.l0 f (wrap64 (Sm i (fun i => mat a i i))) a (n : Int) (i : Int)) (wrap64 (tr n (mat a))) := by
  intro d
  induction d with
  | zero =>
   intro i hi
   have e : i = n := by omega
   subst e
   refine Ev.succ ?_; simp only [impl_trace.l0]
   repeat (first | with_reducible exact Ev.now _ | dsimp only | refine Ev.pos (by first | omega | rfl | assumption | decide) ?_ | refine Ev.neg (by first | omega | assumption | exact Bool.false_ne_true | exact fun e => absurd e (by decide)) ?_ | simp only [bne_self_eq_false, Bool.not_true, Bool.not_false, List.length_cons, List.length_nil] | rw [wrap_id (by omega) (by omega)] | ((with_reducible refine Ev.eq (congrArg some ?_)); rfl))
  | succ d ih =>
   intro i hi
   have h1 := ih (i + 1) (by omega)
   have hai := ha.2 i (by omega)
   refine Ev.succ ?_; simp only [impl_trace.l0]
   rw [wrap_succ (by omega), wrap_add_left]
   repeat (first | with_reducible exact Ev.now _ | dsimp only | refine Ev.pos (by first | omega | rfl | assumption | decide) ?_ | refine Ev.neg (by first | omega | assumption | exact Bool.false_ne_true | exact fun e => absurd e (by decide)) ?_ | simp only [bne_self_eq_false, Bool.not_true, Bool.not_false, List.length_cons, List.length_nil] | rw [wrap_id (by omega) (by omega)] | ((with_reducible refine Ev.eq (congrArg some ?_)); rfl))
   exact h1
 unfold impl_trace.f
 rw [hal]
 have h0 := this n 0 (by omega)
 rw [show wrap64 (Sm 0 (fun i => mat a i i)) = 0 from wrap_id (x := 0) (by decide) (by decide)] at h0
 exact h0

end
def sg (j : Nat) : Int := if j % 2 = 0 then 1 else -1

theorem sg_succ (j : Nat) : sg (j + 1) = - sg j := by
 unfold sg
 split <;> split <;> omega

def minor (m : Nat → Nat → Int) (j : Nat) : Nat → Nat → Int := fun i k => m (i + 1) (if k < j then k else k + 1)

def det : Nat → (Nat → Nat → Int) → Int
 | 0, _ => 1
 | n + 1, m => Sm (n + 1) (fun j => sg j * m 0 j * det n (minor m j))

theorem det_congr : ∀ (n : Nat) (m m' : Nat → Nat → Int), (∀ i k, i < n → k < n → m i k = m' i k) → det n m = det n m' := by
 intro n
 induction n with
 | zero => intro m m' _; rfl
 | succ n ih =>
  intro m m' h
  unfold det
  refine Sm_congr (fun j hj => ?_)
  rw [h 0 j (by omega) hj, ih (minor m j) (minor m' j) (fun i k hi hk => ?_)]
  unfold minor
  split
  ·exact h _ _ (by omega) (by omega)
  ·exact h _ _ (by omega) (by omega)

/-- Column c becomes v. -/
def setc (m : Nat → Nat → Int) (c : Nat) (v : Nat → Int) : Nat → Nat → Int := fun i k => if k = c then v i else m i k

theorem setc_self (m : Nat → Nat → Int) (c : Nat) : setc m c (fun i => m i c) = m := by
 funext i k
 unfold setc
 split
 ·next h => rw [h]
 ·rfl

theorem setc_comm (m : Nat → Nat → Int) {c d : Nat} (h : c ≠ d) (v v' : Nat → Int) : setc (setc m c v) d v' = setc (setc m d v') c v := by
 funext i k
 unfold setc
 by_cases e : k = d
 ·rw [if_pos e, if_neg (by omega), if_pos e]
 ·rw [if_neg e]
  by_cases e2 : k = c
  ·rw [if_pos e2, if_pos e2]
  ·rw [if_neg e2, if_neg e2, if_neg e]

theorem minor_setc_eq (m : Nat → Nat → Int) (c : Nat) (v : Nat → Int) : minor (setc m c v) c = minor m c := by
 funext i k
 unfold minor setc
 rw [if_neg]
 split <;> omega

theorem minor_setc_ne (m : Nat → Nat → Int) {c j : Nat} (h : j ≠ c) (v : Nat → Int) : minor (setc m c v) j = setc (minor m j) (if c < j then c else c - 1) (fun i => v (i + 1)) := by
 funext i k
 unfold minor setc
 by_cases e : (if k < j then k else k + 1) = c
 ·rw [if_pos e, if_pos (show k = (if c < j then c else c - 1) by split at e <;> split <;> omega)]
 ·rw [if_neg e, if_neg (show ¬ k = (if c < j then c else c - 1) by split at e <;> split <;> omega)]

/-- Linear in a column. -/
theorem det_lin : ∀ (n : Nat) (m : Nat → Nat → Int) (c : Nat) (s t : Int) (x y : Nat → Int), c < n → det n (setc m c (fun i => s * x i + t * y i)) = s * det n (setc m c x) + t * det n (setc m c y) := by
 intro n
 induction n with
 | zero => intro m c s t x y h; omega
 | succ n ih =>
  intro m c s t x y hc
  unfold det
  rw [← Sm_mul_left, ← Sm_mul_left, ← Sm_add]
  refine Sm_congr (fun j hj => ?_)
  by_cases e : j = c
  ·subst e
   rw [minor_setc_eq, minor_setc_eq, minor_setc_eq]
   simp only [setc, if_pos]
   generalize det n (minor m j) = d
   generalize sg j = g
   rw [Int.mul_add, Int.add_mul]
   congr 1
   ·rw [← Int.mul_assoc, Int.mul_comm g s, Int.mul_assoc s g, Int.mul_assoc]
   ·rw [← Int.mul_assoc, Int.mul_comm g t, Int.mul_assoc t g, Int.mul_assoc]
  ·rw [minor_setc_ne m e, minor_setc_ne m e, minor_setc_ne m e, ih _ _ s t _ _ (by split <;> omega)]
   simp only [setc, if_neg e]
   generalize det n _ = d1
   generalize det n _ = d2
   generalize sg j * m 0 j = g
   rw [Int.mul_add, ← Int.mul_assoc, ← Int.mul_assoc, Int.mul_comm g s, Int.mul_comm g t, Int.mul_assoc, Int.mul_assoc]

theorem det_add (n : Nat) (m : Nat → Nat → Int) (c : Nat) (x y : Nat → Int) (hc : c < n) : det n (setc m c (fun i => x i + y i)) = det n (setc m c x) + det n (setc m c y) := by
 have := det_lin n m c 1 1 x y hc
 simp only [Int.one_mul] at this
 exact this

theorem det_zero_col (n : Nat) (m : Nat → Nat → Int) (c : Nat) (hc : c < n) : det n (setc m c (fun _ => 0)) = 0 := by
 have := det_lin n m c 0 0 (fun _ => 0) (fun _ => 0) hc
 simp only [Int.zero_mul, Int.add_zero] at this
 exact this

theorem Sm_two {n c : Nat} {f : Nat → Int} (hc : c + 1 < n) (h : ∀ i, i < n → i ≠ c → i ≠ c + 1 → f i = 0) : Sm n f = f c + f (c + 1) := by
 have z : ∀ k, k ≤ n → Sm k f = (if c < k then f c else 0) + (if c + 1 < k then f (c + 1) else 0) := by
  intro k
  induction k with
  | zero => intro _; rfl
  | succ k ih =>
   intro hk
   unfold Sm
   rw [ih (by omega)]
   by_cases e : k = c
   ·subst e
    rw [if_neg (by omega), if_neg (by omega), if_pos (by omega), if_neg (by omega)]
    omega
   ·by_cases e2 : k = c + 1
    ·subst e2
     rw [if_pos (by omega), if_neg (by omega), if_pos (by omega), if_pos (by omega)]
     omega
    ·rw [h k (by omega) e e2]
     by_cases c1 : c < k
     ·rw [if_pos c1, if_pos (show c < k + 1 by omega)]
      by_cases c2 : c + 1 < k
      ·rw [if_pos c2, if_pos (by omega)]; omega
      ·rw [if_neg c2, if_neg (by omega)]; omega
     ·rw [if_neg c1, if_neg (show ¬ c + 1 < k by omega), if_neg (show ¬ c < k + 1 by omega), if_neg (by omega)]; omega
 rw [z n (Nat.le_refl _), if_pos (by omega), if_pos (by omega)]

/-- Two like columns side by side. -/
theorem det_adjacent : ∀ (n : Nat) (m : Nat → Nat → Int) (c : Nat), c + 1 < n → (∀ i, m i c = m i (c + 1)) → det n m = 0 := by
 intro n
 induction n with
 | zero => intro m c h; omega
 | succ n ih =>
  intro m c hc h
  unfold det
  rw [Sm_two hc]
  ·have e : minor m c = minor m (c + 1) := by
    funext i k
    unfold minor
    by_cases e1 : k < c
    ·rw [if_pos e1, if_pos (by omega)]
    ·rw [if_neg e1]
     by_cases e2 : k = c
     ·subst e2
      rw [if_pos (by omega)]
      exact (h (i + 1)).symm
     ·rw [if_neg (by omega)]
   rw [e, ← h 0, sg_succ, Int.neg_mul, Int.neg_mul]
   omega
  ·intro j hj h1 h2
   rw [ih (minor m j) (if c + 1 < j then c else c - 1), Int.mul_zero]
   ·split <;> omega
   ·intro i
    unfold minor
    by_cases c1 : c + 1 < j
    ·rw [if_pos c1, if_pos (by omega), if_pos (by omega)]
     exact h (i + 1)
    ·rw [if_neg c1, if_neg (by omega), if_neg (by omega), show c - 1 + 1 = c by omega]
     exact h (i + 1)

/-- Two neighbours change places: the sign changes. -/
theorem det_swap (n : Nat) (m : Nat → Nat → Int) (c : Nat) (hc : c + 1 < n) (x y : Nat → Int) : det n (setc (setc m c x) (c + 1) y) = - det n (setc (setc m c y) (c + 1) x) := by
 have two : ∀ x, det n (setc (setc m c x) (c + 1) x) = 0 := fun x => det_adjacent n _ c hc (fun i => by
  unfold setc
  rw [if_neg (by omega), if_pos rfl, if_pos rfl])
 have h := two (fun i => x i + y i)
 rw [det_add n _ (c + 1) x y hc, setc_comm m (show c ≠ c + 1 by omega), setc_comm m (show c ≠ c + 1 by omega), det_add n _ c x y (by omega), det_add n _ c x y (by omega)] at h
 rw [setc_comm m (show c + 1 ≠ c by omega), setc_comm m (show c + 1 ≠ c by omega), setc_comm m (show c + 1 ≠ c by omega), setc_comm m (show c + 1 ≠ c by omega), two x, two y] at h
 omega

/-- Two like columns anywhere. -/
theorem det_like (n : Nat) : ∀ (d : Nat) (m : Nat → Nat → Int) (p : Nat), p + 1 + d < n → (∀ i, m i p = m i (p + 1 + d)) → det n m = 0 := by
 intro d
 induction d with
 | zero => intro m p hp h; exact det_adjacent n m p hp h
 | succ d ih =>
  intro m p hp h
  have hs := det_swap n m (p + 1 + d) (by omega) (fun i => m i (p + 1 + d)) (fun i => m i (p + 1 + d + 1))
  have e1 : setc (setc m (p + 1 + d) (fun i => m i (p + 1 + d))) (p + 1 + d + 1) (fun i => m i (p + 1 + d + 1)) = m := by
   rw [setc_self, setc_self]
  rw [e1] at hs
  rw [hs, ih _ p (by omega)]
  ·rfl
  ·intro i
   unfold setc
   rw [if_neg (by omega), if_neg (by omega), if_neg (by omega), if_pos rfl]
   exact h i

theorem det_same {n : Nat} {m : Nat → Nat → Int} {p q : Nat} (hp : p < n) (hq : q < n) (hne : p ≠ q) (h : ∀ i, m i p = m i q) : det n m = 0 := by
 rcases Nat.lt_or_gt_of_ne hne with c | c
 ·exact det_like n (q - p - 1) m p (by omega) (fun i => by rw [show p + 1 + (q - p - 1) = q by omega]; exact h i)
 ·exact det_like n (p - q - 1) m q (by omega) (fun i => by rw [show q + 1 + (p - q - 1) = p by omega]; exact (h i).symm)

/-- A column that is a sum. -/
theorem det_sum (n : Nat) (m : Nat → Nat → Int) (c : Nat) (hc : c < n) (t : Nat → Int) (w : Nat → Nat → Int) : ∀ k, det n (setc m c (fun r => Sm k (fun i => t i * w i r))) = Sm k (fun i => t i * det n (setc m c (w i))) := by
 intro k
 induction k with
 | zero => exact det_zero_col n m c hc
 | succ k ih =>
  have h := det_lin n m c 1 (t k) (fun r => Sm k (fun i => t i * w i r)) (w k) hc
  simp only [Int.one_mul] at h
  show det n (setc m c (fun r => Sm k (fun i => t i * w i r) + t k * w k r)) = _
  rw [h, ih]
  rfl

theorem Sm_pick' (N : Nat) (f : Nat → Int) {p : Nat} (hp : p < N) : Sm N (fun r => (if r = p then 1 else 0) * f r) = f p := by
 induction N with
 | zero => omega
 | succ N ih =>
  show Sm N (fun r => (if r = p then 1 else 0) * f r) + (if N = p then 1 else 0) * f N = f p
  by_cases e : p = N
  ·subst e
   rw [if_pos rfl, Int.one_mul]
   have : Sm p (fun r => (if r = p then 1 else 0) * f r) = Sm p (fun _ => 0) := Sm_congr (fun i hi => by rw [if_neg (by omega), Int.zero_mul])
   rw [this, Sm_zero, Int.zero_add]
  ·rw [ih (by omega), if_neg (by omega), Int.zero_mul, Int.add_zero]

def unit (i : Nat) : Nat → Int := fun r => if r = i then 1 else 0

def adj (n : Nat) (x : Nat → Nat → Int) (k i : Nat) : Int := det n (setc x k (unit i))

/-- Cramer: what the k-th row of the adjoint does to a column. -/
theorem adj_col (n : Nat) (x : Nat → Nat → Int) (k : Nat) (hk : k < n) (v : Nat → Int) : Sm n (fun i => adj n x k i * v i) = det n (setc x k v) := by
 have h := det_sum n x k hk v unit n
 have e : det n (setc x k (fun r => Sm n (fun i => v i * unit i r))) = det n (setc x k v) := by
  refine det_congr n _ _ (fun i j hi hj => ?_)
  unfold setc
  split
  ·have : Sm n (fun a => v a * unit a i) = Sm n (fun a => (if a = i then 1 else 0) * v a) := Sm_congr (fun a _ => by
    unfold unit
    rw [Int.mul_comm]
    by_cases c : i = a
    ·rw [if_pos c, if_pos c.symm]
    ·rw [if_neg c, if_neg (fun z => c z.symm)])
   exact this.trans (Sm_pick' n v hi)
  ·rfl
 rw [e] at h
 rw [h]
 exact Sm_congr (fun i _ => Int.mul_comm _ _)

theorem adj_mul (n : Nat) (x : Nat → Nat → Int) (k j : Nat) (hk : k < n) (hj : j < n) : mul n (adj n x) x k j = if k = j then det n x else 0 := by
 unfold mul
 rw [adj_col n x k hk (fun i => x i j)]
 by_cases e : k = j
 ·subst e
  rw [if_pos rfl, setc_self]
 ·rw [if_neg e]
  refine det_same hk hj e (fun i => ?_)
  unfold setc
  rw [if_pos rfl, if_neg (fun z => e z.symm)]
def ab (x : Int) : Int := (x.natAbs : Int)

theorem ab_nonneg (x : Int) : 0 ≤ ab x := by unfold ab; omega
theorem ab_add (x y : Int) : ab (x + y) ≤ ab x + ab y := by unfold ab; omega
theorem ab_mul (x y : Int) : ab (x * y) = ab x * ab y := by
 unfold ab
 rw [Int.natAbs_mul]
 push_cast
 rfl

/-- The coefficients c, d of them, make f; their sizes sum up to at most B. -/
def Coef (d : Nat) (B : Int) (c : Nat → Int) (f : Int → Int) : Prop := (∀ i, d ≤ i → c i = 0) ∧ (∀ u, f u = Sm d (fun i => c i * u ^ i)) ∧ Sm d (fun i => ab (c i)) ≤ B

theorem Sm_more {d e : Nat} (f : Nat → Int) (hde : d ≤ e) (h : ∀ i, d ≤ i → f i = 0) : Sm e f = Sm d f := by
 induction e with
 | zero => rw [show d = 0 by omega]
 | succ e ih =>
  by_cases c : d = e + 1
  ·rw [c]
  ·show Sm e f + f e = _
   rw [ih (by omega), h e (by omega), Int.add_zero]

theorem Sm_mono {n : Nat} {f g : Nat → Int} (h : ∀ i, i < n → f i ≤ g i) : Sm n f ≤ Sm n g := by
 induction n with
 | zero => exact Int.le_refl _
 | succ n ih =>
  have h1 := ih (fun i hi => h i (by omega))
  have h2 := h n (by omega)
  unfold Sm
  omega

theorem Coef.add {d : Nat} {B B' : Int} {c c' : Nat → Int} {f g : Int → Int} (h : Coef d B c f) (h' : Coef d B' c' g) : Coef d (B + B') (fun i => c i + c' i) (fun u => f u + g u) := by
 refine ⟨fun i hi => by show c i + c' i = 0; rw [h.1 i hi, h'.1 i hi]; rfl, fun u => ?_, ?_⟩
 ·show f u + g u = Sm d (fun i => (c i + c' i) * u ^ i)
  rw [h.2.1 u, h'.2.1 u, ← Sm_add]
  exact Sm_congr (fun i _ => (Int.add_mul _ _ _).symm)
 ·have := h.2.2
  have := h'.2.2
  have h3 : Sm d (fun i => ab (c i + c' i)) ≤ Sm d (fun i => ab (c i) + ab (c' i)) := Sm_mono (fun i _ => ab_add _ _)
  rw [Sm_add] at h3
  show Sm d (fun i => ab (c i + c' i)) ≤ B + B'
  omega

theorem Coef.zero (d : Nat) : Coef d 0 (fun _ => 0) (fun _ => 0) := by
 refine ⟨fun _ _ => rfl, fun u => ?_, ?_⟩
 ·rw [Sm_congr (g := fun _ => 0) (fun i _ => Int.zero_mul _), Sm_zero]
 ·show Sm d (fun _ => (0 : Int)) ≤ 0
  rw [Sm_zero]
  exact Int.le_refl _

theorem Coef.one : Coef 1 1 (fun i => if i = 0 then 1 else 0) (fun _ => 1) := by
 refine ⟨fun i hi => if_neg (by omega), fun u => ?_, ?_⟩
 ·show (1 : Int) = 0 + (if 0 = 0 then 1 else 0) * u ^ 0
  rw [if_pos rfl, Int.pow_zero]
  rfl
 ·exact Int.le_refl _

/-- The coefficients behind a linear factor. -/
def lin (a b : Int) (c : Nat → Int) (i : Nat) : Int := a * c i + (if i = 0 then 0 else b * c (i - 1))

theorem Sm_shift (d : Nat) (f : Nat → Int) : Sm (d + 1) (fun i => if i = 0 then 0 else f (i - 1)) = Sm d f := by
 induction d with
 | zero => rfl
 | succ d ih =>
  show Sm (d + 1) (fun i => if i = 0 then 0 else f (i - 1)) + (if d + 1 = 0 then 0 else f (d + 1 - 1)) = Sm d f + f d
  rw [ih, if_neg (by omega), Nat.add_sub_cancel]

theorem Coef.lin_mul {d : Nat} {B : Int} {c : Nat → Int} {f : Int → Int} (h : Coef d B c f) (a b : Int) : Coef (d + 1) ((ab a + ab b) * B) (lin a b c) (fun u => (a + u * b) * f u) := by
 refine ⟨fun i hi => ?_, fun u => ?_, ?_⟩
 ·unfold lin
  rw [h.1 i (by omega), if_neg (by omega), h.1 (i - 1) (by omega), Int.mul_zero, Int.mul_zero]
  rfl
 ·unfold lin
  have e1 : Sm (d + 1) (fun i => (a * c i + (if i = 0 then 0 else b * c (i - 1))) * u ^ i) = Sm (d + 1) (fun i => a * (c i * u ^ i)) + Sm (d + 1) (fun i => if i = 0 then 0 else u * b * (c (i - 1) * u ^ (i - 1))) := by
   rw [← Sm_add]
   refine Sm_congr (fun i _ => ?_)
   rw [Int.add_mul, Int.mul_assoc]
   congr 1
   by_cases e : i = 0
   ·rw [if_pos e, if_pos e, Int.zero_mul]
   ·rw [if_neg e, if_neg e]
    obtain ⟨j, rfl⟩ : ∃ j, i = j + 1 := ⟨i - 1, by omega⟩
    rw [Nat.add_sub_cancel, Int.pow_succ, Int.mul_comm (u ^ j) u, Int.mul_comm u b, Int.mul_assoc, Int.mul_assoc]
    congr 1
    rw [← Int.mul_assoc, Int.mul_comm (c j) u, Int.mul_assoc]
  rw [e1, Sm_mul_left, Sm_shift d (fun i => u * b * (c i * u ^ i)), Sm_mul_left, Sm_more (d := d) (fun i => c i * u ^ i) (by omega) (fun i hi => by rw [h.1 i hi, Int.zero_mul]), ← h.2.1 u]
  exact Int.add_mul _ _ _
 ·have h1 : Sm (d + 1) (fun i => ab (lin a b c i)) ≤ Sm (d + 1) (fun i => ab a * ab (c i) + (if i = 0 then 0 else ab b * ab (c (i - 1)))) := Sm_mono (fun i _ => by
   unfold lin
   have := ab_add (a * c i) (if i = 0 then 0 else b * c (i - 1))
   rw [ab_mul] at this
   by_cases e : i = 0
   ·rw [if_pos e] at this ⊢
    rw [if_pos e]
    exact this
   ·rw [if_neg e, ab_mul] at this
    rw [if_neg e, if_neg e]
    exact this)
  rw [Sm_add, Sm_mul_left, Sm_shift d (fun i => ab b * ab (c i)), Sm_mul_left, Sm_more (d := d) (fun i => ab (c i)) (by omega) (fun i hi => by rw [h.1 i hi]; rfl)] at h1
  have h2 : ab a * Sm d (fun i => ab (c i)) ≤ ab a * B := Int.mul_le_mul_of_nonneg_left h.2.2 (ab_nonneg a)
  have h3 : ab b * Sm d (fun i => ab (c i)) ≤ ab b * B := Int.mul_le_mul_of_nonneg_left h.2.2 (ab_nonneg b)
  rw [Int.add_mul]
  omega

/-- A polynomial that is zero at all whole numbers from 2 on has no coefficients. -/
theorem coef_zero2 : ∀ (d : Nat) (c : Nat → Int), (∀ u : Int, 2 ≤ u → Sm d (fun i => c i * u ^ i) = 0) → ∀ i, i < d → c i = 0 := by
 intro d
 induction d with
 | zero => intro c _ i hi; omega
 | succ d ih =>
  intro c h
  have split : ∀ u : Int, Sm (d + 1) (fun i => c i * u ^ i) = c 0 + u * Sm d (fun i => c (i + 1) * u ^ i) := by
   intro u
   have : ∀ n, Sm (n + 1) (fun i => c i * u ^ i) = c 0 + u * Sm n (fun i => c (i + 1) * u ^ i) := by
    intro n
    induction n with
    | zero =>
     show 0 + c 0 * u ^ 0 = c 0 + u * 0
     rw [Int.pow_zero]
     omega
    | succ n ihn =>
     show Sm (n + 1) (fun i => c i * u ^ i) + c (n + 1) * u ^ (n + 1) = c 0 + u * (Sm n (fun i => c (i + 1) * u ^ i) + c (n + 1) * u ^ n)
     rw [ihn, Int.mul_add, Int.pow_succ, Int.mul_comm (u ^ n) u, ← Int.mul_assoc (c (n + 1)) u, Int.mul_comm (c (n + 1)) u, Int.mul_assoc u]
     omega
   exact this d
  have h0 : c 0 = 0 := by
   apply Classical.byContradiction
   intro hc
   have h1 := h (ab (c 0) + 2) (by have := ab_nonneg (c 0); omega)
   rw [split] at h1
   generalize Sm d _ = s at h1
   have hab : ab (c 0) = (c 0).natAbs := rfl
   have hdvd : (ab (c 0) + 2) ∣ c 0 := ⟨-s, by rw [Int.mul_neg]; omega⟩
   have := Int.natAbs_dvd_natAbs.2 hdvd
   have := Nat.le_of_dvd (by omega) this
   have e : (ab (c 0) + 2).natAbs = (c 0).natAbs + 2 := by rw [hab]; omega
   omega
  intro i hi
  by_cases e : i = 0
  ·rw [e]; exact h0
  ·have := ih (fun i => c (i + 1)) (fun u hu => by
    have h1 := h u hu
    rw [split, h0, Int.zero_add] at h1
    rcases Int.mul_eq_zero.1 h1 with h2 | h2
    ·omega
    ·exact h2) (i - 1) (by omega)
   simp only [Nat.sub_add_cancel (show 1 ≤ i by omega)] at this
   exact this

theorem coef_zero (d : Nat) (c : Nat → Int) (h : ∀ u : Int, 1 ≤ u → Sm d (fun i => c i * u ^ i) = 0) : ∀ i, i < d → c i = 0 := coef_zero2 d c (fun u hu => h u (by omega))
/-- A product of n numbers. -/
def Pr : Nat → (Nat → Int) → Int
 | 0, _ => 1
 | n + 1, f => Pr n f * f n

theorem Pr_congr {n : Nat} {f g : Nat → Int} (h : ∀ i, i < n → f i = g i) : Pr n f = Pr n g := by
 induction n with
 | zero => rfl
 | succ n ih => unfold Pr; rw [ih (fun i hi => h i (by omega)), h n (by omega)]

theorem Pr_nonneg {n : Nat} {f : Nat → Int} (h : ∀ i, i < n → 0 ≤ f i) : 0 ≤ Pr n f := by
 induction n with
 | zero => exact (by decide : (0 : Int) ≤ 1)
 | succ n ih =>
  unfold Pr
  exact Int.mul_nonneg (ih (fun i hi => h i (by omega))) (h n (by omega))

theorem Pr_mono {n : Nat} {f g : Nat → Int} (h0 : ∀ i, i < n → 0 ≤ f i) (h : ∀ i, i < n → f i ≤ g i) : Pr n f ≤ Pr n g := by
 induction n with
 | zero => exact Int.le_refl _
 | succ n ih =>
  unfold Pr
  have h1 := ih (fun i hi => h0 i (by omega)) (fun i hi => h i (by omega))
  have h2 : Pr n f * f n ≤ Pr n g * f n := Int.mul_le_mul_of_nonneg_right h1 (h0 n (by omega))
  have hg : 0 ≤ Pr n g := Pr_nonneg (fun i hi => Int.le_trans (h0 i (by omega)) (h i (by omega)))
  have h3 : Pr n g * f n ≤ Pr n g * g n := Int.mul_le_mul_of_nonneg_left (h n (by omega)) hg
  omega

/-- The number's place behind the one that is left out. -/
def skip (j k : Nat) : Nat := if k < j then k else k + 1

theorem Pr_skip (n j : Nat) (f : Nat → Int) (hj : j ≤ n) : Pr (n + 1) (fun k => f (skip j k)) = if j = n + 1 then Pr (n + 1) f else Pr n (fun k => f (skip j k)) * f (n + 1) := by
 rw [if_neg (by omega)]
 show Pr n (fun k => f (skip j k)) * f (skip j n) = _
 rw [show skip j n = n + 1 from if_neg (by omega)]

theorem Pr_sum_le (a c : Nat → Int) (ha : ∀ i, 0 ≤ a i) (hc : ∀ i, 0 ≤ c i) : ∀ n, Sm (n + 1) (fun j => a j * Pr n (fun k => c (skip j k))) + Pr (n + 1) c ≤ Pr (n + 1) (fun k => a k + c k) := by
 intro n
 induction n with
 | zero =>
  show 0 + a 0 * 1 + 1 * c 0 ≤ 1 * (a 0 + c 0)
  omega
 | succ n ih =>
  have e1 : Sm (n + 1) (fun j => a j * Pr (n + 1) (fun k => c (skip j k))) = Sm (n + 1) (fun j => a j * Pr n (fun k => c (skip j k))) * c (n + 1) := by
   rw [← Sm_mul_right]
   refine Sm_congr (fun j hj => ?_)
   rw [Pr_skip n j c (by omega), if_neg (by omega), Int.mul_assoc]
  have e2 : Pr (n + 1) (fun k => c (skip (n + 1) k)) = Pr (n + 1) c := Pr_congr (fun k hk => by rw [show skip (n + 1) k = k from if_pos hk])
  show Sm (n + 1) (fun j => a j * Pr (n + 1) (fun k => c (skip j k))) + a (n + 1) * Pr (n + 1) (fun k => c (skip (n + 1) k)) + Pr (n + 1) c * c (n + 1) ≤ Pr (n + 1) (fun k => a k + c k) * (a (n + 1) + c (n + 1))
  rw [e1, e2, Int.mul_add]
  have hP : Pr (n + 1) c ≤ Pr (n + 1) (fun k => a k + c k) := Pr_mono (fun i _ => hc i) (fun i _ => by have := ha i; omega)
  have h1 : (Sm (n + 1) (fun j => a j * Pr n (fun k => c (skip j k))) + Pr (n + 1) c) * c (n + 1) ≤ Pr (n + 1) (fun k => a k + c k) * c (n + 1) := Int.mul_le_mul_of_nonneg_right ih (hc _)
  have h2 : Pr (n + 1) c * a (n + 1) ≤ Pr (n + 1) (fun k => a k + c k) * a (n + 1) := Int.mul_le_mul_of_nonneg_right hP (ha _)
  rw [Int.add_mul] at h1
  rw [Int.mul_comm (a (n + 1))]
  omega

/-- The coefficients of the determinant of a + u b. -/
def dc : Nat → (Nat → Nat → Int) → (Nat → Nat → Int) → Nat → Int
 | 0, _, _ => fun i => if i = 0 then 1 else 0
 | n + 1, a, b => fun i => Sm (n + 1) (fun j => lin (sg j * a 0 j) (sg j * b 0 j) (dc n (minor a j) (minor b j)) i)

theorem Coef.sum {d : Nat} (n : Nat) (B : Nat → Int) (c : Nat → Nat → Int) (f : Nat → Int → Int) (h : ∀ j, j < n → Coef d (B j) (c j) (f j)) : Coef d (Sm n B) (fun i => Sm n (fun j => c j i)) (fun u => Sm n (fun j => f j u)) := by
 induction n with
 | zero => exact Coef.zero d
 | succ n ih => exact Coef.add (ih (fun j hj => h j (by omega))) (h n (by omega))

/-- A column's size. -/
def cs (n : Nat) (a b : Nat → Nat → Int) (k : Nat) : Int := Sm n (fun i => ab (a i k) + ab (b i k))

theorem cs_nonneg (n : Nat) (a b : Nat → Nat → Int) (k : Nat) : 0 ≤ cs n a b k := Sm_nonneg (fun i _ => by
 have := ab_nonneg (a i k)
 have := ab_nonneg (b i k)
 omega)

theorem Sm_first (n : Nat) (f : Nat → Int) : Sm (n + 1) f = f 0 + Sm n (fun i => f (i + 1)) := by
 induction n with
 | zero => show 0 + f 0 = f 0 + 0; omega
 | succ n ih =>
  show Sm (n + 1) f + f (n + 1) = f 0 + (Sm n (fun i => f (i + 1)) + f (n + 1))
  rw [ih]; omega

theorem ab_sg (j : Nat) (x : Int) : ab (sg j * x) = ab x := by
 rw [ab_mul]
 have : ab (sg j) = 1 := by unfold sg ab; split <;> rfl
 rw [this, Int.one_mul]

theorem det_coef : ∀ (n : Nat) (a b : Nat → Nat → Int), Coef (n + 1) (Pr n (cs n a b)) (dc n a b) (fun u => det n (fun i k => a i k + u * b i k)) := by
 intro n
 induction n with
 | zero => intro a b; exact Coef.one
 | succ n ih =>
  intro a b
  have h := Coef.sum (d := n + 2) (n + 1) (fun j => (ab (sg j * a 0 j) + ab (sg j * b 0 j)) * Pr n (cs n (minor a j) (minor b j))) (fun j => lin (sg j * a 0 j) (sg j * b 0 j) (dc n (minor a j) (minor b j)))
   (fun j u => (sg j * a 0 j + u * (sg j * b 0 j)) * det n (fun i k => minor a j i k + u * minor b j i k)) (fun j _ => (ih (minor a j) (minor b j)).lin_mul _ _)
  have hB : Sm (n + 1) (fun j => (ab (sg j * a 0 j) + ab (sg j * b 0 j)) * Pr n (cs n (minor a j) (minor b j))) ≤ Pr (n + 1) (cs (n + 1) a b) := by
   have h1 := Pr_sum_le (fun k => ab (a 0 k) + ab (b 0 k)) (fun k => Sm n (fun i => ab (a (i + 1) k) + ab (b (i + 1) k))) (fun k => by have := ab_nonneg (a 0 k); have := ab_nonneg (b 0 k); omega) (fun k => Sm_nonneg (fun i _ => by have := ab_nonneg (a (i + 1) k); have := ab_nonneg (b (i + 1) k); omega)) n
   have h2 : 0 ≤ Pr (n + 1) (fun k => Sm n (fun i => ab (a (i + 1) k) + ab (b (i + 1) k))) := Pr_nonneg (fun k _ => Sm_nonneg (fun i _ => by have := ab_nonneg (a (i + 1) k); have := ab_nonneg (b (i + 1) k); omega))
   have e1 : Pr (n + 1) (cs (n + 1) a b) = Pr (n + 1) (fun k => (ab (a 0 k) + ab (b 0 k)) + Sm n (fun i => ab (a (i + 1) k) + ab (b (i + 1) k))) := Pr_congr (fun k _ => Sm_first n (fun i => ab (a i k) + ab (b i k)))
   have e2 : Sm (n + 1) (fun j => (ab (sg j * a 0 j) + ab (sg j * b 0 j)) * Pr n (cs n (minor a j) (minor b j))) = Sm (n + 1) (fun j => (ab (a 0 j) + ab (b 0 j)) * Pr n (fun k => Sm n (fun i => ab (a (i + 1) (skip j k)) + ab (b (i + 1) (skip j k))))) := Sm_congr (fun j _ => by
    rw [ab_sg, ab_sg]
    rfl)
   rw [e1, e2]
   omega
  refine ⟨h.1, fun u => ?_, Int.le_trans h.2.2 hB⟩
  refine Eq.trans ?_ (h.2.1 u)
  refine Sm_congr (fun j _ => ?_)
  show sg j * (a 0 j + u * b 0 j) * det n (minor (fun i k => a i k + u * b i k) j) = (sg j * a 0 j + u * (sg j * b 0 j)) * det n (fun i k => minor a j i k + u * minor b j i k)
  have e : minor (fun i k => a i k + u * b i k) j = fun i k => minor a j i k + u * minor b j i k := rfl
  rw [e, Int.mul_add, ← Int.mul_assoc (sg j) u, Int.mul_comm (sg j) u, Int.mul_assoc u]
theorem dc_high (n : Nat) (a b : Nat → Nat → Int) {i : Nat} (h : n + 1 ≤ i) : dc n a b i = 0 := (det_coef n a b).1 i h

theorem dc_zero : ∀ (n : Nat) (a b : Nat → Nat → Int), dc n a b 0 = det n a := by
 intro n
 induction n with
 | zero => intro a b; rfl
 | succ n ih =>
  intro a b
  show Sm (n + 1) (fun j => lin (sg j * a 0 j) (sg j * b 0 j) (dc n (minor a j) (minor b j)) 0) = Sm (n + 1) (fun j => sg j * a 0 j * det n (minor a j))
  refine Sm_congr (fun j _ => ?_)
  unfold lin
  rw [if_pos rfl, ih, Int.add_zero]

theorem dc_top : ∀ (n : Nat) (a b : Nat → Nat → Int), dc n a b n = det n b := by
 intro n
 induction n with
 | zero => intro a b; rfl
 | succ n ih =>
  intro a b
  show Sm (n + 1) (fun j => lin (sg j * a 0 j) (sg j * b 0 j) (dc n (minor a j) (minor b j)) (n + 1)) = Sm (n + 1) (fun j => sg j * b 0 j * det n (minor b j))
  refine Sm_congr (fun j _ => ?_)
  unfold lin
  rw [if_neg (by omega), Nat.add_sub_cancel, ih, dc_high n _ _ (Nat.le_refl _), Int.mul_zero, Int.zero_add]

def idm (i k : Nat) : Int := if i = k then 1 else 0
def ng (a : Nat → Nat → Int) (i k : Nat) : Int := - a i k

/-- The coefficients of det(1 - u a). -/
def ch (n : Nat) (a : Nat → Nat → Int) : Nat → Int := dc n idm (ng a)

/-- The coefficients of the adjoint's entries. -/
def nc (n : Nat) (a : Nat → Nat → Int) (m k i : Nat) : Int := dc n (setc idm k (unit i)) (setc (ng a) k (fun _ => 0)) m

def xu (a : Nat → Nat → Int) (u : Int) (i k : Nat) : Int := idm i k + u * ng a i k

theorem adj_xu (n : Nat) (a : Nat → Nat → Int) (u : Int) (k i : Nat) : adj n (xu a u) k i = Sm (n + 1) (fun m => nc n a m k i * u ^ m) := by
 refine Eq.trans ?_ ((det_coef n (setc idm k (unit i)) (setc (ng a) k (fun _ => 0))).2.1 u)
 unfold adj
 refine det_congr n _ _ (fun r c _ _ => ?_)
 unfold setc xu
 by_cases e : c = k
 ·rw [if_pos e, if_pos e, if_pos e, Int.mul_zero, Int.add_zero]
 ·rw [if_neg e, if_neg e, if_neg e]

theorem det_xu (n : Nat) (a : Nat → Nat → Int) (u : Int) : det n (xu a u) = Sm (n + 1) (fun m => ch n a m * u ^ m) := (det_coef n idm (ng a)).2.1 u

theorem nc_end (n : Nat) (a : Nat → Nat → Int) (m k i : Nat) (hk : k < n) (hm : n ≤ m) : nc n a m k i = 0 := by
 by_cases e : m = n
 ·subst e
  unfold nc
  rw [dc_top]
  exact det_zero_col m (ng a) k hk
 ·exact dc_high n _ _ (by omega)

/-- N_m = N_(m-1) A + d_m. -/
theorem nc_step (n : Nat) (a : Nat → Nat → Int) (m k j : Nat) (hk : k < n) (hj : j < n) : nc n a m k j = (if m = 0 then 0 else Sm n (fun i => nc n a (m - 1) k i * a i j)) + (if k = j then ch n a m else 0) := by
 by_cases hm : n + 2 ≤ m
 ·rw [nc_end n a m k j hk (by omega), if_neg (by omega), show ch n a m = 0 from dc_high n _ _ (by omega)]
  rw [Sm_congr (g := fun _ => 0) (fun i _ => by rw [nc_end n a (m - 1) k i hk (by omega), Int.zero_mul]), Sm_zero]
  split <;> rfl
 have key : ∀ u : Int, Sm (n + 2) (fun m => (nc n a m k j - ((if m = 0 then 0 else Sm n (fun i => nc n a (m - 1) k i * a i j)) + (if k = j then ch n a m else 0))) * u ^ m) = 0 := by
  intro u
  have h := adj_mul n (xu a u) k j hk hj
  unfold mul at h
  have e1 : Sm n (fun i => adj n (xu a u) k i * xu a u i j) = adj n (xu a u) k j - u * Sm n (fun i => adj n (xu a u) k i * a i j) := by
   have : Sm n (fun i => adj n (xu a u) k i * xu a u i j) = Sm n (fun i => (if i = j then 1 else 0) * adj n (xu a u) k i + (-u) * (adj n (xu a u) k i * a i j)) := Sm_congr (fun i _ => by
    unfold xu idm ng
    generalize adj n _ k i = g
    rw [Int.mul_add]
    congr 1
    ·exact Int.mul_comm _ _
    ·rw [Int.mul_neg, Int.mul_neg, Int.neg_mul, Int.mul_comm g, Int.mul_assoc, Int.mul_comm (a i j) g])
   rw [this, Sm_add, Sm_pick' n _ hj, Sm_mul_left, Int.neg_mul]
   rfl
  rw [e1] at h
  have e2 : Sm n (fun i => adj n (xu a u) k i * a i j) = Sm (n + 1) (fun m => Sm n (fun i => nc n a m k i * a i j) * u ^ m) := by
   rw [Sm_congr (g := fun i => Sm (n + 1) (fun m => nc n a m k i * a i j * u ^ m)) (fun i _ => by
    rw [adj_xu, ← Sm_mul_right]
    exact Sm_congr (fun m _ => by rw [Int.mul_assoc, Int.mul_comm (u ^ m), ← Int.mul_assoc])), Sm_swap]
   exact Sm_congr (fun m _ => Sm_mul_right n _ _)
  have e3 : u * Sm (n + 1) (fun m => Sm n (fun i => nc n a m k i * a i j) * u ^ m) = Sm (n + 2) (fun m => (if m = 0 then 0 else Sm n (fun i => nc n a (m - 1) k i * a i j)) * u ^ m) := by
   rw [← Sm_mul_left, ← Sm_shift]
   refine Sm_congr (fun m _ => ?_)
   by_cases e : m = 0
   ·rw [if_pos e, if_pos e, Int.zero_mul]
   ·rw [if_neg e, if_neg e]
    obtain ⟨q, rfl⟩ : ∃ q, m = q + 1 := ⟨m - 1, by omega⟩
    rw [Nat.add_sub_cancel, Int.pow_succ, Int.mul_comm (u ^ q) u, ← Int.mul_assoc, ← Int.mul_assoc, Int.mul_comm u]
  have e4 : Sm (n + 1) (fun m => nc n a m k j * u ^ m) = Sm (n + 2) (fun m => nc n a m k j * u ^ m) := (Sm_more _ (by omega) (fun i hi => by rw [nc_end n a i k j hk (by omega), Int.zero_mul])).symm
  have e5 : (if k = j then det n (xu a u) else 0) = Sm (n + 2) (fun m => (if k = j then ch n a m else 0) * u ^ m) := by
   by_cases c : k = j
   ·rw [if_pos c, det_xu]
    rw [Sm_congr (n := n + 2) (g := fun m => ch n a m * u ^ m) (fun m _ => by rw [if_pos c])]
    exact (Sm_more _ (by omega) (fun i hi => by rw [show ch n a i = 0 from dc_high n _ _ (by omega), Int.zero_mul])).symm
   ·rw [if_neg c, Sm_congr (n := n + 2) (g := fun _ => 0) (fun m _ => by rw [if_neg c, Int.zero_mul]), Sm_zero]
  rw [adj_xu, e2, e3, e4, e5] at h
  have e6 : Sm (n + 2) (fun m => (nc n a m k j - ((if m = 0 then 0 else Sm n (fun i => nc n a (m - 1) k i * a i j)) + (if k = j then ch n a m else 0))) * u ^ m) = Sm (n + 2) (fun m => nc n a m k j * u ^ m) + ((-1) * Sm (n + 2) (fun m => (if m = 0 then 0 else Sm n (fun i => nc n a (m - 1) k i * a i j)) * u ^ m) + (-1) * Sm (n + 2) (fun m => (if k = j then ch n a m else 0) * u ^ m)) := by
   rw [← Sm_mul_left, ← Sm_mul_left, ← Sm_add, ← Sm_add]
   refine Sm_congr (fun m _ => ?_)
   generalize nc n a m k j = x1
   generalize (if m = 0 then (0 : Int) else _) = x2
   generalize (if k = j then _ else (0 : Int)) = x3
   generalize u ^ m = x4
   rw [Int.sub_mul, Int.add_mul]
   omega
  rw [e6]
  omega
 have := coef_zero (n + 2) _ (fun u _ => key u) m (by omega)
 omega
theorem Sm_skip (f : Nat → Int) : ∀ (n j : Nat), j ≤ n → Sm (n + 1) f = f j + Sm n (fun k => f (skip j k)) := by
 intro n
 induction n with
 | zero =>
  intro j hj
  rw [show j = 0 by omega]
  show 0 + f 0 = f 0 + 0
  omega
 | succ n ih =>
  intro j hj
  by_cases e : j = n + 1
  ·subst e
   show Sm (n + 1) f + f (n + 1) = _
   rw [Sm_congr (g := fun k => f (skip (n + 1) k)) (fun k hk => by rw [show skip (n + 1) k = k from if_pos hk])]
   omega
  ·show Sm (n + 1) f + f (n + 1) = f j + (Sm n (fun k => f (skip j k)) + f (skip j n))
   rw [ih j (by omega), show skip j n = n + 1 from if_neg (by omega)]
   omega

/-- The first coefficient: one column after the other is exchanged. -/
theorem dc_one : ∀ (n : Nat) (a b : Nat → Nat → Int), dc n a b 1 = Sm n (fun k => det n (setc a k (fun i => b i k))) := by
 intro n
 induction n with
 | zero => intro a b; rfl
 | succ n ih =>
  intro a b
  have e1 : ∀ k, k < n + 1 → det (n + 1) (setc a k (fun i => b i k)) = Sm (n + 1) (fun j => sg j * setc a k (fun i => b i k) 0 j * det n (minor (setc a k (fun i => b i k)) j)) := fun k _ => rfl
  rw [Sm_congr e1, Sm_swap]
  show Sm (n + 1) (fun j => lin (sg j * a 0 j) (sg j * b 0 j) (dc n (minor a j) (minor b j)) 1) = _
  refine Sm_congr (fun j hj => ?_)
  rw [Sm_skip _ n j (by omega)]
  unfold lin
  rw [if_neg (by omega), ih, dc_zero, minor_setc_eq, Int.add_comm]
  congr 1
  ·show _ = sg j * (if j = j then b 0 j else a 0 j) * _
   rw [if_pos rfl]
  ·rw [← Sm_mul_left]
   refine Sm_congr (fun k hk => ?_)
   have hne : j ≠ skip j k := by unfold skip; split <;> omega
   rw [minor_setc_ne a hne]
   have e2 : setc a (skip j k) (fun i => b i (skip j k)) 0 j = a 0 j := if_neg hne
   have e3 : (if skip j k < j then skip j k else skip j k - 1) = k := by
    unfold skip
    by_cases c : k < j
    ·rw [if_pos c, if_pos c]
    ·rw [if_neg c, if_neg (by omega)]
     omega
   rw [e2, e3]
   rfl

theorem pow_near (u h : Int) : ∀ m : Nat, ∃ e, (u + h) ^ m = u ^ m + h * ((m : Int) * u ^ (m - 1)) + h * h * e := by
 intro m
 induction m with
 | zero => exact ⟨0, by rw [Int.pow_zero, Int.pow_zero]; simp⟩
 | succ m ih =>
  obtain ⟨e, he⟩ := ih
  have e1 : (m : Int) * u ^ (m - 1) * u = (m : Int) * u ^ m := by
   match m with
   | 0 => simp
   | q + 1 => rw [Nat.add_sub_cancel, Int.mul_assoc, ← Int.pow_succ]
  refine ⟨(m : Int) * u ^ (m - 1) + e * (u + h), ?_⟩
  rw [Int.pow_succ, he, Int.pow_succ, Nat.add_sub_cancel]
  generalize (m : Int) * u ^ (m - 1) = p at *
  rw [show ((m + 1 : Nat) : Int) = m + 1 from rfl, Int.add_mul (m : Int) 1, ← e1]
  generalize u ^ m = q
  grind

theorem Sm_near (d : Nat) (c : Nat → Int) (u h : Int) : ∃ e, Sm d (fun m => c m * (u + h) ^ m) = Sm d (fun m => c m * u ^ m) + h * Sm d (fun m => c m * ((m : Int) * u ^ (m - 1))) + h * h * e := by
 induction d with
 | zero => exact ⟨0, by simp [Sm]⟩
 | succ d ih =>
  obtain ⟨e, he⟩ := ih
  obtain ⟨e', he'⟩ := pow_near u h d
  refine ⟨e + c d * e', ?_⟩
  show Sm d (fun m => c m * (u + h) ^ m) + c d * (u + h) ^ d = Sm d (fun m => c m * u ^ m) + c d * u ^ d + h * (Sm d (fun m => c m * ((m : Int) * u ^ (m - 1))) + c d * ((d : Int) * u ^ (d - 1))) + h * h * (e + c d * e')
  rw [he, he']
  generalize Sm d _ = s1
  generalize Sm d _ = s2
  generalize (d : Int) * u ^ (d - 1) = s3
  generalize u ^ d = s4
  generalize c d = s5
  grind

theorem Sm_two_terms (d : Nat) (c : Nat → Int) (h : Int) : ∃ e, Sm (d + 2) (fun m => c m * h ^ m) = c 0 + h * c 1 + h * h * e := by
 induction d with
 | zero =>
  refine ⟨0, ?_⟩
  show 0 + c 0 * h ^ 0 + c 1 * h ^ 1 = _
  rw [Int.pow_zero, Int.pow_succ, Int.pow_zero]
  grind
 | succ d ih =>
  obtain ⟨e, he⟩ := ih
  refine ⟨e + c (d + 2) * h ^ d, ?_⟩
  show Sm (d + 2) (fun m => c m * h ^ m) + c (d + 2) * h ^ (d + 2) = _
  rw [he, Int.pow_succ, Int.pow_succ]
  generalize h ^ d = p
  grind

/-- The trace of N_m A. -/
def tn (n : Nat) (a : Nat → Nat → Int) (m : Nat) : Int := Sm n (fun k => Sm n (fun i => nc n a m k i * a i k))

theorem newton (n : Nat) (a : Nat → Nat → Int) (m : Nat) (hm : m < n + 1) : ((m + 1 : Nat) : Int) * ch n a (m + 1) = - tn n a m := by
 have key : ∀ u : Int, Sm (n + 1) (fun m => ch n a m * ((m : Int) * u ^ (m - 1))) = - Sm (n + 1) (fun m => tn n a m * u ^ m) := by
  intro u
  apply Classical.byContradiction
  intro hc
  obtain ⟨x, hx⟩ : ∃ x, x = Sm (n + 1) (fun m => ch n a m * ((m : Int) * u ^ (m - 1))) + Sm (n + 1) (fun m => tn n a m * u ^ m) := ⟨_, rfl⟩
  obtain ⟨h, hh⟩ : ∃ h : Int, h = ab x + 1 := ⟨_, rfl⟩
  have hpos : 1 ≤ h := by have := ab_nonneg x; omega
  obtain ⟨e1, he1⟩ := Sm_near (n + 1) (ch n a) u h
  have d1 := det_xu n a (u + h)
  have d0 := det_xu n a u
  have dd := (det_coef n (xu a u) (ng a)).2.1 h
  simp only at dd
  have ex : (fun i k => xu a u i k + h * ng a i k) = xu a (u + h) := by
   funext i k
   unfold xu
   rw [Int.add_mul]
   omega
  rw [ex] at dd
  obtain ⟨e2, he2⟩ := Sm_two_terms n (dc n (xu a u) (ng a)) h
  rw [Sm_more (d := n + 1) (fun m => dc n (xu a u) (ng a) m * h ^ m) (by omega) (fun i hi => by rw [dc_high n _ _ hi, Int.zero_mul]), ← dd, dc_zero] at he2
  have ej : dc n (xu a u) (ng a) 1 = - Sm (n + 1) (fun m => tn n a m * u ^ m) := by
   rw [dc_one]
   have e3 : Sm n (fun k => det n (setc (xu a u) k (fun i => ng a i k))) = Sm n (fun k => Sm n (fun i => adj n (xu a u) k i * ng a i k)) := Sm_congr (fun k hk => (adj_col n (xu a u) k hk (fun i => ng a i k)).symm)
   rw [e3]
   have e4 : Sm n (fun k => Sm n (fun i => adj n (xu a u) k i * ng a i k)) = Sm n (fun k => Sm n (fun i => Sm (n + 1) (fun m => (-1) * (nc n a m k i * a i k * u ^ m)))) := Sm_congr (fun k _ => Sm_congr (fun i _ => by
    rw [adj_xu, Sm_mul_left, ← Sm_mul_right]
    unfold ng
    rw [← Sm_mul_left]
    refine Sm_congr (fun m _ => ?_)
    grind))
   rw [e4]
   have e5 : Sm n (fun k => Sm n (fun i => Sm (n + 1) (fun m => (-1) * (nc n a m k i * a i k * u ^ m)))) = Sm (n + 1) (fun m => (-1) * (tn n a m * u ^ m)) := by
    rw [Sm_congr (g := fun k => Sm (n + 1) (fun m => Sm n (fun i => (-1) * (nc n a m k i * a i k * u ^ m)))) (fun k _ => Sm_swap _ _ _), Sm_swap]
    refine Sm_congr (fun m _ => ?_)
    unfold tn
    rw [← Sm_mul_right, ← Sm_mul_left]
    refine Sm_congr (fun k _ => ?_)
    rw [← Sm_mul_right, ← Sm_mul_left]
   rw [e5, Sm_mul_left]
   omega
  rw [ej, d1, he1, ← d0] at he2
  have hdiv : h * x = h * (h * (e2 - e1)) := by
   rw [hx]
   generalize Sm (n + 1) (fun m => ch n a m * ((m : Int) * u ^ (m - 1))) = s1 at *
   generalize Sm (n + 1) (fun m => tn n a m * u ^ m) = s2 at *
   grind
  have hx2 : x = h * (e2 - e1) := Int.eq_of_mul_eq_mul_left (by omega) hdiv
  have hx0 : x ≠ 0 := by omega
  have hd : h ∣ x := ⟨_, hx2⟩
  have h3 := Nat.le_of_dvd (by omega) (Int.natAbs_dvd_natAbs.2 hd)
  have h4 : ab x = x.natAbs := rfl
  omega
 have shift : ∀ u : Int, Sm (n + 1) (fun m => ch n a m * ((m : Int) * u ^ (m - 1))) = Sm (n + 1) (fun m => ((m + 1 : Nat) : Int) * ch n a (m + 1) * u ^ m) := by
  intro u
  have e1 : Sm (n + 2) (fun m => ch n a m * ((m : Int) * u ^ (m - 1))) = Sm (n + 1) (fun m => ch n a m * ((m : Int) * u ^ (m - 1))) := Sm_more _ (by omega) (fun i hi => by rw [show ch n a i = 0 from dc_high n _ _ hi, Int.zero_mul])
  rw [← e1, Sm_first]
  simp only [Nat.add_sub_cancel]
  rw [show ((0 : Nat) : Int) = 0 from rfl, Int.zero_mul, Int.mul_zero, Int.zero_add]
  refine Sm_congr (fun m _ => ?_)
  grind
 have := coef_zero (n + 1) (fun m => ((m + 1 : Nat) : Int) * ch n a (m + 1) + tn n a m) (fun u _ => by
  have h1 := key u
  rw [shift] at h1
  rw [Sm_congr (g := fun m => ((m + 1 : Nat) : Int) * ch n a (m + 1) * u ^ m + tn n a m * u ^ m) (fun m _ => Int.add_mul _ _ _), Sm_add]
  omega) m hm
 omega
theorem wrap_q (x : Int) : ∃ q : Int, wrap64 x = x + 18446744073709551616 * q := ⟨-((x + 9223372036854775808) / 18446744073709551616), by unfold wrap64; omega⟩

theorem wrap_of_q (x q : Int) : wrap64 (x + 18446744073709551616 * q) = wrap64 x := by unfold wrap64; omega

theorem wrap_wrap (x : Int) : wrap64 (wrap64 x) = wrap64 x := by unfold wrap64; omega

theorem wrap_mul_right (x y : Int) : wrap64 (x * wrap64 y) = wrap64 (x * y) := by
 obtain ⟨q, hq⟩ := wrap_q y
 rw [hq, Int.mul_add, Int.mul_left_comm, wrap_of_q]

theorem wrap_mul_left (x y : Int) : wrap64 (wrap64 x * y) = wrap64 (x * y) := by
 rw [Int.mul_comm, wrap_mul_right, Int.mul_comm]

theorem wrap_mul_wrap (x y : Int) : wrap64 (wrap64 x * wrap64 y) = wrap64 (x * y) := by
 rw [wrap_mul_left, wrap_mul_right]

theorem wrap_neg (a : Int) : wrap64 (-wrap64 a) = wrap64 (-a) := by
 unfold wrap64
 omega

theorem wrap_add_congr {a a' b b' : Int} (h : wrap64 a = wrap64 a') (h' : wrap64 b = wrap64 b') : wrap64 (a + b) = wrap64 (a' + b') := by
 rw [← wrap_add_wrap, h, h', wrap_add_wrap]

theorem wrap_Sm {n : Nat} {f g : Nat → Int} (h : ∀ i, i < n → wrap64 (f i) = wrap64 (g i)) : wrap64 (Sm n f) = wrap64 (Sm n g) := by
 induction n with
 | zero => rfl
 | succ n ih =>
  unfold Sm
  exact wrap_add_congr (ih (fun i hi => h i (by omega))) (h n (by omega))

theorem nc_comm (n : Nat) (a : Nat → Nat → Int) : ∀ (m k j : Nat), k < n → j < n → mul n a (nc n a m) k j = mul n (nc n a m) a k j := by
 have base : ∀ (f : Nat → Nat → Int) (d : Int) (N : Nat → Nat → Int), (∀ k j, k < n → j < n → N k j = f k j + (if k = j then d else 0)) → (∀ k j, k < n → j < n → mul n a f k j = mul n f a k j) → ∀ k j, k < n → j < n → mul n a N k j = mul n N a k j := by
  intro f d N hN hf k j hk hj
  unfold mul
  rw [Sm_congr (g := fun i => a k i * f i j + (if i = j then 1 else 0) * (a k i * d)) (fun i hi => by
   rw [hN i j hi hj, Int.mul_add]
   congr 1
   by_cases e : i = j
   ·rw [if_pos e, if_pos e, Int.one_mul]
   ·rw [if_neg e, if_neg e, Int.zero_mul, Int.mul_zero])]
  rw [Sm_congr (f := fun i => N k i * a i j) (g := fun i => f k i * a i j + (if i = k then 1 else 0) * (d * a i j)) (fun i hi => by
   rw [hN k i hk hi, Int.add_mul]
   congr 1
   by_cases e : k = i
   ·rw [if_pos e, if_pos e.symm, Int.one_mul]
   ·rw [if_neg e, if_neg (fun z => e z.symm), Int.zero_mul, Int.zero_mul])]
  rw [Sm_add, Sm_add, Sm_pick' n (fun i => a k i * d) hj, Sm_pick' n (fun i => d * a i j) hk, Int.mul_comm d]
  congr 1
  exact hf k j hk hj
 intro m
 induction m with
 | zero =>
  refine base (fun _ _ => 0) (ch n a 0) _ (fun k j hk hj => ?_) (fun k j hk hj => ?_)
  ·rw [nc_step n a 0 k j hk hj, if_pos rfl]
  ·unfold mul
   rw [Sm_congr (g := fun _ => 0) (fun i _ => Int.mul_zero _), Sm_congr (f := fun i => 0 * a i j) (g := fun _ => 0) (fun i _ => Int.zero_mul _)]
 | succ m ih =>
  refine base (fun k j => mul n (nc n a m) a k j) (ch n a (m + 1)) _ (fun k j hk hj => ?_) (fun k j hk hj => ?_)
  ·rw [nc_step n a (m + 1) k j hk hj, if_neg (by omega), Nat.add_sub_cancel]
   rfl
  ·have h1 := mul_assoc' n a (nc n a m) a k j
   have h2 : mul n (mul n a (nc n a m)) a k j = mul n (mul n (nc n a m) a) a k j := mul_congr (fun i hi => ih k i hk hi) (fun i _ => rfl)
   rw [h2] at h1
   exact h1.symm
/-- The last column is zero above its foot. -/
theorem det_foot : ∀ (n : Nat) (m : Nat → Nat → Int) (s : Int), (∀ i, i < n → m i n = 0) → m n n = s → det (n + 1) m = s * det n m := by
 intro n
 induction n with
 | zero =>
  intro m s _ hs
  show 0 + sg 0 * m 0 0 * 1 = s * 1
  rw [hs]
  show 0 + 1 * s * 1 = s * 1
  omega
 | succ n ih =>
  intro m s h hs
  show Sm (n + 1) (fun j => sg j * m 0 j * det (n + 1) (minor m j)) + sg (n + 1) * m 0 (n + 1) * det (n + 1) (minor m (n + 1)) = s * Sm (n + 1) (fun j => sg j * m 0 j * det n (minor m j))
  rw [h 0 (by omega), Int.mul_zero, Int.zero_mul, Int.add_zero, ← Sm_mul_left]
  refine Sm_congr (fun j hj => ?_)
  rw [ih (minor m j) s ?_ ?_]
  ·rw [← Int.mul_assoc, ← Int.mul_assoc, Int.mul_comm s, Int.mul_assoc (sg j * m 0 j)]
  ·intro i hi
   unfold minor
   rw [if_neg (by omega)]
   exact h (i + 1) (by omega)
  ·unfold minor
   rw [if_neg (by omega)]
   exact hs

theorem border (n : Nat) (x : Nat → Nat → Int) (hr : ∀ r i, r < n → i < n → mul n x (adj n x) r i = if r = i then det n x else 0) : det n x * det (n + 1) x = det n x * (x n n * det n x - Sm n (fun k => x n k * Sm n (fun i => adj n x k i * x i n))) := by
 obtain ⟨w, hw⟩ : ∃ w : Nat → Int, w = fun k => Sm n (fun i => adj n x k i * x i n) := ⟨_, rfl⟩
 obtain ⟨s, hs⟩ : ∃ s : Int, s = x n n * det n x - Sm n (fun k => x n k * w k) := ⟨_, rfl⟩
 -- the last column times the determinant, less the others
 have h1 := det_lin (n + 1) x n (det n x) (-1) (fun i => x i n) (fun r => Sm n (fun k => w k * x r k)) (by omega)
 rw [setc_self, det_sum (n + 1) x n (by omega) w (fun k r => x r k) n] at h1
 have hz : Sm n (fun k => w k * det (n + 1) (setc x n (fun r => x r k))) = 0 := by
  rw [Sm_congr (g := fun _ => 0) (fun k hk => ?_), Sm_zero]
  rw [det_same (n := n + 1) (p := n) (q := k) (by omega) (by omega) (by omega) (fun i => ?_), Int.mul_zero]
  unfold setc
  rw [if_pos rfl, if_neg (by omega)]
 rw [hz, Int.mul_zero, Int.add_zero] at h1
 -- X adj X = det X, row by row
 have hx : ∀ r, r < n → Sm n (fun k => w k * x r k) = det n x * x r n := by
  intro r hrn
  rw [hw]
  rw [Sm_congr (g := fun k => Sm n (fun i => x r k * adj n x k i * x i n)) (fun k _ => by
   rw [Int.mul_comm, ← Sm_mul_left]
   exact Sm_congr (fun i _ => (Int.mul_assoc _ _ _).symm)), Sm_swap]
  rw [Sm_congr (g := fun i => (if i = r then 1 else 0) * (det n x * x i n)) (fun i hi => by
   rw [Sm_mul_right]
   have := hr r i hrn hi
   unfold mul at this
   rw [this]
   by_cases e : r = i
   ·rw [if_pos e, if_pos e.symm, Int.one_mul]
   ·rw [if_neg e, if_neg (fun z => e z.symm), Int.zero_mul, Int.zero_mul])]
  exact Sm_pick' n (fun i => det n x * x i n) hrn
 have h2 := det_foot n (setc x n (fun i => det n x * x i n + -1 * Sm n (fun k => w k * x i k))) s (fun i hi => by
  unfold setc
  rw [if_pos rfl]
  show det n x * x i n + -1 * Sm n (fun k => w k * x i k) = 0
  rw [hx i hi]
  omega) (by
  unfold setc
  rw [if_pos rfl, hs, Int.mul_comm (x n n)]
  show det n x * x n n + -1 * Sm n (fun k => w k * x n k) = _
  rw [Sm_congr (f := fun k => w k * x n k) (g := fun k => x n k * w k) (fun k _ => Int.mul_comm _ _)]
  omega)
 rw [← h1, h2, hs, hw, Int.mul_comm]
 congr 1
 refine det_congr n _ _ (fun i k _ hk => ?_)
 unfold setc
 rw [if_neg (by omega)]
/-- 1 - u a times its adjoint. -/
theorem xu_adj (n : Nat) (a : Nat → Nat → Int) (u : Int) (k j : Nat) (hk : k < n) (hj : j < n) : mul n (xu a u) (adj n (xu a u)) k j = if k = j then det n (xu a u) else 0 := by
 rw [← adj_mul n (xu a u) k j hk hj]
 have e1 : ∀ k j, k < n → j < n → mul n (xu a u) (adj n (xu a u)) k j = adj n (xu a u) k j + (-u) * mul n a (adj n (xu a u)) k j := by
  intro k j hk hj
  unfold mul
  rw [← Sm_mul_left]
  have : Sm n (fun i => xu a u k i * adj n (xu a u) i j) = Sm n (fun i => (if i = k then 1 else 0) * adj n (xu a u) i j + (-u) * (a k i * adj n (xu a u) i j)) := Sm_congr (fun i _ => by
   unfold xu idm ng
   generalize adj n _ i j = g
   rw [Int.add_mul]
   congr 1
   ·by_cases e : k = i
    ·rw [if_pos e, if_pos e.symm]
    ·rw [if_neg e, if_neg (fun z => e z.symm)]
   ·grind)
  rw [this, Sm_add, Sm_pick' n (fun i => adj n (xu a u) i j) hk]
 have e2 : ∀ k j, k < n → j < n → mul n (adj n (xu a u)) (xu a u) k j = adj n (xu a u) k j + (-u) * mul n (adj n (xu a u)) a k j := by
  intro k j hk hj
  unfold mul
  rw [← Sm_mul_left]
  have : Sm n (fun i => adj n (xu a u) k i * xu a u i j) = Sm n (fun i => (if i = j then 1 else 0) * adj n (xu a u) k i + (-u) * (adj n (xu a u) k i * a i j)) := Sm_congr (fun i _ => by
   unfold xu idm ng
   generalize adj n _ k i = g
   rw [Int.mul_add]
   congr 1
   ·exact Int.mul_comm _ _
   ·grind)
  rw [this, Sm_add, Sm_pick' n (fun i => adj n (xu a u) k i) hj]
 rw [e1 k j hk hj, e2 k j hk hj]
 congr 1
 congr 1
 have e3 : mul n a (adj n (xu a u)) k j = Sm (n + 1) (fun m => mul n a (nc n a m) k j * u ^ m) := by
  unfold mul
  rw [Sm_congr (g := fun i => Sm (n + 1) (fun m => a k i * nc n a m i j * u ^ m)) (fun i _ => by
   rw [adj_xu, ← Sm_mul_left]
   exact Sm_congr (fun m _ => (Int.mul_assoc _ _ _).symm)), Sm_swap]
  exact Sm_congr (fun m _ => Sm_mul_right n _ _)
 have e4 : mul n (adj n (xu a u)) a k j = Sm (n + 1) (fun m => mul n (nc n a m) a k j * u ^ m) := by
  unfold mul
  rw [Sm_congr (g := fun i => Sm (n + 1) (fun m => nc n a m k i * a i j * u ^ m)) (fun i _ => by
   rw [adj_xu, ← Sm_mul_right]
   exact Sm_congr (fun m _ => by rw [Int.mul_assoc, Int.mul_comm (u ^ m), ← Int.mul_assoc])), Sm_swap]
  exact Sm_congr (fun m _ => Sm_mul_right n _ _)
 rw [e3, e4]
 exact Sm_congr (fun m _ => by rw [nc_comm n a m k j hk hj])

theorem det_idm : ∀ n, det n idm = 1 := by
 intro n
 induction n with
 | zero => rfl
 | succ n ih =>
  rw [det_foot n idm 1 (fun i hi => if_neg (by omega)) (if_pos rfl), ih]
  rfl

theorem det_xu_ne (n : Nat) (a : Nat → Nat → Int) (u : Int) (hu : 2 ≤ u) : det n (xu a u) ≠ 0 := by
 intro h
 rw [det_xu, Sm_first, show ch n a 0 = 1 from (dc_zero n idm (ng a)).trans (det_idm n), Int.pow_zero] at h
 have e : Sm n (fun i => ch n a (i + 1) * u ^ (i + 1)) = u * Sm n (fun i => ch n a (i + 1) * u ^ i) := by
  rw [← Sm_mul_left]
  refine Sm_congr (fun i _ => ?_)
  rw [Int.pow_succ]
  grind
 rw [e] at h
 generalize Sm n _ = s at h
 have hd : u ∣ 1 := ⟨-s, by rw [Int.mul_neg]; omega⟩
 have := Int.le_of_dvd (by decide) hd
 omega

/-- The foot, the row and the column, for one number u. -/
theorem det_border (n : Nat) (a : Nat → Nat → Int) (u : Int) (hu : 2 ≤ u) : det (n + 1) (xu a u) = (1 - u * a n n) * det n (xu a u) - u * u * Sm n (fun k => a n k * Sm n (fun i => adj n (xu a u) k i * a i n)) := by
 have h := border n (xu a u) (fun r i hr hi => xu_adj n a u r i hr hi)
 have h1 := Int.eq_of_mul_eq_mul_left (det_xu_ne n a u hu) h
 rw [h1]
 have e1 : xu a u n n = 1 - u * a n n := by
  unfold xu idm ng
  rw [if_pos rfl, Int.mul_neg]
  omega
 have e2 : Sm n (fun k => xu a u n k * Sm n (fun i => adj n (xu a u) k i * xu a u i n)) = u * u * Sm n (fun k => a n k * Sm n (fun i => adj n (xu a u) k i * a i n)) := by
  rw [← Sm_mul_left]
  refine Sm_congr (fun k hk => ?_)
  have e3 : xu a u n k = -(u * a n k) := by
   unfold xu idm ng
   rw [if_neg (by omega), Int.mul_neg]
   omega
  have e4 : Sm n (fun i => adj n (xu a u) k i * xu a u i n) = -u * Sm n (fun i => adj n (xu a u) k i * a i n) := by
   rw [← Sm_mul_left]
   refine Sm_congr (fun i hi => ?_)
   unfold xu idm ng
   rw [if_neg (by omega)]
   generalize adj n _ k i = g
   grind
  rw [e3, e4]
  generalize Sm n _ = s
  grind
 rw [e1, e2]

/-- What the last row and column add to the coefficient m. -/
def bt (n : Nat) (a : Nat → Nat → Int) (m : Nat) : Int := Sm n (fun k => a n k * Sm n (fun i => nc n a m k i * a i n))

/-- One row and one column more, by coefficients. -/
theorem ch_border (n : Nat) (a : Nat → Nat → Int) (m : Nat) (hm : m < n + 3) : ch (n + 1) a m = ch n a m + (if m = 0 then 0 else -(a n n) * ch n a (m - 1)) + (if m < 2 then 0 else - bt n a (m - 2)) := by
 have key : ∀ u : Int, 2 ≤ u → Sm (n + 3) (fun m => (ch (n + 1) a m - (ch n a m + (if m = 0 then 0 else -(a n n) * ch n a (m - 1)) + (if m < 2 then 0 else - bt n a (m - 2)))) * u ^ m) = 0 := by
  intro u hu
  have h := det_border n a u hu
  rw [det_xu, det_xu] at h
  have e0 : Sm n (fun k => a n k * Sm n (fun i => adj n (xu a u) k i * a i n)) = Sm (n + 1) (fun m => bt n a m * u ^ m) := by
   unfold bt
   rw [Sm_congr (g := fun k => Sm (n + 1) (fun m => a n k * Sm n (fun i => nc n a m k i * a i n) * u ^ m)) (fun k _ => by
    rw [Sm_congr (g := fun i => Sm (n + 1) (fun m => nc n a m k i * a i n * u ^ m)) (fun i _ => by
     rw [adj_xu, ← Sm_mul_right]
     exact Sm_congr (fun m _ => by rw [Int.mul_assoc, Int.mul_comm (u ^ m), ← Int.mul_assoc])), Sm_swap, ← Sm_mul_left]
    refine Sm_congr (fun m _ => ?_)
    rw [Sm_mul_right, Int.mul_assoc]), Sm_swap]
   exact Sm_congr (fun m _ => Sm_mul_right n _ _)
  have e1 : Sm (n + 1 + 1) (fun m => ch (n + 1) a m * u ^ m) = Sm (n + 3) (fun m => ch (n + 1) a m * u ^ m) := (Sm_more _ (by omega) (fun i hi => by rw [show ch (n + 1) a i = 0 from dc_high _ _ _ (by omega), Int.zero_mul])).symm
  have e2 : Sm (n + 1) (fun m => ch n a m * u ^ m) = Sm (n + 3) (fun m => ch n a m * u ^ m) := (Sm_more _ (by omega) (fun i hi => by rw [show ch n a i = 0 from dc_high _ _ _ (by omega), Int.zero_mul])).symm
  have e3 : u * Sm (n + 1) (fun m => ch n a m * u ^ m) = Sm (n + 3) (fun m => (if m = 0 then 0 else ch n a (m - 1)) * u ^ m) := by
   rw [← Sm_more (d := n + 1) (e := n + 2) (fun m => ch n a m * u ^ m) (by omega) (fun i hi => by rw [show ch n a i = 0 from dc_high _ _ _ (by omega), Int.zero_mul]), ← Sm_mul_left, ← Sm_shift]
   refine Sm_congr (fun m _ => ?_)
   by_cases e : m = 0
   ·rw [if_pos e, if_pos e, Int.zero_mul]
   ·rw [if_neg e, if_neg e]
    obtain ⟨q, rfl⟩ : ∃ q, m = q + 1 := ⟨m - 1, by omega⟩
    rw [Nat.add_sub_cancel, Int.pow_succ]
    grind
  have e4 : u * u * Sm (n + 1) (fun m => bt n a m * u ^ m) = Sm (n + 3) (fun m => (if m < 2 then 0 else bt n a (m - 2)) * u ^ m) := by
   have s2 : Sm (n + 3) (fun m => (if m < 2 then 0 else bt n a (m - 2)) * u ^ m) = Sm (n + 1) (fun m => bt n a m * u ^ (m + 2)) := by
    rw [Sm_first, Sm_first]
    rw [if_pos (by omega), if_pos (by omega), Int.zero_mul, Int.zero_mul, Int.zero_add, Int.zero_add]
    exact Sm_congr (fun m _ => by rw [if_neg (by omega)]; rfl)
   rw [s2, ← Sm_mul_left]
   refine Sm_congr (fun m _ => ?_)
   rw [Int.pow_succ, Int.pow_succ]
   grind
  rw [e0, e1] at h
  have e5 : Sm (n + 3) (fun m => (ch (n + 1) a m - (ch n a m + (if m = 0 then 0 else -(a n n) * ch n a (m - 1)) + (if m < 2 then 0 else - bt n a (m - 2)))) * u ^ m) = Sm (n + 3) (fun m => ch (n + 1) a m * u ^ m) + ((-1) * Sm (n + 3) (fun m => ch n a m * u ^ m) + (a n n * Sm (n + 3) (fun m => (if m = 0 then 0 else ch n a (m - 1)) * u ^ m) + Sm (n + 3) (fun m => (if m < 2 then 0 else bt n a (m - 2)) * u ^ m))) := by
   rw [← Sm_mul_left, ← Sm_mul_left, ← Sm_add, ← Sm_add, ← Sm_add]
   refine Sm_congr (fun m _ => ?_)
   by_cases c0 : m = 0
   ·rw [if_pos c0, if_pos c0, if_pos (by omega), if_pos (by omega)]
    grind
   ·rw [if_neg c0, if_neg c0]
    by_cases c2 : m < 2
    ·rw [if_pos c2, if_pos c2]
     grind
    ·rw [if_neg c2, if_neg c2]
     grind
  rw [e5, ← e3, ← e4, h, ← e2]
  generalize Sm (n + 1) (fun m => ch n a m * u ^ m) = s1
  generalize Sm (n + 1) (fun m => bt n a m * u ^ m) = s2
  grind
 have := coef_zero2 (n + 3) _ (fun u hu => key u hu) m hm
 omega
/-- a to the power p. -/
def mp (n : Nat) (a : Nat → Nat → Int) : Nat → Nat → Nat → Int
 | 0 => idm
 | p + 1 => mul n (mp n a p) a

theorem nc_pow (n : Nat) (a : Nat → Nat → Int) : ∀ (m k j : Nat), k < n → j < n → nc n a m k j = Sm (m + 1) (fun t => ch n a t * mp n a (m - t) k j) := by
 intro m
 induction m with
 | zero =>
  intro k j hk hj
  rw [nc_step n a 0 k j hk hj, if_pos rfl, Int.zero_add]
  show _ = 0 + ch n a 0 * idm k j
  unfold idm
  split
  ·omega
  ·omega
 | succ m ih =>
  intro k j hk hj
  rw [nc_step n a (m + 1) k j hk hj, if_neg (by omega), Nat.add_sub_cancel]
  show _ = Sm (m + 1) (fun t => ch n a t * mp n a (m + 1 - t) k j) + ch n a (m + 1) * mp n a (m + 1 - (m + 1)) k j
  rw [Nat.sub_self]
  congr 1
  ·rw [Sm_congr (g := fun i => Sm (m + 1) (fun t => ch n a t * mp n a (m - t) k i * a i j)) (fun i hi => by
    rw [ih k i hk hi, ← Sm_mul_right]), Sm_swap]
   refine Sm_congr (fun t ht => ?_)
   rw [show m + 1 - t = (m - t) + 1 by omega]
   show _ = ch n a t * Sm n (fun i => mp n a (m - t) k i * a i j)
   rw [← Sm_mul_left]
   exact Sm_congr (fun i _ => Int.mul_assoc _ _ _)
  ·show _ = ch n a (m + 1) * idm k j
   unfold idm
   split
   ·omega
   ·omega
/-- The matrix's powers at a column. -/
def cg (r : Nat) (a : Nat → Nat → Int) (v : Nat → Int) : Nat → Nat → Int
 | 0 => v
 | p + 1 => fun i => Sm r (fun q => a i q * cg r a v p q)

theorem cg_first (r : Nat) (a : Nat → Nat → Int) : ∀ (p : Nat) (v : Nat → Int), cg r a (fun i => Sm r (fun q => a i q * v q)) p = cg r a v (p + 1) := by
 intro p
 induction p with
 | zero => intro v; rfl
 | succ p ih =>
  intro v
  funext i
  show Sm r (fun q => a i q * cg r a (fun i => Sm r (fun q => a i q * v q)) p q) = Sm r (fun q => a i q * cg r a v (p + 1) q)
  rw [ih v]

theorem cg_pow (r : Nat) (a : Nat → Nat → Int) : ∀ (p : Nat) (v : Nat → Int) (i : Nat), i < r → Sm r (fun q => mp r a p i q * v q) = cg r a v p i := by
 intro p
 induction p with
 | zero =>
  intro v i hi
  show Sm r (fun q => idm i q * v q) = v i
  rw [Sm_congr (g := fun q => (if q = i then 1 else 0) * v q) (fun q _ => ?_)]
  ·exact Sm_pick' r v hi
  ·unfold idm
   by_cases c : i = q
   ·rw [if_pos c, if_pos c.symm]
   ·rw [if_neg c, if_neg (fun z => c z.symm)]
 | succ p ih =>
  intro v i hi
  rw [← cg_first, ← ih _ i hi]
  show Sm r (fun q => Sm r (fun k => mp r a p i k * a k q) * v q) = _
  rw [Sm_congr (g := fun q => Sm r (fun k => mp r a p i k * (a k q * v q))) (fun q _ => by
   rw [← Sm_mul_right]
   exact Sm_congr (fun k _ => Int.mul_assoc _ _ _)), Sm_swap]
  exact Sm_congr (fun k _ => Sm_mul_left r _ _)

/-- The row, a power, and the column. -/
def rp (r : Nat) (a : Nat → Nat → Int) (p : Nat) : Int := Sm r (fun q => a r q * cg r a (fun i => a i r) p q)

/-- The numbers by which those of r rows are multiplied. -/
def tu (r : Nat) (a : Nat → Nat → Int) : Nat → Int
 | 0 => 1
 | 1 => -(a r r)
 | p + 2 => -rp r a p

theorem bt_rp (r : Nat) (a : Nat → Nat → Int) (m : Nat) : bt r a m = Sm (m + 1) (fun t => ch r a t * rp r a (m - t)) := by
 unfold bt
 rw [Sm_congr (g := fun k => Sm (m + 1) (fun t => ch r a t * (a r k * cg r a (fun i => a i r) (m - t) k))) (fun k hk => ?_), Sm_swap]
 ·exact Sm_congr (fun t _ => Sm_mul_left r _ _)
 ·rw [Sm_congr (g := fun i => Sm (m + 1) (fun t => ch r a t * (mp r a (m - t) k i * a i r))) (fun i hi => by
   rw [nc_pow r a m k i hk hi, ← Sm_mul_right]
   exact Sm_congr (fun t _ => Int.mul_assoc _ _ _)), Sm_swap, ← Sm_mul_left]
  refine Sm_congr (fun t _ => ?_)
  rw [Sm_mul_left, cg_pow r a (m - t) (fun i => a i r) k hk]
  exact Int.mul_left_comm _ _ _

theorem toep (r : Nat) (a : Nat → Nat → Int) (i : Nat) (hi : i < r + 3) : Sm (i + 1) (fun t => tu r a (i - t) * ch r a t) = ch (r + 1) a i := by
 rw [ch_border r a i hi]
 match i with
 | 0 =>
  show 0 + 1 * ch r a 0 = ch r a 0 + 0 + 0
  omega
 | 1 =>
  show 0 + -(a r r) * ch r a 0 + 1 * ch r a 1 = ch r a 1 + -(a r r) * ch r a 0 + 0
  omega
 | m + 2 =>
  rw [if_neg (by omega), if_neg (by omega), show m + 2 - 1 = m + 1 from rfl, Nat.add_sub_cancel, bt_rp]
  show Sm (m + 1) (fun t => tu r a (m + 2 - t) * ch r a t) + tu r a (m + 2 - (m + 1)) * ch r a (m + 1) + tu r a (m + 2 - (m + 2)) * ch r a (m + 2) = _
  rw [show m + 2 - (m + 1) = 1 by omega, show m + 2 - (m + 2) = 0 by omega]
  have e : Sm (m + 1) (fun t => tu r a (m + 2 - t) * ch r a t) = (-1) * Sm (m + 1) (fun t => ch r a t * rp r a (m - t)) := by
   rw [← Sm_mul_left]
   refine Sm_congr (fun t ht => ?_)
   rw [show m + 2 - t = (m - t) + 2 by omega]
   show -rp r a (m - t) * ch r a t = _
   grind
  rw [e]
  show _ + -(a r r) * ch r a (m + 1) + 1 * ch r a (m + 2) = _
  omega

theorem toep_cut (r : Nat) (a : Nat → Nat → Int) (i : Nat) (hi : i < r + 2) : Sm (if i + 1 ≤ r + 1 then i + 1 else r + 1) (fun t => tu r a (i - t) * ch r a t) = ch (r + 1) a i := by
 rw [← toep r a i (by omega)]
 by_cases c : i + 1 ≤ r + 1
 ·rw [if_pos c]
 ·rw [if_neg c]
  obtain rfl : i = r + 1 := by omega
  show _ = Sm (r + 1) (fun t => tu r a (r + 1 - t) * ch r a t) + tu r a (r + 1 - (r + 1)) * ch r a (r + 1)
  rw [show ch r a (r + 1) = 0 from dc_high _ _ _ (Nat.le_refl _), Int.mul_zero, Int.add_zero]
/-- The wrapped coefficients, k of them. -/
def chL (n : Nat) (a : Nat → Nat → Int) (k : Nat) : List Int := rowOf k (fun m => wrap64 (ch n a m))

theorem rowOf_snoc (k : Nat) (f : Nat → Int) : rowOf k f ++ [f k] = rowOf (k + 1) f := (map_range_succ f k).symm

section
variable (n : Nat) (hn : n ≤ 1000) (a : List (List Int)) (ha : Sq n a) (hw : ∀ i j, i < n → j < n → wrap64 (mat a i j) = mat a i j)

/-- The column behind p steps, wrapped. -/
def colW (r p : Nat) (k : Nat) : List Int := rowOf k (fun i => wrap64 (cg r (mat a) (fun i => mat a i r) p i))

def tuW (r k : Nat) : List Int := rowOf k (fun p => wrap64 (tu r (mat a) p))

include hn ha hw

theorem bkColumn (r : Nat) (hr : r < n) (x3 : List Int) (x5 : List Int) (res : List Int) (h : Ev (fun f => spec_l01Berkowitz.l2 f a x3 (r : Int) x5 (colW a r 0 r) 0) res) :
  ∀ (d i : Nat), i + d = r → Ev (fun f => spec_l01Berkowitz.l1 f a x3 (r : Int) x5 (colW a r 0 i) (i : Int)) res := by
 have hal := ha.1
 intro d
 induction d with
 | zero =>
  intro i hi
  obtain rfl : i = r := by omega
  refine Ev.succ ?_; simp only [spec_l01Berkowitz.l1]
  repeat (first | with_reducible exact Ev.now _ | dsimp only | refine Ev.pos (by first | omega | rfl | assumption | decide) ?_ | refine Ev.neg (by first | omega | assumption | exact Bool.false_ne_true | exact fun e => absurd e (by decide)) ?_ | simp only [bne_self_eq_false, Bool.not_true, Bool.not_false, List.length_cons, List.length_nil] | rw [wrap_id (by omega) (by omega)] | ((with_reducible refine Ev.eq (congrArg some ?_)); rfl))
  exact h
 | succ d ih =>
  intro i hi
  have h1 := ih (i + 1) (by omega)
  have hrow := ha.2 i (by omega)
  have hlen : (colW a r 0 i).length = i := rowOf_length _ _
  have e : colW a r 0 i ++ [rd (rd_L1 a (i : Int)) (r : Int)] = colW a r 0 (i + 1) := by
   rw [show rd (rd_L1 a (i : Int)) (r : Int) = mat a i r from rfl, ← hw i r (by omega) hr]
   exact rowOf_snoc i _
  refine Ev.succ ?_; simp only [spec_l01Berkowitz.l1]
  rw [e, wrap_succ (i := i) (by omega)]
  repeat (first | with_reducible exact Ev.now _ | dsimp only | refine Ev.pos (by first | omega | rfl | assumption | decide) ?_ | refine Ev.neg (by first | omega | assumption | exact Bool.false_ne_true | exact fun e => absurd e (by decide)) ?_ | simp only [bne_self_eq_false, Bool.not_true, Bool.not_false, List.length_cons, List.length_nil] | rw [wrap_id (by omega) (by omega)] | ((with_reducible refine Ev.eq (congrArg some ?_)); rfl))
  exact h1

omit hw in
/-- The sum of one place of the next column. -/
theorem bkCell (r k i : Nat) (hr : r < n) (hi : i < r) (x3 x5 x10 : List Int) (x9 : Int) (hx : x10.length ≤ 1000) (res : List Int) (h : Ev (fun f => spec_l01Berkowitz.l3 f a x3 (r : Int) x5 (colW a r k r) (k : Int) x9 (x10 ++ [wrap64 (cg r (mat a) (fun i => mat a i r) (k + 1) i)]) ((i + 1 : Nat) : Int)) res) :
  ∀ (d j : Nat), j + d = r → Ev (fun f => spec_l01Berkowitz.l4 f a x3 (r : Int) x5 (colW a r k r) (k : Int) x9 x10 (i : Int) (wrap64 (Sm j (fun q => mat a i q * cg r (mat a) (fun i => mat a i r) k q))) (j : Int)) res := by
 have hal := ha.1
 have hrow := ha.2 i (by omega)
 have hlen : (colW a r k r).length = r := rowOf_length _ _
 intro d
 induction d with
 | zero =>
  intro j hj
  obtain rfl : j = r := by omega
  refine Ev.succ ?_; simp only [spec_l01Berkowitz.l4]
  rw [wrap_succ (i := i) (by omega)]
  repeat (first | with_reducible exact Ev.now _ | dsimp only | refine Ev.pos (by first | omega | rfl | assumption | decide) ?_ | refine Ev.neg (by first | omega | assumption | exact Bool.false_ne_true | exact fun e => absurd e (by decide)) ?_ | simp only [bne_self_eq_false, Bool.not_true, Bool.not_false, List.length_cons, List.length_nil] | rw [wrap_id (by omega) (by omega)] | ((with_reducible refine Ev.eq (congrArg some ?_)); rfl))
  exact h
 | succ d ih =>
  intro j hj
  have h1 := ih (j + 1) (by omega)
  have e : wrap64 (wrap64 (Sm j (fun q => mat a i q * cg r (mat a) (fun i => mat a i r) k q)) + wrap64 (rd (rd_L1 a (i : Int)) (j : Int) * rd (colW a r k r) (j : Int))) = wrap64 (Sm (j + 1) (fun q => mat a i q * cg r (mat a) (fun i => mat a i r) k q)) := by
   unfold colW
   rw [rowOf_rd _ (by omega), show rd (rd_L1 a (i : Int)) (j : Int) = mat a i j from rfl, wrap_mul_right, wrap_add_wrap]
   rfl
  refine Ev.succ ?_; simp only [spec_l01Berkowitz.l4]
  rw [e, wrap_succ (i := j) (by omega)]
  repeat (first | with_reducible exact Ev.now _ | dsimp only | refine Ev.pos (by first | omega | rfl | assumption | decide) ?_ | refine Ev.neg (by first | omega | assumption | exact Bool.false_ne_true | exact fun e => absurd e (by decide)) ?_ | simp only [bne_self_eq_false, Bool.not_true, Bool.not_false, List.length_cons, List.length_nil] | rw [wrap_id (by omega) (by omega)] | ((with_reducible refine Ev.eq (congrArg some ?_)); rfl))
  exact h1

omit hw in
/-- One more number, and the next column. -/
theorem bkNext (r k : Nat) (hr : r < n) (hk : k < r) (x3 : List Int) (res : List Int) (h : Ev (fun f => spec_l01Berkowitz.l2 f a x3 (r : Int) (tuW a r (k + 3)) (colW a r (k + 1) r) ((k + 1 : Nat) : Int)) res) :
  ∀ (d i : Nat), i + d = r → Ev (fun f => spec_l01Berkowitz.l3 f a x3 (r : Int) (tuW a r (k + 2)) (colW a r k r) (k : Int) (wrap64 (Sm i (fun q => mat a r q * cg r (mat a) (fun i => mat a i r) k q))) (colW a r (k + 1) i) (i : Int)) res := by
 have hal := ha.1
 have hrow := ha.2 r (by omega)
 have hlen : (colW a r k r).length = r := rowOf_length _ _
 intro d
 induction d with
 | zero =>
  intro i hi
  obtain rfl : i = r := by omega
  have hl2 : (tuW a i (k + 2)).length = k + 2 := rowOf_length _ _
  have e : tuW a i (k + 2) ++ [wrap64 (-wrap64 (Sm i (fun q => mat a i q * cg i (mat a) (fun j => mat a j i) k q)))] = tuW a i (k + 3) := by
   rw [wrap_neg]
   exact rowOf_snoc (k + 2) (fun p => wrap64 (tu i (mat a) p))
  refine Ev.succ ?_; simp only [spec_l01Berkowitz.l3]
  rw [e, wrap_succ (i := k) (by omega)]
  repeat (first | with_reducible exact Ev.now _ | dsimp only | refine Ev.pos (by first | omega | rfl | assumption | decide) ?_ | refine Ev.neg (by first | omega | assumption | exact Bool.false_ne_true | exact fun e => absurd e (by decide)) ?_ | simp only [bne_self_eq_false, Bool.not_true, Bool.not_false, List.length_cons, List.length_nil] | rw [wrap_id (by omega) (by omega)] | ((with_reducible refine Ev.eq (congrArg some ?_)); rfl))
  exact h
 | succ d ih =>
  intro i hi
  have h1 := ih (i + 1) (by omega)
  have hl3 : (colW a r (k + 1) i).length = i := rowOf_length _ _
  have e : wrap64 (wrap64 (Sm i (fun q => mat a r q * cg r (mat a) (fun i => mat a i r) k q)) + wrap64 (rd (rd_L1 a (r : Int)) (i : Int) * rd (colW a r k r) (i : Int))) = wrap64 (Sm (i + 1) (fun q => mat a r q * cg r (mat a) (fun i => mat a i r) k q)) := by
   unfold colW
   rw [rowOf_rd _ (by omega), show rd (rd_L1 a (r : Int)) (i : Int) = mat a r i from rfl, wrap_mul_right, wrap_add_wrap]
   rfl
  have e2 : colW a r (k + 1) i ++ [wrap64 (cg r (mat a) (fun i => mat a i r) (k + 1) i)] = colW a r (k + 1) (i + 1) := rowOf_snoc i _
  rw [← e2, ← e] at h1
  have h2 := bkCell n hn a ha r k i hr (by omega) x3 (tuW a r (k + 2)) (colW a r (k + 1) i) _ (by omega) res h1 r 0 (by omega)
  rw [show wrap64 (Sm 0 (fun q => mat a i q * cg r (mat a) (fun i => mat a i r) k q)) = 0 from wrap_id (x := 0) (by decide) (by decide)] at h2
  refine Ev.succ ?_; simp only [spec_l01Berkowitz.l3]
  repeat (first | with_reducible exact Ev.now _ | dsimp only | refine Ev.pos (by first | omega | rfl | assumption | decide) ?_ | refine Ev.neg (by first | omega | assumption | exact Bool.false_ne_true | exact fun e => absurd e (by decide)) ?_ | simp only [bne_self_eq_false, Bool.not_true, Bool.not_false, List.length_cons, List.length_nil] | rw [wrap_id (by omega) (by omega)] | ((with_reducible refine Ev.eq (congrArg some ?_)); rfl))
  exact h2

omit hw in
/-- All numbers. -/
theorem bkTurn (r : Nat) (hr : r < n) (x3 : List Int) (res : List Int) (h : Ev (fun f => spec_l01Berkowitz.l5 f a x3 (r : Int) (tuW a r (r + 2)) (List.replicate (r + 2) 0) 0) res) :
  ∀ (d k : Nat), k + d = r → Ev (fun f => spec_l01Berkowitz.l2 f a x3 (r : Int) (tuW a r (k + 2)) (colW a r k r) (k : Int)) res := by
 intro d
 induction d with
 | zero =>
  intro k hk
  obtain rfl : k = r := by omega
  refine Ev.succ ?_; simp only [spec_l01Berkowitz.l2]
  rw [wrap_id (x := (k : Int) + 2) (by omega) (by omega), show ((k : Int) + 2).toNat = k + 2 by omega]
  repeat (first | with_reducible exact Ev.now _ | dsimp only | refine Ev.pos (by first | omega | rfl | assumption | decide) ?_ | refine Ev.neg (by first | omega | assumption | exact Bool.false_ne_true | exact fun e => absurd e (by decide)) ?_ | simp only [bne_self_eq_false, Bool.not_true, Bool.not_false, List.length_cons, List.length_nil] | rw [wrap_id (by omega) (by omega)] | ((with_reducible refine Ev.eq (congrArg some ?_)); rfl))
  exact h
 | succ d ih =>
  intro k hk
  have h1 := ih (k + 1) (by omega)
  have h2 := bkNext n hn a ha r k hr (by omega) x3 res h1 r 0 (by omega)
  rw [show wrap64 (Sm 0 (fun q => mat a r q * cg r (mat a) (fun i => mat a i r) k q)) = 0 from wrap_id (x := 0) (by decide) (by decide)] at h2
  refine Ev.succ ?_; simp only [spec_l01Berkowitz.l2]
  repeat (first | with_reducible exact Ev.now _ | dsimp only | refine Ev.pos (by first | omega | rfl | assumption | decide) ?_ | refine Ev.neg (by first | omega | assumption | exact Bool.false_ne_true | exact fun e => absurd e (by decide)) ?_ | simp only [bne_self_eq_false, Bool.not_true, Bool.not_false, List.length_cons, List.length_nil] | rw [wrap_id (by omega) (by omega)] | ((with_reducible refine Ev.eq (congrArg some ?_)); rfl))
  exact h2

/-- The made numbers while those before i are told, and at i the products before j. -/
def madeW (r i j : Nat) : List Int := rowOf (r + 2) (fun q => if q < i then wrap64 (ch (r + 1) (mat a) q) else if q = i then wrap64 (Sm j (fun t => tu r (mat a) (i - t) * ch r (mat a) t)) else 0)

omit hn ha hw in
theorem madeW_zero (r : Nat) : madeW a r 0 0 = List.replicate (r + 2) 0 := by
 rw [← rowOf_zero]
 refine rowOf_congr (fun q hq => ?_)
 rw [if_neg (by omega)]
 split
 ·exact wrap_id (x := 0) (by decide) (by decide)
 ·rfl

omit hn ha hw in
theorem madeW_next (r i : Nat) (hi : i < r + 2) : madeW a r i (if i + 1 ≤ r + 1 then i + 1 else r + 1) = madeW a r (i + 1) 0 := by
 refine rowOf_congr (fun q hq => ?_)
 by_cases c : q < i
 ·rw [if_pos c, if_pos (by omega)]
 ·by_cases e : q = i
  ·rw [if_neg c, if_pos e, toep_cut r (mat a) i hi, if_pos (show q < i + 1 by omega), e]
  ·rw [if_neg c, if_neg e, if_neg (by omega)]
   by_cases e2 : q = i + 1
   ·rw [if_pos e2]
    exact (wrap_id (x := 0) (by decide) (by decide)).symm
   ·rw [if_neg e2]

omit hn ha hw in
theorem madeW_set (r i j : Nat) (hi : i < r + 2) : (madeW a r i j).set i (wrap64 (rd (madeW a r i j) (i : Int) + wrap64 (wrap64 (tu r (mat a) (i - j)) * wrap64 (ch r (mat a) j)))) = madeW a r i (j + 1) := by
 unfold madeW
 rw [rowOf_rd _ hi, if_neg (by omega), if_pos rfl, wrap_mul_wrap, wrap_add_wrap, rowOf_set _ _ hi]
 refine rowOf_congr (fun q hq => ?_)
 by_cases e : q = i
 ·rw [if_pos e, if_neg (by omega), if_pos e]
  rfl
 ·rw [if_neg e]
  by_cases c : q < i
  ·rw [if_pos c, if_pos c]
  ·rw [if_neg c, if_neg c, if_neg e, if_neg e]

omit ha hw in
/-- One number of those of one row more. -/
theorem bkMade (r i : Nat) (hr : r < n) (hi : i < r + 2) (res : List Int) (h : Ev (fun f => spec_l01Berkowitz.l5 f a (chL r (mat a) (r + 1)) (r : Int) (tuW a r (r + 2)) (madeW a r (i + 1) 0) ((i + 1 : Nat) : Int)) res) :
  ∀ (d j : Nat), j + d = (if i + 1 ≤ r + 1 then i + 1 else r + 1) → Ev (fun f => spec_l01Berkowitz.l6 f a (chL r (mat a) (r + 1)) (r : Int) (tuW a r (r + 2)) (madeW a r i j) (i : Int) (j : Int)) res := by
 have hl3 : (chL r (mat a) (r + 1)).length = r + 1 := rowOf_length _ _
 have hl5 : (tuW a r (r + 2)).length = r + 2 := rowOf_length _ _
 intro d
 induction d with
 | zero =>
  intro j hj
  rw [← madeW_next a r i hi] at h
  have e : j = (if i + 1 ≤ r + 1 then i + 1 else r + 1) := by omega
  rw [← e] at h
  refine Ev.succ ?_; simp only [spec_l01Berkowitz.l6]
  rw [wrap_succ (i := i) (by omega)]
  by_cases c : (j : Int) < ((r + 1 : Nat) : Int)
  ·have c2 : ¬ (j : Int) ≤ (i : Int) := by
    split at e <;> omega
   repeat (first | with_reducible exact Ev.now _ | dsimp only | refine Ev.pos (by first | omega | rfl | assumption | decide) ?_ | refine Ev.neg (by first | omega | assumption | exact Bool.false_ne_true | exact fun e => absurd e (by decide)) ?_ | simp only [bne_self_eq_false, Bool.not_true, Bool.not_false, List.length_cons, List.length_nil] | rw [wrap_id (by omega) (by omega)] | ((with_reducible refine Ev.eq (congrArg some ?_)); rfl))
   exact h
  ·repeat (first | with_reducible exact Ev.now _ | dsimp only | refine Ev.pos (by first | omega | rfl | assumption | decide) ?_ | refine Ev.neg (by first | omega | assumption | exact Bool.false_ne_true | exact fun e => absurd e (by decide)) ?_ | simp only [bne_self_eq_false, Bool.not_true, Bool.not_false, List.length_cons, List.length_nil] | rw [wrap_id (by omega) (by omega)] | ((with_reducible refine Ev.eq (congrArg some ?_)); rfl))
   exact h
 | succ d ih =>
  intro j hj
  have h1 := ih (j + 1) (by omega)
  have hj1 : j < r + 1 ∧ j ≤ i := by split at hj <;> omega
  have hl14 : (madeW a r i j).length = r + 2 := rowOf_length _ _
  have e1 : rd (tuW a r (r + 2)) (((i - j : Nat)) : Int) = wrap64 (tu r (mat a) (i - j)) := rowOf_rd _ (by omega)
  have e2 : rd (chL r (mat a) (r + 1)) (j : Int) = wrap64 (ch r (mat a) j) := rowOf_rd _ (by omega)
  rw [← madeW_set a r i j hi] at h1
  refine Ev.succ ?_; simp only [spec_l01Berkowitz.l6]
  rw [wrap_id (x := (i : Int) - j) (by omega) (by omega), show (i : Int) - j = ((i - j : Nat) : Int) by omega, e1, e2, wrap_succ (i := j) (by omega), Int.toNat_natCast]
  repeat (first | with_reducible exact Ev.now _ | dsimp only | refine Ev.pos (by first | omega | rfl | assumption | decide) ?_ | refine Ev.neg (by first | omega | assumption | exact Bool.false_ne_true | exact fun e => absurd e (by decide)) ?_ | simp only [bne_self_eq_false, Bool.not_true, Bool.not_false, List.length_cons, List.length_nil] | rw [wrap_id (by omega) (by omega)] | ((with_reducible refine Ev.eq (congrArg some ?_)); rfl))
  exact h1

omit ha hw in
theorem bkRows (r : Nat) (hr : r < n) (res : List Int) (h : Ev (fun f => spec_l01Berkowitz.l0 f a (chL (r + 1) (mat a) (r + 2)) ((r + 1 : Nat) : Int)) res) :
  ∀ (d i : Nat), i + d = r + 2 → Ev (fun f => spec_l01Berkowitz.l5 f a (chL r (mat a) (r + 1)) (r : Int) (tuW a r (r + 2)) (madeW a r i 0) (i : Int)) res := by
 intro d
 induction d with
 | zero =>
  intro i hi
  obtain rfl : i = r + 2 := by omega
  have e : madeW a r (r + 2) 0 = chL (r + 1) (mat a) (r + 2) := rowOf_congr (fun q hq => if_pos hq)
  have hl : (chL (r + 1) (mat a) (r + 2)).length = r + 2 := rowOf_length _ _
  rw [e]
  refine Ev.succ ?_; simp only [spec_l01Berkowitz.l5]
  rw [wrap_succ (i := r) (by omega)]
  repeat (first | with_reducible exact Ev.now _ | dsimp only | refine Ev.pos (by first | omega | rfl | assumption | decide) ?_ | refine Ev.neg (by first | omega | assumption | exact Bool.false_ne_true | exact fun e => absurd e (by decide)) ?_ | simp only [bne_self_eq_false, Bool.not_true, Bool.not_false, List.length_cons, List.length_nil] | rw [wrap_id (by omega) (by omega)] | ((with_reducible refine Ev.eq (congrArg some ?_)); rfl))
  exact h
 | succ d ih =>
  intro i hi
  have h1 := ih (i + 1) (by omega)
  have hl : (madeW a r i 0).length = r + 2 := rowOf_length _ _
  have h2 := bkMade n hn a r i hr (by omega) res h1 _ 0 (Nat.zero_add _)
  refine Ev.succ ?_; simp only [spec_l01Berkowitz.l5]
  repeat (first | with_reducible exact Ev.now _ | dsimp only | refine Ev.pos (by first | omega | rfl | assumption | decide) ?_ | refine Ev.neg (by first | omega | assumption | exact Bool.false_ne_true | exact fun e => absurd e (by decide)) ?_ | simp only [bne_self_eq_false, Bool.not_true, Bool.not_false, List.length_cons, List.length_nil] | rw [wrap_id (by omega) (by omega)] | ((with_reducible refine Ev.eq (congrArg some ?_)); rfl))
  exact h2

theorem bkAll : ∀ (d r : Nat), r + d = n → Ev (fun f => spec_l01Berkowitz.l0 f a (chL r (mat a) (r + 1)) (r : Int)) (trimN (chL n (mat a) (n + 1)) (n + 1)) := by
 have hal := ha.1
 intro d
 induction d with
 | zero =>
  intro r hr
  obtain rfl : r = n := by omega
  have hl : (chL r (mat a) (r + 1)).length = r + 1 := rowOf_length _ _
  have h1 := specTrim (chL r (mat a) (r + 1)) (by omega)
  rw [hl] at h1
  refine Ev.succ ?_; simp only [spec_l01Berkowitz.l0]
  repeat (first | with_reducible exact Ev.now _ | dsimp only | with_reducible refine Ev.bind (h1) ?_ | refine Ev.pos (by first | omega | rfl | assumption | decide) ?_ | refine Ev.neg (by first | omega | assumption | exact Bool.false_ne_true | exact fun e => absurd e (by decide)) ?_ | simp only [bne_self_eq_false, Bool.not_true, Bool.not_false, List.length_cons, List.length_nil] | rw [wrap_id (by omega) (by omega)] | with_reducible exact (h1) | ((with_reducible refine Ev.eq (congrArg some ?_)); rfl))
 | succ d ih =>
  intro r hr
  have h1 := ih (r + 1) (by omega)
  have hrow := ha.2 r (by omega)
  have h2 := bkRows n hn a r (by omega) _ h1 (r + 2) 0 (by omega)
  rw [madeW_zero] at h2
  have h3 := bkTurn n hn a ha r (by omega) _ _ h2 r 0 (by omega)
  have h4 := bkColumn n hn a ha hw r (by omega) _ _ _ h3 r 0 (by omega)
  have e1 : tuW a r (0 + 2) = [1, wrap64 (-(rd (rd_L1 a (r : Int)) (r : Int)))] := by
   show [wrap64 1, wrap64 (-(mat a r r))] = _
   rw [show wrap64 1 = 1 from wrap_id (by decide) (by decide)]
   rfl
  have e2 : colW a r 0 0 = [] := rfl
  rw [e1, e2] at h4
  refine Ev.succ ?_; simp only [spec_l01Berkowitz.l0]
  repeat (first | with_reducible exact Ev.now _ | dsimp only | refine Ev.pos (by first | omega | rfl | assumption | decide) ?_ | refine Ev.neg (by first | omega | assumption | exact Bool.false_ne_true | exact fun e => absurd e (by decide)) ?_ | simp only [bne_self_eq_false, Bool.not_true, Bool.not_false, List.length_cons, List.length_nil] | rw [wrap_id (by omega) (by omega)] | ((with_reducible refine Ev.eq (congrArg some ?_)); rfl))
  exact h4

theorem berkowitz : Ev (fun f => spec_l01Berkowitz.f f a) (trimN (chL n (mat a) (n + 1)) (n + 1)) := by
 have h := bkAll n hn a ha hw n 0 (by omega)
 have e : chL 0 (mat a) (0 + 1) = [1] := by
  show [wrap64 1] = [1]
  rw [wrap_id (by decide) (by decide)]
 unfold spec_l01Berkowitz.f
 rw [e] at h
 exact h

end
/-- What is multiplied by the rows, ahead of step k. -/
def pre (n : Nat) (a : Nat → Nat → Int) : Nat → Nat → Nat → Int
 | 0 => fun _ _ => 0
 | k + 1 => nc n a k

def wm (n : Nat) (x : Nat → Nat → Int) : List (List Int) := ofFn n (fun i j => wrap64 (x i j))

theorem wm_mat {n i j : Nat} (x : Nat → Nat → Int) (hi : i < n) (hj : j < n) : mat (wm n x) i j = wrap64 (x i j) := ofFn_mat _ hi hj

theorem part_wm (n : Nat) (a : List (List Int)) (x : Nat → Nat → Int) : ofFn n (part a (wm n x) n) = wm n (mul n (mat a) x) := by
 refine ofFn_congr (fun i j hi hj => ?_)
 unfold part
 exact wrap_Sm (fun k hk => by rw [wm_mat x hk hj, wrap_mul_right])

theorem zeros_wm (n : Nat) (a : Nat → Nat → Int) : zeros n = wm n (pre n a 0) := by
 unfold wm ofFn zeros
 apply List.ext_getElem
 ·simp
 ·intro i h1 h2
  simp only [List.getElem_replicate, List.getElem_map, List.getElem_range]
  rw [← rowOf_zero]
  exact rowOf_congr (fun j _ => (wrap_id (x := 0) (by decide) (by decide)).symm)

/-- The next ones: the product, and the last coefficient in the diagonal. -/
theorem nc_next (n : Nat) (a : Nat → Nat → Int) (k i j : Nat) (hi : i < n) (hj : j < n) : nc n a k i j = mul n a (pre n a k) i j + if i = j then ch n a k else 0 := by
 rw [nc_step n a k i j hi hj]
 congr 1
 match k with
 | 0 =>
  rw [if_pos rfl]
  unfold mul pre
  rw [Sm_congr (g := fun _ => 0) (fun q _ => Int.mul_zero _), Sm_zero]
 | k + 1 =>
  rw [if_neg (by omega), Nat.add_sub_cancel]
  exact (nc_comm n a k i j hi hj).symm

section
variable (n : Nat) (hn : n ≤ 1000) (a : List (List Int)) (ha : Sq n a)

/-- While the diagonal is told before s. -/
def diagW (k s : Nat) : List (List Int) := ofFn n (fun i j => wrap64 (mul n (mat a) (pre n (mat a) k) i j + if i = j ∧ i < s then ch n (mat a) k else 0))

theorem diagW_zero (k : Nat) : diagW n a k 0 = wm n (mul n (mat a) (pre n (mat a) k)) := by
 refine ofFn_congr (fun i j hi hj => ?_)
 rw [if_neg (by omega), Int.add_zero]

theorem diagW_end (k : Nat) : diagW n a k n = wm n (nc n (mat a) k) := by
 refine ofFn_congr (fun i j hi hj => ?_)
 rw [nc_next n (mat a) k i j hi hj]
 by_cases c : i = j
 ·rw [if_pos c, if_pos ⟨c, hi⟩]
 ·rw [if_neg c, if_neg (fun z => c z.1)]

theorem diagW_row (k s : Nat) (hs : s < n) : rd_L1 (diagW n a k s) (s : Int) = rowOf n (fun j => wrap64 (mul n (mat a) (pre n (mat a) k) s j)) := by
 unfold diagW
 rw [ofFn_row _ hs]
 refine rowOf_congr (fun j _ => ?_)
 rw [if_neg (by omega), Int.add_zero]

theorem diagW_set (k s : Nat) (hs : s < n) : (diagW n a k s).set s ((rd_L1 (diagW n a k s) (s : Int)).set s (wrap64 (rd (rd_L1 (diagW n a k s) (s : Int)) (s : Int) + wrap64 (ch n (mat a) k)))) = diagW n a k (s + 1) := by
 rw [diagW_row n a k s hs, rowOf_rd _ hs, rowOf_set _ _ hs]
 unfold diagW
 rw [ofFn_set _ _ hs]
 refine ofFn_congr (fun i j hi hj => ?_)
 by_cases e : i = s
 ·subst e
  rw [if_pos rfl]
  by_cases e2 : j = i
  ·rw [if_pos e2, wrap_add_wrap, if_pos ⟨e2.symm, by omega⟩, e2]
  ·rw [if_neg e2, if_neg (fun z => e2 z.1.symm), Int.add_zero]
 ·rw [if_neg e]
  by_cases c : i = j ∧ i < s
  ·rw [if_pos c, if_pos ⟨c.1, by omega⟩]
  ·rw [if_neg c, if_neg (fun z => c ⟨z.1, by omega⟩)]

include hn ha

theorem fdDiag (k : Nat) (hk : k < n) (res : List Int)
  (h : Ev (fun f => (impl_rowsTimes.f f a (wm n (nc n (mat a) k))).bind fun t => (impl_trace.f f t).bind fun t2 => if ((k + 1 : Nat) : Int) = 0 then none else if (chL n (mat a) (k + 1)).length < 17592186044416 then impl_determinant.l0 f a (chL n (mat a) (k + 1) ++ [wrap64 (Int.tdiv (wrap64 (-t2)) ((k + 1 : Nat) : Int))]) (wm n (nc n (mat a) k)) (wrap64 (((k + 1 : Nat) : Int) + 1)) else none) res) :
  ∀ (d s : Nat), s + d = n → Ev (fun f => impl_determinant.l1 f a (chL n (mat a) (k + 1)) (diagW n a k s) ((k + 1 : Nat) : Int) (n : Int) (s : Int)) res := by
 have hlc : (chL n (mat a) (k + 1)).length = k + 1 := rowOf_length _ _
 intro d
 induction d with
 | zero =>
  intro s hs
  obtain rfl : s = n := by omega
  rw [← diagW_end] at h
  refine Ev.succ ?_; simp only [impl_determinant.l1]
  exact Ev.neg (by omega) h
 | succ d ih =>
  intro s hs
  have h1 := ih (s + 1) (by omega)
  have hl : (diagW n a k s).length = n := ofFn_length _ _
  have hrow : (rd_L1 (diagW n a k s) (s : Int)).length = n := by rw [diagW_row n a k s (by omega), rowOf_length]
  have e2 : rd (chL n (mat a) (k + 1)) (k : Int) = wrap64 (ch n (mat a) k) := rowOf_rd _ (by omega)
  rw [← diagW_set n a k s (by omega)] at h1
  refine Ev.succ ?_; simp only [impl_determinant.l1]
  rw [wrap_id (x := ((k + 1 : Nat) : Int) - 1) (by omega) (by omega), show ((k + 1 : Nat) : Int) - 1 = (k : Int) by omega, e2, wrap_succ (i := s) (by omega), Int.toNat_natCast]
  repeat (first | with_reducible exact Ev.now _ | dsimp only | refine Ev.pos (by first | omega | rfl | assumption | decide) ?_ | refine Ev.neg (by first | omega | assumption | exact Bool.false_ne_true | exact fun e => absurd e (by decide)) ?_ | simp only [bne_self_eq_false, Bool.not_true, Bool.not_false, List.length_cons, List.length_nil] | rw [wrap_id (by omega) (by omega)] | ((with_reducible refine Ev.eq (congrArg some ?_)); rfl))
  exact h1

theorem fdAll (hb : ∀ k, 1 ≤ k → k ≤ n → ab ((k : Int) * ch n (mat a) k) ≤ 9223372036854775807) : ∀ (d k : Nat), k + d = n → Ev (fun f => impl_determinant.l0 f a (chL n (mat a) (k + 1)) (wm n (pre n (mat a) k)) ((k + 1 : Nat) : Int)) (trimN (chL n (mat a) (n + 1)) (n + 1)) := by
 have hal := ha.1
 intro d
 induction d with
 | zero =>
  intro k hk
  obtain rfl : k = n := by omega
  have hl : (chL k (mat a) (k + 1)).length = k + 1 := rowOf_length _ _
  have h1 := implTrim (chL k (mat a) (k + 1)) (by omega)
  rw [hl] at h1
  refine Ev.succ ?_; simp only [impl_determinant.l0]
  repeat (first | with_reducible exact Ev.now _ | dsimp only | with_reducible refine Ev.bind (h1) ?_ | refine Ev.pos (by first | omega | rfl | assumption | decide) ?_ | refine Ev.neg (by first | omega | assumption | exact Bool.false_ne_true | exact fun e => absurd e (by decide)) ?_ | simp only [bne_self_eq_false, Bool.not_true, Bool.not_false, List.length_cons, List.length_nil] | rw [wrap_id (by omega) (by omega)] | with_reducible exact (h1) | ((with_reducible refine Ev.eq (congrArg some ?_)); rfl))
 | succ d ih =>
  intro k hk
  have h1 := ih (k + 1) (by omega)
  have hlc : (chL n (mat a) (k + 1)).length = k + 1 := rowOf_length _ _
  have hp := rowsTimes n hn a (wm n (pre n (mat a) k)) ha (Sq_ofFn n _)
  rw [part_wm, ← diagW_zero] at hp
  have hp2 := rowsTimes n hn a (wm n (nc n (mat a) k)) ha (Sq_ofFn n _)
  rw [part_wm] at hp2
  have ht := trace n hn (wm n (mul n (mat a) (nc n (mat a) k))) (Sq_ofFn n _)
  have et : wrap64 (-wrap64 (tr n (mat (wm n (mul n (mat a) (nc n (mat a) k)))))) = ((k + 1 : Nat) : Int) * ch n (mat a) (k + 1) := by
   have e1 : wrap64 (tr n (mat (wm n (mul n (mat a) (nc n (mat a) k))))) = wrap64 (tn n (mat a) k) := by
    unfold tr
    rw [wrap_Sm (g := fun i => mul n (mat a) (nc n (mat a) k) i i) (fun i hi => by rw [wm_mat _ hi hi, wrap_wrap])]
    unfold tn
    rw [Sm_congr (fun i hi => nc_comm n (mat a) k i i hi hi)]
    rfl
   have hnw := newton n (mat a) k (by omega)
   have hb1 := hb (k + 1) (by omega) (by omega)
   rw [e1, wrap_neg, ← hnw]
   unfold ab at hb1
   exact wrap_id (by omega) (by omega)
  have eq : wrap64 (Int.tdiv (((k + 1 : Nat) : Int) * ch n (mat a) (k + 1)) ((k + 1 : Nat) : Int)) = wrap64 (ch n (mat a) (k + 1)) := by
   rw [Int.mul_tdiv_cancel_left _ (by omega)]
  have hl2 : (diagW n a k 0).length = n := ofFn_length _ _
  have h2 := fdDiag n hn a ha k (by omega) (trimN (chL n (mat a) (n + 1)) (n + 1)) (by
   refine Ev.bind hp2 (Ev.bind ht ?_)
   rw [et, eq, wrap_succ (i := k + 1) (by omega)]
   have e3 : chL n (mat a) (k + 1) ++ [wrap64 (ch n (mat a) (k + 1))] = chL n (mat a) (k + 1 + 1) := rowOf_snoc (k + 1) (fun m => wrap64 (ch n (mat a) m))
   rw [e3]
   repeat (first | with_reducible exact Ev.now _ | dsimp only | refine Ev.pos (by first | omega | rfl | assumption | decide) ?_ | refine Ev.neg (by first | omega | assumption | exact Bool.false_ne_true | exact fun e => absurd e (by decide)) ?_ | simp only [bne_self_eq_false, Bool.not_true, Bool.not_false, List.length_cons, List.length_nil] | rw [wrap_id (by omega) (by omega)] | ((with_reducible refine Ev.eq (congrArg some ?_)); rfl))
   exact h1) n 0 (by omega)
  refine Ev.succ ?_; simp only [impl_determinant.l0]
  refine Ev.pos (by omega) (Ev.bind hp ?_)
  rw [hl2]
  exact h2

theorem faddeev (hb : ∀ k, 1 ≤ k → k ≤ n → ab ((k : Int) * ch n (mat a) k) ≤ 9223372036854775807) : Ev (fun f => impl_determinant.f f a) (trimN (chL n (mat a) (n + 1)) (n + 1)) := by
 have h := fdAll n hn a ha hb n 0 (by omega)
 have e : chL n (mat a) (0 + 1) = [1] := by
  show [wrap64 (ch n (mat a) 0)] = [1]
  rw [show ch n (mat a) 0 = 1 from (dc_zero n idm (ng (mat a))).trans (det_idm n), wrap_id (by decide) (by decide)]
 unfold impl_determinant.f
 rw [ha.1]
 refine Ev.bind (implSquare (n : Int) (by omega) (by omega)) ?_
 rw [Int.toNat_natCast, zeros_wm n (mat a)]
 rw [e] at h
 exact h

end
/-- Each column f before k that has another one, p f, to lean on: less t f times that one. -/
def lean1 (p : Nat → Nat) (t : Nat → Int) (m : Nat → Nat → Int) (k : Nat) (i f : Nat) : Int := if f < k ∧ p f ≠ f then m i f - t f * m i (p f) else m i f

theorem det_lean (n : Nat) (p : Nat → Nat) (t : Nat → Int) (m : Nat → Nat → Int) (hp : ∀ f, f < n → p f < n) (hpp : ∀ f, f < n → p (p f) = p f) : ∀ k, k ≤ n → det n (lean1 p t m k) = det n m := by
 intro k
 induction k with
 | zero =>
  intro _
  refine det_congr n _ _ (fun i f _ _ => ?_)
  unfold lean1
  rw [if_neg (by omega)]
 | succ k ih =>
  intro hk
  have h0 := ih (by omega)
  by_cases e : p k = k
  ·rw [← h0]
   refine det_congr n _ _ (fun i f _ _ => ?_)
   unfold lean1
   by_cases c : f < k ∧ p f ≠ f
   ·rw [if_pos c, if_pos ⟨by omega, c.2⟩]
   ·rw [if_neg c, if_neg (fun z => ?_)]
    by_cases e2 : f = k
    ·exact z.2 (e2 ▸ e)
    ·exact c ⟨by omega, z.2⟩
  ·have h1 := det_lin n (lean1 p t m k) k 1 (-t k) (fun i => lean1 p t m k i k) (fun i => lean1 p t m k i (p k)) (by omega)
   rw [setc_self, h0] at h1
   have h2 : det n (setc (lean1 p t m k) k (fun i => lean1 p t m k i (p k))) = 0 := by
    refine det_same (p := k) (q := p k) (by omega) (hp k (by omega)) (fun z => e z.symm) (fun i => ?_)
    unfold setc
    rw [if_pos rfl, if_neg e]
   rw [h2, Int.mul_zero, Int.add_zero, Int.one_mul] at h1
   rw [← h1]
   refine det_congr n _ _ (fun i f _ _ => ?_)
   unfold setc
   by_cases e2 : f = k
   ·rw [if_pos e2, e2]
    have a1 : lean1 p t m (k + 1) i k = m i k - t k * m i (p k) := if_pos ⟨by omega, e⟩
    have a2 : lean1 p t m k i k = m i k := if_neg (by omega)
    have a3 : lean1 p t m k i (p k) = m i (p k) := if_neg (fun z => z.2 (hpp k (by omega)))
    show lean1 p t m (k + 1) i k = 1 * lean1 p t m k i k + -t k * lean1 p t m k i (p k)
    rw [a1, a2, a3, Int.neg_mul]
    omega
   ·rw [if_neg e2]
    unfold lean1
    by_cases c : f < k ∧ p f ≠ f
    ·rw [if_pos c, if_pos ⟨by omega, c.2⟩]
    ·rw [if_neg c, if_neg (fun z => c ⟨by omega, z.2⟩)]

theorem Sm_ge_one {n : Nat} {f : Nat → Int} (h : ∀ i, i < n → 0 ≤ f i) {i : Nat} (hi : i < n) : f i ≤ Sm n f := by
 induction n with
 | zero => omega
 | succ n ih =>
  have h1 : 0 ≤ Sm n f := Sm_nonneg (fun i hi => h i (by omega))
  have h2 := h n (by omega)
  unfold Sm
  by_cases e : i = n
  ·rw [e]; omega
  ·have := ih (fun i hi => h i (by omega)) (by omega)
   omega

/-- The same function of u has the same coefficients. -/
theorem ch_of (n : Nat) (x a b : Nat → Nat → Int) (h : ∀ u : Int, det n (xu x u) = det n (fun i k => a i k + u * b i k)) (m : Nat) : ch n x m = dc n a b m := by
 by_cases hm : n + 1 ≤ m
 ·rw [show ch n x m = 0 from dc_high n _ _ hm, dc_high n _ _ hm]
 have := coef_zero (n + 1) (fun m => ch n x m - dc n a b m) (fun u _ => by
  have h1 := h u
  have h2 := (det_coef n a b).2.1 u
  simp only at h2
  rw [det_xu, h2] at h1
  rw [Sm_congr (g := fun m => ch n x m * u ^ m + (-1) * (dc n a b m * u ^ m)) (fun m _ => by grind), Sm_add, Sm_mul_left]
  omega) m (by omega)
 omega

theorem ch_bound (n : Nat) (x a b : Nat → Nat → Int) (h : ∀ u : Int, det n (xu x u) = det n (fun i k => a i k + u * b i k)) (m : Nat) : ab (ch n x m) ≤ Pr n (cs n a b) := by
 rw [ch_of n x a b h m]
 by_cases hm : n + 1 ≤ m
 ·rw [dc_high n _ _ hm]
  exact Pr_nonneg (fun i _ => cs_nonneg n a b i)
 ·exact Int.le_trans (Sm_ge_one (f := fun i => ab (dc n a b i)) (fun i _ => ab_nonneg _) (by omega)) (det_coef n a b).2.2

/-- The columns behind the steps, of 1 - u x. -/
theorem ch_lean (n : Nat) (p : Nat → Nat) (t : Nat → Int) (x : Nat → Nat → Int) (hp : ∀ f, f < n → p f < n) (hpp : ∀ f, f < n → p (p f) = p f) (m : Nat) : ab (ch n x m) ≤ Pr n (cs n (lean1 p t idm n) (lean1 p t (ng x) n)) := by
 refine ch_bound n x _ _ (fun u => ?_) m
 rw [← det_lean n p t (xu x u) hp hpp n (Nat.le_refl _)]
 refine det_congr n _ _ (fun i f _ hf => ?_)
 unfold lean1 xu
 by_cases c : f < n ∧ p f ≠ f
 ·rw [if_pos c, if_pos c, if_pos c]
  grind
 ·rw [if_neg c, if_neg c, if_neg c]

/-- A product of factors, 20 at at most eight places, else 4. -/
theorem Pr_two (n : Nat) (q : Nat → Bool) : Pr n (fun i => if q i then 20 else 4) = 4 ^ n * 5 ^ (Sm n (fun i => if q i then 1 else 0)).toNat ∧ 0 ≤ Sm n (fun i => if q i then 1 else 0) := by
 induction n with
 | zero => exact ⟨rfl, Int.le_refl _⟩
 | succ n ih =>
  obtain ⟨h1, h2⟩ := ih
  unfold Pr Sm
  rw [h1]
  simp only
  by_cases c : q n = true
  ·rw [if_pos c, if_pos c]
   refine ⟨?_, by omega⟩
   rw [show (Sm n (fun i => if q i then 1 else 0) + 1).toNat = (Sm n (fun i => if q i then 1 else 0)).toNat + 1 by omega, Int.pow_succ, Int.pow_succ]
   generalize (4 : Int) ^ n = x
   generalize (5 : Int) ^ _ = y
   grind
  ·rw [if_neg c, if_neg c, Int.add_zero]
   refine ⟨?_, h2⟩
   rw [Int.pow_succ]
   generalize (4 : Int) ^ n = x
   generalize (5 : Int) ^ _ = y
   grind
theorem Sm_cut {d e : Nat} (f : Nat → Int) (hde : d ≤ e) (h : ∀ i, i < e → d ≤ i → f i = 0) : Sm e f = Sm d f := by
 induction e with
 | zero => rw [show d = 0 by omega]
 | succ e ih =>
  by_cases c : d = e + 1
  ·rw [c]
  ·show Sm e f + f e = _
   rw [ih (by omega) (fun i hi hd => h i (by omega) hd), h e (by omega) (by omega), Int.add_zero]

theorem Sm_split (a b : Nat) (f : Nat → Int) : Sm (a + b) f = Sm a f + Sm b (fun i => f (a + i)) := by
 induction b with
 | zero => show Sm a f = Sm a f + 0; omega
 | succ b ih =>
  show Sm (a + b) f + f (a + b) = Sm a f + (Sm b (fun i => f (a + i)) + f (a + b))
  rw [ih]; omega

/-- More columns than rows that are not zero. -/
theorem det_thin : ∀ (N : Nat) (m : Nat → Nat → Int) (r s : Nat), r < s → s ≤ N → (∀ i k, i < N → k < s → r ≤ i → m i k = 0) → det N m = 0 := by
 intro N
 induction N with
 | zero => intro m r s h1 h2 _; omega
 | succ N ih =>
  intro m r s h1 h2 h
  by_cases hr : r = 0
  ·subst hr
   have e : det (N + 1) m = det (N + 1) (setc m 0 (fun _ => 0)) := by
    refine det_congr _ _ _ (fun i k hi hk => ?_)
    unfold setc
    by_cases c : k = 0
    ·rw [if_pos c]; exact h i k hi (by omega) (by omega)
    ·rw [if_neg c]
   rw [e, det_zero_col _ _ _ (by omega)]
  ·show Sm (N + 1) (fun j => sg j * m 0 j * det N (minor m j)) = 0
   rw [Sm_congr (g := fun _ => 0) (fun j hj => ?_), Sm_zero]
   by_cases c : j < s
   ·by_cases hs : s = N + 1
    ·rw [ih (minor m j) (r - 1) (s - 1) (by omega) (by omega) (fun i k hi hk hr' => ?_), Int.mul_zero]
     unfold minor
     split
     ·exact h _ _ (by omega) (by omega) (by omega)
     ·exact h _ _ (by omega) (by omega) (by omega)
    ·rw [ih (minor m j) (r - 1) (s - 1) (by omega) (by omega) (fun i k hi hk hr' => ?_), Int.mul_zero]
     unfold minor
     split
     ·exact h _ _ (by omega) (by omega) (by omega)
     ·exact h _ _ (by omega) (by omega) (by omega)
   ·rw [ih (minor m j) (r - 1) s (by omega) (by omega) (fun i k hi hk hr' => ?_), Int.mul_zero]
    unfold minor
    rw [if_pos (by omega)]
    exact h _ _ (by omega) (by omega) (by omega)

/-- Zero to the right above. -/
theorem det_block_right : ∀ (p q : Nat) (m : Nat → Nat → Int), (∀ i k, i < p → p ≤ k → k < p + q → m i k = 0) → det (p + q) m = det p m * det q (fun i k => m (p + i) (p + k)) := by
 intro p
 induction p with
 | zero =>
  intro q m _
  show _ = 1 * _
  rw [Int.one_mul, Nat.zero_add]
  exact det_congr _ _ _ (fun i k _ _ => by rw [Nat.zero_add, Nat.zero_add])
 | succ p ih =>
  intro q m h
  rw [show p + 1 + q = p + q + 1 by omega]
  show Sm (p + q + 1) (fun j => sg j * m 0 j * det (p + q) (minor m j)) = Sm (p + 1) (fun j => sg j * m 0 j * det p (minor m j)) * _
  rw [Sm_cut (d := p + 1) _ (by omega) (fun i hi hd => by rw [h 0 i (by omega) hd (by omega), Int.mul_zero, Int.zero_mul]), ← Sm_mul_right]
  refine Sm_congr (fun j hj => ?_)
  rw [ih q (minor m j) (fun i k hi hk hk2 => ?_), ← Int.mul_assoc]
  ·congr 1
   refine det_congr _ _ _ (fun i k _ _ => ?_)
   unfold minor
   rw [if_neg (by omega), show p + i + 1 = p + 1 + i by omega, show p + k + 1 = p + 1 + k by omega]
  ·unfold minor
   rw [if_neg (by omega)]
   exact h _ _ (by omega) (by omega) (by omega)

/-- Zero to the left below. -/
theorem det_block_left : ∀ (p q : Nat) (m : Nat → Nat → Int), (∀ i k, p ≤ i → i < p + q → k < p → m i k = 0) → det (p + q) m = det p m * det q (fun i k => m (p + i) (p + k)) := by
 intro p
 induction p with
 | zero =>
  intro q m _
  show _ = 1 * _
  rw [Int.one_mul, Nat.zero_add]
  exact det_congr _ _ _ (fun i k _ _ => by rw [Nat.zero_add, Nat.zero_add])
 | succ p ih =>
  intro q m h
  rw [show p + 1 + q = p + q + 1 by omega]
  show Sm (p + q + 1) (fun j => sg j * m 0 j * det (p + q) (minor m j)) = Sm (p + 1) (fun j => sg j * m 0 j * det p (minor m j)) * _
  rw [Sm_cut (d := p + 1) _ (by omega) (fun j hj hd => ?_), ← Sm_mul_right]
  ·refine Sm_congr (fun j hj => ?_)
   rw [ih q (minor m j) (fun i k hi hi2 hk => ?_), ← Int.mul_assoc]
   ·congr 1
    refine det_congr _ _ _ (fun i k _ _ => ?_)
    unfold minor
    rw [if_neg (by omega), show p + i + 1 = p + 1 + i by omega, show p + k + 1 = p + 1 + k by omega]
   ·unfold minor
    split
    ·exact h _ _ (by omega) (by omega) (by omega)
    ·exact h _ _ (by omega) (by omega) (by omega)
  ·rw [det_thin (p + q) (minor m j) p (p + 1) (by omega) (by omega) (fun i k hi hk hr => ?_), Int.mul_zero]
   unfold minor
   rw [if_pos (by omega)]
   exact h _ _ (by omega) (by omega) (by omega)

/-- Each column before k that is marked: s times itself and some of the columns that are not marked. -/
def colw (N : Nat) (p : Nat → Bool) (s : Int) (t : Nat → Nat → Int) (m : Nat → Nat → Int) (k : Nat) (i c : Nat) : Int :=
 if c < k ∧ p c = true then s * m i c + Sm N (fun d => (if p d then 0 else t c d) * m i d) else m i c

def marked (p : Nat → Bool) : Nat → Nat
 | 0 => 0
 | k + 1 => marked p k + if p k then 1 else 0

theorem det_colw (N : Nat) (p : Nat → Bool) (s : Int) (t : Nat → Nat → Int) (m : Nat → Nat → Int) : ∀ k, k ≤ N → det N (colw N p s t m k) = s ^ marked p k * det N m := by
 intro k
 induction k with
 | zero =>
  intro _
  show _ = s ^ 0 * _
  rw [Int.pow_zero, Int.one_mul]
  refine det_congr N _ _ (fun i f _ _ => ?_)
  unfold colw
  rw [if_neg (by omega)]
 | succ k ih =>
  intro hk
  have h0 := ih (by omega)
  by_cases e : p k = true
  ·have hs := det_sum N (colw N p s t m k) k (by omega) (fun d => if p d then 0 else t k d) (fun d i => colw N p s t m k i d) N
   have hz : Sm N (fun d => (if p d then 0 else t k d) * det N (setc (colw N p s t m k) k (fun i => colw N p s t m k i d))) = 0 := by
    rw [Sm_congr (g := fun _ => 0) (fun d hd => ?_), Sm_zero]
    by_cases c : p d = true
    ·rw [if_pos c, Int.zero_mul]
    ·have hdk : d ≠ k := fun z => c (z ▸ e)
     rw [det_same (p := k) (q := d) (by omega) hd (fun z => hdk z.symm) (fun i => ?_), Int.mul_zero]
     unfold setc
     rw [if_pos rfl, if_neg hdk]
   rw [hz] at hs
   have h1 := det_lin N (colw N p s t m k) k s 1 (fun i => colw N p s t m k i k) (fun r => Sm N (fun d => (if p d then 0 else t k d) * colw N p s t m k r d)) (by omega)
   rw [setc_self, hs, h0, Int.mul_zero, Int.add_zero] at h1
   rw [show marked p (k + 1) = marked p k + 1 from by show _ + (if p k then 1 else 0) = _; rw [if_pos e], Int.pow_succ, Int.mul_comm (s ^ marked p k) s, Int.mul_assoc, ← h1]
   refine det_congr N _ _ (fun i f _ hf => ?_)
   unfold setc
   by_cases e2 : f = k
   ·rw [if_pos e2, e2]
    have a1 : colw N p s t m (k + 1) i k = s * m i k + Sm N (fun d => (if p d then 0 else t k d) * m i d) := if_pos ⟨by omega, e⟩
    have a2 : colw N p s t m k i k = m i k := if_neg (by omega)
    show colw N p s t m (k + 1) i k = s * colw N p s t m k i k + 1 * Sm N (fun d => (if p d then 0 else t k d) * colw N p s t m k i d)
    rw [a1, a2, Int.one_mul]
    congr 1
    refine Sm_congr (fun d hd => ?_)
    by_cases c : p d = true
    ·rw [if_pos c, Int.zero_mul, Int.zero_mul]
    ·rw [show colw N p s t m k i d = m i d from if_neg (fun z => c z.2)]
   ·rw [if_neg e2]
    unfold colw
    by_cases c : f < k ∧ p f = true
    ·rw [if_pos c, if_pos ⟨by omega, c.2⟩]
    ·rw [if_neg c, if_neg (fun z => c ⟨by omega, z.2⟩)]
  ·rw [show marked p (k + 1) = marked p k from by show _ + (if p k then 1 else 0) = _; rw [if_neg e]; rfl, ← h0]
   refine det_congr N _ _ (fun i f _ _ => ?_)
   unfold colw
   by_cases c : f < k ∧ p f = true
   ·rw [if_pos c, if_pos ⟨by omega, c.2⟩]
   ·rw [if_neg c, if_neg (fun z => ?_)]
    by_cases e2 : f = k
    ·exact e (e2 ▸ z.2)
    ·exact c ⟨by omega, z.2⟩

theorem marked_ge (n : Nat) : ∀ k, marked (fun c => decide (n ≤ c)) k = k - n := by
 intro k
 induction k with
 | zero => simp [marked]
 | succ k ih =>
  show marked _ k + (if decide (n ≤ k) = true then 1 else 0) = _
  rw [ih]
  by_cases c : n ≤ k
  ·rw [if_pos (decide_eq_true c)]; omega
  ·rw [if_neg (show ¬ decide (n ≤ k) = true by simp; omega)]; omega

/-- x times the unit. -/
def xid (x : Int) (i k : Nat) : Int := if i = k then x else 0

theorem det_xid (x : Int) : ∀ n, det n (xid x) = x ^ n := by
 intro n
 induction n with
 | zero => exact (Int.pow_zero x).symm
 | succ n ih =>
  have h := det_block_right n 1 (xid x) (fun i k hi hk _ => by unfold xid; rw [if_neg (by omega)])
  rw [h, ih, Int.pow_succ]
  congr 1
  show 0 + 1 * (if n + 0 = n + 0 then x else 0) * 1 = x
  rw [if_pos rfl]
  omega

/-- x 1 beside X above, E beside 1 below. -/
def bl (n : Nat) (x : Int) (X E : Nat → Nat → Int) (i k : Nat) : Int :=
 if i < n then (if k < n then xid x i k else X i (k - n)) else (if k < n then E (i - n) k else xid 1 (i - n) (k - n))

theorem Sm_pick_mul (N : Nat) (f : Nat → Int) (x : Int) {p : Nat} (hp : p < N) : Sm N (fun d => f d * xid x d p) = f p * x := by
 rw [Sm_congr (g := fun d => (if d = p then 1 else 0) * (f d * x)) (fun d _ => ?_)]
 ·exact Sm_pick' N (fun d => f d * x) hp
 ·unfold xid
  by_cases c : d = p
  ·rw [if_pos c, if_pos c, Int.one_mul]
  ·rw [if_neg c, if_neg c, Int.zero_mul, Int.mul_zero]

theorem Sm_pick_mul' (N : Nat) (f : Nat → Int) (x : Int) {p : Nat} (hp : p < N) : Sm N (fun d => f d * xid x p d) = f p * x := by
 rw [← Sm_pick_mul N f x hp]
 exact Sm_congr (fun d _ => by
  unfold xid
  by_cases c : p = d
  ·rw [if_pos c, if_pos c.symm]
  ·rw [if_neg c, if_neg (fun z => c z.symm)])

/-- The left columns less those to the right: below all is zero. -/
theorem bl_left (n q : Nat) (x : Int) (X E : Nat → Nat → Int) : det (n + q) (bl n x X E) = det n (fun i k => xid x i k - Sm q (fun e => X i e * E e k)) := by
 have h := det_colw (n + q) (fun c => decide (c < n)) 1 (fun c d => -(E (d - n) c)) (bl n x X E) (n + q) (Nat.le_refl _)
 rw [Int.one_pow, Int.one_mul] at h
 rw [← h]
 have cell : ∀ i k, k < n → colw (n + q) (fun c => decide (c < n)) 1 (fun c d => -(E (d - n) c)) (bl n x X E) (n + q) i k = bl n x X E i k - Sm q (fun e => bl n x X E i (n + e) * E e k) := by
  intro i k hk
  unfold colw
  rw [if_pos ⟨by omega, decide_eq_true hk⟩, Int.one_mul, Sm_split]
  rw [Sm_congr (n := n) (g := fun _ => 0) (fun d hd => by rw [if_pos (decide_eq_true hd), Int.zero_mul]), Sm_zero, Int.zero_add]
  rw [Sm_congr (n := q) (g := fun e => (-1) * (bl n x X E i (n + e) * E e k)) (fun e _ => by
   rw [if_neg (show ¬ decide (n + e < n) = true by simp)]
   show -(E (n + e - n) k) * _ = _
   rw [Nat.add_sub_cancel_left]
   grind), Sm_mul_left]
  omega
 rw [det_block_left n q _ (fun i k hi hi2 hk => ?_)]
 ·have e1 : det q (fun i k => colw (n + q) (fun c => decide (c < n)) 1 (fun c d => -(E (d - n) c)) (bl n x X E) (n + q) (n + i) (n + k)) = 1 := by
   rw [← Int.one_pow (n := q), ← det_xid 1 q]
   refine det_congr q _ _ (fun i k _ _ => ?_)
   unfold colw
   rw [if_neg (fun z => by have := of_decide_eq_true z.2; omega)]
   unfold bl
   rw [if_neg (by omega), if_neg (by omega), Nat.add_sub_cancel_left, Nat.add_sub_cancel_left]
  rw [e1, Int.mul_one]
  refine det_congr n _ _ (fun i k hi hk => ?_)
  rw [cell i k hk]
  congr 1
  ·unfold bl; rw [if_pos hi, if_pos hk]
  ·refine Sm_congr (fun e _ => ?_)
   unfold bl
   rw [if_pos hi, if_neg (by omega), Nat.add_sub_cancel_left]
 ·rw [cell i k hk]
  have e2 : Sm q (fun e => bl n x X E i (n + e) * E e k) = E (i - n) k * 1 := by
   rw [← Sm_pick_mul' q (fun e => E e k) 1 (p := i - n) (by omega)]
   refine Sm_congr (fun e _ => ?_)
   unfold bl
   rw [if_neg (by omega), if_neg (by omega), Nat.add_sub_cancel_left, Int.mul_comm]
  rw [e2]
  unfold bl
  rw [if_neg (by omega), if_pos hk]
  omega

/-- x times the right columns less those to the left: above all is zero. -/
theorem bl_right (n q : Nat) (x : Int) (X E : Nat → Nat → Int) : x ^ q * det (n + q) (bl n x X E) = x ^ n * det q (fun i k => xid x i k - Sm n (fun v => E i v * X v k)) := by
 have h := det_colw (n + q) (fun c => decide (n ≤ c)) x (fun c d => -(X d (c - n))) (bl n x X E) (n + q) (Nat.le_refl _)
 rw [marked_ge, Nat.add_sub_cancel_left] at h
 rw [← h]
 have cell : ∀ i k, k < q → colw (n + q) (fun c => decide (n ≤ c)) x (fun c d => -(X d (c - n))) (bl n x X E) (n + q) i (n + k) = x * bl n x X E i (n + k) - Sm n (fun v => bl n x X E i v * X v k) := by
  intro i k hk
  unfold colw
  rw [if_pos ⟨by omega, decide_eq_true (by omega)⟩, Sm_split]
  rw [Sm_congr (n := q) (g := fun _ => 0) (fun d hd => by rw [if_pos (decide_eq_true (by omega)), Int.zero_mul]), Sm_zero, Int.add_zero]
  rw [Sm_congr (n := n) (g := fun v => (-1) * (bl n x X E i v * X v k)) (fun v hv => by
   rw [if_neg (show ¬ decide (n ≤ v) = true by simp; omega)]
   show -(X v (n + k - n)) * _ = _
   rw [Nat.add_sub_cancel_left]
   grind), Sm_mul_left]
  omega
 rw [det_block_right n q _ (fun i k hi hk hk2 => ?_)]
 ·have e1 : det n (colw (n + q) (fun c => decide (n ≤ c)) x (fun c d => -(X d (c - n))) (bl n x X E) (n + q)) = x ^ n := by
   rw [← det_xid x n]
   refine det_congr n _ _ (fun i k hi hk => ?_)
   unfold colw
   rw [if_neg (fun z => by have := of_decide_eq_true z.2; omega)]
   unfold bl
   rw [if_pos hi, if_pos hk]
  rw [e1]
  congr 1
  refine det_congr q _ _ (fun i k hi hk => ?_)
  rw [cell (n + i) k hk]
  congr 1
  ·unfold bl xid
   rw [if_neg (by omega), if_neg (by omega), Nat.add_sub_cancel_left, Nat.add_sub_cancel_left]
   split
   ·omega
   ·omega
  ·refine Sm_congr (fun v hv => ?_)
   unfold bl
   rw [if_neg (by omega), if_pos hv, Nat.add_sub_cancel_left]
 ·obtain ⟨k', rfl⟩ : ∃ k', k = n + k' := ⟨k - n, by omega⟩
  rw [cell i k' (by omega)]
  have e2 : Sm n (fun v => bl n x X E i v * X v k') = X i k' * x := by
   rw [← Sm_pick_mul' n (fun v => X v k') x (p := i) hi]
   refine Sm_congr (fun v hv => ?_)
   unfold bl
   rw [if_pos hi, if_pos hv, Int.mul_comm]
  rw [e2]
  unfold bl
  rw [if_pos hi, if_neg (by omega), Nat.add_sub_cancel_left]
  grind

/-- The two orders of a product. -/
theorem det_two_orders (n q : Nat) (x : Int) (X E : Nat → Nat → Int) : x ^ q * det n (fun i k => xid x i k - Sm q (fun e => X i e * E e k)) = x ^ n * det q (fun i k => xid x i k - Sm n (fun v => E i v * X v k)) := by
 rw [← bl_left, bl_right]
def flip (e : Nat) : Nat := if e % 2 = 0 then e + 1 else e - 1

theorem flip_flip (e : Nat) : flip (flip e) = e := by
 unfold flip
 split <;> split <;> omega

theorem flip_lt {e m : Nat} (h : e < 2 * m) : flip e < 2 * m := by
 unfold flip
 split <;> omega

theorem flip_ne (e : Nat) : flip e ≠ e := by
 unfold flip
 split <;> omega

/-- Of each pair before k: each column less u times the other one. -/
def flips (u : Int) (m : Nat → Nat → Int) (k i c : Nat) : Int := if c / 2 < k then m i c - u * m i (flip c) else m i c

theorem det_pair (N c : Nat) (m : Nat → Nat → Int) (hc : c + 1 < N) (u : Int) (x y : Nat → Int) : det N (setc (setc m c (fun i => 1 * x i + -u * y i)) (c + 1) (fun i => 1 * y i + -u * x i)) = (1 - u * u) * det N (setc (setc m c x) (c + 1) y) := by
 have two : ∀ x, det N (setc (setc m c x) (c + 1) x) = 0 := fun x => det_adjacent N _ c hc (fun i => by
  unfold setc
  rw [if_neg (by omega), if_pos rfl, if_pos rfl])
 have left : ∀ z, det N (setc (setc m c (fun i => 1 * x i + -u * y i)) (c + 1) z) = 1 * det N (setc (setc m c x) (c + 1) z) + -u * det N (setc (setc m c y) (c + 1) z) := fun z => by
  rw [setc_comm m (show c ≠ c + 1 by omega), det_lin N _ c 1 (-u) x y (by omega), setc_comm m (show c + 1 ≠ c by omega), setc_comm m (show c + 1 ≠ c by omega)]
 rw [det_lin N _ (c + 1) 1 (-u) y x hc, left, left, two, two, det_swap N m c hc y x]
 generalize det N (setc (setc m c x) (c + 1) y) = d
 grind

theorem det_flips (m : Nat) (u : Int) (x : Nat → Nat → Int) : ∀ k, k ≤ m → det (2 * m) (flips u x k) = (1 - u * u) ^ k * det (2 * m) x := by
 intro k
 induction k with
 | zero =>
  intro _
  rw [Int.pow_zero, Int.one_mul]
  refine det_congr _ _ _ (fun i c _ _ => ?_)
  unfold flips
  rw [if_neg (by omega)]
 | succ k ih =>
  intro hk
  have h := det_pair (2 * m) (2 * k) (flips u x k) (by omega) u (fun i => flips u x k i (2 * k)) (fun i => flips u x k i (2 * k + 1))
  have e1 : setc (setc (flips u x k) (2 * k) (fun i => flips u x k i (2 * k))) (2 * k + 1) (fun i => flips u x k i (2 * k + 1)) = flips u x k := by rw [setc_self, setc_self]
  rw [e1, ih (by omega)] at h
  rw [Int.pow_succ, Int.mul_comm ((1 - u * u) ^ k), Int.mul_assoc, ← h]
  refine det_congr _ _ _ (fun i c _ _ => ?_)
  have f1 : flip (2 * k + 1) = 2 * k := by unfold flip; split <;> omega
  have f2 : flip (2 * k) = 2 * k + 1 := by unfold flip; split <;> omega
  have a1 : flips u x k i (2 * k) = x i (2 * k) := if_neg (by omega)
  have a2 : flips u x k i (2 * k + 1) = x i (2 * k + 1) := if_neg (by omega)
  by_cases c1 : c = 2 * k + 1
  ·subst c1
   unfold setc
   rw [if_pos rfl]
   show flips u x (k + 1) i (2 * k + 1) = 1 * flips u x k i (2 * k + 1) + -u * flips u x k i (2 * k)
   rw [a1, a2]
   unfold flips
   rw [if_pos (by omega), f1, Int.neg_mul]
   omega
  ·by_cases c2 : c = 2 * k
   ·subst c2
    unfold setc
    rw [if_neg c1, if_pos rfl]
    show flips u x (k + 1) i (2 * k) = 1 * flips u x k i (2 * k) + -u * flips u x k i (2 * k + 1)
    rw [a1, a2]
    unfold flips
    rw [if_pos (by omega), f2, Int.neg_mul]
    omega
   ·unfold setc
    rw [if_neg c1, if_neg c2]
    unfold flips
    by_cases c3 : c / 2 < k
    ·rw [if_pos c3, if_pos (by omega)]
    ·rw [if_neg c3, if_neg (by omega)]

section
variable (n m : Nat) (b : Nat → Nat) (hb : ∀ e, e < 2 * m → b e < n)

/-- The edge matrix. -/
def tm (e f : Nat) : Int := if b f = b (flip e) ∧ f ≠ flip e then 1 else 0

/-- The edges from v to w, and those to v. -/
def av (v w : Nat) : Int := Sm (2 * m) (fun f => if b f = v ∧ b (flip f) = w then 1 else 0)
def dv (v : Nat) : Int := Sm (2 * m) (fun f => if b f = v then 1 else 0)

/-- The matrix by vertices: 1 - u A + u u (D - 1). -/
def vm (u : Int) (v w : Nat) : Int := idm v w - u * av m b v w + u * u * (if v = w then dv m b v - 1 else 0)

theorem Sm_flip (f : Nat → Int) : ∀ m, Sm (2 * m) (fun e => f (flip e)) = Sm (2 * m) f := by
 intro m
 induction m with
 | zero => rfl
 | succ m ih =>
  show Sm (2 * m) (fun e => f (flip e)) + f (flip (2 * m)) + f (flip (2 * m + 1)) = Sm (2 * m) f + f (2 * m) + f (2 * m + 1)
  have f1 : flip (2 * m + 1) = 2 * m := by unfold flip; split <;> omega
  have f2 : flip (2 * m) = 2 * m + 1 := by unfold flip; split <;> omega
  rw [ih, f1, f2]
  omega

include hb

theorem bass (u : Int) : (1 - u * u) ^ (2 * m) * det n (vm m b u) = (1 - u * u) ^ n * ((1 - u * u) ^ m * det (2 * m) (xu (tm b) u)) := by
 rw [← det_flips m u (xu (tm b) u) m (Nat.le_refl _)]
 have h := det_two_orders n (2 * m) (1 - u * u) (fun v f => u * ((if b f = v then 1 else 0) - u * (if b (flip f) = v then 1 else 0))) (fun e v => if b (flip e) = v then 1 else 0)
 rw [show det n (vm m b u) = det n (fun i k => xid (1 - u * u) i k - Sm (2 * m) (fun e => u * ((if b e = i then 1 else 0) - u * (if b (flip e) = i then 1 else 0)) * (if b (flip e) = k then 1 else 0))) from ?_, h]
 ·congr 1
  refine det_congr _ _ _ (fun e f he hf => ?_)
  have e1 : Sm n (fun v => (if b (flip e) = v then (1 : Int) else 0) * (u * ((if b f = v then 1 else 0) - u * (if b (flip f) = v then 1 else 0)))) = u * ((if b f = b (flip e) then 1 else 0) - u * (if b (flip f) = b (flip e) then 1 else 0)) := by
   have := Sm_pick' n (fun v => u * ((if b f = v then (1 : Int) else 0) - u * (if b (flip f) = v then 1 else 0))) (hb (flip e) (flip_lt he))
   rw [← this]
   refine Sm_congr (fun v _ => ?_)
   have e0 : (if b (flip e) = v then (1 : Int) else 0) = if v = b (flip e) then 1 else 0 := by
    by_cases c : b (flip e) = v
    ·rw [if_pos c, if_pos c.symm]
    ·rw [if_neg c, if_neg (fun z => c z.symm)]
   rw [e0]
  rw [e1]
  have e2 : f / 2 < m := by omega
  have e3 : flips u (xu (tm b) u) m e f = xu (tm b) u e f - u * xu (tm b) u e (flip f) := if_pos e2
  rw [e3]
  have g1 : (e = flip f) = (f = flip e) := propext ⟨fun z => by rw [z, flip_flip], fun z => by rw [z, flip_flip]⟩
  have g2 : (flip f = flip e) = (e = f) := propext ⟨fun z => by have := congrArg flip z; rw [flip_flip, flip_flip] at this; exact this.symm, fun z => by rw [z]⟩
  have g3 : e = f → f ≠ flip e := fun z y => flip_ne e (by rw [← y, z])
  have g4 : f = flip e → b f = b (flip e) := fun z => by rw [z]
  have g5 : e = f → b (flip f) = b (flip e) := fun z => by rw [z]
  unfold xu xid idm ng tm
  simp only [g1, g2, ne_eq]
  generalize b (flip f) = x1 at *
  generalize b (flip e) = x2 at *
  generalize b f = x3 at *
  by_cases c1 : e = f
  ·have := g3 c1
   have := g5 c1
   simp only [c1, if_true, this]
   grind
  ·by_cases c2 : f = flip e
   ·have := g4 c2
    grind
   ·grind
 ·refine det_congr _ _ _ (fun v w _ _ => ?_)
  have e1 : Sm (2 * m) (fun e => u * ((if b e = v then (1 : Int) else 0) - u * (if b (flip e) = v then 1 else 0)) * (if b (flip e) = w then 1 else 0)) = u * av m b v w + (-(u * u)) * (if v = w then dv m b v else 0) := by
   have e2 : (if v = w then dv m b v else 0) = Sm (2 * m) (fun e => (if b (flip e) = v then 1 else 0) * (if b (flip e) = w then 1 else 0)) := by
    by_cases c : v = w
    ·subst c
     rw [if_pos rfl]
     unfold dv
     rw [← Sm_flip]
     refine Sm_congr (fun e _ => ?_)
     split <;> rfl
    ·rw [if_neg c, Sm_congr (g := fun _ => 0) (fun e _ => ?_), Sm_zero]
     by_cases c1 : b (flip e) = v
     ·rw [if_neg (fun z => c (c1.symm.trans z)), Int.mul_zero]
     ·rw [if_neg c1, Int.zero_mul]
   rw [e2]
   unfold av
   rw [← Sm_mul_left, ← Sm_mul_left, ← Sm_add]
   refine Sm_congr (fun e _ => ?_)
   generalize b e = x1
   generalize b (flip e) = x2
   grind
  rw [e1]
  unfold vm xid idm
  by_cases c : v = w
  ·rw [if_pos c, if_pos c, if_pos c, if_pos c]; grind
  ·rw [if_neg c, if_neg c, if_neg c, if_neg c]; grind

end
theorem Sm_one_le (P : Nat → Prop) [DecidablePred P] (n : Nat) (h : ∀ f g, f < n → g < n → P f → P g → f = g) : Sm n (fun f => if P f then 1 else 0) ≤ 1 := by
 induction n with
 | zero => exact (by decide : (0 : Int) ≤ 1)
 | succ n ih =>
  have h1 := ih (fun f g hf hg => h f g (by omega) (by omega))
  show Sm n (fun f => if P f then 1 else 0) + (if P n then 1 else 0) ≤ 1
  by_cases c : P n
  ·have e : Sm n (fun f => if P f then (1 : Int) else 0) = 0 := by
    rw [Sm_congr (g := fun _ => 0) (fun f hf => if_neg (fun z => ?_)), Sm_zero]
    have := h f n (by omega) (by omega) z c
    omega
   rw [e, if_pos c]
   omega
  ·rw [if_neg c]
   omega

/-- The first place with the same number. -/
def rep (t : Nat → Nat) (q : Nat) : Nat := (List.range (q + 1)).findIdx (fun j => t j == t q)

theorem rep_spec (t : Nat → Nat) (q : Nat) : rep t q ≤ q ∧ t (rep t q) = t q ∧ ∀ j, j < rep t q → t j ≠ t q := by
 have hx : ∃ x ∈ List.range (q + 1), (fun j => t j == t q) x = true := ⟨q, List.mem_range.2 (by omega), by simp⟩
 have h1 := List.findIdx_lt_length_of_exists hx
 rw [List.length_range] at h1
 refine ⟨by unfold rep; omega, ?_, fun j hj e => ?_⟩
 ·have := List.findIdx_getElem (xs := List.range (q + 1)) (p := fun j => t j == t q) (w := by rw [List.length_range]; exact h1)
  rw [List.getElem_range] at this
  exact eq_of_beq this
 ·have h2 := List.not_of_lt_findIdx (p := fun j => t j == t q) (xs := List.range (q + 1)) (i := j) hj
  rw [List.getElem_range, e] at h2
  simp at h2

theorem rep_rep (t : Nat → Nat) (q : Nat) : rep t (rep t q) = rep t q := by
 obtain ⟨h1, h2, h3⟩ := rep_spec t q
 obtain ⟨g1, g2, g3⟩ := rep_spec t (rep t q)
 rcases Nat.lt_or_ge (rep t (rep t q)) (rep t q) with c | c
 ·exact absurd (g2.trans h2) (h3 _ c)
 ·omega

/-- As many first places as numbers, at most. -/
theorem reps_le (t : Nat → Nat) (V n : Nat) (ht : ∀ e, e < n → t e < V) : Sm n (fun f => if rep t f = f then 1 else 0) ≤ V := by
 have e : Sm n (fun f => if rep t f = f then (1 : Int) else 0) = Sm V (fun v => Sm n (fun f => if rep t f = f ∧ t f = v then 1 else 0)) := by
  rw [Sm_swap]
  refine Sm_congr (fun f hf => ?_)
  by_cases c : rep t f = f
  ·rw [if_pos c, Sm_congr (g := fun v => (if v = t f then 1 else 0) * 1) (fun v _ => ?_), Sm_pick' V (fun _ => 1) (ht f hf)]
   by_cases c2 : t f = v
   ·rw [if_pos ⟨c, c2⟩, if_pos c2.symm]; rfl
   ·rw [if_neg (fun z => c2 z.2), if_neg (fun z => c2 z.symm)]; rfl
  ·rw [if_neg c, Sm_congr (g := fun _ => 0) (fun v _ => if_neg (fun z => c z.1)), Sm_zero]
 rw [e]
 have := Sm_le (n := V) (f := fun v => Sm n (fun f => if rep t f = f ∧ t f = v then (1 : Int) else 0)) (b := 1) (fun v _ => Sm_one_le _ n (fun f g _ _ hf hg => by
  obtain ⟨f1, f2, f3⟩ := rep_spec t f
  obtain ⟨g1, g2, g3⟩ := rep_spec t g
  rw [hf.1] at f3
  rw [hg.1] at g3
  rcases Nat.lt_trichotomy f g with c | c | c
  ·exact absurd (hf.2.trans hg.2.symm) (g3 f c)
  ·exact c
  ·exact absurd (hg.2.trans hf.2.symm) (f3 g c)))
 omega

section
variable (m : Nat) (hm : m ≤ 10) (t : Nat → Nat) (s : Nat → Int) (hs : ∀ f, s f = 1 ∨ s f = -1)

/-- The edge matrix with signs. -/
def sm (e f : Nat) : Int := s f * tm t e f

theorem tm_range (e f : Nat) : tm t e f = 0 ∨ tm t e f = 1 := by
 unfold tm
 split
 ·exact .inr rfl
 ·exact .inl rfl

def is (a b : Nat) : Int := if a = b then 1 else 0

theorem is_sum (n a : Nat) (h : a < n) : Sm n (fun i => is i a) = 1 := by
 rw [← Sm_pick' n (fun _ => 1) h]
 exact Sm_congr (fun i _ => (Int.mul_one _).symm)

theorem tm_split (e f : Nat) : tm t e f = (if t f = t (flip e) then 1 else 0) - is e (flip f) := by
 unfold tm is
 have g1 : (f = flip e) = (e = flip f) := propext ⟨fun z => by rw [z, flip_flip], fun z => by rw [z, flip_flip]⟩
 by_cases c : e = flip f
 ·rw [if_pos c, if_neg (fun z => z.2 (by rw [g1]; exact c)), if_pos (by rw [c, flip_flip])]
  rfl
 ·rw [if_neg c]
  by_cases c2 : t f = t (flip e)
  ·rw [if_pos c2, if_pos ⟨c2, by rw [ne_eq, g1]; exact c⟩]; rfl
  ·rw [if_neg c2, if_neg (fun z => c2 z.1)]; rfl

include hs

theorem sm_cols (f : Nat) (hf : f < 2 * m) (hm : m ≤ 10) : cs (2 * m) (lean1 (rep t) (fun f => s f * s (rep t f)) idm (2 * m)) (lean1 (rep t) (fun f => s f * s (rep t f)) (ng (sm t s)) (2 * m)) f ≤ if rep t f = f then 20 else 4 := by
 obtain ⟨r1, r2, r3⟩ := rep_spec t f
 by_cases c : rep t f = f
 ·rw [if_pos c]
  have e : ∀ i, i < 2 * m → ab (lean1 (rep t) (fun f => s f * s (rep t f)) idm (2 * m) i f) + ab (lean1 (rep t) (fun f => s f * s (rep t f)) (ng (sm t s)) (2 * m) i f) ≤ 1 + is i f + -1 * is i (flip f) := by
   intro i hi
   unfold lean1
   rw [if_neg (fun z => z.2 c), if_neg (fun z => z.2 c)]
   have hx : ab (ng (sm t s) i f) = tm t i f := by
    unfold ng sm
    have := tm_range t i f
    rcases hs f with e1 | e1 <;> rcases this with e2 | e2 <;> rw [e1, e2] <;> rfl
   rw [hx, tm_split]
   unfold idm is ab
   split <;> split <;> split <;> omega
  refine Int.le_trans (Sm_mono e) ?_
  rw [Sm_add, Sm_add, Sm_mul_left, is_sum _ _ hf, is_sum _ _ (flip_lt hf)]
  have h2 : Sm (2 * m) (fun _ => (1 : Int)) ≤ ((2 * m : Nat) : Int) * 1 := Sm_le (fun _ _ => Int.le_refl _)
  omega
 ·rw [if_neg c]
  have e : ∀ i, i < 2 * m → ab (lean1 (rep t) (fun f => s f * s (rep t f)) idm (2 * m) i f) + ab (lean1 (rep t) (fun f => s f * s (rep t f)) (ng (sm t s)) (2 * m) i f) ≤ (is i f + is i (rep t f)) + (is i (flip f) + is i (flip (rep t f))) := by
   intro i hi
   unfold lean1
   rw [if_pos ⟨hf, c⟩, if_pos ⟨hf, c⟩]
   have hx : ab (ng (sm t s) i f - s f * s (rep t f) * ng (sm t s) i (rep t f)) ≤ is i (flip f) + is i (flip (rep t f)) := by
    unfold ng sm
    rw [tm_split, tm_split, r2]
    generalize (if t f = t (flip i) then (1 : Int) else 0) = z
    have a1 : is i (flip f) = 0 ∨ is i (flip f) = 1 := by unfold is; split <;> simp
    have a2 : is i (flip (rep t f)) = 0 ∨ is i (flip (rep t f)) = 1 := by unfold is; split <;> simp
    unfold ab
    rcases hs f with e1 | e1 <;> rcases hs (rep t f) with e2 | e2 <;> rcases a1 with e3 | e3 <;> rcases a2 with e4 | e4 <;> rw [e1, e2, e3, e4] <;> omega
   show ab (idm i f - s f * s (rep t f) * idm i (rep t f)) + ab (ng (sm t s) i f - s f * s (rep t f) * ng (sm t s) i (rep t f)) ≤ _
   have hy : ab (idm i f - s f * s (rep t f) * idm i (rep t f)) ≤ is i f + is i (rep t f) := by
    unfold idm is ab
    rcases hs f with e1 | e1 <;> rcases hs (rep t f) with e2 | e2 <;> rw [e1, e2] <;> split <;> split <;> omega
   omega
  refine Int.le_trans (Sm_mono e) ?_
  rw [Sm_add, Sm_add, Sm_add, is_sum _ _ hf, is_sum _ _ (by omega), is_sum _ _ (flip_lt hf), is_sum _ _ (flip_lt (by omega))]
  decide

theorem sm_bound (hm : m ≤ 10) (ht : ∀ e, e < 2 * m → t e < 8) (k : Nat) (hk : k ≤ 2 * m) : ab ((k : Int) * ch (2 * m) (sm t s) k) ≤ 9223372036854775807 := by
 have h1 := ch_lean (2 * m) (rep t) (fun f => s f * s (rep t f)) (sm t s) (fun f hf => by have := (rep_spec t f).1; omega) (fun f _ => rep_rep t f) k
 have h2 : Pr (2 * m) (cs (2 * m) (lean1 (rep t) (fun f => s f * s (rep t f)) idm (2 * m)) (lean1 (rep t) (fun f => s f * s (rep t f)) (ng (sm t s)) (2 * m))) ≤ Pr (2 * m) (fun i => if decide (rep t i = i) then 20 else 4) := Pr_mono (fun i _ => cs_nonneg _ _ _ _) (fun i hi => by
  have := sm_cols m t s hs i hi hm
  by_cases c : rep t i = i
  ·rw [if_pos c] at this
   rw [if_pos (decide_eq_true c)]
   exact this
  ·rw [if_neg c] at this
   rw [if_neg (by simpa using c)]
   exact this)
 obtain ⟨p1, p2⟩ := Pr_two (2 * m) (fun i => decide (rep t i = i))
 rw [p1] at h2
 have h3 := reps_le t 8 (2 * m) ht
 have h3' : Sm (2 * m) (fun i => if decide (rep t i = i) = true then (1 : Int) else 0) ≤ 8 := by
  rw [Sm_congr (g := fun f => if rep t f = f then (1 : Int) else 0) (fun i _ => by simp)]
  exact h3
 generalize Sm (2 * m) (fun i => if decide (rep t i = i) = true then (1 : Int) else 0) = x at *
 have h4 : (5 : Int) ^ x.toNat ≤ 390625 := by
  have : ∀ i : Fin 9, (5 : Int) ^ i.val ≤ 390625 := by decide
  exact this ⟨x.toNat, by omega⟩
 have h5 : (4 : Int) ^ (2 * m) ≤ 1099511627776 := by
  have : ∀ i : Fin 21, (4 : Int) ^ i.val ≤ 1099511627776 := by decide
  exact this ⟨2 * m, by omega⟩
 have h6 : (4 : Int) ^ (2 * m) * 5 ^ x.toNat ≤ 1099511627776 * 5 ^ x.toNat := Int.mul_le_mul_of_nonneg_right h5 (Int.pow_nonneg (by decide))
 rw [ab_mul]
 have h7 : ab (k : Int) ≤ 20 := by unfold ab; omega
 have h8 : ab (k : Int) * ab (ch (2 * m) (sm t s) k) ≤ 20 * ab (ch (2 * m) (sm t s) k) := Int.mul_le_mul_of_nonneg_right h7 (ab_nonneg _)
 omega

end
theorem ch_congr (n : Nat) (a b : Nat → Nat → Int) (h : ∀ i j, i < n → j < n → a i j = b i j) (m : Nat) : ch n a m = ch n b m :=
 ch_of n a idm (ng b) (fun u => det_congr n _ _ (fun i j hi hj => by
  unfold xu ng
  rw [h i j hi hj])) m

/-- The vertex where a directed edge begins. -/
def tv (l : List (List Int)) (e : Nat) : Nat := (tl l e).toNat

section
variable {n : Int} {l : List (List Int)} (h : isGraph n l = true)
include h

theorem tl_range {e : Nat} (he : e < 2 * l.length) : 0 ≤ tl l e ∧ tl l e < n := by
 obtain ⟨e2, a, b, ea, eb, ha, hb⟩ := graph_edge h (show e / 2 < l.length by omega)
 unfold tl
 split
 ·rw [eb]; omega
 ·rw [ea]; omega

theorem tv_lt {e : Nat} (he : e < 2 * l.length) : (tv l e : Int) < n := by
 have := tl_range h he
 unfold tv
 omega

omit h in
theorem hd_flip (e : Nat) : hd l e = tl l (flip e) := by
 unfold hd tl flip
 by_cases c : e % 2 = 0
 ·rw [if_neg (show ¬ e % 2 = 1 by omega), if_pos c, if_pos (by omega), show (e + 1) / 2 = e / 2 by omega]
 ·rw [if_pos (show e % 2 = 1 by omega), if_neg c, if_neg (by omega), show (e - 1) / 2 = e / 2 by omega]

theorem W_tm {p q : Nat} (hp : p < 2 * l.length) (hq : q < 2 * l.length) : W l p q = tm (tv l) p q := by
 have h1 := tl_range h hq
 have h2 := tl_range h (flip_lt hp)
 have e : (next l p q = true) = (tv l q = tv l (flip p) ∧ q ≠ flip p) := propext (by
  rw [next_split, hd_flip]
  unfold tv
  show _ ∧ q ≠ flip p ↔ _
  constructor
  ·rintro ⟨a, b⟩; exact ⟨by rw [a], b⟩
  ·rintro ⟨a, b⟩; exact ⟨by omega, b⟩)
 unfold W tm
 simp only [e]

/-- The reciprocal, as a list. -/
def recL (l : List (List Int)) : List Int := trimN (chL (2 * l.length) (W l) (2 * l.length + 1)) (2 * l.length + 1)

omit h in
theorem chL_congr (n : Nat) (a b : Nat → Nat → Int) (h : ∀ i j, i < n → j < n → a i j = b i j) (k : Nat) : chL n a k = chL n b k := rowOf_congr (fun m _ => by rw [ch_congr n a b h m])

theorem W_bound (k : Nat) (hk : k ≤ 2 * l.length) : ab ((k : Int) * ch (2 * l.length) (W l) k) ≤ 9223372036854775807 := by
 obtain ⟨g1, g2, g3⟩ := graph_small h
 have h1 := sm_bound l.length (tv l) (fun _ => 1) (fun _ => .inl rfl) g3 (fun e he => by have := tv_lt h he; omega) k hk
 rw [ch_congr _ (sm (tv l) (fun _ => 1)) (W l) (fun i j hi hj => by
  rw [W_tm h hi hj]
  unfold sm
  rw [Int.one_mul]) k] at h1
 exact h1

theorem specRecip : Ev (fun k => spec_l02Reciprocal.f k n l) (recL l) := by
 obtain ⟨g1, g2, g3⟩ := graph_small h
 have h1 := berkowitz (2 * l.length) (by omega) (ofFn (2 * l.length) (W l)) (Sq_ofFn _ _) (fun i j hi hj => by
  rw [ofFn_mat _ hi hj]
  have := W_range l i j
  exact wrap_id (by omega) (by omega))
 rw [chL_congr _ _ (W l) (fun i j hi hj => ofFn_mat _ hi hj), ← edgeM_ofFn] at h1
 unfold spec_l02Reciprocal.f recL
 refine Ev.bind (specEdgeM h) ?_
 exact Ev.bind h1 (Ev.now _)

theorem implRecip : Ev (fun k => impl_Graph_reciprocal.f k n l) (recL l) := by
 obtain ⟨g1, g2, g3⟩ := graph_small h
 have h1 := faddeev (2 * l.length) (by omega) (ofFn (2 * l.length) (W l)) (Sq_ofFn _ _) (fun k _ hk => by
  rw [ch_congr _ _ (W l) (fun i j hi hj => ofFn_mat _ hi hj)]
  exact W_bound h k hk)
 rw [chL_congr _ _ (W l) (fun i j hi hj => ofFn_mat _ hi hj), ← edgeM_ofFn] at h1
 unfold impl_Graph_reciprocal.f recL
 refine Ev.bind (implEdgeM h) ?_
 exact Ev.bind h1 (Ev.now _)

theorem recL_length : (recL l).length ≤ 21 := by
 obtain ⟨g1, g2, g3⟩ := graph_small h
 have : (recL l).length ≤ _ := trimN_length _ _
 rw [show (chL (2 * l.length) (W l) (2 * l.length + 1)).length = 2 * l.length + 1 from rowOf_length _ _] at this
 omega

end
def inb (x : Int) : Bool := decide (-1 ≤ x ∧ x ≤ 1)
def isS (x : Int) : Bool := decide (x = 1 ∨ x = -1)
def isZ (x : Int) : Bool := decide (x = 0)
def areS (l : List (List Int)) (sg : List Int) : Bool := decide (sg.length = l.length) && sg.all isS

theorem natBeq (a b : Nat) : ((a : Int) == (b : Int)) = decide (a = b) := by
 by_cases c : a = b
 ·subst c; simp
 ·rw [decide_eq_false c]
  exact beq_eq_false_iff_ne.2 (by omega)

theorem split_signs (sg : List Int) : sg.all isS = (sg.all inb && !sg.any isZ) := by
 induction sg with
 | nil => rfl
 | cons x xs ih =>
  rw [List.all_cons, List.all_cons, List.any_cons, ih]
  have : isS x = (inb x && !isZ x) := by
   unfold isS inb isZ
   by_cases c : x = 1 ∨ x = -1
   ·rw [decide_eq_true c, decide_eq_true (by omega), decide_eq_false (by omega)]; rfl
   ·rw [decide_eq_false c]
    by_cases c2 : x = 0
    ·rw [decide_eq_true c2, Bool.not_true, Bool.and_false]
    ·rw [decide_eq_false (p := -1 ≤ x ∧ x ≤ 1) (by omega), Bool.false_and]
  rw [this]
  cases inb x <;> cases isZ x <;> cases xs.all inb <;> cases xs.any isZ <;> rfl

theorem specSignList (n : Int) (l : List (List Int)) (sg : List Int) (hw : sg.length ≤ 1048576) : ∀ (d i : Nat), i + d = sg.length → Ev (fun k => spec_l04List.l0 k sg 1 (i : Int) n l) ((sg.drop i).all inb && decide (sg.length = l.length)) := by
 intro d
 induction d with
 | zero =>
  intro i hi
  rw [List.drop_eq_nil_of_le (by omega), List.all_nil, Bool.true_and, ← natBeq]
  refine Ev.succ ?_; simp only [spec_l04List.l0]
  exact Ev.neg (by omega) (Ev.now _)
 | succ d ih =>
  intro i hi
  have h1 := ih (i + 1) (by omega)
  rw [List.drop_eq_getElem_cons (by omega : i < sg.length), List.all_cons]
  refine Ev.succ ?_; simp only [spec_l04List.l0]
  rw [rd_lt (by omega), show wrap64 (-1) = -1 from wrap_id (by decide) (by decide), specIn, wrap_succ (i := i) (by omega)]
  refine Ev.pos (by omega) (Ev.pos (by omega) (Ev.bind (Ev.now _) ?_))
  by_cases c : -1 ≤ sg[i] ∧ sg[i] ≤ 1
  ·rw [show inb sg[i] = true from decide_eq_true c, Bool.true_and]
   exact Ev.pos (decide_eq_true c) h1
  ·rw [show inb sg[i] = false from decide_eq_false c, Bool.false_and, Bool.false_and]
   exact Ev.neg (by rw [decide_eq_false c]; decide) (Ev.now _)

theorem specZeros (sg : List Int) (hw : sg.length ≤ 1048576) : ∀ (d i : Nat), i + d = sg.length → Ev (fun k => spec_l04Signs.l0 k sg (i : Int)) (if (sg.drop i).any isZ = true then 2 else 0) := by
 intro d
 induction d with
 | zero =>
  intro i hi
  rw [List.drop_eq_nil_of_le (by omega), List.any_nil, if_neg (by decide)]
  refine Ev.succ ?_; simp only [spec_l04Signs.l0]
  exact Ev.neg (by omega) (Ev.now _)
 | succ d ih =>
  intro i hi
  have h1 := ih (i + 1) (by omega)
  rw [List.drop_eq_getElem_cons (by omega : i < sg.length), List.any_cons]
  refine Ev.succ ?_; simp only [spec_l04Signs.l0]
  rw [rd_lt (by omega), wrap_succ (i := i) (by omega)]
  refine Ev.pos (by omega) (Ev.pos (by omega) ?_)
  by_cases c : sg[i] = 0
  ·rw [show isZ sg[i] = true from decide_eq_true c, Bool.true_or, if_pos rfl]
   exact Ev.pos c (Ev.now _)
  ·rw [show isZ sg[i] = false from decide_eq_false c, Bool.false_or]
   exact Ev.neg c h1

def codeS (n : Int) (l : List (List Int)) (sg : List Int) : Int := if isGraph n l = true then (if areS l sg = true then 0 else 2) else 1

theorem specSigns (n : Int) (l : List (List Int)) (sg : List Int) (hl : Mod l) (hw : sg.length ≤ 1048576) : Ev (fun k => spec_l04Signs.f k n l sg) (codeS n l sg) := by
 have h1 := specIs n l hl
 have h2 := specSignList n l sg hw sg.length 0 (by omega)
 have h3 := specZeros sg hw sg.length 0 (by omega)
 rw [List.drop_zero] at h2 h3
 unfold spec_l04Signs.f codeS areS
 rw [split_signs]
 by_cases hg : isGraph n l = true
 ·rw [hg] at h1
  rw [if_pos hg]
  refine Ev.bind h1 (Ev.pos rfl ?_)
  unfold spec_l04List.f
  cases c : (sg.all inb && decide (sg.length = l.length)) with
  | true =>
   rw [c] at h2
   obtain ⟨c1, c2⟩ := Bool.and_eq_true_iff.1 c
   refine Ev.bind h2 (Ev.pos rfl ?_)
   rw [c1, c2, Bool.true_and, Bool.true_and]
   cases c3 : sg.any isZ with
   | true =>
    rw [c3, if_pos rfl] at h3
    rw [Bool.not_true, if_neg (by decide)]
    exact h3
   | false =>
    rw [c3, if_neg (by decide)] at h3
    rw [Bool.not_false, if_pos rfl]
    exact h3
  | false =>
   rw [c] at h2
   have e : (decide (sg.length = l.length) && (sg.all inb && !sg.any isZ)) = false := by
    cases h4 : sg.all inb
    ·rw [Bool.false_and, Bool.and_false]
    ·rw [h4, Bool.true_and] at c
     rw [c, Bool.false_and]
   rw [e, if_neg (by decide)]
   exact Ev.bind h2 (Ev.neg (by decide) (Ev.now _))
 ·rw [Bool.not_eq_true] at hg
  rw [hg] at h1
  rw [if_neg (by rw [hg]; decide)]
  exact Ev.bind h1 (Ev.neg (by decide) (Ev.now _))

theorem implSignList (sg : List Int) (hw : sg.length ≤ 1048576) : ∀ (d i : Nat), i + d = sg.length → ∃ z : Int, Ev (fun k => slices_IndexFunc_int64_int64_124_at_Graph_areSigns_1.l0 k sg (sg.length : Int) (i : Int)) z ∧ (!decide (z ≥ 0)) = (sg.drop i).all isS := by
 intro d
 induction d with
 | zero =>
  intro i hi
  refine ⟨-1, ?_, by rw [List.drop_eq_nil_of_le (by omega)]; rfl⟩
  refine Ev.succ ?_; simp only [slices_IndexFunc_int64_int64_124_at_Graph_areSigns_1.l0]
  exact Ev.neg (by omega) (Ev.now _)
 | succ d ih =>
  intro i hi
  obtain ⟨z, h1, h2⟩ := ih (i + 1) (by omega)
  rw [List.drop_eq_getElem_cons (by omega : i < sg.length), List.all_cons]
  have e : impl_Graph_areSigns_1.f (rd sg i) = some (!isS sg[i]) := by
   rw [rd_lt (by omega)]
   unfold impl_Graph_areSigns_1.f isS
   by_cases c1 : sg[i] = 1
   ·rw [if_pos c1, decide_eq_true (.inl c1)]; rfl
   ·rw [if_neg c1]
    by_cases c2 : sg[i] = -1
    ·rw [c2]; rfl
    ·rw [decide_eq_false (by omega), bne_iff_ne.2 c2]; rfl
  cases c : isS sg[i] with
  | true =>
   refine ⟨z, ?_, by rw [h2, Bool.true_and]⟩
   refine Ev.succ ?_; simp only [slices_IndexFunc_int64_int64_124_at_Graph_areSigns_1.l0]
   rw [e, c, wrap_succ (i := i) (by omega)]
   exact Ev.pos (by omega) (Ev.pos (by omega) (Ev.pos (by omega) (Ev.bind (Ev.now _) (Ev.neg (by decide) h1))))
  | false =>
   refine ⟨(i : Int), ?_, by rw [Bool.false_and, decide_eq_true (by omega)]; rfl⟩
   refine Ev.succ ?_; simp only [slices_IndexFunc_int64_int64_124_at_Graph_areSigns_1.l0]
   rw [e, c]
   exact Ev.pos (by omega) (Ev.pos (by omega) (Ev.pos (by omega) (Ev.bind (Ev.now _) (Ev.pos rfl (Ev.now _)))))

theorem implSigns (n : Int) (l : List (List Int)) (sg : List Int) (hl : Mod l) (hw : sg.length ≤ 1048576) : Ev (fun k => impl_graphCode_at_SignedReciprocal_1.f k n l n l sg) (codeS n l sg) := by
 have h1 := implIsGraph n l hl
 have hs : Ev (fun k => impl_Graph_areSigns.f k n l sg) (areS l sg) := by
  unfold impl_Graph_areSigns.f areS
  by_cases c : sg.length = l.length
  ·obtain ⟨z, z1, z2⟩ := implSignList sg hw sg.length 0 (by omega)
   rw [List.drop_zero] at z2
   rw [decide_eq_true c, Bool.true_and, ← z2]
   unfold slices_ContainsFunc_int64_int64_93_at_Graph_areSigns_1.f slices_IndexFunc_int64_int64_124_at_Graph_areSigns_1.f
   exact Ev.pos (by omega) (Ev.bind (Ev.bind z1 (Ev.now _)) (Ev.now _))
  ·rw [decide_eq_false c, Bool.false_and]
   exact Ev.neg (by omega) (Ev.now _)
 unfold impl_graphCode_at_SignedReciprocal_1.f impl_SignedReciprocal_1.f codeS
 by_cases hg : isGraph n l = true
 ·rw [hg] at h1
  rw [if_pos hg]
  refine Ev.bind h1 (Ev.pos rfl ?_)
  cases c : areS l sg with
  | true =>
   rw [c] at hs
   rw [if_pos rfl]
   exact Ev.bind (Ev.bind hs (Ev.now _)) (Ev.pos rfl (Ev.now _))
  | false =>
   rw [c] at hs
   rw [if_neg (by decide)]
   exact Ev.bind (Ev.bind hs (Ev.now _)) (Ev.neg (by decide) (Ev.now _))
 ·rw [Bool.not_eq_true] at hg
  rw [hg] at h1
  rw [if_neg (by rw [hg]; decide)]
  exact Ev.bind h1 (Ev.neg (by decide) (Ev.now _))

/-- The sign of a directed edge. -/
def sF (sg : List Int) (f : Nat) : Int := if rd sg ((f / 2 : Nat) : Int) = -1 then -1 else 1

theorem sF_two (sg : List Int) (f : Nat) : sF sg f = 1 ∨ sF sg f = -1 := by
 unfold sF
 split
 ·exact .inr rfl
 ·exact .inl rfl

theorem sF_rd {l : List (List Int)} {sg : List Int} (hs : areS l sg = true) {f : Nat} (hf : f < 2 * l.length) : rd sg ((f / 2 : Nat) : Int) = sF sg f := by
 unfold areS at hs
 obtain ⟨h1, h2⟩ := Bool.and_eq_true_iff.1 hs
 have h1 := of_decide_eq_true h1
 have h3 := List.all_eq_true.1 h2 _ (List.getElem_mem (show f / 2 < sg.length by omega))
 have h3 := of_decide_eq_true (show decide (sg[f / 2] = 1 ∨ sg[f / 2] = -1) = true from h3)
 unfold sF
 rw [rd_lt (by omega)]
 rcases h3 with e | e
 ·rw [e, if_neg (by decide)]
 ·rw [e, if_pos rfl]

section
variable (l : List (List Int)) (sg : List Int)

/-- Row e, with signs up to q. -/
def sgRow (e q : Nat) : List Int := rowOf (2 * l.length) (fun j => if j < q then sF sg j * W l e j else W l e j)

/-- The rows, with signs up to e. -/
def sgMat (e : Nat) : List (List Int) := ofFn (2 * l.length) (fun p j => if p < e then sF sg j * W l p j else W l p j)

theorem sgRow_length (e q : Nat) : (sgRow l sg e q).length = 2 * l.length := rowOf_length _ _
theorem sgMat_length (e : Nat) : (sgMat l sg e).length = 2 * l.length := ofFn_length _ _

theorem sgMat_row (e : Nat) (he : e < 2 * l.length) : rd_L1 (sgMat l sg e) (e : Int) = sgRow l sg e 0 := by
 unfold sgMat sgRow
 rw [ofFn_row _ he]
 exact rowOf_congr (fun q hq => by rw [if_neg (Nat.lt_irrefl e), if_neg (Nat.not_lt_zero q)])

theorem sgMat_set (e : Nat) (he : e < 2 * l.length) : (sgMat l sg e).set e (sgRow l sg e (2 * l.length)) = sgMat l sg (e + 1) := by
 unfold sgMat sgRow
 rw [ofFn_set _ _ he]
 refine ofFn_congr (fun p q hp hq => ?_)
 by_cases c : p = e
 ·subst c
  rw [if_pos rfl, if_pos hq, if_pos (by omega)]
 ·rw [if_neg c]
  by_cases c2 : p < e
  ·rw [if_pos c2, if_pos (by omega)]
  ·rw [if_neg c2, if_neg (by omega)]

theorem sgMat_zero : sgMat l sg 0 = edgeM l (2 * l.length) := by
 rw [edgeM_ofFn]
 exact ofFn_congr (fun p q _ _ => if_neg (Nat.not_lt_zero p))

theorem sgMat_end : sgMat l sg (2 * l.length) = ofFn (2 * l.length) (fun p q => sF sg q * W l p q) :=
 ofFn_congr (fun p q hp _ => if_pos hp)

theorem sW_range (p q : Nat) : -1 ≤ sF sg q * W l p q ∧ sF sg q * W l p q ≤ 1 := by
 have h1 := W_range l p q
 rcases sF_two sg q with e | e <;> rw [e] <;> omega

theorem sgRow_set (e q : Nat) (hq : q < 2 * l.length) : (sgRow l sg e q).set q (wrap64 (rd (sgRow l sg e q) (q : Int) * sF sg q)) = sgRow l sg e (q + 1) := by
 unfold sgRow
 have := sW_range l sg e q
 rw [rowOf_rd _ hq, if_neg (Nat.lt_irrefl q), Int.mul_comm, wrap_id (by omega) (by omega), rowOf_set _ _ hq]
 refine rowOf_congr (fun j hj => ?_)
 by_cases c : j = q
 ·subst c
  rw [if_pos rfl, if_pos (by omega)]
 ·rw [if_neg c]
  by_cases c2 : j < q
  ·rw [if_pos c2, if_pos (by omega)]
  ·rw [if_neg c2, if_neg (by omega)]

end

theorem half_of (q : Nat) (h : q ≤ 1000) : wrap64 (Int.tdiv (q : Int) 2) = ((q / 2 : Nat) : Int) := by
 rw [Int.tdiv_eq_ediv_of_nonneg (by omega), show (2 : Int) = ((2 : Nat) : Int) from rfl, ← Int.natCast_ediv]
 exact wrap_id (by omega) (by omega)

/-- The signed reciprocal. -/
def recS (l : List (List Int)) (sg : List Int) : List Int := trimN (chL (2 * l.length) (fun p q => sF sg q * W l p q) (2 * l.length + 1)) (2 * l.length + 1)

theorem recS_length (l : List (List Int)) (sg : List Int) : (recS l sg).length ≤ 2 * l.length + 1 := by
 have : (recS l sg).length ≤ _ := trimN_length _ _
 rw [show (chL (2 * l.length) (fun p q => sF sg q * W l p q) (2 * l.length + 1)).length = 2 * l.length + 1 from rowOf_length _ _] at this
 exact this

section
variable {n : Int} {l : List (List Int)} (h : isGraph n l = true) {sg : List Int} (hs : areS l sg = true)
include h hs

theorem specSgRow (e : Nat) (he : e < 2 * l.length) (r : List Int × Int) (hr : Ev (fun k => spec_SignedReciprocal.l0 k sg (sgMat l sg (e + 1)) ((e + 1 : Nat) : Int)) r) :
  ∀ (d q : Nat), q + d = 2 * l.length → Ev (fun k => spec_SignedReciprocal.l1 k sg (sgMat l sg e) (e : Int) (sgRow l sg e q) (q : Int)) r := by
 obtain ⟨g1, g2, g3⟩ := graph_small h
 have hlen : sg.length = l.length := of_decide_eq_true (Bool.and_eq_true_iff.1 hs).1
 intro d
 induction d with
 | zero =>
  intro q hq
  obtain rfl : q = 2 * l.length := by omega
  have hl := sgRow_length l sg e (2 * l.length)
  refine Ev.succ ?_; simp only [spec_SignedReciprocal.l1]
  rw [Int.toNat_natCast e, sgMat_set l sg e he, wrap_succ (i := e) (by omega)]
  exact Ev.neg (by omega) hr
 | succ d ih =>
  intro q hq
  have h1 := ih (q + 1) (by omega)
  have hl := sgRow_length l sg e q
  have hset := sgRow_set l sg e q (by omega)
  refine Ev.succ ?_; simp only [spec_SignedReciprocal.l1]
  rw [half_of q (by omega), sF_rd hs (show q < 2 * l.length by omega), Int.toNat_natCast q, hset, wrap_succ (i := q) (by omega)]
  exact Ev.pos (by omega) (Ev.pos (by omega) (Ev.pos (by omega) (Ev.pos (by omega) h1)))

theorem specSgAll : ∀ (d e : Nat), e + d = 2 * l.length → Ev (fun k => spec_SignedReciprocal.l0 k sg (sgMat l sg e) (e : Int)) (recS l sg, 0) := by
 obtain ⟨g1, g2, g3⟩ := graph_small h
 intro d
 induction d with
 | zero =>
  intro e he
  obtain rfl : e = 2 * l.length := by omega
  have hl := sgMat_length l sg (2 * l.length)
  have h1 := berkowitz (2 * l.length) (by omega) (ofFn (2 * l.length) (fun p q => sF sg q * W l p q)) (Sq_ofFn _ _) (fun i j hi hj => by
   rw [ofFn_mat _ hi hj]
   have := sW_range l sg i j
   exact wrap_id (by omega) (by omega))
  rw [chL_congr _ _ (fun p q => sF sg q * W l p q) (fun i j hi hj => ofFn_mat _ hi hj), ← sgMat_end] at h1
  refine Ev.succ ?_; simp only [spec_SignedReciprocal.l0]
  exact Ev.neg (by omega) (Ev.bind h1 (Ev.now _))
 | succ d ih =>
  intro e he
  have h1 := ih (e + 1) (by omega)
  have hl := sgMat_length l sg e
  refine Ev.succ ?_; simp only [spec_SignedReciprocal.l0]
  rw [sgMat_row l sg e (by omega)]
  exact Ev.pos (by omega) (Ev.pos (by omega) (specSgRow h hs e (by omega) _ h1 (2 * l.length) 0 (by omega)))

theorem implSgRow (e : Nat) (he : e < 2 * l.length) (r : List (List Int)) (hr : Ev (fun k => impl_Graph_signed.l0 k sg (sgMat l sg (e + 1)) ((2 * l.length : Nat) : Int) ((e + 1 : Nat) : Int)) r) :
  ∀ (d q : Nat), q + d = 2 * l.length → Ev (fun k => impl_Graph_signed.l1 k sg (sgMat l sg e) (sgRow l sg e q) ((2 * l.length : Nat) : Int) (e : Int) ((2 * l.length : Nat) : Int) (q : Int)) r := by
 obtain ⟨g1, g2, g3⟩ := graph_small h
 have hlen : sg.length = l.length := of_decide_eq_true (Bool.and_eq_true_iff.1 hs).1
 intro d
 induction d with
 | zero =>
  intro q hq
  obtain rfl : q = 2 * l.length := by omega
  have hl := sgRow_length l sg e (2 * l.length)
  refine Ev.succ ?_; simp only [impl_Graph_signed.l1]
  rw [Int.toNat_natCast e, sgMat_set l sg e he, wrap_succ (i := e) (by omega)]
  exact Ev.neg (by omega) hr
 | succ d ih =>
  intro q hq
  have h1 := ih (q + 1) (by omega)
  have hl := sgRow_length l sg e q
  have hset := sgRow_set l sg e q (by omega)
  refine Ev.succ ?_; simp only [impl_Graph_signed.l1]
  rw [half_of q (by omega), sF_rd hs (show q < 2 * l.length by omega), Int.toNat_natCast q, hset, wrap_succ (i := q) (by omega)]
  exact Ev.pos (by omega) (Ev.pos (by omega) (Ev.pos (by omega) (Ev.pos (by omega) (Ev.pos (by omega) h1))))

theorem implSgAll : ∀ (d e : Nat), e + d = 2 * l.length → Ev (fun k => impl_Graph_signed.l0 k sg (sgMat l sg e) ((2 * l.length : Nat) : Int) (e : Int)) (ofFn (2 * l.length) (fun p q => sF sg q * W l p q)) := by
 obtain ⟨g1, g2, g3⟩ := graph_small h
 intro d
 induction d with
 | zero =>
  intro e he
  obtain rfl : e = 2 * l.length := by omega
  rw [← sgMat_end]
  refine Ev.succ ?_; simp only [impl_Graph_signed.l0]
  exact Ev.neg (by omega) (Ev.now _)
 | succ d ih =>
  intro e he
  have h1 := ih (e + 1) (by omega)
  have hl := sgRow_length l sg e 0
  refine Ev.succ ?_; simp only [impl_Graph_signed.l0]
  rw [sgMat_row l sg e (by omega), hl]
  exact Ev.pos (by omega) (Ev.pos (by omega) (implSgRow h hs e (by omega) _ h1 (2 * l.length) 0 (by omega)))

theorem implSigned : Ev (fun k => impl_Graph_signed.f k n l sg) (ofFn (2 * l.length) (fun p q => sF sg q * W l p q)) := by
 have h0 := implSgAll h hs (2 * l.length) 0 (by omega)
 have he := implEdgeM h
 rw [sgMat_zero] at h0
 have hl := edgeM_length l (2 * l.length)
 unfold impl_Graph_signed.f
 refine Ev.bind he ?_
 rw [hl]
 exact h0

omit hs in
theorem implSgDet : Ev (fun k => impl_determinant.f k (ofFn (2 * l.length) (fun p q => sF sg q * W l p q))) (recS l sg) := by
 obtain ⟨g1, g2, g3⟩ := graph_small h
 have h1 := faddeev (2 * l.length) (by omega) (ofFn (2 * l.length) (fun p q => sF sg q * W l p q)) (Sq_ofFn _ _) (fun k _ hk => by
  have h2 := sm_bound l.length (tv l) (sF sg) (sF_two sg) g3 (fun e he => by have := tv_lt h he; omega) k hk
  rw [ch_congr _ _ (sm (tv l) (sF sg)) (fun i j hi hj => by
   rw [ofFn_mat _ hi hj, W_tm h hi hj]
   rfl) k]
  exact h2)
 rw [chL_congr _ _ (fun p q => sF sg q * W l p q) (fun i j hi hj => ofFn_mat _ hi hj)] at h1
 exact h1

end
theorem signed_same (n : Int) (l : List (List Int)) (sg : List Int) (hl : Mod l) (hw : sg.length ≤ 1048576) : ∃ r : List Int × Int, r.1.length ≤ 1048576 ∧ Ev (fun k => spec_SignedReciprocal.f k n l sg) r ∧ Ev (fun k => impl_SignedReciprocal.f k n l sg) r := by
 unfold spec_SignedReciprocal.f impl_SignedReciprocal.f
 have h1 := specSigns n l sg hl hw
 have h2 := implSigns n l sg hl hw
 by_cases hg : isGraph n l = true
 ·by_cases hs : areS l sg = true
  ·have c : codeS n l sg = 0 := by
    unfold codeS
    rw [if_pos hg, if_pos hs]
   obtain ⟨g1, g2, g3⟩ := graph_small hg
   have h0 := specSgAll hg hs (2 * l.length) 0 (by omega)
   rw [sgMat_zero] at h0
   refine ⟨(recS l sg, 0), ?_, ?_, ?_⟩
   ·have := recS_length l sg
    show (recS l sg).length ≤ _
    omega
   ·exact Ev.bind h1 (Ev.pos c (Ev.bind (specEdgeM hg) h0))
   ·exact Ev.bind h2 (Ev.pos c (Ev.bind (implSigned hg hs) (Ev.bind (implSgDet hg) (Ev.now _))))
  ·have c : codeS n l sg = 2 := by
    unfold codeS
    rw [if_pos hg, if_neg hs]
   exact ⟨([], codeS n l sg), by simp, Ev.bind h1 (Ev.neg (by omega) (Ev.now _)), Ev.bind h2 (Ev.neg (by omega) (Ev.now _))⟩
 ·have c : codeS n l sg = 1 := by
   unfold codeS
   rw [if_neg hg]
  exact ⟨([], codeS n l sg), by simp, Ev.bind h1 (Ev.neg (by omega) (Ev.now _)), Ev.bind h2 (Ev.neg (by omega) (Ev.now _))⟩

theorem FnExactSignedReciprocal : laws_FnExactSignedReciprocal.Pure := by
 intro n l w _ hl hr _ _
 refine Ev.rounds ?_
 unfold laws_FnExactSignedReciprocal.f
 by_cases h : (w.length : Int) > 1048576
 ·repeat (first | with_reducible exact Ev.now _ | dsimp only | refine Ev.pos (by first | omega | rfl | assumption | decide) ?_ | refine Ev.neg (by first | omega | assumption | exact Bool.false_ne_true | exact fun e => absurd e (by decide)) ?_ | simp only [bne_self_eq_false, Bool.not_true, Bool.not_false, List.length_cons, List.length_nil] | rw [wrap_id (by omega) (by omega)] | ((with_reducible refine Ev.eq (congrArg some ?_)); rfl))
 have hw : w.length ≤ 1048576 := by omega
 refine Ev.neg (by omega) ?_
 refine Ev.ex (szGraph n l hl hr) (fun t ht => ?_)
 rcases ht with ht | ht
 ·repeat (first | with_reducible exact Ev.now _ | dsimp only | refine Ev.pos (by first | omega | rfl | assumption | decide) ?_ | refine Ev.neg (by first | omega | assumption | exact Bool.false_ne_true | exact fun e => absurd e (by decide)) ?_ | simp only [bne_self_eq_false, Bool.not_true, Bool.not_false, List.length_cons, List.length_nil] | rw [wrap_id (by omega) (by omega)] | ((with_reducible refine Ev.eq (congrArg some ?_)); rfl))
 by_cases h0 : t < 0
 ·repeat (first | with_reducible exact Ev.now _ | dsimp only | refine Ev.pos (by first | omega | rfl | assumption | decide) ?_ | refine Ev.neg (by first | omega | assumption | exact Bool.false_ne_true | exact fun e => absurd e (by decide)) ?_ | simp only [bne_self_eq_false, Bool.not_true, Bool.not_false, List.length_cons, List.length_nil] | rw [wrap_id (by omega) (by omega)] | ((with_reducible refine Ev.eq (congrArg some ?_)); rfl))
 obtain ⟨r, hr, hs, hi⟩ := signed_same n l w ht hw
 obtain ⟨q, hq, hq0, hq1⟩ := markGraph n l ht
 repeat (first | with_reducible exact Ev.now _ | dsimp only | with_reducible refine Ev.bind (toGraph n l ht) ?_ | with_reducible refine Ev.bind (toInt64S w hw) ?_ | with_reducible refine Ev.bind (hs) ?_ | with_reducible refine Ev.bind (hi) ?_ | with_reducible refine Ev.bind (eqInt64S_self r.1 hr) ?_ | with_reducible refine Ev.bind (eqGraph_self n l ht) ?_ | with_reducible refine Ev.bind (eqInt64S_self w hw) ?_ | with_reducible refine Ev.bind (hq) ?_ | with_reducible refine Ev.bind (markInt64S w hw q.1 hq0 (by omega)) ?_ | with_reducible refine Ev.bind (markInt64S r.1 hr 1 (by omega) (by omega)) ?_ | with_reducible refine Ev.bind (heldInt64S 1 r.1.length hr (by omega) (by omega)) ?_ | refine Ev.pos (by first | omega | rfl | assumption | decide) ?_ | refine Ev.neg (by first | omega | assumption | exact Bool.false_ne_true | exact fun e => absurd e (by decide)) ?_ | simp only [bne_self_eq_false, Bool.not_true, Bool.not_false, List.length_cons, List.length_nil] | rw [wrap_id (by omega) (by omega)] | with_reducible exact (toGraph n l ht) | with_reducible exact (toInt64S w hw) | with_reducible exact (hs) | with_reducible exact (hi) | with_reducible exact (eqInt64S_self r.1 hr) | with_reducible exact (eqGraph_self n l ht) | with_reducible exact (eqInt64S_self w hw) | with_reducible exact (hq) | with_reducible exact (markInt64S w hw q.1 hq0 (by omega)) | with_reducible exact (markInt64S r.1 hr 1 (by omega) (by omega)) | with_reducible exact (heldInt64S 1 r.1.length hr (by omega) (by omega)) | ((with_reducible refine Ev.eq (congrArg some ?_)); rfl))
end Go.Proofs.Ytipigagbgpoecaa.Pure
