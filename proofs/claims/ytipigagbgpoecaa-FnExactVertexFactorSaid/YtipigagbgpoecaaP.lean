/- The plain proofs for this law. -/
import Derived.Test.YtipigagbgpoecaaC3
import Derived.Test.YtipigagbgpoecaaAux
namespace Go.Proofs.Ytipigagbgpoecaa.Pure
open Go.RowKit Go.Proofs.Ytipigagbgpoecaa.G Go.Proofs.YtipigagbgpoecaaW.PrintWords Go.Proofs.YtipigagbgpoecaaW.PrintLast Go.Proofs.YtipigagbgpoecaaW.PrintMore Go.Proofs.Ytipigagbgpoecaa.Aux
set_option linter.unusedVariables false
set_option linter.unusedSimpArgs false

theorem toInt64S_loop (l : List Int) (hl : l.length ≤ 1048576) : ∀ (d i : Nat) (ys : List Int), i + d = l.length → ys.length = l.length → ys.take i = l.take i →
  Ev (fun k => laws_toInt64S.l0 k l ys (i : Int)) l := by
 intro d
 induction d with
 | zero =>
  intro i ys hi hy ht
  refine Ev.succ ?_; simp only [laws_toInt64S.l0]
  repeat (first | with_reducible exact Ev.now _ | dsimp only | refine Ev.pos (by first | omega | rfl | assumption | decide) ?_ | refine Ev.neg (by first | omega | assumption | exact Bool.false_ne_true | exact fun e => absurd e (by decide)) ?_ | simp only [bne_self_eq_false, Bool.not_true, Bool.not_false, List.length_cons, List.length_nil] | rw [wrap_id (by omega) (by omega)] | ((with_reducible refine Ev.eq (congrArg some ?_)); rfl))
  exact Ev.eq (congrArg some (eq_of_take hy (by omega) ht))
 | succ d ih =>
  intro i ys hi hy ht
  refine Ev.succ ?_; simp only [laws_toInt64S.l0]
  rw [wrap_succ (by omega)]
  repeat (first | with_reducible exact Ev.now _ | dsimp only | refine Ev.pos (by first | omega | rfl | assumption | decide) ?_ | refine Ev.neg (by first | omega | assumption | exact Bool.false_ne_true | exact fun e => absurd e (by decide)) ?_ | simp only [bne_self_eq_false, Bool.not_true, Bool.not_false, List.length_cons, List.length_nil] | rw [wrap_id (by omega) (by omega)] | ((with_reducible refine Ev.eq (congrArg some ?_)); rfl))
  exact ih (i + 1) _ (by omega) (by simpa using hy) (take_set_succ hy (by omega) (rd_lt (by omega)) ht)

theorem toInt64S (l : List Int) (hl : l.length ≤ 1048576) : Ev (fun k => laws_toInt64S.f k l) l := by
 unfold laws_toInt64S.f
 repeat (first | with_reducible exact Ev.now _ | dsimp only | refine Ev.pos (by first | omega | rfl | assumption | decide) ?_ | refine Ev.neg (by first | omega | assumption | exact Bool.false_ne_true | exact fun e => absurd e (by decide)) ?_ | simp only [bne_self_eq_false, Bool.not_true, Bool.not_false, List.length_cons, List.length_nil] | rw [wrap_id (by omega) (by omega)] | ((with_reducible refine Ev.eq (congrArg some ?_)); rfl))
 exact toInt64S_loop l hl l.length 0 _ (by omega) (by simp) (by simp)

theorem eqInt64S_loop (a b : List Int) (hl : a.length ≤ 1048576) (hab : a.length = b.length) : ∀ (d i : Nat), i + d = a.length →
  Ev (fun k => laws_eqInt64S.l0 k a b (i : Int)) (decide (a.drop i = b.drop i)) := by
 intro d
 induction d with
 | zero =>
  intro i hi
  refine Ev.succ ?_; simp only [laws_eqInt64S.l0]
  rw [List.drop_eq_nil_of_le (by omega), List.drop_eq_nil_of_le (by omega)]
  repeat (first | with_reducible exact Ev.now _ | dsimp only | refine Ev.pos (by first | omega | rfl | assumption | decide) ?_ | refine Ev.neg (by first | omega | assumption | exact Bool.false_ne_true | exact fun e => absurd e (by decide)) ?_ | simp only [bne_self_eq_false, Bool.not_true, Bool.not_false, List.length_cons, List.length_nil] | rw [wrap_id (by omega) (by omega)] | ((with_reducible refine Ev.eq (congrArg some ?_)); rfl))
 | succ d ih =>
  intro i hi
  refine Ev.succ ?_; simp only [laws_eqInt64S.l0]
  rw [List.drop_eq_getElem_cons (by omega : i < a.length), List.drop_eq_getElem_cons (by omega : i < b.length), wrap_succ (by omega)]
  by_cases e : rd a i = rd b i
  ·repeat (first | with_reducible exact Ev.now _ | dsimp only | refine Ev.pos (by first | omega | rfl | assumption | decide) ?_ | refine Ev.neg (by first | omega | assumption | exact Bool.false_ne_true | exact fun e => absurd e (by decide)) ?_ | simp only [bne_self_eq_false, Bool.not_true, Bool.not_false, List.length_cons, List.length_nil] | rw [wrap_id (by omega) (by omega)] | ((with_reducible refine Ev.eq (congrArg some ?_)); rfl))
   have := ih (i + 1) (by omega)
   rw [rd_lt (by omega), rd_lt (by omega)] at e
   rw [e, decide_cons]
   exact this
  ·rw [decide_eq_false (fun h => e (by rw [rd_lt (by omega), rd_lt (by omega)]; exact (List.cons.inj h).1))]
   repeat (first | with_reducible exact Ev.now _ | dsimp only | refine Ev.pos (by first | omega | rfl | assumption | decide) ?_ | refine Ev.neg (by first | omega | assumption | exact Bool.false_ne_true | exact fun e => absurd e (by decide)) ?_ | simp only [bne_self_eq_false, Bool.not_true, Bool.not_false, List.length_cons, List.length_nil] | rw [wrap_id (by omega) (by omega)] | ((with_reducible refine Ev.eq (congrArg some ?_)); rfl))

theorem eqInt64S (a b : List Int) (hl : a.length ≤ 1048576) : Ev (fun k => laws_eqInt64S.f k a b) (decide (a = b)) := by
 unfold laws_eqInt64S.f
 by_cases h : a.length = b.length
 ·repeat (first | with_reducible exact Ev.now _ | dsimp only | refine Ev.pos (by first | omega | rfl | assumption | decide) ?_ | refine Ev.neg (by first | omega | assumption | exact Bool.false_ne_true | exact fun e => absurd e (by decide)) ?_ | simp only [bne_self_eq_false, Bool.not_true, Bool.not_false, List.length_cons, List.length_nil] | rw [wrap_id (by omega) (by omega)] | ((with_reducible refine Ev.eq (congrArg some ?_)); rfl))
  exact eqInt64S_loop a b hl h a.length 0 (by omega)
 ·rw [decide_eq_false (fun e => h (by rw [e]))]
  repeat (first | with_reducible exact Ev.now _ | dsimp only | refine Ev.pos (by first | omega | rfl | assumption | decide) ?_ | refine Ev.neg (by first | omega | assumption | exact Bool.false_ne_true | exact fun e => absurd e (by decide)) ?_ | simp only [bne_self_eq_false, Bool.not_true, Bool.not_false, List.length_cons, List.length_nil] | rw [wrap_id (by omega) (by omega)] | ((with_reducible refine Ev.eq (congrArg some ?_)); rfl))

theorem eqInt64S_self (a : List Int) (hl : a.length ≤ 1048576) : Ev (fun k => laws_eqInt64S.f k a a) true :=
 Ev.conv (eqInt64S a a hl) (by simp)
theorem rl_lt {xs : List (List Int)} {i : Nat} (h : i < xs.length) : rd_L1 xs (i : Int) = xs[i] := by
 simp [rd_L1, List.getD_eq_getElem?_getD, h]

/-- Rows of which each, and their number, is of a moderate size. -/
def Mod (l : List (List Int)) : Prop := l.length ≤ 1048576 ∧ ∀ r ∈ l, r.length ≤ 1048576

theorem Mod.row {l : List (List Int)} (h : Mod l) {i : Nat} (hi : i < l.length) : l[i].length ≤ 1048576 := h.2 _ (List.getElem_mem hi)

theorem szInt64S (l : List Int) (a : Int) (h0 : 0 ≤ a) (h1 : a ≤ 1048576) (hl : l.length ≤ 9223372036854775807) : ∃ t, laws_szInt64S.f l a = some t ∧ (t < 0 ∨ (l.length ≤ 1048576 ∧ 0 ≤ t ∧ t ≤ a)) := by
 unfold laws_szInt64S.f
 rw [wrap_id (by omega) (by omega)]
 by_cases h : a - (l.length : Int) < 0
 ·exact ⟨-1, if_pos h, Or.inl (by omega)⟩
 ·exact ⟨_, if_neg h, Or.inr (by omega)⟩

theorem szInt64SS_loop (l : List (List Int)) (hl : l.length ≤ 1048576) (hr : ∀ r ∈ l, r.length ≤ 9223372036854775807) : ∀ (d i : Nat) (a : Int), i + d = l.length → 0 ≤ a → a ≤ 1048576 → (∀ j, (h : j < l.length) → j < i → l[j].length ≤ 1048576) →
  ∃ t, Ev (fun k => laws_szInt64SS.l0 k l a (i : Int)) t ∧ (t < 0 ∨ (Mod l ∧ 0 ≤ t ∧ t ≤ 1048576)) := by
 intro d
 induction d with
 | zero =>
  intro i a hi h0 h1 hm
  refine ⟨a, ?_, Or.inr ⟨⟨hl, fun r h => ?_⟩, h0, h1⟩⟩
  ·refine Ev.succ ?_; simp only [laws_szInt64SS.l0]
   repeat (first | with_reducible exact Ev.now _ | dsimp only | refine Ev.pos (by first | omega | rfl | assumption | decide) ?_ | refine Ev.neg (by first | omega | assumption | exact Bool.false_ne_true | exact fun e => absurd e (by decide)) ?_ | simp only [bne_self_eq_false, Bool.not_true, Bool.not_false, List.length_cons, List.length_nil] | rw [wrap_id (by omega) (by omega)] | ((with_reducible refine Ev.eq (congrArg some ?_)); rfl))
  ·obtain ⟨j, hj, rfl⟩ := List.getElem_of_mem h
   exact hm j hj (by omega)
 | succ d ih =>
  intro i a hi h0 h1 hm
  obtain ⟨t, ht, hc⟩ := szInt64S (l[i]'(by omega)) a h0 h1 (hr _ (List.getElem_mem _))
  rw [← rl_lt (by omega)] at ht
  rcases hc with hc | ⟨hc, hc0, hc1⟩
  ·refine ⟨-1, ?_, Or.inl (by omega)⟩
   refine Ev.succ ?_; simp only [laws_szInt64SS.l0]
   repeat (first | with_reducible exact Ev.now _ | dsimp only | with_reducible refine Ev.bind (Ev.eq ht) ?_ | refine Ev.pos (by first | omega | rfl | assumption | decide) ?_ | refine Ev.neg (by first | omega | assumption | exact Bool.false_ne_true | exact fun e => absurd e (by decide)) ?_ | simp only [bne_self_eq_false, Bool.not_true, Bool.not_false, List.length_cons, List.length_nil] | rw [wrap_id (by omega) (by omega)] | with_reducible exact (Ev.eq ht) | ((with_reducible refine Ev.eq (congrArg some ?_)); rfl))
  ·obtain ⟨t', h1', h2'⟩ := ih (i + 1) t (by omega) hc0 (by omega) (fun j hj hji => by
    by_cases e : j = i
    ·subst e; exact hc
    ·exact hm j hj (by omega))
   refine ⟨t', ?_, h2'⟩
   refine Ev.succ ?_; simp only [laws_szInt64SS.l0]
   rw [wrap_succ (by omega)]
   repeat (first | with_reducible exact Ev.now _ | dsimp only | with_reducible refine Ev.bind (Ev.eq ht) ?_ | refine Ev.pos (by first | omega | rfl | assumption | decide) ?_ | refine Ev.neg (by first | omega | assumption | exact Bool.false_ne_true | exact fun e => absurd e (by decide)) ?_ | simp only [bne_self_eq_false, Bool.not_true, Bool.not_false, List.length_cons, List.length_nil] | rw [wrap_id (by omega) (by omega)] | with_reducible exact (Ev.eq ht) | ((with_reducible refine Ev.eq (congrArg some ?_)); rfl))
   exact h1'

theorem szInt64SS (l : List (List Int)) (a : Int) (h0 : 0 ≤ a) (h1 : a ≤ 1048576) (hl : l.length ≤ 9223372036854775807) (hr : ∀ r ∈ l, r.length ≤ 9223372036854775807) : ∃ t, Ev (fun k => laws_szInt64SS.f k l a) t ∧ (t < 0 ∨ (Mod l ∧ 0 ≤ t ∧ t ≤ 1048576)) := by
 unfold laws_szInt64SS.f
 rw [wrap_id (by omega) (by omega)]
 by_cases h : a - (l.length : Int) < 0
 ·refine ⟨-1, ?_, Or.inl (by omega)⟩
  repeat (first | with_reducible exact Ev.now _ | dsimp only | refine Ev.pos (by first | omega | rfl | assumption | decide) ?_ | refine Ev.neg (by first | omega | assumption | exact Bool.false_ne_true | exact fun e => absurd e (by decide)) ?_ | simp only [bne_self_eq_false, Bool.not_true, Bool.not_false, List.length_cons, List.length_nil] | rw [wrap_id (by omega) (by omega)] | ((with_reducible refine Ev.eq (congrArg some ?_)); rfl))
 ·obtain ⟨t, h1, h2⟩ := szInt64SS_loop l (by omega) hr l.length 0 (a - (l.length : Int)) (by omega) (by omega) (by omega) (fun j _ hj => by omega)
  refine ⟨t, ?_, h2⟩
  repeat (first | with_reducible exact Ev.now _ | dsimp only | refine Ev.pos (by first | omega | rfl | assumption | decide) ?_ | refine Ev.neg (by first | omega | assumption | exact Bool.false_ne_true | exact fun e => absurd e (by decide)) ?_ | simp only [bne_self_eq_false, Bool.not_true, Bool.not_false, List.length_cons, List.length_nil] | rw [wrap_id (by omega) (by omega)] | ((with_reducible refine Ev.eq (congrArg some ?_)); rfl))
  exact h1

theorem szGraph (n : Int) (l : List (List Int)) (hl : l.length ≤ maxLen) (hr : ∀ r ∈ l, r.length ≤ maxLen ∧ ∀ y ∈ r, (Lit.int .i64 y).wf = true) : ∃ t, Ev (fun k => laws_szGraph.f k n l 1048576) t ∧ (t < 0 ∨ Mod l) := by
 obtain ⟨t, h1, h2⟩ := szInt64SS l 1048576 (by omega) (by omega) (by simp [maxLen] at hl; omega) (fun r h => by have := (hr r h).1; simp [maxLen] at this; omega)
 unfold laws_szGraph.f
 rcases h2 with h2 | ⟨h2, h3, h4⟩
 ·refine ⟨-1, ?_, Or.inl (by omega)⟩
  repeat (first | with_reducible exact Ev.now _ | dsimp only | with_reducible refine Ev.bind (h1) ?_ | refine Ev.pos (by first | omega | rfl | assumption | decide) ?_ | refine Ev.neg (by first | omega | assumption | exact Bool.false_ne_true | exact fun e => absurd e (by decide)) ?_ | simp only [bne_self_eq_false, Bool.not_true, Bool.not_false, List.length_cons, List.length_nil] | rw [wrap_id (by omega) (by omega)] | with_reducible exact (h1) | ((with_reducible refine Ev.eq (congrArg some ?_)); rfl))
 ·refine ⟨t, ?_, Or.inr h2⟩
  repeat (first | with_reducible exact Ev.now _ | dsimp only | with_reducible refine Ev.bind (h1) ?_ | refine Ev.pos (by first | omega | rfl | assumption | decide) ?_ | refine Ev.neg (by first | omega | assumption | exact Bool.false_ne_true | exact fun e => absurd e (by decide)) ?_ | simp only [bne_self_eq_false, Bool.not_true, Bool.not_false, List.length_cons, List.length_nil] | rw [wrap_id (by omega) (by omega)] | with_reducible exact (h1) | ((with_reducible refine Ev.eq (congrArg some ?_)); rfl))

theorem toInt64SS_loop (l : List (List Int)) (hl : Mod l) : ∀ (d i : Nat) (ys : List (List Int)), i + d = l.length → ys.length = l.length → ys.take i = l.take i →
  Ev (fun k => laws_toInt64SS.l0 k l ys (i : Int)) l := by
 have hl1 := hl.1
 intro d
 induction d with
 | zero =>
  intro i ys hi hy ht
  refine Ev.succ ?_; simp only [laws_toInt64SS.l0]
  repeat (first | with_reducible exact Ev.now _ | dsimp only | refine Ev.pos (by first | omega | rfl | assumption | decide) ?_ | refine Ev.neg (by first | omega | assumption | exact Bool.false_ne_true | exact fun e => absurd e (by decide)) ?_ | simp only [bne_self_eq_false, Bool.not_true, Bool.not_false, List.length_cons, List.length_nil] | rw [wrap_id (by omega) (by omega)] | ((with_reducible refine Ev.eq (congrArg some ?_)); rfl))
  exact Ev.eq (congrArg some (eq_of_take hy (by omega) ht))
 | succ d ih =>
  intro i ys hi hy ht
  refine Ev.succ ?_; simp only [laws_toInt64SS.l0]
  rw [wrap_succ (by omega), rl_lt (by omega)]
  repeat (first | with_reducible exact Ev.now _ | dsimp only | with_reducible refine Ev.bind (toInt64S _ (hl.row (by omega))) ?_ | refine Ev.pos (by first | omega | rfl | assumption | decide) ?_ | refine Ev.neg (by first | omega | assumption | exact Bool.false_ne_true | exact fun e => absurd e (by decide)) ?_ | simp only [bne_self_eq_false, Bool.not_true, Bool.not_false, List.length_cons, List.length_nil] | rw [wrap_id (by omega) (by omega)] | with_reducible exact (toInt64S _ (hl.row (by omega))) | ((with_reducible refine Ev.eq (congrArg some ?_)); rfl))
  exact ih (i + 1) _ (by omega) (by simpa using hy) (take_set_succ hy (by omega) rfl ht)

theorem toInt64SS (l : List (List Int)) (hl : Mod l) : Ev (fun k => laws_toInt64SS.f k l) l := by
 have hl1 := hl.1
 unfold laws_toInt64SS.f
 repeat (first | with_reducible exact Ev.now _ | dsimp only | refine Ev.pos (by first | omega | rfl | assumption | decide) ?_ | refine Ev.neg (by first | omega | assumption | exact Bool.false_ne_true | exact fun e => absurd e (by decide)) ?_ | simp only [bne_self_eq_false, Bool.not_true, Bool.not_false, List.length_cons, List.length_nil] | rw [wrap_id (by omega) (by omega)] | ((with_reducible refine Ev.eq (congrArg some ?_)); rfl))
 exact toInt64SS_loop l hl l.length 0 _ (by omega) (by simp) (by simp)

theorem toGraph (n : Int) (l : List (List Int)) (hl : Mod l) : Ev (fun k => laws_toGraph.f k n l) (n, l) := by
 unfold laws_toGraph.f
 repeat (first | with_reducible exact Ev.now _ | dsimp only | with_reducible refine Ev.bind (toInt64SS l hl) ?_ | refine Ev.pos (by first | omega | rfl | assumption | decide) ?_ | refine Ev.neg (by first | omega | assumption | exact Bool.false_ne_true | exact fun e => absurd e (by decide)) ?_ | simp only [bne_self_eq_false, Bool.not_true, Bool.not_false, List.length_cons, List.length_nil] | rw [wrap_id (by omega) (by omega)] | with_reducible exact (toInt64SS l hl) | ((with_reducible refine Ev.eq (congrArg some ?_)); rfl))

theorem eqInt64SS_self_loop (a : List (List Int)) (hl : Mod a) : ∀ (d i : Nat), i + d = a.length →
  Ev (fun k => laws_eqInt64SS.l0 k a a (i : Int)) true := by
 have hl1 := hl.1
 intro d
 induction d with
 | zero =>
  intro i hi
  refine Ev.succ ?_; simp only [laws_eqInt64SS.l0]
  repeat (first | with_reducible exact Ev.now _ | dsimp only | refine Ev.pos (by first | omega | rfl | assumption | decide) ?_ | refine Ev.neg (by first | omega | assumption | exact Bool.false_ne_true | exact fun e => absurd e (by decide)) ?_ | simp only [bne_self_eq_false, Bool.not_true, Bool.not_false, List.length_cons, List.length_nil] | rw [wrap_id (by omega) (by omega)] | ((with_reducible refine Ev.eq (congrArg some ?_)); rfl))
 | succ d ih =>
  intro i hi
  refine Ev.succ ?_; simp only [laws_eqInt64SS.l0]
  rw [rl_lt (by omega), wrap_succ (by omega)]
  repeat (first | with_reducible exact Ev.now _ | dsimp only | with_reducible refine Ev.bind (eqInt64S_self _ (hl.row (by omega))) ?_ | refine Ev.pos (by first | omega | rfl | assumption | decide) ?_ | refine Ev.neg (by first | omega | assumption | exact Bool.false_ne_true | exact fun e => absurd e (by decide)) ?_ | simp only [bne_self_eq_false, Bool.not_true, Bool.not_false, List.length_cons, List.length_nil] | rw [wrap_id (by omega) (by omega)] | with_reducible exact (eqInt64S_self _ (hl.row (by omega))) | ((with_reducible refine Ev.eq (congrArg some ?_)); rfl))
  exact ih (i + 1) (by omega)

theorem eqInt64SS_self (a : List (List Int)) (hl : Mod a) : Ev (fun k => laws_eqInt64SS.f k a a) true := by
 unfold laws_eqInt64SS.f
 repeat (first | with_reducible exact Ev.now _ | dsimp only | refine Ev.pos (by first | omega | rfl | assumption | decide) ?_ | refine Ev.neg (by first | omega | assumption | exact Bool.false_ne_true | exact fun e => absurd e (by decide)) ?_ | simp only [bne_self_eq_false, Bool.not_true, Bool.not_false, List.length_cons, List.length_nil] | rw [wrap_id (by omega) (by omega)] | ((with_reducible refine Ev.eq (congrArg some ?_)); rfl))
 exact eqInt64SS_self_loop a hl a.length 0 (by omega)

theorem eqGraph_self (n : Int) (a : List (List Int)) (hl : Mod a) : Ev (fun k => laws_eqGraph.f k n a n a) true := by
 unfold laws_eqGraph.f
 repeat (first | with_reducible exact Ev.now _ | dsimp only | with_reducible refine Ev.bind (eqInt64SS_self a hl) ?_ | refine Ev.pos (by first | omega | rfl | assumption | decide) ?_ | refine Ev.neg (by first | omega | assumption | exact Bool.false_ne_true | exact fun e => absurd e (by decide)) ?_ | simp only [bne_self_eq_false, Bool.not_true, Bool.not_false, List.length_cons, List.length_nil] | rw [wrap_id (by omega) (by omega)] | with_reducible exact (eqInt64SS_self a hl) | ((with_reducible refine Ev.eq (congrArg some ?_)); rfl))
theorem specIn (a b c : Int) : spec_l01In.f a b c = some (decide (b ≤ a ∧ a ≤ c)) := by
 unfold spec_l01In.f
 by_cases h : b ≤ a
 ·rw [if_pos h]; simp [h]
 ·rw [if_neg h]; simp [h]

theorem implWithin (a b c : Int) : impl_within.f a b c = some (decide (b ≤ a ∧ a ≤ c)) := by
 unfold impl_within.f
 by_cases h : b ≤ a
 ·rw [if_pos h]; simp [h]
 ·rw [if_neg h]; simp [h]

/-- One edge's test. -/
def okEdge (n : Int) (e : List Int) : Bool := decide (e.length = 2) && (decide (0 ≤ rd e 0 ∧ rd e 0 ≤ wrap64 (n - 1)) && decide (0 ≤ rd e 1 ∧ rd e 1 ≤ wrap64 (n - 1)))

def isGraph (n : Int) (l : List (List Int)) : Bool := l.all (okEdge n) && (decide (1 ≤ n ∧ n ≤ 8) && decide ((l.length : Int) ≤ 10))

theorem specIs_loop (n : Int) (l : List (List Int)) (hl : Mod l) : ∀ (d i : Nat), i + d = l.length →
  Ev (fun k => spec_l01Is.l0 k (i : Int) n l) ((l.drop i).all (okEdge n)) := by
 have hl1 := hl.1
 intro d
 induction d with
 | zero =>
  intro i hi
  refine Ev.succ ?_; simp only [spec_l01Is.l0]
  rw [List.drop_eq_nil_of_le (by omega)]
  repeat (first | with_reducible exact Ev.now _ | dsimp only | refine Ev.pos (by first | omega | rfl | assumption | decide) ?_ | refine Ev.neg (by first | omega | assumption | exact Bool.false_ne_true | exact fun e => absurd e (by decide)) ?_ | simp only [bne_self_eq_false, Bool.not_true, Bool.not_false, List.length_cons, List.length_nil] | rw [wrap_id (by omega) (by omega)] | ((with_reducible refine Ev.eq (congrArg some ?_)); rfl))
 | succ d ih =>
  intro i hi
  refine Ev.succ ?_; simp only [spec_l01Is.l0]
  rw [List.drop_eq_getElem_cons (by omega : i < l.length), List.all_cons, rl_lt (by omega), wrap_succ (by omega)]
  generalize l[i] = e
  have := ih (i + 1) (by omega)
  unfold okEdge
  by_cases h2 : (e.length : Int) = 2
  ·rw [decide_eq_true (show e.length = 2 by omega), Bool.true_and]
   by_cases ha : 0 ≤ rd e 0 ∧ rd e 0 ≤ wrap64 (n - 1)
   ·by_cases hb : 0 ≤ rd e 1 ∧ rd e 1 ≤ wrap64 (n - 1)
    ·rw [decide_eq_true ha, decide_eq_true hb, Bool.true_and, Bool.true_and]
     repeat (first | with_reducible exact Ev.now _ | dsimp only | with_reducible refine Ev.bind (Ev.eq ((specIn _ _ _).trans (congrArg some (decide_eq_true ha)))) ?_ | with_reducible refine Ev.bind (Ev.eq ((specIn _ _ _).trans (congrArg some (decide_eq_true hb)))) ?_ | refine Ev.pos (by first | omega | rfl | assumption | decide) ?_ | refine Ev.neg (by first | omega | assumption | exact Bool.false_ne_true | exact fun e => absurd e (by decide)) ?_ | simp only [bne_self_eq_false, Bool.not_true, Bool.not_false, List.length_cons, List.length_nil] | rw [wrap_id (by omega) (by omega)] | with_reducible exact (Ev.eq ((specIn _ _ _).trans (congrArg some (decide_eq_true ha)))) | with_reducible exact (Ev.eq ((specIn _ _ _).trans (congrArg some (decide_eq_true hb)))) | ((with_reducible refine Ev.eq (congrArg some ?_)); rfl))
     exact this
    ·rw [decide_eq_false hb, Bool.and_false, Bool.false_and]
     repeat (first | with_reducible exact Ev.now _ | dsimp only | with_reducible refine Ev.bind (Ev.eq ((specIn _ _ _).trans (congrArg some (decide_eq_true ha)))) ?_ | with_reducible refine Ev.bind (Ev.eq ((specIn _ _ _).trans (congrArg some (decide_eq_false hb)))) ?_ | refine Ev.pos (by first | omega | rfl | assumption | decide) ?_ | refine Ev.neg (by first | omega | assumption | exact Bool.false_ne_true | exact fun e => absurd e (by decide)) ?_ | simp only [bne_self_eq_false, Bool.not_true, Bool.not_false, List.length_cons, List.length_nil] | rw [wrap_id (by omega) (by omega)] | with_reducible exact (Ev.eq ((specIn _ _ _).trans (congrArg some (decide_eq_true ha)))) | with_reducible exact (Ev.eq ((specIn _ _ _).trans (congrArg some (decide_eq_false hb)))) | ((with_reducible refine Ev.eq (congrArg some ?_)); rfl))
   ·rw [decide_eq_false ha, Bool.false_and, Bool.false_and]
    repeat (first | with_reducible exact Ev.now _ | dsimp only | with_reducible refine Ev.bind (Ev.eq ((specIn _ _ _).trans (congrArg some (decide_eq_false ha)))) ?_ | refine Ev.pos (by first | omega | rfl | assumption | decide) ?_ | refine Ev.neg (by first | omega | assumption | exact Bool.false_ne_true | exact fun e => absurd e (by decide)) ?_ | simp only [bne_self_eq_false, Bool.not_true, Bool.not_false, List.length_cons, List.length_nil] | rw [wrap_id (by omega) (by omega)] | with_reducible exact (Ev.eq ((specIn _ _ _).trans (congrArg some (decide_eq_false ha)))) | ((with_reducible refine Ev.eq (congrArg some ?_)); rfl))
  ·rw [decide_eq_false (show ¬ e.length = 2 by omega), Bool.false_and, Bool.false_and]
   repeat (first | with_reducible exact Ev.now _ | dsimp only | refine Ev.pos (by first | omega | rfl | assumption | decide) ?_ | refine Ev.neg (by first | omega | assumption | exact Bool.false_ne_true | exact fun e => absurd e (by decide)) ?_ | simp only [bne_self_eq_false, Bool.not_true, Bool.not_false, List.length_cons, List.length_nil] | rw [wrap_id (by omega) (by omega)] | ((with_reducible refine Ev.eq (congrArg some ?_)); rfl))

theorem specIs (n : Int) (l : List (List Int)) (hl : Mod l) : Ev (fun k => spec_l01Is.f k n l) (isGraph n l) := by
 unfold spec_l01Is.f isGraph
 by_cases h1 : 1 ≤ n ∧ n ≤ 8
 ·rw [decide_eq_true h1, Bool.true_and]
  repeat (first | with_reducible exact Ev.now _ | dsimp only | with_reducible refine Ev.bind (Ev.eq ((specIn n 1 8).trans (congrArg some (decide_eq_true h1)))) ?_ | refine Ev.pos (by first | omega | rfl | assumption | decide) ?_ | refine Ev.neg (by first | omega | assumption | exact Bool.false_ne_true | exact fun e => absurd e (by decide)) ?_ | simp only [bne_self_eq_false, Bool.not_true, Bool.not_false, List.length_cons, List.length_nil] | rw [wrap_id (by omega) (by omega)] | with_reducible exact (Ev.eq ((specIn n 1 8).trans (congrArg some (decide_eq_true h1)))) | ((with_reducible refine Ev.eq (congrArg some ?_)); rfl))
  refine Ev.succ ?_
  simp only [spec_l01Is.j0]
  by_cases h2 : (l.length : Int) ≤ 10
  ·rw [decide_eq_true h2, decide_eq_false (show ¬ (l.length : Int) > 10 by omega), Bool.and_true]
   repeat (first | with_reducible exact Ev.now _ | dsimp only | refine Ev.pos (by first | omega | rfl | assumption | decide) ?_ | refine Ev.neg (by first | omega | assumption | exact Bool.false_ne_true | exact fun e => absurd e (by decide)) ?_ | simp only [bne_self_eq_false, Bool.not_true, Bool.not_false, List.length_cons, List.length_nil] | rw [wrap_id (by omega) (by omega)] | ((with_reducible refine Ev.eq (congrArg some ?_)); rfl))
   exact specIs_loop n l hl l.length 0 (by omega)
  ·rw [decide_eq_false h2, decide_eq_true (show (l.length : Int) > 10 by omega), Bool.and_false]
   repeat (first | with_reducible exact Ev.now _ | dsimp only | refine Ev.pos (by first | omega | rfl | assumption | decide) ?_ | refine Ev.neg (by first | omega | assumption | exact Bool.false_ne_true | exact fun e => absurd e (by decide)) ?_ | simp only [bne_self_eq_false, Bool.not_true, Bool.not_false, List.length_cons, List.length_nil] | rw [wrap_id (by omega) (by omega)] | ((with_reducible refine Ev.eq (congrArg some ?_)); rfl))
 ·rw [decide_eq_false h1, Bool.false_and, Bool.and_false]
  repeat (first | with_reducible exact Ev.now _ | dsimp only | with_reducible refine Ev.bind (Ev.eq ((specIn n 1 8).trans (congrArg some (decide_eq_false h1)))) ?_ | refine Ev.pos (by first | omega | rfl | assumption | decide) ?_ | refine Ev.neg (by first | omega | assumption | exact Bool.false_ne_true | exact fun e => absurd e (by decide)) ?_ | simp only [bne_self_eq_false, Bool.not_true, Bool.not_false, List.length_cons, List.length_nil] | rw [wrap_id (by omega) (by omega)] | with_reducible exact (Ev.eq ((specIn n 1 8).trans (congrArg some (decide_eq_false h1)))) | ((with_reducible refine Ev.eq (congrArg some ?_)); rfl))
  refine Ev.succ ?_
  simp only [spec_l01Is.j0]
  repeat (first | with_reducible exact Ev.now _ | dsimp only | refine Ev.pos (by first | omega | rfl | assumption | decide) ?_ | refine Ev.neg (by first | omega | assumption | exact Bool.false_ne_true | exact fun e => absurd e (by decide)) ?_ | simp only [bne_self_eq_false, Bool.not_true, Bool.not_false, List.length_cons, List.length_nil] | rw [wrap_id (by omega) (by omega)] | ((with_reducible refine Ev.eq (congrArg some ?_)); rfl))

theorem implIs_loop (n : Int) (l : List (List Int)) (hl : Mod l) : ∀ (d i : Nat), i + d = l.length →
  Ev (fun k => impl_IsGraph.l0 k l (l.length : Int) (i : Int) n l) ((l.drop i).all (okEdge n) && (decide (1 ≤ n ∧ n ≤ 8) && decide ((l.length : Int) ≤ 10))) := by
 have hl1 := hl.1
 intro d
 induction d with
 | zero =>
  intro i hi
  refine Ev.succ ?_; simp only [impl_IsGraph.l0]
  rw [List.drop_eq_nil_of_le (by omega), List.all_nil, Bool.true_and]
  by_cases h1 : 1 ≤ n ∧ n ≤ 8
  ·rw [decide_eq_true h1, Bool.true_and]
   repeat (first | with_reducible exact Ev.now _ | dsimp only | with_reducible refine Ev.bind (Ev.eq ((implWithin n 1 8).trans (congrArg some (decide_eq_true h1)))) ?_ | refine Ev.pos (by first | omega | rfl | assumption | decide) ?_ | refine Ev.neg (by first | omega | assumption | exact Bool.false_ne_true | exact fun e => absurd e (by decide)) ?_ | simp only [bne_self_eq_false, Bool.not_true, Bool.not_false, List.length_cons, List.length_nil] | rw [wrap_id (by omega) (by omega)] | with_reducible exact (Ev.eq ((implWithin n 1 8).trans (congrArg some (decide_eq_true h1)))) | ((with_reducible refine Ev.eq (congrArg some ?_)); rfl))
  ·rw [decide_eq_false h1, Bool.false_and]
   repeat (first | with_reducible exact Ev.now _ | dsimp only | with_reducible refine Ev.bind (Ev.eq ((implWithin n 1 8).trans (congrArg some (decide_eq_false h1)))) ?_ | refine Ev.pos (by first | omega | rfl | assumption | decide) ?_ | refine Ev.neg (by first | omega | assumption | exact Bool.false_ne_true | exact fun e => absurd e (by decide)) ?_ | simp only [bne_self_eq_false, Bool.not_true, Bool.not_false, List.length_cons, List.length_nil] | rw [wrap_id (by omega) (by omega)] | with_reducible exact (Ev.eq ((implWithin n 1 8).trans (congrArg some (decide_eq_false h1)))) | ((with_reducible refine Ev.eq (congrArg some ?_)); rfl))
 | succ d ih =>
  intro i hi
  refine Ev.succ ?_; simp only [impl_IsGraph.l0]
  rw [List.drop_eq_getElem_cons (by omega : i < l.length), List.all_cons, rl_lt (by omega), wrap_succ (by omega)]
  generalize l[i] = e
  have := ih (i + 1) (by omega)
  unfold okEdge at this ⊢
  by_cases h2 : (e.length : Int) = 2
  ·rw [decide_eq_true (show e.length = 2 by omega), Bool.true_and]
   by_cases ha : 0 ≤ rd e 0 ∧ rd e 0 ≤ wrap64 (n - 1)
   ·by_cases hb : 0 ≤ rd e 1 ∧ rd e 1 ≤ wrap64 (n - 1)
    ·rw [decide_eq_true ha, decide_eq_true hb, Bool.true_and, Bool.true_and]
     repeat (first | with_reducible exact Ev.now _ | dsimp only | with_reducible refine Ev.bind (Ev.eq ((implWithin _ _ _).trans (congrArg some (decide_eq_true ha)))) ?_ | with_reducible refine Ev.bind (Ev.eq ((implWithin _ _ _).trans (congrArg some (decide_eq_true hb)))) ?_ | refine Ev.pos (by first | omega | rfl | assumption | decide) ?_ | refine Ev.neg (by first | omega | assumption | exact Bool.false_ne_true | exact fun e => absurd e (by decide)) ?_ | simp only [bne_self_eq_false, Bool.not_true, Bool.not_false, List.length_cons, List.length_nil] | rw [wrap_id (by omega) (by omega)] | with_reducible exact (Ev.eq ((implWithin _ _ _).trans (congrArg some (decide_eq_true ha)))) | with_reducible exact (Ev.eq ((implWithin _ _ _).trans (congrArg some (decide_eq_true hb)))) | ((with_reducible refine Ev.eq (congrArg some ?_)); rfl))
     exact this
    ·rw [decide_eq_false hb, Bool.and_false, Bool.false_and, Bool.false_and]
     repeat (first | with_reducible exact Ev.now _ | dsimp only | with_reducible refine Ev.bind (Ev.eq ((implWithin _ _ _).trans (congrArg some (decide_eq_true ha)))) ?_ | with_reducible refine Ev.bind (Ev.eq ((implWithin _ _ _).trans (congrArg some (decide_eq_false hb)))) ?_ | refine Ev.pos (by first | omega | rfl | assumption | decide) ?_ | refine Ev.neg (by first | omega | assumption | exact Bool.false_ne_true | exact fun e => absurd e (by decide)) ?_ | simp only [bne_self_eq_false, Bool.not_true, Bool.not_false, List.length_cons, List.length_nil] | rw [wrap_id (by omega) (by omega)] | with_reducible exact (Ev.eq ((implWithin _ _ _).trans (congrArg some (decide_eq_true ha)))) | with_reducible exact (Ev.eq ((implWithin _ _ _).trans (congrArg some (decide_eq_false hb)))) | ((with_reducible refine Ev.eq (congrArg some ?_)); rfl))
   ·rw [decide_eq_false ha, Bool.false_and, Bool.false_and, Bool.false_and]
    repeat (first | with_reducible exact Ev.now _ | dsimp only | with_reducible refine Ev.bind (Ev.eq ((implWithin _ _ _).trans (congrArg some (decide_eq_false ha)))) ?_ | refine Ev.pos (by first | omega | rfl | assumption | decide) ?_ | refine Ev.neg (by first | omega | assumption | exact Bool.false_ne_true | exact fun e => absurd e (by decide)) ?_ | simp only [bne_self_eq_false, Bool.not_true, Bool.not_false, List.length_cons, List.length_nil] | rw [wrap_id (by omega) (by omega)] | with_reducible exact (Ev.eq ((implWithin _ _ _).trans (congrArg some (decide_eq_false ha)))) | ((with_reducible refine Ev.eq (congrArg some ?_)); rfl))
  ·rw [decide_eq_false (show ¬ e.length = 2 by omega), Bool.false_and, Bool.false_and, Bool.false_and]
   repeat (first | with_reducible exact Ev.now _ | dsimp only | refine Ev.pos (by first | omega | rfl | assumption | decide) ?_ | refine Ev.neg (by first | omega | assumption | exact Bool.false_ne_true | exact fun e => absurd e (by decide)) ?_ | simp only [bne_self_eq_false, Bool.not_true, Bool.not_false, List.length_cons, List.length_nil] | rw [wrap_id (by omega) (by omega)] | ((with_reducible refine Ev.eq (congrArg some ?_)); rfl))

theorem implIsGraph (n : Int) (l : List (List Int)) (hl : Mod l) : Ev (fun k => impl_IsGraph.f k n l) (isGraph n l) := by
 unfold impl_IsGraph.f
 exact implIs_loop n l hl l.length 0 (by omega)

theorem len_two {α : Type} {e : List α} (h : e.length = 2) : ∃ a b, e = [a, b] := by
 match e, h with
 | [a, b], _ => exact ⟨a, b, rfl⟩

theorem isGraph_iff (n : Int) (l : List (List Int)) : isGraph n l = true ↔ 1 ≤ n ∧ n ≤ 8 ∧ l.length ≤ 10 ∧ ∀ e ∈ l, ∃ a b : Int, e = [a, b] ∧ 0 ≤ a ∧ a < n ∧ 0 ≤ b ∧ b < n := by
 unfold isGraph
 rw [Bool.and_eq_true, Bool.and_eq_true, decide_eq_true_iff, decide_eq_true_iff, List.all_eq_true]
 constructor
 ·rintro ⟨h, ⟨h1, h2⟩, h3⟩
  refine ⟨h1, h2, by omega, fun e he => ?_⟩
  have := h e he
  unfold okEdge at this
  rw [Bool.and_eq_true, Bool.and_eq_true, decide_eq_true_iff, decide_eq_true_iff, decide_eq_true_iff, wrap_id (by omega) (by omega)] at this
  obtain ⟨he2, ha, hb⟩ := this
  obtain ⟨a, b, rfl⟩ := len_two he2
  simp only [show rd [a, b] 0 = a from rfl, show rd [a, b] 1 = b from rfl] at ha hb
  exact ⟨a, b, rfl, by omega, by omega, by omega, by omega⟩
 ·rintro ⟨h1, h2, h3, h⟩
  refine ⟨fun e he => ?_, ⟨h1, h2⟩, by omega⟩
  obtain ⟨a, b, rfl, h4, h5, h6, h7⟩ := h e he
  unfold okEdge
  rw [Bool.and_eq_true, Bool.and_eq_true, decide_eq_true_iff, decide_eq_true_iff, decide_eq_true_iff, wrap_id (by omega) (by omega)]
  simp only [show rd [a, b] 0 = a from rfl, show rd [a, b] 1 = b from rfl]
  exact ⟨rfl, by omega, by omega⟩
theorem graph_edge {n : Int} {l : List (List Int)} (h : isGraph n l = true) {i : Nat} (hi : i < l.length) :
  (rd_L1 l (i : Int)).length = 2 ∧ ∃ a b : Nat, rd (rd_L1 l (i : Int)) 0 = a ∧ rd (rd_L1 l (i : Int)) 1 = b ∧ (a : Int) < n ∧ (b : Int) < n := by
 rw [rl_lt hi]
 obtain ⟨h1, h2, h3, h4⟩ := (isGraph_iff n l).1 h
 obtain ⟨a, b, e, ha, ha', hb, hb'⟩ := h4 _ (List.getElem_mem hi)
 rw [e]
 refine ⟨rfl, a.toNat, b.toNat, ?_, ?_, by omega, by omega⟩
 ·show a = _
  omega
 ·show b = _
  omega

theorem graph_small {n : Int} {l : List (List Int)} (h : isGraph n l = true) : 1 ≤ n ∧ n ≤ 8 ∧ l.length ≤ 10 := by
 obtain ⟨h1, h2, h3, h4⟩ := (isGraph_iff n l).1 h
 exact ⟨h1, h2, h3⟩
/-- The directed edge's start, its end, and its reverse. -/
def tl (l : List (List Int)) (p : Nat) : Int := if p % 2 = 1 then rd (rd_L1 l ((p / 2 : Nat) : Int)) 1 else rd (rd_L1 l ((p / 2 : Nat) : Int)) 0
def hd (l : List (List Int)) (p : Nat) : Int := if p % 2 = 1 then rd (rd_L1 l ((p / 2 : Nat) : Int)) 0 else rd (rd_L1 l ((p / 2 : Nat) : Int)) 1
def inv (p : Nat) : Nat := if p % 2 = 0 then p + 1 else p - 1
def next (l : List (List Int)) (p q : Nat) : Bool := decide (hd l p = tl l q) && decide (q ≠ inv p)

theorem half (p : Nat) (h : p < 1000) : wrap64 (Int.tdiv (p : Int) 2) = ((p / 2 : Nat) : Int) := by
 rw [Int.tdiv_eq_ediv_of_nonneg (by omega), wrap_id (by omega) (by omega)]
 omega

theorem rest2 (p : Nat) : Int.tmod (p : Int) 2 = ((p % 2 : Nat) : Int) := by
 rw [Int.tmod_eq_emod_of_nonneg (by omega)]
 omega

section
variable {n : Int} {l : List (List Int)} (h : isGraph n l = true)
include h

theorem specEnds {p : Nat} (hp : p < 2 * l.length) : spec_l01Ends.f n l (p : Int) = some (tl l p, hd l p) := by
 obtain ⟨g1, g2, g3⟩ := graph_small h
 obtain ⟨e2, a, b, ea, eb, ha, hb⟩ := graph_edge h (show p / 2 < l.length by omega)
 unfold spec_l01Ends.f tl hd
 rw [half p (by omega), rest2, if_pos (by omega), if_pos (by omega)]
 by_cases c : p % 2 = 1
 ·rw [if_pos (show ((p % 2 : Nat) : Int) = 1 by omega), if_pos (by omega), if_pos (by omega), if_pos c, if_pos c]
 ·rw [if_neg (show ¬ ((p % 2 : Nat) : Int) = 1 by omega), if_pos (by omega), if_pos (by omega), if_neg c, if_neg c]

end
def zeros (n : Nat) : List (List Int) := List.replicate n (List.replicate n 0)

theorem rep_succ {α : Type} (n : Nat) (x : α) : List.replicate n x ++ [x] = List.replicate (n + 1) x := List.replicate_succ'.symm

theorem implSquare (n : Int) (h0 : 0 ≤ n) (h1 : n ≤ 1000) : Ev (fun k => impl_square.f k n) (zeros n.toNat) := by
 have : ∀ (d v : Nat), (v : Int) + d = n → Ev (fun k => impl_square.l0 k n (List.replicate v (List.replicate n.toNat 0)) n (v : Int)) (zeros n.toNat) := by
  intro d
  induction d with
  | zero =>
   intro v hv
   refine Ev.succ ?_; simp only [impl_square.l0]
   rw [show v = n.toNat by omega]
   repeat (first | with_reducible exact Ev.now _ | dsimp only | refine Ev.pos (by first | omega | rfl | assumption | decide) ?_ | refine Ev.neg (by first | omega | assumption | exact Bool.false_ne_true | exact fun e => absurd e (by decide)) ?_ | simp only [bne_self_eq_false, Bool.not_true, Bool.not_false, List.length_cons, List.length_nil] | rw [wrap_id (by omega) (by omega)] | ((with_reducible refine Ev.eq (congrArg some ?_)); rfl))
  | succ d ih =>
   intro v hv
   have := ih (v + 1) (by omega)
   rw [← rep_succ] at this
   refine Ev.succ ?_; simp only [impl_square.l0]
   rw [wrap_succ (by omega)]
   refine Ev.pos (by omega) ?_
   refine Ev.pos (by omega) ?_
   refine Ev.pos (by omega) ?_
   refine Ev.pos (by simp; omega) ?_
   exact this
 exact this n.toNat 0 (by omega)
theorem markInt64S_loop (n : Nat) (hn : n ≤ 1048576) (a : Int) (h0 : 0 ≤ a) (h1 : a ≤ 1125899906842624) : ∀ (d i : Nat) (ys : List Int), i + d = n → ys.length = n → ys.take i = (marks a n).take i →
  Ev (fun k => laws_markInt64S.l0 k ys (a + i) (i : Int)) (a + n, marks a n) := by
 intro d
 induction d with
 | zero =>
  intro i ys hi hy ht
  refine Ev.succ ?_; simp only [laws_markInt64S.l0]
  rw [show ys = marks a n from eq_of_take (by rw [hy, marks_length]) (by rw [marks_length]; omega) ht, show i = n by omega]
  have := marks_length a n
  repeat (first | with_reducible exact Ev.now _ | dsimp only | refine Ev.pos (by first | omega | rfl | assumption | decide) ?_ | refine Ev.neg (by first | omega | assumption | exact Bool.false_ne_true | exact fun e => absurd e (by decide)) ?_ | simp only [bne_self_eq_false, Bool.not_true, Bool.not_false, List.length_cons, List.length_nil] | rw [wrap_id (by omega) (by omega)] | ((with_reducible refine Ev.eq (congrArg some ?_)); rfl))
 | succ d ih =>
  intro i ys hi hy ht
  refine Ev.succ ?_; simp only [laws_markInt64S.l0]
  rw [wrap_succ (by omega), wrap_id (x := a + i + 1) (by omega) (by omega)]
  repeat (first | with_reducible exact Ev.now _ | dsimp only | refine Ev.pos (by first | omega | rfl | assumption | decide) ?_ | refine Ev.neg (by first | omega | assumption | exact Bool.false_ne_true | exact fun e => absurd e (by decide)) ?_ | simp only [bne_self_eq_false, Bool.not_true, Bool.not_false, List.length_cons, List.length_nil] | rw [wrap_id (by omega) (by omega)] | ((with_reducible refine Ev.eq (congrArg some ?_)); rfl))
  have := ih (i + 1) (ys.set i (a + i)) (by omega) (by simpa using hy) (take_set_succ (by rw [hy, marks_length]) (by rw [marks_length]; omega) (marks_get a n i (by rw [marks_length]; omega)).symm ht)
  rw [show a + ((i + 1 : Nat) : Int) = a + i + 1 by omega] at this
  exact this

theorem markInt64S (l : List Int) (hl : l.length ≤ 1048576) (a : Int) (h0 : 0 ≤ a) (h1 : a ≤ 1125899906842624) : Ev (fun k => laws_markInt64S.f k l a) (a + l.length, marks a l.length) := by
 unfold laws_markInt64S.f
 have := markInt64S_loop l.length hl a h0 h1 l.length 0 l (by omega) rfl (by simp)
 rw [show a + ((0 : Nat) : Int) = a by omega] at this
 exact this

theorem heldInt64S_loop (n : Nat) (hn : n ≤ 1048576) (a : Int) (h0 : 0 ≤ a) (h1 : a ≤ 1125899906842624) : ∀ (d i : Nat), i + d = n →
  Ev (fun k => laws_heldInt64S.l0 k (marks a n) (a + i) (i : Int)) (a + n) := by
 have hm := marks_length a n
 intro d
 induction d with
 | zero =>
  intro i hi
  refine Ev.succ ?_; simp only [laws_heldInt64S.l0]
  rw [show i = n by omega]
  repeat (first | with_reducible exact Ev.now _ | dsimp only | refine Ev.pos (by first | omega | rfl | assumption | decide) ?_ | refine Ev.neg (by first | omega | assumption | exact Bool.false_ne_true | exact fun e => absurd e (by decide)) ?_ | simp only [bne_self_eq_false, Bool.not_true, Bool.not_false, List.length_cons, List.length_nil] | rw [wrap_id (by omega) (by omega)] | ((with_reducible refine Ev.eq (congrArg some ?_)); rfl))
 | succ d ih =>
  intro i hi
  refine Ev.succ ?_; simp only [laws_heldInt64S.l0]
  rw [wrap_succ (by omega), wrap_id (x := a + i + 1) (by omega) (by omega)]
  have e := marks_get a n i (by omega)
  rw [← rd_lt] at e
  have := ih (i + 1) (by omega)
  rw [show a + ((i + 1 : Nat) : Int) = a + i + 1 by omega] at this
  repeat (first | with_reducible exact Ev.now _ | dsimp only | refine Ev.pos (by first | omega | rfl | assumption | decide) ?_ | refine Ev.neg (by first | omega | assumption | exact Bool.false_ne_true | exact fun e => absurd e (by decide)) ?_ | simp only [bne_self_eq_false, Bool.not_true, Bool.not_false, List.length_cons, List.length_nil] | rw [wrap_id (by omega) (by omega)] | ((with_reducible refine Ev.eq (congrArg some ?_)); rfl))
  exact this

theorem heldInt64S (a : Int) (n : Nat) (hn : n ≤ 1048576) (h0 : 0 ≤ a) (h1 : a ≤ 1125899906842624) : Ev (fun k => laws_heldInt64S.f k (marks a n) a) (a + n) := by
 unfold laws_heldInt64S.f
 have := heldInt64S_loop n hn a h0 h1 n 0 (by omega)
 rw [show a + ((0 : Nat) : Int) = a by omega] at this
 exact this
theorem markInt64SS_loop : ∀ (d i : Nat) (xs : List (List Int)) (a : Int), i + d = xs.length → xs.length ≤ 1048576 → (∀ r ∈ xs, r.length ≤ 1048576) → 0 ≤ a → a ≤ 1 + 1048576 * i →
  ∃ r : Int × List (List Int), Ev (fun k => laws_markInt64SS.l0 k xs a (i : Int)) r ∧ 0 ≤ r.1 ∧ r.1 ≤ 1 + 1048576 * xs.length := by
 intro d
 induction d with
 | zero =>
  intro i xs a hi hx hr h0 h1
  refine ⟨(a, xs), ?_, h0, by simp only; omega⟩
  refine Ev.succ ?_; simp only [laws_markInt64SS.l0]
  repeat (first | with_reducible exact Ev.now _ | dsimp only | refine Ev.pos (by first | omega | rfl | assumption | decide) ?_ | refine Ev.neg (by first | omega | assumption | exact Bool.false_ne_true | exact fun e => absurd e (by decide)) ?_ | simp only [bne_self_eq_false, Bool.not_true, Bool.not_false, List.length_cons, List.length_nil] | rw [wrap_id (by omega) (by omega)] | ((with_reducible refine Ev.eq (congrArg some ?_)); rfl))
 | succ d ih =>
  intro i xs a hi hx hr h0 h1
  have hlen : xs[i].length ≤ 1048576 := hr _ (List.getElem_mem (by omega))
  obtain ⟨r, h2, h3⟩ := ih (i + 1) (xs.set i (marks a xs[i].length)) (a + xs[i].length) (by simp; omega) (by simpa using hx) (fun r hm => by
   rcases List.mem_or_eq_of_mem_set hm with h | h
   ·exact hr r h
   ·rw [h, marks_length]; exact hlen) (by omega) (by omega)
  rw [List.length_set] at h3
  refine ⟨r, ?_, h3⟩
  refine Ev.succ ?_; simp only [laws_markInt64SS.l0]
  rw [wrap_succ (by omega), rl_lt (by omega)]
  repeat (first | with_reducible exact Ev.now _ | dsimp only | with_reducible refine Ev.bind (markInt64S xs[i] hlen a h0 (by omega)) ?_ | refine Ev.pos (by first | omega | rfl | assumption | decide) ?_ | refine Ev.neg (by first | omega | assumption | exact Bool.false_ne_true | exact fun e => absurd e (by decide)) ?_ | simp only [bne_self_eq_false, Bool.not_true, Bool.not_false, List.length_cons, List.length_nil] | rw [wrap_id (by omega) (by omega)] | with_reducible exact (markInt64S xs[i] hlen a h0 (by omega)) | ((with_reducible refine Ev.eq (congrArg some ?_)); rfl))
  exact h2

theorem markGraph (n : Int) (l : List (List Int)) (hl : Mod l) : ∃ r : Int × List (List Int), Ev (fun k => laws_markGraph.f k n l 1) r ∧ 0 ≤ r.1 ∧ r.1 ≤ 1099511627777 := by
 unfold laws_markGraph.f laws_markInt64SS.f
 have hl1 := hl.1
 obtain ⟨r, h1, h2, h3⟩ := markInt64SS_loop l.length 0 l 1 (by omega) hl.1 hl.2 (by decide) (by omega)
 exact ⟨r, h1, h2, by omega⟩
theorem tl_edge {n : Int} {l : List (List Int)} (h : isGraph n l = true) {p : Nat} (hp : p < 2 * l.length) : ∃ a b : Nat, tl l p = a ∧ hd l p = b ∧ (a : Int) < n ∧ (b : Int) < n := by
 obtain ⟨e2, a, b, ea, eb, ha, hb⟩ := graph_edge h (show p / 2 < l.length by omega)
 unfold tl hd
 split
 ·exact ⟨b, a, eb, ea, hb, ha⟩
 ·exact ⟨a, b, ea, eb, ha, hb⟩

def bump (m : List (List Int)) (a b : Int) : List (List Int) := m.set a.toNat ((rd_L1 m a).set b.toNat (wrap64 (rd (rd_L1 m a) b + 1)))

/-- The matrix after p directed edges. -/
def adjm (l : List (List Int)) (n : Nat) : Nat → List (List Int)
 | 0 => zeros n
 | p + 1 => bump (adjm l n p) (tl l p) (hd l p)

theorem rl_set {xs : List (List Int)} {i j : Nat} {v : List Int} (h : i < xs.length) : rd_L1 (xs.set i v) (j : Int) = if j = i then v else rd_L1 xs (j : Int) := by
 by_cases e : j = i
 ·subst e
  rw [if_pos rfl, rl_lt (by simpa using h)]
  simp
 ·rw [if_neg e]
  simp only [rd_L1, List.getD_eq_getElem?_getD, Int.toNat_natCast]
  rw [List.getElem?_set_ne (fun x => e x.symm)]

section
variable {n : Int} {l : List (List Int)} (h : isGraph n l = true)
include h

theorem adj_form : ∀ p : Nat, p ≤ 2 * l.length → (adjm l n.toNat p).length = n.toNat ∧ ∀ v : Nat, v < n.toNat → (rd_L1 (adjm l n.toNat p) (v : Int)).length = n.toNat := by
 intro p
 induction p with
 | zero =>
  intro _
  refine ⟨by simp [adjm, zeros], fun v hv => ?_⟩
  rw [rl_lt (by simp only [adjm, zeros, List.length_replicate]; exact hv)]
  simp [adjm, zeros]
 | succ p ih =>
  intro hp
  obtain ⟨h1, h2⟩ := ih (by omega)
  obtain ⟨a, b, ea, eb, ha, hb⟩ := tl_edge h (show p < 2 * l.length by omega)
  unfold adjm bump
  rw [ea, eb, Int.toNat_natCast, Int.toNat_natCast]
  refine ⟨by rw [List.length_set]; exact h1, fun v hv => ?_⟩
  rw [rl_set (by omega)]
  split
  ·rw [List.length_set]; exact h2 a (by omega)
  ·exact h2 v hv

theorem adj_mod (p : Nat) (hp : p ≤ 2 * l.length) : Mod (adjm l n.toNat p) := by
 obtain ⟨g1, g2, g3⟩ := graph_small h
 obtain ⟨h1, h2⟩ := adj_form h p hp
 refine ⟨by omega, fun r hr => ?_⟩
 obtain ⟨i, hi, rfl⟩ := List.getElem_of_mem hr
 rw [← rl_lt hi, h2 i (by omega)]
 omega

theorem spec_adj_loop : ∀ (d p : Nat), p + d = 2 * l.length → Ev (fun k => spec_l01Adjacency.l1 k (adjm l n.toNat p) (p : Int) n l) (adjm l n.toNat (2 * l.length)) := by
 obtain ⟨g1, g2, g3⟩ := graph_small h
 intro d
 induction d with
 | zero =>
  intro p hp
  have e : p = 2 * l.length := by omega
  refine Ev.succ ?_; simp only [spec_l01Adjacency.l1]
  rw [wrap_id (x := 2 * (l.length : Int)) (by omega) (by omega), e]
  repeat (first | with_reducible exact Ev.now _ | dsimp only | refine Ev.pos (by first | omega | rfl | assumption | decide) ?_ | refine Ev.neg (by first | omega | assumption | exact Bool.false_ne_true | exact fun e => absurd e (by decide)) ?_ | simp only [bne_self_eq_false, Bool.not_true, Bool.not_false, List.length_cons, List.length_nil] | rw [wrap_id (by omega) (by omega)] | ((with_reducible refine Ev.eq (congrArg some ?_)); rfl))
 | succ d ih =>
  intro p hp
  have := ih (p + 1) (by omega)
  obtain ⟨h1, h2⟩ := adj_form h p (by omega)
  obtain ⟨a, b, ea, eb, ha, hb⟩ := tl_edge h (show p < 2 * l.length by omega)
  have he := specEnds h (show p < 2 * l.length by omega)
  rw [show adjm l n.toNat (p + 1) = bump (adjm l n.toNat p) (tl l p) (hd l p) from rfl] at this
  unfold bump at this
  rw [ea, eb] at this he
  have h2a := h2 a (by omega)
  refine Ev.succ ?_; simp only [spec_l01Adjacency.l1]
  rw [wrap_id (x := 2 * (l.length : Int)) (by omega) (by omega), wrap_succ (by omega)]
  repeat (first | with_reducible exact Ev.now _ | dsimp only | with_reducible refine Ev.bind (Ev.eq he) ?_ | refine Ev.pos (by first | omega | rfl | assumption | decide) ?_ | refine Ev.neg (by first | omega | assumption | exact Bool.false_ne_true | exact fun e => absurd e (by decide)) ?_ | simp only [bne_self_eq_false, Bool.not_true, Bool.not_false, List.length_cons, List.length_nil] | rw [wrap_id (by omega) (by omega)] | with_reducible exact (Ev.eq he) | ((with_reducible refine Ev.eq (congrArg some ?_)); rfl))
  exact this

theorem spec_adj : Ev (fun k => spec_l01Adjacency.f k n l) (adjm l n.toNat (2 * l.length)) := by
 obtain ⟨g1, g2, g3⟩ := graph_small h
 have : ∀ (d v : Nat), (v : Int) + d = n → Ev (fun k => spec_l01Adjacency.l0 k (List.replicate v (List.replicate n.toNat 0)) (v : Int) n l) (adjm l n.toNat (2 * l.length)) := by
  intro d
  induction d with
  | zero =>
   intro v hv
   refine Ev.succ ?_; simp only [spec_l01Adjacency.l0]
   rw [show v = n.toNat by omega]
   repeat (first | with_reducible exact Ev.now _ | dsimp only | refine Ev.pos (by first | omega | rfl | assumption | decide) ?_ | refine Ev.neg (by first | omega | assumption | exact Bool.false_ne_true | exact fun e => absurd e (by decide)) ?_ | simp only [bne_self_eq_false, Bool.not_true, Bool.not_false, List.length_cons, List.length_nil] | rw [wrap_id (by omega) (by omega)] | ((with_reducible refine Ev.eq (congrArg some ?_)); rfl))
   exact spec_adj_loop h (2 * l.length) 0 (by omega)
  | succ d ih =>
   intro v hv
   have := ih (v + 1) (by omega)
   rw [← rep_succ] at this
   refine Ev.succ ?_; simp only [spec_l01Adjacency.l0]
   rw [wrap_succ (by omega)]
   refine Ev.pos (by omega) ?_
   refine Ev.pos (by omega) ?_
   refine Ev.pos (by omega) ?_
   refine Ev.pos (by simp; omega) ?_
   exact this
 exact this n.toNat 0 (by omega)

theorem impl_adj_loop : ∀ (d i : Nat), i + d = l.length → Ev (fun k => impl_Graph_adjacency.l0 k (adjm l n.toNat (2 * i)) l (l.length : Int) (i : Int)) (adjm l n.toNat (2 * l.length)) := by
 obtain ⟨g1, g2, g3⟩ := graph_small h
 intro d
 induction d with
 | zero =>
  intro i hi
  have e : i = l.length := by omega
  refine Ev.succ ?_; simp only [impl_Graph_adjacency.l0]
  rw [e]
  repeat (first | with_reducible exact Ev.now _ | dsimp only | refine Ev.pos (by first | omega | rfl | assumption | decide) ?_ | refine Ev.neg (by first | omega | assumption | exact Bool.false_ne_true | exact fun e => absurd e (by decide)) ?_ | simp only [bne_self_eq_false, Bool.not_true, Bool.not_false, List.length_cons, List.length_nil] | rw [wrap_id (by omega) (by omega)] | ((with_reducible refine Ev.eq (congrArg some ?_)); rfl))
 | succ d ih =>
  intro i hi
  have := ih (i + 1) (by omega)
  obtain ⟨h1, h2⟩ := adj_form h (2 * i) (by omega)
  obtain ⟨h3, h4⟩ := adj_form h (2 * i + 1) (by omega)
  obtain ⟨e2, a, b, ea, eb, ha, hb⟩ := graph_edge h (show i < l.length by omega)
  have t1 : tl l (2 * i) = a := by
   unfold tl
   rw [if_neg (by omega), show 2 * i / 2 = i by omega]
   exact ea
  have t2 : hd l (2 * i) = b := by
   unfold hd
   rw [if_neg (by omega), show 2 * i / 2 = i by omega]
   exact eb
  have t3 : tl l (2 * i + 1) = b := by
   unfold tl
   rw [if_pos (by omega), show (2 * i + 1) / 2 = i by omega]
   exact eb
  have t4 : hd l (2 * i + 1) = a := by
   unfold hd
   rw [if_pos (by omega), show (2 * i + 1) / 2 = i by omega]
   exact ea
  have b1 : adjm l n.toNat (2 * i + 1) = (adjm l n.toNat (2 * i)).set a ((rd_L1 (adjm l n.toNat (2 * i)) (a : Int)).set b (wrap64 (rd (rd_L1 (adjm l n.toNat (2 * i)) (a : Int)) (b : Int) + 1))) := by
   conv => lhs; unfold adjm bump
   rw [t1, t2, Int.toNat_natCast, Int.toNat_natCast]
  have b2 : adjm l n.toNat (2 * (i + 1)) = (adjm l n.toNat (2 * i + 1)).set b ((rd_L1 (adjm l n.toNat (2 * i + 1)) (b : Int)).set a (wrap64 (rd (rd_L1 (adjm l n.toNat (2 * i + 1)) (b : Int)) (a : Int) + 1))) := by
   conv => lhs; rw [show 2 * (i + 1) = (2 * i + 1) + 1 by omega]; unfold adjm bump
   rw [t3, t4, Int.toNat_natCast, Int.toNat_natCast]
  rw [b2] at this
  have h2a := h2 a (by omega)
  have h4b := h4 b (by omega)
  refine Ev.succ ?_; simp only [impl_Graph_adjacency.l0]
  rw [wrap_succ (by omega), ea, eb, Int.toNat_natCast, Int.toNat_natCast, ← b1]
  repeat (first | with_reducible exact Ev.now _ | dsimp only | with_reducible refine Ev.bind (Ev.now _) ?_ | refine Ev.pos (by first | omega | rfl | assumption | decide) ?_ | refine Ev.neg (by first | omega | assumption | exact Bool.false_ne_true | exact fun e => absurd e (by decide)) ?_ | simp only [bne_self_eq_false, Bool.not_true, Bool.not_false, List.length_cons, List.length_nil] | rw [wrap_id (by omega) (by omega)] | with_reducible exact (Ev.now _) | ((with_reducible refine Ev.eq (congrArg some ?_)); rfl))
  exact this

theorem impl_adj : Ev (fun k => impl_Graph_adjacency.f k n l) (adjm l n.toNat (2 * l.length)) := by
 obtain ⟨g1, g2, g3⟩ := graph_small h
 unfold impl_Graph_adjacency.f
 refine Ev.bind (implSquare n (by omega) (by omega)) ?_
 exact impl_adj_loop h l.length 0 (by omega)

end
section
variable (l : List (List Int))

/-- How many ends of the i first edges are v. -/
def cnt (v : Int) : Nat → Nat
 | 0 => 0
 | i + 1 => cnt v i + (if rd (rd_L1 l (i : Int)) 0 = v then 1 else 0) + (if rd (rd_L1 l (i : Int)) 1 = v then 1 else 0)

theorem cnt_le (v : Int) (i : Nat) : cnt l v i ≤ 2 * i := by
 induction i with
 | zero => simp [cnt]
 | succ i ih =>
  unfold cnt
  split <;> split <;> omega

def degs (n : Nat) : List Int := (List.range n).map (fun v : Nat => ((cnt l (v : Int) l.length : Nat) : Int))

theorem degs_length (n : Nat) : (degs l n).length = n := by simp [degs]

variable {n : Int} (h : isGraph n l = true)
include h

theorem spec_degree (v : Int) : ∀ (d i : Nat), i + d = l.length → Ev (fun k => spec_l01Degree.l0 k v ((cnt l v i : Nat) : Int) (i : Int) n l) ((cnt l v l.length : Nat) : Int) := by
 obtain ⟨g1, g2, g3⟩ := graph_small h
 intro d
 induction d with
 | zero =>
  intro i hi
  have e : i = l.length := by omega
  subst e
  refine Ev.succ ?_; simp only [spec_l01Degree.l0]
  repeat (first | with_reducible exact Ev.now _ | dsimp only | refine Ev.pos (by first | omega | rfl | assumption | decide) ?_ | refine Ev.neg (by first | omega | assumption | exact Bool.false_ne_true | exact fun e => absurd e (by decide)) ?_ | simp only [bne_self_eq_false, Bool.not_true, Bool.not_false, List.length_cons, List.length_nil] | rw [wrap_id (by omega) (by omega)] | ((with_reducible refine Ev.eq (congrArg some ?_)); rfl))
 | succ d ih =>
  intro i hi
  obtain ⟨e2, a, b, ea, eb, ha, hb⟩ := graph_edge h (show i < l.length by omega)
  have hc := cnt_le l v i
  have hr := ih (i + 1) (by omega)
  have ec : cnt l v (i + 1) = cnt l v i + (if rd (rd_L1 l (i : Int)) 0 = v then 1 else 0) + (if rd (rd_L1 l (i : Int)) 1 = v then 1 else 0) := rfl
  rw [ec, ea, eb] at hr
  have s2 : ∀ c : Nat, c ≤ 2 * i + 1 → Ev (fun k => spec_l01Degree.l0 k v ((c + (if (b : Int) = v then 1 else 0) : Nat) : Int) ((i + 1 : Nat) : Int) n l) ((cnt l v l.length : Nat) : Int) → Ev (fun k => spec_l01Degree.l1 k v (c : Int) (i : Int) 1 n l) ((cnt l v l.length : Nat) : Int) := by
   intro c hc hr
   refine Ev.succ ?_
   rw [show (fun k => spec_l01Degree.l1 (k + 1) v (c : Int) (i : Int) 1 n l) = fun k => _ from funext fun k => by rw [spec_l01Degree.l1]]
   rw [eb]
   by_cases c2 : (b : Int) = v
   ·rw [if_pos c2] at hr
    repeat (first | with_reducible exact Ev.now _ | dsimp only | refine Ev.pos (by first | omega | rfl | assumption | decide) ?_ | refine Ev.neg (by first | omega | assumption | exact Bool.false_ne_true | exact fun e => absurd e (by decide)) ?_ | simp only [bne_self_eq_false, Bool.not_true, Bool.not_false, List.length_cons, List.length_nil] | rw [wrap_id (by omega) (by omega)] | ((with_reducible refine Ev.eq (congrArg some ?_)); rfl))
    refine Ev.succ ?_
    rw [show (fun k => spec_l01Degree.l1 (k + 1) v ((c : Int) + 1) (i : Int) (1 + 1) n l) = fun k => _ from funext fun k => by rw [spec_l01Degree.l1]]
    rw [wrap_succ (i := i) (by omega)]
    refine Ev.neg (by omega) ?_
    exact hr
   ·rw [if_neg c2] at hr
    repeat (first | with_reducible exact Ev.now _ | dsimp only | refine Ev.pos (by first | omega | rfl | assumption | decide) ?_ | refine Ev.neg (by first | omega | assumption | exact Bool.false_ne_true | exact fun e => absurd e (by decide)) ?_ | simp only [bne_self_eq_false, Bool.not_true, Bool.not_false, List.length_cons, List.length_nil] | rw [wrap_id (by omega) (by omega)] | ((with_reducible refine Ev.eq (congrArg some ?_)); rfl))
    refine Ev.succ ?_
    rw [show (fun k => spec_l01Degree.l1 (k + 1) v (c : Int) (i : Int) (1 + 1) n l) = fun k => _ from funext fun k => by rw [spec_l01Degree.l1]]
    rw [wrap_succ (i := i) (by omega)]
    refine Ev.neg (by omega) ?_
    exact hr
  refine Ev.succ ?_; simp only [spec_l01Degree.l0]
  refine Ev.pos (by omega) ?_
  refine Ev.succ ?_
  rw [show (fun k => spec_l01Degree.l1 (k + 1) v ((cnt l v i : Nat) : Int) (i : Int) 0 n l) = fun k => _ from funext fun k => by rw [spec_l01Degree.l1]]
  rw [ea]
  by_cases c1 : (a : Int) = v
  ·rw [if_pos c1] at hr
   repeat (first | with_reducible exact Ev.now _ | dsimp only | refine Ev.pos (by first | omega | rfl | assumption | decide) ?_ | refine Ev.neg (by first | omega | assumption | exact Bool.false_ne_true | exact fun e => absurd e (by decide)) ?_ | simp only [bne_self_eq_false, Bool.not_true, Bool.not_false, List.length_cons, List.length_nil] | rw [wrap_id (by omega) (by omega)] | ((with_reducible refine Ev.eq (congrArg some ?_)); rfl))
   exact s2 (cnt l v i + 1) (by omega) hr
  ·rw [if_neg c1] at hr
   repeat (first | with_reducible exact Ev.now _ | dsimp only | refine Ev.pos (by first | omega | rfl | assumption | decide) ?_ | refine Ev.neg (by first | omega | assumption | exact Bool.false_ne_true | exact fun e => absurd e (by decide)) ?_ | simp only [bne_self_eq_false, Bool.not_true, Bool.not_false, List.length_cons, List.length_nil] | rw [wrap_id (by omega) (by omega)] | ((with_reducible refine Ev.eq (congrArg some ?_)); rfl))
   exact s2 (cnt l v i) (by omega) hr

theorem impl_degrees : ∀ (d i : Nat) (xs : List Int), i + d = l.length → xs.length = n.toNat → (∀ v : Nat, v < n.toNat → rd xs (v : Int) = ((cnt l (v : Int) i : Nat) : Int)) → Ev (fun k => impl_Graph_degrees.l0 k xs l (l.length : Int) (i : Int)) (degs l n.toNat) := by
 obtain ⟨g1, g2, g3⟩ := graph_small h
 intro d
 induction d with
 | zero =>
  intro i xs hi hx hv
  refine Ev.succ ?_; simp only [impl_Graph_degrees.l0]
  have e : xs = degs l n.toNat := by
   refine list_ext_rd (by rw [hx, degs_length]) (fun j hj => ?_)
   rw [hv j (by omega), degs, rd_map_range _ (by omega), show i = l.length by omega]
  rw [e]
  repeat (first | with_reducible exact Ev.now _ | dsimp only | refine Ev.pos (by first | omega | rfl | assumption | decide) ?_ | refine Ev.neg (by first | omega | assumption | exact Bool.false_ne_true | exact fun e => absurd e (by decide)) ?_ | simp only [bne_self_eq_false, Bool.not_true, Bool.not_false, List.length_cons, List.length_nil] | rw [wrap_id (by omega) (by omega)] | ((with_reducible refine Ev.eq (congrArg some ?_)); rfl))
 | succ d ih =>
  intro i xs hi hx hv
  obtain ⟨e2, a, b, ea, eb, ha, hb⟩ := graph_edge h (show i < l.length by omega)
  have hca := cnt_le l (a : Int) i
  have hcb := cnt_le l (b : Int) i
  have ea1 : rd xs (a : Int) = _ := hv a (by omega)
  have eb1 : rd xs (b : Int) = _ := hv b (by omega)
  have key : ∀ v : Nat, v < n.toNat → rd ((xs.set a (wrap64 (rd xs (a : Int) + 1))).set b (wrap64 (rd (xs.set a (wrap64 (rd xs (a : Int) + 1))) (b : Int) + 1))) (v : Int) = ((cnt l (v : Int) (i + 1) : Nat) : Int) := by
   intro v hvn
   have hvv := hv v hvn
   unfold cnt
   rw [ea, eb, ea1]
   rw [wrap_id (x := ((cnt l (a : Int) i : Nat) : Int) + 1) (by omega) (by omega), rd_set (by simp; omega), rd_set (by omega), rd_set (by omega)]
   by_cases c1 : v = b
   ·subst c1
    rw [if_pos rfl, if_pos (c := (v : Int) = v) rfl]
    by_cases c2 : v = a
    ·subst c2
     rw [if_pos rfl, if_pos rfl, wrap_id (by omega) (by omega)]
     omega
    ·rw [if_neg c2, if_neg (by omega), hvv, wrap_id (by omega) (by omega)]
     omega
   ·rw [if_neg c1, if_neg (c := (b : Int) = v) (by omega)]
    by_cases c2 : v = a
    ·subst c2
     rw [if_pos rfl, if_pos rfl]
     omega
    ·rw [if_neg c2, if_neg (by omega), hvv]
     omega
  have hr := ih (i + 1) _ (by omega) (by simpa using hx) key
  refine Ev.succ ?_; simp only [impl_Graph_degrees.l0]
  rw [wrap_succ (i := i) (by omega), ea, eb]
  refine Ev.pos (by omega) ?_
  refine Ev.pos (by omega) ?_
  refine Ev.pos (by omega) ?_
  refine Ev.pos (by omega) ?_
  refine Ev.pos (by omega) ?_
  refine Ev.pos (by omega) ?_
  refine Ev.bind (Ev.now _) ?_
  refine Ev.pos (by omega) ?_
  refine Ev.pos (by omega) ?_
  refine Ev.pos (by simp; omega) ?_
  exact hr

end
/-- f 0 + .. + f (n - 1). -/
def Sm : Nat → (Nat → Int) → Int
 | 0, _ => 0
 | n + 1, f => Sm n f + f n

theorem Sm_congr {n : Nat} {f g : Nat → Int} (h : ∀ i, i < n → f i = g i) : Sm n f = Sm n g := by
 induction n with
 | zero => rfl
 | succ n ih => unfold Sm; rw [ih (fun i hi => h i (by omega)), h n (by omega)]

theorem Sm_add (n : Nat) (f g : Nat → Int) : Sm n (fun i => f i + g i) = Sm n f + Sm n g := by
 induction n with
 | zero => rfl
 | succ n ih =>
  show Sm n (fun i => f i + g i) + (f n + g n) = Sm n f + f n + (Sm n g + g n)
  rw [ih]; omega

theorem Sm_mul_left (n : Nat) (c : Int) (f : Nat → Int) : Sm n (fun i => c * f i) = c * Sm n f := by
 induction n with
 | zero => simp [Sm]
 | succ n ih => unfold Sm; rw [ih, Int.mul_add]

theorem Sm_mul_right (n : Nat) (c : Int) (f : Nat → Int) : Sm n (fun i => f i * c) = Sm n f * c := by
 induction n with
 | zero => simp [Sm]
 | succ n ih => unfold Sm; rw [ih, Int.add_mul]

theorem Sm_zero (n : Nat) : Sm n (fun _ => 0) = 0 := by
 induction n with
 | zero => rfl
 | succ n ih => unfold Sm; rw [ih]; rfl

theorem Sm_swap (n m : Nat) (f : Nat → Nat → Int) : Sm n (fun i => Sm m (fun j => f i j)) = Sm m (fun j => Sm n (fun i => f i j)) := by
 induction n with
 | zero => exact (Sm_zero m).symm
 | succ n ih =>
  show Sm n (fun i => Sm m (fun j => f i j)) + Sm m (fun j => f n j) = _
  rw [ih, ← Sm_add]
  rfl

theorem Sm_nonneg {n : Nat} {f : Nat → Int} (h : ∀ i, i < n → 0 ≤ f i) : 0 ≤ Sm n f := by
 induction n with
 | zero => simp [Sm]
 | succ n ih =>
  have h1 := ih (fun i hi => h i (by omega))
  have h2 := h n (by omega)
  unfold Sm
  omega

/-- The product of two square matrices. -/
def mul (n : Nat) (a b : Nat → Nat → Int) : Nat → Nat → Int := fun i j => Sm n (fun k => a i k * b k j)

theorem mul_assoc' (n : Nat) (a b c : Nat → Nat → Int) (i j : Nat) : mul n (mul n a b) c i j = mul n a (mul n b c) i j := by
 unfold mul
 rw [Sm_congr (g := fun k => Sm n (fun m => a i m * b m k * c k j)) (fun k _ => (Sm_mul_right n _ _).symm)]
 rw [Sm_swap]
 refine Sm_congr (fun m _ => ?_)
 rw [← Sm_mul_left]
 exact Sm_congr (fun k _ => Int.mul_assoc _ _ _)

theorem mul_congr {n : Nat} {a b a' b' : Nat → Nat → Int} {i j : Nat} (ha : ∀ k, k < n → a i k = a' i k) (hb : ∀ k, k < n → b k j = b' k j) : mul n a b i j = mul n a' b' i j :=
 Sm_congr (fun k hk => by rw [ha k hk, hb k hk])

/-- A list's matrix, and a matrix's list. -/
def mat (m : List (List Int)) (i j : Nat) : Int := rd (rd_L1 m (i : Int)) (j : Int)

def rowOf (n : Nat) (f : Nat → Int) : List Int := (List.range n).map f

def ofFn (n : Nat) (f : Nat → Nat → Int) : List (List Int) := (List.range n).map (fun i => rowOf n (f i))

theorem rowOf_length (n : Nat) (f : Nat → Int) : (rowOf n f).length = n := by simp [rowOf]

theorem rowOf_rd {n i : Nat} (f : Nat → Int) (h : i < n) : rd (rowOf n f) (i : Int) = f i := rd_map_range f h

theorem rowOf_congr {n : Nat} {f g : Nat → Int} (h : ∀ i, i < n → f i = g i) : rowOf n f = rowOf n g := by
 unfold rowOf
 exact List.map_congr_left (fun i hi => h i (List.mem_range.1 hi))

theorem rowOf_set {n i : Nat} (f : Nat → Int) (v : Int) (h : i < n) : (rowOf n f).set i v = rowOf n (fun j => if j = i then v else f j) := by
 refine list_ext_rd (by rw [List.length_set, rowOf_length, rowOf_length]) (fun j hj => ?_)
 rw [List.length_set, rowOf_length] at hj
 rw [rd_set (by rw [rowOf_length]; exact h), rowOf_rd _ hj, rowOf_rd _ hj]

theorem rowOf_zero (n : Nat) : rowOf n (fun _ => 0) = List.replicate n 0 := by
 refine list_ext_rd (by rw [rowOf_length, List.length_replicate]) (fun j hj => ?_)
 rw [rowOf_length] at hj
 rw [rowOf_rd _ hj, rd_replicate]

theorem ofFn_length (n : Nat) (f : Nat → Nat → Int) : (ofFn n f).length = n := by simp [ofFn]

theorem ofFn_row {n i : Nat} (f : Nat → Nat → Int) (h : i < n) : rd_L1 (ofFn n f) (i : Int) = rowOf n (f i) := by
 rw [rl_lt (by rw [ofFn_length]; exact h)]
 simp [ofFn]

theorem ofFn_mat {n i j : Nat} (f : Nat → Nat → Int) (hi : i < n) (hj : j < n) : mat (ofFn n f) i j = f i j := by
 unfold mat
 rw [ofFn_row f hi, rowOf_rd _ hj]

/-- A square list of rows. -/
def Sq (n : Nat) (m : List (List Int)) : Prop := m.length = n ∧ ∀ i : Nat, i < n → (rd_L1 m (i : Int)).length = n

theorem Sq_ofFn (n : Nat) (f : Nat → Nat → Int) : Sq n (ofFn n f) := ⟨ofFn_length n f, fun i hi => by rw [ofFn_row f hi, rowOf_length]⟩

theorem wrap_add_wrap (a b : Int) : wrap64 (wrap64 a + wrap64 b) = wrap64 (a + b) := by
 unfold wrap64
 omega

def sg (j : Nat) : Int := if j % 2 = 0 then 1 else -1

theorem sg_succ (j : Nat) : sg (j + 1) = - sg j := by
 unfold sg
 split <;> split <;> omega

def minor (m : Nat → Nat → Int) (j : Nat) : Nat → Nat → Int := fun i k => m (i + 1) (if k < j then k else k + 1)

def det : Nat → (Nat → Nat → Int) → Int
 | 0, _ => 1
 | n + 1, m => Sm (n + 1) (fun j => sg j * m 0 j * det n (minor m j))

theorem det_congr : ∀ (n : Nat) (m m' : Nat → Nat → Int), (∀ i k, i < n → k < n → m i k = m' i k) → det n m = det n m' := by
 intro n
 induction n with
 | zero => intro m m' _; rfl
 | succ n ih =>
  intro m m' h
  unfold det
  refine Sm_congr (fun j hj => ?_)
  rw [h 0 j (by omega) hj, ih (minor m j) (minor m' j) (fun i k hi hk => ?_)]
  unfold minor
  split
  ·exact h _ _ (by omega) (by omega)
  ·exact h _ _ (by omega) (by omega)

/-- Column c becomes v. -/
def setc (m : Nat → Nat → Int) (c : Nat) (v : Nat → Int) : Nat → Nat → Int := fun i k => if k = c then v i else m i k

theorem setc_self (m : Nat → Nat → Int) (c : Nat) : setc m c (fun i => m i c) = m := by
 funext i k
 unfold setc
 split
 ·next h => rw [h]
 ·rfl

theorem setc_comm (m : Nat → Nat → Int) {c d : Nat} (h : c ≠ d) (v v' : Nat → Int) : setc (setc m c v) d v' = setc (setc m d v') c v := by
 funext i k
 unfold setc
 by_cases e : k = d
 ·rw [if_pos e, if_neg (by omega), if_pos e]
 ·rw [if_neg e]
  by_cases e2 : k = c
  ·rw [if_pos e2, if_pos e2]
  ·rw [if_neg e2, if_neg e2, if_neg e]

theorem minor_setc_eq (m : Nat → Nat → Int) (c : Nat) (v : Nat → Int) : minor (setc m c v) c = minor m c := by
 funext i k
 unfold minor setc
 rw [if_neg]
 split <;> omega

theorem minor_setc_ne (m : Nat → Nat → Int) {c j : Nat} (h : j ≠ c) (v : Nat → Int) : minor (setc m c v) j = setc (minor m j) (if c < j then c else c - 1) (fun i => v (i + 1)) := by
 funext i k
 unfold minor setc
 by_cases e : (if k < j then k else k + 1) = c
 ·rw [if_pos e, if_pos (show k = (if c < j then c else c - 1) by split at e <;> split <;> omega)]
 ·rw [if_neg e, if_neg (show ¬ k = (if c < j then c else c - 1) by split at e <;> split <;> omega)]

/-- Linear in a column. -/
theorem det_lin : ∀ (n : Nat) (m : Nat → Nat → Int) (c : Nat) (s t : Int) (x y : Nat → Int), c < n → det n (setc m c (fun i => s * x i + t * y i)) = s * det n (setc m c x) + t * det n (setc m c y) := by
 intro n
 induction n with
 | zero => intro m c s t x y h; omega
 | succ n ih =>
  intro m c s t x y hc
  unfold det
  rw [← Sm_mul_left, ← Sm_mul_left, ← Sm_add]
  refine Sm_congr (fun j hj => ?_)
  by_cases e : j = c
  ·subst e
   rw [minor_setc_eq, minor_setc_eq, minor_setc_eq]
   simp only [setc, if_pos]
   generalize det n (minor m j) = d
   generalize sg j = g
   rw [Int.mul_add, Int.add_mul]
   congr 1
   ·rw [← Int.mul_assoc, Int.mul_comm g s, Int.mul_assoc s g, Int.mul_assoc]
   ·rw [← Int.mul_assoc, Int.mul_comm g t, Int.mul_assoc t g, Int.mul_assoc]
  ·rw [minor_setc_ne m e, minor_setc_ne m e, minor_setc_ne m e, ih _ _ s t _ _ (by split <;> omega)]
   simp only [setc, if_neg e]
   generalize det n _ = d1
   generalize det n _ = d2
   generalize sg j * m 0 j = g
   rw [Int.mul_add, ← Int.mul_assoc, ← Int.mul_assoc, Int.mul_comm g s, Int.mul_comm g t, Int.mul_assoc, Int.mul_assoc]

theorem det_add (n : Nat) (m : Nat → Nat → Int) (c : Nat) (x y : Nat → Int) (hc : c < n) : det n (setc m c (fun i => x i + y i)) = det n (setc m c x) + det n (setc m c y) := by
 have := det_lin n m c 1 1 x y hc
 simp only [Int.one_mul] at this
 exact this

theorem det_zero_col (n : Nat) (m : Nat → Nat → Int) (c : Nat) (hc : c < n) : det n (setc m c (fun _ => 0)) = 0 := by
 have := det_lin n m c 0 0 (fun _ => 0) (fun _ => 0) hc
 simp only [Int.zero_mul, Int.add_zero] at this
 exact this

theorem Sm_two {n c : Nat} {f : Nat → Int} (hc : c + 1 < n) (h : ∀ i, i < n → i ≠ c → i ≠ c + 1 → f i = 0) : Sm n f = f c + f (c + 1) := by
 have z : ∀ k, k ≤ n → Sm k f = (if c < k then f c else 0) + (if c + 1 < k then f (c + 1) else 0) := by
  intro k
  induction k with
  | zero => intro _; rfl
  | succ k ih =>
   intro hk
   unfold Sm
   rw [ih (by omega)]
   by_cases e : k = c
   ·subst e
    rw [if_neg (by omega), if_neg (by omega), if_pos (by omega), if_neg (by omega)]
    omega
   ·by_cases e2 : k = c + 1
    ·subst e2
     rw [if_pos (by omega), if_neg (by omega), if_pos (by omega), if_pos (by omega)]
     omega
    ·rw [h k (by omega) e e2]
     by_cases c1 : c < k
     ·rw [if_pos c1, if_pos (show c < k + 1 by omega)]
      by_cases c2 : c + 1 < k
      ·rw [if_pos c2, if_pos (by omega)]; omega
      ·rw [if_neg c2, if_neg (by omega)]; omega
     ·rw [if_neg c1, if_neg (show ¬ c + 1 < k by omega), if_neg (show ¬ c < k + 1 by omega), if_neg (by omega)]; omega
 rw [z n (Nat.le_refl _), if_pos (by omega), if_pos (by omega)]

/-- Two like columns side by side. -/
theorem det_adjacent : ∀ (n : Nat) (m : Nat → Nat → Int) (c : Nat), c + 1 < n → (∀ i, m i c = m i (c + 1)) → det n m = 0 := by
 intro n
 induction n with
 | zero => intro m c h; omega
 | succ n ih =>
  intro m c hc h
  unfold det
  rw [Sm_two hc]
  ·have e : minor m c = minor m (c + 1) := by
    funext i k
    unfold minor
    by_cases e1 : k < c
    ·rw [if_pos e1, if_pos (by omega)]
    ·rw [if_neg e1]
     by_cases e2 : k = c
     ·subst e2
      rw [if_pos (by omega)]
      exact (h (i + 1)).symm
     ·rw [if_neg (by omega)]
   rw [e, ← h 0, sg_succ, Int.neg_mul, Int.neg_mul]
   omega
  ·intro j hj h1 h2
   rw [ih (minor m j) (if c + 1 < j then c else c - 1), Int.mul_zero]
   ·split <;> omega
   ·intro i
    unfold minor
    by_cases c1 : c + 1 < j
    ·rw [if_pos c1, if_pos (by omega), if_pos (by omega)]
     exact h (i + 1)
    ·rw [if_neg c1, if_neg (by omega), if_neg (by omega), show c - 1 + 1 = c by omega]
     exact h (i + 1)

/-- Two neighbours change places: the sign changes. -/
theorem det_swap (n : Nat) (m : Nat → Nat → Int) (c : Nat) (hc : c + 1 < n) (x y : Nat → Int) : det n (setc (setc m c x) (c + 1) y) = - det n (setc (setc m c y) (c + 1) x) := by
 have two : ∀ x, det n (setc (setc m c x) (c + 1) x) = 0 := fun x => det_adjacent n _ c hc (fun i => by
  unfold setc
  rw [if_neg (by omega), if_pos rfl, if_pos rfl])
 have h := two (fun i => x i + y i)
 rw [det_add n _ (c + 1) x y hc, setc_comm m (show c ≠ c + 1 by omega), setc_comm m (show c ≠ c + 1 by omega), det_add n _ c x y (by omega), det_add n _ c x y (by omega)] at h
 rw [setc_comm m (show c + 1 ≠ c by omega), setc_comm m (show c + 1 ≠ c by omega), setc_comm m (show c + 1 ≠ c by omega), setc_comm m (show c + 1 ≠ c by omega), two x, two y] at h
 omega

/-- Two like columns anywhere. -/
theorem det_like (n : Nat) : ∀ (d : Nat) (m : Nat → Nat → Int) (p : Nat), p + 1 + d < n → (∀ i, m i p = m i (p + 1 + d)) → det n m = 0 := by
 intro d
 induction d with
 | zero => intro m p hp h; exact det_adjacent n m p hp h
 | succ d ih =>
  intro m p hp h
  have hs := det_swap n m (p + 1 + d) (by omega) (fun i => m i (p + 1 + d)) (fun i => m i (p + 1 + d + 1))
  have e1 : setc (setc m (p + 1 + d) (fun i => m i (p + 1 + d))) (p + 1 + d + 1) (fun i => m i (p + 1 + d + 1)) = m := by
   rw [setc_self, setc_self]
  rw [e1] at hs
  rw [hs, ih _ p (by omega)]
  ·rfl
  ·intro i
   unfold setc
   rw [if_neg (by omega), if_neg (by omega), if_neg (by omega), if_pos rfl]
   exact h i

theorem det_same {n : Nat} {m : Nat → Nat → Int} {p q : Nat} (hp : p < n) (hq : q < n) (hne : p ≠ q) (h : ∀ i, m i p = m i q) : det n m = 0 := by
 rcases Nat.lt_or_gt_of_ne hne with c | c
 ·exact det_like n (q - p - 1) m p (by omega) (fun i => by rw [show p + 1 + (q - p - 1) = q by omega]; exact h i)
 ·exact det_like n (p - q - 1) m q (by omega) (fun i => by rw [show q + 1 + (p - q - 1) = p by omega]; exact (h i).symm)

/-- A column that is a sum. -/
theorem det_sum (n : Nat) (m : Nat → Nat → Int) (c : Nat) (hc : c < n) (t : Nat → Int) (w : Nat → Nat → Int) : ∀ k, det n (setc m c (fun r => Sm k (fun i => t i * w i r))) = Sm k (fun i => t i * det n (setc m c (w i))) := by
 intro k
 induction k with
 | zero => exact det_zero_col n m c hc
 | succ k ih =>
  have h := det_lin n m c 1 (t k) (fun r => Sm k (fun i => t i * w i r)) (w k) hc
  simp only [Int.one_mul] at h
  show det n (setc m c (fun r => Sm k (fun i => t i * w i r) + t k * w k r)) = _
  rw [h, ih]
  rfl

theorem Sm_pick' (N : Nat) (f : Nat → Int) {p : Nat} (hp : p < N) : Sm N (fun r => (if r = p then 1 else 0) * f r) = f p := by
 induction N with
 | zero => omega
 | succ N ih =>
  show Sm N (fun r => (if r = p then 1 else 0) * f r) + (if N = p then 1 else 0) * f N = f p
  by_cases e : p = N
  ·subst e
   rw [if_pos rfl, Int.one_mul]
   have : Sm p (fun r => (if r = p then 1 else 0) * f r) = Sm p (fun _ => 0) := Sm_congr (fun i hi => by rw [if_neg (by omega), Int.zero_mul])
   rw [this, Sm_zero, Int.zero_add]
  ·rw [ih (by omega), if_neg (by omega), Int.zero_mul, Int.add_zero]

def unit (i : Nat) : Nat → Int := fun r => if r = i then 1 else 0

def adj (n : Nat) (x : Nat → Nat → Int) (k i : Nat) : Int := det n (setc x k (unit i))

/-- Cramer: what the k-th row of the adjoint does to a column. -/
theorem adj_col (n : Nat) (x : Nat → Nat → Int) (k : Nat) (hk : k < n) (v : Nat → Int) : Sm n (fun i => adj n x k i * v i) = det n (setc x k v) := by
 have h := det_sum n x k hk v unit n
 have e : det n (setc x k (fun r => Sm n (fun i => v i * unit i r))) = det n (setc x k v) := by
  refine det_congr n _ _ (fun i j hi hj => ?_)
  unfold setc
  split
  ·have : Sm n (fun a => v a * unit a i) = Sm n (fun a => (if a = i then 1 else 0) * v a) := Sm_congr (fun a _ => by
    unfold unit
    rw [Int.mul_comm]
    by_cases c : i = a
    ·rw [if_pos c, if_pos c.symm]
    ·rw [if_neg c, if_neg (fun z => c z.symm)])
   exact this.trans (Sm_pick' n v hi)
  ·rfl
 rw [e] at h
 rw [h]
 exact Sm_congr (fun i _ => Int.mul_comm _ _)

theorem adj_mul (n : Nat) (x : Nat → Nat → Int) (k j : Nat) (hk : k < n) (hj : j < n) : mul n (adj n x) x k j = if k = j then det n x else 0 := by
 unfold mul
 rw [adj_col n x k hk (fun i => x i j)]
 by_cases e : k = j
 ·subst e
  rw [if_pos rfl, setc_self]
 ·rw [if_neg e]
  refine det_same hk hj e (fun i => ?_)
  unfold setc
  rw [if_pos rfl, if_neg (fun z => e z.symm)]
def ab (x : Int) : Int := (x.natAbs : Int)

theorem ab_nonneg (x : Int) : 0 ≤ ab x := by unfold ab; omega
theorem ab_add (x y : Int) : ab (x + y) ≤ ab x + ab y := by unfold ab; omega
theorem ab_mul (x y : Int) : ab (x * y) = ab x * ab y := by
 unfold ab
 rw [Int.natAbs_mul]
 push_cast
 rfl

/-- The coefficients c, d of them, make f; their sizes sum up to at most B. -/
def Coef (d : Nat) (B : Int) (c : Nat → Int) (f : Int → Int) : Prop := (∀ i, d ≤ i → c i = 0) ∧ (∀ u, f u = Sm d (fun i => c i * u ^ i)) ∧ Sm d (fun i => ab (c i)) ≤ B

theorem Sm_more {d e : Nat} (f : Nat → Int) (hde : d ≤ e) (h : ∀ i, d ≤ i → f i = 0) : Sm e f = Sm d f := by
 induction e with
 | zero => rw [show d = 0 by omega]
 | succ e ih =>
  by_cases c : d = e + 1
  ·rw [c]
  ·show Sm e f + f e = _
   rw [ih (by omega), h e (by omega), Int.add_zero]

theorem Coef.more {d e : Nat} {B : Int} {c : Nat → Int} {f : Int → Int} (h : Coef d B c f) (hde : d ≤ e) : Coef e B c f := by
 refine ⟨fun i hi => h.1 i (by omega), fun u => ?_, ?_⟩
 ·rw [h.2.1 u, Sm_more _ hde (fun i hi => by rw [h.1 i hi, Int.zero_mul])]
 ·rw [Sm_more _ hde (fun i hi => by rw [h.1 i hi]; rfl)]
  exact h.2.2

theorem Sm_mono {n : Nat} {f g : Nat → Int} (h : ∀ i, i < n → f i ≤ g i) : Sm n f ≤ Sm n g := by
 induction n with
 | zero => exact Int.le_refl _
 | succ n ih =>
  have h1 := ih (fun i hi => h i (by omega))
  have h2 := h n (by omega)
  unfold Sm
  omega

theorem Coef.add {d : Nat} {B B' : Int} {c c' : Nat → Int} {f g : Int → Int} (h : Coef d B c f) (h' : Coef d B' c' g) : Coef d (B + B') (fun i => c i + c' i) (fun u => f u + g u) := by
 refine ⟨fun i hi => by show c i + c' i = 0; rw [h.1 i hi, h'.1 i hi]; rfl, fun u => ?_, ?_⟩
 ·show f u + g u = Sm d (fun i => (c i + c' i) * u ^ i)
  rw [h.2.1 u, h'.2.1 u, ← Sm_add]
  exact Sm_congr (fun i _ => (Int.add_mul _ _ _).symm)
 ·have := h.2.2
  have := h'.2.2
  have h3 : Sm d (fun i => ab (c i + c' i)) ≤ Sm d (fun i => ab (c i) + ab (c' i)) := Sm_mono (fun i _ => ab_add _ _)
  rw [Sm_add] at h3
  show Sm d (fun i => ab (c i + c' i)) ≤ B + B'
  omega

theorem Coef.zero (d : Nat) : Coef d 0 (fun _ => 0) (fun _ => 0) := by
 refine ⟨fun _ _ => rfl, fun u => ?_, ?_⟩
 ·rw [Sm_congr (g := fun _ => 0) (fun i _ => Int.zero_mul _), Sm_zero]
 ·show Sm d (fun _ => (0 : Int)) ≤ 0
  rw [Sm_zero]
  exact Int.le_refl _

theorem Coef.one : Coef 1 1 (fun i => if i = 0 then 1 else 0) (fun _ => 1) := by
 refine ⟨fun i hi => if_neg (by omega), fun u => ?_, ?_⟩
 ·show (1 : Int) = 0 + (if 0 = 0 then 1 else 0) * u ^ 0
  rw [if_pos rfl, Int.pow_zero]
  rfl
 ·exact Int.le_refl _

/-- The coefficients behind a linear factor. -/
def lin (a b : Int) (c : Nat → Int) (i : Nat) : Int := a * c i + (if i = 0 then 0 else b * c (i - 1))

theorem Sm_shift (d : Nat) (f : Nat → Int) : Sm (d + 1) (fun i => if i = 0 then 0 else f (i - 1)) = Sm d f := by
 induction d with
 | zero => rfl
 | succ d ih =>
  show Sm (d + 1) (fun i => if i = 0 then 0 else f (i - 1)) + (if d + 1 = 0 then 0 else f (d + 1 - 1)) = Sm d f + f d
  rw [ih, if_neg (by omega), Nat.add_sub_cancel]

theorem Coef.lin_mul {d : Nat} {B : Int} {c : Nat → Int} {f : Int → Int} (h : Coef d B c f) (a b : Int) : Coef (d + 1) ((ab a + ab b) * B) (lin a b c) (fun u => (a + u * b) * f u) := by
 refine ⟨fun i hi => ?_, fun u => ?_, ?_⟩
 ·unfold lin
  rw [h.1 i (by omega), if_neg (by omega), h.1 (i - 1) (by omega), Int.mul_zero, Int.mul_zero]
  rfl
 ·unfold lin
  have e1 : Sm (d + 1) (fun i => (a * c i + (if i = 0 then 0 else b * c (i - 1))) * u ^ i) = Sm (d + 1) (fun i => a * (c i * u ^ i)) + Sm (d + 1) (fun i => if i = 0 then 0 else u * b * (c (i - 1) * u ^ (i - 1))) := by
   rw [← Sm_add]
   refine Sm_congr (fun i _ => ?_)
   rw [Int.add_mul, Int.mul_assoc]
   congr 1
   by_cases e : i = 0
   ·rw [if_pos e, if_pos e, Int.zero_mul]
   ·rw [if_neg e, if_neg e]
    obtain ⟨j, rfl⟩ : ∃ j, i = j + 1 := ⟨i - 1, by omega⟩
    rw [Nat.add_sub_cancel, Int.pow_succ, Int.mul_comm (u ^ j) u, Int.mul_comm u b, Int.mul_assoc, Int.mul_assoc]
    congr 1
    rw [← Int.mul_assoc, Int.mul_comm (c j) u, Int.mul_assoc]
  rw [e1, Sm_mul_left, Sm_shift d (fun i => u * b * (c i * u ^ i)), Sm_mul_left, Sm_more (d := d) (fun i => c i * u ^ i) (by omega) (fun i hi => by rw [h.1 i hi, Int.zero_mul]), ← h.2.1 u]
  exact Int.add_mul _ _ _
 ·have h1 : Sm (d + 1) (fun i => ab (lin a b c i)) ≤ Sm (d + 1) (fun i => ab a * ab (c i) + (if i = 0 then 0 else ab b * ab (c (i - 1)))) := Sm_mono (fun i _ => by
   unfold lin
   have := ab_add (a * c i) (if i = 0 then 0 else b * c (i - 1))
   rw [ab_mul] at this
   by_cases e : i = 0
   ·rw [if_pos e] at this ⊢
    rw [if_pos e]
    exact this
   ·rw [if_neg e, ab_mul] at this
    rw [if_neg e, if_neg e]
    exact this)
  rw [Sm_add, Sm_mul_left, Sm_shift d (fun i => ab b * ab (c i)), Sm_mul_left, Sm_more (d := d) (fun i => ab (c i)) (by omega) (fun i hi => by rw [h.1 i hi]; rfl)] at h1
  have h2 : ab a * Sm d (fun i => ab (c i)) ≤ ab a * B := Int.mul_le_mul_of_nonneg_left h.2.2 (ab_nonneg a)
  have h3 : ab b * Sm d (fun i => ab (c i)) ≤ ab b * B := Int.mul_le_mul_of_nonneg_left h.2.2 (ab_nonneg b)
  rw [Int.add_mul]
  omega

/-- A polynomial that is zero at all whole numbers from 2 on has no coefficients. -/
theorem coef_zero2 : ∀ (d : Nat) (c : Nat → Int), (∀ u : Int, 2 ≤ u → Sm d (fun i => c i * u ^ i) = 0) → ∀ i, i < d → c i = 0 := by
 intro d
 induction d with
 | zero => intro c _ i hi; omega
 | succ d ih =>
  intro c h
  have split : ∀ u : Int, Sm (d + 1) (fun i => c i * u ^ i) = c 0 + u * Sm d (fun i => c (i + 1) * u ^ i) := by
   intro u
   have : ∀ n, Sm (n + 1) (fun i => c i * u ^ i) = c 0 + u * Sm n (fun i => c (i + 1) * u ^ i) := by
    intro n
    induction n with
    | zero =>
     show 0 + c 0 * u ^ 0 = c 0 + u * 0
     rw [Int.pow_zero]
     omega
    | succ n ihn =>
     show Sm (n + 1) (fun i => c i * u ^ i) + c (n + 1) * u ^ (n + 1) = c 0 + u * (Sm n (fun i => c (i + 1) * u ^ i) + c (n + 1) * u ^ n)
     rw [ihn, Int.mul_add, Int.pow_succ, Int.mul_comm (u ^ n) u, ← Int.mul_assoc (c (n + 1)) u, Int.mul_comm (c (n + 1)) u, Int.mul_assoc u]
     omega
   exact this d
  have h0 : c 0 = 0 := by
   apply Classical.byContradiction
   intro hc
   have h1 := h (ab (c 0) + 2) (by have := ab_nonneg (c 0); omega)
   rw [split] at h1
   generalize Sm d _ = s at h1
   have hab : ab (c 0) = (c 0).natAbs := rfl
   have hdvd : (ab (c 0) + 2) ∣ c 0 := ⟨-s, by rw [Int.mul_neg]; omega⟩
   have := Int.natAbs_dvd_natAbs.2 hdvd
   have := Nat.le_of_dvd (by omega) this
   have e : (ab (c 0) + 2).natAbs = (c 0).natAbs + 2 := by rw [hab]; omega
   omega
  intro i hi
  by_cases e : i = 0
  ·rw [e]; exact h0
  ·have := ih (fun i => c (i + 1)) (fun u hu => by
    have h1 := h u hu
    rw [split, h0, Int.zero_add] at h1
    rcases Int.mul_eq_zero.1 h1 with h2 | h2
    ·omega
    ·exact h2) (i - 1) (by omega)
   simp only [Nat.sub_add_cancel (show 1 ≤ i by omega)] at this
   exact this

theorem coef_zero (d : Nat) (c : Nat → Int) (h : ∀ u : Int, 1 ≤ u → Sm d (fun i => c i * u ^ i) = 0) : ∀ i, i < d → c i = 0 := coef_zero2 d c (fun u hu => h u (by omega))
/-- A product of n numbers. -/
def Pr : Nat → (Nat → Int) → Int
 | 0, _ => 1
 | n + 1, f => Pr n f * f n

theorem Pr_congr {n : Nat} {f g : Nat → Int} (h : ∀ i, i < n → f i = g i) : Pr n f = Pr n g := by
 induction n with
 | zero => rfl
 | succ n ih => unfold Pr; rw [ih (fun i hi => h i (by omega)), h n (by omega)]

theorem Pr_nonneg {n : Nat} {f : Nat → Int} (h : ∀ i, i < n → 0 ≤ f i) : 0 ≤ Pr n f := by
 induction n with
 | zero => exact (by decide : (0 : Int) ≤ 1)
 | succ n ih =>
  unfold Pr
  exact Int.mul_nonneg (ih (fun i hi => h i (by omega))) (h n (by omega))

theorem Pr_mono {n : Nat} {f g : Nat → Int} (h0 : ∀ i, i < n → 0 ≤ f i) (h : ∀ i, i < n → f i ≤ g i) : Pr n f ≤ Pr n g := by
 induction n with
 | zero => exact Int.le_refl _
 | succ n ih =>
  unfold Pr
  have h1 := ih (fun i hi => h0 i (by omega)) (fun i hi => h i (by omega))
  have h2 : Pr n f * f n ≤ Pr n g * f n := Int.mul_le_mul_of_nonneg_right h1 (h0 n (by omega))
  have hg : 0 ≤ Pr n g := Pr_nonneg (fun i hi => Int.le_trans (h0 i (by omega)) (h i (by omega)))
  have h3 : Pr n g * f n ≤ Pr n g * g n := Int.mul_le_mul_of_nonneg_left (h n (by omega)) hg
  omega

/-- The number's place behind the one that is left out. -/
def skip (j k : Nat) : Nat := if k < j then k else k + 1

theorem Pr_skip (n j : Nat) (f : Nat → Int) (hj : j ≤ n) : Pr (n + 1) (fun k => f (skip j k)) = if j = n + 1 then Pr (n + 1) f else Pr n (fun k => f (skip j k)) * f (n + 1) := by
 rw [if_neg (by omega)]
 show Pr n (fun k => f (skip j k)) * f (skip j n) = _
 rw [show skip j n = n + 1 from if_neg (by omega)]

theorem Pr_sum_le (a c : Nat → Int) (ha : ∀ i, 0 ≤ a i) (hc : ∀ i, 0 ≤ c i) : ∀ n, Sm (n + 1) (fun j => a j * Pr n (fun k => c (skip j k))) + Pr (n + 1) c ≤ Pr (n + 1) (fun k => a k + c k) := by
 intro n
 induction n with
 | zero =>
  show 0 + a 0 * 1 + 1 * c 0 ≤ 1 * (a 0 + c 0)
  omega
 | succ n ih =>
  have e1 : Sm (n + 1) (fun j => a j * Pr (n + 1) (fun k => c (skip j k))) = Sm (n + 1) (fun j => a j * Pr n (fun k => c (skip j k))) * c (n + 1) := by
   rw [← Sm_mul_right]
   refine Sm_congr (fun j hj => ?_)
   rw [Pr_skip n j c (by omega), if_neg (by omega), Int.mul_assoc]
  have e2 : Pr (n + 1) (fun k => c (skip (n + 1) k)) = Pr (n + 1) c := Pr_congr (fun k hk => by rw [show skip (n + 1) k = k from if_pos hk])
  show Sm (n + 1) (fun j => a j * Pr (n + 1) (fun k => c (skip j k))) + a (n + 1) * Pr (n + 1) (fun k => c (skip (n + 1) k)) + Pr (n + 1) c * c (n + 1) ≤ Pr (n + 1) (fun k => a k + c k) * (a (n + 1) + c (n + 1))
  rw [e1, e2, Int.mul_add]
  have hP : Pr (n + 1) c ≤ Pr (n + 1) (fun k => a k + c k) := Pr_mono (fun i _ => hc i) (fun i _ => by have := ha i; omega)
  have h1 : (Sm (n + 1) (fun j => a j * Pr n (fun k => c (skip j k))) + Pr (n + 1) c) * c (n + 1) ≤ Pr (n + 1) (fun k => a k + c k) * c (n + 1) := Int.mul_le_mul_of_nonneg_right ih (hc _)
  have h2 : Pr (n + 1) c * a (n + 1) ≤ Pr (n + 1) (fun k => a k + c k) * a (n + 1) := Int.mul_le_mul_of_nonneg_right hP (ha _)
  rw [Int.add_mul] at h1
  rw [Int.mul_comm (a (n + 1))]
  omega

/-- The coefficients of the determinant of a + u b. -/
def dc : Nat → (Nat → Nat → Int) → (Nat → Nat → Int) → Nat → Int
 | 0, _, _ => fun i => if i = 0 then 1 else 0
 | n + 1, a, b => fun i => Sm (n + 1) (fun j => lin (sg j * a 0 j) (sg j * b 0 j) (dc n (minor a j) (minor b j)) i)

theorem Coef.sum {d : Nat} (n : Nat) (B : Nat → Int) (c : Nat → Nat → Int) (f : Nat → Int → Int) (h : ∀ j, j < n → Coef d (B j) (c j) (f j)) : Coef d (Sm n B) (fun i => Sm n (fun j => c j i)) (fun u => Sm n (fun j => f j u)) := by
 induction n with
 | zero => exact Coef.zero d
 | succ n ih => exact Coef.add (ih (fun j hj => h j (by omega))) (h n (by omega))

/-- A column's size. -/
def cs (n : Nat) (a b : Nat → Nat → Int) (k : Nat) : Int := Sm n (fun i => ab (a i k) + ab (b i k))

theorem Sm_first (n : Nat) (f : Nat → Int) : Sm (n + 1) f = f 0 + Sm n (fun i => f (i + 1)) := by
 induction n with
 | zero => show 0 + f 0 = f 0 + 0; omega
 | succ n ih =>
  show Sm (n + 1) f + f (n + 1) = f 0 + (Sm n (fun i => f (i + 1)) + f (n + 1))
  rw [ih]; omega

theorem ab_sg (j : Nat) (x : Int) : ab (sg j * x) = ab x := by
 rw [ab_mul]
 have : ab (sg j) = 1 := by unfold sg ab; split <;> rfl
 rw [this, Int.one_mul]

theorem det_coef : ∀ (n : Nat) (a b : Nat → Nat → Int), Coef (n + 1) (Pr n (cs n a b)) (dc n a b) (fun u => det n (fun i k => a i k + u * b i k)) := by
 intro n
 induction n with
 | zero => intro a b; exact Coef.one
 | succ n ih =>
  intro a b
  have h := Coef.sum (d := n + 2) (n + 1) (fun j => (ab (sg j * a 0 j) + ab (sg j * b 0 j)) * Pr n (cs n (minor a j) (minor b j))) (fun j => lin (sg j * a 0 j) (sg j * b 0 j) (dc n (minor a j) (minor b j)))
   (fun j u => (sg j * a 0 j + u * (sg j * b 0 j)) * det n (fun i k => minor a j i k + u * minor b j i k)) (fun j _ => (ih (minor a j) (minor b j)).lin_mul _ _)
  have hB : Sm (n + 1) (fun j => (ab (sg j * a 0 j) + ab (sg j * b 0 j)) * Pr n (cs n (minor a j) (minor b j))) ≤ Pr (n + 1) (cs (n + 1) a b) := by
   have h1 := Pr_sum_le (fun k => ab (a 0 k) + ab (b 0 k)) (fun k => Sm n (fun i => ab (a (i + 1) k) + ab (b (i + 1) k))) (fun k => by have := ab_nonneg (a 0 k); have := ab_nonneg (b 0 k); omega) (fun k => Sm_nonneg (fun i _ => by have := ab_nonneg (a (i + 1) k); have := ab_nonneg (b (i + 1) k); omega)) n
   have h2 : 0 ≤ Pr (n + 1) (fun k => Sm n (fun i => ab (a (i + 1) k) + ab (b (i + 1) k))) := Pr_nonneg (fun k _ => Sm_nonneg (fun i _ => by have := ab_nonneg (a (i + 1) k); have := ab_nonneg (b (i + 1) k); omega))
   have e1 : Pr (n + 1) (cs (n + 1) a b) = Pr (n + 1) (fun k => (ab (a 0 k) + ab (b 0 k)) + Sm n (fun i => ab (a (i + 1) k) + ab (b (i + 1) k))) := Pr_congr (fun k _ => Sm_first n (fun i => ab (a i k) + ab (b i k)))
   have e2 : Sm (n + 1) (fun j => (ab (sg j * a 0 j) + ab (sg j * b 0 j)) * Pr n (cs n (minor a j) (minor b j))) = Sm (n + 1) (fun j => (ab (a 0 j) + ab (b 0 j)) * Pr n (fun k => Sm n (fun i => ab (a (i + 1) (skip j k)) + ab (b (i + 1) (skip j k))))) := Sm_congr (fun j _ => by
    rw [ab_sg, ab_sg]
    rfl)
   rw [e1, e2]
   omega
  refine ⟨h.1, fun u => ?_, Int.le_trans h.2.2 hB⟩
  refine Eq.trans ?_ (h.2.1 u)
  refine Sm_congr (fun j _ => ?_)
  show sg j * (a 0 j + u * b 0 j) * det n (minor (fun i k => a i k + u * b i k) j) = (sg j * a 0 j + u * (sg j * b 0 j)) * det n (fun i k => minor a j i k + u * minor b j i k)
  have e : minor (fun i k => a i k + u * b i k) j = fun i k => minor a j i k + u * minor b j i k := rfl
  rw [e, Int.mul_add, ← Int.mul_assoc (sg j) u, Int.mul_comm (sg j) u, Int.mul_assoc u]
theorem dc_high (n : Nat) (a b : Nat → Nat → Int) {i : Nat} (h : n + 1 ≤ i) : dc n a b i = 0 := (det_coef n a b).1 i h

theorem dc_zero : ∀ (n : Nat) (a b : Nat → Nat → Int), dc n a b 0 = det n a := by
 intro n
 induction n with
 | zero => intro a b; rfl
 | succ n ih =>
  intro a b
  show Sm (n + 1) (fun j => lin (sg j * a 0 j) (sg j * b 0 j) (dc n (minor a j) (minor b j)) 0) = Sm (n + 1) (fun j => sg j * a 0 j * det n (minor a j))
  refine Sm_congr (fun j _ => ?_)
  unfold lin
  rw [if_pos rfl, ih, Int.add_zero]

theorem dc_top : ∀ (n : Nat) (a b : Nat → Nat → Int), dc n a b n = det n b := by
 intro n
 induction n with
 | zero => intro a b; rfl
 | succ n ih =>
  intro a b
  show Sm (n + 1) (fun j => lin (sg j * a 0 j) (sg j * b 0 j) (dc n (minor a j) (minor b j)) (n + 1)) = Sm (n + 1) (fun j => sg j * b 0 j * det n (minor b j))
  refine Sm_congr (fun j _ => ?_)
  unfold lin
  rw [if_neg (by omega), Nat.add_sub_cancel, ih, dc_high n _ _ (Nat.le_refl _), Int.mul_zero, Int.zero_add]

def idm (i k : Nat) : Int := if i = k then 1 else 0
def ng (a : Nat → Nat → Int) (i k : Nat) : Int := - a i k

/-- The coefficients of det(1 - u a). -/
def ch (n : Nat) (a : Nat → Nat → Int) : Nat → Int := dc n idm (ng a)

/-- The coefficients of the adjoint's entries. -/
def nc (n : Nat) (a : Nat → Nat → Int) (m k i : Nat) : Int := dc n (setc idm k (unit i)) (setc (ng a) k (fun _ => 0)) m

def xu (a : Nat → Nat → Int) (u : Int) (i k : Nat) : Int := idm i k + u * ng a i k

theorem adj_xu (n : Nat) (a : Nat → Nat → Int) (u : Int) (k i : Nat) : adj n (xu a u) k i = Sm (n + 1) (fun m => nc n a m k i * u ^ m) := by
 refine Eq.trans ?_ ((det_coef n (setc idm k (unit i)) (setc (ng a) k (fun _ => 0))).2.1 u)
 unfold adj
 refine det_congr n _ _ (fun r c _ _ => ?_)
 unfold setc xu
 by_cases e : c = k
 ·rw [if_pos e, if_pos e, if_pos e, Int.mul_zero, Int.add_zero]
 ·rw [if_neg e, if_neg e, if_neg e]

theorem det_xu (n : Nat) (a : Nat → Nat → Int) (u : Int) : det n (xu a u) = Sm (n + 1) (fun m => ch n a m * u ^ m) := (det_coef n idm (ng a)).2.1 u

theorem nc_end (n : Nat) (a : Nat → Nat → Int) (m k i : Nat) (hk : k < n) (hm : n ≤ m) : nc n a m k i = 0 := by
 by_cases e : m = n
 ·subst e
  unfold nc
  rw [dc_top]
  exact det_zero_col m (ng a) k hk
 ·exact dc_high n _ _ (by omega)

/-- N_m = N_(m-1) A + d_m. -/
theorem nc_step (n : Nat) (a : Nat → Nat → Int) (m k j : Nat) (hk : k < n) (hj : j < n) : nc n a m k j = (if m = 0 then 0 else Sm n (fun i => nc n a (m - 1) k i * a i j)) + (if k = j then ch n a m else 0) := by
 by_cases hm : n + 2 ≤ m
 ·rw [nc_end n a m k j hk (by omega), if_neg (by omega), show ch n a m = 0 from dc_high n _ _ (by omega)]
  rw [Sm_congr (g := fun _ => 0) (fun i _ => by rw [nc_end n a (m - 1) k i hk (by omega), Int.zero_mul]), Sm_zero]
  split <;> rfl
 have key : ∀ u : Int, Sm (n + 2) (fun m => (nc n a m k j - ((if m = 0 then 0 else Sm n (fun i => nc n a (m - 1) k i * a i j)) + (if k = j then ch n a m else 0))) * u ^ m) = 0 := by
  intro u
  have h := adj_mul n (xu a u) k j hk hj
  unfold mul at h
  have e1 : Sm n (fun i => adj n (xu a u) k i * xu a u i j) = adj n (xu a u) k j - u * Sm n (fun i => adj n (xu a u) k i * a i j) := by
   have : Sm n (fun i => adj n (xu a u) k i * xu a u i j) = Sm n (fun i => (if i = j then 1 else 0) * adj n (xu a u) k i + (-u) * (adj n (xu a u) k i * a i j)) := Sm_congr (fun i _ => by
    unfold xu idm ng
    generalize adj n _ k i = g
    rw [Int.mul_add]
    congr 1
    ·exact Int.mul_comm _ _
    ·rw [Int.mul_neg, Int.mul_neg, Int.neg_mul, Int.mul_comm g, Int.mul_assoc, Int.mul_comm (a i j) g])
   rw [this, Sm_add, Sm_pick' n _ hj, Sm_mul_left, Int.neg_mul]
   rfl
  rw [e1] at h
  have e2 : Sm n (fun i => adj n (xu a u) k i * a i j) = Sm (n + 1) (fun m => Sm n (fun i => nc n a m k i * a i j) * u ^ m) := by
   rw [Sm_congr (g := fun i => Sm (n + 1) (fun m => nc n a m k i * a i j * u ^ m)) (fun i _ => by
    rw [adj_xu, ← Sm_mul_right]
    exact Sm_congr (fun m _ => by rw [Int.mul_assoc, Int.mul_comm (u ^ m), ← Int.mul_assoc])), Sm_swap]
   exact Sm_congr (fun m _ => Sm_mul_right n _ _)
  have e3 : u * Sm (n + 1) (fun m => Sm n (fun i => nc n a m k i * a i j) * u ^ m) = Sm (n + 2) (fun m => (if m = 0 then 0 else Sm n (fun i => nc n a (m - 1) k i * a i j)) * u ^ m) := by
   rw [← Sm_mul_left, ← Sm_shift]
   refine Sm_congr (fun m _ => ?_)
   by_cases e : m = 0
   ·rw [if_pos e, if_pos e, Int.zero_mul]
   ·rw [if_neg e, if_neg e]
    obtain ⟨q, rfl⟩ : ∃ q, m = q + 1 := ⟨m - 1, by omega⟩
    rw [Nat.add_sub_cancel, Int.pow_succ, Int.mul_comm (u ^ q) u, ← Int.mul_assoc, ← Int.mul_assoc, Int.mul_comm u]
  have e4 : Sm (n + 1) (fun m => nc n a m k j * u ^ m) = Sm (n + 2) (fun m => nc n a m k j * u ^ m) := (Sm_more _ (by omega) (fun i hi => by rw [nc_end n a i k j hk (by omega), Int.zero_mul])).symm
  have e5 : (if k = j then det n (xu a u) else 0) = Sm (n + 2) (fun m => (if k = j then ch n a m else 0) * u ^ m) := by
   by_cases c : k = j
   ·rw [if_pos c, det_xu]
    rw [Sm_congr (n := n + 2) (g := fun m => ch n a m * u ^ m) (fun m _ => by rw [if_pos c])]
    exact (Sm_more _ (by omega) (fun i hi => by rw [show ch n a i = 0 from dc_high n _ _ (by omega), Int.zero_mul])).symm
   ·rw [if_neg c, Sm_congr (n := n + 2) (g := fun _ => 0) (fun m _ => by rw [if_neg c, Int.zero_mul]), Sm_zero]
  rw [adj_xu, e2, e3, e4, e5] at h
  have e6 : Sm (n + 2) (fun m => (nc n a m k j - ((if m = 0 then 0 else Sm n (fun i => nc n a (m - 1) k i * a i j)) + (if k = j then ch n a m else 0))) * u ^ m) = Sm (n + 2) (fun m => nc n a m k j * u ^ m) + ((-1) * Sm (n + 2) (fun m => (if m = 0 then 0 else Sm n (fun i => nc n a (m - 1) k i * a i j)) * u ^ m) + (-1) * Sm (n + 2) (fun m => (if k = j then ch n a m else 0) * u ^ m)) := by
   rw [← Sm_mul_left, ← Sm_mul_left, ← Sm_add, ← Sm_add]
   refine Sm_congr (fun m _ => ?_)
   generalize nc n a m k j = x1
   generalize (if m = 0 then (0 : Int) else _) = x2
   generalize (if k = j then _ else (0 : Int)) = x3
   generalize u ^ m = x4
   rw [Int.sub_mul, Int.add_mul]
   omega
  rw [e6]
  omega
 have := coef_zero (n + 2) _ (fun u _ => key u) m (by omega)
 omega
/-- The same function of u has the same coefficients. -/
theorem ch_of (n : Nat) (x a b : Nat → Nat → Int) (h : ∀ u : Int, det n (xu x u) = det n (fun i k => a i k + u * b i k)) (m : Nat) : ch n x m = dc n a b m := by
 by_cases hm : n + 1 ≤ m
 ·rw [show ch n x m = 0 from dc_high n _ _ hm, dc_high n _ _ hm]
 have := coef_zero (n + 1) (fun m => ch n x m - dc n a b m) (fun u _ => by
  have h1 := h u
  have h2 := (det_coef n a b).2.1 u
  simp only at h2
  rw [det_xu, h2] at h1
  rw [Sm_congr (g := fun m => ch n x m * u ^ m + (-1) * (dc n a b m * u ^ m)) (fun m _ => by grind), Sm_add, Sm_mul_left]
  omega) m (by omega)
 omega

theorem Sm_cut {d e : Nat} (f : Nat → Int) (hde : d ≤ e) (h : ∀ i, i < e → d ≤ i → f i = 0) : Sm e f = Sm d f := by
 induction e with
 | zero => rw [show d = 0 by omega]
 | succ e ih =>
  by_cases c : d = e + 1
  ·rw [c]
  ·show Sm e f + f e = _
   rw [ih (by omega) (fun i hi hd => h i (by omega) hd), h e (by omega) (by omega), Int.add_zero]

theorem Sm_split (a b : Nat) (f : Nat → Int) : Sm (a + b) f = Sm a f + Sm b (fun i => f (a + i)) := by
 induction b with
 | zero => show Sm a f = Sm a f + 0; omega
 | succ b ih =>
  show Sm (a + b) f + f (a + b) = Sm a f + (Sm b (fun i => f (a + i)) + f (a + b))
  rw [ih]; omega

/-- More columns than rows that are not zero. -/
theorem det_thin : ∀ (N : Nat) (m : Nat → Nat → Int) (r s : Nat), r < s → s ≤ N → (∀ i k, i < N → k < s → r ≤ i → m i k = 0) → det N m = 0 := by
 intro N
 induction N with
 | zero => intro m r s h1 h2 _; omega
 | succ N ih =>
  intro m r s h1 h2 h
  by_cases hr : r = 0
  ·subst hr
   have e : det (N + 1) m = det (N + 1) (setc m 0 (fun _ => 0)) := by
    refine det_congr _ _ _ (fun i k hi hk => ?_)
    unfold setc
    by_cases c : k = 0
    ·rw [if_pos c]; exact h i k hi (by omega) (by omega)
    ·rw [if_neg c]
   rw [e, det_zero_col _ _ _ (by omega)]
  ·show Sm (N + 1) (fun j => sg j * m 0 j * det N (minor m j)) = 0
   rw [Sm_congr (g := fun _ => 0) (fun j hj => ?_), Sm_zero]
   by_cases c : j < s
   ·by_cases hs : s = N + 1
    ·rw [ih (minor m j) (r - 1) (s - 1) (by omega) (by omega) (fun i k hi hk hr' => ?_), Int.mul_zero]
     unfold minor
     split
     ·exact h _ _ (by omega) (by omega) (by omega)
     ·exact h _ _ (by omega) (by omega) (by omega)
    ·rw [ih (minor m j) (r - 1) (s - 1) (by omega) (by omega) (fun i k hi hk hr' => ?_), Int.mul_zero]
     unfold minor
     split
     ·exact h _ _ (by omega) (by omega) (by omega)
     ·exact h _ _ (by omega) (by omega) (by omega)
   ·rw [ih (minor m j) (r - 1) s (by omega) (by omega) (fun i k hi hk hr' => ?_), Int.mul_zero]
    unfold minor
    rw [if_pos (by omega)]
    exact h _ _ (by omega) (by omega) (by omega)

/-- Zero to the right above. -/
theorem det_block_right : ∀ (p q : Nat) (m : Nat → Nat → Int), (∀ i k, i < p → p ≤ k → k < p + q → m i k = 0) → det (p + q) m = det p m * det q (fun i k => m (p + i) (p + k)) := by
 intro p
 induction p with
 | zero =>
  intro q m _
  show _ = 1 * _
  rw [Int.one_mul, Nat.zero_add]
  exact det_congr _ _ _ (fun i k _ _ => by rw [Nat.zero_add, Nat.zero_add])
 | succ p ih =>
  intro q m h
  rw [show p + 1 + q = p + q + 1 by omega]
  show Sm (p + q + 1) (fun j => sg j * m 0 j * det (p + q) (minor m j)) = Sm (p + 1) (fun j => sg j * m 0 j * det p (minor m j)) * _
  rw [Sm_cut (d := p + 1) _ (by omega) (fun i hi hd => by rw [h 0 i (by omega) hd (by omega), Int.mul_zero, Int.zero_mul]), ← Sm_mul_right]
  refine Sm_congr (fun j hj => ?_)
  rw [ih q (minor m j) (fun i k hi hk hk2 => ?_), ← Int.mul_assoc]
  ·congr 1
   refine det_congr _ _ _ (fun i k _ _ => ?_)
   unfold minor
   rw [if_neg (by omega), show p + i + 1 = p + 1 + i by omega, show p + k + 1 = p + 1 + k by omega]
  ·unfold minor
   rw [if_neg (by omega)]
   exact h _ _ (by omega) (by omega) (by omega)

/-- Zero to the left below. -/
theorem det_block_left : ∀ (p q : Nat) (m : Nat → Nat → Int), (∀ i k, p ≤ i → i < p + q → k < p → m i k = 0) → det (p + q) m = det p m * det q (fun i k => m (p + i) (p + k)) := by
 intro p
 induction p with
 | zero =>
  intro q m _
  show _ = 1 * _
  rw [Int.one_mul, Nat.zero_add]
  exact det_congr _ _ _ (fun i k _ _ => by rw [Nat.zero_add, Nat.zero_add])
 | succ p ih =>
  intro q m h
  rw [show p + 1 + q = p + q + 1 by omega]
  show Sm (p + q + 1) (fun j => sg j * m 0 j * det (p + q) (minor m j)) = Sm (p + 1) (fun j => sg j * m 0 j * det p (minor m j)) * _
  rw [Sm_cut (d := p + 1) _ (by omega) (fun j hj hd => ?_), ← Sm_mul_right]
  ·refine Sm_congr (fun j hj => ?_)
   rw [ih q (minor m j) (fun i k hi hi2 hk => ?_), ← Int.mul_assoc]
   ·congr 1
    refine det_congr _ _ _ (fun i k _ _ => ?_)
    unfold minor
    rw [if_neg (by omega), show p + i + 1 = p + 1 + i by omega, show p + k + 1 = p + 1 + k by omega]
   ·unfold minor
    split
    ·exact h _ _ (by omega) (by omega) (by omega)
    ·exact h _ _ (by omega) (by omega) (by omega)
  ·rw [det_thin (p + q) (minor m j) p (p + 1) (by omega) (by omega) (fun i k hi hk hr => ?_), Int.mul_zero]
   unfold minor
   rw [if_pos (by omega)]
   exact h _ _ (by omega) (by omega) (by omega)

/-- Each column before k that is marked: s times itself and some of the columns that are not marked. -/
def colw (N : Nat) (p : Nat → Bool) (s : Int) (t : Nat → Nat → Int) (m : Nat → Nat → Int) (k : Nat) (i c : Nat) : Int :=
 if c < k ∧ p c = true then s * m i c + Sm N (fun d => (if p d then 0 else t c d) * m i d) else m i c

def marked (p : Nat → Bool) : Nat → Nat
 | 0 => 0
 | k + 1 => marked p k + if p k then 1 else 0

theorem det_colw (N : Nat) (p : Nat → Bool) (s : Int) (t : Nat → Nat → Int) (m : Nat → Nat → Int) : ∀ k, k ≤ N → det N (colw N p s t m k) = s ^ marked p k * det N m := by
 intro k
 induction k with
 | zero =>
  intro _
  show _ = s ^ 0 * _
  rw [Int.pow_zero, Int.one_mul]
  refine det_congr N _ _ (fun i f _ _ => ?_)
  unfold colw
  rw [if_neg (by omega)]
 | succ k ih =>
  intro hk
  have h0 := ih (by omega)
  by_cases e : p k = true
  ·have hs := det_sum N (colw N p s t m k) k (by omega) (fun d => if p d then 0 else t k d) (fun d i => colw N p s t m k i d) N
   have hz : Sm N (fun d => (if p d then 0 else t k d) * det N (setc (colw N p s t m k) k (fun i => colw N p s t m k i d))) = 0 := by
    rw [Sm_congr (g := fun _ => 0) (fun d hd => ?_), Sm_zero]
    by_cases c : p d = true
    ·rw [if_pos c, Int.zero_mul]
    ·have hdk : d ≠ k := fun z => c (z ▸ e)
     rw [det_same (p := k) (q := d) (by omega) hd (fun z => hdk z.symm) (fun i => ?_), Int.mul_zero]
     unfold setc
     rw [if_pos rfl, if_neg hdk]
   rw [hz] at hs
   have h1 := det_lin N (colw N p s t m k) k s 1 (fun i => colw N p s t m k i k) (fun r => Sm N (fun d => (if p d then 0 else t k d) * colw N p s t m k r d)) (by omega)
   rw [setc_self, hs, h0, Int.mul_zero, Int.add_zero] at h1
   rw [show marked p (k + 1) = marked p k + 1 from by show _ + (if p k then 1 else 0) = _; rw [if_pos e], Int.pow_succ, Int.mul_comm (s ^ marked p k) s, Int.mul_assoc, ← h1]
   refine det_congr N _ _ (fun i f _ hf => ?_)
   unfold setc
   by_cases e2 : f = k
   ·rw [if_pos e2, e2]
    have a1 : colw N p s t m (k + 1) i k = s * m i k + Sm N (fun d => (if p d then 0 else t k d) * m i d) := if_pos ⟨by omega, e⟩
    have a2 : colw N p s t m k i k = m i k := if_neg (by omega)
    show colw N p s t m (k + 1) i k = s * colw N p s t m k i k + 1 * Sm N (fun d => (if p d then 0 else t k d) * colw N p s t m k i d)
    rw [a1, a2, Int.one_mul]
    congr 1
    refine Sm_congr (fun d hd => ?_)
    by_cases c : p d = true
    ·rw [if_pos c, Int.zero_mul, Int.zero_mul]
    ·rw [show colw N p s t m k i d = m i d from if_neg (fun z => c z.2)]
   ·rw [if_neg e2]
    unfold colw
    by_cases c : f < k ∧ p f = true
    ·rw [if_pos c, if_pos ⟨by omega, c.2⟩]
    ·rw [if_neg c, if_neg (fun z => c ⟨by omega, z.2⟩)]
  ·rw [show marked p (k + 1) = marked p k from by show _ + (if p k then 1 else 0) = _; rw [if_neg e]; rfl, ← h0]
   refine det_congr N _ _ (fun i f _ _ => ?_)
   unfold colw
   by_cases c : f < k ∧ p f = true
   ·rw [if_pos c, if_pos ⟨by omega, c.2⟩]
   ·rw [if_neg c, if_neg (fun z => ?_)]
    by_cases e2 : f = k
    ·exact e (e2 ▸ z.2)
    ·exact c ⟨by omega, z.2⟩

theorem marked_ge (n : Nat) : ∀ k, marked (fun c => decide (n ≤ c)) k = k - n := by
 intro k
 induction k with
 | zero => simp [marked]
 | succ k ih =>
  show marked _ k + (if decide (n ≤ k) = true then 1 else 0) = _
  rw [ih]
  by_cases c : n ≤ k
  ·rw [if_pos (decide_eq_true c)]; omega
  ·rw [if_neg (show ¬ decide (n ≤ k) = true by simp; omega)]; omega

/-- x times the unit. -/
def xid (x : Int) (i k : Nat) : Int := if i = k then x else 0

theorem det_xid (x : Int) : ∀ n, det n (xid x) = x ^ n := by
 intro n
 induction n with
 | zero => exact (Int.pow_zero x).symm
 | succ n ih =>
  have h := det_block_right n 1 (xid x) (fun i k hi hk _ => by unfold xid; rw [if_neg (by omega)])
  rw [h, ih, Int.pow_succ]
  congr 1
  show 0 + 1 * (if n + 0 = n + 0 then x else 0) * 1 = x
  rw [if_pos rfl]
  omega

/-- x 1 beside X above, E beside 1 below. -/
def bl (n : Nat) (x : Int) (X E : Nat → Nat → Int) (i k : Nat) : Int :=
 if i < n then (if k < n then xid x i k else X i (k - n)) else (if k < n then E (i - n) k else xid 1 (i - n) (k - n))

theorem Sm_pick_mul (N : Nat) (f : Nat → Int) (x : Int) {p : Nat} (hp : p < N) : Sm N (fun d => f d * xid x d p) = f p * x := by
 rw [Sm_congr (g := fun d => (if d = p then 1 else 0) * (f d * x)) (fun d _ => ?_)]
 ·exact Sm_pick' N (fun d => f d * x) hp
 ·unfold xid
  by_cases c : d = p
  ·rw [if_pos c, if_pos c, Int.one_mul]
  ·rw [if_neg c, if_neg c, Int.zero_mul, Int.mul_zero]

theorem Sm_pick_mul' (N : Nat) (f : Nat → Int) (x : Int) {p : Nat} (hp : p < N) : Sm N (fun d => f d * xid x p d) = f p * x := by
 rw [← Sm_pick_mul N f x hp]
 exact Sm_congr (fun d _ => by
  unfold xid
  by_cases c : p = d
  ·rw [if_pos c, if_pos c.symm]
  ·rw [if_neg c, if_neg (fun z => c z.symm)])

/-- The left columns less those to the right: below all is zero. -/
theorem bl_left (n q : Nat) (x : Int) (X E : Nat → Nat → Int) : det (n + q) (bl n x X E) = det n (fun i k => xid x i k - Sm q (fun e => X i e * E e k)) := by
 have h := det_colw (n + q) (fun c => decide (c < n)) 1 (fun c d => -(E (d - n) c)) (bl n x X E) (n + q) (Nat.le_refl _)
 rw [Int.one_pow, Int.one_mul] at h
 rw [← h]
 have cell : ∀ i k, k < n → colw (n + q) (fun c => decide (c < n)) 1 (fun c d => -(E (d - n) c)) (bl n x X E) (n + q) i k = bl n x X E i k - Sm q (fun e => bl n x X E i (n + e) * E e k) := by
  intro i k hk
  unfold colw
  rw [if_pos ⟨by omega, decide_eq_true hk⟩, Int.one_mul, Sm_split]
  rw [Sm_congr (n := n) (g := fun _ => 0) (fun d hd => by rw [if_pos (decide_eq_true hd), Int.zero_mul]), Sm_zero, Int.zero_add]
  rw [Sm_congr (n := q) (g := fun e => (-1) * (bl n x X E i (n + e) * E e k)) (fun e _ => by
   rw [if_neg (show ¬ decide (n + e < n) = true by simp)]
   show -(E (n + e - n) k) * _ = _
   rw [Nat.add_sub_cancel_left]
   grind), Sm_mul_left]
  omega
 rw [det_block_left n q _ (fun i k hi hi2 hk => ?_)]
 ·have e1 : det q (fun i k => colw (n + q) (fun c => decide (c < n)) 1 (fun c d => -(E (d - n) c)) (bl n x X E) (n + q) (n + i) (n + k)) = 1 := by
   rw [← Int.one_pow (n := q), ← det_xid 1 q]
   refine det_congr q _ _ (fun i k _ _ => ?_)
   unfold colw
   rw [if_neg (fun z => by have := of_decide_eq_true z.2; omega)]
   unfold bl
   rw [if_neg (by omega), if_neg (by omega), Nat.add_sub_cancel_left, Nat.add_sub_cancel_left]
  rw [e1, Int.mul_one]
  refine det_congr n _ _ (fun i k hi hk => ?_)
  rw [cell i k hk]
  congr 1
  ·unfold bl; rw [if_pos hi, if_pos hk]
  ·refine Sm_congr (fun e _ => ?_)
   unfold bl
   rw [if_pos hi, if_neg (by omega), Nat.add_sub_cancel_left]
 ·rw [cell i k hk]
  have e2 : Sm q (fun e => bl n x X E i (n + e) * E e k) = E (i - n) k * 1 := by
   rw [← Sm_pick_mul' q (fun e => E e k) 1 (p := i - n) (by omega)]
   refine Sm_congr (fun e _ => ?_)
   unfold bl
   rw [if_neg (by omega), if_neg (by omega), Nat.add_sub_cancel_left, Int.mul_comm]
  rw [e2]
  unfold bl
  rw [if_neg (by omega), if_pos hk]
  omega

/-- x times the right columns less those to the left: above all is zero. -/
theorem bl_right (n q : Nat) (x : Int) (X E : Nat → Nat → Int) : x ^ q * det (n + q) (bl n x X E) = x ^ n * det q (fun i k => xid x i k - Sm n (fun v => E i v * X v k)) := by
 have h := det_colw (n + q) (fun c => decide (n ≤ c)) x (fun c d => -(X d (c - n))) (bl n x X E) (n + q) (Nat.le_refl _)
 rw [marked_ge, Nat.add_sub_cancel_left] at h
 rw [← h]
 have cell : ∀ i k, k < q → colw (n + q) (fun c => decide (n ≤ c)) x (fun c d => -(X d (c - n))) (bl n x X E) (n + q) i (n + k) = x * bl n x X E i (n + k) - Sm n (fun v => bl n x X E i v * X v k) := by
  intro i k hk
  unfold colw
  rw [if_pos ⟨by omega, decide_eq_true (by omega)⟩, Sm_split]
  rw [Sm_congr (n := q) (g := fun _ => 0) (fun d hd => by rw [if_pos (decide_eq_true (by omega)), Int.zero_mul]), Sm_zero, Int.add_zero]
  rw [Sm_congr (n := n) (g := fun v => (-1) * (bl n x X E i v * X v k)) (fun v hv => by
   rw [if_neg (show ¬ decide (n ≤ v) = true by simp; omega)]
   show -(X v (n + k - n)) * _ = _
   rw [Nat.add_sub_cancel_left]
   grind), Sm_mul_left]
  omega
 rw [det_block_right n q _ (fun i k hi hk hk2 => ?_)]
 ·have e1 : det n (colw (n + q) (fun c => decide (n ≤ c)) x (fun c d => -(X d (c - n))) (bl n x X E) (n + q)) = x ^ n := by
   rw [← det_xid x n]
   refine det_congr n _ _ (fun i k hi hk => ?_)
   unfold colw
   rw [if_neg (fun z => by have := of_decide_eq_true z.2; omega)]
   unfold bl
   rw [if_pos hi, if_pos hk]
  rw [e1]
  congr 1
  refine det_congr q _ _ (fun i k hi hk => ?_)
  rw [cell (n + i) k hk]
  congr 1
  ·unfold bl xid
   rw [if_neg (by omega), if_neg (by omega), Nat.add_sub_cancel_left, Nat.add_sub_cancel_left]
   split
   ·omega
   ·omega
  ·refine Sm_congr (fun v hv => ?_)
   unfold bl
   rw [if_neg (by omega), if_pos hv, Nat.add_sub_cancel_left]
 ·obtain ⟨k', rfl⟩ : ∃ k', k = n + k' := ⟨k - n, by omega⟩
  rw [cell i k' (by omega)]
  have e2 : Sm n (fun v => bl n x X E i v * X v k') = X i k' * x := by
   rw [← Sm_pick_mul' n (fun v => X v k') x (p := i) hi]
   refine Sm_congr (fun v hv => ?_)
   unfold bl
   rw [if_pos hi, if_pos hv, Int.mul_comm]
  rw [e2]
  unfold bl
  rw [if_pos hi, if_neg (by omega), Nat.add_sub_cancel_left]
  grind

/-- The two orders of a product. -/
theorem det_two_orders (n q : Nat) (x : Int) (X E : Nat → Nat → Int) : x ^ q * det n (fun i k => xid x i k - Sm q (fun e => X i e * E e k)) = x ^ n * det q (fun i k => xid x i k - Sm n (fun v => E i v * X v k)) := by
 rw [← bl_left, bl_right]
/-- How many columns below c the set has. -/
def popU (t : Nat) : Nat → Nat
 | 0 => 0
 | c + 1 => popU t c + if t.testBit c then 1 else 0

theorem popU_mono (t : Nat) {c d : Nat} (h : c ≤ d) : popU t c ≤ popU t d := by
 induction d with
 | zero => rw [show c = 0 by omega]; exact Nat.le_refl _
 | succ d ih =>
  by_cases e : c = d + 1
  ·rw [e]; exact Nat.le_refl _
  ·have := ih (by omega)
   show popU t c ≤ popU t d + (if t.testBit d then 1 else 0)
   omega

theorem popU_le (t c : Nat) : popU t c ≤ c := by
 induction c with
 | zero => exact Nat.le_refl _
 | succ c ih =>
  unfold popU
  split <;> omega

/-- How many columns above c the set has. -/
def abv (n t c : Nat) : Nat := popU t n - popU t (c + 1)

/-- The set's columns in falling order. -/
def desc (t : Nat) : Nat → List Nat
 | 0 => []
 | c + 1 => if t.testBit c then c :: desc t c else desc t c

theorem Sm_one_more (n : Nat) (f : Nat → Int) : Sm (n + 1) f = Sm n f + f n := rfl

theorem sum_desc (t : Nat) : ∀ (n : Nat) (f : Nat → Nat → Int), Sm n (fun c => if t.testBit c then f (abv n t c) c else 0) = Sm (popU t n) (fun j => f j ((desc t n).getD j 0)) := by
 intro n
 induction n with
 | zero => intro f; rfl
 | succ n ih =>
  intro f
  rw [Sm_one_more]
  unfold abv desc
  by_cases b : t.testBit n = true
  ·have hp : popU t (n + 1) = popU t n + 1 := by
    show popU t n + (if t.testBit n = true then 1 else 0) = _
    rw [if_pos b]
   rw [if_pos b, if_pos b, hp, Nat.sub_self, Sm_first]
   have h1 := ih (fun j c => f (j + 1) c)
   rw [show Sm n (fun c => if t.testBit c = true then f (popU t n + 1 - popU t (c + 1)) c else 0) = Sm n (fun c => if t.testBit c = true then f (abv n t c + 1) c else 0) from Sm_congr (fun c hc => by
    have := popU_mono t (show c + 1 ≤ n by omega)
    rw [show popU t n + 1 - popU t (c + 1) = abv n t c + 1 by unfold abv; omega]), h1]
   simp only [List.getD_cons_zero, List.getD_cons_succ]
   omega
  ·have hp : popU t (n + 1) = popU t n := by
    show popU t n + (if t.testBit n = true then 1 else 0) = _
    rw [if_neg b]; rfl
   rw [if_neg b, if_neg b, hp, Int.add_zero]
   exact ih f

theorem desc_congr {t s : Nat} : ∀ n, (∀ d, d < n → t.testBit d = s.testBit d) → desc t n = desc s n ∧ popU t n = popU s n := by
 intro n
 induction n with
 | zero => intro _; exact ⟨rfl, rfl⟩
 | succ n ih =>
  intro h
  obtain ⟨h1, h2⟩ := ih (fun d hd => h d (by omega))
  unfold desc popU
  rw [h n (by omega), h1, h2]
  exact ⟨rfl, rfl⟩

/-- One column left out. -/
theorem desc_out {t s c : Nat} (hc : t.testBit c = true) (h : ∀ d, s.testBit d = (t.testBit d && d != c)) : ∀ n, c < n → desc s n = (desc t n).eraseIdx (abv n t c) ∧ popU s n + 1 = popU t n := by
 intro n
 induction n with
 | zero => intro hn; omega
 | succ n ih =>
  intro hn
  by_cases e : c = n
  ·subst e
   have h0 : s.testBit c = false := by rw [h c]; simp
   obtain ⟨h1, h2⟩ := desc_congr (t := s) (s := t) c (fun d hd => by rw [h d]; simp; omega)
   unfold abv desc popU
   rw [Nat.sub_self, hc, h0, h1, h2]
   exact ⟨rfl, rfl⟩
  ·obtain ⟨h1, h2⟩ := ih (by omega)
   have h3 : s.testBit n = t.testBit n := by rw [h n]; simp; omega
   have hm := popU_mono t (show c + 1 ≤ n by omega)
   have hb : abv (n + 1) t c = abv n t c + if t.testBit n = true then 1 else 0 := by
    unfold abv
    rw [show popU t (n + 1) = popU t n + if t.testBit n = true then 1 else 0 from rfl]
    omega
   rw [hb, show desc s (n + 1) = if s.testBit n then n :: desc s n else desc s n from rfl, show desc t (n + 1) = if t.testBit n then n :: desc t n else desc t n from rfl, show popU s (n + 1) = popU s n + (if s.testBit n then 1 else 0) from rfl, show popU t (n + 1) = popU t n + (if t.testBit n then 1 else 0) from rfl, h3, h1]
   by_cases b : t.testBit n = true
   ·rw [if_pos b, if_pos b, if_pos b]
    exact ⟨rfl, by omega⟩
   ·rw [if_neg b, if_neg b, if_neg b]
    exact ⟨rfl, by omega⟩

theorem getD_eraseIdx (l : List Nat) (j k : Nat) : (l.eraseIdx j).getD k 0 = l.getD (if k < j then k else k + 1) 0 := by
 rw [List.getD_eq_getElem?_getD, List.getD_eq_getElem?_getD, List.getElem?_eraseIdx]
 split <;> rfl

/-- The set without a column. -/
def er (t c : Nat) : Nat := t - 2 ^ c

section
variable (n : Nat) (b0 b1 b2 : Nat → Nat → Int)

/-- A polynomial times another one with three coefficients. -/
def cv (x y z : Int) (a : Nat → Int) (i : Nat) : Int := lin x y a i + lin 0 1 (lin 0 z a) i

/-- The coefficients of the determinant of the r first rows over a set. -/
def pcoef : Nat → Nat → Nat → Int
 | 0, _ => fun i => if i = 0 then 1 else 0
 | r + 1, t => fun i => Sm n (fun c => if t.testBit c then sg (abv n t c) * cv (b0 r c) (b1 r c) (b2 r c) (pcoef r (er t c)) i else 0)

def vu (u : Int) (r c : Nat) : Int := b0 r c + u * b1 r c + u * u * b2 r c

def pval (u : Int) : Nat → Nat → Int
 | 0, _ => 1
 | r + 1, t => Sm n (fun c => if t.testBit c then sg (abv n t c) * (vu b0 b1 b2 u r c * pval u r (er t c)) else 0)

/-- Coefficients without a bound. -/
def Cf (d : Nat) (c : Nat → Int) (f : Int → Int) : Prop := Coef d (Sm d (fun i => ab (c i))) c f

theorem Cf.of {d : Nat} {B : Int} {c : Nat → Int} {f : Int → Int} (h : Coef d B c f) : Cf d c f := ⟨h.1, h.2.1, Int.le_refl _⟩

theorem Cf.scale {d : Nat} {c : Nat → Int} {f : Int → Int} (h : Cf d c f) (s : Int) : Cf d (fun i => s * c i) (fun u => s * f u) := by
 refine ⟨fun i hi => ?_, fun u => ?_, Int.le_refl _⟩
 ·show s * c i = 0
  rw [h.1 i hi, Int.mul_zero]
 ·show s * f u = _
  rw [h.2.1 u, ← Sm_mul_left]
  exact Sm_congr (fun i _ => (Int.mul_assoc _ _ _).symm)

theorem Cf.cv {d : Nat} {c : Nat → Int} {f : Int → Int} (h : Cf d c f) (x y z : Int) : Cf (d + 2) (cv x y z c) (fun u => (x + u * y + u * u * z) * f u) := by
 have h1 := Cf.of ((Coef.lin_mul h x y).more (show d + 1 ≤ d + 2 by omega))
 have h2 := Cf.of (Coef.lin_mul (Coef.lin_mul h 0 z) 0 1)
 have h3 := Cf.of (Coef.add h1 h2)
 refine ⟨h3.1, fun u => ?_, Int.le_refl _⟩
 have h4 := h3.2.1 u
 show (x + u * y + u * u * z) * f u = _
 rw [show (x + u * y + u * u * z) * f u = (x + u * y) * f u + (0 + u * 1) * ((0 + u * z) * f u) by grind]
 exact h4

theorem pcoef_val : ∀ r t, Cf (2 * r + 1) (pcoef n b0 b1 b2 r t) (fun u => pval n b0 b1 b2 u r t) := by
 intro r
 induction r with
 | zero => intro t; exact Cf.of Coef.one
 | succ r ih =>
  intro t
  refine Cf.of (Coef.sum n (fun c => Sm (2 * (r + 1) + 1) (fun i => ab (if t.testBit c then sg (abv n t c) * cv (b0 r c) (b1 r c) (b2 r c) (pcoef n b0 b1 b2 r (er t c)) i else 0))) (fun c i => if t.testBit c then sg (abv n t c) * cv (b0 r c) (b1 r c) (b2 r c) (pcoef n b0 b1 b2 r (er t c)) i else 0) (fun c u => if t.testBit c then sg (abv n t c) * (vu b0 b1 b2 u r c * pval n b0 b1 b2 u r (er t c)) else 0) (fun c _ => ?_))
  by_cases b : t.testBit c = true
  ·simp only [if_pos b]
   exact Cf.scale (Cf.cv (ih (er t c)) _ _ _) _
  ·simp only [if_neg b]
   exact Cf.of (Coef.zero _)

/-- The value is a determinant: rows and columns in falling order. -/
theorem pval_det (u : Int) (hbit : ∀ t c d, t < 2 ^ n → c < n → t.testBit c = true → (er t c).testBit d = (t.testBit d && d != c)) : ∀ (r t : Nat), t < 2 ^ n → popU t n = r → pval n b0 b1 b2 u r t = det r (fun i k => vu b0 b1 b2 u (r - 1 - i) ((desc t n).getD k 0)) := by
 intro r
 induction r with
 | zero => intro t _ _; rfl
 | succ r ih =>
  intro t ht hp
  show Sm n (fun c => if t.testBit c then sg (abv n t c) * (vu b0 b1 b2 u r c * pval n b0 b1 b2 u r (er t c)) else 0) = _
  have e : ∀ c, c < n → (if t.testBit c then sg (abv n t c) * (vu b0 b1 b2 u r c * pval n b0 b1 b2 u r (er t c)) else 0) = (if t.testBit c then (fun j c => sg j * vu b0 b1 b2 u r c * det r (fun i k => vu b0 b1 b2 u (r - 1 - i) (((desc t n).eraseIdx j).getD k 0))) (abv n t c) c else 0) := by
   intro c hc
   by_cases b : t.testBit c = true
   ·rw [if_pos b, if_pos b]
    obtain ⟨h1, h2⟩ := desc_out b (fun d => hbit t c d ht hc b) n hc
    rw [ih (er t c) (Nat.lt_of_le_of_lt (Nat.sub_le t (2 ^ c)) ht) (by omega), h1]
    exact (Int.mul_assoc _ _ _).symm
   ·rw [if_neg b, if_neg b]
  rw [Sm_congr e, sum_desc t n (fun j c => sg j * vu b0 b1 b2 u r c * det r (fun i k => vu b0 b1 b2 u (r - 1 - i) (((desc t n).eraseIdx j).getD k 0))), hp]
  show _ = Sm (r + 1) (fun j => _)
  refine Sm_congr (fun j _ => ?_)
  congr 1
  refine det_congr r _ _ (fun i k hi hk => ?_)
  unfold minor
  show vu b0 b1 b2 u (r - 1 - i) _ = vu b0 b1 b2 u (r + 1 - 1 - (i + 1)) _
  rw [getD_eraseIdx, show r + 1 - 1 - (i + 1) = r - 1 - i by omega]

theorem desc_full (t : Nat) : ∀ m, (∀ d, d < m → t.testBit d = true) → popU t m = m ∧ ∀ k, k < m → (desc t m).getD k 0 = m - 1 - k := by
 intro m
 induction m with
 | zero => intro _; exact ⟨rfl, fun k hk => by omega⟩
 | succ m ih =>
  intro h
  obtain ⟨h1, h2⟩ := ih (fun d hd => h d (by omega))
  have hm := h m (by omega)
  unfold desc popU
  rw [if_pos hm, if_pos hm, h1]
  refine ⟨rfl, fun k hk => ?_⟩
  cases k with
  | zero => rw [List.getD_cons_zero]; omega
  | succ k => rw [List.getD_cons_succ, h2 k (by omega)]; omega

end

/-- Rows and columns in falling order leave the determinant. -/
theorem det_falling (n : Nat) (m : Nat → Nat → Int) : det n (fun i k => m (n - 1 - i) (n - 1 - k)) = det n m := by
 have h := det_two_orders n n 1 (fun i e => xid 1 (n - 1 - i) e - m (n - 1 - i) e) (fun e k => xid 1 (n - 1 - e) k)
 rw [Int.one_pow, Int.one_mul, Int.one_mul] at h
 rw [det_congr n (fun i k => m (n - 1 - i) (n - 1 - k)) (fun i k => xid 1 i k - Sm n (fun e => (xid 1 (n - 1 - i) e - m (n - 1 - i) e) * xid 1 (n - 1 - e) k)) (fun i k hi hk => ?_), h]
 ·refine det_congr n _ _ (fun i k hi hk => ?_)
  rw [Sm_congr (n := n) (g := fun v => (xid 1 (n - 1 - v) k - m (n - 1 - v) k) * xid 1 v (n - 1 - i)) (fun v hv => by
   rw [Int.mul_comm]
   congr 1
   unfold xid
   by_cases c : v = n - 1 - i
   ·rw [if_pos c, if_pos (by omega)]
   ·rw [if_neg c, if_neg (by omega)]), Sm_pick_mul n _ 1 (by omega), show n - 1 - (n - 1 - i) = i by omega]
  omega
 ·rw [Sm_congr (n := n) (g := fun e => (xid 1 (n - 1 - i) e - m (n - 1 - i) e) * xid 1 e (n - 1 - k)) (fun v hv => by
   congr 1
   unfold xid
   by_cases c : v = n - 1 - k
   ·rw [if_pos c, if_pos (by omega)]
   ·rw [if_neg c, if_neg (by omega)]), Sm_pick_mul n _ 1 (by omega)]
  have e : xid 1 (n - 1 - i) (n - 1 - k) = xid 1 i k := by
   unfold xid
   by_cases c : i = k
   ·rw [if_pos c, if_pos (by omega)]
   ·rw [if_neg c, if_neg (by omega)]
  rw [e]
  omega

/-- P beside X above, E beside 1 below. -/
def bq (n : Nat) (P X E : Nat → Nat → Int) (i k : Nat) : Int :=
 if i < n then (if k < n then P i k else X i (k - n)) else (if k < n then E (i - n) k else xid 1 (i - n) (k - n))

/-- The left columns less those to the right: below all is zero. -/
theorem bq_left (n q : Nat) (P X E : Nat → Nat → Int) : det (n + q) (bq n P X E) = det n (fun i k => P i k - Sm q (fun e => X i e * E e k)) := by
 have h := det_colw (n + q) (fun c => decide (c < n)) 1 (fun c d => -(E (d - n) c)) (bq n P X E) (n + q) (Nat.le_refl _)
 rw [Int.one_pow, Int.one_mul] at h
 rw [← h]
 have cell : ∀ i k, k < n → colw (n + q) (fun c => decide (c < n)) 1 (fun c d => -(E (d - n) c)) (bq n P X E) (n + q) i k = bq n P X E i k - Sm q (fun e => bq n P X E i (n + e) * E e k) := by
  intro i k hk
  unfold colw
  rw [if_pos ⟨by omega, decide_eq_true hk⟩, Int.one_mul, Sm_split]
  rw [Sm_congr (n := n) (g := fun _ => 0) (fun d hd => by rw [if_pos (decide_eq_true hd), Int.zero_mul]), Sm_zero, Int.zero_add]
  rw [Sm_congr (n := q) (g := fun e => (-1) * (bq n P X E i (n + e) * E e k)) (fun e _ => by
   rw [if_neg (show ¬ decide (n + e < n) = true by simp)]
   show -(E (n + e - n) k) * _ = _
   rw [Nat.add_sub_cancel_left]
   grind), Sm_mul_left]
  omega
 rw [det_block_left n q _ (fun i k hi hi2 hk => ?_)]
 ·have e1 : det q (fun i k => colw (n + q) (fun c => decide (c < n)) 1 (fun c d => -(E (d - n) c)) (bq n P X E) (n + q) (n + i) (n + k)) = 1 := by
   rw [← Int.one_pow (n := q), ← det_xid 1 q]
   refine det_congr q _ _ (fun i k _ _ => ?_)
   unfold colw
   rw [if_neg (fun z => by have := of_decide_eq_true z.2; omega)]
   unfold bq
   rw [if_neg (by omega), if_neg (by omega), Nat.add_sub_cancel_left, Nat.add_sub_cancel_left]
  rw [e1, Int.mul_one]
  refine det_congr n _ _ (fun i k hi hk => ?_)
  rw [cell i k hk]
  congr 1
  ·unfold bq; rw [if_pos hi, if_pos hk]
  ·refine Sm_congr (fun e _ => ?_)
   unfold bq
   rw [if_pos hi, if_neg (by omega), Nat.add_sub_cancel_left]
 ·rw [cell i k hk]
  have e2 : Sm q (fun e => bq n P X E i (n + e) * E e k) = E (i - n) k * 1 := by
   rw [← Sm_pick_mul' q (fun e => E e k) 1 (p := i - n) (by omega)]
   refine Sm_congr (fun e _ => ?_)
   unfold bq
   rw [if_neg (by omega), if_neg (by omega), Nat.add_sub_cancel_left, Int.mul_comm]
  rw [e2]
  unfold bq
  rw [if_neg (by omega), if_pos hk]
  omega
theorem bit_get (t c : Nat) (ht : t < 256) (hc : c < 8) : Go.bits .and .i64 (shr .i64 (t : Int) (c : Int)) 1 = if t.testBit c then 1 else 0 := by
 have : ∀ (t : Fin 256) (c : Fin 8), Go.bits .and .i64 (shr .i64 ((t.val : Nat) : Int) ((c.val : Nat) : Int)) 1 = if t.val.testBit c.val then 1 else 0 := by decide +kernel
 exact this ⟨t, ht⟩ ⟨c, hc⟩

theorem bit_put (t c : Nat) (ht : t < 256) (hc : c < 8) (hb : t.testBit c = false) : Go.bits .or .i64 (t : Int) (shl .i64 1 (c : Int)) = ((t + 2 ^ c : Nat) : Int) ∧ (t + 2 ^ c).testBit c = true := by
 have : ∀ (t : Fin 256) (c : Fin 8), t.val.testBit c.val = false → Go.bits .or .i64 ((t.val : Nat) : Int) (shl .i64 1 ((c.val : Nat) : Int)) = ((t.val + 2 ^ c.val : Nat) : Int) ∧ (t.val + 2 ^ c.val).testBit c.val = true := by decide +kernel
 exact this ⟨t, ht⟩ ⟨c, hc⟩ hb

theorem shl_one (n : Nat) (hn : n ≤ 8) : shl .i64 1 (n : Int) = ((2 ^ n : Nat) : Int) := by
 have : ∀ (n : Fin 9), shl .i64 1 ((n.val : Nat) : Int) = ((2 ^ n.val : Nat) : Int) := by decide +kernel
 exact this ⟨n, by omega⟩

theorem pow_le (n : Nat) (hn : n ≤ 8) : 1 ≤ 2 ^ n ∧ 2 ^ n ≤ 256 := by
 have : ∀ (n : Fin 9), 1 ≤ 2 ^ n.val ∧ 2 ^ n.val ≤ 256 := by decide
 exact this ⟨n, by omega⟩

theorem bit_out (n t c d : Nat) (hn : n ≤ 8) (ht : t < 2 ^ n) (hc : c < n) (hb : t.testBit c = true) : (er t c).testBit d = (t.testBit d && d != c) := by
 have h1 : ∀ (t : Fin 256) (c : Fin 8), t.val.testBit c.val = true → er t.val c.val = t.val ^^^ 2 ^ c.val := by decide +kernel
 have h2 := (pow_le n hn).2
 rw [h1 ⟨t, by omega⟩ ⟨c, by omega⟩ hb]
 show (t ^^^ 2 ^ c).testBit d = _
 rw [Nat.testBit_xor, Nat.testBit_two_pow]
 by_cases e : c = d
 ·subst e
  simp [hb]
 ·simp [e]
  omega

theorem bit_ge (t c : Nat) (hb : t.testBit c = true) : 2 ^ c ≤ t := Nat.ge_two_pow_of_testBit hb

theorem bit_lt (n t c : Nat) (hn : n ≤ 8) (ht : t < 2 ^ n) (hc : c < n) (hb : t.testBit c = false) : t + 2 ^ c < 2 ^ n := by
 have : ∀ (n : Fin 9) (c : Fin 8) (t : Fin 256), t.val < 2 ^ n.val → c.val < n.val → t.val.testBit c.val = false → t.val + 2 ^ c.val < 2 ^ n.val := by decide +kernel
 have h2 := (pow_le n hn).2
 exact this ⟨n, by omega⟩ ⟨c, by omega⟩ ⟨t, by omega⟩ ht hc hb
/-- The first i numbers without zeros at the end. -/
def trimN (l : List Int) : Nat → List Int
 | 0 => []
 | i + 1 => if rd l (i : Int) = 0 then trimN l i else l.take (i + 1)

theorem trimN_length (l : List Int) (i : Nat) : (trimN l i).length ≤ l.length := by
 induction i with
 | zero => simp [trimN]
 | succ i ih =>
  unfold trimN
  split
  ·exact ih
  ·simp only [List.length_take]; omega

theorem specOwn (l : List Int) (hl : l.length ≤ 1048576) : spec_l01Own.f l = some l := by
 unfold spec_l01Own.f
 simp only [Option.bind_some, List.length_nil, List.nil_append]
 exact if_pos (by omega)

theorem specTrim_loop (l : List Int) (hl : l.length ≤ 1048576) : ∀ (i : Nat), i ≤ l.length → Ev (fun k => spec_l01Trim.l0 k l (i : Int)) (trimN l i) := by
 intro i
 induction i with
 | zero =>
  intro hi
  refine Ev.succ ?_; simp only [spec_l01Trim.l0]
  repeat (first | with_reducible exact Ev.now _ | dsimp only | with_reducible refine Ev.bind (Ev.eq (specOwn _ (by simp))) ?_ | refine Ev.pos (by first | omega | rfl | assumption | decide) ?_ | refine Ev.neg (by first | omega | assumption | exact Bool.false_ne_true | exact fun e => absurd e (by decide)) ?_ | simp only [bne_self_eq_false, Bool.not_true, Bool.not_false, List.length_cons, List.length_nil] | rw [wrap_id (by omega) (by omega)] | with_reducible exact (Ev.eq (specOwn _ (by simp))) | ((with_reducible refine Ev.eq (congrArg some ?_)); rfl))
 | succ i ih =>
  intro hi
  refine Ev.succ ?_; simp only [spec_l01Trim.l0]
  rw [wrap_id (by omega) (by omega), show ((i + 1 : Nat) : Int) - 1 = i by omega]
  unfold trimN
  by_cases h : rd l (i : Int) = 0
  ·rw [if_pos h]
   repeat (first | with_reducible exact Ev.now _ | dsimp only | refine Ev.pos (by first | omega | rfl | assumption | decide) ?_ | refine Ev.neg (by first | omega | assumption | exact Bool.false_ne_true | exact fun e => absurd e (by decide)) ?_ | simp only [bne_self_eq_false, Bool.not_true, Bool.not_false, List.length_cons, List.length_nil] | rw [wrap_id (by omega) (by omega)] | ((with_reducible refine Ev.eq (congrArg some ?_)); rfl))
   exact ih (by omega)
  ·rw [if_neg h, Int.toNat_natCast]
   repeat (first | with_reducible exact Ev.now _ | dsimp only | (with_reducible refine Ev.bind (Ev.eq (specOwn (l.take (i + 1)) (by simp only [List.length_take]; omega))) ?_) | refine Ev.pos (by first | omega | rfl | assumption | decide) ?_ | refine Ev.neg (by first | omega | assumption | exact Bool.false_ne_true | exact fun e => absurd e (by decide)) ?_ | simp only [bne_self_eq_false, Bool.not_true, Bool.not_false, List.length_cons, List.length_nil] | rw [wrap_id (by omega) (by omega)] | (with_reducible exact (Ev.eq (specOwn (l.take (i + 1)) (by simp only [List.length_take]; omega)))) | ((with_reducible refine Ev.eq (congrArg some ?_)); rfl))

theorem specTrim (l : List Int) (hl : l.length ≤ 1048576) : Ev (fun k => spec_l01Trim.f k l) (trimN l l.length) := by
 unfold spec_l01Trim.f
 exact specTrim_loop l hl _ (Nat.le_refl _)
theorem implTrim_loop (l : List Int) (hl : l.length ≤ 1048576) : ∀ (i : Nat), i ≤ l.length → Ev (fun k => impl_trimmed.l0 k (l.take i)) (trimN l i) := by
 intro i
 have hc : ∀ x : List Int, x.length ≤ 1048576 → slices_Clone_int64_int64.f x = some x := fun x hx => if_pos (by omega)
 induction i with
 | zero =>
  intro hi
  refine Ev.succ ?_; simp only [impl_trimmed.l0]
  rw [List.take_zero]
  repeat (first | with_reducible exact Ev.now _ | dsimp only | with_reducible refine Ev.bind (Ev.eq (hc _ (by simp))) ?_ | refine Ev.pos (by first | omega | rfl | assumption | decide) ?_ | refine Ev.neg (by first | omega | assumption | exact Bool.false_ne_true | exact fun e => absurd e (by decide)) ?_ | simp only [bne_self_eq_false, Bool.not_true, Bool.not_false, List.length_cons, List.length_nil] | rw [wrap_id (by omega) (by omega)] | with_reducible exact (Ev.eq (hc _ (by simp))) | ((with_reducible refine Ev.eq (congrArg some ?_)); rfl))
 | succ i ih =>
  intro hi
  refine Ev.succ ?_; simp only [impl_trimmed.l0]
  have e : (l.take (i + 1)).length = i + 1 := by simp only [List.length_take]; omega
  rw [e, wrap_id (by omega) (by omega), show ((i + 1 : Nat) : Int) - 1 = i by omega]
  have e2 : rd (l.take (i + 1)) (i : Int) = rd l (i : Int) := by rw [rd_lt (by omega), rd_lt (by omega), List.getElem_take]
  have e3 : (l.take (i + 1)).take i = l.take i := by rw [List.take_take, Nat.min_eq_left (by omega)]
  rw [e2, show ((i : Int)).toNat = i from rfl, e3]
  unfold trimN
  by_cases h : rd l (i : Int) = 0
  ·rw [if_pos h]
   repeat (first | with_reducible exact Ev.now _ | dsimp only | refine Ev.pos (by first | omega | rfl | assumption | decide) ?_ | refine Ev.neg (by first | omega | assumption | exact Bool.false_ne_true | exact fun e => absurd e (by decide)) ?_ | simp only [bne_self_eq_false, Bool.not_true, Bool.not_false, List.length_cons, List.length_nil] | rw [wrap_id (by omega) (by omega)] | ((with_reducible refine Ev.eq (congrArg some ?_)); rfl))
   exact ih (by omega)
  ·rw [if_neg h]
   repeat (first | with_reducible exact Ev.now _ | dsimp only | with_reducible refine Ev.bind (Ev.eq (hc (l.take (i + 1)) (by omega))) ?_ | refine Ev.pos (by first | omega | rfl | assumption | decide) ?_ | refine Ev.neg (by first | omega | assumption | exact Bool.false_ne_true | exact fun e => absurd e (by decide)) ?_ | simp only [bne_self_eq_false, Bool.not_true, Bool.not_false, List.length_cons, List.length_nil] | rw [wrap_id (by omega) (by omega)] | with_reducible exact (Ev.eq (hc (l.take (i + 1)) (by omega))) | ((with_reducible refine Ev.eq (congrArg some ?_)); rfl))

theorem implTrim (l : List Int) (hl : l.length ≤ 1048576) : Ev (fun k => impl_trimmed.f k l) (trimN l l.length) := by
 unfold impl_trimmed.f
 have := implTrim_loop l hl _ (Nat.le_refl _)
 rw [List.take_length] at this
 exact this
theorem wrap_q (x : Int) : ∃ q : Int, wrap64 x = x + 18446744073709551616 * q := ⟨-((x + 9223372036854775808) / 18446744073709551616), by unfold wrap64; omega⟩

theorem wrap_of_q (x q : Int) : wrap64 (x + 18446744073709551616 * q) = wrap64 x := by unfold wrap64; omega

theorem wrap_wrap (x : Int) : wrap64 (wrap64 x) = wrap64 x := by unfold wrap64; omega

theorem wrap_mul_right (x y : Int) : wrap64 (x * wrap64 y) = wrap64 (x * y) := by
 obtain ⟨q, hq⟩ := wrap_q y
 rw [hq, Int.mul_add, Int.mul_left_comm, wrap_of_q]

theorem wrap_mul_left (x y : Int) : wrap64 (wrap64 x * y) = wrap64 (x * y) := by
 rw [Int.mul_comm, wrap_mul_right, Int.mul_comm]

theorem wrap_mul_wrap (x y : Int) : wrap64 (wrap64 x * wrap64 y) = wrap64 (x * y) := by
 rw [wrap_mul_left, wrap_mul_right]

theorem wrap_neg (a : Int) : wrap64 (-wrap64 a) = wrap64 (-a) := by
 unfold wrap64
 omega

theorem wrap_add_congr {a a' b b' : Int} (h : wrap64 a = wrap64 a') (h' : wrap64 b = wrap64 b') : wrap64 (a + b) = wrap64 (a' + b') := by
 rw [← wrap_add_wrap, h, h', wrap_add_wrap]

theorem wrap_mul_congr {a a' b b' : Int} (h : wrap64 a = wrap64 a') (h' : wrap64 b = wrap64 b') : wrap64 (a * b) = wrap64 (a' * b') := by
 rw [← wrap_mul_wrap, h, h', wrap_mul_wrap]

theorem nc_comm (n : Nat) (a : Nat → Nat → Int) : ∀ (m k j : Nat), k < n → j < n → mul n a (nc n a m) k j = mul n (nc n a m) a k j := by
 have base : ∀ (f : Nat → Nat → Int) (d : Int) (N : Nat → Nat → Int), (∀ k j, k < n → j < n → N k j = f k j + (if k = j then d else 0)) → (∀ k j, k < n → j < n → mul n a f k j = mul n f a k j) → ∀ k j, k < n → j < n → mul n a N k j = mul n N a k j := by
  intro f d N hN hf k j hk hj
  unfold mul
  rw [Sm_congr (g := fun i => a k i * f i j + (if i = j then 1 else 0) * (a k i * d)) (fun i hi => by
   rw [hN i j hi hj, Int.mul_add]
   congr 1
   by_cases e : i = j
   ·rw [if_pos e, if_pos e, Int.one_mul]
   ·rw [if_neg e, if_neg e, Int.zero_mul, Int.mul_zero])]
  rw [Sm_congr (f := fun i => N k i * a i j) (g := fun i => f k i * a i j + (if i = k then 1 else 0) * (d * a i j)) (fun i hi => by
   rw [hN k i hk hi, Int.add_mul]
   congr 1
   by_cases e : k = i
   ·rw [if_pos e, if_pos e.symm, Int.one_mul]
   ·rw [if_neg e, if_neg (fun z => e z.symm), Int.zero_mul, Int.zero_mul])]
  rw [Sm_add, Sm_add, Sm_pick' n (fun i => a k i * d) hj, Sm_pick' n (fun i => d * a i j) hk, Int.mul_comm d]
  congr 1
  exact hf k j hk hj
 intro m
 induction m with
 | zero =>
  refine base (fun _ _ => 0) (ch n a 0) _ (fun k j hk hj => ?_) (fun k j hk hj => ?_)
  ·rw [nc_step n a 0 k j hk hj, if_pos rfl]
  ·unfold mul
   rw [Sm_congr (g := fun _ => 0) (fun i _ => Int.mul_zero _), Sm_congr (f := fun i => 0 * a i j) (g := fun _ => 0) (fun i _ => Int.zero_mul _)]
 | succ m ih =>
  refine base (fun k j => mul n (nc n a m) a k j) (ch n a (m + 1)) _ (fun k j hk hj => ?_) (fun k j hk hj => ?_)
  ·rw [nc_step n a (m + 1) k j hk hj, if_neg (by omega), Nat.add_sub_cancel]
   rfl
  ·have h1 := mul_assoc' n a (nc n a m) a k j
   have h2 : mul n (mul n a (nc n a m)) a k j = mul n (mul n (nc n a m) a) a k j := mul_congr (fun i hi => ih k i hk hi) (fun i _ => rfl)
   rw [h2] at h1
   exact h1.symm
/-- The last column is zero above its foot. -/
theorem det_foot : ∀ (n : Nat) (m : Nat → Nat → Int) (s : Int), (∀ i, i < n → m i n = 0) → m n n = s → det (n + 1) m = s * det n m := by
 intro n
 induction n with
 | zero =>
  intro m s _ hs
  show 0 + sg 0 * m 0 0 * 1 = s * 1
  rw [hs]
  show 0 + 1 * s * 1 = s * 1
  omega
 | succ n ih =>
  intro m s h hs
  show Sm (n + 1) (fun j => sg j * m 0 j * det (n + 1) (minor m j)) + sg (n + 1) * m 0 (n + 1) * det (n + 1) (minor m (n + 1)) = s * Sm (n + 1) (fun j => sg j * m 0 j * det n (minor m j))
  rw [h 0 (by omega), Int.mul_zero, Int.zero_mul, Int.add_zero, ← Sm_mul_left]
  refine Sm_congr (fun j hj => ?_)
  rw [ih (minor m j) s ?_ ?_]
  ·rw [← Int.mul_assoc, ← Int.mul_assoc, Int.mul_comm s, Int.mul_assoc (sg j * m 0 j)]
  ·intro i hi
   unfold minor
   rw [if_neg (by omega)]
   exact h (i + 1) (by omega)
  ·unfold minor
   rw [if_neg (by omega)]
   exact hs

theorem border (n : Nat) (x : Nat → Nat → Int) (hr : ∀ r i, r < n → i < n → mul n x (adj n x) r i = if r = i then det n x else 0) : det n x * det (n + 1) x = det n x * (x n n * det n x - Sm n (fun k => x n k * Sm n (fun i => adj n x k i * x i n))) := by
 obtain ⟨w, hw⟩ : ∃ w : Nat → Int, w = fun k => Sm n (fun i => adj n x k i * x i n) := ⟨_, rfl⟩
 obtain ⟨s, hs⟩ : ∃ s : Int, s = x n n * det n x - Sm n (fun k => x n k * w k) := ⟨_, rfl⟩
 -- the last column times the determinant, less the others
 have h1 := det_lin (n + 1) x n (det n x) (-1) (fun i => x i n) (fun r => Sm n (fun k => w k * x r k)) (by omega)
 rw [setc_self, det_sum (n + 1) x n (by omega) w (fun k r => x r k) n] at h1
 have hz : Sm n (fun k => w k * det (n + 1) (setc x n (fun r => x r k))) = 0 := by
  rw [Sm_congr (g := fun _ => 0) (fun k hk => ?_), Sm_zero]
  rw [det_same (n := n + 1) (p := n) (q := k) (by omega) (by omega) (by omega) (fun i => ?_), Int.mul_zero]
  unfold setc
  rw [if_pos rfl, if_neg (by omega)]
 rw [hz, Int.mul_zero, Int.add_zero] at h1
 -- X adj X = det X, row by row
 have hx : ∀ r, r < n → Sm n (fun k => w k * x r k) = det n x * x r n := by
  intro r hrn
  rw [hw]
  rw [Sm_congr (g := fun k => Sm n (fun i => x r k * adj n x k i * x i n)) (fun k _ => by
   rw [Int.mul_comm, ← Sm_mul_left]
   exact Sm_congr (fun i _ => (Int.mul_assoc _ _ _).symm)), Sm_swap]
  rw [Sm_congr (g := fun i => (if i = r then 1 else 0) * (det n x * x i n)) (fun i hi => by
   rw [Sm_mul_right]
   have := hr r i hrn hi
   unfold mul at this
   rw [this]
   by_cases e : r = i
   ·rw [if_pos e, if_pos e.symm, Int.one_mul]
   ·rw [if_neg e, if_neg (fun z => e z.symm), Int.zero_mul, Int.zero_mul])]
  exact Sm_pick' n (fun i => det n x * x i n) hrn
 have h2 := det_foot n (setc x n (fun i => det n x * x i n + -1 * Sm n (fun k => w k * x i k))) s (fun i hi => by
  unfold setc
  rw [if_pos rfl]
  show det n x * x i n + -1 * Sm n (fun k => w k * x i k) = 0
  rw [hx i hi]
  omega) (by
  unfold setc
  rw [if_pos rfl, hs, Int.mul_comm (x n n)]
  show det n x * x n n + -1 * Sm n (fun k => w k * x n k) = _
  rw [Sm_congr (f := fun k => w k * x n k) (g := fun k => x n k * w k) (fun k _ => Int.mul_comm _ _)]
  omega)
 rw [← h1, h2, hs, hw, Int.mul_comm]
 congr 1
 refine det_congr n _ _ (fun i k _ hk => ?_)
 unfold setc
 rw [if_neg (by omega)]
/-- 1 - u a times its adjoint. -/
theorem xu_adj (n : Nat) (a : Nat → Nat → Int) (u : Int) (k j : Nat) (hk : k < n) (hj : j < n) : mul n (xu a u) (adj n (xu a u)) k j = if k = j then det n (xu a u) else 0 := by
 rw [← adj_mul n (xu a u) k j hk hj]
 have e1 : ∀ k j, k < n → j < n → mul n (xu a u) (adj n (xu a u)) k j = adj n (xu a u) k j + (-u) * mul n a (adj n (xu a u)) k j := by
  intro k j hk hj
  unfold mul
  rw [← Sm_mul_left]
  have : Sm n (fun i => xu a u k i * adj n (xu a u) i j) = Sm n (fun i => (if i = k then 1 else 0) * adj n (xu a u) i j + (-u) * (a k i * adj n (xu a u) i j)) := Sm_congr (fun i _ => by
   unfold xu idm ng
   generalize adj n _ i j = g
   rw [Int.add_mul]
   congr 1
   ·by_cases e : k = i
    ·rw [if_pos e, if_pos e.symm]
    ·rw [if_neg e, if_neg (fun z => e z.symm)]
   ·grind)
  rw [this, Sm_add, Sm_pick' n (fun i => adj n (xu a u) i j) hk]
 have e2 : ∀ k j, k < n → j < n → mul n (adj n (xu a u)) (xu a u) k j = adj n (xu a u) k j + (-u) * mul n (adj n (xu a u)) a k j := by
  intro k j hk hj
  unfold mul
  rw [← Sm_mul_left]
  have : Sm n (fun i => adj n (xu a u) k i * xu a u i j) = Sm n (fun i => (if i = j then 1 else 0) * adj n (xu a u) k i + (-u) * (adj n (xu a u) k i * a i j)) := Sm_congr (fun i _ => by
   unfold xu idm ng
   generalize adj n _ k i = g
   rw [Int.mul_add]
   congr 1
   ·exact Int.mul_comm _ _
   ·grind)
  rw [this, Sm_add, Sm_pick' n (fun i => adj n (xu a u) k i) hj]
 rw [e1 k j hk hj, e2 k j hk hj]
 congr 1
 congr 1
 have e3 : mul n a (adj n (xu a u)) k j = Sm (n + 1) (fun m => mul n a (nc n a m) k j * u ^ m) := by
  unfold mul
  rw [Sm_congr (g := fun i => Sm (n + 1) (fun m => a k i * nc n a m i j * u ^ m)) (fun i _ => by
   rw [adj_xu, ← Sm_mul_left]
   exact Sm_congr (fun m _ => (Int.mul_assoc _ _ _).symm)), Sm_swap]
  exact Sm_congr (fun m _ => Sm_mul_right n _ _)
 have e4 : mul n (adj n (xu a u)) a k j = Sm (n + 1) (fun m => mul n (nc n a m) a k j * u ^ m) := by
  unfold mul
  rw [Sm_congr (g := fun i => Sm (n + 1) (fun m => nc n a m k i * a i j * u ^ m)) (fun i _ => by
   rw [adj_xu, ← Sm_mul_right]
   exact Sm_congr (fun m _ => by rw [Int.mul_assoc, Int.mul_comm (u ^ m), ← Int.mul_assoc])), Sm_swap]
  exact Sm_congr (fun m _ => Sm_mul_right n _ _)
 rw [e3, e4]
 exact Sm_congr (fun m _ => by rw [nc_comm n a m k j hk hj])

theorem det_idm : ∀ n, det n idm = 1 := by
 intro n
 induction n with
 | zero => rfl
 | succ n ih =>
  rw [det_foot n idm 1 (fun i hi => if_neg (by omega)) (if_pos rfl), ih]
  rfl

theorem det_xu_ne (n : Nat) (a : Nat → Nat → Int) (u : Int) (hu : 2 ≤ u) : det n (xu a u) ≠ 0 := by
 intro h
 rw [det_xu, Sm_first, show ch n a 0 = 1 from (dc_zero n idm (ng a)).trans (det_idm n), Int.pow_zero] at h
 have e : Sm n (fun i => ch n a (i + 1) * u ^ (i + 1)) = u * Sm n (fun i => ch n a (i + 1) * u ^ i) := by
  rw [← Sm_mul_left]
  refine Sm_congr (fun i _ => ?_)
  rw [Int.pow_succ]
  grind
 rw [e] at h
 generalize Sm n _ = s at h
 have hd : u ∣ 1 := ⟨-s, by rw [Int.mul_neg]; omega⟩
 have := Int.le_of_dvd (by decide) hd
 omega

/-- The foot, the row and the column, for one number u. -/
theorem det_border (n : Nat) (a : Nat → Nat → Int) (u : Int) (hu : 2 ≤ u) : det (n + 1) (xu a u) = (1 - u * a n n) * det n (xu a u) - u * u * Sm n (fun k => a n k * Sm n (fun i => adj n (xu a u) k i * a i n)) := by
 have h := border n (xu a u) (fun r i hr hi => xu_adj n a u r i hr hi)
 have h1 := Int.eq_of_mul_eq_mul_left (det_xu_ne n a u hu) h
 rw [h1]
 have e1 : xu a u n n = 1 - u * a n n := by
  unfold xu idm ng
  rw [if_pos rfl, Int.mul_neg]
  omega
 have e2 : Sm n (fun k => xu a u n k * Sm n (fun i => adj n (xu a u) k i * xu a u i n)) = u * u * Sm n (fun k => a n k * Sm n (fun i => adj n (xu a u) k i * a i n)) := by
  rw [← Sm_mul_left]
  refine Sm_congr (fun k hk => ?_)
  have e3 : xu a u n k = -(u * a n k) := by
   unfold xu idm ng
   rw [if_neg (by omega), Int.mul_neg]
   omega
  have e4 : Sm n (fun i => adj n (xu a u) k i * xu a u i n) = -u * Sm n (fun i => adj n (xu a u) k i * a i n) := by
   rw [← Sm_mul_left]
   refine Sm_congr (fun i hi => ?_)
   unfold xu idm ng
   rw [if_neg (by omega)]
   generalize adj n _ k i = g
   grind
  rw [e3, e4]
  generalize Sm n _ = s
  grind
 rw [e1, e2]

/-- What the last row and column add to the coefficient m. -/
def bt (n : Nat) (a : Nat → Nat → Int) (m : Nat) : Int := Sm n (fun k => a n k * Sm n (fun i => nc n a m k i * a i n))

/-- One row and one column more, by coefficients. -/
theorem ch_border (n : Nat) (a : Nat → Nat → Int) (m : Nat) (hm : m < n + 3) : ch (n + 1) a m = ch n a m + (if m = 0 then 0 else -(a n n) * ch n a (m - 1)) + (if m < 2 then 0 else - bt n a (m - 2)) := by
 have key : ∀ u : Int, 2 ≤ u → Sm (n + 3) (fun m => (ch (n + 1) a m - (ch n a m + (if m = 0 then 0 else -(a n n) * ch n a (m - 1)) + (if m < 2 then 0 else - bt n a (m - 2)))) * u ^ m) = 0 := by
  intro u hu
  have h := det_border n a u hu
  rw [det_xu, det_xu] at h
  have e0 : Sm n (fun k => a n k * Sm n (fun i => adj n (xu a u) k i * a i n)) = Sm (n + 1) (fun m => bt n a m * u ^ m) := by
   unfold bt
   rw [Sm_congr (g := fun k => Sm (n + 1) (fun m => a n k * Sm n (fun i => nc n a m k i * a i n) * u ^ m)) (fun k _ => by
    rw [Sm_congr (g := fun i => Sm (n + 1) (fun m => nc n a m k i * a i n * u ^ m)) (fun i _ => by
     rw [adj_xu, ← Sm_mul_right]
     exact Sm_congr (fun m _ => by rw [Int.mul_assoc, Int.mul_comm (u ^ m), ← Int.mul_assoc])), Sm_swap, ← Sm_mul_left]
    refine Sm_congr (fun m _ => ?_)
    rw [Sm_mul_right, Int.mul_assoc]), Sm_swap]
   exact Sm_congr (fun m _ => Sm_mul_right n _ _)
  have e1 : Sm (n + 1 + 1) (fun m => ch (n + 1) a m * u ^ m) = Sm (n + 3) (fun m => ch (n + 1) a m * u ^ m) := (Sm_more _ (by omega) (fun i hi => by rw [show ch (n + 1) a i = 0 from dc_high _ _ _ (by omega), Int.zero_mul])).symm
  have e2 : Sm (n + 1) (fun m => ch n a m * u ^ m) = Sm (n + 3) (fun m => ch n a m * u ^ m) := (Sm_more _ (by omega) (fun i hi => by rw [show ch n a i = 0 from dc_high _ _ _ (by omega), Int.zero_mul])).symm
  have e3 : u * Sm (n + 1) (fun m => ch n a m * u ^ m) = Sm (n + 3) (fun m => (if m = 0 then 0 else ch n a (m - 1)) * u ^ m) := by
   rw [← Sm_more (d := n + 1) (e := n + 2) (fun m => ch n a m * u ^ m) (by omega) (fun i hi => by rw [show ch n a i = 0 from dc_high _ _ _ (by omega), Int.zero_mul]), ← Sm_mul_left, ← Sm_shift]
   refine Sm_congr (fun m _ => ?_)
   by_cases e : m = 0
   ·rw [if_pos e, if_pos e, Int.zero_mul]
   ·rw [if_neg e, if_neg e]
    obtain ⟨q, rfl⟩ : ∃ q, m = q + 1 := ⟨m - 1, by omega⟩
    rw [Nat.add_sub_cancel, Int.pow_succ]
    grind
  have e4 : u * u * Sm (n + 1) (fun m => bt n a m * u ^ m) = Sm (n + 3) (fun m => (if m < 2 then 0 else bt n a (m - 2)) * u ^ m) := by
   have s2 : Sm (n + 3) (fun m => (if m < 2 then 0 else bt n a (m - 2)) * u ^ m) = Sm (n + 1) (fun m => bt n a m * u ^ (m + 2)) := by
    rw [Sm_first, Sm_first]
    rw [if_pos (by omega), if_pos (by omega), Int.zero_mul, Int.zero_mul, Int.zero_add, Int.zero_add]
    exact Sm_congr (fun m _ => by rw [if_neg (by omega)]; rfl)
   rw [s2, ← Sm_mul_left]
   refine Sm_congr (fun m _ => ?_)
   rw [Int.pow_succ, Int.pow_succ]
   grind
  rw [e0, e1] at h
  have e5 : Sm (n + 3) (fun m => (ch (n + 1) a m - (ch n a m + (if m = 0 then 0 else -(a n n) * ch n a (m - 1)) + (if m < 2 then 0 else - bt n a (m - 2)))) * u ^ m) = Sm (n + 3) (fun m => ch (n + 1) a m * u ^ m) + ((-1) * Sm (n + 3) (fun m => ch n a m * u ^ m) + (a n n * Sm (n + 3) (fun m => (if m = 0 then 0 else ch n a (m - 1)) * u ^ m) + Sm (n + 3) (fun m => (if m < 2 then 0 else bt n a (m - 2)) * u ^ m))) := by
   rw [← Sm_mul_left, ← Sm_mul_left, ← Sm_add, ← Sm_add, ← Sm_add]
   refine Sm_congr (fun m _ => ?_)
   by_cases c0 : m = 0
   ·rw [if_pos c0, if_pos c0, if_pos (by omega), if_pos (by omega)]
    grind
   ·rw [if_neg c0, if_neg c0]
    by_cases c2 : m < 2
    ·rw [if_pos c2, if_pos c2]
     grind
    ·rw [if_neg c2, if_neg c2]
     grind
  rw [e5, ← e3, ← e4, h, ← e2]
  generalize Sm (n + 1) (fun m => ch n a m * u ^ m) = s1
  generalize Sm (n + 1) (fun m => bt n a m * u ^ m) = s2
  grind
 have := coef_zero2 (n + 3) _ (fun u hu => key u hu) m hm
 omega
/-- a to the power p. -/
def mp (n : Nat) (a : Nat → Nat → Int) : Nat → Nat → Nat → Int
 | 0 => idm
 | p + 1 => mul n (mp n a p) a

theorem nc_pow (n : Nat) (a : Nat → Nat → Int) : ∀ (m k j : Nat), k < n → j < n → nc n a m k j = Sm (m + 1) (fun t => ch n a t * mp n a (m - t) k j) := by
 intro m
 induction m with
 | zero =>
  intro k j hk hj
  rw [nc_step n a 0 k j hk hj, if_pos rfl, Int.zero_add]
  show _ = 0 + ch n a 0 * idm k j
  unfold idm
  split
  ·omega
  ·omega
 | succ m ih =>
  intro k j hk hj
  rw [nc_step n a (m + 1) k j hk hj, if_neg (by omega), Nat.add_sub_cancel]
  show _ = Sm (m + 1) (fun t => ch n a t * mp n a (m + 1 - t) k j) + ch n a (m + 1) * mp n a (m + 1 - (m + 1)) k j
  rw [Nat.sub_self]
  congr 1
  ·rw [Sm_congr (g := fun i => Sm (m + 1) (fun t => ch n a t * mp n a (m - t) k i * a i j)) (fun i hi => by
    rw [ih k i hk hi, ← Sm_mul_right]), Sm_swap]
   refine Sm_congr (fun t ht => ?_)
   rw [show m + 1 - t = (m - t) + 1 by omega]
   show _ = ch n a t * Sm n (fun i => mp n a (m - t) k i * a i j)
   rw [← Sm_mul_left]
   exact Sm_congr (fun i _ => Int.mul_assoc _ _ _)
  ·show _ = ch n a (m + 1) * idm k j
   unfold idm
   split
   ·omega
   ·omega
/-- The matrix's powers at a column. -/
def cg (r : Nat) (a : Nat → Nat → Int) (v : Nat → Int) : Nat → Nat → Int
 | 0 => v
 | p + 1 => fun i => Sm r (fun q => a i q * cg r a v p q)

theorem cg_first (r : Nat) (a : Nat → Nat → Int) : ∀ (p : Nat) (v : Nat → Int), cg r a (fun i => Sm r (fun q => a i q * v q)) p = cg r a v (p + 1) := by
 intro p
 induction p with
 | zero => intro v; rfl
 | succ p ih =>
  intro v
  funext i
  show Sm r (fun q => a i q * cg r a (fun i => Sm r (fun q => a i q * v q)) p q) = Sm r (fun q => a i q * cg r a v (p + 1) q)
  rw [ih v]

theorem cg_pow (r : Nat) (a : Nat → Nat → Int) : ∀ (p : Nat) (v : Nat → Int) (i : Nat), i < r → Sm r (fun q => mp r a p i q * v q) = cg r a v p i := by
 intro p
 induction p with
 | zero =>
  intro v i hi
  show Sm r (fun q => idm i q * v q) = v i
  rw [Sm_congr (g := fun q => (if q = i then 1 else 0) * v q) (fun q _ => ?_)]
  ·exact Sm_pick' r v hi
  ·unfold idm
   by_cases c : i = q
   ·rw [if_pos c, if_pos c.symm]
   ·rw [if_neg c, if_neg (fun z => c z.symm)]
 | succ p ih =>
  intro v i hi
  rw [← cg_first, ← ih _ i hi]
  show Sm r (fun q => Sm r (fun k => mp r a p i k * a k q) * v q) = _
  rw [Sm_congr (g := fun q => Sm r (fun k => mp r a p i k * (a k q * v q))) (fun q _ => by
   rw [← Sm_mul_right]
   exact Sm_congr (fun k _ => Int.mul_assoc _ _ _)), Sm_swap]
  exact Sm_congr (fun k _ => Sm_mul_left r _ _)

/-- The row, a power, and the column. -/
def rp (r : Nat) (a : Nat → Nat → Int) (p : Nat) : Int := Sm r (fun q => a r q * cg r a (fun i => a i r) p q)

/-- The numbers by which those of r rows are multiplied. -/
def tu (r : Nat) (a : Nat → Nat → Int) : Nat → Int
 | 0 => 1
 | 1 => -(a r r)
 | p + 2 => -rp r a p

theorem bt_rp (r : Nat) (a : Nat → Nat → Int) (m : Nat) : bt r a m = Sm (m + 1) (fun t => ch r a t * rp r a (m - t)) := by
 unfold bt
 rw [Sm_congr (g := fun k => Sm (m + 1) (fun t => ch r a t * (a r k * cg r a (fun i => a i r) (m - t) k))) (fun k hk => ?_), Sm_swap]
 ·exact Sm_congr (fun t _ => Sm_mul_left r _ _)
 ·rw [Sm_congr (g := fun i => Sm (m + 1) (fun t => ch r a t * (mp r a (m - t) k i * a i r))) (fun i hi => by
   rw [nc_pow r a m k i hk hi, ← Sm_mul_right]
   exact Sm_congr (fun t _ => Int.mul_assoc _ _ _)), Sm_swap, ← Sm_mul_left]
  refine Sm_congr (fun t _ => ?_)
  rw [Sm_mul_left, cg_pow r a (m - t) (fun i => a i r) k hk]
  exact Int.mul_left_comm _ _ _

theorem toep (r : Nat) (a : Nat → Nat → Int) (i : Nat) (hi : i < r + 3) : Sm (i + 1) (fun t => tu r a (i - t) * ch r a t) = ch (r + 1) a i := by
 rw [ch_border r a i hi]
 match i with
 | 0 =>
  show 0 + 1 * ch r a 0 = ch r a 0 + 0 + 0
  omega
 | 1 =>
  show 0 + -(a r r) * ch r a 0 + 1 * ch r a 1 = ch r a 1 + -(a r r) * ch r a 0 + 0
  omega
 | m + 2 =>
  rw [if_neg (by omega), if_neg (by omega), show m + 2 - 1 = m + 1 from rfl, Nat.add_sub_cancel, bt_rp]
  show Sm (m + 1) (fun t => tu r a (m + 2 - t) * ch r a t) + tu r a (m + 2 - (m + 1)) * ch r a (m + 1) + tu r a (m + 2 - (m + 2)) * ch r a (m + 2) = _
  rw [show m + 2 - (m + 1) = 1 by omega, show m + 2 - (m + 2) = 0 by omega]
  have e : Sm (m + 1) (fun t => tu r a (m + 2 - t) * ch r a t) = (-1) * Sm (m + 1) (fun t => ch r a t * rp r a (m - t)) := by
   rw [← Sm_mul_left]
   refine Sm_congr (fun t ht => ?_)
   rw [show m + 2 - t = (m - t) + 2 by omega]
   show -rp r a (m - t) * ch r a t = _
   grind
  rw [e]
  show _ + -(a r r) * ch r a (m + 1) + 1 * ch r a (m + 2) = _
  omega

theorem toep_cut (r : Nat) (a : Nat → Nat → Int) (i : Nat) (hi : i < r + 2) : Sm (if i + 1 ≤ r + 1 then i + 1 else r + 1) (fun t => tu r a (i - t) * ch r a t) = ch (r + 1) a i := by
 rw [← toep r a i (by omega)]
 by_cases c : i + 1 ≤ r + 1
 ·rw [if_pos c]
 ·rw [if_neg c]
  obtain rfl : i = r + 1 := by omega
  show _ = Sm (r + 1) (fun t => tu r a (r + 1 - t) * ch r a t) + tu r a (r + 1 - (r + 1)) * ch r a (r + 1)
  rw [show ch r a (r + 1) = 0 from dc_high _ _ _ (Nat.le_refl _), Int.mul_zero, Int.add_zero]
/-- The wrapped coefficients, k of them. -/
def chL (n : Nat) (a : Nat → Nat → Int) (k : Nat) : List Int := rowOf k (fun m => wrap64 (ch n a m))

theorem rowOf_snoc (k : Nat) (f : Nat → Int) : rowOf k f ++ [f k] = rowOf (k + 1) f := (map_range_succ f k).symm

section
variable (n : Nat) (hn : n ≤ 1000) (a : List (List Int)) (ha : Sq n a) (hw : ∀ i j, i < n → j < n → wrap64 (mat a i j) = mat a i j)

/-- The column behind p steps, wrapped. -/
def colW (r p : Nat) (k : Nat) : List Int := rowOf k (fun i => wrap64 (cg r (mat a) (fun i => mat a i r) p i))

def tuW (r k : Nat) : List Int := rowOf k (fun p => wrap64 (tu r (mat a) p))

include hn ha hw

theorem bkColumn (r : Nat) (hr : r < n) (x3 : List Int) (x5 : List Int) (res : List Int) (h : Ev (fun f => spec_l01Berkowitz.l2 f a x3 (r : Int) x5 (colW a r 0 r) 0) res) :
  ∀ (d i : Nat), i + d = r → Ev (fun f => spec_l01Berkowitz.l1 f a x3 (r : Int) x5 (colW a r 0 i) (i : Int)) res := by
 have hal := ha.1
 intro d
 induction d with
 | zero =>
  intro i hi
  obtain rfl : i = r := by omega
  refine Ev.succ ?_; simp only [spec_l01Berkowitz.l1]
  repeat (first | with_reducible exact Ev.now _ | dsimp only | refine Ev.pos (by first | omega | rfl | assumption | decide) ?_ | refine Ev.neg (by first | omega | assumption | exact Bool.false_ne_true | exact fun e => absurd e (by decide)) ?_ | simp only [bne_self_eq_false, Bool.not_true, Bool.not_false, List.length_cons, List.length_nil] | rw [wrap_id (by omega) (by omega)] | ((with_reducible refine Ev.eq (congrArg some ?_)); rfl))
  exact h
 | succ d ih =>
  intro i hi
  have h1 := ih (i + 1) (by omega)
  have hrow := ha.2 i (by omega)
  have hlen : (colW a r 0 i).length = i := rowOf_length _ _
  have e : colW a r 0 i ++ [rd (rd_L1 a (i : Int)) (r : Int)] = colW a r 0 (i + 1) := by
   rw [show rd (rd_L1 a (i : Int)) (r : Int) = mat a i r from rfl, ← hw i r (by omega) hr]
   exact rowOf_snoc i _
  refine Ev.succ ?_; simp only [spec_l01Berkowitz.l1]
  rw [e, wrap_succ (i := i) (by omega)]
  repeat (first | with_reducible exact Ev.now _ | dsimp only | refine Ev.pos (by first | omega | rfl | assumption | decide) ?_ | refine Ev.neg (by first | omega | assumption | exact Bool.false_ne_true | exact fun e => absurd e (by decide)) ?_ | simp only [bne_self_eq_false, Bool.not_true, Bool.not_false, List.length_cons, List.length_nil] | rw [wrap_id (by omega) (by omega)] | ((with_reducible refine Ev.eq (congrArg some ?_)); rfl))
  exact h1

omit hw in
/-- The sum of one place of the next column. -/
theorem bkCell (r k i : Nat) (hr : r < n) (hi : i < r) (x3 x5 x10 : List Int) (x9 : Int) (hx : x10.length ≤ 1000) (res : List Int) (h : Ev (fun f => spec_l01Berkowitz.l3 f a x3 (r : Int) x5 (colW a r k r) (k : Int) x9 (x10 ++ [wrap64 (cg r (mat a) (fun i => mat a i r) (k + 1) i)]) ((i + 1 : Nat) : Int)) res) :
  ∀ (d j : Nat), j + d = r → Ev (fun f => spec_l01Berkowitz.l4 f a x3 (r : Int) x5 (colW a r k r) (k : Int) x9 x10 (i : Int) (wrap64 (Sm j (fun q => mat a i q * cg r (mat a) (fun i => mat a i r) k q))) (j : Int)) res := by
 have hal := ha.1
 have hrow := ha.2 i (by omega)
 have hlen : (colW a r k r).length = r := rowOf_length _ _
 intro d
 induction d with
 | zero =>
  intro j hj
  obtain rfl : j = r := by omega
  refine Ev.succ ?_; simp only [spec_l01Berkowitz.l4]
  rw [wrap_succ (i := i) (by omega)]
  repeat (first | with_reducible exact Ev.now _ | dsimp only | refine Ev.pos (by first | omega | rfl | assumption | decide) ?_ | refine Ev.neg (by first | omega | assumption | exact Bool.false_ne_true | exact fun e => absurd e (by decide)) ?_ | simp only [bne_self_eq_false, Bool.not_true, Bool.not_false, List.length_cons, List.length_nil] | rw [wrap_id (by omega) (by omega)] | ((with_reducible refine Ev.eq (congrArg some ?_)); rfl))
  exact h
 | succ d ih =>
  intro j hj
  have h1 := ih (j + 1) (by omega)
  have e : wrap64 (wrap64 (Sm j (fun q => mat a i q * cg r (mat a) (fun i => mat a i r) k q)) + wrap64 (rd (rd_L1 a (i : Int)) (j : Int) * rd (colW a r k r) (j : Int))) = wrap64 (Sm (j + 1) (fun q => mat a i q * cg r (mat a) (fun i => mat a i r) k q)) := by
   unfold colW
   rw [rowOf_rd _ (by omega), show rd (rd_L1 a (i : Int)) (j : Int) = mat a i j from rfl, wrap_mul_right, wrap_add_wrap]
   rfl
  refine Ev.succ ?_; simp only [spec_l01Berkowitz.l4]
  rw [e, wrap_succ (i := j) (by omega)]
  repeat (first | with_reducible exact Ev.now _ | dsimp only | refine Ev.pos (by first | omega | rfl | assumption | decide) ?_ | refine Ev.neg (by first | omega | assumption | exact Bool.false_ne_true | exact fun e => absurd e (by decide)) ?_ | simp only [bne_self_eq_false, Bool.not_true, Bool.not_false, List.length_cons, List.length_nil] | rw [wrap_id (by omega) (by omega)] | ((with_reducible refine Ev.eq (congrArg some ?_)); rfl))
  exact h1

omit hw in
/-- One more number, and the next column. -/
theorem bkNext (r k : Nat) (hr : r < n) (hk : k < r) (x3 : List Int) (res : List Int) (h : Ev (fun f => spec_l01Berkowitz.l2 f a x3 (r : Int) (tuW a r (k + 3)) (colW a r (k + 1) r) ((k + 1 : Nat) : Int)) res) :
  ∀ (d i : Nat), i + d = r → Ev (fun f => spec_l01Berkowitz.l3 f a x3 (r : Int) (tuW a r (k + 2)) (colW a r k r) (k : Int) (wrap64 (Sm i (fun q => mat a r q * cg r (mat a) (fun i => mat a i r) k q))) (colW a r (k + 1) i) (i : Int)) res := by
 have hal := ha.1
 have hrow := ha.2 r (by omega)
 have hlen : (colW a r k r).length = r := rowOf_length _ _
 intro d
 induction d with
 | zero =>
  intro i hi
  obtain rfl : i = r := by omega
  have hl2 : (tuW a i (k + 2)).length = k + 2 := rowOf_length _ _
  have e : tuW a i (k + 2) ++ [wrap64 (-wrap64 (Sm i (fun q => mat a i q * cg i (mat a) (fun j => mat a j i) k q)))] = tuW a i (k + 3) := by
   rw [wrap_neg]
   exact rowOf_snoc (k + 2) (fun p => wrap64 (tu i (mat a) p))
  refine Ev.succ ?_; simp only [spec_l01Berkowitz.l3]
  rw [e, wrap_succ (i := k) (by omega)]
  repeat (first | with_reducible exact Ev.now _ | dsimp only | refine Ev.pos (by first | omega | rfl | assumption | decide) ?_ | refine Ev.neg (by first | omega | assumption | exact Bool.false_ne_true | exact fun e => absurd e (by decide)) ?_ | simp only [bne_self_eq_false, Bool.not_true, Bool.not_false, List.length_cons, List.length_nil] | rw [wrap_id (by omega) (by omega)] | ((with_reducible refine Ev.eq (congrArg some ?_)); rfl))
  exact h
 | succ d ih =>
  intro i hi
  have h1 := ih (i + 1) (by omega)
  have hl3 : (colW a r (k + 1) i).length = i := rowOf_length _ _
  have e : wrap64 (wrap64 (Sm i (fun q => mat a r q * cg r (mat a) (fun i => mat a i r) k q)) + wrap64 (rd (rd_L1 a (r : Int)) (i : Int) * rd (colW a r k r) (i : Int))) = wrap64 (Sm (i + 1) (fun q => mat a r q * cg r (mat a) (fun i => mat a i r) k q)) := by
   unfold colW
   rw [rowOf_rd _ (by omega), show rd (rd_L1 a (r : Int)) (i : Int) = mat a r i from rfl, wrap_mul_right, wrap_add_wrap]
   rfl
  have e2 : colW a r (k + 1) i ++ [wrap64 (cg r (mat a) (fun i => mat a i r) (k + 1) i)] = colW a r (k + 1) (i + 1) := rowOf_snoc i _
  rw [← e2, ← e] at h1
  have h2 := bkCell n hn a ha r k i hr (by omega) x3 (tuW a r (k + 2)) (colW a r (k + 1) i) _ (by omega) res h1 r 0 (by omega)
  rw [show wrap64 (Sm 0 (fun q => mat a i q * cg r (mat a) (fun i => mat a i r) k q)) = 0 from wrap_id (x := 0) (by decide) (by decide)] at h2
  refine Ev.succ ?_; simp only [spec_l01Berkowitz.l3]
  repeat (first | with_reducible exact Ev.now _ | dsimp only | refine Ev.pos (by first | omega | rfl | assumption | decide) ?_ | refine Ev.neg (by first | omega | assumption | exact Bool.false_ne_true | exact fun e => absurd e (by decide)) ?_ | simp only [bne_self_eq_false, Bool.not_true, Bool.not_false, List.length_cons, List.length_nil] | rw [wrap_id (by omega) (by omega)] | ((with_reducible refine Ev.eq (congrArg some ?_)); rfl))
  exact h2

omit hw in
/-- All numbers. -/
theorem bkTurn (r : Nat) (hr : r < n) (x3 : List Int) (res : List Int) (h : Ev (fun f => spec_l01Berkowitz.l5 f a x3 (r : Int) (tuW a r (r + 2)) (List.replicate (r + 2) 0) 0) res) :
  ∀ (d k : Nat), k + d = r → Ev (fun f => spec_l01Berkowitz.l2 f a x3 (r : Int) (tuW a r (k + 2)) (colW a r k r) (k : Int)) res := by
 intro d
 induction d with
 | zero =>
  intro k hk
  obtain rfl : k = r := by omega
  refine Ev.succ ?_; simp only [spec_l01Berkowitz.l2]
  rw [wrap_id (x := (k : Int) + 2) (by omega) (by omega), show ((k : Int) + 2).toNat = k + 2 by omega]
  repeat (first | with_reducible exact Ev.now _ | dsimp only | refine Ev.pos (by first | omega | rfl | assumption | decide) ?_ | refine Ev.neg (by first | omega | assumption | exact Bool.false_ne_true | exact fun e => absurd e (by decide)) ?_ | simp only [bne_self_eq_false, Bool.not_true, Bool.not_false, List.length_cons, List.length_nil] | rw [wrap_id (by omega) (by omega)] | ((with_reducible refine Ev.eq (congrArg some ?_)); rfl))
  exact h
 | succ d ih =>
  intro k hk
  have h1 := ih (k + 1) (by omega)
  have h2 := bkNext n hn a ha r k hr (by omega) x3 res h1 r 0 (by omega)
  rw [show wrap64 (Sm 0 (fun q => mat a r q * cg r (mat a) (fun i => mat a i r) k q)) = 0 from wrap_id (x := 0) (by decide) (by decide)] at h2
  refine Ev.succ ?_; simp only [spec_l01Berkowitz.l2]
  repeat (first | with_reducible exact Ev.now _ | dsimp only | refine Ev.pos (by first | omega | rfl | assumption | decide) ?_ | refine Ev.neg (by first | omega | assumption | exact Bool.false_ne_true | exact fun e => absurd e (by decide)) ?_ | simp only [bne_self_eq_false, Bool.not_true, Bool.not_false, List.length_cons, List.length_nil] | rw [wrap_id (by omega) (by omega)] | ((with_reducible refine Ev.eq (congrArg some ?_)); rfl))
  exact h2

/-- The made numbers while those before i are told, and at i the products before j. -/
def madeW (r i j : Nat) : List Int := rowOf (r + 2) (fun q => if q < i then wrap64 (ch (r + 1) (mat a) q) else if q = i then wrap64 (Sm j (fun t => tu r (mat a) (i - t) * ch r (mat a) t)) else 0)

omit hn ha hw in
theorem madeW_zero (r : Nat) : madeW a r 0 0 = List.replicate (r + 2) 0 := by
 rw [← rowOf_zero]
 refine rowOf_congr (fun q hq => ?_)
 rw [if_neg (by omega)]
 split
 ·exact wrap_id (x := 0) (by decide) (by decide)
 ·rfl

omit hn ha hw in
theorem madeW_next (r i : Nat) (hi : i < r + 2) : madeW a r i (if i + 1 ≤ r + 1 then i + 1 else r + 1) = madeW a r (i + 1) 0 := by
 refine rowOf_congr (fun q hq => ?_)
 by_cases c : q < i
 ·rw [if_pos c, if_pos (by omega)]
 ·by_cases e : q = i
  ·rw [if_neg c, if_pos e, toep_cut r (mat a) i hi, if_pos (show q < i + 1 by omega), e]
  ·rw [if_neg c, if_neg e, if_neg (by omega)]
   by_cases e2 : q = i + 1
   ·rw [if_pos e2]
    exact (wrap_id (x := 0) (by decide) (by decide)).symm
   ·rw [if_neg e2]

omit hn ha hw in
theorem madeW_set (r i j : Nat) (hi : i < r + 2) : (madeW a r i j).set i (wrap64 (rd (madeW a r i j) (i : Int) + wrap64 (wrap64 (tu r (mat a) (i - j)) * wrap64 (ch r (mat a) j)))) = madeW a r i (j + 1) := by
 unfold madeW
 rw [rowOf_rd _ hi, if_neg (by omega), if_pos rfl, wrap_mul_wrap, wrap_add_wrap, rowOf_set _ _ hi]
 refine rowOf_congr (fun q hq => ?_)
 by_cases e : q = i
 ·rw [if_pos e, if_neg (by omega), if_pos e]
  rfl
 ·rw [if_neg e]
  by_cases c : q < i
  ·rw [if_pos c, if_pos c]
  ·rw [if_neg c, if_neg c, if_neg e, if_neg e]

omit ha hw in
/-- One number of those of one row more. -/
theorem bkMade (r i : Nat) (hr : r < n) (hi : i < r + 2) (res : List Int) (h : Ev (fun f => spec_l01Berkowitz.l5 f a (chL r (mat a) (r + 1)) (r : Int) (tuW a r (r + 2)) (madeW a r (i + 1) 0) ((i + 1 : Nat) : Int)) res) :
  ∀ (d j : Nat), j + d = (if i + 1 ≤ r + 1 then i + 1 else r + 1) → Ev (fun f => spec_l01Berkowitz.l6 f a (chL r (mat a) (r + 1)) (r : Int) (tuW a r (r + 2)) (madeW a r i j) (i : Int) (j : Int)) res := by
 have hl3 : (chL r (mat a) (r + 1)).length = r + 1 := rowOf_length _ _
 have hl5 : (tuW a r (r + 2)).length = r + 2 := rowOf_length _ _
 intro d
 induction d with
 | zero =>
  intro j hj
  rw [← madeW_next a r i hi] at h
  have e : j = (if i + 1 ≤ r + 1 then i + 1 else r + 1) := by omega
  rw [← e] at h
  refine Ev.succ ?_; simp only [spec_l01Berkowitz.l6]
  rw [wrap_succ (i := i) (by omega)]
  by_cases c : (j : Int) < ((r + 1 : Nat) : Int)
  ·have c2 : ¬ (j : Int) ≤ (i : Int) := by
    split at e <;> omega
   repeat (first | with_reducible exact Ev.now _ | dsimp only | refine Ev.pos (by first | omega | rfl | assumption | decide) ?_ | refine Ev.neg (by first | omega | assumption | exact Bool.false_ne_true | exact fun e => absurd e (by decide)) ?_ | simp only [bne_self_eq_false, Bool.not_true, Bool.not_false, List.length_cons, List.length_nil] | rw [wrap_id (by omega) (by omega)] | ((with_reducible refine Ev.eq (congrArg some ?_)); rfl))
   exact h
  ·repeat (first | with_reducible exact Ev.now _ | dsimp only | refine Ev.pos (by first | omega | rfl | assumption | decide) ?_ | refine Ev.neg (by first | omega | assumption | exact Bool.false_ne_true | exact fun e => absurd e (by decide)) ?_ | simp only [bne_self_eq_false, Bool.not_true, Bool.not_false, List.length_cons, List.length_nil] | rw [wrap_id (by omega) (by omega)] | ((with_reducible refine Ev.eq (congrArg some ?_)); rfl))
   exact h
 | succ d ih =>
  intro j hj
  have h1 := ih (j + 1) (by omega)
  have hj1 : j < r + 1 ∧ j ≤ i := by split at hj <;> omega
  have hl14 : (madeW a r i j).length = r + 2 := rowOf_length _ _
  have e1 : rd (tuW a r (r + 2)) (((i - j : Nat)) : Int) = wrap64 (tu r (mat a) (i - j)) := rowOf_rd _ (by omega)
  have e2 : rd (chL r (mat a) (r + 1)) (j : Int) = wrap64 (ch r (mat a) j) := rowOf_rd _ (by omega)
  rw [← madeW_set a r i j hi] at h1
  refine Ev.succ ?_; simp only [spec_l01Berkowitz.l6]
  rw [wrap_id (x := (i : Int) - j) (by omega) (by omega), show (i : Int) - j = ((i - j : Nat) : Int) by omega, e1, e2, wrap_succ (i := j) (by omega), Int.toNat_natCast]
  repeat (first | with_reducible exact Ev.now _ | dsimp only | refine Ev.pos (by first | omega | rfl | assumption | decide) ?_ | refine Ev.neg (by first | omega | assumption | exact Bool.false_ne_true | exact fun e => absurd e (by decide)) ?_ | simp only [bne_self_eq_false, Bool.not_true, Bool.not_false, List.length_cons, List.length_nil] | rw [wrap_id (by omega) (by omega)] | ((with_reducible refine Ev.eq (congrArg some ?_)); rfl))
  exact h1

omit ha hw in
theorem bkRows (r : Nat) (hr : r < n) (res : List Int) (h : Ev (fun f => spec_l01Berkowitz.l0 f a (chL (r + 1) (mat a) (r + 2)) ((r + 1 : Nat) : Int)) res) :
  ∀ (d i : Nat), i + d = r + 2 → Ev (fun f => spec_l01Berkowitz.l5 f a (chL r (mat a) (r + 1)) (r : Int) (tuW a r (r + 2)) (madeW a r i 0) (i : Int)) res := by
 intro d
 induction d with
 | zero =>
  intro i hi
  obtain rfl : i = r + 2 := by omega
  have e : madeW a r (r + 2) 0 = chL (r + 1) (mat a) (r + 2) := rowOf_congr (fun q hq => if_pos hq)
  have hl : (chL (r + 1) (mat a) (r + 2)).length = r + 2 := rowOf_length _ _
  rw [e]
  refine Ev.succ ?_; simp only [spec_l01Berkowitz.l5]
  rw [wrap_succ (i := r) (by omega)]
  repeat (first | with_reducible exact Ev.now _ | dsimp only | refine Ev.pos (by first | omega | rfl | assumption | decide) ?_ | refine Ev.neg (by first | omega | assumption | exact Bool.false_ne_true | exact fun e => absurd e (by decide)) ?_ | simp only [bne_self_eq_false, Bool.not_true, Bool.not_false, List.length_cons, List.length_nil] | rw [wrap_id (by omega) (by omega)] | ((with_reducible refine Ev.eq (congrArg some ?_)); rfl))
  exact h
 | succ d ih =>
  intro i hi
  have h1 := ih (i + 1) (by omega)
  have hl : (madeW a r i 0).length = r + 2 := rowOf_length _ _
  have h2 := bkMade n hn a r i hr (by omega) res h1 _ 0 (Nat.zero_add _)
  refine Ev.succ ?_; simp only [spec_l01Berkowitz.l5]
  repeat (first | with_reducible exact Ev.now _ | dsimp only | refine Ev.pos (by first | omega | rfl | assumption | decide) ?_ | refine Ev.neg (by first | omega | assumption | exact Bool.false_ne_true | exact fun e => absurd e (by decide)) ?_ | simp only [bne_self_eq_false, Bool.not_true, Bool.not_false, List.length_cons, List.length_nil] | rw [wrap_id (by omega) (by omega)] | ((with_reducible refine Ev.eq (congrArg some ?_)); rfl))
  exact h2

theorem bkAll : ∀ (d r : Nat), r + d = n → Ev (fun f => spec_l01Berkowitz.l0 f a (chL r (mat a) (r + 1)) (r : Int)) (trimN (chL n (mat a) (n + 1)) (n + 1)) := by
 have hal := ha.1
 intro d
 induction d with
 | zero =>
  intro r hr
  obtain rfl : r = n := by omega
  have hl : (chL r (mat a) (r + 1)).length = r + 1 := rowOf_length _ _
  have h1 := specTrim (chL r (mat a) (r + 1)) (by omega)
  rw [hl] at h1
  refine Ev.succ ?_; simp only [spec_l01Berkowitz.l0]
  repeat (first | with_reducible exact Ev.now _ | dsimp only | with_reducible refine Ev.bind (h1) ?_ | refine Ev.pos (by first | omega | rfl | assumption | decide) ?_ | refine Ev.neg (by first | omega | assumption | exact Bool.false_ne_true | exact fun e => absurd e (by decide)) ?_ | simp only [bne_self_eq_false, Bool.not_true, Bool.not_false, List.length_cons, List.length_nil] | rw [wrap_id (by omega) (by omega)] | with_reducible exact (h1) | ((with_reducible refine Ev.eq (congrArg some ?_)); rfl))
 | succ d ih =>
  intro r hr
  have h1 := ih (r + 1) (by omega)
  have hrow := ha.2 r (by omega)
  have h2 := bkRows n hn a r (by omega) _ h1 (r + 2) 0 (by omega)
  rw [madeW_zero] at h2
  have h3 := bkTurn n hn a ha r (by omega) _ _ h2 r 0 (by omega)
  have h4 := bkColumn n hn a ha hw r (by omega) _ _ _ h3 r 0 (by omega)
  have e1 : tuW a r (0 + 2) = [1, wrap64 (-(rd (rd_L1 a (r : Int)) (r : Int)))] := by
   show [wrap64 1, wrap64 (-(mat a r r))] = _
   rw [show wrap64 1 = 1 from wrap_id (by decide) (by decide)]
   rfl
  have e2 : colW a r 0 0 = [] := rfl
  rw [e1, e2] at h4
  refine Ev.succ ?_; simp only [spec_l01Berkowitz.l0]
  repeat (first | with_reducible exact Ev.now _ | dsimp only | refine Ev.pos (by first | omega | rfl | assumption | decide) ?_ | refine Ev.neg (by first | omega | assumption | exact Bool.false_ne_true | exact fun e => absurd e (by decide)) ?_ | simp only [bne_self_eq_false, Bool.not_true, Bool.not_false, List.length_cons, List.length_nil] | rw [wrap_id (by omega) (by omega)] | ((with_reducible refine Ev.eq (congrArg some ?_)); rfl))
  exact h4

theorem berkowitz : Ev (fun f => spec_l01Berkowitz.f f a) (trimN (chL n (mat a) (n + 1)) (n + 1)) := by
 have h := bkAll n hn a ha hw n 0 (by omega)
 have e : chL 0 (mat a) (0 + 1) = [1] := by
  show [wrap64 1] = [1]
  rw [wrap_id (by decide) (by decide)]
 unfold spec_l01Berkowitz.f
 rw [e] at h
 exact h

end
/-- All the list's numbers are these behind wrapping, and none beyond it. -/
def Rep (xs : List Int) (q : Nat → Int) : Prop := ∀ j : Nat, rd xs (j : Int) = wrap64 (q j)

theorem rd_snoc_zero (ys : List Int) (j : Nat) : rd (ys ++ [0]) (j : Int) = rd ys (j : Int) := by
 by_cases h : j < ys.length
 ·rw [rd_lt (by simp; omega), rd_lt h, List.getElem_append_left h]
 ·by_cases e : j = ys.length
  ·subst e
   rw [rd_lt (by simp), rd_ge (Nat.le_refl _)]
   simp
  ·rw [rd_ge (by simp; omega), rd_ge (by omega)]

theorem Rep.snoc {ys : List Int} {q : Nat → Int} (h : Rep ys q) : Rep (ys ++ [0]) q := fun j => by rw [rd_snoc_zero]; exact h j

theorem Rep.put {ys : List Int} {q : Nat → Int} (h : Rep ys q) {m : Nat} (hm : m < ys.length) (s a b : Int) : Rep (ys.set m (wrap64 (rd ys (m : Int) + wrap64 (wrap64 (s * a) * b)))) (fun j => q j + if j = m then s * a * b else 0) := by
 intro j
 rw [rd_set hm]
 show _ = wrap64 (q j + if j = m then s * a * b else 0)
 by_cases e : j = m
 ·rw [if_pos e, if_pos e, e, h m, wrap_add_wrap, wrap_mul_left (s * a) b |> fun z => wrap_add_congr (a := q m) rfl z]
 ·rw [if_neg e, if_neg e, h j, Int.add_zero]

theorem rl_put {xs : List (List Int)} {t : Nat} (v : List Int) (h : t < xs.length) : rd_L1 (xs.set t v) (t : Int) = v := by rw [rl_set h, if_pos rfl]

theorem rl_self {xs : List (List Int)} {t : Nat} (h : t < xs.length) : xs.set t (rd_L1 xs (t : Int)) = xs := by
 rw [rl_lt h]
 exact List.set_getElem_self h

section
variable (n : Nat) (X : List (List (List Int))) (b0 b1 b2 : Nat → Nat → Int)

/-- The numbers that the list for a set stands for when columns below c of the set s are done. -/
def qq (s c t j : Nat) : Int :=
 match popU t n with
 | 0 => if j = 0 then 1 else 0
 | r + 1 => Sm n (fun d => if t.testBit d = true ∧ (er t d < s ∨ (er t d = s ∧ d < c)) then sg (abv n t d) * cv (b0 r d) (b1 r d) (b2 r d) (pcoef n b0 b1 b2 r (er t d)) j else 0)

theorem er_lt {t d : Nat} (h : t.testBit d = true) : er t d < t := by
 have h1 := bit_ge t d h
 have h2 : 0 < 2 ^ d := Nat.two_pow_pos d
 unfold er
 omega

theorem qq_done (s t r : Nat) (hs : t ≤ s) (hr : popU t n = r) : qq n b0 b1 b2 s 0 t = pcoef n b0 b1 b2 r t := by
 funext j
 unfold qq
 cases r with
 | zero => rw [hr]; rfl
 | succ r =>
  rw [hr]
  refine Sm_congr (fun d _ => ?_)
  by_cases e : t.testBit d = true
  ·rw [if_pos ⟨e, Or.inl (by have := er_lt e; omega)⟩, if_pos e]
  ·rw [if_neg (fun z => e z.1), if_neg e]

theorem qq_next (s t : Nat) : qq n b0 b1 b2 s n t = qq n b0 b1 b2 (s + 1) 0 t := by
 funext j
 unfold qq
 cases popU t n with
 | zero => rfl
 | succ r =>
  refine Sm_congr (fun d hd => ?_)
  by_cases e : t.testBit d = true ∧ (er t d < s ∨ (er t d = s ∧ d < n))
  ·rw [if_pos e, if_pos ⟨e.1, by have := e.2; omega⟩]
  ·rw [if_neg e, if_neg (fun z => e ⟨z.1, by have := z.2; omega⟩)]

theorem qq_same (s c t : Nat) (h : t.testBit c = true → er t c ≠ s) : qq n b0 b1 b2 s (c + 1) t = qq n b0 b1 b2 s c t := by
 funext j
 unfold qq
 cases popU t n with
 | zero => rfl
 | succ r =>
  refine Sm_congr (fun d hd => ?_)
  by_cases e : t.testBit d = true ∧ (er t d < s ∨ (er t d = s ∧ d < c))
  ·rw [if_pos e, if_pos ⟨e.1, by have := e.2; omega⟩]
  ·rw [if_neg e, if_neg (fun z => ?_)]
   by_cases ed : d = c
   ·subst ed
    have h1 := h z.1
    exact e ⟨z.1, by have := z.2; omega⟩
   ·exact e ⟨z.1, by have := z.2; omega⟩

theorem qq_put (s c t r : Nat) (hc : c < n) (hb : t.testBit c = true) (he : er t c = s) (hr : popU t n = r + 1) (j : Nat) : qq n b0 b1 b2 s (c + 1) t j = qq n b0 b1 b2 s c t j + sg (abv n t c) * cv (b0 r c) (b1 r c) (b2 r c) (pcoef n b0 b1 b2 r s) j := by
 unfold qq
 rw [hr]
 show Sm n _ = Sm n _ + _
 rw [← Sm_pick' n (fun d => sg (abv n t d) * cv (b0 r d) (b1 r d) (b2 r d) (pcoef n b0 b1 b2 r s) j) hc, ← Sm_add]
 refine Sm_congr (fun d hd => ?_)
 by_cases ed : d = c
 ·subst ed
  rw [if_pos ⟨hb, Or.inr ⟨he, by omega⟩⟩, if_neg (fun z => by have := z.2; omega), if_pos rfl, he, Int.one_mul, Int.zero_add]
 ·rw [if_neg ed, Int.zero_mul, Int.add_zero]
  by_cases e : t.testBit d = true ∧ (er t d < s ∨ (er t d = s ∧ d < c))
  ·rw [if_pos e, if_pos ⟨e.1, by have := e.2; omega⟩]
  ·rw [if_neg e, if_neg (fun z => e ⟨z.1, by have := z.2; omega⟩)]

theorem cv_eq (x y z : Int) (a : Nat → Int) (j : Nat) : cv x y z a j = x * a j + (if 1 ≤ j then y * a (j - 1) else 0) + (if 2 ≤ j then z * a (j - 2) else 0) := by
 unfold cv lin
 by_cases c0 : j = 0
 ·subst c0
  simp
 ·rw [if_neg c0, if_neg c0, if_pos (show 1 ≤ j by omega), Int.zero_mul, Int.zero_add, Int.one_mul, Int.zero_mul, Int.zero_add]
  by_cases c1 : j = 1
  ·subst c1
   simp
  ·rw [if_neg (show ¬ j - 1 = 0 by omega), if_neg c0, if_pos (show 2 ≤ j by omega), show j - 1 - 1 = j - 2 by omega]

theorem cv_wrap (x y z : Int) (a b : Nat → Int) (h : ∀ j, wrap64 (a j) = wrap64 (b j)) (j : Nat) : wrap64 (cv x y z a j) = wrap64 (cv x y z b j) := by
 rw [cv_eq, cv_eq]
 refine wrap_add_congr (wrap_add_congr (wrap_mul_congr rfl (h j)) ?_) ?_
 ·split
  ·exact wrap_mul_congr rfl (h _)
  ·rfl
 ·split
  ·exact wrap_mul_congr rfl (h _)
  ·rfl

/-- What the i first numbers add. -/
def gg (A : List Int) (y0 y1 y2 : Int) (i j : Nat) : Int := Sm i (fun p => rd A (p : Int) * ((if j = p then y0 else 0) + (if j = p + 1 then y1 else 0) + (if j = p + 2 then y2 else 0)))

theorem gg_pick (A : List Int) (y : Int) (m j : Nat) : Sm A.length (fun p => rd A (p : Int) * (if j = p + m then y else 0)) = if m ≤ j then y * rd A ((j - m : Nat) : Int) else 0 := by
 by_cases c : m ≤ j
 ·rw [if_pos c]
  by_cases d : j - m < A.length
  ·rw [Sm_congr (g := fun p => (if p = j - m then 1 else 0) * (y * rd A (p : Int))) (fun p _ => by
    by_cases e : j = p + m
    ·rw [if_pos e, if_pos (by omega), Int.one_mul, Int.mul_comm]
    ·rw [if_neg e, if_neg (by omega), Int.zero_mul, Int.mul_zero]), Sm_pick' A.length (fun p => y * rd A (p : Int)) d]
  ·rw [Sm_congr (g := fun _ => 0) (fun p hp => by rw [if_neg (by omega), Int.mul_zero]), Sm_zero, rd_ge (by omega), Int.mul_zero]
 ·rw [if_neg c, Sm_congr (g := fun _ => 0) (fun p hp => by rw [if_neg (by omega), Int.mul_zero]), Sm_zero]

theorem gg_all (A : List Int) (y0 y1 y2 : Int) (j : Nat) : gg A y0 y1 y2 A.length j = cv y0 y1 y2 (fun p => rd A (p : Int)) j := by
 unfold gg
 rw [Sm_congr (g := fun p => (rd A (p : Int) * (if j = p + 0 then y0 else 0) + rd A (p : Int) * (if j = p + 1 then y1 else 0)) + rd A (p : Int) * (if j = p + 2 then y2 else 0)) (fun p _ => by rw [Int.mul_add, Int.mul_add]; rfl), Sm_add, Sm_add, gg_pick, gg_pick, gg_pick, cv_eq, if_pos (Nat.zero_le j), Nat.sub_zero]

/-- One number more: the row grows and gets a sum. -/
theorem dp_cell (xs : List (List Int)) (tt : Nat) (hto : tt < xs.length) (hx : xs.length ≤ 256) (i m L : Nat) (hm : i + m < L) (hL : L ≤ 1000) (x5 x7 x8 x10 s a b x27 x28 x42 x43 : Int) (A : List Int) (x73 : Int) (x85 : List Int) (x86 : Int) (q : Nat → Int) (R : List Int)
  (hk : ∀ zs : List Int, zs.length ≤ L → Rep zs (fun j => q j + if j = i + m then s * a * b else 0) → Ev (fun k => impl_polynomials_at_Graph_vertexFactor_1.l5 k X x5 (xs.set tt zs) x7 x8 x10 s (tt : Int) (i : Int) a x27 x28 x42 x43 A x73 (i : Int) x85 x86 ((m + 1 : Nat) : Int)) R) :
  ∀ (d : Nat) (ys : List Int), d = i + m + 1 - ys.length → ys.length ≤ L → Rep ys q → Ev (fun k => impl_polynomials_at_Graph_vertexFactor_1.l6 k X x5 (xs.set tt ys) x7 x8 x10 s (tt : Int) (i : Int) a (m : Int) b x27 x28 x42 x43 A x73 (i : Int) x85 x86 (m : Int)) R := by
 intro d
 induction d with
 | zero =>
  intro ys hd hy hr
  have h1 := hk (ys.set (i + m) (wrap64 (rd ys ((i + m : Nat) : Int) + wrap64 (wrap64 (s * a) * b)))) (by rw [List.length_set]; exact hy) (hr.put (by omega) s a b)
  have hl : (xs.set tt ys).length = xs.length := List.length_set
  refine Ev.succ ?_; simp only [impl_polynomials_at_Graph_vertexFactor_1.l6]
  rw [rl_put ys hto, wrap_id (x := (i : Int) + (m : Int)) (by omega) (by omega), show (i : Int) + (m : Int) = ((i + m : Nat) : Int) by omega, wrap_succ (i := m) (by omega), Int.toNat_natCast, Int.toNat_natCast]
  have e9 : ∀ v : List Int, (xs.set tt ys).set tt v = xs.set tt v := fun v => List.set_set ..
  rw [← e9] at h1
  refine Ev.pos (by omega) (Ev.pos (by omega) (Ev.neg (by omega) (Ev.pos (by omega) (Ev.pos (by omega) ?_))))
  exact Ev.bind (Ev.eq (show impl_Graph_vertexFactor_1.f _ = some _ from rfl)) h1
 | succ d ih =>
  intro ys hd hy hr
  have h1 := ih (ys ++ [0]) (by simp; omega) (by simp; omega) hr.snoc
  have hl : (xs.set tt ys).length = xs.length := List.length_set
  refine Ev.succ ?_; simp only [impl_polynomials_at_Graph_vertexFactor_1.l6]
  rw [rl_put ys hto, wrap_id (x := (i : Int) + (m : Int)) (by omega) (by omega), Int.toNat_natCast, List.set_set]
  exact Ev.pos (by omega) (Ev.pos (by omega) (Ev.pos (by omega) (Ev.pos (by omega) h1)))

/-- One number times a row's cell. -/
theorem dp_k (xs : List (List Int)) (tt : Nat) (hto : tt < xs.length) (hx : xs.length ≤ 256) (i L : Nat) (hm : i + 3 ≤ L) (hL : L ≤ 1000) (x5 x7 x8 x10 s a x27 x28 x42 x43 : Int) (A : List Int) (x73 : Int) (B : List Int) (hB : B.length = 3) (q : Nat → Int) (R : List Int)
  (hk : ∀ zs : List Int, zs.length ≤ L → Rep zs (fun j => q j + Sm 3 (fun m => if j = i + m then s * a * rd B (m : Int) else 0)) → Ev (fun k => impl_polynomials_at_Graph_vertexFactor_1.l4 k X x5 (xs.set tt zs) x7 x8 x10 s (tt : Int) x27 x28 x42 x43 A x73 ((i + 1 : Nat) : Int)) R) :
  ∀ (d m : Nat) (ys : List Int), m + d = 3 → ys.length ≤ L → Rep ys (fun j => q j + Sm m (fun m => if j = i + m then s * a * rd B (m : Int) else 0)) → Ev (fun k => impl_polynomials_at_Graph_vertexFactor_1.l5 k X x5 (xs.set tt ys) x7 x8 x10 s (tt : Int) (i : Int) a x27 x28 x42 x43 A x73 (i : Int) B (B.length : Int) (m : Int)) R := by
 intro d
 induction d with
 | zero =>
  intro m ys hd hy hr
  obtain rfl : m = 3 := by omega
  have h1 := hk ys hy hr
  refine Ev.succ ?_; simp only [impl_polynomials_at_Graph_vertexFactor_1.l5]
  rw [wrap_succ (i := i) (by omega)]
  exact Ev.neg (by omega) h1
 | succ d ih =>
  intro m ys hd hy hr
  have h1 := dp_cell X xs tt hto hx i m L (by omega) hL x5 x7 x8 x10 s a (rd B (m : Int)) x27 x28 x42 x43 A x73 B (B.length : Int) _ R (fun zs hz hr2 => ih (m + 1) zs (by omega) hz (fun j => by rw [hr2 j]; congr 1; exact Int.add_assoc _ _ _)) (i + m + 1 - ys.length) ys rfl hy hr
  refine Ev.succ ?_; simp only [impl_polynomials_at_Graph_vertexFactor_1.l5]
  exact Ev.pos (by omega) (Ev.pos (by omega) (Ev.pos (by omega) h1))

/-- One row times a cell. -/
theorem dp_i (xs : List (List Int)) (tt : Nat) (hto : tt < xs.length) (hx : xs.length ≤ 256) (r c L : Nat) (hL : L ≤ 1000) (x5 x7 s x27 x28 x42 : Int) (hc : c < 8) (A : List Int) (hA : A.length + 2 ≤ L) (y0 y1 y2 : Int) (hr : r < X.length) (hcr : c < (rd_L2 X (r : Int)).length) (hB : rd_L1 (rd_L2 X (r : Int)) (c : Int) = [y0, y1, y2]) (q : Nat → Int) (R : List Int)
  (hk : ∀ zs : List Int, zs.length ≤ L → Rep zs (fun j => q j + s * gg A y0 y1 y2 A.length j) → Ev (fun k => impl_polynomials_at_Graph_vertexFactor_1.l2 k X x5 (xs.set tt zs) x7 (r : Int) x27 x28 x42 ((c + 1 : Nat) : Int)) R) :
  ∀ (d i : Nat) (ys : List Int), i + d = A.length → ys.length ≤ L → Rep ys (fun j => q j + s * gg A y0 y1 y2 i j) → Ev (fun k => impl_polynomials_at_Graph_vertexFactor_1.l4 k X x5 (xs.set tt ys) x7 (r : Int) (c : Int) s (tt : Int) x27 x28 x42 (c : Int) A (A.length : Int) (i : Int)) R := by
 intro d
 induction d with
 | zero =>
  intro i ys hd hy hr2
  obtain rfl : i = A.length := by omega
  have h1 := hk ys hy hr2
  refine Ev.succ ?_; simp only [impl_polynomials_at_Graph_vertexFactor_1.l4]
  rw [wrap_succ (i := c) (by omega)]
  exact Ev.neg (by omega) h1
 | succ d ih =>
  intro i ys hd hy hr2
  have h1 := dp_k X xs tt hto hx i L (by omega) hL x5 x7 (r : Int) (c : Int) s (rd A (i : Int)) x27 x28 x42 (c : Int) A (A.length : Int) [y0, y1, y2] rfl (fun j => q j + s * gg A y0 y1 y2 i j) R (fun zs hz hr3 => ih (i + 1) zs (by omega) hz (fun j => by
   rw [hr3 j]
   congr 1
   show q j + s * gg A y0 y1 y2 i j + (0 + (if j = i + 0 then s * rd A (i : Int) * y0 else 0) + (if j = i + 1 then s * rd A (i : Int) * y1 else 0) + (if j = i + 2 then s * rd A (i : Int) * y2 else 0)) = q j + s * (gg A y0 y1 y2 i j + rd A (i : Int) * ((if j = i then y0 else 0) + (if j = i + 1 then y1 else 0) + (if j = i + 2 then y2 else 0)))
   rw [Nat.add_zero]
   split <;> split <;> split <;> grind)) 3 0 ys rfl hy (fun j => by rw [hr2 j]; congr 1; exact (Int.add_zero _).symm)
  refine Ev.succ ?_; simp only [impl_polynomials_at_Graph_vertexFactor_1.l4]
  rw [hB]
  exact Ev.pos (by omega) (Ev.pos (by omega) (Ev.pos (by omega) (Ev.pos (by omega) (Ev.pos (by omega) (Ev.pos (by omega) (Ev.pos (by omega) h1))))))

/-- All lists stand for their sums. -/
def Inv (s c : Nat) (xs : List (List Int)) : Prop := xs.length = 2 ^ n ∧ ∀ t : Nat, t < 2 ^ n → (rd_L1 xs (t : Int)).length ≤ 2 * popU t n + 1 ∧ Rep (rd_L1 xs (t : Int)) (qq n b0 b1 b2 s c t)

/-- Rows of cells of three numbers. -/
def Rows3 : Prop := X.length = n ∧ ∀ r : Nat, r < n → (rd_L2 X (r : Int)).length = n ∧ ∀ c : Nat, c < n → rd_L1 (rd_L2 X (r : Int)) (c : Int) = [b0 r c, b1 r c, b2 r c]

variable (hn : n ≤ 8) (hX : Rows3 n X b0 b1 b2)
include hn hX

theorem dp_sign (xs : List (List Int)) (hxl : xs.length = 2 ^ n) (s c : Nat) (hs : s < 2 ^ n) (hc : c < n) (hb : s.testBit c = false) (r x27 x28 x42 x43 : Int) (R : List Int)
  (hk : Ev (fun k => impl_polynomials_at_Graph_vertexFactor_1.l4 k X (n : Int) xs (s : Int) r (c : Int) (sg (abv n s c)) ((s + 2 ^ c : Nat) : Int) x27 x28 x42 x43 (rd_L1 xs (s : Int)) ((rd_L1 xs (s : Int)).length : Int) 0) R) :
  ∀ (d e : Nat), e + d = n → c + 1 ≤ e → Ev (fun k => impl_polynomials_at_Graph_vertexFactor_1.l3 k X (n : Int) xs (s : Int) r (c : Int) (sg (popU s e - popU s (c + 1))) (e : Int) x27 x28 x42 x43) R := by
 have hp := (pow_le n hn).2
 intro d
 induction d with
 | zero =>
  intro e hd he
  obtain rfl : e = n := by omega
  have h2 : 0 < 2 ^ c := Nat.two_pow_pos c
  refine Ev.succ ?_; simp only [impl_polynomials_at_Graph_vertexFactor_1.l3]
  rw [(bit_put s c (by omega) (by omega) hb).1, Int.toNat_natCast, Int.toNat_natCast]
  exact Ev.neg (by omega) (Ev.pos (by omega) (Ev.pos (by omega) (Ev.pos (by omega) (Ev.neg (by omega) hk))))
 | succ d ih =>
  intro e hd he
  have h1 := ih (e + 1) (by omega) (by omega)
  have hm := popU_mono s he
  rw [show popU s (e + 1) = popU s e + (if s.testBit e then 1 else 0) from rfl] at h1
  refine Ev.succ ?_; simp only [impl_polynomials_at_Graph_vertexFactor_1.l3]
  rw [bit_get s e (by omega) (by omega), wrap_succ (i := e) (by omega)]
  refine Ev.pos (by omega) (Ev.pos (by omega) ?_)
  by_cases b : s.testBit e = true
  ·rw [if_pos b] at h1
   rw [if_pos b]
   refine Ev.pos rfl ?_
   rw [show wrap64 (-(sg (popU s e - popU s (c + 1)))) = sg (popU s e + 1 - popU s (c + 1)) from by
    rw [show popU s e + 1 - popU s (c + 1) = popU s e - popU s (c + 1) + 1 by omega, sg_succ]
    unfold sg
    split
    ·exact wrap_id (by decide) (by decide)
    ·exact wrap_id (by decide) (by decide)]
   exact h1
  ·rw [if_neg b, Nat.add_zero] at h1
   rw [if_neg b]
   exact Ev.neg (by decide) h1

theorem dp_set (s : Nat) (hs : s < 2 ^ n) (R : List Int) (hk : ∀ xs : List (List Int), Inv n b0 b1 b2 (s + 1) 0 xs → Ev (fun k => impl_polynomials_at_Graph_vertexFactor_1.l0 k X (n : Int) xs ((2 ^ n : Nat) : Int) ((s + 1 : Nat) : Int)) R) :
  ∀ (d c : Nat) (xs : List (List Int)), c + d = n → Inv n b0 b1 b2 s c xs → Ev (fun k => impl_polynomials_at_Graph_vertexFactor_1.l2 k X (n : Int) xs (s : Int) ((popU s n : Nat) : Int) ((2 ^ n : Nat) : Int) (s : Int) (n : Int) (c : Int)) R := by
 have hp := (pow_le n hn).2
 intro d
 induction d with
 | zero =>
  intro c xs hd hi
  obtain rfl : c = n := by omega
  have h1 := hk xs ⟨hi.1, fun t ht => ⟨(hi.2 t ht).1, by rw [← qq_next]; exact (hi.2 t ht).2⟩⟩
  refine Ev.succ ?_; simp only [impl_polynomials_at_Graph_vertexFactor_1.l2]
  rw [wrap_succ (i := s) (by omega)]
  exact Ev.neg (by omega) h1
 | succ d ih =>
  intro c xs hd hi
  refine Ev.succ ?_; simp only [impl_polynomials_at_Graph_vertexFactor_1.l2]
  rw [bit_get s c (by omega) (by omega), wrap_succ (i := c) (by omega)]
  refine Ev.pos (by omega) (Ev.pos (by omega) ?_)
  by_cases b : s.testBit c = true
  ·rw [if_pos b]
   refine Ev.pos rfl (ih (c + 1) xs (by omega) ⟨hi.1, fun t ht => ⟨(hi.2 t ht).1, ?_⟩⟩)
   rw [qq_same]
   ·exact (hi.2 t ht).2
   ·intro hb he
    have := bit_out n t c c hn ht (by omega) hb
    rw [he, b] at this
    simp at this
  ·rw [if_neg b]
   refine Ev.neg (by decide) ?_
   have b' : s.testBit c = false := by simpa using b
   have hto := bit_lt n s c hn hs (by omega) b'
   have htb := (bit_put s c (by omega) (by omega) b').2
   have hte : er (s + 2 ^ c) c = s := by unfold er; omega
   have ho : ∀ d, s.testBit d = ((s + 2 ^ c).testBit d && d != c) := fun d => by
    have := bit_out n (s + 2 ^ c) c d hn hto (by omega) htb
    rw [hte] at this
    exact this
   obtain ⟨_, o1⟩ := desc_out htb ho n (by omega)
   obtain ⟨_, o2⟩ := desc_out htb ho (c + 1) (by omega)
   have hab : abv n (s + 2 ^ c) c = abv n s c := by unfold abv; omega
   have hpt := popU_le (s + 2 ^ c) n
   have hrl := hX.2 (popU s n) (by omega)
   have hsl := (hi.2 s hs)
   have htl := (hi.2 _ hto)
   have h4 := dp_i X xs (s + 2 ^ c) (by rw [hi.1]; exact hto) (by rw [hi.1]; exact hp) (popU s n) c (2 * popU (s + 2 ^ c) n + 1) (by omega) (n : Int) (s : Int) (sg (abv n s c)) ((2 ^ n : Nat) : Int) (s : Int) (n : Int) (by omega) (rd_L1 xs (s : Int)) (by omega) (b0 (popU s n) c) (b1 (popU s n) c) (b2 (popU s n) c) (by rw [hX.1]; omega) (by rw [hrl.1]; omega) (hrl.2 c (by omega)) (qq n b0 b1 b2 s c (s + 2 ^ c)) R (fun zs hz hr => ih (c + 1) (xs.set (s + 2 ^ c) zs) (by omega) ⟨by rw [List.length_set]; exact hi.1, fun t ht => by
    rw [rl_set (by rw [hi.1]; exact hto)]
    by_cases et : t = s + 2 ^ c
    ·rw [if_pos et, et]
     refine ⟨hz, fun j => ?_⟩
     rw [hr j]
     show wrap64 (qq n b0 b1 b2 s c (s + 2 ^ c) j + sg (abv n s c) * gg (rd_L1 xs (s : Int)) (b0 (popU s n) c) (b1 (popU s n) c) (b2 (popU s n) c) (rd_L1 xs (s : Int)).length j) = _
     rw [qq_put n b0 b1 b2 s c (s + 2 ^ c) (popU s n) (by omega) htb hte (by omega) j, hab, gg_all]
     refine wrap_add_congr rfl (wrap_mul_congr rfl (cv_wrap _ _ _ _ _ (fun p => ?_) j))
     rw [hsl.2 p, wrap_wrap]
     have hq : qq n b0 b1 b2 s c s = qq n b0 b1 b2 s 0 s := by
      funext j
      unfold qq
      cases popU s n with
      | zero => rfl
      | succ r =>
       refine Sm_congr (fun d hd => ?_)
       by_cases e : s.testBit d = true
       ·have := er_lt e
        rw [if_pos ⟨e, by omega⟩, if_pos ⟨e, by omega⟩]
       ·rw [if_neg (fun z => e z.1), if_neg (fun z => e z.1)]
     rw [hq, qq_done n b0 b1 b2 s s (popU s n) (Nat.le_refl _) rfl]
    ·rw [if_neg et, qq_same]
     ·exact hi.2 t ht
     ·intro hb he
      have := bit_ge t c hb
      unfold er at he
      omega⟩) (rd_L1 xs (s : Int)).length 0 (rd_L1 xs ((s + 2 ^ c : Nat) : Int)) (by omega) htl.1 (fun j => by rw [htl.2 j]; congr 1; show _ = _ + _ * 0; omega)
   rw [rl_self (by rw [hi.1]; exact hto)] at h4
   have h3 := dp_sign n X b0 b1 b2 hn hX xs hi.1 s c hs (by omega) b' ((popU s n : Nat) : Int) ((2 ^ n : Nat) : Int) (s : Int) (n : Int) (c : Int) R h4 (n - (c + 1)) (c + 1) (by omega) (Nat.le_refl _)
   rw [Nat.sub_self] at h3
   exact h3

omit hX in
theorem dp_pop (s : Nat) (hs : s < 2 ^ n) (xs : List (List Int)) (R : List Int) (hk : Ev (fun k => impl_polynomials_at_Graph_vertexFactor_1.l2 k X (n : Int) xs (s : Int) ((popU s n : Nat) : Int) ((2 ^ n : Nat) : Int) (s : Int) (n : Int) 0) R) :
  ∀ (d c : Nat), c + d = n → Ev (fun k => impl_polynomials_at_Graph_vertexFactor_1.l1 k X (n : Int) xs (s : Int) ((popU s c : Nat) : Int) ((2 ^ n : Nat) : Int) (s : Int) (n : Int) (c : Int)) R := by
 have hp := (pow_le n hn).2
 intro d
 induction d with
 | zero =>
  intro c hd
  obtain rfl : c = n := by omega
  refine Ev.succ ?_; simp only [impl_polynomials_at_Graph_vertexFactor_1.l1]
  exact Ev.neg (by omega) hk
 | succ d ih =>
  intro c hd
  have h1 := ih (c + 1) (by omega)
  have := popU_le s c
  rw [show popU s (c + 1) = popU s c + (if s.testBit c then 1 else 0) from rfl] at h1
  refine Ev.succ ?_; simp only [impl_polynomials_at_Graph_vertexFactor_1.l1]
  rw [bit_get s c (by omega) (by omega), wrap_succ (i := c) (by omega)]
  refine Ev.pos (by omega) (Ev.pos (by omega) ?_)
  by_cases b : s.testBit c = true
  ·rw [if_pos b] at h1
   rw [if_pos b, wrap_succ (by omega)]
   exact h1
  ·rw [if_neg b] at h1
   rw [if_neg b, Int.add_zero, wrap_id (by omega) (by omega)]
   exact h1

theorem dp_all (R : List Int) (hR : ∀ ys : List Int, ys.length ≤ 2 * n + 1 → Rep ys (pcoef n b0 b1 b2 n (2 ^ n - 1)) → Ev (fun k => impl_trimmed.f k ys) R) :
  ∀ (d s : Nat) (xs : List (List Int)), s + d = 2 ^ n → Inv n b0 b1 b2 s 0 xs → Ev (fun k => impl_polynomials_at_Graph_vertexFactor_1.l0 k X (n : Int) xs ((2 ^ n : Nat) : Int) (s : Int)) R := by
 have hp := pow_le n hn
 intro d
 induction d with
 | zero =>
  intro s xs hd hi
  obtain ⟨i1, i2⟩ := hi.2 (2 ^ n - 1) (by omega)
  have hf := (desc_full (2 ^ n - 1) n (fun d hd => by rw [Nat.testBit_two_pow_sub_one]; exact decide_eq_true hd)).1
  rw [qq_done n b0 b1 b2 s (2 ^ n - 1) n (by omega) hf] at i2
  rw [hf] at i1
  have h1 := hR _ i1 i2
  refine Ev.succ ?_; simp only [impl_polynomials_at_Graph_vertexFactor_1.l0]
  rw [shl_one n hn, wrap_id (x := ((2 ^ n : Nat) : Int) - 1) (by omega) (by omega), show ((2 ^ n : Nat) : Int) - 1 = ((2 ^ n - 1 : Nat) : Int) by omega]
  have := hi.1
  exact Ev.neg (by omega) (Ev.pos (by omega) (Ev.pos (by omega) (Ev.pos (by omega) (Ev.bind h1 (Ev.now _)))))
 | succ d ih =>
  intro s xs hd hi
  have h2 := dp_set n X b0 b1 b2 hn hX s (by omega) R (fun xs hi => ih (s + 1) xs (by omega) hi) n 0 xs (by omega) hi
  have h1 := dp_pop n X hn s (by omega) xs R h2 n 0 (by omega)
  refine Ev.succ ?_; simp only [impl_polynomials_at_Graph_vertexFactor_1.l0]
  exact Ev.pos (by omega) h1

theorem polynomials (R : List Int) (hR : ∀ ys : List Int, ys.length ≤ 2 * n + 1 → Rep ys (pcoef n b0 b1 b2 n (2 ^ n - 1)) → Ev (fun k => impl_trimmed.f k ys) R) : Ev (fun k => impl_polynomials_at_Graph_vertexFactor_1.f k X) R := by
 have hp := pow_le n hn
 have h0 := dp_all n X b0 b1 b2 hn hX R hR (2 ^ n) 0 ((List.replicate (2 ^ n) ([] : List Int)).set 0 [1]) (by omega) ⟨by simp, fun t ht => by
  rw [rl_set (by simp; omega)]
  by_cases e : t = 0
  ·subst e
   rw [if_pos rfl]
   have : popU 0 n = 0 := by
    have : ∀ n : Fin 9, popU 0 n.val = 0 := by decide
    exact this ⟨n, by omega⟩
   refine ⟨by simp, fun j => ?_⟩
   unfold qq
   rw [this]
   show rd [1] (j : Int) = wrap64 (if j = 0 then 1 else 0)
   by_cases c : j = 0
   ·subst c
    rw [if_pos rfl, wrap_id (by decide) (by decide)]
    rfl
   ·rw [if_neg c, rd_ge (by simp; omega), wrap_id (by decide) (by decide)]
  ·rw [if_neg e, rl_lt (by simp; exact ht), List.getElem_replicate]
   refine ⟨by simp, fun j => ?_⟩
   have hpt : ∀ (n : Fin 9) (t : Fin 256), t.val < 2 ^ n.val → popU t.val n.val = 0 → t.val = 0 := by decide +kernel
   have h9 := hpt ⟨n, by omega⟩ ⟨t, by omega⟩ ht
   rw [rd_ge (by simp)]
   unfold qq
   cases hq : popU t n with
   | zero => exact absurd (h9 hq) e
   | succ r =>
    show 0 = wrap64 (Sm n _)
    rw [Sm_congr (g := fun _ => 0) (fun d hd => if_neg (fun z => by have := z.2; omega)), Sm_zero, wrap_id (by decide) (by decide)]⟩
 unfold impl_polynomials_at_Graph_vertexFactor_1.f
 rw [hX.1, shl_one n hn, Int.toNat_natCast]
 refine Ev.pos (by omega) (Ev.pos (by omega) (Ev.bind (Ev.now _) (Ev.pos (by rw [List.length_replicate]; omega) ?_)))
 rw [List.length_replicate]
 exact h0

end
theorem trimN_same {xs ys : List Int} (h : ∀ j : Nat, rd xs (j : Int) = rd ys (j : Int)) : ∀ i, trimN xs i = trimN ys i := by
 intro i
 induction i with
 | zero => rfl
 | succ i ih =>
  unfold trimN
  by_cases c : rd xs (i : Int) = 0
  ·rw [if_pos c, if_pos (by rw [← h i]; exact c), ih]
  ·rw [if_neg c, if_neg (by rw [← h i]; exact c)]
   have hx : i < xs.length := Classical.byContradiction fun z => c (rd_ge (by omega))
   have hy : i < ys.length := Classical.byContradiction fun z => c (by rw [h i]; exact rd_ge (by omega))
   refine list_ext_rd (by simp only [List.length_take]; omega) (fun j hj => ?_)
   simp only [List.length_take] at hj
   have e : ∀ zs : List Int, i < zs.length → rd (zs.take (i + 1)) (j : Int) = rd zs (j : Int) := fun zs hz => by
    rw [rd_lt (by simp only [List.length_take]; omega), rd_lt (by omega), List.getElem_take]
   rw [e xs hx, e ys hy, h j]

theorem trimN_more (xs : List Int) : ∀ d, trimN xs (xs.length + d) = trimN xs xs.length := by
 intro d
 induction d with
 | zero => rfl
 | succ d ih =>
  show trimN xs (xs.length + d + 1) = _
  rw [← ih]
  conv => lhs; unfold trimN
  rw [if_pos (rd_ge (by omega))]

theorem trimN_rep {xs ys : List Int} (h : ∀ j : Nat, rd xs (j : Int) = rd ys (j : Int)) : trimN xs xs.length = trimN ys ys.length := by
 rw [← trimN_more xs ys.length, ← trimN_more ys xs.length, trimN_same h, Nat.add_comm]

theorem rd_append_zeros (xs : List Int) (n j : Nat) : rd (xs ++ List.replicate n 0) (j : Int) = rd xs (j : Int) := by
 by_cases h : j < xs.length
 ·rw [rd_lt (by simp; omega), rd_lt h, List.getElem_append_left h]
 ·rw [rd_ge (xs := xs) (by omega)]
  by_cases e : j < xs.length + n
  ·rw [rd_lt (by simp; omega), List.getElem_append_right (by omega), List.getElem_replicate]
  ·rw [rd_ge (by simp; omega)]

section
variable (n : Nat) (A : Nat → Nat → Int) (D : Nat → Int)

/-- The reference's matrix: A beside 1 - D above, the unit below. -/
def vf (i k : Nat) : Int := if i < n then (if k < n then A i k else if k - n = i then 1 - D i else 0) else if k = i - n then 1 else 0

def c0 (i k : Nat) : Int := if i = k then 1 else 0
def c1 (i k : Nat) : Int := - A i k
def c2 (i k : Nat) : Int := if i = k then D i - 1 else 0

theorem det_vf (u : Int) : det (n + n) (xu (vf n A D) u) = det n (vu c0 (c1 A) (c2 D) u) := by
 rw [det_congr (n + n) _ (bq n (fun i k => idm i k - u * A i k) (fun i e => -(u * (if e = i then 1 - D i else 0))) (fun e k => -(u * xid 1 e k))) (fun i k hi hk => ?_), bq_left]
 ·refine det_congr n _ _ (fun i k hi hk => ?_)
  rw [Sm_congr (n := n) (g := fun e => u * u * (if e = i then 1 - D i else 0) * xid 1 e k) (fun e _ => by grind), Sm_pick_mul n (fun e => u * u * (if e = i then 1 - D i else 0)) 1 hk]
  unfold vu c0 c1 c2 idm
  by_cases e : i = k
  ·rw [if_pos e, if_pos e.symm, if_pos e]
   grind
  ·rw [if_neg e, if_neg (fun z => e z.symm), if_neg e]
   grind
 ·unfold bq xu ng vf idm xid
  by_cases c : i < n
  ·rw [if_pos c, if_pos c]
   by_cases c2 : k < n
   ·rw [if_pos c2, if_pos c2]
    grind
   ·rw [if_neg c2, if_neg c2, if_neg (show ¬ i = k by omega)]
    grind
  ·rw [if_neg c, if_neg c]
   by_cases c2 : k < n
   ·rw [if_pos c2, if_neg (show ¬ i = k by omega)]
    show _ = -(u * if i - n = k then 1 else 0)
    by_cases e : k = i - n
    ·rw [if_pos e, if_pos e.symm]
     grind
    ·rw [if_neg e, if_neg (fun z => e z.symm)]
     grind
   ·rw [if_neg c2, if_neg (show ¬ k = i - n by omega)]
    by_cases e : i = k
    ·rw [if_pos e, if_pos (show i - n = k - n by omega)]
     grind
    ·rw [if_neg e, if_neg (show ¬ i - n = k - n by omega)]
     grind

/-- Both determinants have the same coefficients. -/
theorem vf_coef (hn : n ≤ 8) (j : Nat) : ch (n + n) (vf n A D) j = pcoef n c0 (c1 A) (c2 D) n (2 ^ n - 1) j := by
 have hv := pcoef_val n c0 (c1 A) (c2 D) n (2 ^ n - 1)
 by_cases hj : n + n + 1 ≤ j
 ·have h1 : ch (n + n) (vf n A D) j = 0 := dc_high (n + n) _ _ hj
  rw [h1, hv.1 j (by omega)]
 ·have hp := (pow_le n hn)
  obtain ⟨f1, f2⟩ := desc_full (2 ^ n - 1) n (fun d hd => by rw [Nat.testBit_two_pow_sub_one]; exact decide_eq_true hd)
  have key : ∀ u : Int, det (n + n) (xu (vf n A D) u) = Sm (n + n + 1) (fun i => pcoef n c0 (c1 A) (c2 D) n (2 ^ n - 1) i * u ^ i) := by
   intro u
   have h1 : pval n c0 (c1 A) (c2 D) u n (2 ^ n - 1) = _ := hv.2.1 u
   rw [pval_det n c0 (c1 A) (c2 D) u (fun t c d ht hc hb => bit_out n t c d hn ht hc hb) n (2 ^ n - 1) (by omega) f1] at h1
   rw [det_vf, ← det_falling n (vu c0 (c1 A) (c2 D) u), show n + n + 1 = 2 * n + 1 by omega, ← h1]
   refine det_congr n _ _ (fun i k hi hk => ?_)
   rw [f2 k hk]
  have := coef_zero (n + n + 1) (fun m => ch (n + n) (vf n A D) m - pcoef n c0 (c1 A) (c2 D) n (2 ^ n - 1) m) (fun u _ => by
   have h1 := key u
   rw [det_xu] at h1
   rw [Sm_congr (g := fun m => ch (n + n) (vf n A D) m * u ^ m + (-1) * (pcoef n c0 (c1 A) (c2 D) n (2 ^ n - 1) m * u ^ m)) (fun m _ => by grind), Sm_add, Sm_mul_left]
   omega) j (by omega)
  omega

end

section
variable {n : Int} {l : List (List Int)} (h : isGraph n l = true)
include h

theorem adjm_bound : ∀ p : Nat, p ≤ 2 * l.length → ∀ v w : Nat, v < n.toNat → w < n.toNat → 0 ≤ mat (adjm l n.toNat p) v w ∧ mat (adjm l n.toNat p) v w ≤ p := by
 obtain ⟨g1, g2, g3⟩ := graph_small h
 intro p
 induction p with
 | zero =>
  intro _ v w hv hw
  have : mat (adjm l n.toNat 0) v w = 0 := by
   unfold mat
   rw [rl_lt (by simp only [adjm, zeros, List.length_replicate]; exact hv)]
   simp only [adjm, zeros, List.getElem_replicate]
   exact rd_replicate _ _
  rw [this]
  exact ⟨Int.le_refl _, by omega⟩
 | succ p ih =>
  intro hp v w hv hw
  obtain ⟨h1, h2⟩ := adj_form h p (by omega)
  obtain ⟨a, b, ea, eb, ha, hb⟩ := tl_edge h (show p < 2 * l.length by omega)
  have i1 := ih (by omega) v w hv hw
  have i2 := ih (by omega) a b (by omega) (by omega)
  have h2a := h2 a (by omega)
  unfold mat at i1 i2 ⊢
  unfold adjm bump
  rw [ea, eb, Int.toNat_natCast, Int.toNat_natCast, rl_set (by omega)]
  by_cases e : v = a
  ·rw [if_pos e, rd_set (by omega)]
   by_cases e2 : w = b
   ·rw [if_pos e2, wrap_id (by omega) (by omega)]
    omega
   ·rw [if_neg e2]
    rw [e] at i1
    omega
  ·rw [if_neg e]
   omega

/-- The graph's adjacency numbers and degrees. -/
def am (l : List (List Int)) (n : Nat) : Nat → Nat → Int := mat (adjm l n (2 * l.length))
def dm (l : List (List Int)) (v : Nat) : Int := ((cnt l (v : Int) l.length : Nat) : Int)

def vm (l : List (List Int)) (n : Nat) : Nat → Nat → Int := vf n (am l n) (dm l)

theorem vf_small (i k : Nat) (hi : i < n.toNat + n.toNat) (hk : k < n.toNat + n.toNat) : wrap64 (vm l n.toNat i k) = vm l n.toNat i k := by
 obtain ⟨g1, g2, g3⟩ := graph_small h
 have hd := cnt_le l (i : Int) l.length
 unfold vm vf
 split
 ·split
  ·next c1 c2 =>
   have := adjm_bound h (2 * l.length) (Nat.le_refl _) i k c1 c2
   unfold am
   exact wrap_id (by omega) (by omega)
  ·split
   ·unfold dm
    exact wrap_id (by omega) (by omega)
   ·exact wrap_id (by decide) (by decide)
 ·split
  ·exact wrap_id (by decide) (by decide)
  ·exact wrap_id (by decide) (by decide)

theorem row_above (i : Nat) (hi : i < n.toNat) : (rd_L1 (adjm l n.toNat (2 * l.length)) (i : Int) ++ List.replicate n.toNat 0).set (n.toNat + i) (wrap64 (1 - ((cnt l (i : Int) l.length : Nat) : Int))) = rowOf (n.toNat + n.toNat) (vm l n.toNat i) := by
 obtain ⟨g1, g2, g3⟩ := graph_small h
 obtain ⟨h1, h2⟩ := adj_form h (2 * l.length) (Nat.le_refl _)
 have h2i := h2 i hi
 have hd := cnt_le l (i : Int) l.length
 refine list_ext_rd (by simp [rowOf_length, h2i]) (fun j hj => ?_)
 simp only [List.length_set, List.length_append, List.length_replicate, h2i] at hj
 rw [rd_set (by simp [h2i]; omega), rowOf_rd _ hj, rd_append_zeros]
 unfold vm vf
 rw [if_pos hi]
 by_cases c : j = n.toNat + i
 ·rw [if_pos c, if_neg (by omega), if_pos (by omega), wrap_id (by omega) (by omega)]
  rfl
 ·rw [if_neg c]
  by_cases c2 : j < n.toNat
  ·rw [if_pos c2]
   rfl
  ·rw [if_neg c2, if_neg (by omega), rd_ge (by omega)]

omit h in
theorem row_below (m i : Nat) (hi : i < m) (A : Nat → Nat → Int) (D : Nat → Int) : (List.replicate (m + m) (0 : Int)).set i 1 = rowOf (m + m) (vf m A D (m + i)) := by
 rw [← rowOf_zero, rowOf_set _ _ (by omega)]
 refine rowOf_congr (fun j hj => ?_)
 unfold vf
 rw [if_neg (show ¬ m + i < m by omega), Nat.add_sub_cancel_left]

theorem spec_vf_low : ∀ (d i : Nat), i + d = n.toNat → Ev (fun k => spec_VertexFactor.l1 k ((List.range (n.toNat + i)).map (fun r => rowOf (n.toNat + n.toNat) (vm l n.toNat r))) (i : Int) n l) (trimN (chL (n.toNat + n.toNat) (vm l n.toNat) (n.toNat + n.toNat + 1)) (n.toNat + n.toNat + 1), 0) := by
 obtain ⟨g1, g2, g3⟩ := graph_small h
 intro d
 induction d with
 | zero =>
  intro i hi
  obtain rfl : i = n.toNat := by omega
  have hq : Sq (n.toNat + n.toNat) (ofFn (n.toNat + n.toNat) (vm l n.toNat)) := Sq_ofFn _ _
  have hb := berkowitz (n.toNat + n.toNat) (by omega) (ofFn (n.toNat + n.toNat) (vm l n.toNat)) hq (fun i j hi hj => by rw [ofFn_mat _ hi hj]; exact vf_small h i j hi hj)
  have hc : chL (n.toNat + n.toNat) (mat (ofFn (n.toNat + n.toNat) (vm l n.toNat))) (n.toNat + n.toNat + 1) = chL (n.toNat + n.toNat) (vm l n.toNat) (n.toNat + n.toNat + 1) := by
   unfold chL
   refine rowOf_congr (fun m hm => ?_)
   rw [show ch (n.toNat + n.toNat) (mat (ofFn (n.toNat + n.toNat) (vm l n.toNat))) m = ch (n.toNat + n.toNat) (vm l n.toNat) m from ?_]
   have hu : ∀ u : Int, det (n.toNat + n.toNat) (xu (mat (ofFn (n.toNat + n.toNat) (vm l n.toNat))) u) = det (n.toNat + n.toNat) (fun i k => idm i k + u * ng (vm l n.toNat) i k) := fun u => det_congr _ _ _ (fun i k hi hk => by
    unfold xu ng
    rw [ofFn_mat _ hi hk])
   exact ch_of (n.toNat + n.toNat) _ idm (ng (vm l n.toNat)) hu m
  rw [hc] at hb
  refine Ev.succ ?_; simp only [spec_VertexFactor.l1]
  refine Ev.neg (by omega) (Ev.bind hb (Ev.now _))
 | succ d ih =>
  intro i hi
  have h1 := ih (i + 1) (by omega)
  rw [show n.toNat + (i + 1) = n.toNat + i + 1 by omega, map_range_succ, show rowOf (n.toNat + n.toNat) (vm l n.toNat (n.toNat + i)) = _ from (row_below n.toNat i (by omega) (am l n.toNat) (dm l)).symm] at h1
  refine Ev.succ ?_; simp only [spec_VertexFactor.l1]
  rw [wrap_id (x := 2 * n) (by omega) (by omega), show (2 * n).toNat = n.toNat + n.toNat by omega, wrap_succ (i := i) (by omega), Int.toNat_natCast]
  refine Ev.pos (by omega) (Ev.pos (by omega) (Ev.pos (by omega) (Ev.bind (Ev.now _) ?_)))
  exact Ev.pos (by omega) (Ev.pos (by rw [List.length_replicate]; omega) (Ev.pos (by simp; omega) h1))

theorem spec_vf_high : ∀ (d i : Nat), i + d = n.toNat → Ev (fun k => spec_VertexFactor.l0 k (adjm l n.toNat (2 * l.length)) ((List.range i).map (fun r => rowOf (n.toNat + n.toNat) (vm l n.toNat r))) (i : Int) n l) (trimN (chL (n.toNat + n.toNat) (vm l n.toNat) (n.toNat + n.toNat + 1)) (n.toNat + n.toNat + 1), 0) := by
 obtain ⟨g1, g2, g3⟩ := graph_small h
 obtain ⟨f1, f2⟩ := adj_form h (2 * l.length) (Nat.le_refl _)
 intro d
 induction d with
 | zero =>
  intro i hi
  obtain rfl : i = n.toNat := by omega
  have h1 := spec_vf_low h n.toNat 0 (by omega)
  rw [Nat.add_zero] at h1
  refine Ev.succ ?_; simp only [spec_VertexFactor.l0]
  exact Ev.neg (by omega) h1
 | succ d ih =>
  intro i hi
  have h1 := ih (i + 1) (by omega)
  have hr := f2 i (by omega)
  have hdg : Ev (fun k => spec_l01Degree.f k n l (i : Int)) ((cnt l (i : Int) l.length : Nat) : Int) := spec_degree l h (i : Int) l.length 0 (by omega)
  rw [map_range_succ, ← row_above h i (by omega)] at h1
  refine Ev.succ ?_; simp only [spec_VertexFactor.l0]
  refine Ev.pos (by omega) (Ev.pos (by omega) (Ev.pos (by omega) (Ev.bind (Ev.eq (specOwn _ (by omega))) (Ev.pos (by omega) (Ev.pos (by omega) (Ev.bind (Ev.now _) (Ev.bind hdg ?_)))))))
  rw [wrap_id (x := n + (i : Int)) (by omega) (by omega), show (n + (i : Int)).toNat = n.toNat + i by omega, wrap_succ (i := i) (by omega)]
  exact Ev.pos (by omega) (Ev.pos (by simp only [List.length_append, List.length_replicate]; omega) (Ev.pos (by simp; omega) h1))

/-- The program's cells. -/
def cell (l : List (List Int)) (n i k : Nat) : List Int := [c0 i k, c1 (am l n) i k, c2 (dm l) i k]
def cells (l : List (List Int)) (n i m : Nat) : List (List Int) := (List.range m).map (cell l n i)
def cellRows (l : List (List Int)) (n m : Nat) : List (List (List Int)) := (List.range m).map (fun i => cells l n i n)

omit h in
theorem cells_rows : Rows3 n.toNat (cellRows l n.toNat n.toNat) c0 (c1 (am l n.toNat)) (c2 (dm l)) := by
 refine ⟨by simp [cellRows], fun r hr => ?_⟩
 have e : rd_L2 (cellRows l n.toNat n.toNat) (r : Int) = cells l n.toNat r n.toNat := by
  simp [rd_L2, cellRows, List.getD_eq_getElem?_getD, hr]
 rw [e]
 refine ⟨by simp [cells], fun c hc => ?_⟩
 rw [rl_lt (by simp only [cells, List.length_map, List.length_range]; exact hc)]
 simp [cells, cell]

theorem impl_vf_row (i : Nat) (hi : i < n.toNat) (R : List Int) (hk : Ev (fun k => impl_Graph_vertexFactor.l0 k (cellRows l n.toNat (i + 1)) (degs l n.toNat) (adjm l n.toNat (2 * l.length)) ((adjm l n.toNat (2 * l.length)).length : Int) ((i + 1 : Nat) : Int)) R) :
  ∀ (d c : Nat), c + d = n.toNat → Ev (fun k => impl_Graph_vertexFactor.l1 k (cellRows l n.toNat i) (degs l n.toNat) (i : Int) (cells l n.toNat i c) (adjm l n.toNat (2 * l.length)) ((adjm l n.toNat (2 * l.length)).length : Int) (i : Int) (rd_L1 (adjm l n.toNat (2 * l.length)) (i : Int)) ((rd_L1 (adjm l n.toNat (2 * l.length)) (i : Int)).length : Int) (c : Int)) R := by
 obtain ⟨g1, g2, g3⟩ := graph_small h
 obtain ⟨f1, f2⟩ := adj_form h (2 * l.length) (Nat.le_refl _)
 have hr := f2 i hi
 have hdl := degs_length l n.toNat
 intro d
 induction d with
 | zero =>
  intro c hc
  obtain rfl : c = n.toNat := by omega
  rw [show cellRows l n.toNat (i + 1) = _ from map_range_succ _ _] at hk
  refine Ev.succ ?_; simp only [impl_Graph_vertexFactor.l1]
  rw [wrap_succ (i := i) (by omega)]
  exact Ev.neg (by omega) (Ev.pos (by simp [cellRows]; omega) hk)
 | succ d ih =>
  intro c hc
  have h1 := ih (c + 1) (by omega)
  rw [show cells l n.toNat i (c + 1) = cells l n.toNat i c ++ [cell l n.toNat i c] from map_range_succ _ _] at h1
  have hb := adjm_bound h (2 * l.length) (Nat.le_refl _) i c hi (by omega)
  have hd := cnt_le l (i : Int) l.length
  have hdi : rd (degs l n.toNat) (i : Int) = ((cnt l (i : Int) l.length : Nat) : Int) := rd_map_range _ hi
  have hcl : (cells l n.toNat i c).length = c := by simp [cells]
  unfold mat at hb
  refine Ev.succ ?_; simp only [impl_Graph_vertexFactor.l1]
  rw [wrap_succ (i := c) (by omega), hdi, wrap_id (x := -(rd (rd_L1 (adjm l n.toNat (2 * l.length)) (i : Int)) (c : Int))) (by omega) (by omega), wrap_id (x := ((cnt l (i : Int) l.length : Nat) : Int) - 1) (by omega) (by omega)]
  refine Ev.pos (by omega) (Ev.pos (by omega) (Ev.pos (by omega) ?_))
  by_cases e : i = c
  ·have e2 : cell l n.toNat i c = [1, -(rd (rd_L1 (adjm l n.toNat (2 * l.length)) (i : Int)) (c : Int)), ((cnt l (i : Int) l.length : Nat) : Int) - 1] := by
    unfold cell c0 c1 c2 am dm mat
    rw [if_pos e, if_pos e]
   rw [e2] at h1
   exact Ev.pos (by omega) (Ev.pos (by omega) (Ev.pos (by omega) (Ev.pos (by omega) h1)))
  ·have e2 : cell l n.toNat i c = [0, -(rd (rd_L1 (adjm l n.toNat (2 * l.length)) (i : Int)) (c : Int)), 0] := by
    unfold cell c0 c1 c2 am mat
    rw [if_neg e, if_neg e]
   rw [e2] at h1
   exact Ev.neg (by omega) (Ev.pos (by omega) h1)

theorem impl_vf : Ev (fun k => impl_Graph_vertexFactor.f k n l) (trimN (chL (n.toNat + n.toNat) (vm l n.toNat) (n.toNat + n.toNat + 1)) (n.toNat + n.toNat + 1)) := by
 obtain ⟨g1, g2, g3⟩ := graph_small h
 obtain ⟨f1, f2⟩ := adj_form h (2 * l.length) (Nat.le_refl _)
 have hp := polynomials n.toNat (cellRows l n.toNat n.toNat) c0 (c1 (am l n.toNat)) (c2 (dm l)) (by omega) cells_rows (trimN (chL (n.toNat + n.toNat) (vm l n.toNat) (n.toNat + n.toNat + 1)) (n.toNat + n.toNat + 1)) (fun ys hy hr => by
  have hl : (chL (n.toNat + n.toNat) (vm l n.toNat) (n.toNat + n.toNat + 1)).length = n.toNat + n.toNat + 1 := rowOf_length _ _
  have e : trimN ys ys.length = trimN (chL (n.toNat + n.toNat) (vm l n.toNat) (n.toNat + n.toNat + 1)) (n.toNat + n.toNat + 1) := by
   conv => rhs; arg 2; rw [← hl]
   refine trimN_rep (fun j => ?_)
   rw [hr j, ← vf_coef n.toNat (am l n.toNat) (dm l) (by omega) j]
   by_cases c : j < n.toNat + n.toNat + 1
   ·exact (rowOf_rd (fun m => wrap64 (ch (n.toNat + n.toNat) (vm l n.toNat) m)) c).symm
   ·rw [rd_ge (by omega), show ch (n.toNat + n.toNat) (vf n.toNat (am l n.toNat) (dm l)) j = 0 from dc_high (n.toNat + n.toNat) _ _ (by omega), wrap_id (by decide) (by decide)]
  rw [← e]
  exact implTrim ys (by omega))
 have hl0 : ∀ (d i : Nat), i + d = n.toNat → Ev (fun k => impl_Graph_vertexFactor.l0 k (cellRows l n.toNat i) (degs l n.toNat) (adjm l n.toNat (2 * l.length)) ((adjm l n.toNat (2 * l.length)).length : Int) (i : Int)) (trimN (chL (n.toNat + n.toNat) (vm l n.toNat) (n.toNat + n.toNat + 1)) (n.toNat + n.toNat + 1)) := by
  intro d
  induction d with
  | zero =>
   intro i hi
   obtain rfl : i = n.toNat := by omega
   refine Ev.succ ?_; simp only [impl_Graph_vertexFactor.l0]
   exact Ev.neg (by omega) (Ev.bind hp (Ev.now _))
  | succ d ih =>
   intro i hi
   have h1 := impl_vf_row h i (by omega) _ (ih (i + 1) (by omega)) n.toNat 0 (by omega)
   refine Ev.succ ?_; simp only [impl_Graph_vertexFactor.l0]
   exact Ev.pos (by omega) (Ev.pos (by omega) (Ev.pos (by omega) h1))
 have hd : Ev (fun k => impl_Graph_degrees.f k n l) (degs l n.toNat) := by
  unfold impl_Graph_degrees.f
  repeat (first | with_reducible exact Ev.now _ | dsimp only | refine Ev.pos (by first | omega | rfl | assumption | decide) ?_ | refine Ev.neg (by first | omega | assumption | exact Bool.false_ne_true | exact fun e => absurd e (by decide)) ?_ | simp only [bne_self_eq_false, Bool.not_true, Bool.not_false, List.length_cons, List.length_nil] | rw [wrap_id (by omega) (by omega)] | ((with_reducible refine Ev.eq (congrArg some ?_)); rfl))
  refine impl_degrees l h l.length 0 _ (by omega) (by simp) (fun v _ => ?_)
  rw [rd_replicate]
  rfl
 unfold impl_Graph_vertexFactor.f
 exact Ev.bind hd (Ev.bind (impl_adj h) (hl0 n.toNat 0 (by omega)))

end

theorem vertexFactor_same (n : Int) (l : List (List Int)) (hl : Mod l) : ∃ r : List Int × Int, r.1.length ≤ 1048576 ∧ Ev (fun k => spec_VertexFactor.f k n l) r ∧ Ev (fun k => impl_VertexFactor.f k n l) r := by
 unfold spec_VertexFactor.f impl_VertexFactor.f
 have h1 := specIs n l hl
 have h2 := implIsGraph n l hl
 by_cases hg : isGraph n l = true
 ·rw [hg] at h1 h2
  obtain ⟨g1, g2, g3⟩ := graph_small hg
  refine ⟨(trimN (chL (n.toNat + n.toNat) (vm l n.toNat) (n.toNat + n.toNat + 1)) (n.toNat + n.toNat + 1), 0), ?_, ?_, ?_⟩
  ·have := trimN_length (chL (n.toNat + n.toNat) (vm l n.toNat) (n.toNat + n.toNat + 1)) (n.toNat + n.toNat + 1)
   have e : (chL (n.toNat + n.toNat) (vm l n.toNat) (n.toNat + n.toNat + 1)).length = n.toNat + n.toNat + 1 := rowOf_length _ _
   show (trimN _ _).length ≤ _
   omega
  ·exact Ev.bind h1 (Ev.pos rfl (Ev.bind (spec_adj hg) (spec_vf_high hg n.toNat 0 (by omega))))
  ·exact Ev.bind h2 (Ev.pos rfl (Ev.bind (impl_vf hg) (Ev.now _)))
 ·rw [Bool.not_eq_true] at hg
  rw [hg] at h1 h2
  refine ⟨([], 1), by simp, ?_, ?_⟩
  ·repeat (first | with_reducible exact Ev.now _ | dsimp only | with_reducible refine Ev.bind (h1) ?_ | refine Ev.pos (by first | omega | rfl | assumption | decide) ?_ | refine Ev.neg (by first | omega | assumption | exact Bool.false_ne_true | exact fun e => absurd e (by decide)) ?_ | simp only [bne_self_eq_false, Bool.not_true, Bool.not_false, List.length_cons, List.length_nil] | rw [wrap_id (by omega) (by omega)] | with_reducible exact (h1) | ((with_reducible refine Ev.eq (congrArg some ?_)); rfl))
  ·repeat (first | with_reducible exact Ev.now _ | dsimp only | with_reducible refine Ev.bind (h2) ?_ | refine Ev.pos (by first | omega | rfl | assumption | decide) ?_ | refine Ev.neg (by first | omega | assumption | exact Bool.false_ne_true | exact fun e => absurd e (by decide)) ?_ | simp only [bne_self_eq_false, Bool.not_true, Bool.not_false, List.length_cons, List.length_nil] | rw [wrap_id (by omega) (by omega)] | with_reducible exact (h2) | ((with_reducible refine Ev.eq (congrArg some ?_)); rfl))

theorem FnExactVertexFactor : laws_FnExactVertexFactor.Pure := by
 intro n l _ hl hr
 refine Ev.rounds ?_
 unfold laws_FnExactVertexFactor.f
 refine Ev.ex (szGraph n l hl hr) (fun t ht => ?_)
 rcases ht with ht | ht
 ·repeat (first | with_reducible exact Ev.now _ | dsimp only | refine Ev.pos (by first | omega | rfl | assumption | decide) ?_ | refine Ev.neg (by first | omega | assumption | exact Bool.false_ne_true | exact fun e => absurd e (by decide)) ?_ | simp only [bne_self_eq_false, Bool.not_true, Bool.not_false, List.length_cons, List.length_nil] | rw [wrap_id (by omega) (by omega)] | ((with_reducible refine Ev.eq (congrArg some ?_)); rfl))
 by_cases h0 : t < 0
 ·repeat (first | with_reducible exact Ev.now _ | dsimp only | refine Ev.pos (by first | omega | rfl | assumption | decide) ?_ | refine Ev.neg (by first | omega | assumption | exact Bool.false_ne_true | exact fun e => absurd e (by decide)) ?_ | simp only [bne_self_eq_false, Bool.not_true, Bool.not_false, List.length_cons, List.length_nil] | rw [wrap_id (by omega) (by omega)] | ((with_reducible refine Ev.eq (congrArg some ?_)); rfl))
 obtain ⟨r, hr, hs, hi⟩ := vertexFactor_same n l ht
 obtain ⟨q, hq, hq0, hq1⟩ := markGraph n l ht
 repeat (first | with_reducible exact Ev.now _ | dsimp only | with_reducible refine Ev.bind (toGraph n l ht) ?_ | with_reducible refine Ev.bind (hs) ?_ | with_reducible refine Ev.bind (hi) ?_ | with_reducible refine Ev.bind (eqInt64S_self r.1 hr) ?_ | with_reducible refine Ev.bind (eqGraph_self n l ht) ?_ | with_reducible refine Ev.bind (hq) ?_ | with_reducible refine Ev.bind (markInt64S r.1 hr 1 (by omega) (by omega)) ?_ | with_reducible refine Ev.bind (heldInt64S 1 r.1.length hr (by omega) (by omega)) ?_ | refine Ev.pos (by first | omega | rfl | assumption | decide) ?_ | refine Ev.neg (by first | omega | assumption | exact Bool.false_ne_true | exact fun e => absurd e (by decide)) ?_ | simp only [bne_self_eq_false, Bool.not_true, Bool.not_false, List.length_cons, List.length_nil] | rw [wrap_id (by omega) (by omega)] | with_reducible exact (toGraph n l ht) | with_reducible exact (hs) | with_reducible exact (hi) | with_reducible exact (eqInt64S_self r.1 hr) | with_reducible exact (eqGraph_self n l ht) | with_reducible exact (hq) | with_reducible exact (markInt64S r.1 hr 1 (by omega) (by omega)) | with_reducible exact (heldInt64S 1 r.1.length hr (by omega) (by omega)) | ((with_reducible refine Ev.eq (congrArg some ?_)); rfl))
end Go.Proofs.Ytipigagbgpoecaa.Pure
