/- The plain proofs for this law. -/
import Derived.Test.YtipigagbgpoecaaC2
import Derived.Test.YtipigagbgpoecaaAux
namespace Go.Proofs.Ytipigagbgpoecaa.Pure
open Go.RowKit Go.Proofs.Ytipigagbgpoecaa.G Go.Proofs.YtipigagbgpoecaaW.PrintWords Go.Proofs.YtipigagbgpoecaaW.PrintLast Go.Proofs.YtipigagbgpoecaaW.PrintMore Go.Proofs.Ytipigagbgpoecaa.Aux
set_option linter.unusedVariables false
set_option linter.unusedSimpArgs false

theorem toInt64S_loop (l : List Int) (hl : l.length ≤ 1048576) : ∀ (d i : Nat) (ys : List Int), i + d = l.length → ys.length = l.length → ys.take i = l.take i →
  Ev (fun k => laws_toInt64S.l0 k l ys (i : Int)) l := by
 intro d
 induction d with
 | zero =>
  intro i ys hi hy ht
  refine Ev.succ ?_; simp only [laws_toInt64S.l0]
  repeat (first | with_reducible exact Ev.now _ | dsimp only | refine Ev.pos (by first | omega | rfl | assumption | decide) ?_ | refine Ev.neg (by first | omega | assumption | exact Bool.false_ne_true | exact fun e => absurd e (by decide)) ?_ | simp only [bne_self_eq_false, Bool.not_true, Bool.not_false, List.length_cons, List.length_nil] | rw [wrap_id (by omega) (by omega)] | ((with_reducible refine Ev.eq (congrArg some ?_)); rfl))
  exact Ev.eq (congrArg some (eq_of_take hy (by omega) ht))
 | succ d ih =>
  intro i ys hi hy ht
  refine Ev.succ ?_; simp only [laws_toInt64S.l0]
  rw [wrap_succ (by omega)]
  repeat (first | with_reducible exact Ev.now _ | dsimp only | refine Ev.pos (by first | omega | rfl | assumption | decide) ?_ | refine Ev.neg (by first | omega | assumption | exact Bool.false_ne_true | exact fun e => absurd e (by decide)) ?_ | simp only [bne_self_eq_false, Bool.not_true, Bool.not_false, List.length_cons, List.length_nil] | rw [wrap_id (by omega) (by omega)] | ((with_reducible refine Ev.eq (congrArg some ?_)); rfl))
  exact ih (i + 1) _ (by omega) (by simpa using hy) (take_set_succ hy (by omega) (rd_lt (by omega)) ht)

theorem toInt64S (l : List Int) (hl : l.length ≤ 1048576) : Ev (fun k => laws_toInt64S.f k l) l := by
 unfold laws_toInt64S.f
 repeat (first | with_reducible exact Ev.now _ | dsimp only | refine Ev.pos (by first | omega | rfl | assumption | decide) ?_ | refine Ev.neg (by first | omega | assumption | exact Bool.false_ne_true | exact fun e => absurd e (by decide)) ?_ | simp only [bne_self_eq_false, Bool.not_true, Bool.not_false, List.length_cons, List.length_nil] | rw [wrap_id (by omega) (by omega)] | ((with_reducible refine Ev.eq (congrArg some ?_)); rfl))
 exact toInt64S_loop l hl l.length 0 _ (by omega) (by simp) (by simp)

theorem eqInt64S_loop (a b : List Int) (hl : a.length ≤ 1048576) (hab : a.length = b.length) : ∀ (d i : Nat), i + d = a.length →
  Ev (fun k => laws_eqInt64S.l0 k a b (i : Int)) (decide (a.drop i = b.drop i)) := by
 intro d
 induction d with
 | zero =>
  intro i hi
  refine Ev.succ ?_; simp only [laws_eqInt64S.l0]
  rw [List.drop_eq_nil_of_le (by omega), List.drop_eq_nil_of_le (by omega)]
  repeat (first | with_reducible exact Ev.now _ | dsimp only | refine Ev.pos (by first | omega | rfl | assumption | decide) ?_ | refine Ev.neg (by first | omega | assumption | exact Bool.false_ne_true | exact fun e => absurd e (by decide)) ?_ | simp only [bne_self_eq_false, Bool.not_true, Bool.not_false, List.length_cons, List.length_nil] | rw [wrap_id (by omega) (by omega)] | ((with_reducible refine Ev.eq (congrArg some ?_)); rfl))
 | succ d ih =>
  intro i hi
  refine Ev.succ ?_; simp only [laws_eqInt64S.l0]
  rw [List.drop_eq_getElem_cons (by omega : i < a.length), List.drop_eq_getElem_cons (by omega : i < b.length), wrap_succ (by omega)]
  by_cases e : rd a i = rd b i
  ·repeat (first | with_reducible exact Ev.now _ | dsimp only | refine Ev.pos (by first | omega | rfl | assumption | decide) ?_ | refine Ev.neg (by first | omega | assumption | exact Bool.false_ne_true | exact fun e => absurd e (by decide)) ?_ | simp only [bne_self_eq_false, Bool.not_true, Bool.not_false, List.length_cons, List.length_nil] | rw [wrap_id (by omega) (by omega)] | ((with_reducible refine Ev.eq (congrArg some ?_)); rfl))
   have := ih (i + 1) (by omega)
   rw [rd_lt (by omega), rd_lt (by omega)] at e
   rw [e, decide_cons]
   exact this
  ·rw [decide_eq_false (fun h => e (by rw [rd_lt (by omega), rd_lt (by omega)]; exact (List.cons.inj h).1))]
   repeat (first | with_reducible exact Ev.now _ | dsimp only | refine Ev.pos (by first | omega | rfl | assumption | decide) ?_ | refine Ev.neg (by first | omega | assumption | exact Bool.false_ne_true | exact fun e => absurd e (by decide)) ?_ | simp only [bne_self_eq_false, Bool.not_true, Bool.not_false, List.length_cons, List.length_nil] | rw [wrap_id (by omega) (by omega)] | ((with_reducible refine Ev.eq (congrArg some ?_)); rfl))

theorem eqInt64S (a b : List Int) (hl : a.length ≤ 1048576) : Ev (fun k => laws_eqInt64S.f k a b) (decide (a = b)) := by
 unfold laws_eqInt64S.f
 by_cases h : a.length = b.length
 ·repeat (first | with_reducible exact Ev.now _ | dsimp only | refine Ev.pos (by first | omega | rfl | assumption | decide) ?_ | refine Ev.neg (by first | omega | assumption | exact Bool.false_ne_true | exact fun e => absurd e (by decide)) ?_ | simp only [bne_self_eq_false, Bool.not_true, Bool.not_false, List.length_cons, List.length_nil] | rw [wrap_id (by omega) (by omega)] | ((with_reducible refine Ev.eq (congrArg some ?_)); rfl))
  exact eqInt64S_loop a b hl h a.length 0 (by omega)
 ·rw [decide_eq_false (fun e => h (by rw [e]))]
  repeat (first | with_reducible exact Ev.now _ | dsimp only | refine Ev.pos (by first | omega | rfl | assumption | decide) ?_ | refine Ev.neg (by first | omega | assumption | exact Bool.false_ne_true | exact fun e => absurd e (by decide)) ?_ | simp only [bne_self_eq_false, Bool.not_true, Bool.not_false, List.length_cons, List.length_nil] | rw [wrap_id (by omega) (by omega)] | ((with_reducible refine Ev.eq (congrArg some ?_)); rfl))

theorem eqInt64S_self (a : List Int) (hl : a.length ≤ 1048576) : Ev (fun k => laws_eqInt64S.f k a a) true :=
 Ev.conv (eqInt64S a a hl) (by simp)
theorem rl_lt {xs : List (List Int)} {i : Nat} (h : i < xs.length) : rd_L1 xs (i : Int) = xs[i] := by
 simp [rd_L1, List.getD_eq_getElem?_getD, h]

/-- Rows of which each, and their number, is of a moderate size. -/
def Mod (l : List (List Int)) : Prop := l.length ≤ 1048576 ∧ ∀ r ∈ l, r.length ≤ 1048576

theorem Mod.row {l : List (List Int)} (h : Mod l) {i : Nat} (hi : i < l.length) : l[i].length ≤ 1048576 := h.2 _ (List.getElem_mem hi)

theorem szInt64S (l : List Int) (a : Int) (h0 : 0 ≤ a) (h1 : a ≤ 1048576) (hl : l.length ≤ 9223372036854775807) : ∃ t, laws_szInt64S.f l a = some t ∧ (t < 0 ∨ (l.length ≤ 1048576 ∧ 0 ≤ t ∧ t ≤ a)) := by
 unfold laws_szInt64S.f
 rw [wrap_id (by omega) (by omega)]
 by_cases h : a - (l.length : Int) < 0
 ·exact ⟨-1, if_pos h, Or.inl (by omega)⟩
 ·exact ⟨_, if_neg h, Or.inr (by omega)⟩

theorem szInt64SS_loop (l : List (List Int)) (hl : l.length ≤ 1048576) (hr : ∀ r ∈ l, r.length ≤ 9223372036854775807) : ∀ (d i : Nat) (a : Int), i + d = l.length → 0 ≤ a → a ≤ 1048576 → (∀ j, (h : j < l.length) → j < i → l[j].length ≤ 1048576) →
  ∃ t, Ev (fun k => laws_szInt64SS.l0 k l a (i : Int)) t ∧ (t < 0 ∨ (Mod l ∧ 0 ≤ t ∧ t ≤ 1048576)) := by
 intro d
 induction d with
 | zero =>
  intro i a hi h0 h1 hm
  refine ⟨a, ?_, Or.inr ⟨⟨hl, fun r h => ?_⟩, h0, h1⟩⟩
  ·refine Ev.succ ?_; simp only [laws_szInt64SS.l0]
   repeat (first | with_reducible exact Ev.now _ | dsimp only | refine Ev.pos (by first | omega | rfl | assumption | decide) ?_ | refine Ev.neg (by first | omega | assumption | exact Bool.false_ne_true | exact fun e => absurd e (by decide)) ?_ | simp only [bne_self_eq_false, Bool.not_true, Bool.not_false, List.length_cons, List.length_nil] | rw [wrap_id (by omega) (by omega)] | ((with_reducible refine Ev.eq (congrArg some ?_)); rfl))
  ·obtain ⟨j, hj, rfl⟩ := List.getElem_of_mem h
   exact hm j hj (by omega)
 | succ d ih =>
  intro i a hi h0 h1 hm
  obtain ⟨t, ht, hc⟩ := szInt64S (l[i]'(by omega)) a h0 h1 (hr _ (List.getElem_mem _))
  rw [← rl_lt (by omega)] at ht
  rcases hc with hc | ⟨hc, hc0, hc1⟩
  ·refine ⟨-1, ?_, Or.inl (by omega)⟩
   refine Ev.succ ?_; simp only [laws_szInt64SS.l0]
   repeat (first | with_reducible exact Ev.now _ | dsimp only | with_reducible refine Ev.bind (Ev.eq ht) ?_ | refine Ev.pos (by first | omega | rfl | assumption | decide) ?_ | refine Ev.neg (by first | omega | assumption | exact Bool.false_ne_true | exact fun e => absurd e (by decide)) ?_ | simp only [bne_self_eq_false, Bool.not_true, Bool.not_false, List.length_cons, List.length_nil] | rw [wrap_id (by omega) (by omega)] | with_reducible exact (Ev.eq ht) | ((with_reducible refine Ev.eq (congrArg some ?_)); rfl))
  ·obtain ⟨t', h1', h2'⟩ := ih (i + 1) t (by omega) hc0 (by omega) (fun j hj hji => by
    by_cases e : j = i
    ·subst e; exact hc
    ·exact hm j hj (by omega))
   refine ⟨t', ?_, h2'⟩
   refine Ev.succ ?_; simp only [laws_szInt64SS.l0]
   rw [wrap_succ (by omega)]
   repeat (first | with_reducible exact Ev.now _ | dsimp only | with_reducible refine Ev.bind (Ev.eq ht) ?_ | refine Ev.pos (by first | omega | rfl | assumption | decide) ?_ | refine Ev.neg (by first | omega | assumption | exact Bool.false_ne_true | exact fun e => absurd e (by decide)) ?_ | simp only [bne_self_eq_false, Bool.not_true, Bool.not_false, List.length_cons, List.length_nil] | rw [wrap_id (by omega) (by omega)] | with_reducible exact (Ev.eq ht) | ((with_reducible refine Ev.eq (congrArg some ?_)); rfl))
   exact h1'

theorem szInt64SS (l : List (List Int)) (a : Int) (h0 : 0 ≤ a) (h1 : a ≤ 1048576) (hl : l.length ≤ 9223372036854775807) (hr : ∀ r ∈ l, r.length ≤ 9223372036854775807) : ∃ t, Ev (fun k => laws_szInt64SS.f k l a) t ∧ (t < 0 ∨ (Mod l ∧ 0 ≤ t ∧ t ≤ 1048576)) := by
 unfold laws_szInt64SS.f
 rw [wrap_id (by omega) (by omega)]
 by_cases h : a - (l.length : Int) < 0
 ·refine ⟨-1, ?_, Or.inl (by omega)⟩
  repeat (first | with_reducible exact Ev.now _ | dsimp only | refine Ev.pos (by first | omega | rfl | assumption | decide) ?_ | refine Ev.neg (by first | omega | assumption | exact Bool.false_ne_true | exact fun e => absurd e (by decide)) ?_ | simp only [bne_self_eq_false, Bool.not_true, Bool.not_false, List.length_cons, List.length_nil] | rw [wrap_id (by omega) (by omega)] | ((with_reducible refine Ev.eq (congrArg some ?_)); rfl))
 ·obtain ⟨t, h1, h2⟩ := szInt64SS_loop l (by omega) hr l.length 0 (a - (l.length : Int)) (by omega) (by omega) (by omega) (fun j _ hj => by omega)
  refine ⟨t, ?_, h2⟩
  repeat (first | with_reducible exact Ev.now _ | dsimp only | refine Ev.pos (by first | omega | rfl | assumption | decide) ?_ | refine Ev.neg (by first | omega | assumption | exact Bool.false_ne_true | exact fun e => absurd e (by decide)) ?_ | simp only [bne_self_eq_false, Bool.not_true, Bool.not_false, List.length_cons, List.length_nil] | rw [wrap_id (by omega) (by omega)] | ((with_reducible refine Ev.eq (congrArg some ?_)); rfl))
  exact h1

theorem szGraph (n : Int) (l : List (List Int)) (hl : l.length ≤ maxLen) (hr : ∀ r ∈ l, r.length ≤ maxLen ∧ ∀ y ∈ r, (Lit.int .i64 y).wf = true) : ∃ t, Ev (fun k => laws_szGraph.f k n l 1048576) t ∧ (t < 0 ∨ Mod l) := by
 obtain ⟨t, h1, h2⟩ := szInt64SS l 1048576 (by omega) (by omega) (by simp [maxLen] at hl; omega) (fun r h => by have := (hr r h).1; simp [maxLen] at this; omega)
 unfold laws_szGraph.f
 rcases h2 with h2 | ⟨h2, h3, h4⟩
 ·refine ⟨-1, ?_, Or.inl (by omega)⟩
  repeat (first | with_reducible exact Ev.now _ | dsimp only | with_reducible refine Ev.bind (h1) ?_ | refine Ev.pos (by first | omega | rfl | assumption | decide) ?_ | refine Ev.neg (by first | omega | assumption | exact Bool.false_ne_true | exact fun e => absurd e (by decide)) ?_ | simp only [bne_self_eq_false, Bool.not_true, Bool.not_false, List.length_cons, List.length_nil] | rw [wrap_id (by omega) (by omega)] | with_reducible exact (h1) | ((with_reducible refine Ev.eq (congrArg some ?_)); rfl))
 ·refine ⟨t, ?_, Or.inr h2⟩
  repeat (first | with_reducible exact Ev.now _ | dsimp only | with_reducible refine Ev.bind (h1) ?_ | refine Ev.pos (by first | omega | rfl | assumption | decide) ?_ | refine Ev.neg (by first | omega | assumption | exact Bool.false_ne_true | exact fun e => absurd e (by decide)) ?_ | simp only [bne_self_eq_false, Bool.not_true, Bool.not_false, List.length_cons, List.length_nil] | rw [wrap_id (by omega) (by omega)] | with_reducible exact (h1) | ((with_reducible refine Ev.eq (congrArg some ?_)); rfl))

theorem toInt64SS_loop (l : List (List Int)) (hl : Mod l) : ∀ (d i : Nat) (ys : List (List Int)), i + d = l.length → ys.length = l.length → ys.take i = l.take i →
  Ev (fun k => laws_toInt64SS.l0 k l ys (i : Int)) l := by
 have hl1 := hl.1
 intro d
 induction d with
 | zero =>
  intro i ys hi hy ht
  refine Ev.succ ?_; simp only [laws_toInt64SS.l0]
  repeat (first | with_reducible exact Ev.now _ | dsimp only | refine Ev.pos (by first | omega | rfl | assumption | decide) ?_ | refine Ev.neg (by first | omega | assumption | exact Bool.false_ne_true | exact fun e => absurd e (by decide)) ?_ | simp only [bne_self_eq_false, Bool.not_true, Bool.not_false, List.length_cons, List.length_nil] | rw [wrap_id (by omega) (by omega)] | ((with_reducible refine Ev.eq (congrArg some ?_)); rfl))
  exact Ev.eq (congrArg some (eq_of_take hy (by omega) ht))
 | succ d ih =>
  intro i ys hi hy ht
  refine Ev.succ ?_; simp only [laws_toInt64SS.l0]
  rw [wrap_succ (by omega), rl_lt (by omega)]
  repeat (first | with_reducible exact Ev.now _ | dsimp only | with_reducible refine Ev.bind (toInt64S _ (hl.row (by omega))) ?_ | refine Ev.pos (by first | omega | rfl | assumption | decide) ?_ | refine Ev.neg (by first | omega | assumption | exact Bool.false_ne_true | exact fun e => absurd e (by decide)) ?_ | simp only [bne_self_eq_false, Bool.not_true, Bool.not_false, List.length_cons, List.length_nil] | rw [wrap_id (by omega) (by omega)] | with_reducible exact (toInt64S _ (hl.row (by omega))) | ((with_reducible refine Ev.eq (congrArg some ?_)); rfl))
  exact ih (i + 1) _ (by omega) (by simpa using hy) (take_set_succ hy (by omega) rfl ht)

theorem toInt64SS (l : List (List Int)) (hl : Mod l) : Ev (fun k => laws_toInt64SS.f k l) l := by
 have hl1 := hl.1
 unfold laws_toInt64SS.f
 repeat (first | with_reducible exact Ev.now _ | dsimp only | refine Ev.pos (by first | omega | rfl | assumption | decide) ?_ | refine Ev.neg (by first | omega | assumption | exact Bool.false_ne_true | exact fun e => absurd e (by decide)) ?_ | simp only [bne_self_eq_false, Bool.not_true, Bool.not_false, List.length_cons, List.length_nil] | rw [wrap_id (by omega) (by omega)] | ((with_reducible refine Ev.eq (congrArg some ?_)); rfl))
 exact toInt64SS_loop l hl l.length 0 _ (by omega) (by simp) (by simp)

theorem toGraph (n : Int) (l : List (List Int)) (hl : Mod l) : Ev (fun k => laws_toGraph.f k n l) (n, l) := by
 unfold laws_toGraph.f
 repeat (first | with_reducible exact Ev.now _ | dsimp only | with_reducible refine Ev.bind (toInt64SS l hl) ?_ | refine Ev.pos (by first | omega | rfl | assumption | decide) ?_ | refine Ev.neg (by first | omega | assumption | exact Bool.false_ne_true | exact fun e => absurd e (by decide)) ?_ | simp only [bne_self_eq_false, Bool.not_true, Bool.not_false, List.length_cons, List.length_nil] | rw [wrap_id (by omega) (by omega)] | with_reducible exact (toInt64SS l hl) | ((with_reducible refine Ev.eq (congrArg some ?_)); rfl))

theorem eqInt64SS_self_loop (a : List (List Int)) (hl : Mod a) : ∀ (d i : Nat), i + d = a.length →
  Ev (fun k => laws_eqInt64SS.l0 k a a (i : Int)) true := by
 have hl1 := hl.1
 intro d
 induction d with
 | zero =>
  intro i hi
  refine Ev.succ ?_; simp only [laws_eqInt64SS.l0]
  repeat (first | with_reducible exact Ev.now _ | dsimp only | refine Ev.pos (by first | omega | rfl | assumption | decide) ?_ | refine Ev.neg (by first | omega | assumption | exact Bool.false_ne_true | exact fun e => absurd e (by decide)) ?_ | simp only [bne_self_eq_false, Bool.not_true, Bool.not_false, List.length_cons, List.length_nil] | rw [wrap_id (by omega) (by omega)] | ((with_reducible refine Ev.eq (congrArg some ?_)); rfl))
 | succ d ih =>
  intro i hi
  refine Ev.succ ?_; simp only [laws_eqInt64SS.l0]
  rw [rl_lt (by omega), wrap_succ (by omega)]
  repeat (first | with_reducible exact Ev.now _ | dsimp only | with_reducible refine Ev.bind (eqInt64S_self _ (hl.row (by omega))) ?_ | refine Ev.pos (by first | omega | rfl | assumption | decide) ?_ | refine Ev.neg (by first | omega | assumption | exact Bool.false_ne_true | exact fun e => absurd e (by decide)) ?_ | simp only [bne_self_eq_false, Bool.not_true, Bool.not_false, List.length_cons, List.length_nil] | rw [wrap_id (by omega) (by omega)] | with_reducible exact (eqInt64S_self _ (hl.row (by omega))) | ((with_reducible refine Ev.eq (congrArg some ?_)); rfl))
  exact ih (i + 1) (by omega)

theorem eqInt64SS_self (a : List (List Int)) (hl : Mod a) : Ev (fun k => laws_eqInt64SS.f k a a) true := by
 unfold laws_eqInt64SS.f
 repeat (first | with_reducible exact Ev.now _ | dsimp only | refine Ev.pos (by first | omega | rfl | assumption | decide) ?_ | refine Ev.neg (by first | omega | assumption | exact Bool.false_ne_true | exact fun e => absurd e (by decide)) ?_ | simp only [bne_self_eq_false, Bool.not_true, Bool.not_false, List.length_cons, List.length_nil] | rw [wrap_id (by omega) (by omega)] | ((with_reducible refine Ev.eq (congrArg some ?_)); rfl))
 exact eqInt64SS_self_loop a hl a.length 0 (by omega)

theorem eqGraph_self (n : Int) (a : List (List Int)) (hl : Mod a) : Ev (fun k => laws_eqGraph.f k n a n a) true := by
 unfold laws_eqGraph.f
 repeat (first | with_reducible exact Ev.now _ | dsimp only | with_reducible refine Ev.bind (eqInt64SS_self a hl) ?_ | refine Ev.pos (by first | omega | rfl | assumption | decide) ?_ | refine Ev.neg (by first | omega | assumption | exact Bool.false_ne_true | exact fun e => absurd e (by decide)) ?_ | simp only [bne_self_eq_false, Bool.not_true, Bool.not_false, List.length_cons, List.length_nil] | rw [wrap_id (by omega) (by omega)] | with_reducible exact (eqInt64SS_self a hl) | ((with_reducible refine Ev.eq (congrArg some ?_)); rfl))
theorem specIn (a b c : Int) : spec_l01In.f a b c = some (decide (b ≤ a ∧ a ≤ c)) := by
 unfold spec_l01In.f
 by_cases h : b ≤ a
 ·rw [if_pos h]; simp [h]
 ·rw [if_neg h]; simp [h]

theorem implWithin (a b c : Int) : impl_within.f a b c = some (decide (b ≤ a ∧ a ≤ c)) := by
 unfold impl_within.f
 by_cases h : b ≤ a
 ·rw [if_pos h]; simp [h]
 ·rw [if_neg h]; simp [h]

/-- One edge's test. -/
def okEdge (n : Int) (e : List Int) : Bool := decide (e.length = 2) && (decide (0 ≤ rd e 0 ∧ rd e 0 ≤ wrap64 (n - 1)) && decide (0 ≤ rd e 1 ∧ rd e 1 ≤ wrap64 (n - 1)))

def isGraph (n : Int) (l : List (List Int)) : Bool := l.all (okEdge n) && (decide (1 ≤ n ∧ n ≤ 8) && decide ((l.length : Int) ≤ 10))

theorem specIs_loop (n : Int) (l : List (List Int)) (hl : Mod l) : ∀ (d i : Nat), i + d = l.length →
  Ev (fun k => spec_l01Is.l0 k (i : Int) n l) ((l.drop i).all (okEdge n)) := by
 have hl1 := hl.1
 intro d
 induction d with
 | zero =>
  intro i hi
  refine Ev.succ ?_; simp only [spec_l01Is.l0]
  rw [List.drop_eq_nil_of_le (by omega)]
  repeat (first | with_reducible exact Ev.now _ | dsimp only | refine Ev.pos (by first | omega | rfl | assumption | decide) ?_ | refine Ev.neg (by first | omega | assumption | exact Bool.false_ne_true | exact fun e => absurd e (by decide)) ?_ | simp only [bne_self_eq_false, Bool.not_true, Bool.not_false, List.length_cons, List.length_nil] | rw [wrap_id (by omega) (by omega)] | ((with_reducible refine Ev.eq (congrArg some ?_)); rfl))
 | succ d ih =>
  intro i hi
  refine Ev.succ ?_; simp only [spec_l01Is.l0]
  rw [List.drop_eq_getElem_cons (by omega : i < l.length), List.all_cons, rl_lt (by omega), wrap_succ (by omega)]
  generalize l[i] = e
  have := ih (i + 1) (by omega)
  unfold okEdge
  by_cases h2 : (e.length : Int) = 2
  ·rw [decide_eq_true (show e.length = 2 by omega), Bool.true_and]
   by_cases ha : 0 ≤ rd e 0 ∧ rd e 0 ≤ wrap64 (n - 1)
   ·by_cases hb : 0 ≤ rd e 1 ∧ rd e 1 ≤ wrap64 (n - 1)
    ·rw [decide_eq_true ha, decide_eq_true hb, Bool.true_and, Bool.true_and]
     repeat (first | with_reducible exact Ev.now _ | dsimp only | with_reducible refine Ev.bind (Ev.eq ((specIn _ _ _).trans (congrArg some (decide_eq_true ha)))) ?_ | with_reducible refine Ev.bind (Ev.eq ((specIn _ _ _).trans (congrArg some (decide_eq_true hb)))) ?_ | refine Ev.pos (by first | omega | rfl | assumption | decide) ?_ | refine Ev.neg (by first | omega | assumption | exact Bool.false_ne_true | exact fun e => absurd e (by decide)) ?_ | simp only [bne_self_eq_false, Bool.not_true, Bool.not_false, List.length_cons, List.length_nil] | rw [wrap_id (by omega) (by omega)] | with_reducible exact (Ev.eq ((specIn _ _ _).trans (congrArg some (decide_eq_true ha)))) | with_reducible exact (Ev.eq ((specIn _ _ _).trans (congrArg some (decide_eq_true hb)))) | ((with_reducible refine Ev.eq (congrArg some ?_)); rfl))
     exact this
    ·rw [decide_eq_false hb, Bool.and_false, Bool.false_and]
     repeat (first | with_reducible exact Ev.now _ | dsimp only | with_reducible refine Ev.bind (Ev.eq ((specIn _ _ _).trans (congrArg some (decide_eq_true ha)))) ?_ | with_reducible refine Ev.bind (Ev.eq ((specIn _ _ _).trans (congrArg some (decide_eq_false hb)))) ?_ | refine Ev.pos (by first | omega | rfl | assumption | decide) ?_ | refine Ev.neg (by first | omega | assumption | exact Bool.false_ne_true | exact fun e => absurd e (by decide)) ?_ | simp only [bne_self_eq_false, Bool.not_true, Bool.not_false, List.length_cons, List.length_nil] | rw [wrap_id (by omega) (by omega)] | with_reducible exact (Ev.eq ((specIn _ _ _).trans (congrArg some (decide_eq_true ha)))) | with_reducible exact (Ev.eq ((specIn _ _ _).trans (congrArg some (decide_eq_false hb)))) | ((with_reducible refine Ev.eq (congrArg some ?_)); rfl))
   ·rw [decide_eq_false ha, Bool.false_and, Bool.false_and]
    repeat (first | with_reducible exact Ev.now _ | dsimp only | with_reducible refine Ev.bind (Ev.eq ((specIn _ _ _).trans (congrArg some (decide_eq_false ha)))) ?_ | refine Ev.pos (by first | omega | rfl | assumption | decide) ?_ | refine Ev.neg (by first | omega | assumption | exact Bool.false_ne_true | exact fun e => absurd e (by decide)) ?_ | simp only [bne_self_eq_false, Bool.not_true, Bool.not_false, List.length_cons, List.length_nil] | rw [wrap_id (by omega) (by omega)] | with_reducible exact (Ev.eq ((specIn _ _ _).trans (congrArg some (decide_eq_false ha)))) | ((with_reducible refine Ev.eq (congrArg some ?_)); rfl))
  ·rw [decide_eq_false (show ¬ e.length = 2 by omega), Bool.false_and, Bool.false_and]
   repeat (first | with_reducible exact Ev.now _ | dsimp only | refine Ev.pos (by first | omega | rfl | assumption | decide) ?_ | refine Ev.neg (by first | omega | assumption | exact Bool.false_ne_true | exact fun e => absurd e (by decide)) ?_ | simp only [bne_self_eq_false, Bool.not_true, Bool.not_false, List.length_cons, List.length_nil] | rw [wrap_id (by omega) (by omega)] | ((with_reducible refine Ev.eq (congrArg some ?_)); rfl))

theorem specIs (n : Int) (l : List (List Int)) (hl : Mod l) : Ev (fun k => spec_l01Is.f k n l) (isGraph n l) := by
 unfold spec_l01Is.f isGraph
 by_cases h1 : 1 ≤ n ∧ n ≤ 8
 ·rw [decide_eq_true h1, Bool.true_and]
  repeat (first | with_reducible exact Ev.now _ | dsimp only | with_reducible refine Ev.bind (Ev.eq ((specIn n 1 8).trans (congrArg some (decide_eq_true h1)))) ?_ | refine Ev.pos (by first | omega | rfl | assumption | decide) ?_ | refine Ev.neg (by first | omega | assumption | exact Bool.false_ne_true | exact fun e => absurd e (by decide)) ?_ | simp only [bne_self_eq_false, Bool.not_true, Bool.not_false, List.length_cons, List.length_nil] | rw [wrap_id (by omega) (by omega)] | with_reducible exact (Ev.eq ((specIn n 1 8).trans (congrArg some (decide_eq_true h1)))) | ((with_reducible refine Ev.eq (congrArg some ?_)); rfl))
  refine Ev.succ ?_
  simp only [spec_l01Is.j0]
  by_cases h2 : (l.length : Int) ≤ 10
  ·rw [decide_eq_true h2, decide_eq_false (show ¬ (l.length : Int) > 10 by omega), Bool.and_true]
   repeat (first | with_reducible exact Ev.now _ | dsimp only | refine Ev.pos (by first | omega | rfl | assumption | decide) ?_ | refine Ev.neg (by first | omega | assumption | exact Bool.false_ne_true | exact fun e => absurd e (by decide)) ?_ | simp only [bne_self_eq_false, Bool.not_true, Bool.not_false, List.length_cons, List.length_nil] | rw [wrap_id (by omega) (by omega)] | ((with_reducible refine Ev.eq (congrArg some ?_)); rfl))
   exact specIs_loop n l hl l.length 0 (by omega)
  ·rw [decide_eq_false h2, decide_eq_true (show (l.length : Int) > 10 by omega), Bool.and_false]
   repeat (first | with_reducible exact Ev.now _ | dsimp only | refine Ev.pos (by first | omega | rfl | assumption | decide) ?_ | refine Ev.neg (by first | omega | assumption | exact Bool.false_ne_true | exact fun e => absurd e (by decide)) ?_ | simp only [bne_self_eq_false, Bool.not_true, Bool.not_false, List.length_cons, List.length_nil] | rw [wrap_id (by omega) (by omega)] | ((with_reducible refine Ev.eq (congrArg some ?_)); rfl))
 ·rw [decide_eq_false h1, Bool.false_and, Bool.and_false]
  repeat (first | with_reducible exact Ev.now _ | dsimp only | with_reducible refine Ev.bind (Ev.eq ((specIn n 1 8).trans (congrArg some (decide_eq_false h1)))) ?_ | refine Ev.pos (by first | omega | rfl | assumption | decide) ?_ | refine Ev.neg (by first | omega | assumption | exact Bool.false_ne_true | exact fun e => absurd e (by decide)) ?_ | simp only [bne_self_eq_false, Bool.not_true, Bool.not_false, List.length_cons, List.length_nil] | rw [wrap_id (by omega) (by omega)] | with_reducible exact (Ev.eq ((specIn n 1 8).trans (congrArg some (decide_eq_false h1)))) | ((with_reducible refine Ev.eq (congrArg some ?_)); rfl))
  refine Ev.succ ?_
  simp only [spec_l01Is.j0]
  repeat (first | with_reducible exact Ev.now _ | dsimp only | refine Ev.pos (by first | omega | rfl | assumption | decide) ?_ | refine Ev.neg (by first | omega | assumption | exact Bool.false_ne_true | exact fun e => absurd e (by decide)) ?_ | simp only [bne_self_eq_false, Bool.not_true, Bool.not_false, List.length_cons, List.length_nil] | rw [wrap_id (by omega) (by omega)] | ((with_reducible refine Ev.eq (congrArg some ?_)); rfl))

theorem implIs_loop (n : Int) (l : List (List Int)) (hl : Mod l) : ∀ (d i : Nat), i + d = l.length →
  Ev (fun k => impl_IsGraph.l0 k l (l.length : Int) (i : Int) n l) ((l.drop i).all (okEdge n) && (decide (1 ≤ n ∧ n ≤ 8) && decide ((l.length : Int) ≤ 10))) := by
 have hl1 := hl.1
 intro d
 induction d with
 | zero =>
  intro i hi
  refine Ev.succ ?_; simp only [impl_IsGraph.l0]
  rw [List.drop_eq_nil_of_le (by omega), List.all_nil, Bool.true_and]
  by_cases h1 : 1 ≤ n ∧ n ≤ 8
  ·rw [decide_eq_true h1, Bool.true_and]
   repeat (first | with_reducible exact Ev.now _ | dsimp only | with_reducible refine Ev.bind (Ev.eq ((implWithin n 1 8).trans (congrArg some (decide_eq_true h1)))) ?_ | refine Ev.pos (by first | omega | rfl | assumption | decide) ?_ | refine Ev.neg (by first | omega | assumption | exact Bool.false_ne_true | exact fun e => absurd e (by decide)) ?_ | simp only [bne_self_eq_false, Bool.not_true, Bool.not_false, List.length_cons, List.length_nil] | rw [wrap_id (by omega) (by omega)] | with_reducible exact (Ev.eq ((implWithin n 1 8).trans (congrArg some (decide_eq_true h1)))) | ((with_reducible refine Ev.eq (congrArg some ?_)); rfl))
  ·rw [decide_eq_false h1, Bool.false_and]
   repeat (first | with_reducible exact Ev.now _ | dsimp only | with_reducible refine Ev.bind (Ev.eq ((implWithin n 1 8).trans (congrArg some (decide_eq_false h1)))) ?_ | refine Ev.pos (by first | omega | rfl | assumption | decide) ?_ | refine Ev.neg (by first | omega | assumption | exact Bool.false_ne_true | exact fun e => absurd e (by decide)) ?_ | simp only [bne_self_eq_false, Bool.not_true, Bool.not_false, List.length_cons, List.length_nil] | rw [wrap_id (by omega) (by omega)] | with_reducible exact (Ev.eq ((implWithin n 1 8).trans (congrArg some (decide_eq_false h1)))) | ((with_reducible refine Ev.eq (congrArg some ?_)); rfl))
 | succ d ih =>
  intro i hi
  refine Ev.succ ?_; simp only [impl_IsGraph.l0]
  rw [List.drop_eq_getElem_cons (by omega : i < l.length), List.all_cons, rl_lt (by omega), wrap_succ (by omega)]
  generalize l[i] = e
  have := ih (i + 1) (by omega)
  unfold okEdge at this ⊢
  by_cases h2 : (e.length : Int) = 2
  ·rw [decide_eq_true (show e.length = 2 by omega), Bool.true_and]
   by_cases ha : 0 ≤ rd e 0 ∧ rd e 0 ≤ wrap64 (n - 1)
   ·by_cases hb : 0 ≤ rd e 1 ∧ rd e 1 ≤ wrap64 (n - 1)
    ·rw [decide_eq_true ha, decide_eq_true hb, Bool.true_and, Bool.true_and]
     repeat (first | with_reducible exact Ev.now _ | dsimp only | with_reducible refine Ev.bind (Ev.eq ((implWithin _ _ _).trans (congrArg some (decide_eq_true ha)))) ?_ | with_reducible refine Ev.bind (Ev.eq ((implWithin _ _ _).trans (congrArg some (decide_eq_true hb)))) ?_ | refine Ev.pos (by first | omega | rfl | assumption | decide) ?_ | refine Ev.neg (by first | omega | assumption | exact Bool.false_ne_true | exact fun e => absurd e (by decide)) ?_ | simp only [bne_self_eq_false, Bool.not_true, Bool.not_false, List.length_cons, List.length_nil] | rw [wrap_id (by omega) (by omega)] | with_reducible exact (Ev.eq ((implWithin _ _ _).trans (congrArg some (decide_eq_true ha)))) | with_reducible exact (Ev.eq ((implWithin _ _ _).trans (congrArg some (decide_eq_true hb)))) | ((with_reducible refine Ev.eq (congrArg some ?_)); rfl))
     exact this
    ·rw [decide_eq_false hb, Bool.and_false, Bool.false_and, Bool.false_and]
     repeat (first | with_reducible exact Ev.now _ | dsimp only | with_reducible refine Ev.bind (Ev.eq ((implWithin _ _ _).trans (congrArg some (decide_eq_true ha)))) ?_ | with_reducible refine Ev.bind (Ev.eq ((implWithin _ _ _).trans (congrArg some (decide_eq_false hb)))) ?_ | refine Ev.pos (by first | omega | rfl | assumption | decide) ?_ | refine Ev.neg (by first | omega | assumption | exact Bool.false_ne_true | exact fun e => absurd e (by decide)) ?_ | simp only [bne_self_eq_false, Bool.not_true, Bool.not_false, List.length_cons, List.length_nil] | rw [wrap_id (by omega) (by omega)] | with_reducible exact (Ev.eq ((implWithin _ _ _).trans (congrArg some (decide_eq_true ha)))) | with_reducible exact (Ev.eq ((implWithin _ _ _).trans (congrArg some (decide_eq_false hb)))) | ((with_reducible refine Ev.eq (congrArg some ?_)); rfl))
   ·rw [decide_eq_false ha, Bool.false_and, Bool.false_and, Bool.false_and]
    repeat (first | with_reducible exact Ev.now _ | dsimp only | with_reducible refine Ev.bind (Ev.eq ((implWithin _ _ _).trans (congrArg some (decide_eq_false ha)))) ?_ | refine Ev.pos (by first | omega | rfl | assumption | decide) ?_ | refine Ev.neg (by first | omega | assumption | exact Bool.false_ne_true | exact fun e => absurd e (by decide)) ?_ | simp only [bne_self_eq_false, Bool.not_true, Bool.not_false, List.length_cons, List.length_nil] | rw [wrap_id (by omega) (by omega)] | with_reducible exact (Ev.eq ((implWithin _ _ _).trans (congrArg some (decide_eq_false ha)))) | ((with_reducible refine Ev.eq (congrArg some ?_)); rfl))
  ·rw [decide_eq_false (show ¬ e.length = 2 by omega), Bool.false_and, Bool.false_and, Bool.false_and]
   repeat (first | with_reducible exact Ev.now _ | dsimp only | refine Ev.pos (by first | omega | rfl | assumption | decide) ?_ | refine Ev.neg (by first | omega | assumption | exact Bool.false_ne_true | exact fun e => absurd e (by decide)) ?_ | simp only [bne_self_eq_false, Bool.not_true, Bool.not_false, List.length_cons, List.length_nil] | rw [wrap_id (by omega) (by omega)] | ((with_reducible refine Ev.eq (congrArg some ?_)); rfl))

theorem implIsGraph (n : Int) (l : List (List Int)) (hl : Mod l) : Ev (fun k => impl_IsGraph.f k n l) (isGraph n l) := by
 unfold impl_IsGraph.f
 exact implIs_loop n l hl l.length 0 (by omega)

theorem len_two {α : Type} {e : List α} (h : e.length = 2) : ∃ a b, e = [a, b] := by
 match e, h with
 | [a, b], _ => exact ⟨a, b, rfl⟩

theorem isGraph_iff (n : Int) (l : List (List Int)) : isGraph n l = true ↔ 1 ≤ n ∧ n ≤ 8 ∧ l.length ≤ 10 ∧ ∀ e ∈ l, ∃ a b : Int, e = [a, b] ∧ 0 ≤ a ∧ a < n ∧ 0 ≤ b ∧ b < n := by
 unfold isGraph
 rw [Bool.and_eq_true, Bool.and_eq_true, decide_eq_true_iff, decide_eq_true_iff, List.all_eq_true]
 constructor
 ·rintro ⟨h, ⟨h1, h2⟩, h3⟩
  refine ⟨h1, h2, by omega, fun e he => ?_⟩
  have := h e he
  unfold okEdge at this
  rw [Bool.and_eq_true, Bool.and_eq_true, decide_eq_true_iff, decide_eq_true_iff, decide_eq_true_iff, wrap_id (by omega) (by omega)] at this
  obtain ⟨he2, ha, hb⟩ := this
  obtain ⟨a, b, rfl⟩ := len_two he2
  simp only [show rd [a, b] 0 = a from rfl, show rd [a, b] 1 = b from rfl] at ha hb
  exact ⟨a, b, rfl, by omega, by omega, by omega, by omega⟩
 ·rintro ⟨h1, h2, h3, h⟩
  refine ⟨fun e he => ?_, ⟨h1, h2⟩, by omega⟩
  obtain ⟨a, b, rfl, h4, h5, h6, h7⟩ := h e he
  unfold okEdge
  rw [Bool.and_eq_true, Bool.and_eq_true, decide_eq_true_iff, decide_eq_true_iff, decide_eq_true_iff, wrap_id (by omega) (by omega)]
  simp only [show rd [a, b] 0 = a from rfl, show rd [a, b] 1 = b from rfl]
  exact ⟨rfl, by omega, by omega⟩
theorem graph_edge {n : Int} {l : List (List Int)} (h : isGraph n l = true) {i : Nat} (hi : i < l.length) :
  (rd_L1 l (i : Int)).length = 2 ∧ ∃ a b : Nat, rd (rd_L1 l (i : Int)) 0 = a ∧ rd (rd_L1 l (i : Int)) 1 = b ∧ (a : Int) < n ∧ (b : Int) < n := by
 rw [rl_lt hi]
 obtain ⟨h1, h2, h3, h4⟩ := (isGraph_iff n l).1 h
 obtain ⟨a, b, e, ha, ha', hb, hb'⟩ := h4 _ (List.getElem_mem hi)
 rw [e]
 refine ⟨rfl, a.toNat, b.toNat, ?_, ?_, by omega, by omega⟩
 ·show a = _
  omega
 ·show b = _
  omega

theorem graph_small {n : Int} {l : List (List Int)} (h : isGraph n l = true) : 1 ≤ n ∧ n ≤ 8 ∧ l.length ≤ 10 := by
 obtain ⟨h1, h2, h3, h4⟩ := (isGraph_iff n l).1 h
 exact ⟨h1, h2, h3⟩
/-- The directed edge's start, its end, and its reverse. -/
def tl (l : List (List Int)) (p : Nat) : Int := if p % 2 = 1 then rd (rd_L1 l ((p / 2 : Nat) : Int)) 1 else rd (rd_L1 l ((p / 2 : Nat) : Int)) 0
def hd (l : List (List Int)) (p : Nat) : Int := if p % 2 = 1 then rd (rd_L1 l ((p / 2 : Nat) : Int)) 0 else rd (rd_L1 l ((p / 2 : Nat) : Int)) 1
def inv (p : Nat) : Nat := if p % 2 = 0 then p + 1 else p - 1
def next (l : List (List Int)) (p q : Nat) : Bool := decide (hd l p = tl l q) && decide (q ≠ inv p)

theorem half (p : Nat) (h : p < 1000) : wrap64 (Int.tdiv (p : Int) 2) = ((p / 2 : Nat) : Int) := by
 rw [Int.tdiv_eq_ediv_of_nonneg (by omega), wrap_id (by omega) (by omega)]
 omega

theorem rest2 (p : Nat) : Int.tmod (p : Int) 2 = ((p % 2 : Nat) : Int) := by
 rw [Int.tmod_eq_emod_of_nonneg (by omega)]
 omega

theorem xor_inv (p : Nat) (h : p < 20) : Go.bits .xor .i64 (p : Int) 1 = ((inv p : Nat) : Int) := by
 have : ∀ q : Fin 20, Go.bits .xor .i64 (q.val : Int) 1 = ((inv q.val : Nat) : Int) := by decide
 exact this ⟨p, h⟩

section
variable {n : Int} {l : List (List Int)} (h : isGraph n l = true)
include h

theorem specEnds {p : Nat} (hp : p < 2 * l.length) : spec_l01Ends.f n l (p : Int) = some (tl l p, hd l p) := by
 obtain ⟨g1, g2, g3⟩ := graph_small h
 obtain ⟨e2, a, b, ea, eb, ha, hb⟩ := graph_edge h (show p / 2 < l.length by omega)
 unfold spec_l01Ends.f tl hd
 rw [half p (by omega), rest2, if_pos (by omega), if_pos (by omega)]
 by_cases c : p % 2 = 1
 ·rw [if_pos (show ((p % 2 : Nat) : Int) = 1 by omega), if_pos (by omega), if_pos (by omega), if_pos c, if_pos c]
 ·rw [if_neg (show ¬ ((p % 2 : Nat) : Int) = 1 by omega), if_pos (by omega), if_pos (by omega), if_neg c, if_neg c]

theorem implEnds {p : Nat} (hp : p < 2 * l.length) : impl_Graph_ends.f n l (p : Int) = some (tl l p, hd l p) := by
 obtain ⟨g1, g2, g3⟩ := graph_small h
 obtain ⟨e2, a, b, ea, eb, ha, hb⟩ := graph_edge h (show p / 2 < l.length by omega)
 unfold impl_Graph_ends.f tl hd
 rw [half p (by omega), rest2, wrap_id (x := 1 - ((p % 2 : Nat) : Int)) (by omega) (by omega), if_pos (by omega), if_pos (by omega), if_pos (by omega), if_pos (by omega), if_pos (by omega), if_pos (by omega)]
 by_cases c : p % 2 = 1
 ·rw [if_pos c, if_pos c, c]
  rfl
 ·rw [if_neg c, if_neg c, show p % 2 = 0 by omega]
  rfl

theorem implFollows {p q : Nat} (hp : p < 2 * l.length) (hq : q < 2 * l.length) : impl_Graph_follows.f n l (p : Int) (q : Int) = some (next l p q) := by
 obtain ⟨g1, g2, g3⟩ := graph_small h
 unfold impl_Graph_follows.f next
 rw [implEnds h hp, implEnds h hq, Option.bind_some, Option.bind_some, xor_inv p (by omega)]
 by_cases c : hd l p = tl l q
 ·rw [if_pos c.symm, decide_eq_true c, Bool.true_and]
  by_cases c2 : q = inv p
  ·rw [c2]; simp
  ·simp [c2, bne]
   omega
 ·rw [if_neg (fun e => c e.symm), decide_eq_false c, Bool.false_and]

end
theorem markInt64S_loop (n : Nat) (hn : n ≤ 1048576) (a : Int) (h0 : 0 ≤ a) (h1 : a ≤ 1125899906842624) : ∀ (d i : Nat) (ys : List Int), i + d = n → ys.length = n → ys.take i = (marks a n).take i →
  Ev (fun k => laws_markInt64S.l0 k ys (a + i) (i : Int)) (a + n, marks a n) := by
 intro d
 induction d with
 | zero =>
  intro i ys hi hy ht
  refine Ev.succ ?_; simp only [laws_markInt64S.l0]
  rw [show ys = marks a n from eq_of_take (by rw [hy, marks_length]) (by rw [marks_length]; omega) ht, show i = n by omega]
  have := marks_length a n
  repeat (first | with_reducible exact Ev.now _ | dsimp only | refine Ev.pos (by first | omega | rfl | assumption | decide) ?_ | refine Ev.neg (by first | omega | assumption | exact Bool.false_ne_true | exact fun e => absurd e (by decide)) ?_ | simp only [bne_self_eq_false, Bool.not_true, Bool.not_false, List.length_cons, List.length_nil] | rw [wrap_id (by omega) (by omega)] | ((with_reducible refine Ev.eq (congrArg some ?_)); rfl))
 | succ d ih =>
  intro i ys hi hy ht
  refine Ev.succ ?_; simp only [laws_markInt64S.l0]
  rw [wrap_succ (by omega), wrap_id (x := a + i + 1) (by omega) (by omega)]
  repeat (first | with_reducible exact Ev.now _ | dsimp only | refine Ev.pos (by first | omega | rfl | assumption | decide) ?_ | refine Ev.neg (by first | omega | assumption | exact Bool.false_ne_true | exact fun e => absurd e (by decide)) ?_ | simp only [bne_self_eq_false, Bool.not_true, Bool.not_false, List.length_cons, List.length_nil] | rw [wrap_id (by omega) (by omega)] | ((with_reducible refine Ev.eq (congrArg some ?_)); rfl))
  have := ih (i + 1) (ys.set i (a + i)) (by omega) (by simpa using hy) (take_set_succ (by rw [hy, marks_length]) (by rw [marks_length]; omega) (marks_get a n i (by rw [marks_length]; omega)).symm ht)
  rw [show a + ((i + 1 : Nat) : Int) = a + i + 1 by omega] at this
  exact this

theorem markInt64S (l : List Int) (hl : l.length ≤ 1048576) (a : Int) (h0 : 0 ≤ a) (h1 : a ≤ 1125899906842624) : Ev (fun k => laws_markInt64S.f k l a) (a + l.length, marks a l.length) := by
 unfold laws_markInt64S.f
 have := markInt64S_loop l.length hl a h0 h1 l.length 0 l (by omega) rfl (by simp)
 rw [show a + ((0 : Nat) : Int) = a by omega] at this
 exact this

theorem heldInt64S_loop (n : Nat) (hn : n ≤ 1048576) (a : Int) (h0 : 0 ≤ a) (h1 : a ≤ 1125899906842624) : ∀ (d i : Nat), i + d = n →
  Ev (fun k => laws_heldInt64S.l0 k (marks a n) (a + i) (i : Int)) (a + n) := by
 have hm := marks_length a n
 intro d
 induction d with
 | zero =>
  intro i hi
  refine Ev.succ ?_; simp only [laws_heldInt64S.l0]
  rw [show i = n by omega]
  repeat (first | with_reducible exact Ev.now _ | dsimp only | refine Ev.pos (by first | omega | rfl | assumption | decide) ?_ | refine Ev.neg (by first | omega | assumption | exact Bool.false_ne_true | exact fun e => absurd e (by decide)) ?_ | simp only [bne_self_eq_false, Bool.not_true, Bool.not_false, List.length_cons, List.length_nil] | rw [wrap_id (by omega) (by omega)] | ((with_reducible refine Ev.eq (congrArg some ?_)); rfl))
 | succ d ih =>
  intro i hi
  refine Ev.succ ?_; simp only [laws_heldInt64S.l0]
  rw [wrap_succ (by omega), wrap_id (x := a + i + 1) (by omega) (by omega)]
  have e := marks_get a n i (by omega)
  rw [← rd_lt] at e
  have := ih (i + 1) (by omega)
  rw [show a + ((i + 1 : Nat) : Int) = a + i + 1 by omega] at this
  repeat (first | with_reducible exact Ev.now _ | dsimp only | refine Ev.pos (by first | omega | rfl | assumption | decide) ?_ | refine Ev.neg (by first | omega | assumption | exact Bool.false_ne_true | exact fun e => absurd e (by decide)) ?_ | simp only [bne_self_eq_false, Bool.not_true, Bool.not_false, List.length_cons, List.length_nil] | rw [wrap_id (by omega) (by omega)] | ((with_reducible refine Ev.eq (congrArg some ?_)); rfl))
  exact this

theorem heldInt64S (a : Int) (n : Nat) (hn : n ≤ 1048576) (h0 : 0 ≤ a) (h1 : a ≤ 1125899906842624) : Ev (fun k => laws_heldInt64S.f k (marks a n) a) (a + n) := by
 unfold laws_heldInt64S.f
 have := heldInt64S_loop n hn a h0 h1 n 0 (by omega)
 rw [show a + ((0 : Nat) : Int) = a by omega] at this
 exact this
theorem markInt64SS_loop : ∀ (d i : Nat) (xs : List (List Int)) (a : Int), i + d = xs.length → xs.length ≤ 1048576 → (∀ r ∈ xs, r.length ≤ 1048576) → 0 ≤ a → a ≤ 1 + 1048576 * i →
  ∃ r : Int × List (List Int), Ev (fun k => laws_markInt64SS.l0 k xs a (i : Int)) r ∧ 0 ≤ r.1 ∧ r.1 ≤ 1 + 1048576 * xs.length := by
 intro d
 induction d with
 | zero =>
  intro i xs a hi hx hr h0 h1
  refine ⟨(a, xs), ?_, h0, by simp only; omega⟩
  refine Ev.succ ?_; simp only [laws_markInt64SS.l0]
  repeat (first | with_reducible exact Ev.now _ | dsimp only | refine Ev.pos (by first | omega | rfl | assumption | decide) ?_ | refine Ev.neg (by first | omega | assumption | exact Bool.false_ne_true | exact fun e => absurd e (by decide)) ?_ | simp only [bne_self_eq_false, Bool.not_true, Bool.not_false, List.length_cons, List.length_nil] | rw [wrap_id (by omega) (by omega)] | ((with_reducible refine Ev.eq (congrArg some ?_)); rfl))
 | succ d ih =>
  intro i xs a hi hx hr h0 h1
  have hlen : xs[i].length ≤ 1048576 := hr _ (List.getElem_mem (by omega))
  obtain ⟨r, h2, h3⟩ := ih (i + 1) (xs.set i (marks a xs[i].length)) (a + xs[i].length) (by simp; omega) (by simpa using hx) (fun r hm => by
   rcases List.mem_or_eq_of_mem_set hm with h | h
   ·exact hr r h
   ·rw [h, marks_length]; exact hlen) (by omega) (by omega)
  rw [List.length_set] at h3
  refine ⟨r, ?_, h3⟩
  refine Ev.succ ?_; simp only [laws_markInt64SS.l0]
  rw [wrap_succ (by omega), rl_lt (by omega)]
  repeat (first | with_reducible exact Ev.now _ | dsimp only | with_reducible refine Ev.bind (markInt64S xs[i] hlen a h0 (by omega)) ?_ | refine Ev.pos (by first | omega | rfl | assumption | decide) ?_ | refine Ev.neg (by first | omega | assumption | exact Bool.false_ne_true | exact fun e => absurd e (by decide)) ?_ | simp only [bne_self_eq_false, Bool.not_true, Bool.not_false, List.length_cons, List.length_nil] | rw [wrap_id (by omega) (by omega)] | with_reducible exact (markInt64S xs[i] hlen a h0 (by omega)) | ((with_reducible refine Ev.eq (congrArg some ?_)); rfl))
  exact h2

theorem markGraph (n : Int) (l : List (List Int)) (hl : Mod l) : ∃ r : Int × List (List Int), Ev (fun k => laws_markGraph.f k n l 1) r ∧ 0 ≤ r.1 ∧ r.1 ≤ 1099511627777 := by
 unfold laws_markGraph.f laws_markInt64SS.f
 have hl1 := hl.1
 obtain ⟨r, h1, h2, h3⟩ := markInt64SS_loop l.length 0 l 1 (by omega) hl.1 hl.2 (by decide) (by omega)
 exact ⟨r, h1, h2, by omega⟩
def marksR : Int → List (List Int) → List (List Int)
 | _, [] => []
 | a, r :: rs => marks a r.length :: marksR (a + r.length) rs

def total : List (List Int) → Nat
 | [] => 0
 | r :: rs => r.length + total rs

theorem total_le (rs : List (List Int)) (h : ∀ r ∈ rs, r.length ≤ 1048576) : total rs ≤ 1048576 * rs.length := by
 induction rs with
 | nil => simp [total]
 | cons r rs ih =>
  have h1 := h r (List.mem_cons_self)
  have h2 := ih (fun x hx => h x (List.mem_cons_of_mem _ hx))
  unfold total
  rw [List.length_cons]
  omega

theorem marksR_length (a : Int) (rs : List (List Int)) : (marksR a rs).length = rs.length := by
 induction rs generalizing a with
 | nil => rfl
 | cons r rs ih => simp [marksR, ih]

theorem rl_mid (A : List (List Int)) (r : List Int) (B : List (List Int)) : rd_L1 (A ++ r :: B) (A.length : Int) = r := by
 rw [rl_lt (by simp)]
 simp

theorem markRows_loop : ∀ (rest done : List (List Int)) (a : Int), (done ++ rest).length ≤ 1048576 → (∀ r ∈ rest, r.length ≤ 1048576) → 0 ≤ a → a + total rest ≤ 1125899906842624 →
  Ev (fun k => laws_markInt64SS.l0 k (done ++ rest) a (done.length : Int)) (a + total rest, done ++ marksR a rest) := by
 intro rest
 induction rest with
 | nil =>
  intro done a hl hr h0 h1
  refine Ev.succ ?_; simp only [laws_markInt64SS.l0]
  rw [List.append_nil] at *
  unfold marksR total
  rw [show a + ((0 : Nat) : Int) = a by omega, List.append_nil]
  repeat (first | with_reducible exact Ev.now _ | dsimp only | refine Ev.pos (by first | omega | rfl | assumption | decide) ?_ | refine Ev.neg (by first | omega | assumption | exact Bool.false_ne_true | exact fun e => absurd e (by decide)) ?_ | simp only [bne_self_eq_false, Bool.not_true, Bool.not_false, List.length_cons, List.length_nil] | rw [wrap_id (by omega) (by omega)] | ((with_reducible refine Ev.eq (congrArg some ?_)); rfl))
 | cons r rest ih =>
  intro done a hl hr h0 h1
  have hrl := hr r (List.mem_cons_self)
  unfold total at h1
  have hd : (done ++ r :: rest).length = done.length + rest.length + 1 := by simp; omega
  refine Ev.succ ?_; simp only [laws_markInt64SS.l0]
  rw [rl_mid, wrap_succ (by omega), Int.toNat_natCast]
  repeat (first | with_reducible exact Ev.now _ | dsimp only | with_reducible refine Ev.bind (markInt64S r hrl a h0 (by omega)) ?_ | refine Ev.pos (by first | omega | rfl | assumption | decide) ?_ | refine Ev.neg (by first | omega | assumption | exact Bool.false_ne_true | exact fun e => absurd e (by decide)) ?_ | simp only [bne_self_eq_false, Bool.not_true, Bool.not_false, List.length_cons, List.length_nil] | rw [wrap_id (by omega) (by omega)] | with_reducible exact (markInt64S r hrl a h0 (by omega)) | ((with_reducible refine Ev.eq (congrArg some ?_)); rfl))
  have e1 : (done ++ r :: rest).set done.length (marks a r.length) = (done ++ [marks a r.length]) ++ rest := by
   rw [List.set_append_right _ _ (Nat.le_refl _), Nat.sub_self, List.set_cons_zero, List.append_assoc]
   rfl
  have := ih (done ++ [marks a r.length]) (a + r.length) (by simp at hl ⊢; omega) (fun x hx => hr x (List.mem_cons_of_mem _ hx)) (by omega) (by omega)
  rw [e1]
  rw [List.length_append, List.length_singleton] at this
  unfold total marksR
  rw [show a + ((r.length + total rest : Nat) : Int) = a + r.length + total rest by omega, show done ++ marks a r.length :: marksR (a + r.length) rest = (done ++ [marks a r.length]) ++ marksR (a + r.length) rest by rw [List.append_assoc]; rfl]
  exact this

theorem markRows (rs : List (List Int)) (h : Mod rs) : Ev (fun k => laws_markInt64SS.f k rs 1) (1 + total rs, marksR 1 rs) := by
 have := total_le rs h.2
 have hl := h.1
 exact markRows_loop rs [] 1 hl h.2 (by decide) (by omega)

theorem heldRows_loop : ∀ (rest done : List (List Int)) (a : Int), (done ++ rest).length ≤ 1048576 → (∀ r ∈ rest, r.length ≤ 1048576) → 0 ≤ a → a + total rest ≤ 1125899906842624 →
  Ev (fun k => laws_heldInt64SS.l0 k (done ++ marksR a rest) a (done.length : Int)) (a + total rest) := by
 intro rest
 induction rest with
 | nil =>
  intro done a hl hr h0 h1
  refine Ev.succ ?_; simp only [laws_heldInt64SS.l0]
  unfold marksR total
  rw [show a + ((0 : Nat) : Int) = a by omega, List.append_nil]
  repeat (first | with_reducible exact Ev.now _ | dsimp only | refine Ev.pos (by first | omega | rfl | assumption | decide) ?_ | refine Ev.neg (by first | omega | assumption | exact Bool.false_ne_true | exact fun e => absurd e (by decide)) ?_ | simp only [bne_self_eq_false, Bool.not_true, Bool.not_false, List.length_cons, List.length_nil] | rw [wrap_id (by omega) (by omega)] | ((with_reducible refine Ev.eq (congrArg some ?_)); rfl))
 | cons r rest ih =>
  intro done a hl hr h0 h1
  have hrl := hr r (List.mem_cons_self)
  unfold total at h1
  have hd : (done ++ marksR a (r :: rest)).length = done.length + rest.length + 1 := by rw [List.length_append, marksR_length, List.length_cons]; omega
  have hd2 : (done ++ r :: rest).length = done.length + rest.length + 1 := by simp; omega
  refine Ev.succ ?_; simp only [laws_heldInt64SS.l0]
  unfold marksR at hd ⊢
  rw [rl_mid, wrap_succ (by omega)]
  repeat (first | with_reducible exact Ev.now _ | dsimp only | with_reducible refine Ev.bind (heldInt64S a r.length hrl h0 (by omega)) ?_ | refine Ev.pos (by first | omega | rfl | assumption | decide) ?_ | refine Ev.neg (by first | omega | assumption | exact Bool.false_ne_true | exact fun e => absurd e (by decide)) ?_ | simp only [bne_self_eq_false, Bool.not_true, Bool.not_false, List.length_cons, List.length_nil] | rw [wrap_id (by omega) (by omega)] | with_reducible exact (heldInt64S a r.length hrl h0 (by omega)) | ((with_reducible refine Ev.eq (congrArg some ?_)); rfl))
  have := ih (done ++ [marks a r.length]) (a + r.length) (by simp at hl ⊢; omega) (fun x hx => hr x (List.mem_cons_of_mem _ hx)) (by omega) (by omega)
  rw [List.length_append, List.length_singleton] at this
  unfold total
  rw [show a + ((r.length + total rest : Nat) : Int) = a + r.length + total rest by omega, show done ++ marks a r.length :: marksR (a + r.length) rest = (done ++ [marks a r.length]) ++ marksR (a + r.length) rest by rw [List.append_assoc]; rfl]
  exact this

theorem heldRows (rs : List (List Int)) (h : Mod rs) : Ev (fun k => laws_heldInt64SS.f k (marksR 1 rs) 1) (1 + total rs) := by
 have := total_le rs h.2
 have hl := h.1
 exact heldRows_loop rs [] 1 hl h.2 (by decide) (by omega)
def zeros (n : Nat) : List (List Int) := List.replicate n (List.replicate n 0)

theorem rep_succ {α : Type} (n : Nat) (x : α) : List.replicate n x ++ [x] = List.replicate (n + 1) x := List.replicate_succ'.symm

theorem implSquare (n : Int) (h0 : 0 ≤ n) (h1 : n ≤ 1000) : Ev (fun k => impl_square.f k n) (zeros n.toNat) := by
 have : ∀ (d v : Nat), (v : Int) + d = n → Ev (fun k => impl_square.l0 k n (List.replicate v (List.replicate n.toNat 0)) n (v : Int)) (zeros n.toNat) := by
  intro d
  induction d with
  | zero =>
   intro v hv
   refine Ev.succ ?_; simp only [impl_square.l0]
   rw [show v = n.toNat by omega]
   repeat (first | with_reducible exact Ev.now _ | dsimp only | refine Ev.pos (by first | omega | rfl | assumption | decide) ?_ | refine Ev.neg (by first | omega | assumption | exact Bool.false_ne_true | exact fun e => absurd e (by decide)) ?_ | simp only [bne_self_eq_false, Bool.not_true, Bool.not_false, List.length_cons, List.length_nil] | rw [wrap_id (by omega) (by omega)] | ((with_reducible refine Ev.eq (congrArg some ?_)); rfl))
  | succ d ih =>
   intro v hv
   have := ih (v + 1) (by omega)
   rw [← rep_succ] at this
   refine Ev.succ ?_; simp only [impl_square.l0]
   rw [wrap_succ (by omega)]
   refine Ev.pos (by omega) ?_
   refine Ev.pos (by omega) ?_
   refine Ev.pos (by omega) ?_
   refine Ev.pos (by simp; omega) ?_
   exact this
 exact this n.toNat 0 (by omega)
/-- f 0 + .. + f (n - 1). -/
def Sm : Nat → (Nat → Int) → Int
 | 0, _ => 0
 | n + 1, f => Sm n f + f n

theorem Sm_congr {n : Nat} {f g : Nat → Int} (h : ∀ i, i < n → f i = g i) : Sm n f = Sm n g := by
 induction n with
 | zero => rfl
 | succ n ih => unfold Sm; rw [ih (fun i hi => h i (by omega)), h n (by omega)]

theorem Sm_add (n : Nat) (f g : Nat → Int) : Sm n (fun i => f i + g i) = Sm n f + Sm n g := by
 induction n with
 | zero => rfl
 | succ n ih =>
  show Sm n (fun i => f i + g i) + (f n + g n) = Sm n f + f n + (Sm n g + g n)
  rw [ih]; omega

theorem Sm_mul_left (n : Nat) (c : Int) (f : Nat → Int) : Sm n (fun i => c * f i) = c * Sm n f := by
 induction n with
 | zero => simp [Sm]
 | succ n ih => unfold Sm; rw [ih, Int.mul_add]

theorem Sm_mul_right (n : Nat) (c : Int) (f : Nat → Int) : Sm n (fun i => f i * c) = Sm n f * c := by
 induction n with
 | zero => simp [Sm]
 | succ n ih => unfold Sm; rw [ih, Int.add_mul]

theorem Sm_zero (n : Nat) : Sm n (fun _ => 0) = 0 := by
 induction n with
 | zero => rfl
 | succ n ih => unfold Sm; rw [ih]; rfl

theorem Sm_swap (n m : Nat) (f : Nat → Nat → Int) : Sm n (fun i => Sm m (fun j => f i j)) = Sm m (fun j => Sm n (fun i => f i j)) := by
 induction n with
 | zero => exact (Sm_zero m).symm
 | succ n ih =>
  show Sm n (fun i => Sm m (fun j => f i j)) + Sm m (fun j => f n j) = _
  rw [ih, ← Sm_add]
  rfl

theorem Sm_le {n : Nat} {f : Nat → Int} {b : Int} (h : ∀ i, i < n → f i ≤ b) : Sm n f ≤ n * b := by
 induction n with
 | zero => simp [Sm]
 | succ n ih =>
  have h1 := ih (fun i hi => h i (by omega))
  have h2 := h n (by omega)
  unfold Sm
  rw [Int.natCast_add, Int.add_mul]
  omega

theorem Sm_nonneg {n : Nat} {f : Nat → Int} (h : ∀ i, i < n → 0 ≤ f i) : 0 ≤ Sm n f := by
 induction n with
 | zero => simp [Sm]
 | succ n ih =>
  have h1 := ih (fun i hi => h i (by omega))
  have h2 := h n (by omega)
  unfold Sm
  omega

/-- A list's matrix, and a matrix's list. -/
def mat (m : List (List Int)) (i j : Nat) : Int := rd (rd_L1 m (i : Int)) (j : Int)

def rowOf (n : Nat) (f : Nat → Int) : List Int := (List.range n).map f

def ofFn (n : Nat) (f : Nat → Nat → Int) : List (List Int) := (List.range n).map (fun i => rowOf n (f i))

theorem rowOf_length (n : Nat) (f : Nat → Int) : (rowOf n f).length = n := by simp [rowOf]

theorem rowOf_rd {n i : Nat} (f : Nat → Int) (h : i < n) : rd (rowOf n f) (i : Int) = f i := rd_map_range f h

theorem rowOf_congr {n : Nat} {f g : Nat → Int} (h : ∀ i, i < n → f i = g i) : rowOf n f = rowOf n g := by
 unfold rowOf
 exact List.map_congr_left (fun i hi => h i (List.mem_range.1 hi))

theorem rowOf_set {n i : Nat} (f : Nat → Int) (v : Int) (h : i < n) : (rowOf n f).set i v = rowOf n (fun j => if j = i then v else f j) := by
 refine list_ext_rd (by rw [List.length_set, rowOf_length, rowOf_length]) (fun j hj => ?_)
 rw [List.length_set, rowOf_length] at hj
 rw [rd_set (by rw [rowOf_length]; exact h), rowOf_rd _ hj, rowOf_rd _ hj]

theorem rowOf_zero (n : Nat) : rowOf n (fun _ => 0) = List.replicate n 0 := by
 refine list_ext_rd (by rw [rowOf_length, List.length_replicate]) (fun j hj => ?_)
 rw [rowOf_length] at hj
 rw [rowOf_rd _ hj, rd_replicate]

theorem ofFn_length (n : Nat) (f : Nat → Nat → Int) : (ofFn n f).length = n := by simp [ofFn]

theorem ofFn_row {n i : Nat} (f : Nat → Nat → Int) (h : i < n) : rd_L1 (ofFn n f) (i : Int) = rowOf n (f i) := by
 rw [rl_lt (by rw [ofFn_length]; exact h)]
 simp [ofFn]

theorem ofFn_mat {n i j : Nat} (f : Nat → Nat → Int) (hi : i < n) (hj : j < n) : mat (ofFn n f) i j = f i j := by
 unfold mat
 rw [ofFn_row f hi, rowOf_rd _ hj]

theorem ofFn_congr {n : Nat} {f g : Nat → Nat → Int} (h : ∀ i j, i < n → j < n → f i j = g i j) : ofFn n f = ofFn n g := by
 unfold ofFn
 exact List.map_congr_left (fun i hi => rowOf_congr (fun j hj => h i j (List.mem_range.1 hi) hj))

theorem ofFn_set {n i : Nat} (f : Nat → Nat → Int) (r : Nat → Int) (h : i < n) : (ofFn n f).set i (rowOf n r) = ofFn n (fun k => if k = i then r else f k) := by
 apply List.ext_getElem
 ·rw [List.length_set, ofFn_length, ofFn_length]
 ·intro k h1 h2
  rw [ofFn_length] at h2
  simp only [List.getElem_set, ofFn, List.getElem_map, List.getElem_range]
  by_cases e : k = i
  ·subst e; simp
  ·rw [if_neg (fun x => e x.symm), if_neg e]

/-- A square list of rows. -/
def Sq (n : Nat) (m : List (List Int)) : Prop := m.length = n ∧ ∀ i : Nat, i < n → (rd_L1 m (i : Int)).length = n

theorem Sq_ofFn (n : Nat) (f : Nat → Nat → Int) : Sq n (ofFn n f) := ⟨ofFn_length n f, fun i hi => by rw [ofFn_row f hi, rowOf_length]⟩

theorem wrap_add_wrap (a b : Int) : wrap64 (wrap64 a + wrap64 b) = wrap64 (a + b) := by
 unfold wrap64
 omega

theorem wrap_add_left (a b : Int) : wrap64 (wrap64 a + b) = wrap64 (a + b) := by
 unfold wrap64
 omega

theorem wrap_range (a : Int) : -9223372036854775808 ≤ wrap64 a ∧ wrap64 a ≤ 9223372036854775807 := by
 unfold wrap64
 omega
/-- Row p, told up to the place q. -/
def rowE (l : List (List Int)) (p : Nat) : Nat → List Int
 | 0 => List.replicate (2 * l.length) 0
 | q + 1 => if next l p q = true then (rowE l p q).set q 1 else rowE l p q

def edgeM (l : List (List Int)) (n : Nat) : List (List Int) := (List.range n).map (fun p => rowE l p (2 * l.length))

theorem rowE_length (l : List (List Int)) (p q : Nat) : (rowE l p q).length = 2 * l.length := by
 induction q with
 | zero => simp [rowE]
 | succ q ih => unfold rowE; split <;> simp [ih]

theorem edgeM_length (l : List (List Int)) (n : Nat) : (edgeM l n).length = n := by simp [edgeM]

theorem edgeM_succ (l : List (List Int)) (n : Nat) : edgeM l (n + 1) = edgeM l n ++ [rowE l n (2 * l.length)] := map_range_succ _ _

theorem rowE_rd (l : List (List Int)) (p : Nat) : ∀ (q j : Nat), q ≤ 2 * l.length → rd (rowE l p q) (j : Int) = if j < q ∧ next l p j = true then 1 else 0 := by
 intro q
 induction q with
 | zero =>
  intro j _
  rw [if_neg (by omega)]
  exact rd_replicate _ _
 | succ q ih =>
  intro j hq
  have hl := rowE_length l p q
  unfold rowE
  by_cases c : next l p q = true
  ·rw [if_pos c, rd_set (by omega)]
   by_cases e : j = q
   ·subst e
    rw [if_pos rfl, if_pos ⟨by omega, c⟩]
   ·rw [if_neg e, ih j (by omega)]
    by_cases c2 : j < q ∧ next l p j = true
    ·rw [if_pos c2, if_pos ⟨by omega, c2.2⟩]
    ·rw [if_neg c2, if_neg (fun x => c2 ⟨by omega, x.2⟩)]
  ·rw [if_neg c, ih j (by omega)]
   by_cases c2 : j < q ∧ next l p j = true
   ·rw [if_pos c2, if_pos ⟨by omega, c2.2⟩]
   ·rw [if_neg c2, if_neg (fun x => ?_)]
    by_cases e : j = q
    ·subst e; exact c x.2
    ·exact c2 ⟨by omega, x.2⟩

theorem next_split {l : List (List Int)} {p q : Nat} : next l p q = true ↔ hd l p = tl l q ∧ q ≠ inv p := by
 unfold next
 rw [Bool.and_eq_true, decide_eq_true_iff, decide_eq_true_iff]
/-- The matrix while row p is told up to the place q. -/
def stage (l : List (List Int)) (p q : Nat) : List (List Int) := edgeM l p ++ rowE l p q :: List.replicate (2 * l.length - (p + 1)) (List.replicate (2 * l.length) 0)

theorem stage_length (l : List (List Int)) (p q : Nat) (h : p < 2 * l.length) : (stage l p q).length = 2 * l.length := by
 simp [stage, edgeM_length]; omega

theorem stage_row (l : List (List Int)) (p q : Nat) : rd_L1 (stage l p q) (p : Int) = rowE l p q := by
 unfold stage
 rw [rl_lt (by simp [edgeM_length])]
 rw [List.getElem_append_right (by rw [edgeM_length]; omega)]
 simp [edgeM_length]

theorem stage_set (l : List (List Int)) (p q : Nat) (r : List Int) : (stage l p q).set p r = edgeM l p ++ r :: List.replicate (2 * l.length - (p + 1)) (List.replicate (2 * l.length) 0) := by
 unfold stage
 rw [List.set_append_right _ _ (by rw [edgeM_length]; omega), edgeM_length, Nat.sub_self, List.set_cons_zero]

theorem stage_zero (l : List (List Int)) : 0 < 2 * l.length → stage l 0 0 = zeros (2 * l.length) := by
 intro h
 unfold stage edgeM zeros rowE
 rw [show 2 * l.length - (0 + 1) = 2 * l.length - 1 by omega]
 simp only [List.range_zero, List.map_nil, List.nil_append]
 rw [← List.replicate_succ, Nat.sub_add_cancel (by omega)]

theorem stage_next (l : List (List Int)) (p : Nat) (h : p + 1 < 2 * l.length) : stage l p (2 * l.length) = stage l (p + 1) 0 := by
 unfold stage
 rw [edgeM_succ, show 2 * l.length - (p + 1) = (2 * l.length - (p + 1 + 1)) + 1 by omega, List.replicate_succ, List.append_assoc]
 rfl

theorem stage_last (l : List (List Int)) (p : Nat) (h : p + 1 = 2 * l.length) : stage l p (2 * l.length) = edgeM l (2 * l.length) := by
 unfold stage
 rw [show 2 * l.length - (p + 1) = 0 by omega, List.replicate_zero, ← edgeM_succ, h]

section
variable {n : Int} {l : List (List Int)} (h : isGraph n l = true)
include h

theorem implRow (p : Nat) (hp : p < 2 * l.length) (r : List (List Int)) (hr : Ev (fun k => impl_Graph_edgeMatrix.l0 k (stage l p (2 * l.length)) (2 * (l.length : Int)) ((p + 1 : Nat) : Int) n l) r) :
  ∀ (d q : Nat), q + d = 2 * l.length → Ev (fun k => impl_Graph_edgeMatrix.l1 k (stage l p q) (p : Int) (hd l p) (2 * (l.length : Int)) (p : Int) (2 * (l.length : Int)) (q : Int) n l) r := by
 obtain ⟨g1, g2, g3⟩ := graph_small h
 intro d
 induction d with
 | zero =>
  intro q hq
  have e : q = 2 * l.length := by omega
  refine Ev.succ ?_; simp only [impl_Graph_edgeMatrix.l1]
  rw [wrap_succ (i := p) (by omega), e]
  repeat (first | with_reducible exact Ev.now _ | dsimp only | refine Ev.pos (by first | omega | rfl | assumption | decide) ?_ | refine Ev.neg (by first | omega | assumption | exact Bool.false_ne_true | exact fun e => absurd e (by decide)) ?_ | simp only [bne_self_eq_false, Bool.not_true, Bool.not_false, List.length_cons, List.length_nil] | rw [wrap_id (by omega) (by omega)] | ((with_reducible refine Ev.eq (congrArg some ?_)); rfl))
  exact hr
 | succ d ih =>
  intro q hq
  have hi := ih (q + 1) (by omega)
  have he := implEnds h (show q < 2 * l.length by omega)
  have hx := xor_inv p (by omega)
  have hlen := rowE_length l p q
  have hs := stage_length l p q hp
  refine Ev.succ ?_; simp only [impl_Graph_edgeMatrix.l1]
  rw [wrap_succ (i := q) (by omega), hx, stage_row]
  by_cases c : next l p q = true
  ·have e2 : (stage l p q).set p ((rowE l p q).set q 1) = stage l p (q + 1) := by
    rw [stage_set]
    unfold stage
    rw [show rowE l p (q + 1) = (if next l p q = true then (rowE l p q).set q 1 else rowE l p q) from rfl, if_pos c]
   obtain ⟨c1, c2⟩ := next_split.1 c
   rw [Int.toNat_natCast, Int.toNat_natCast, e2]
   repeat (first | with_reducible exact Ev.now _ | dsimp only | with_reducible refine Ev.bind (Ev.eq he) ?_ | refine Ev.pos (by first | omega | rfl | assumption | decide) ?_ | refine Ev.neg (by first | omega | assumption | exact Bool.false_ne_true | exact fun e => absurd e (by decide)) ?_ | simp only [bne_self_eq_false, Bool.not_true, Bool.not_false, List.length_cons, List.length_nil] | rw [wrap_id (by omega) (by omega)] | with_reducible exact (Ev.eq he) | ((with_reducible refine Ev.eq (congrArg some ?_)); rfl))
   exact hi
  ·have e2 : stage l p q = stage l p (q + 1) := by
    unfold stage
    rw [show rowE l p (q + 1) = (if next l p q = true then (rowE l p q).set q 1 else rowE l p q) from rfl, if_neg c]
   rw [← e2] at hi
   by_cases c1 : hd l p = tl l q
   ·have c2 : q = inv p := by
     apply Classical.byContradiction
     intro e
     exact c (next_split.2 ⟨c1, e⟩)
    repeat (first | with_reducible exact Ev.now _ | dsimp only | with_reducible refine Ev.bind (Ev.eq he) ?_ | refine Ev.pos (by first | omega | rfl | assumption | decide) ?_ | refine Ev.neg (by first | omega | assumption | exact Bool.false_ne_true | exact fun e => absurd e (by decide)) ?_ | simp only [bne_self_eq_false, Bool.not_true, Bool.not_false, List.length_cons, List.length_nil] | rw [wrap_id (by omega) (by omega)] | with_reducible exact (Ev.eq he) | ((with_reducible refine Ev.eq (congrArg some ?_)); rfl))
    exact hi
   ·repeat (first | with_reducible exact Ev.now _ | dsimp only | with_reducible refine Ev.bind (Ev.eq he) ?_ | refine Ev.pos (by first | omega | rfl | assumption | decide) ?_ | refine Ev.neg (by first | omega | assumption | exact Bool.false_ne_true | exact fun e => absurd e (by decide)) ?_ | simp only [bne_self_eq_false, Bool.not_true, Bool.not_false, List.length_cons, List.length_nil] | rw [wrap_id (by omega) (by omega)] | with_reducible exact (Ev.eq he) | ((with_reducible refine Ev.eq (congrArg some ?_)); rfl))
    exact hi

theorem implEdgeM : Ev (fun k => impl_Graph_edgeMatrix.f k n l) (edgeM l (2 * l.length)) := by
 obtain ⟨g1, g2, g3⟩ := graph_small h
 have main : ∀ (d p : Nat), p + 1 + d = 2 * l.length → Ev (fun k => impl_Graph_edgeMatrix.l0 k (stage l p 0) (2 * (l.length : Int)) (p : Int) n l) (edgeM l (2 * l.length)) := by
  intro d
  induction d with
  | zero =>
   intro p hp
   have he := implEnds h (show p < 2 * l.length by omega)
   refine Ev.succ ?_; simp only [impl_Graph_edgeMatrix.l0]
   unfold impl_Graph_size.f
   repeat (first | with_reducible exact Ev.now _ | dsimp only | with_reducible refine Ev.bind (Ev.eq he) ?_ | with_reducible refine Ev.bind (Ev.now _) ?_ | refine Ev.pos (by first | omega | rfl | assumption | decide) ?_ | refine Ev.neg (by first | omega | assumption | exact Bool.false_ne_true | exact fun e => absurd e (by decide)) ?_ | simp only [bne_self_eq_false, Bool.not_true, Bool.not_false, List.length_cons, List.length_nil] | rw [wrap_id (by omega) (by omega)] | with_reducible exact (Ev.eq he) | with_reducible exact (Ev.now _) | ((with_reducible refine Ev.eq (congrArg some ?_)); rfl))
   refine implRow h p (by omega) _ ?_ (2 * l.length) 0 (by omega)
   rw [stage_last l p (by omega)]
   refine Ev.succ ?_; simp only [impl_Graph_edgeMatrix.l0]
   repeat (first | with_reducible exact Ev.now _ | dsimp only | refine Ev.pos (by first | omega | rfl | assumption | decide) ?_ | refine Ev.neg (by first | omega | assumption | exact Bool.false_ne_true | exact fun e => absurd e (by decide)) ?_ | simp only [bne_self_eq_false, Bool.not_true, Bool.not_false, List.length_cons, List.length_nil] | rw [wrap_id (by omega) (by omega)] | ((with_reducible refine Ev.eq (congrArg some ?_)); rfl))
  | succ d ih =>
   intro p hp
   have hi := ih (p + 1) (by omega)
   have he := implEnds h (show p < 2 * l.length by omega)
   refine Ev.succ ?_; simp only [impl_Graph_edgeMatrix.l0]
   unfold impl_Graph_size.f
   repeat (first | with_reducible exact Ev.now _ | dsimp only | with_reducible refine Ev.bind (Ev.eq he) ?_ | with_reducible refine Ev.bind (Ev.now _) ?_ | refine Ev.pos (by first | omega | rfl | assumption | decide) ?_ | refine Ev.neg (by first | omega | assumption | exact Bool.false_ne_true | exact fun e => absurd e (by decide)) ?_ | simp only [bne_self_eq_false, Bool.not_true, Bool.not_false, List.length_cons, List.length_nil] | rw [wrap_id (by omega) (by omega)] | with_reducible exact (Ev.eq he) | with_reducible exact (Ev.now _) | ((with_reducible refine Ev.eq (congrArg some ?_)); rfl))
   refine implRow h p (by omega) _ ?_ (2 * l.length) 0 (by omega)
   rw [stage_next l p (by omega)]
   exact hi
 unfold impl_Graph_edgeMatrix.f impl_Graph_size.f
 refine Ev.bind (Ev.now _) ?_
 rw [wrap_id (x := 2 * (l.length : Int)) (by omega) (by omega)]
 refine Ev.bind (implSquare (2 * (l.length : Int)) (by omega) (by omega)) ?_
 refine Ev.bind (Ev.now _) ?_
 rw [wrap_id (x := 2 * (l.length : Int)) (by omega) (by omega)]
 rw [show (2 * (l.length : Int)).toNat = 2 * l.length by omega]
 by_cases e : l.length = 0
 ·refine Ev.succ ?_; simp only [impl_Graph_edgeMatrix.l0]
  refine Ev.neg (by omega) ?_
  refine Ev.eq (congrArg some ?_)
  rw [e]
  rfl
 ·rw [← stage_zero l (by omega)]
  exact main (2 * l.length - 1) 0 (by omega)

end
/-- One where q may follow p. -/
def W (l : List (List Int)) (p q : Nat) : Int := if next l p q = true then 1 else 0

theorem W_range (l : List (List Int)) (p q : Nat) : 0 ≤ W l p q ∧ W l p q ≤ 1 := by
 unfold W
 split <;> decide

theorem edgeM_ofFn (l : List (List Int)) : edgeM l (2 * l.length) = ofFn (2 * l.length) (W l) := by
 unfold edgeM ofFn
 refine List.map_congr_left (fun p hp => ?_)
 refine list_ext_rd (by rw [rowE_length, rowOf_length]) (fun j hj => ?_)
 rw [rowE_length] at hj
 rw [rowE_rd l p _ j (Nat.le_refl _), rowOf_rd _ hj]
 unfold W
 by_cases c : next l p j = true
 ·rw [if_pos c, if_pos ⟨hj, c⟩]
 ·rw [if_neg c, if_neg (fun e => c e.2)]

/-- The row of the j-th power that belongs to p. -/
def vec (l : List (List Int)) (N p : Nat) : Nat → Nat → Int
 | 0, q => if q = p then 1 else 0
 | j + 1, q => Sm N (fun r => vec l N p j r * W l r q)

theorem vec_range (l : List (List Int)) (N p : Nat) (hN : N ≤ 20) : ∀ j q, 0 ≤ vec l N p j q ∧ vec l N p j q ≤ 20 ^ j := by
 intro j
 induction j with
 | zero =>
  intro q
  unfold vec
  split <;> decide
 | succ j ih =>
  intro q
  unfold vec
  have hle : ∀ r, r < N → vec l N p j r * W l r q ≤ 20 ^ j := fun r _ => by
   have h1 := ih r
   have h2 := W_range l r q
   have : vec l N p j r * W l r q ≤ vec l N p j r * 1 := Int.mul_le_mul_of_nonneg_left h2.2 h1.1
   omega
  refine ⟨Sm_nonneg (fun r _ => Int.mul_nonneg (ih r).1 (W_range l r q).1), ?_⟩
  have h3 := Sm_le hle
  have h4 : (N : Int) * 20 ^ j ≤ 20 * 20 ^ j := Int.mul_le_mul_of_nonneg_right (by omega) (Int.pow_nonneg (by decide))
  rw [Int.pow_succ, Int.mul_comm (20 ^ j) 20]
  omega

theorem Sm_pick (N : Nat) (f : Nat → Int) {p : Nat} (hp : p < N) : Sm N (fun r => (if r = p then 1 else 0) * f r) = f p := by
 induction N with
 | zero => omega
 | succ N ih =>
  show Sm N (fun r => (if r = p then 1 else 0) * f r) + (if N = p then 1 else 0) * f N = f p
  by_cases e : p = N
  ·subst e
   rw [if_pos rfl, Int.one_mul]
   have : Sm p (fun r => (if r = p then 1 else 0) * f r) = Sm p (fun _ => 0) := Sm_congr (fun i hi => by rw [if_neg (by omega), Int.zero_mul])
   rw [this, Sm_zero, Int.zero_add]
  ·rw [ih (by omega), if_neg (by omega), Int.zero_mul, Int.add_zero]

theorem pow20 {j : Nat} (h : j ≤ 13) : (20 : Int) ^ j ≤ 81920000000000000 := by
 have : ∀ i : Fin 14, (20 : Int) ^ i.val ≤ 81920000000000000 := by decide
 exact this ⟨j, by omega⟩

section
variable (n : Nat) (hn : n ≤ 1000) (a b : List (List Int)) (ha : Sq n a) (hb : Sq n b)

/-- The product's entry, of the k first places. -/
def part (k i j : Nat) : Int := wrap64 (Sm k (fun m => mat a i m * mat b m j))

/-- The result while row i is told from the places before k, and up to j from place k. -/
def rt (i k j : Nat) : List (List Int) := ofFn n (fun p q => if p < i then part a b n p q else if p = i then (if q < j then part a b (k + 1) p q else part a b k p q) else 0)

theorem rt_next (i k : Nat) : rt n a b i k n = rt n a b i (k + 1) 0 := by
 refine ofFn_congr (fun p q hp hq => ?_)
 by_cases c : p < i
 ·simp only [if_pos c]
 ·by_cases e : p = i
  ·simp only [if_neg c, if_pos e, if_pos hq, if_neg (Nat.not_lt_zero q)]
  ·simp only [if_neg c, if_neg e]

theorem part_zero (i j : Nat) : part a b 0 i j = 0 := by
 unfold part Sm
 exact wrap_id (by decide) (by decide)

theorem rt_row (i : Nat) : rt n a b i n 0 = rt n a b (i + 1) 0 0 := by
 refine ofFn_congr (fun p q hp hq => ?_)
 by_cases c : p < i
 ·rw [if_pos c, if_pos (by omega)]
 ·by_cases e : p = i
  ·rw [if_neg c, if_pos e, if_neg (by omega), if_pos (by omega)]
  ·rw [if_neg c, if_neg e, if_neg (by omega)]
   by_cases e2 : p = i + 1
   ·rw [if_pos e2, if_neg (by omega), part_zero]
   ·rw [if_neg e2]

theorem part_skip (k i j : Nat) (h : mat a i k = 0) : part a b (k + 1) i j = part a b k i j := by
 unfold part
 rw [show Sm (k + 1) (fun m => mat a i m * mat b m j) = Sm k (fun m => mat a i m * mat b m j) + mat a i k * mat b k j from rfl, h, Int.zero_mul, Int.add_zero]

theorem rt_skip (i k : Nat) (h : mat a i k = 0) : rt n a b i k 0 = rt n a b i (k + 1) 0 := by
 refine ofFn_congr (fun p q hp hq => ?_)
 by_cases c : p < i
 ·simp only [if_pos c]
 ·by_cases e : p = i
  ·subst e
   simp only [if_neg c, if_pos, if_neg (Nat.not_lt_zero q), part_skip a b k p q h]
  ·simp only [if_neg c, if_neg e]

theorem part_step (k i j : Nat) : wrap64 (part a b k i j + wrap64 (mat a i k * mat b k j)) = part a b (k + 1) i j := by
 unfold part
 rw [wrap_add_wrap]
 rfl

theorem rt_length (i k j : Nat) : (rt n a b i k j).length = n := ofFn_length _ _

theorem rt_at {i : Nat} (k j : Nat) (hi : i < n) : rd_L1 (rt n a b i k j) (i : Int) = rowOf n (fun q => if q < j then part a b (k + 1) i q else part a b k i q) := by
 unfold rt
 rw [ofFn_row _ hi]
 refine rowOf_congr (fun q hq => ?_)
 rw [if_neg (Nat.lt_irrefl i), if_pos rfl]

theorem rt_set {i j : Nat} (k : Nat) (hi : i < n) (hj : j < n) : (rt n a b i k j).set i ((rd_L1 (rt n a b i k j) (i : Int)).set j (wrap64 (rd (rd_L1 (rt n a b i k j) (i : Int)) (j : Int) + wrap64 (mat a i k * mat b k j)))) = rt n a b i k (j + 1) := by
 rw [rt_at n a b k j hi, rowOf_rd _ hj, if_neg (Nat.lt_irrefl j), part_step, rowOf_set _ _ hj]
 unfold rt
 rw [ofFn_set _ _ hi]
 refine ofFn_congr (fun p q hp hq => ?_)
 by_cases e : p = i
 ·subst e
  rw [if_pos rfl, if_neg (Nat.lt_irrefl p), if_pos rfl]
  by_cases e2 : q = j
  ·subst e2
   rw [if_pos rfl, if_pos (by omega)]
  ·rw [if_neg e2]
   by_cases c : q < j
   ·rw [if_pos c, if_pos (by omega)]
   ·rw [if_neg c, if_neg (by omega)]
 ·rw [if_neg e]
  by_cases c : p < i
  ·rw [if_pos c, if_pos c]
  ·rw [if_neg c, if_neg c, if_neg e, if_neg e]

include hn ha hb

theorem rtInner (i k : Nat) (hi : i < n) (hk : k < n) (r : List (List Int)) (hr : Ev (fun f => impl_rowsTimes.l1 f b (rt n a b i k n) (i : Int) a (n : Int) (i : Int) (rd_L1 a (i : Int)) (n : Int) ((k + 1 : Nat) : Int)) r) :
  ∀ (d j : Nat), j + d = n → Ev (fun f => impl_rowsTimes.l2 f b (rt n a b i k j) (i : Int) (mat a i k) a (n : Int) (i : Int) (rd_L1 a (i : Int)) (n : Int) (k : Int) (rd_L1 b (k : Int)) (n : Int) (j : Int)) r := by
 have hbl := hb.2 k hk
 intro d
 induction d with
 | zero =>
  intro j hj
  have e : j = n := by omega
  subst e
  refine Ev.succ ?_; simp only [impl_rowsTimes.l2]
  rw [wrap_succ (i := k) (by omega)]
  repeat (first | with_reducible exact Ev.now _ | dsimp only | refine Ev.pos (by first | omega | rfl | assumption | decide) ?_ | refine Ev.neg (by first | omega | assumption | exact Bool.false_ne_true | exact fun e => absurd e (by decide)) ?_ | simp only [bne_self_eq_false, Bool.not_true, Bool.not_false, List.length_cons, List.length_nil] | rw [wrap_id (by omega) (by omega)] | ((with_reducible refine Ev.eq (congrArg some ?_)); rfl))
  exact hr
 | succ d ih =>
  intro j hj
  have h1 := ih (j + 1) (by omega)
  have hl := rt_length n a b i k j
  have hrow : (rd_L1 (rt n a b i k j) (i : Int)).length = n := by rw [rt_at n a b k j hi, rowOf_length]
  have hset := rt_set n a b (i := i) (j := j) k hi (by omega)
  refine Ev.succ ?_; simp only [impl_rowsTimes.l2]
  rw [show rd (rd_L1 b (k : Int)) (j : Int) = mat b k j from rfl, Int.toNat_natCast, Int.toNat_natCast, hset, wrap_succ (i := j) (by omega)]
  repeat (first | with_reducible exact Ev.now _ | dsimp only | refine Ev.pos (by first | omega | rfl | assumption | decide) ?_ | refine Ev.neg (by first | omega | assumption | exact Bool.false_ne_true | exact fun e => absurd e (by decide)) ?_ | simp only [bne_self_eq_false, Bool.not_true, Bool.not_false, List.length_cons, List.length_nil] | rw [wrap_id (by omega) (by omega)] | ((with_reducible refine Ev.eq (congrArg some ?_)); rfl))
  exact h1

theorem rtMiddle (i : Nat) (hi : i < n) (r : List (List Int)) (hr : Ev (fun f => impl_rowsTimes.l0 f b (rt n a b (i + 1) 0 0) a (n : Int) ((i + 1 : Nat) : Int)) r) :
  ∀ (d k : Nat), k + d = n → Ev (fun f => impl_rowsTimes.l1 f b (rt n a b i k 0) (i : Int) a (n : Int) (i : Int) (rd_L1 a (i : Int)) (n : Int) (k : Int)) r := by
 have hal := ha.2 i hi
 have hbl := hb.1
 intro d
 induction d with
 | zero =>
  intro k hk
  have e : k = n := by omega
  refine Ev.succ ?_; simp only [impl_rowsTimes.l1]
  rw [e, rt_row, wrap_succ (i := i) (by omega)]
  repeat (first | with_reducible exact Ev.now _ | dsimp only | refine Ev.pos (by first | omega | rfl | assumption | decide) ?_ | refine Ev.neg (by first | omega | assumption | exact Bool.false_ne_true | exact fun e => absurd e (by decide)) ?_ | simp only [bne_self_eq_false, Bool.not_true, Bool.not_false, List.length_cons, List.length_nil] | rw [wrap_id (by omega) (by omega)] | ((with_reducible refine Ev.eq (congrArg some ?_)); rfl))
  exact hr
 | succ d ih =>
  intro k hk
  have h1 := ih (k + 1) (by omega)
  have hbk := hb.2 k (by omega)
  refine Ev.succ ?_; simp only [impl_rowsTimes.l1]
  rw [show rd (rd_L1 a (i : Int)) (k : Int) = mat a i k from rfl, wrap_succ (i := k) (by omega)]
  by_cases c : mat a i k = 0
  ·rw [← rt_skip n a b i k c] at h1
   repeat (first | with_reducible exact Ev.now _ | dsimp only | refine Ev.pos (by first | omega | rfl | assumption | decide) ?_ | refine Ev.neg (by first | omega | assumption | exact Bool.false_ne_true | exact fun e => absurd e (by decide)) ?_ | simp only [bne_self_eq_false, Bool.not_true, Bool.not_false, List.length_cons, List.length_nil] | rw [wrap_id (by omega) (by omega)] | ((with_reducible refine Ev.eq (congrArg some ?_)); rfl))
   exact h1
  ·rw [← rt_next] at h1
   repeat (first | with_reducible exact Ev.now _ | dsimp only | refine Ev.pos (by first | omega | rfl | assumption | decide) ?_ | refine Ev.neg (by first | omega | assumption | exact Bool.false_ne_true | exact fun e => absurd e (by decide)) ?_ | simp only [bne_self_eq_false, Bool.not_true, Bool.not_false, List.length_cons, List.length_nil] | rw [wrap_id (by omega) (by omega)] | ((with_reducible refine Ev.eq (congrArg some ?_)); rfl))
   rw [hbk]
   exact rtInner n hn a b ha hb i k hi (by omega) r h1 n 0 (by omega)

theorem rtOuter : ∀ (d i : Nat), i + d = n → Ev (fun f => impl_rowsTimes.l0 f b (rt n a b i 0 0) a (n : Int) (i : Int)) (ofFn n (part a b n)) := by
 have hal := ha.1
 intro d
 induction d with
 | zero =>
  intro i hi
  refine Ev.succ ?_; simp only [impl_rowsTimes.l0]
  have e : rt n a b i 0 0 = ofFn n (part a b n) := ofFn_congr (fun p q hp hq => if_pos (by omega))
  rw [e]
  repeat (first | with_reducible exact Ev.now _ | dsimp only | refine Ev.pos (by first | omega | rfl | assumption | decide) ?_ | refine Ev.neg (by first | omega | assumption | exact Bool.false_ne_true | exact fun e => absurd e (by decide)) ?_ | simp only [bne_self_eq_false, Bool.not_true, Bool.not_false, List.length_cons, List.length_nil] | rw [wrap_id (by omega) (by omega)] | ((with_reducible refine Ev.eq (congrArg some ?_)); rfl))
 | succ d ih =>
  intro i hi
  have h1 := ih (i + 1) (by omega)
  have hai := ha.2 i (by omega)
  refine Ev.succ ?_; simp only [impl_rowsTimes.l0]
  repeat (first | with_reducible exact Ev.now _ | dsimp only | refine Ev.pos (by first | omega | rfl | assumption | decide) ?_ | refine Ev.neg (by first | omega | assumption | exact Bool.false_ne_true | exact fun e => absurd e (by decide)) ?_ | simp only [bne_self_eq_false, Bool.not_true, Bool.not_false, List.length_cons, List.length_nil] | rw [wrap_id (by omega) (by omega)] | ((with_reducible refine Ev.eq (congrArg some ?_)); rfl))
  rw [hai]
  exact rtMiddle n hn a b ha hb i (by omega) _ h1 n 0 (by omega)

theorem rowsTimes : Ev (fun f => impl_rowsTimes.f f a b) (ofFn n (part a b n)) := by
 unfold impl_rowsTimes.f
 rw [ha.1]
 refine Ev.bind (implSquare (n : Int) (by omega) (by omega)) ?_
 have e : zeros (n : Int).toNat = rt n a b 0 0 0 := by
  rw [Int.toNat_natCast]
  apply List.ext_getElem
  ·rw [rt_length]; simp [zeros]
  ·intro k h1 h2
   rw [rt_length] at h2
   rw [← rl_lt, ← rl_lt]
   ·by_cases e : k = 0
    ·subst e
     rw [rt_at n a b 0 0 h2, rl_lt h1]
     simp only [zeros, List.getElem_replicate]
     rw [← rowOf_zero]
     refine rowOf_congr (fun q hq => ?_)
     rw [if_neg (by omega), part_zero]
    ·unfold rt
     rw [ofFn_row _ h2, rl_lt h1]
     simp only [zeros, List.getElem_replicate]
     rw [← rowOf_zero]
     refine rowOf_congr (fun q hq => ?_)
     rw [if_neg (by omega), if_neg e]
 rw [e]
 exact rtOuter n hn a b ha hb n 0 (by omega)

omit hb in
end
theorem specNext {n : Int} {l : List (List Int)} (h : isGraph n l = true) {p q : Nat} (hp : p < 2 * l.length) (hq : q < 2 * l.length) : spec_l03Next.f n l (p : Int) (q : Int) = some (next l p q) := by
 obtain ⟨g1, g2, g3⟩ := graph_small h
 unfold spec_l03Next.f next
 rw [specEnds h hp, specEnds h hq, Option.bind_some, Option.bind_some, half p (by omega), half q (by omega)]
 by_cases c : hd l p = tl l q
 ·rw [if_pos c, decide_eq_true c, Bool.true_and]
  unfold inv
  by_cases c2 : ((p / 2 : Nat) : Int) = ((q / 2 : Nat) : Int)
  ·rw [if_pos c2]
   by_cases c3 : p = q
   ·rw [c3]
    simp
    split <;> omega
   ·rw [show ((p : Int) == (q : Int)) = false from beq_eq_false_iff_ne.2 (by omega)]
    congr 1
    symm
    rw [decide_eq_false_iff_not, Decidable.not_not]
    split <;> omega
  ·rw [if_neg c2]
   congr 1
   symm
   rw [decide_eq_true_iff]
   split <;> omega
 ·rw [if_neg c, decide_eq_false c, Bool.false_and]
section
variable {n : Int} {l : List (List Int)} (h : isGraph n l = true)

/-- The next row, told from the places before r, and up to q from place r. -/
def vrow (l : List (List Int)) (N : Nat) (v : Nat → Int) (r q : Nat) : List Int := rowOf N (fun j => if j < q then Sm (r + 1) (fun m => v m * W l m j) else Sm r (fun m => v m * W l m j))

theorem vrow_length (N : Nat) (v : Nat → Int) (r q : Nat) : (vrow l N v r q).length = N := rowOf_length _ _

theorem vrow_next (N : Nat) (v : Nat → Int) (r : Nat) : vrow l N v r N = vrow l N v (r + 1) 0 := by
 refine rowOf_congr (fun j hj => ?_)
 rw [if_pos hj, if_neg (by omega)]

theorem vrow_skip (N : Nat) (v : Nat → Int) (r : Nat) (h0 : v r = 0) : vrow l N v r 0 = vrow l N v (r + 1) 0 := by
 refine rowOf_congr (fun j hj => ?_)
 rw [if_neg (by omega), if_neg (by omega)]
 show _ = Sm r _ + v r * W l r j
 rw [h0, Int.zero_mul, Int.add_zero]

theorem vrow_rd (N : Nat) (v : Nat → Int) (r q : Nat) (hq : q < N) : rd (vrow l N v r q) (q : Int) = Sm r (fun m => v m * W l m q) := by
 unfold vrow
 rw [rowOf_rd _ hq, if_neg (by omega)]

theorem vrow_set (N : Nat) (v : Nat → Int) (r q : Nat) (hq : q < N) : (vrow l N v r q).set q (Sm (r + 1) (fun m => v m * W l m q)) = vrow l N v r (q + 1) := by
 unfold vrow
 rw [rowOf_set _ _ hq]
 refine rowOf_congr (fun j hj => ?_)
 by_cases e : j = q
 ·subst e
  rw [if_pos rfl, if_pos (by omega)]
 ·rw [if_neg e]
  by_cases c : j < q
  ·rw [if_pos c, if_pos (by omega)]
  ·rw [if_neg c, if_neg (by omega)]

theorem vrow_none (N : Nat) (v : Nat → Int) (r q : Nat) (hc : ¬ next l r q = true) : vrow l N v r q = vrow l N v r (q + 1) := by
 refine rowOf_congr (fun j hj => ?_)
 by_cases e : j = q
 ·subst e
  rw [if_neg (by omega), if_pos (by omega)]
  show _ = Sm r _ + v r * W l r j
  unfold W
  rw [if_neg hc, Int.mul_zero, Int.add_zero]
 ·by_cases c : j < q
  ·rw [if_pos c, if_pos (by omega)]
  ·rw [if_neg c, if_neg (by omega)]

include h

theorem specStep (k : Int) (M : List (List Int)) (p : Int) (v : Nat → Int) (B : Int) (hB : B ≤ 100000000000000000) (hv : ∀ r, r < 2 * l.length → 0 ≤ v r ∧ v r ≤ B) (x9 : Int) (res : List (List Int)) (hr : Ev (fun f => spec_l03Rows.l1 f k (2 * (l.length : Int)) M p (vrow l (2 * l.length) v (2 * l.length) 0) (wrap64 (x9 + 1)) n l) res) :
  ∀ (d r : Nat), r + d = 2 * l.length → Ev (fun f => spec_l03Rows.l2 f k (2 * (l.length : Int)) M p (rowOf (2 * l.length) v) x9 (vrow l (2 * l.length) v r 0) (r : Int) n l) res := by
 obtain ⟨g1, g2, g3⟩ := graph_small h
 have hlen : (rowOf (2 * l.length) v).length = 2 * l.length := rowOf_length _ _
 intro d
 induction d with
 | zero =>
  intro r hr'
  have e : r = 2 * l.length := by omega
  subst e
  refine Ev.succ ?_; simp only [spec_l03Rows.l2]
  repeat (first | with_reducible exact Ev.now _ | dsimp only | refine Ev.pos (by first | omega | rfl | assumption | decide) ?_ | refine Ev.neg (by first | omega | assumption | exact Bool.false_ne_true | exact fun e => absurd e (by decide)) ?_ | simp only [bne_self_eq_false, Bool.not_true, Bool.not_false, List.length_cons, List.length_nil] | rw [wrap_id (by omega) (by omega)] | ((with_reducible refine Ev.eq (congrArg some ?_)); rfl))
  exact hr
 | succ d ih =>
  intro r hr'
  have h1 := ih (r + 1) (by omega)
  have hvr := hv r (by omega)
  have erd : rd (rowOf (2 * l.length) v) (r : Int) = v r := rowOf_rd _ (by omega)
  have hsum : ∀ j, 0 ≤ Sm r (fun m => v m * W l m j) ∧ Sm r (fun m => v m * W l m j) ≤ 2000000000000000000 := fun j => by
   refine ⟨Sm_nonneg (fun m hm => Int.mul_nonneg (hv m (by omega)).1 (W_range l m j).1), ?_⟩
   have : Sm r (fun m => v m * W l m j) ≤ r * 100000000000000000 := Sm_le (fun m hm => by
    have h1 := hv m (by omega)
    have h2 := W_range l m j
    have : v m * W l m j ≤ v m * 1 := Int.mul_le_mul_of_nonneg_left h2.2 h1.1
    omega)
   omega
  have inner : ∀ (d q : Nat), 0 < v r → q + d = 2 * l.length → Ev (fun f => spec_l03Rows.l3 f k (2 * (l.length : Int)) M p (rowOf (2 * l.length) v) x9 (vrow l (2 * l.length) v r q) (r : Int) (q : Int) n l) res := by
   intro d
   induction d with
   | zero =>
    intro q hpos hq
    have e : q = 2 * l.length := by omega
    subst e
    refine Ev.succ ?_; simp only [spec_l03Rows.l3]
    refine Ev.neg (by omega) ?_
    refine Ev.succ ?_; simp only [spec_l03Rows.j4]
    rw [wrap_succ (i := r) (by omega), vrow_next]
    repeat (first | with_reducible exact Ev.now _ | dsimp only | refine Ev.pos (by first | omega | rfl | assumption | decide) ?_ | refine Ev.neg (by first | omega | assumption | exact Bool.false_ne_true | exact fun e => absurd e (by decide)) ?_ | simp only [bne_self_eq_false, Bool.not_true, Bool.not_false, List.length_cons, List.length_nil] | rw [wrap_id (by omega) (by omega)] | ((with_reducible refine Ev.eq (congrArg some ?_)); rfl))
    exact h1
   | succ d ih2 =>
    intro q hpos hq
    have h2 := ih2 (q + 1) hpos (by omega)
    have hn := specNext h (show r < 2 * l.length by omega) (show q < 2 * l.length by omega)
    have hvl := vrow_length (l := l) (2 * l.length) v r q
    refine Ev.succ ?_; simp only [spec_l03Rows.l3]
    rw [erd, decide_eq_true (show v r > 0 from hpos)]
    repeat (first | with_reducible exact Ev.now _ | dsimp only | refine Ev.pos (by first | omega | rfl | assumption | decide) ?_ | refine Ev.neg (by first | omega | assumption | exact Bool.false_ne_true | exact fun e => absurd e (by decide)) ?_ | simp only [bne_self_eq_false, Bool.not_true, Bool.not_false, List.length_cons, List.length_nil] | rw [wrap_id (by omega) (by omega)] | ((with_reducible refine Ev.eq (congrArg some ?_)); rfl))
    refine Ev.succ ?_; simp only [spec_l03Rows.j4]
    rw [erd, wrap_succ (i := q) (by omega), vrow_rd _ _ _ _ (by omega)]
    by_cases c : next l r q = true
    ·have hs := hsum q
     have e1 : Sm (r + 1) (fun m => v m * W l m q) = Sm r (fun m => v m * W l m q) + v r := by
      show Sm r _ + v r * W l r q = _
      unfold W
      rw [if_pos c, Int.mul_one]
     rw [wrap_id (x := Sm r (fun m => v m * W l m q) + v r) (by omega) (by omega), ← e1, Int.toNat_natCast, vrow_set _ _ _ _ (by omega)]
     rw [c] at hn
     repeat (first | with_reducible exact Ev.now _ | dsimp only | with_reducible refine Ev.bind (Ev.eq hn) ?_ | refine Ev.pos (by first | omega | rfl | assumption | decide) ?_ | refine Ev.neg (by first | omega | assumption | exact Bool.false_ne_true | exact fun e => absurd e (by decide)) ?_ | simp only [bne_self_eq_false, Bool.not_true, Bool.not_false, List.length_cons, List.length_nil] | rw [wrap_id (by omega) (by omega)] | with_reducible exact (Ev.eq hn) | ((with_reducible refine Ev.eq (congrArg some ?_)); rfl))
     exact h2
    ·have hn' := hn
     rw [Bool.not_eq_true] at c
     rw [c] at hn'
     rw [← vrow_none (l := l) _ v r q (by rw [c]; decide)] at h2
     repeat (first | with_reducible exact Ev.now _ | dsimp only | with_reducible refine Ev.bind (Ev.eq hn') ?_ | refine Ev.pos (by first | omega | rfl | assumption | decide) ?_ | refine Ev.neg (by first | omega | assumption | exact Bool.false_ne_true | exact fun e => absurd e (by decide)) ?_ | simp only [bne_self_eq_false, Bool.not_true, Bool.not_false, List.length_cons, List.length_nil] | rw [wrap_id (by omega) (by omega)] | with_reducible exact (Ev.eq hn') | ((with_reducible refine Ev.eq (congrArg some ?_)); rfl))
     exact h2
  refine Ev.succ ?_; simp only [spec_l03Rows.l2]
  refine Ev.pos (by omega) ?_
  by_cases c : 0 < v r
  ·exact inner (2 * l.length) 0 c (by omega)
  ·rw [← vrow_skip _ v r (by omega)] at h1
   refine Ev.succ ?_; simp only [spec_l03Rows.l3]
   rw [erd, decide_eq_false (show ¬ v r > 0 by omega)]
   refine Ev.pos (by omega) ?_
   refine Ev.pos (by omega) ?_
   refine Ev.pos (by omega) ?_
   refine Ev.succ ?_; simp only [spec_l03Rows.j4]
   rw [wrap_succ (i := r) (by omega)]
   repeat (first | with_reducible exact Ev.now _ | dsimp only | refine Ev.pos (by first | omega | rfl | assumption | decide) ?_ | refine Ev.neg (by first | omega | assumption | exact Bool.false_ne_true | exact fun e => absurd e (by decide)) ?_ | simp only [bne_self_eq_false, Bool.not_true, Bool.not_false, List.length_cons, List.length_nil] | rw [wrap_id (by omega) (by omega)] | ((with_reducible refine Ev.eq (congrArg some ?_)); rfl))
   exact h1

/-- The rows of the power k - 1. -/
theorem specRowsOf (k : Nat) (hk : 1 ≤ k ∧ k ≤ 12) : Ev (fun f => spec_l03Rows.f f n l (k : Int)) (ofFn (2 * l.length) (fun p => vec l (2 * l.length) p (k - 1))) := by
 obtain ⟨g1, g2, g3⟩ := graph_small h
 have steps : ∀ (M : List (List Int)) (p : Nat) (res : List (List Int)), M.length ≤ 20 → p < 2 * l.length → Ev (fun f => spec_l03Rows.l0 f (k : Int) (2 * (l.length : Int)) (M ++ [rowOf (2 * l.length) (vec l (2 * l.length) p (k - 1))]) ((p + 1 : Nat) : Int) n l) res →
   ∀ (d j : Nat), j + 1 + d = k → Ev (fun f => spec_l03Rows.l1 f (k : Int) (2 * (l.length : Int)) M (p : Int) (rowOf (2 * l.length) (vec l (2 * l.length) p j)) ((j + 1 : Nat) : Int) n l) res := by
  intro M p res hM hp hres d
  induction d with
  | zero =>
   intro j hj
   have e : j = k - 1 := by omega
   subst e
   refine Ev.succ ?_; simp only [spec_l03Rows.l1]
   rw [wrap_succ (i := p) (by omega)]
   repeat (first | with_reducible exact Ev.now _ | dsimp only | refine Ev.pos (by first | omega | rfl | assumption | decide) ?_ | refine Ev.neg (by first | omega | assumption | exact Bool.false_ne_true | exact fun e => absurd e (by decide)) ?_ | simp only [bne_self_eq_false, Bool.not_true, Bool.not_false, List.length_cons, List.length_nil] | rw [wrap_id (by omega) (by omega)] | ((with_reducible refine Ev.eq (congrArg some ?_)); rfl))
   exact hres
  | succ d ih =>
   intro j hj
   have h1 := ih (j + 1) (by omega)
   have hb := fun r (_ : r < 2 * l.length) => vec_range l (2 * l.length) p (by omega) j r
   have hB := pow20 (show j ≤ 13 by omega)
   refine Ev.succ ?_; simp only [spec_l03Rows.l1]
   rw [show (2 * (l.length : Int)).toNat = 2 * l.length by omega, ← rowOf_zero]
   repeat (first | with_reducible exact Ev.now _ | dsimp only | refine Ev.pos (by first | omega | rfl | assumption | decide) ?_ | refine Ev.neg (by first | omega | assumption | exact Bool.false_ne_true | exact fun e => absurd e (by decide)) ?_ | simp only [bne_self_eq_false, Bool.not_true, Bool.not_false, List.length_cons, List.length_nil] | rw [wrap_id (by omega) (by omega)] | ((with_reducible refine Ev.eq (congrArg some ?_)); rfl))
   refine specStep h (k : Int) M (p : Int) (vec l (2 * l.length) p j) (20 ^ j) (by omega) hb _ _ ?_ (2 * l.length) 0 (by omega)
   rw [wrap_succ (by omega)]
   have e : vrow l (2 * l.length) (vec l (2 * l.length) p j) (2 * l.length) 0 = rowOf (2 * l.length) (vec l (2 * l.length) p (j + 1)) := rowOf_congr (fun q hq => if_neg (by omega))
   rw [e]
   exact h1
 have main : ∀ (d p : Nat), p + d = 2 * l.length → Ev (fun f => spec_l03Rows.l0 f (k : Int) (2 * (l.length : Int)) ((List.range p).map (fun p => rowOf (2 * l.length) (vec l (2 * l.length) p (k - 1)))) (p : Int) n l) (ofFn (2 * l.length) (fun p => vec l (2 * l.length) p (k - 1))) := by
  intro d
  induction d with
  | zero =>
   intro p hp
   have e : p = 2 * l.length := by omega
   subst e
   refine Ev.succ ?_; simp only [spec_l03Rows.l0]
   refine Ev.neg (by omega) ?_
   exact Ev.now _
  | succ d ih =>
   intro p hp
   have h1 := ih (p + 1) (by omega)
   rw [map_range_succ] at h1
   have h2 := steps _ p _ (by simp; omega) (by omega) h1 (k - 1) 0 (by omega)
   refine Ev.succ ?_; simp only [spec_l03Rows.l0]
   rw [show (2 * (l.length : Int)).toNat = 2 * l.length by omega, ← rowOf_zero, Int.toNat_natCast]
   have hl : (rowOf (2 * l.length) (fun _ => 0)).length = 2 * l.length := rowOf_length _ _
   repeat (first | with_reducible exact Ev.now _ | dsimp only | with_reducible refine Ev.bind (Ev.now _) ?_ | refine Ev.pos (by first | omega | rfl | assumption | decide) ?_ | refine Ev.neg (by first | omega | assumption | exact Bool.false_ne_true | exact fun e => absurd e (by decide)) ?_ | simp only [bne_self_eq_false, Bool.not_true, Bool.not_false, List.length_cons, List.length_nil] | rw [wrap_id (by omega) (by omega)] | with_reducible exact (Ev.now _) | ((with_reducible refine Ev.eq (congrArg some ?_)); rfl))
   rw [rowOf_set _ _ (by omega)]
   have e : rowOf (2 * l.length) (fun j => if j = p then 1 else 0) = rowOf (2 * l.length) (vec l (2 * l.length) p 0) := rfl
   rw [e]
   exact h2
 unfold spec_l03Rows.f
 rw [wrap_id (x := 2 * (l.length : Int)) (by omega) (by omega)]
 exact main (2 * l.length) 0 (by omega)

end
/-- 1: no graph; 2: no length from lo to 12; 0: both are well. -/
def codeL (n : Int) (l : List (List Int)) (a lo : Int) : Int := if isGraph n l = true then (if lo ≤ a ∧ a ≤ 12 then 0 else 2) else 1

theorem specLength (n : Int) (l : List (List Int)) (a lo : Int) (hl : Mod l) : Ev (fun k => spec_l03Length.f k n l a lo) (codeL n l a lo) := by
 have h1 := specIs n l hl
 have hc := specIn a lo 12
 unfold spec_l03Length.f codeL
 by_cases hg : isGraph n l = true
 ·rw [hg] at h1
  rw [if_pos hg]
  by_cases c : lo ≤ a ∧ a ≤ 12
  ·rw [decide_eq_true c] at hc
   rw [if_pos c]
   repeat (first | with_reducible exact Ev.now _ | dsimp only | with_reducible refine Ev.bind (h1) ?_ | with_reducible refine Ev.bind (Ev.eq hc) ?_ | refine Ev.pos (by first | omega | rfl | assumption | decide) ?_ | refine Ev.neg (by first | omega | assumption | exact Bool.false_ne_true | exact fun e => absurd e (by decide)) ?_ | simp only [bne_self_eq_false, Bool.not_true, Bool.not_false, List.length_cons, List.length_nil] | rw [wrap_id (by omega) (by omega)] | with_reducible exact (h1) | with_reducible exact (Ev.eq hc) | ((with_reducible refine Ev.eq (congrArg some ?_)); rfl))
  ·rw [decide_eq_false c] at hc
   rw [if_neg c]
   repeat (first | with_reducible exact Ev.now _ | dsimp only | with_reducible refine Ev.bind (h1) ?_ | with_reducible refine Ev.bind (Ev.eq hc) ?_ | refine Ev.pos (by first | omega | rfl | assumption | decide) ?_ | refine Ev.neg (by first | omega | assumption | exact Bool.false_ne_true | exact fun e => absurd e (by decide)) ?_ | simp only [bne_self_eq_false, Bool.not_true, Bool.not_false, List.length_cons, List.length_nil] | rw [wrap_id (by omega) (by omega)] | with_reducible exact (h1) | with_reducible exact (Ev.eq hc) | ((with_reducible refine Ev.eq (congrArg some ?_)); rfl))
 ·rw [Bool.not_eq_true] at hg
  rw [hg] at h1
  rw [if_neg (by rw [hg]; decide)]
  repeat (first | with_reducible exact Ev.now _ | dsimp only | with_reducible refine Ev.bind (h1) ?_ | refine Ev.pos (by first | omega | rfl | assumption | decide) ?_ | refine Ev.neg (by first | omega | assumption | exact Bool.false_ne_true | exact fun e => absurd e (by decide)) ?_ | simp only [bne_self_eq_false, Bool.not_true, Bool.not_false, List.length_cons, List.length_nil] | rw [wrap_id (by omega) (by omega)] | with_reducible exact (h1) | ((with_reducible refine Ev.eq (congrArg some ?_)); rfl))

theorem codeL_zero {n : Int} {l : List (List Int)} {a lo : Int} (h : codeL n l a lo = 0) : isGraph n l = true ∧ lo ≤ a ∧ a ≤ 12 := by
 unfold codeL at h
 by_cases hg : isGraph n l = true
 ·rw [if_pos hg] at h
  by_cases c : lo ≤ a ∧ a ≤ 12
  ·exact ⟨hg, c⟩
  ·rw [if_neg c] at h
   cases h
 ·rw [if_neg hg] at h
  cases h

theorem implIsLength (a : Int) : impl_isLength.f a = some (decide (1 ≤ a ∧ a ≤ 12)) := by
 unfold impl_isLength.f
 rw [implWithin]
 rfl
theorem zeros_ofFn (n : Nat) : zeros n = ofFn n (fun _ _ => 0) := by
 show List.replicate n (List.replicate n 0) = (List.range n).map (fun _ => rowOf n (fun _ => 0))
 rw [rowOf_zero]
 simp [List.map_const']

/-- Ones on the diagonal, up to s. -/
def dgM (N s : Nat) : List (List Int) := ofFn N (fun i j => if i = j ∧ i < s then 1 else 0)

theorem dgM_length (N s : Nat) : (dgM N s).length = N := ofFn_length _ _

theorem dgM_zero (N : Nat) : zeros N = dgM N 0 := by
 rw [zeros_ofFn]
 exact ofFn_congr (fun i j _ _ => (if_neg (by omega)).symm)

theorem dgM_row (N s : Nat) (hs : s < N) : rd_L1 (dgM N s) (s : Int) = rowOf N (fun _ => 0) := by
 unfold dgM
 rw [ofFn_row _ hs]
 exact rowOf_congr (fun j _ => if_neg (by omega))

theorem dgM_set (N s : Nat) (hs : s < N) : (dgM N s).set s ((rd_L1 (dgM N s) (s : Int)).set s 1) = dgM N (s + 1) := by
 rw [dgM_row N s hs, rowOf_set _ _ hs]
 unfold dgM
 rw [ofFn_set _ _ hs]
 refine ofFn_congr (fun i j hi hj => ?_)
 by_cases c : i = s
 ·subst c
  rw [if_pos rfl]
  by_cases c2 : j = i
  ·rw [if_pos c2, if_pos ⟨c2.symm, by omega⟩]
  ·rw [if_neg c2, if_neg (fun z => c2 z.1.symm)]
 ·rw [if_neg c]
  by_cases c2 : i = j ∧ i < s
  ·rw [if_pos c2, if_pos ⟨c2.1, by omega⟩]
  ·rw [if_neg c2, if_neg (fun z => c2 ⟨z.1, by omega⟩)]

/-- The vertices where a directed edge begins and ends. -/
def bv (l : List (List Int)) (e : Nat) : Nat := (tl l e).toNat
def ev (l : List (List Int)) (e : Nat) : Nat := (hd l e).toNat

section
variable (l : List (List Int)) (m : Nat) (R : Nat → Nat → Int)

/-- The sum for v and w, over all rows before a and over row a up to b. -/
def S2 (a b v w : Nat) : Int := Sm a (fun p => if bv l p = v then Sm (2 * l.length) (fun q => if ev l q = w then R p q else 0) else 0) + (if bv l a = v then Sm b (fun q => if ev l q = w then R a q else 0) else 0)

def outM (a b : Nat) : List (List Int) := ofFn m (fun v w => wrap64 (S2 l R a b v w))
def rowS (a b : Nat) : List Int := rowOf m (fun w => wrap64 (S2 l R a b (bv l a) w))

theorem outM_length (a b : Nat) : (outM l m R a b).length = m := ofFn_length _ _
theorem rowS_length (a b : Nat) : (rowS l m R a b).length = m := rowOf_length _ _

theorem outM_row (a b : Nat) (ha : bv l a < m) : rd_L1 (outM l m R a b) ((bv l a : Nat) : Int) = rowS l m R a b := ofFn_row _ ha

theorem rowS_set (a b : Nat) (hb : ev l b < m) : (rowS l m R a b).set (ev l b) (wrap64 (rd (rowS l m R a b) ((ev l b : Nat) : Int) + R a b)) = rowS l m R a (b + 1) := by
 unfold rowS
 rw [rowOf_rd _ hb, rowOf_set _ _ hb, wrap_add_left]
 refine rowOf_congr (fun w hw => ?_)
 have e : S2 l R a (b + 1) (bv l a) w = S2 l R a b (bv l a) w + (if ev l b = w then R a b else 0) := by
  unfold S2
  rw [if_pos rfl, if_pos rfl]
  exact (Int.add_assoc _ _ _).symm
 by_cases c : w = ev l b
 ·rw [if_pos c, e, if_pos c.symm, c]
 ·rw [if_neg c, e, if_neg (fun z => c z.symm), Int.add_zero]

theorem outM_set (a b b' : Nat) (ha : bv l a < m) : (outM l m R a b).set (bv l a) (rowS l m R a b') = outM l m R a b' := by
 unfold outM rowS
 rw [ofFn_set _ _ ha]
 refine ofFn_congr (fun v w hv hw => ?_)
 by_cases c : v = bv l a
 ·rw [if_pos c, c]
 ·rw [if_neg c]
  unfold S2
  rw [if_neg (fun z => c z.symm), if_neg (fun z => c z.symm)]

theorem outM_next (a : Nat) : outM l m R a (2 * l.length) = outM l m R (a + 1) 0 := by
 refine ofFn_congr (fun v w hv hw => ?_)
 congr 1
 unfold S2
 show _ = (_ + _) + (if bv l (a + 1) = v then 0 else 0)
 have : (if bv l (a + 1) = v then (0 : Int) else 0) = 0 := by split <;> rfl
 rw [this, Int.add_zero]

theorem outM_zero : outM l m R 0 0 = zeros m := by
 rw [zeros_ofFn]
 refine ofFn_congr (fun v w hv hw => ?_)
 have : S2 l R 0 0 v w = 0 := by
  unfold S2
  show 0 + (if bv l 0 = v then 0 else 0) = (0 : Int)
  split <;> rfl
 rw [this]
 exact wrap_id (by decide) (by decide)

end

section
variable {n : Int} {l : List (List Int)} (h : isGraph n l = true) (m : Nat) (hm : n = (m : Int)) (R : Nat → Nat → Int)
include h hm

theorem ends_ok {e : Nat} (he : e < 2 * l.length) : tl l e = ((bv l e : Nat) : Int) ∧ bv l e < m ∧ hd l e = ((ev l e : Nat) : Int) ∧ ev l e < m := by
 obtain ⟨e2, a, b, ea, eb, ha, hb⟩ := graph_edge h (show e / 2 < l.length by omega)
 have h1 : 0 ≤ tl l e ∧ tl l e < n := by
  unfold tl
  split
  ·rw [eb]; omega
  ·rw [ea]; omega
 have h2 : 0 ≤ hd l e ∧ hd l e < n := by
  unfold hd
  split
  ·rw [ea]; omega
  ·rw [eb]; omega
 unfold bv ev
 omega

theorem imAdd (a : Nat) (ha : a < 2 * l.length) (X : List (List Int)) (r : List (List Int)) (hr : Ev (fun k => impl_Graph_walkMatrix.l3 k (outM l m R (a + 1) 0) X ((2 * l.length : Nat) : Int) ((a + 1 : Nat) : Int) n l) r) :
  ∀ (d b : Nat), b + d = 2 * l.length → Ev (fun k => impl_Graph_walkMatrix.l4 k (outM l m R a b) X ((bv l a : Nat) : Int) ((2 * l.length : Nat) : Int) (a : Int) (rowOf (2 * l.length) (R a)) ((2 * l.length : Nat) : Int) (b : Int) n l) r := by
 obtain ⟨g1, g2, g3⟩ := graph_small h
 obtain ⟨t1, t2, _, _⟩ := ends_ok h m hm ha
 have hrl : (rowOf (2 * l.length) (R a)).length = 2 * l.length := rowOf_length _ _
 intro d
 induction d with
 | zero =>
  intro b hb
  obtain rfl : b = 2 * l.length := by omega
  refine Ev.succ ?_; simp only [impl_Graph_walkMatrix.l4]
  rw [outM_next, wrap_succ (i := a) (by omega)]
  exact Ev.neg (by omega) hr
 | succ d ih =>
  intro b hb
  have h1 := ih (b + 1) (by omega)
  have he := implEnds h (show b < 2 * l.length by omega)
  obtain ⟨_, _, u1, u2⟩ := ends_ok h m hm (show b < 2 * l.length by omega)
  have hl := rowS_length l m R a b
  have hol := outM_length l m R a b
  have hval : rd (rowOf (2 * l.length) (R a)) (b : Int) = R a b := rowOf_rd _ (by omega)
  refine Ev.succ ?_; simp only [impl_Graph_walkMatrix.l4]
  rw [he, hval, wrap_succ (i := b) (by omega), outM_row l m R a b t2]
  refine Ev.pos (by omega) (Ev.pos (by omega) (Ev.pos (by omega) (Ev.bind (Ev.now _) (Ev.pos (by omega) (Ev.pos (by omega) ?_)))))
  show Ev (fun k => if 0 ≤ hd l b then _ else _) r
  rw [u1, Int.toNat_natCast, Int.toNat_natCast, rowS_set l m R a b u2, outM_set l m R a b (b + 1) t2]
  exact Ev.pos (by omega) (Ev.pos (by omega) h1)

theorem imAddAll : ∀ (d a : Nat), a + d = 2 * l.length → Ev (fun k => impl_Graph_walkMatrix.l3 k (outM l m R a 0) (ofFn (2 * l.length) R) ((2 * l.length : Nat) : Int) (a : Int) n l) (outM l m R (2 * l.length) 0) := by
 obtain ⟨g1, g2, g3⟩ := graph_small h
 have hrl : (ofFn (2 * l.length) R).length = 2 * l.length := ofFn_length _ _
 intro d
 induction d with
 | zero =>
  intro a ha
  obtain rfl : a = 2 * l.length := by omega
  refine Ev.succ ?_; simp only [impl_Graph_walkMatrix.l3]
  exact Ev.neg (by omega) (Ev.now _)
 | succ d ih =>
  intro a ha
  have h1 := ih (a + 1) (by omega)
  have he := implEnds h (show a < 2 * l.length by omega)
  obtain ⟨t1, t2, _, _⟩ := ends_ok h m hm (show a < 2 * l.length by omega)
  have h2 := imAdd h m hm R a (by omega) (ofFn (2 * l.length) R) _ h1 (2 * l.length) 0 (by omega)
  refine Ev.succ ?_; simp only [impl_Graph_walkMatrix.l3]
  rw [he, ofFn_row _ (show a < 2 * l.length by omega), rowOf_length]
  refine Ev.pos (by omega) (Ev.pos (by omega) (Ev.pos (by omega) (Ev.bind (Ev.now _) ?_)))
  show Ev (fun k => impl_Graph_walkMatrix.l4 k _ _ (tl l a) _ _ _ _ _ _ _) _
  rw [t1]
  exact h2

end

section
variable {n : Int} {l : List (List Int)} (h : isGraph n l = true) (m : Nat) (hm : n = (m : Int)) (k : Nat) (hk : k ≤ 12)
include h hm hk

/-- The reference makes the rows: zero rows, or those of the one. -/
def mkM (m k i : Nat) : List (List Int) := (List.range i).map (fun p => rowOf m (fun q => if k = 0 ∧ q = p then 1 else 0))

omit h hm hk in
theorem mkM_one : mkM m 0 m = dgM m m := by
 unfold mkM dgM ofFn
 refine List.map_congr_left (fun p hp => ?_)
 have := List.mem_range.1 hp
 refine rowOf_congr (fun q hq => ?_)
 show (if 0 = 0 ∧ q = p then (1 : Int) else 0) = if p = q ∧ p < m then 1 else 0
 by_cases c : q = p
 ·rw [if_pos ⟨rfl, c⟩, if_pos ⟨c.symm, this⟩]
 ·rw [if_neg (fun z => c z.2), if_neg (fun z => c z.1.symm)]

omit h hm hk in
theorem mkM_none (hk0 : k ≠ 0) : mkM m k m = zeros m := by
 rw [zeros_ofFn]
 unfold mkM ofFn
 exact List.map_congr_left (fun p _ => rowOf_congr (fun q _ => if_neg (fun z => hk0 z.1)))

/-- The answer. -/
def wmR (l : List (List Int)) (m k : Nat) : List (List Int) := if k = 0 then dgM m m else outM l m (fun p q => vec l (2 * l.length) p (k - 1) q) (2 * l.length) 0

omit hk in
theorem implOne : ∀ (d i : Nat), i + d = m → Ev (fun f => impl_Graph_walkMatrix.l0 f (dgM m i) (m : Int) (i : Int)) (dgM m m) := by
 obtain ⟨g1, g2, g3⟩ := graph_small h
 intro d
 induction d with
 | zero =>
  intro i hi
  obtain rfl : i = m := by omega
  refine Ev.succ ?_; simp only [impl_Graph_walkMatrix.l0]
  exact Ev.neg (by omega) (Ev.now _)
 | succ d ih =>
  intro i hi
  have h1 := ih (i + 1) (by omega)
  have hl := dgM_length m i
  have hr : (rd_L1 (dgM m i) (i : Int)).length = m := by rw [dgM_row m i (by omega), rowOf_length]
  refine Ev.succ ?_; simp only [impl_Graph_walkMatrix.l0]
  rw [Int.toNat_natCast i, dgM_set m i (by omega), wrap_succ (i := i) (by omega)]
  exact Ev.pos (by omega) (Ev.pos (by omega) (Ev.pos (by omega) (Ev.pos (by omega) h1)))

omit hm in
theorem implPowers (hk1 : 1 ≤ k) (Y : List (List Int)) (r : List (List Int)) (hr : Ev (fun f => impl_Graph_walkMatrix.l3 f Y (ofFn (2 * l.length) (fun p q => vec l (2 * l.length) p (k - 1) q)) ((2 * l.length : Nat) : Int) 0 n l) r) :
  ∀ (d t : Nat), t + d = k - 1 → Ev (fun f => impl_Graph_walkMatrix.l2 f Y (ofFn (2 * l.length) (W l)) (ofFn (2 * l.length) (fun p q => vec l (2 * l.length) p t q)) ((k - 1 : Nat) : Int) (t : Int) n l) r := by
 obtain ⟨g1, g2, g3⟩ := graph_small h
 have hSq : Sq (2 * l.length) (ofFn (2 * l.length) (W l)) := Sq_ofFn _ _
 intro d
 induction d with
 | zero =>
  intro t ht
  obtain rfl : t = k - 1 := by omega
  have hl : (ofFn (2 * l.length) (fun p q => vec l (2 * l.length) p (k - 1) q)).length = 2 * l.length := ofFn_length _ _
  refine Ev.succ ?_; simp only [impl_Graph_walkMatrix.l2]
  rw [hl]
  exact Ev.neg (by omega) hr
 | succ d ih =>
  intro t ht
  have h1 := ih (t + 1) (by omega)
  have hP : Sq (2 * l.length) (ofFn (2 * l.length) (fun p q => vec l (2 * l.length) p t q)) := Sq_ofFn _ _
  have hmm := rowsTimes (2 * l.length) (by omega) _ _ hP hSq
  have em : ofFn (2 * l.length) (part (ofFn (2 * l.length) (fun p q => vec l (2 * l.length) p t q)) (ofFn (2 * l.length) (W l)) (2 * l.length)) = ofFn (2 * l.length) (fun p q => vec l (2 * l.length) p (t + 1) q) := by
   refine ofFn_congr (fun p q hp hq => ?_)
   unfold part
   have e1 : Sm (2 * l.length) (fun m => mat (ofFn (2 * l.length) (fun p q => vec l (2 * l.length) p t q)) p m * mat (ofFn (2 * l.length) (W l)) m q) = vec l (2 * l.length) p (t + 1) q := Sm_congr (fun m hm => by rw [ofFn_mat _ hp hm, ofFn_mat _ hm hq])
   have hb := vec_range l (2 * l.length) p (by omega) (t + 1) q
   have := pow20 (show t + 1 ≤ 13 by omega)
   rw [e1, wrap_id (by omega) (by omega)]
  rw [em] at hmm
  refine Ev.succ ?_; simp only [impl_Graph_walkMatrix.l2]
  rw [wrap_succ (i := t) (by omega)]
  exact Ev.pos (by omega) (Ev.bind hmm h1)

omit hm in
theorem implDiag (hk1 : 1 ≤ k) (Y : List (List Int)) (r : List (List Int)) (hr : Ev (fun f => impl_Graph_walkMatrix.l2 f Y (ofFn (2 * l.length) (W l)) (dgM (2 * l.length) (2 * l.length)) ((k - 1 : Nat) : Int) 0 n l) r) :
  ∀ (d i : Nat), i + d = 2 * l.length → Ev (fun f => impl_Graph_walkMatrix.l1 f (k : Int) Y (ofFn (2 * l.length) (W l)) (dgM (2 * l.length) i) ((2 * l.length : Nat) : Int) (i : Int) n l) r := by
 obtain ⟨g1, g2, g3⟩ := graph_small h
 intro d
 induction d with
 | zero =>
  intro i hi
  obtain rfl : i = 2 * l.length := by omega
  refine Ev.succ ?_; simp only [impl_Graph_walkMatrix.l1]
  rw [wrap_id (x := (k : Int) - 1) (by omega) (by omega), show (k : Int) - 1 = ((k - 1 : Nat) : Int) by omega]
  exact Ev.neg (by omega) hr
 | succ d ih =>
  intro i hi
  have h1 := ih (i + 1) (by omega)
  have hl := dgM_length (2 * l.length) i
  have hrw : (rd_L1 (dgM (2 * l.length) i) (i : Int)).length = 2 * l.length := by rw [dgM_row _ i (by omega), rowOf_length]
  refine Ev.succ ?_; simp only [impl_Graph_walkMatrix.l1]
  rw [Int.toNat_natCast i, dgM_set _ i (by omega), wrap_succ (i := i) (by omega)]
  exact Ev.pos (by omega) (Ev.pos (by omega) (Ev.pos (by omega) (Ev.pos (by omega) h1)))

omit h hm hk in
theorem dgM_vec : dgM (2 * l.length) (2 * l.length) = ofFn (2 * l.length) (fun p q => vec l (2 * l.length) p 0 q) := by
 refine ofFn_congr (fun p q hp hq => ?_)
 show _ = if q = p then (1 : Int) else 0
 by_cases c : q = p
 ·rw [if_pos c, if_pos ⟨c.symm, hp⟩]
 ·rw [if_neg c, if_neg (fun z => c z.1.symm)]

theorem implWalkM : Ev (fun f => impl_Graph_walkMatrix.f f n l (k : Int)) (wmR l m k) := by
 obtain ⟨g1, g2, g3⟩ := graph_small h
 have hs := implSquare n (by omega) (by omega)
 rw [show n.toNat = m by omega] at hs
 unfold impl_Graph_walkMatrix.f impl_Graph_size.f
 refine Ev.bind hs ?_
 unfold wmR
 by_cases c : k = 0
 ·rw [if_pos c, dgM_zero, dgM_length]
  subst c
  exact Ev.pos rfl (implOne h m hm m 0 (by omega))
 ·rw [if_neg c]
  have hE := implEdgeM h
  rw [edgeM_ofFn] at hE
  have h2 := implSquare (2 * (l.length : Int)) (by omega) (by omega)
  rw [show (2 * (l.length : Int)).toNat = 2 * l.length by omega, dgM_zero] at h2
  have h3 := imAddAll h m hm (fun p q => vec l (2 * l.length) p (k - 1) q) (2 * l.length) 0 (by omega)
  rw [outM_zero] at h3
  have h4 := implPowers h k hk (by omega) _ _ h3 (k - 1) 0 (by omega)
  rw [← dgM_vec] at h4
  have h5 := implDiag h k hk (by omega) _ _ h4 (2 * l.length) 0 (by omega)
  refine Ev.neg (by omega) (Ev.bind hE (Ev.bind (Ev.now _) ?_))
  rw [wrap_id (x := 2 * (l.length : Int)) (by omega) (by omega)]
  refine Ev.bind h2 ?_
  rw [dgM_length]
  exact h5

end
theorem Sm_mono {n : Nat} {f g : Nat → Int} (h : ∀ i, i < n → f i ≤ g i) : Sm n f ≤ Sm n g := by
 induction n with
 | zero => exact Int.le_refl _
 | succ n ih =>
  have h1 := ih (fun i hi => h i (by omega))
  have h2 := h n (by omega)
  unfold Sm
  omega

theorem Sm_one {n : Nat} {f : Nat → Int} (h : ∀ i, i < n → 0 ≤ f i) {i : Nat} (hi : i < n) : f i ≤ Sm n f := by
 induction n with
 | zero => omega
 | succ n ih =>
  have h2 := h n (by omega)
  have h3 := Sm_nonneg (n := n) (f := f) (fun i hi => h i (by omega))
  unfold Sm
  by_cases e : i = n
  ·subst e; omega
  ·have := ih (fun i hi => h i (by omega)) (by omega)
   omega

theorem Sm_pick1 {n p : Nat} (hp : p < n) : Sm n (fun r => if r = p then 1 else 0) = 1 := by
 have := Sm_pick n (fun _ => 1) hp
 simpa using this

theorem Sm_const (n : Nat) (c : Int) : Sm n (fun _ => c) = n * c := by
 induction n with
 | zero => simp [Sm]
 | succ n ih => unfold Sm; rw [ih, Int.natCast_add, Int.add_mul]; simp

theorem inv_even (m : Nat) : inv (2 * m) = 2 * m + 1 := by unfold inv; rw [if_pos (by omega)]
theorem inv_odd (m : Nat) : inv (2 * m + 1) = 2 * m := by unfold inv; rw [if_neg (by omega)]; omega
theorem inv_inv (p : Nat) : inv (inv p) = p := by
 unfold inv
 split <;> split <;> omega
theorem inv_lt {p m : Nat} (h : p < 2 * m) : inv p < 2 * m := by
 unfold inv
 split <;> omega

theorem Sm_inv (m : Nat) (f : Nat → Int) : Sm (2 * m) (fun q => f (inv q)) = Sm (2 * m) f := by
 induction m with
 | zero => rfl
 | succ m ih =>
  show Sm (2 * m) (fun q => f (inv q)) + f (inv (2 * m)) + f (inv (2 * m + 1)) = Sm (2 * m) f + f (2 * m) + f (2 * m + 1)
  rw [ih, inv_even, inv_odd]
  omega

theorem hd_inv (l : List (List Int)) (p : Nat) : hd l (inv p) = tl l p := by
 unfold hd tl inv
 split <;> split <;> (try omega)
 ·rename_i h1 h2
  rw [if_neg (by omega), show (p + 1) / 2 = p / 2 by omega]
 ·rename_i h1 h2
  rw [if_pos (by omega), show (p - 1) / 2 = p / 2 by omega]

theorem tl_inv (l : List (List Int)) (p : Nat) : tl l (inv p) = hd l p := by rw [← hd_inv, inv_inv]

theorem next_inv (l : List (List Int)) (p q : Nat) (h : next l p q = true) : next l (inv q) (inv p) = true := by
 rw [next_split] at h ⊢
 rw [hd_inv, tl_inv]
 refine ⟨h.1.symm, fun e => h.2 ?_⟩
 rw [inv_inv] at e
 rw [e]

section
variable (l : List (List Int)) (v : Int)

/-- Walks from v of t + 1 edges with the last one q; all walks of t + 1 edges; the edges that can follow p. -/
def aw (t q : Nat) : Int := Sm (2 * l.length) (fun p => if tl l p = v then vec l (2 * l.length) p t q else 0)
def cw (t : Nat) : Int := Sm (2 * l.length) (aw l v t)
def od (p : Nat) : Int := Sm (2 * l.length) (W l p)

theorem od_nonneg (p : Nat) : 0 ≤ od l p := Sm_nonneg (fun q _ => (W_range l p q).1)

theorem od_pos {p q : Nat} (hq : q < 2 * l.length) (h : next l p q = true) : 1 ≤ od l p := by
 have := Sm_one (f := W l p) (fun q _ => (W_range l p q).1) hq
 unfold W at this
 rw [if_pos h] at this
 exact this

theorem aw_nonneg (hl : l.length ≤ 10) (t q : Nat) : 0 ≤ aw l v t q := Sm_nonneg (fun p _ => by
 split
 ·exact (vec_range l _ p (by omega) t q).1
 ·exact Int.le_refl _)

theorem aw_zero {q : Nat} (hq : q < 2 * l.length) : aw l v 0 q = if tl l q = v then 1 else 0 := by
 have := Sm_pick (2 * l.length) (fun p => if tl l p = v then (1 : Int) else 0) hq
 rw [← this]
 refine Sm_congr (fun p _ => ?_)
 show (if tl l p = v then (if q = p then (1 : Int) else 0) else 0) = (if p = q then 1 else 0) * (if tl l p = v then 1 else 0)
 by_cases e : p = q
 ·subst e
  simp
 ·rw [if_neg (show ¬ q = p from fun z => e z.symm), if_neg e]
  simp

theorem aw_succ (t q : Nat) : aw l v (t + 1) q = Sm (2 * l.length) (fun r => aw l v t r * W l r q) := by
 have e : ∀ r, aw l v t r * W l r q = Sm (2 * l.length) (fun p => (if tl l p = v then vec l (2 * l.length) p t r else 0) * W l r q) := fun r => (Sm_mul_right _ _ _).symm
 rw [Sm_congr (fun r _ => e r), ← Sm_swap]
 refine Sm_congr (fun p _ => ?_)
 split
 ·rfl
 ·simp only [Int.zero_mul]
  exact (Sm_zero _).symm

theorem cw_succ (t : Nat) : cw l v (t + 1) = Sm (2 * l.length) (fun r => aw l v t r * od l r) := by
 unfold cw
 rw [Sm_congr (fun q _ => aw_succ l v t q), Sm_swap]
 exact Sm_congr (fun r _ => Sm_mul_left _ _ _)

theorem cw_nonneg (hl : l.length ≤ 10) (t : Nat) : 0 ≤ cw l v t := Sm_nonneg (fun q _ => aw_nonneg l v hl t q)

theorem cw_zero (hl : l.length ≤ 10) : cw l v 0 ≤ 20 := by
 have : cw l v 0 ≤ (2 * l.length : Nat) * 1 := Sm_le (fun q hq => by
  rw [aw_zero l v hq]
  split <;> decide)
 omega

theorem cw_le (hl : l.length ≤ 10) (M : Nat) (hM : ∀ r, r < 2 * l.length → od l r ≤ M) : ∀ t, cw l v t ≤ ((20 * M ^ t : Nat) : Int) := by
 intro t
 induction t with
 | zero => exact cw_zero l v hl
 | succ t ih =>
  rw [cw_succ]
  have h1 : Sm (2 * l.length) (fun r => aw l v t r * od l r) ≤ Sm (2 * l.length) (fun r => aw l v t r * M) := Sm_mono (fun r hr => Int.mul_le_mul_of_nonneg_left (hM r hr) (aw_nonneg l v hl t r))
  rw [Sm_mul_right] at h1
  have h2 : cw l v t * M ≤ ((20 * M ^ t : Nat) : Int) * M := Int.mul_le_mul_of_nonneg_right ih (by omega)
  have e : 20 * M ^ (t + 1) = 20 * M ^ t * M := by rw [Nat.pow_succ, Nat.mul_assoc]
  rw [e, Int.natCast_mul]
  unfold cw at h2
  omega

/-- Edges that none can follow. -/
def dd0 : Int := Sm (2 * l.length) (fun q => if od l q = 0 then 1 else 0)

theorem dd0_range : 0 ≤ dd0 l ∧ dd0 l ≤ (2 * l.length : Nat) := by
 refine ⟨Sm_nonneg (fun q _ => by split <;> decide), ?_⟩
 have : dd0 l ≤ (2 * l.length : Nat) * 1 := Sm_le (fun q _ => by split <;> decide)
 omega

theorem dd0_zero (h : dd0 l = 0) {r : Nat} (hr : r < 2 * l.length) : 1 ≤ od l r := by
 have h1 := Sm_one (f := fun q => if od l q = 0 then 1 else 0) (fun q _ => by split <;> decide) hr
 have h2 := od_nonneg l r
 unfold dd0 at h
 rw [h] at h1
 by_cases e : od l r = 0
 ·simp only [e, if_true] at h1
  omega
 ·omega

theorem od_dd0 {p : Nat} (hp : p < 2 * l.length) (h0 : od l p ≠ 0) : od l p + dd0 l + 1 ≤ (2 * l.length : Nat) := by
 have e1 := Sm_inv l.length (fun q => if od l q = 0 then 1 else 0)
 have e2 := Sm_pick1 (inv_lt hp)
 have h1 : Sm (2 * l.length) (fun q => W l p q + (if od l (inv q) = 0 then 1 else 0) + (if q = inv p then 1 else 0)) ≤ Sm (2 * l.length) (fun _ => 1) := by
  refine Sm_mono (fun q hq => ?_)
  unfold W
  by_cases c : next l p q = true
  ·have c1 := od_pos l (inv_lt hp) (next_inv l p q c)
   rw [next_split] at c
   rw [if_pos (by rw [next_split]; exact c), if_neg (by omega), if_neg c.2]
   decide
  ·rw [if_neg c]
   by_cases c2 : q = inv p
   ·subst c2
    rw [inv_inv, if_neg h0, if_pos rfl]
    decide
   ·rw [if_neg c2]
    split <;> decide
 rw [Sm_add, Sm_add, e1, e2, Sm_const] at h1
 unfold od dd0
 omega

theorem cw_live (hl : l.length ≤ 10) (t : Nat) : cw l v (t + 1) ≤ cw l v (t + 2) + dd0 l * cw l v t := by
 have e : cw l v (t + 2) + dd0 l * cw l v t = Sm (2 * l.length) (fun r => aw l v (t + 1) r * od l r + (if od l r = 0 then 1 else 0) * cw l v t) := by
  rw [Sm_add, Sm_mul_right, cw_succ]
  rfl
 rw [e]
 refine Sm_mono (fun q hq => ?_)
 have h1 := aw_nonneg l v hl (t + 1) q
 have h2 := od_nonneg l q
 by_cases c : od l q = 0
 ·rw [if_pos c, c, aw_succ]
  have : Sm (2 * l.length) (fun r => aw l v t r * W l r q) ≤ Sm (2 * l.length) (aw l v t) := Sm_mono (fun r _ => by
   have : aw l v t r * W l r q ≤ aw l v t r * 1 := Int.mul_le_mul_of_nonneg_left (W_range l r q).2 (aw_nonneg l v hl t r)
   omega)
  unfold cw
  omega
 ·rw [if_neg c]
  have : aw l v (t + 1) q * 1 ≤ aw l v (t + 1) q * od l q := Int.mul_le_mul_of_nonneg_left (by omega) h1
  omega

theorem cw_up (hl : l.length ≤ 10) (h : dd0 l = 0) (t : Nat) : ∀ d, cw l v t ≤ cw l v (t + d) := by
 intro d
 induction d with
 | zero => exact Int.le_refl _
 | succ d ih =>
  refine Int.le_trans ih ?_
  show _ ≤ cw l v (t + d + 1)
  rw [cw_succ]
  refine Sm_mono (fun r hr => ?_)
  have : aw l v (t + d) r * 1 ≤ aw l v (t + d) r * od l r := Int.mul_le_mul_of_nonneg_left (dd0_zero l h hr) (aw_nonneg l v hl _ r)
  omega

theorem od_le (hl : l.length ≤ 10) (r : Nat) (hr : r < 2 * l.length) : od l r ≤ ((19 - (dd0 l).toNat : Nat) : Int) := by
 have h1 := dd0_range l
 by_cases c : od l r = 0
 ·omega
 ·have := od_dd0 l hr c
  omega

/-- No count on the way is great, if the last one is small. -/
theorem cw_small (hl : l.length ≤ 10) (k : Nat) (hk : k ≤ 11) (h : cw l v k ≤ 400) : ∀ t, t ≤ k → cw l v t ≤ 5000000000000 := by
 intro t ht
 by_cases e : t = k
 ·subst e; omega
 have hd := dd0_range l
 by_cases c : dd0 l = 0
 ·have := cw_up l v hl c t (k - t)
  rw [show t + (k - t) = k by omega] at this
  omega
 have hM : (19 - (dd0 l).toNat : Nat) ≤ 18 := by omega
 have h9 := fun t => cw_le l v hl _ (od_le l hl) t
 by_cases c9 : t ≤ 9
 ·have h1 := h9 t
  have h2 : (19 - (dd0 l).toNat : Nat) ^ t ≤ 18 ^ 9 := Nat.le_trans (Nat.pow_le_pow_left hM t) (Nat.pow_le_pow_right (by decide) c9)
  have h3 : (18 : Nat) ^ 9 = 198359290368 := by decide
  rw [h3] at h2
  omega
 ·have e1 : t = 10 := by omega
  have e2 : k = 11 := by omega
  subst e1 e2
  have h1 := cw_live l v hl 9
  have h2 := h9 9
  have h3 : dd0 l * cw l v 9 ≤ dd0 l * ((20 * (19 - (dd0 l).toNat : Nat) ^ 9 : Nat) : Int) := Int.mul_le_mul_of_nonneg_left h2 hd.1
  obtain ⟨D, hD⟩ := Int.eq_ofNat_of_zero_le hd.1
  rw [hD] at h3 hd c
  have hD20 : D ≤ 20 := by omega
  have h4 : ∀ D, D < 21 → D * (20 * (19 - D) ^ 9) ≤ 4800000000000 := by decide
  have h5 := h4 D (by omega)
  have h6 : ((D : Int) * ((20 * (19 - D) ^ 9 : Nat) : Int)) = ((D * (20 * (19 - D) ^ 9) : Nat) : Int) := by simp
  rw [Int.toNat_natCast, h6] at h3
  rw [hD] at h1
  have h7 : cw l v (9 + 2) ≤ 400 := h
  have h8 : cw l v 10 ≤ cw l v (9 + 2) + D * cw l v 9 := h1
  omega

end
/-- The last edge. -/
def lastE (ws : List Int) : Nat := (rd ws ((ws.length - 1 : Nat) : Int)).toNat

theorem rd_snoc (ws : List Int) (q : Int) : rd (ws ++ [q]) ((ws.length : Nat) : Int) = q := by
 rw [rd_lt (by simp)]
 simp

theorem lastE_snoc (ws : List Int) (q : Nat) : lastE (ws ++ [(q : Int)]) = q := by
 unfold lastE
 rw [List.length_append, List.length_singleton, Nat.add_sub_cancel, rd_snoc, Int.toNat_natCast]

theorem flat_congr {α β : Type} {f g : α → List β} {L : List α} (h : ∀ a ∈ L, f a = g a) : L.flatMap f = L.flatMap g := by
 induction L with
 | nil => rfl
 | cons a L ih => rw [List.flatMap_cons, List.flatMap_cons, h a (by simp), ih (fun b hb => h b (by simp [hb]))]

def cnt (q : Nat) : List (List Int) → Int
 | [] => 0
 | ws :: L => (if lastE ws = q then 1 else 0) + cnt q L

theorem cnt_append (q : Nat) (A B : List (List Int)) : cnt q (A ++ B) = cnt q A + cnt q B := by
 induction A with
 | nil => simp [cnt]
 | cons ws A ih =>
  show (if lastE ws = q then 1 else 0) + cnt q (A ++ B) = (if lastE ws = q then 1 else 0) + cnt q A + cnt q B
  rw [ih]
  omega

theorem len_cnt (N : Nat) (L : List (List Int)) (h : ∀ ws ∈ L, lastE ws < N) : (L.length : Int) = Sm N (fun q => cnt q L) := by
 induction L with
 | nil => exact (Sm_zero N).symm
 | cons ws L ih =>
  have e : Sm N (fun q => cnt q (ws :: L)) = Sm N (fun q => (if q = lastE ws then 1 else 0) + cnt q L) := Sm_congr (fun q _ => by
   show (if lastE ws = q then (1 : Int) else 0) + _ = _
   by_cases c : lastE ws = q
   ·rw [if_pos c, if_pos c.symm]
   ·rw [if_neg c, if_neg (fun z => c z.symm)])
  rw [e, Sm_add, Sm_pick1 (h ws (by simp)), ← ih (fun w hw => h w (by simp [hw])), List.length_cons]
  omega

theorem cnt_sel (P : Nat → Bool) (f : Nat → List Int) (hf : ∀ a, lastE (f a) = a) (q : Nat) : ∀ m, cnt q (((List.range m).filter P).map f) = if q < m ∧ P q = true then 1 else 0 := by
 intro m
 induction m with
 | zero => rfl
 | succ m ih =>
  rw [List.range_succ, List.filter_append, List.map_append, cnt_append, ih]
  by_cases c : P m = true
  ·rw [List.filter_cons_of_pos c]
   show _ + ((if lastE (f m) = q then 1 else 0) + 0) = _
   rw [hf]
   by_cases e : m = q
   ·subst e
    rw [if_neg (by omega), if_pos rfl, if_pos ⟨by omega, c⟩]
    rfl
   ·rw [if_neg e]
    by_cases e2 : q < m ∧ P q = true
    ·rw [if_pos e2, if_pos ⟨by omega, e2.2⟩]
     rfl
    ·rw [if_neg e2, if_neg (fun z => e2 ⟨by omega, z.2⟩)]
     rfl
  ·rw [List.filter_cons_of_neg c]
   show _ + 0 = _
   by_cases e2 : q < m ∧ P q = true
   ·rw [if_pos e2, if_pos ⟨by omega, e2.2⟩]
    rfl
   ·rw [if_neg e2, if_neg (fun z => e2 ⟨by
     have : q ≠ m := fun e => c (e ▸ z.2)
     omega, z.2⟩)]
    rfl

section
variable (l : List (List Int)) (v : Int)

/-- A walk's longer ones; a list's; those of one edge; those of t + 1 edges. -/
def ext1 (ws : List Int) : List (List Int) := ((List.range (2 * l.length)).filter (fun q => next l (lastE ws) q)).map (fun q : Nat => ws ++ [(q : Int)])
def longer (L : List (List Int)) : List (List Int) := L.flatMap (ext1 l)
def one0 : List (List Int) := ((List.range (2 * l.length)).filter (fun a => decide (tl l a = v))).map (fun a : Nat => [(a : Int)])
def Lw : Nat → List (List Int)
 | 0 => one0 l v
 | t + 1 => longer l (Lw t)

/-- A walk as it is made: its entries are directed edges, it is not empty, and not long. -/
def good (m : Nat) (ws : List Int) : Prop := ws.length = m ∧ lastE ws < 2 * l.length ∧ rd ws ((ws.length - 1 : Nat) : Int) = ((lastE ws : Nat) : Int)

theorem good_snoc {m : Nat} {ws : List Int} (h : ws.length = m) {q : Nat} (hq : q < 2 * l.length) : good l (m + 1) (ws ++ [(q : Int)]) := by
 refine ⟨by rw [List.length_append, h]; rfl, by rw [lastE_snoc]; exact hq, ?_⟩
 rw [lastE_snoc, List.length_append, List.length_singleton, Nat.add_sub_cancel, rd_snoc]

theorem good_ext1 {m : Nat} {ws : List Int} (h : good l m ws) : ∀ x ∈ ext1 l ws, good l (m + 1) x := by
 intro x hx
 simp only [ext1, List.mem_map, List.mem_filter, List.mem_range] at hx
 obtain ⟨q, ⟨hq, _⟩, rfl⟩ := hx
 exact good_snoc l h.1 hq

theorem good_longer {m : Nat} {L : List (List Int)} (h : ∀ ws ∈ L, good l m ws) : ∀ x ∈ longer l L, good l (m + 1) x := by
 intro x hx
 simp only [longer, List.mem_flatMap] at hx
 obtain ⟨ws, hw, hx⟩ := hx
 exact good_ext1 l (h ws hw) x hx

theorem good_one0 : ∀ x ∈ one0 l v, good l 1 x := by
 intro x hx
 simp only [one0, List.mem_map, List.mem_filter, List.mem_range] at hx
 obtain ⟨q, ⟨hq, _⟩, rfl⟩ := hx
 exact good_snoc l (ws := []) rfl hq

theorem good_Lw : ∀ t, ∀ x ∈ Lw l v t, good l (t + 1) x
 | 0 => good_one0 l v
 | t + 1 => good_longer l (good_Lw t)

theorem cnt_longer {m : Nat} (L : List (List Int)) (h : ∀ ws ∈ L, good l m ws) {q : Nat} (hq : q < 2 * l.length) : cnt q (longer l L) = Sm (2 * l.length) (fun r => cnt r L * W l r q) := by
 induction L with
 | nil =>
  show 0 = Sm (2 * l.length) (fun r => 0 * W l r q)
  rw [Sm_mul_left, Int.zero_mul]
 | cons ws L ih =>
  show cnt q (ext1 l ws ++ longer l L) = Sm (2 * l.length) (fun r => ((if lastE ws = r then 1 else 0) + cnt r L) * W l r q)
  have e : Sm (2 * l.length) (fun r => ((if lastE ws = r then 1 else 0) + cnt r L) * W l r q) = Sm (2 * l.length) (fun r => (if r = lastE ws then 1 else 0) * W l r q + cnt r L * W l r q) := Sm_congr (fun r _ => by
   rw [Int.add_mul]
   by_cases c : lastE ws = r
   ·rw [if_pos c, if_pos c.symm]
   ·rw [if_neg c, if_neg (fun z => c z.symm)])
  rw [cnt_append, e, Sm_add, Sm_pick _ _ (h ws (by simp)).2.1, ih (fun w hw => h w (by simp [hw]))]
  have : cnt q (ext1 l ws) = W l (lastE ws) q := by
   unfold ext1 W
   rw [cnt_sel _ _ (fun a => lastE_snoc ws a)]
   by_cases c : next l (lastE ws) q = true
   ·rw [if_pos ⟨hq, c⟩, if_pos c]
   ·rw [if_neg (fun z => c z.2), if_neg c]
  rw [this]

theorem cnt_Lw : ∀ (t : Nat) {q : Nat}, q < 2 * l.length → cnt q (Lw l v t) = aw l v t q := by
 intro t
 induction t with
 | zero =>
  intro q hq
  rw [aw_zero l v hq]
  show cnt q (one0 l v) = _
  unfold one0
  rw [cnt_sel _ (fun a : Nat => [(a : Int)]) (fun a => lastE_snoc [] a)]
  by_cases c : tl l q = v
  ·rw [if_pos ⟨hq, decide_eq_true c⟩, if_pos c]
  ·rw [if_neg (fun z => c (of_decide_eq_true z.2)), if_neg c]
 | succ t ih =>
  intro q hq
  show cnt q (longer l (Lw l v t)) = _
  rw [cnt_longer l _ (good_Lw l v t) hq, aw_succ]
  exact Sm_congr (fun r hr => by rw [ih hr])

theorem len_Lw (t : Nat) : ((Lw l v t).length : Int) = cw l v t := by
 rw [len_cnt (2 * l.length) _ (fun ws hw => (good_Lw l v t ws hw).2.1)]
 exact Sm_congr (fun q hq => cnt_Lw l v t hq)

/-- All walks that go on from ws with d edges more. -/
def wk : Nat → List Int → List (List Int)
 | 0, ws => [ws]
 | d + 1, ws => ((List.range (2 * l.length)).filter (fun q => if ws.length = 0 then decide (tl l q = v) else next l (lastE ws) q)).flatMap (fun q : Nat => wk d (ws ++ [(q : Int)]))

def longerN : Nat → List (List Int) → List (List Int)
 | 0, L => L
 | d + 1, L => longerN d (longer l L)

theorem longerN_append : ∀ (d : Nat) (A B : List (List Int)), longerN l d (A ++ B) = longerN l d A ++ longerN l d B
 | 0, _, _ => rfl
 | d + 1, A, B => by
  show longerN l d (longer l (A ++ B)) = longerN l d (longer l A) ++ longerN l d (longer l B)
  rw [← longerN_append d]
  unfold longer
  rw [List.flatMap_append]

theorem longerN_nil : ∀ d, longerN l d [] = []
 | 0 => rfl
 | d + 1 => longerN_nil d

theorem longerN_flat (d : Nat) : ∀ L : List (List Int), longerN l d L = L.flatMap (fun ws => longerN l d [ws])
 | [] => longerN_nil l d
 | ws :: L => by
  rw [show ws :: L = [ws] ++ L from rfl, longerN_append, longerN_flat d L]
  simp

theorem wk_longer : ∀ (d : Nat) (ws : List Int), 0 < ws.length → wk l v d ws = longerN l d [ws]
 | 0, _, _ => rfl
 | d + 1, ws, h => by
  show (List.filter _ _).flatMap _ = longerN l d (longer l [ws])
  rw [show longer l [ws] = ext1 l ws by simp [longer], longerN_flat]
  unfold ext1
  rw [List.flatMap_map]
  have e : (fun q => if ws.length = 0 then decide (tl l q = v) else next l (lastE ws) q) = (fun q => next l (lastE ws) q) := funext (fun q => if_neg (by omega))
  rw [e]
  exact flat_congr (fun q _ => wk_longer d _ (by simp))

theorem wk_nil (d : Nat) : wk l v (d + 1) [] = longerN l d (one0 l v) := by
 show (List.filter _ _).flatMap _ = _
 rw [longerN_flat]
 unfold one0
 rw [List.flatMap_map]
 have e : (fun q => if ([] : List Int).length = 0 then decide (tl l q = v) else next l (lastE []) q) = (fun q => decide (tl l q = v)) := funext (fun q => if_pos rfl)
 rw [e]
 exact flat_congr (fun q _ => wk_longer l v d _ (by simp))

theorem longerN_Lw : ∀ (d t : Nat), longerN l d (Lw l v t) = Lw l v (t + d)
 | 0, _ => rfl
 | d + 1, t => by
  show longerN l d (Lw l v (t + 1)) = _
  rw [longerN_Lw d (t + 1), show t + 1 + d = t + (d + 1) by omega]

theorem wk_Lw (d : Nat) : wk l v (d + 1) [] = Lw l v d := by
 rw [wk_nil, show one0 l v = Lw l v 0 from rfl, longerN_Lw, Nat.zero_add]
end
section
variable {n : Int} {l : List (List Int)} (h : isGraph n l = true)
include h

/-- The longer walks of ws by the edges from q on. -/
def extFrom (l : List (List Int)) (ws : List Int) (q d : Nat) : List (List Int) := ((List.range' q d).filter (fun q => next l (lastE ws) q)).map (fun q : Nat => ws ++ [(q : Int)])

omit h in
theorem extFrom_all (ws : List Int) : extFrom l ws 0 (2 * l.length) = ext1 l ws := by
 unfold extFrom ext1
 rw [List.range_eq_range']

omit h in
theorem extFrom_succ (ws : List Int) (q d : Nat) : extFrom l ws q (d + 1) = (if next l (lastE ws) q = true then [ws ++ [(q : Int)]] else []) ++ extFrom l ws (q + 1) d := by
 unfold extFrom
 rw [List.range'_succ]
 by_cases c : next l (lastE ws) q = true
 ·rw [List.filter_cons_of_pos c, if_pos c]
  rfl
 ·rw [List.filter_cons_of_neg c, if_neg c]
  rfl

theorem spLonger1 {m : Nat} (hm : 1 ≤ m) (hm2 : m ≤ 1000) (L : List (List Int)) (hL : ∀ ws ∈ L, good l m ws) (i : Nat) (hi : i < L.length) (hll : L.length ≤ 5000000000000) (res : List (List Int)) :
  ∀ (d q : Nat) (acc : List (List Int)), q + d = 2 * l.length → acc.length + (extFrom l L[i] q d).length ≤ 5000000000000 →
   Ev (fun k => spec_l03Longer.l0 k L (acc ++ extFrom l L[i] q d) ((i + 1 : Nat) : Int) n l) res →
   Ev (fun k => spec_l03Longer.l1 k L acc (i : Int) ((lastE L[i] : Nat) : Int) (q : Int) n l) res := by
 obtain ⟨g1, g2, g3⟩ := graph_small h
 have hg := hL L[i] (List.getElem_mem hi)
 have hrow : rd_L1 L (i : Int) = L[i] := by
  show L.getD (i : Int).toNat [] = L[i]
  rw [Int.toNat_natCast, List.getD_eq_getElem?_getD, List.getElem?_eq_getElem hi]
  rfl
 intro d
 induction d with
 | zero =>
  intro q acc hq hb hr
  refine Ev.succ ?_; simp only [spec_l03Longer.l1]
  rw [wrap_id (x := 2 * (l.length : Int)) (by omega) (by omega), wrap_succ (i := i) (by omega)]
  refine Ev.neg (by omega) ?_
  simpa [extFrom] using hr
 | succ d ih =>
  intro q acc hq hb hr
  have hn := specNext h hg.2.1 (show q < 2 * l.length by omega)
  rw [extFrom_succ] at hb hr
  refine Ev.succ ?_; simp only [spec_l03Longer.l1]
  rw [wrap_id (x := 2 * (l.length : Int)) (by omega) (by omega), hn, wrap_succ (i := q) (by omega), hrow]
  refine Ev.pos (by omega) (Ev.bind (Ev.now _) ?_)
  by_cases c : next l (lastE L[i]) q = true
  ·rw [if_pos c] at hb hr
   rw [List.length_append, List.length_singleton] at hb
   have hown : spec_l01Own.f L[i] = some L[i] := by
    have := hg.1
    unfold spec_l01Own.f
    simp
    omega
   refine Ev.pos c (Ev.pos (by omega) (Ev.pos (by omega) ?_))
   rw [hown]
   refine Ev.bind (Ev.now _) (Ev.pos (by have := hg.1; omega) (Ev.pos (by omega) ?_))
   refine ih (q + 1) _ (by omega) (by rw [List.length_append, List.length_singleton]; omega) ?_
   rw [List.append_assoc]
   exact hr
  ·rw [if_neg c] at hb hr
   refine Ev.neg c (ih (q + 1) acc (by omega) (by simpa using hb) (by simpa using hr))

theorem spLonger0 {m : Nat} (hm : 1 ≤ m) (hm2 : m ≤ 1000) (L : List (List Int)) (hL : ∀ ws ∈ L, good l m ws) (hll : L.length ≤ 5000000000000) :
  ∀ (d i : Nat) (acc : List (List Int)), i + d = L.length → acc.length + (longer l (L.drop i)).length ≤ 5000000000000 →
   Ev (fun k => spec_l03Longer.l0 k L acc (i : Int) n l) (acc ++ longer l (L.drop i)) := by
 obtain ⟨g1, g2, g3⟩ := graph_small h
 intro d
 induction d with
 | zero =>
  intro i acc hi hb
  refine Ev.succ ?_; simp only [spec_l03Longer.l0]
  refine Ev.neg (by omega) ?_
  rw [List.drop_eq_nil_of_le (by omega)]
  show Ev _ (acc ++ [])
  rw [List.append_nil]
  exact Ev.now _
 | succ d ih =>
  intro i acc hi hb
  have hi' : i < L.length := by omega
  have hg := hL L[i] (List.getElem_mem hi')
  have hrow : rd_L1 L (i : Int) = L[i] := by
   show L.getD (i : Int).toNat [] = L[i]
   rw [Int.toNat_natCast, List.getD_eq_getElem?_getD, List.getElem?_eq_getElem hi']
   rfl
  have e : longer l (L.drop i) = ext1 l L[i] ++ longer l (L.drop (i + 1)) := by
   rw [List.drop_eq_getElem_cons hi']
   rfl
  rw [e, List.length_append] at hb
  have h1 := ih (i + 1) (acc ++ ext1 l L[i]) (by omega) (by rw [List.length_append]; omega)
  have h2 := spLonger1 h hm hm2 L hL i hi' hll _ (2 * l.length) 0 acc (by omega) (by rw [extFrom_all]; omega) (by rw [extFrom_all]; exact h1)
  refine Ev.succ ?_; simp only [spec_l03Longer.l0]
  rw [hrow, wrap_id (x := (L[i].length : Int) - 1) (by have := hg.1; omega) (by have := hg.1; omega), show (L[i].length : Int) - 1 = ((L[i].length - 1 : Nat) : Int) by have := hg.1; omega, hg.2.2, e, ← List.append_assoc]
  exact Ev.pos (by omega) (Ev.pos (by omega) (Ev.pos (by omega) (Ev.pos (by have := hg.1; omega) h2)))

theorem specLonger {m : Nat} (hm : 1 ≤ m) (hm2 : m ≤ 1000) (L : List (List Int)) (hL : ∀ ws ∈ L, good l m ws) (hll : L.length ≤ 5000000000000) (hb : (longer l L).length ≤ 5000000000000) :
  Ev (fun k => spec_l03Longer.f k n l L) (longer l L) := by
 have := spLonger0 h hm hm2 L hL hll L.length 0 [] (by omega) (by simpa using hb)
 exact this

theorem spList1 (v : Int) (k : Nat) (hk : 1 ≤ k ∧ k ≤ 12) (hb : ∀ t, t ≤ k - 1 → (Lw l v t).length ≤ 5000000000000) :
  ∀ (d t : Nat), t + d = k - 1 → Ev (fun f => spec_l03List.l1 f (k : Int) (Lw l v t) ((t + 1 : Nat) : Int) n l) (Lw l v (k - 1)) := by
 intro d
 induction d with
 | zero =>
  intro t ht
  obtain rfl : t = k - 1 := by omega
  refine Ev.succ ?_; simp only [spec_l03List.l1]
  exact Ev.neg (by omega) (Ev.now _)
 | succ d ih =>
  intro t ht
  have h1 := ih (t + 1) (by omega)
  have h2 := specLonger h (m := t + 1) (by omega) (by omega) (Lw l v t) (good_Lw l v t) (hb t (by omega)) (hb (t + 1) (by omega))
  refine Ev.succ ?_; simp only [spec_l03List.l1]
  rw [wrap_succ (i := t + 1) (by omega)]
  exact Ev.pos (by omega) (Ev.bind h2 h1)

theorem spList0 (v : Int) (k : Nat) (hk : 1 ≤ k ∧ k ≤ 12) (hb : ∀ t, t ≤ k - 1 → (Lw l v t).length ≤ 5000000000000) :
  ∀ (d q : Nat) (acc : List (List Int)), q + d = 2 * l.length → acc ++ ((List.range' q d).filter (fun a => decide (tl l a = v))).map (fun a : Nat => [(a : Int)]) = one0 l v →
   Ev (fun f => spec_l03List.l0 f v (k : Int) acc (q : Int) n l) (Lw l v (k - 1)) := by
 obtain ⟨g1, g2, g3⟩ := graph_small h
 intro d
 induction d with
 | zero =>
  intro q acc hq he
  have h1 := spList1 h v k hk hb (k - 1) 0 (by omega)
  refine Ev.succ ?_; simp only [spec_l03List.l0]
  rw [wrap_id (x := 2 * (l.length : Int)) (by omega) (by omega)]
  have e : acc = one0 l v := by simpa using he
  rw [show acc = Lw l v 0 from e]
  exact Ev.neg (by omega) h1
 | succ d ih =>
  intro q acc hq he
  have hs := specEnds h (show q < 2 * l.length by omega)
  rw [List.range'_succ] at he
  have hal : acc.length ≤ (one0 l v).length := by rw [← he]; simp
  have h0 := hb 0 (by omega)
  have h0' : (one0 l v).length ≤ 5000000000000 := h0
  refine Ev.succ ?_; simp only [spec_l03List.l0]
  rw [wrap_id (x := 2 * (l.length : Int)) (by omega) (by omega), hs, wrap_succ (i := q) (by omega)]
  refine Ev.pos (by omega) (Ev.bind (Ev.now _) ?_)
  by_cases c : tl l q = v
  ·rw [List.filter_cons_of_pos (p := fun a => decide (tl l a = v)) (decide_eq_true c)] at he
   exact Ev.pos c (Ev.pos (by omega) (ih (q + 1) _ (by omega) (by rw [List.append_assoc]; exact he)))
  ·rw [List.filter_cons_of_neg (p := fun a => decide (tl l a = v)) (fun z => c (of_decide_eq_true z))] at he
   exact Ev.neg c (ih (q + 1) _ (by omega) he)

theorem specList (v : Int) (k : Nat) (hk : 1 ≤ k ∧ k ≤ 12) (hb : ∀ t, t ≤ k - 1 → (Lw l v t).length ≤ 5000000000000) :
  Ev (fun f => spec_l03List.f f n l v (k : Int)) (Lw l v (k - 1)) := by
 refine spList0 h v k hk hb (2 * l.length) 0 [] (by omega) ?_
 unfold one0
 rw [List.range_eq_range']
 rfl

end
section
variable {n : Int} {l : List (List Int)} (h : isGraph n l = true) (v : Int)
include h

/-- Whether q can be the next edge. -/
def sel (l : List (List Int)) (v : Int) (ws : List Int) (q : Nat) : Bool := if ws.length = 0 then decide (tl l q = v) else next l (lastE ws) q

theorem lpWalks (F : List Int → List (List Int) → Option (List (List Int))) (G : Nat → List (List Int)) (ws : List Int) (hw : ws.length = 0 ∨ good l ws.length ws) (hwl : ws.length ≤ 100) (hF : ∀ q, q < 2 * l.length → ∀ xs, xs.length + (G q).length ≤ 400 → F (ws ++ [(q : Int)]) xs = some (xs ++ G q)) :
  ∀ (d q : Nat) (xs : List (List Int)), q + d = 2 * l.length → xs.length + (((List.range' q d).filter (sel l v ws)).flatMap G).length ≤ 400 →
   impl_Graph_walks_at_WalksFrom_2_at_WalksFrom_3.lp n l n l v F ws (2 * (l.length : Int)) (d + 1) (q : Int) xs = some (xs ++ ((List.range' q d).filter (sel l v ws)).flatMap G) := by
 obtain ⟨g1, g2, g3⟩ := graph_small h
 intro d
 induction d with
 | zero =>
  intro q xs hq hb
  unfold impl_Graph_walks_at_WalksFrom_2_at_WalksFrom_3.lp
  rw [if_neg (by omega)]
  simp
 | succ d ih =>
  intro q xs hq hb
  have hs : (if (ws.length : Int) = 0 then impl_WalksFrom_2.f (q : Int) n l v else impl_Graph_follows.f n l (rd ws (wrap64 ((ws.length : Int) - 1))) (q : Int)) = some (sel l v ws q) := by
   unfold sel
   by_cases c : ws.length = 0
   ·rw [if_pos (by omega), if_pos c]
    unfold impl_WalksFrom_2.f
    rw [implEnds h (show q < 2 * l.length by omega), Option.bind_some]
    congr 1
   ·rw [if_neg (by omega), if_neg c]
    have hg := hw.resolve_left c
    rw [wrap_id (by omega) (by omega), show (ws.length : Int) - 1 = ((ws.length - 1 : Nat) : Int) by omega, hg.2.2]
    exact implFollows h hg.2.1 (by omega)
  unfold impl_Graph_walks_at_WalksFrom_2_at_WalksFrom_3.lp
  rw [if_pos (by omega), hs, Option.bind_some, wrap_succ (i := q) (by omega)]
  rw [List.range'_succ] at hb ⊢
  by_cases c : sel l v ws q = true
  ·rw [List.filter_cons_of_pos c, List.flatMap_cons, List.length_append] at hb
   rw [List.filter_cons_of_pos c, List.flatMap_cons, if_pos c, if_pos (by omega), hF q (by omega) xs (by omega), Option.bind_some, ih (q + 1) _ (by omega) (by rw [List.length_append]; omega), List.append_assoc]
  ·rw [List.filter_cons_of_neg c] at hb ⊢
   rw [if_neg c, ih (q + 1) _ (by omega) hb]

theorem goWalks : ∀ (d : Nat) (ws : List Int) (xs : List (List Int)), (ws.length = 0 ∨ good l ws.length ws) → ws.length + d ≤ 100 → xs.length + (wk l v d ws).length ≤ 400 →
  impl_Graph_walks_at_WalksFrom_2_at_WalksFrom_3.go n l n l v d ws xs = some (xs ++ wk l v d ws) := by
 obtain ⟨g1, g2, g3⟩ := graph_small h
 intro d
 induction d with
 | zero =>
  intro ws xs hw hl hb
  have hc : slices_Clone_int64_int64.f ws = some ws := by
   unfold slices_Clone_int64_int64.f
   simp
   omega
  show (slices_Clone_int64_int64.f ws).bind _ = _
  rw [hc, Option.bind_some, if_pos (by omega)]
  rfl
 | succ d ih =>
  intro ws xs hw hl hb
  show (impl_Graph_size.f n l).bind _ = _
  unfold impl_Graph_size.f
  rw [Option.bind_some, wrap_id (x := 2 * (l.length : Int)) (by omega) (by omega), show (2 * (l.length : Int)).toNat = 2 * l.length by omega]
  have e : wk l v (d + 1) ws = ((List.range' 0 (2 * l.length)).filter (sel l v ws)).flatMap (fun q : Nat => wk l v d (ws ++ [(q : Int)])) := by
   rw [← List.range_eq_range']
   rfl
  rw [e] at hb ⊢
  exact lpWalks h v _ (fun q : Nat => wk l v d (ws ++ [(q : Int)])) ws hw (by omega) (fun q hq xs hx => ih _ _ (.inr (by
   have := good_snoc l (ws := ws) rfl hq
   rw [List.length_append]
   exact this)) (by rw [List.length_append, List.length_singleton]; omega) hx) (2 * l.length) 0 xs (by omega) hb

theorem implWalks (k : Nat) (hk : 1 ≤ k ∧ k ≤ 12) (hb : (Lw l v (k - 1)).length ≤ 400) : impl_Graph_walks_at_WalksFrom_2_at_WalksFrom_3.f n l (k : Int) n l v = some (Lw l v (k - 1)) := by
 have e : wk l v k [] = Lw l v (k - 1) := by
  have := wk_Lw l v (k - 1)
  rw [show k - 1 + 1 = k by omega] at this
  exact this
 unfold impl_Graph_walks_at_WalksFrom_2_at_WalksFrom_3.f
 rw [if_pos (by omega), Int.toNat_natCast, goWalks h v k [] [] (.inl rfl) (by simp; omega) (by rw [e]; simpa using hb), e]
 rfl

end
theorem cw_sum (l : List (List Int)) (v : Int) (t : Nat) : Sm (2 * l.length) (fun p => if tl l p = v then Sm (2 * l.length) (vec l (2 * l.length) p t) else 0) = cw l v t := by
 unfold cw aw
 rw [Sm_swap]
 refine Sm_congr (fun p _ => ?_)
 by_cases c : tl l p = v
 ·rw [if_pos c]
  exact Sm_congr (fun q _ => (if_pos c).symm)
 ·rw [if_neg c]
  exact ((Sm_congr (fun q _ => if_neg c)).trans (Sm_zero _)).symm

theorem cw_big (l : List (List Int)) (v : Int) (hl : l.length ≤ 10) (t : Nat) (ht : t ≤ 11) : 0 ≤ cw l v t ∧ cw l v t ≤ 2500000000000000 := by
 refine ⟨cw_nonneg l v hl t, ?_⟩
 have h1 := cw_le l v hl _ (od_le l hl) t
 have h2 : (19 - (dd0 l).toNat : Nat) ^ t ≤ 19 ^ 11 := Nat.le_trans (Nat.pow_le_pow_left (by omega) t) (Nat.pow_le_pow_right (by decide) ht)
 have h3 : (19 : Nat) ^ 11 = 116490258898219 := by decide
 rw [h3] at h2
 omega

theorem wrap_Sm (f : Nat → Int) : ∀ n, wrap64 (Sm n (fun i => wrap64 (f i))) = wrap64 (Sm n f)
 | 0 => rfl
 | n + 1 => by
  show wrap64 (Sm n (fun i => wrap64 (f i)) + wrap64 (f n)) = wrap64 (Sm n f + f n)
  rw [← wrap_add_wrap, wrap_Sm f n, ← wrap_add_wrap (Sm n f) (f n)]
  congr 2
  exact wrap_id (wrap_range _).1 (wrap_range _).2

section
variable {n : Int} {l : List (List Int)} (h : isGraph n l = true) (v : Int) (k : Nat) (hk : 1 ≤ k ∧ k ≤ 12)
include h hk

def wfR (l : List (List Int)) (v : Int) (k : Nat) : List (List Int) × Int := if cw l v (k - 1) > 400 then ([], 3) else (Lw l v (k - 1), 0)

theorem Lw_small (hc : cw l v (k - 1) ≤ 400) : (Lw l v (k - 1)).length ≤ 400 ∧ ∀ t, t ≤ k - 1 → (Lw l v t).length ≤ 5000000000000 := by
 obtain ⟨g1, g2, g3⟩ := graph_small h
 refine ⟨?_, fun t ht => ?_⟩
 ·have := len_Lw l v (k - 1)
  omega
 ·have h1 := len_Lw l v t
  have h2 := cw_small l v g3 (k - 1) (by omega) hc t ht
  omega

omit hk in
theorem spSum1 (a : Nat) (ha : a < 2 * l.length) (hv : tl l a = v) (r : List (List Int) × Int) (s : Int)
  (hr : Ev (fun f => spec_WalksFrom.l0 f v (k : Int) (ofFn (2 * l.length) (fun p => vec l (2 * l.length) p (k - 1))) (wrap64 (s + Sm (2 * l.length) (vec l (2 * l.length) a (k - 1)))) ((a + 1 : Nat) : Int) n l) r) :
  ∀ (d b : Nat), b + d = 2 * l.length → Ev (fun f => spec_WalksFrom.l1 f v (k : Int) (ofFn (2 * l.length) (fun p => vec l (2 * l.length) p (k - 1))) (wrap64 (s + Sm b (vec l (2 * l.length) a (k - 1)))) (a : Int) (b : Int) n l) r := by
 obtain ⟨g1, g2, g3⟩ := graph_small h
 have hl : (ofFn (2 * l.length) (fun p => vec l (2 * l.length) p (k - 1))).length = 2 * l.length := ofFn_length _ _
 have hrow := ofFn_row (fun p => vec l (2 * l.length) p (k - 1)) ha
 have hrl : (rowOf (2 * l.length) (vec l (2 * l.length) a (k - 1))).length = 2 * l.length := rowOf_length _ _
 intro d
 induction d with
 | zero =>
  intro b hb
  obtain rfl : b = 2 * l.length := by omega
  refine Ev.succ ?_; simp only [spec_WalksFrom.l1]
  rw [wrap_succ (i := a) (by omega)]
  exact Ev.neg (by omega) hr
 | succ d ih =>
  intro b hb
  have h1 := ih (b + 1) (by omega)
  refine Ev.succ ?_; simp only [spec_WalksFrom.l1]
  rw [hrow, rowOf_rd _ (show b < 2 * l.length by omega), wrap_succ (i := b) (by omega), wrap_add_left, Int.add_assoc]
  exact Ev.pos (by omega) (Ev.pos (by omega) (Ev.pos (by omega) (Ev.pos (by omega) (Ev.pos (by omega) h1))))

theorem spSum0 : ∀ (d a : Nat), a + d = 2 * l.length →
  Ev (fun f => spec_WalksFrom.l0 f v (k : Int) (ofFn (2 * l.length) (fun p => vec l (2 * l.length) p (k - 1))) (wrap64 (Sm a (fun p => if tl l p = v then Sm (2 * l.length) (vec l (2 * l.length) p (k - 1)) else 0))) (a : Int) n l) (wfR l v k) := by
 obtain ⟨g1, g2, g3⟩ := graph_small h
 have hl : (ofFn (2 * l.length) (fun p => vec l (2 * l.length) p (k - 1))).length = 2 * l.length := ofFn_length _ _
 intro d
 induction d with
 | zero =>
  intro a ha
  obtain rfl : a = 2 * l.length := by omega
  have hb := cw_big l v g3 (k - 1) (by omega)
  refine Ev.succ ?_; simp only [spec_WalksFrom.l0]
  rw [cw_sum, wrap_id (x := cw l v (k - 1)) (by omega) (by omega)]
  refine Ev.neg (by omega) ?_
  unfold wfR
  by_cases c : cw l v (k - 1) > 400
  ·rw [if_pos c]
   exact Ev.pos c (Ev.now _)
  ·rw [if_neg c]
   exact Ev.neg c (Ev.bind (specList h v k hk (Lw_small h v k hk (by omega)).2) (Ev.now _))
 | succ d ih =>
  intro a ha
  have h1 := ih (a + 1) (by omega)
  have hs := specEnds h (show a < 2 * l.length by omega)
  refine Ev.succ ?_; simp only [spec_WalksFrom.l0]
  rw [hs]
  refine Ev.pos (by omega) (Ev.bind (Ev.now _) ?_)
  by_cases c : tl l a = v
  ·refine Ev.pos c ?_
   have h2 := spSum1 h v k a (by omega) c (wfR l v k) (Sm a (fun p => if tl l p = v then Sm (2 * l.length) (vec l (2 * l.length) p (k - 1)) else 0)) (by
    have e : Sm (a + 1) (fun p => if tl l p = v then Sm (2 * l.length) (vec l (2 * l.length) p (k - 1)) else 0) = Sm a (fun p => if tl l p = v then Sm (2 * l.length) (vec l (2 * l.length) p (k - 1)) else 0) + Sm (2 * l.length) (vec l (2 * l.length) a (k - 1)) := by
     show _ + (if tl l a = v then _ else 0) = _
     rw [if_pos c]
    rw [← e]
    exact h1) (2 * l.length) 0 (by omega)
   rw [show Sm 0 (vec l (2 * l.length) a (k - 1)) = 0 from rfl, Int.add_zero] at h2
   exact h2
  ·rw [wrap_succ (i := a) (by omega)]
   refine Ev.neg c ?_
   have e : Sm (a + 1) (fun p => if tl l p = v then Sm (2 * l.length) (vec l (2 * l.length) p (k - 1)) else 0) = Sm a (fun p => if tl l p = v then Sm (2 * l.length) (vec l (2 * l.length) p (k - 1)) else 0) := by
    show _ + (if tl l a = v then _ else 0) = _
    rw [if_neg c, Int.add_zero]
   rw [e] at h1
   exact h1

theorem specWF : Ev (fun f => spec_WalksFrom.j1 f v (k : Int) 0 n l) (wfR l v k) := by
 have h1 := specRowsOf h k hk
 have h2 := spSum0 h v k hk (2 * l.length) 0 (by omega)
 have e : ∀ f : Nat → Int, wrap64 (Sm 0 f) = 0 := fun f => by
  exact wrap_id (x := 0) (by decide) (by decide)
 rw [e] at h2
 refine Ev.succ ?_
 unfold spec_WalksFrom.j1
 exact Ev.pos rfl (Ev.bind h1 h2)

theorem imSum (m : Nat) (hm : n = (m : Int)) (u : Nat) (hu : u < m) (R : Nat → Nat → Int) (hR : Sm m (fun w => S2 l R (2 * l.length) 0 u w) = cw l (u : Int) (k - 1)) :
  ∀ (d i : Nat), i + d = m → Ev (fun f => impl_WalksFrom.l0 f (wrap64 (Sm i (fun w => wrap64 (S2 l R (2 * l.length) 0 u w)))) (rowOf m (fun w => wrap64 (S2 l R (2 * l.length) 0 u w))) (m : Int) (i : Int) n l (u : Int) (k : Int)) (wfR l (u : Int) k) := by
 obtain ⟨g1, g2, g3⟩ := graph_small h
 have hrl : (rowOf m (fun w => wrap64 (S2 l R (2 * l.length) 0 u w))).length = m := rowOf_length _ _
 intro d
 induction d with
 | zero =>
  intro i hi
  obtain rfl : i = m := by omega
  have hb := cw_big l (u : Int) g3 (k - 1) (by omega)
  refine Ev.succ ?_; simp only [impl_WalksFrom.l0]
  rw [wrap_Sm, hR, wrap_id (x := cw l (u : Int) (k - 1)) (by omega) (by omega)]
  refine Ev.neg (by omega) ?_
  by_cases c : cw l (u : Int) (k - 1) > 400
  ·rw [show wfR l (u : Int) k = ([], 3) from if_pos c]
   exact Ev.pos c (Ev.now _)
  ·rw [show wfR l (u : Int) k = (Lw l (u : Int) (k - 1), 0) from if_neg c, implWalks h (u : Int) k hk (Lw_small h _ k hk (by omega)).1]
   exact Ev.neg c (Ev.bind (Ev.now _) (Ev.now _))
 | succ d ih =>
  intro i hi
  have h1 := ih (i + 1) (by omega)
  refine Ev.succ ?_; simp only [impl_WalksFrom.l0]
  rw [rowOf_rd _ (show i < m by omega), wrap_succ (i := i) (by omega), wrap_add_left]
  exact Ev.pos (by omega) (Ev.pos (by omega) (Ev.pos (by omega) h1))

omit hk in
theorem S2_cw (m : Nat) (hm : n = (m : Int)) (u : Nat) : Sm m (fun w => S2 l (fun p q => vec l (2 * l.length) p (k - 1) q) (2 * l.length) 0 u w) = cw l (u : Int) (k - 1) := by
 have e : ∀ w, S2 l (fun p q => vec l (2 * l.length) p (k - 1) q) (2 * l.length) 0 u w = Sm (2 * l.length) (fun p => if bv l p = u then Sm (2 * l.length) (fun q => if ev l q = w then vec l (2 * l.length) p (k - 1) q else 0) else 0) := by
  intro w
  unfold S2
  have : (if bv l (2 * l.length) = u then Sm 0 (fun q => if ev l q = w then vec l (2 * l.length) (2 * l.length) (k - 1) q else 0) else 0) = 0 := by split <;> rfl
  rw [this, Int.add_zero]
 rw [Sm_congr (fun w _ => e w), Sm_swap, ← cw_sum]
 refine Sm_congr (fun p hp => ?_)
 obtain ⟨t1, t2, _, _⟩ := ends_ok h m hm hp
 by_cases c : bv l p = u
 ·have c2 : tl l p = (u : Int) := by rw [t1, c]
  rw [if_pos c2, Sm_congr (fun w _ => if_pos c), Sm_swap]
  refine Sm_congr (fun q hq => ?_)
  obtain ⟨_, _, _, u2⟩ := ends_ok h m hm hq
  refine (Sm_congr (fun w _ => ?_)).trans (Sm_pick m (fun _ => vec l (2 * l.length) p (k - 1) q) u2)
  by_cases c3 : w = ev l q
  ·rw [if_pos c3.symm, if_pos c3, Int.one_mul]
  ·rw [if_neg (fun z => c3 z.symm), if_neg c3, Int.zero_mul]
 ·have c2 : ¬ tl l p = (u : Int) := fun z => c (by omega)
  rw [if_neg c2, Sm_congr (fun w _ => if_neg c)]
  exact Sm_zero m

end

/-- 1: no graph; 2: no vertex or no length. -/
def codeV (n : Int) (l : List (List Int)) (v a : Int) : Int := if isGraph n l = true then (if (0 ≤ v ∧ v ≤ n - 1) ∧ 1 ≤ a ∧ a ≤ 12 then 0 else 2) else 1

theorem implCodeV (n : Int) (l : List (List Int)) (v a : Int) (hl : Mod l) : Ev (fun k => impl_graphCode_at_WalksFrom_1.f k n l v n l a) (codeV n l v a) := by
 have h1 := implIsGraph n l hl
 unfold impl_graphCode_at_WalksFrom_1.f impl_WalksFrom_1.f codeV
 by_cases hg : isGraph n l = true
 ·obtain ⟨g1, g2, g3⟩ := graph_small hg
  rw [hg] at h1
  rw [if_pos hg, implWithin, implIsLength, wrap_id (x := n - 1) (by omega) (by omega)]
  by_cases c : 0 ≤ v ∧ v ≤ n - 1
  ·rw [decide_eq_true c]
   by_cases c2 : 1 ≤ a ∧ a ≤ 12
   ·rw [decide_eq_true c2, if_pos ⟨c, c2⟩]
    exact Ev.bind h1 (Ev.pos rfl (Ev.bind (Ev.bind (Ev.now _) (Ev.pos rfl (Ev.bind (Ev.now _) (Ev.now _)))) (Ev.pos rfl (Ev.now _))))
   ·rw [decide_eq_false c2, if_neg (fun z => c2 z.2)]
    exact Ev.bind h1 (Ev.pos rfl (Ev.bind (Ev.bind (Ev.now _) (Ev.pos rfl (Ev.bind (Ev.now _) (Ev.now _)))) (Ev.neg (by decide) (Ev.now _))))
  ·rw [decide_eq_false c, if_neg (fun z => c z.1)]
   exact Ev.bind h1 (Ev.pos rfl (Ev.bind (Ev.bind (Ev.now _) (Ev.neg (by decide) (Ev.now _))) (Ev.neg (by decide) (Ev.now _))))
 ·rw [Bool.not_eq_true] at hg
  rw [hg] at h1
  rw [if_neg (by rw [hg]; decide)]
  exact Ev.bind h1 (Ev.neg (by decide) (Ev.now _))

theorem wf_same (n : Int) (l : List (List Int)) (v a : Int) (hl : Mod l) : ∃ r : List (List Int) × Int, Mod r.1 ∧ Ev (fun k => spec_WalksFrom.f k n l v a) r ∧ Ev (fun k => impl_WalksFrom.f k n l v a) r := by
 unfold spec_WalksFrom.f impl_WalksFrom.f
 have h1 := specLength n l a 1 hl
 have h2 := implCodeV n l v a hl
 have hnil : Mod ([] : List (List Int)) := ⟨by simp, fun r hr => absurd hr (by simp)⟩
 have out : ∀ c : Int, c ≠ 0 → Ev (fun k => spec_WalksFrom.j1 k v a c n l) ([], c) := by
  intro c hc
  refine Ev.succ ?_; simp only [spec_WalksFrom.j1]
  exact Ev.neg hc (Ev.now _)
 have j0f : ∀ (c : Int) r, Ev (fun k => spec_WalksFrom.j1 k v a c n l) r → Ev (fun k => spec_WalksFrom.j0 k v a c false n l) r := by
  intro c r hr
  refine Ev.succ ?_; simp only [spec_WalksFrom.j0]
  exact Ev.neg (by decide) hr
 by_cases c : codeL n l a 1 = 0
 ·obtain ⟨hg, ha, hb⟩ := codeL_zero c
  obtain ⟨g1, g2, g3⟩ := graph_small hg
  obtain ⟨k, rfl⟩ := Int.eq_ofNat_of_zero_le (show 0 ≤ a by omega)
  have hk : 1 ≤ k ∧ k ≤ 12 := by omega
  have hi := specIn v 0 (wrap64 (n - 1))
  rw [wrap_id (x := n - 1) (by omega) (by omega)] at hi
  by_cases c2 : 0 ≤ v ∧ v ≤ n - 1
  ·have e : codeV n l v k = 0 := by
    unfold codeV
    rw [if_pos hg, if_pos ⟨c2, by omega⟩]
   rw [e] at h2
   obtain ⟨u, rfl⟩ := Int.eq_ofNat_of_zero_le c2.1
   obtain ⟨m, hm⟩ := Int.eq_ofNat_of_zero_le (show 0 ≤ n by omega)
   refine ⟨wfR l (u : Int) k, ?_, ?_, ?_⟩
   ·unfold wfR
    by_cases c3 : cw l (u : Int) (k - 1) > 400
    ·rw [if_pos c3]
     exact hnil
    ·rw [if_neg c3]
     have := (Lw_small hg (u : Int) k hk (by omega)).1
     exact ⟨by show (Lw l (u : Int) (k - 1)).length ≤ _; omega, fun r hr => by have := (good_Lw l (u : Int) (k - 1) r hr).1; omega⟩
   ·refine Ev.bind h1 (Ev.pos c ?_)
    rw [wrap_id (x := n - 1) (by omega) (by omega), hi, decide_eq_true c2, c]
    exact Ev.bind (Ev.now _) (j0f 0 _ (specWF hg _ k hk))
   ·have hW := implWalkM hg m hm k hk.2
    have hl : (wmR l m k).length = m := by
     unfold wmR
     rw [if_neg (by omega), outM_length]
    have hrow : rd_L1 (wmR l m k) (u : Int) = rowOf m (fun w => wrap64 (S2 l (fun p q => vec l (2 * l.length) p (k - 1) q) (2 * l.length) 0 u w)) := by
     unfold wmR
     rw [if_neg (by omega)]
     exact ofFn_row _ (show u < m by omega)
    have h3 := imSum hg k hk m hm u (by omega) (fun p q => vec l (2 * l.length) p (k - 1) q) (S2_cw hg k m hm u) m 0 (by omega)
    refine Ev.bind h2 (Ev.pos rfl (Ev.bind hW (Ev.pos (by omega) (Ev.pos (by omega) ?_))))
    rw [show ∀ f : Nat → Int, wrap64 (Sm 0 f) = 0 from fun f => wrap_id (x := 0) (by decide) (by decide)] at h3
    rw [hrow, rowOf_length]
    exact h3
  ·have e : codeV n l v k = 2 := by
    unfold codeV
    rw [if_pos hg, if_neg (fun z => c2 z.1)]
   rw [e] at h2
   refine ⟨([], 2), hnil, ?_, Ev.bind h2 (Ev.neg (by decide) (Ev.now _))⟩
   refine Ev.bind h1 (Ev.pos c ?_)
   rw [wrap_id (x := n - 1) (by omega) (by omega), hi, decide_eq_false c2]
   refine Ev.bind (Ev.now _) ?_
   have := out 2 (by decide)
   refine Ev.succ ?_; simp only [spec_WalksFrom.j0]
   exact Ev.pos rfl this
 ·have e : codeV n l v a = codeL n l a 1 := by
   unfold codeV codeL at *
   by_cases hg : isGraph n l = true
   ·rw [if_pos hg] at c ⊢
    rw [if_pos hg]
    by_cases c2 : 1 ≤ a ∧ a ≤ 12
    ·rw [if_pos c2] at c
     exact absurd rfl c
    ·rw [if_neg c2, if_neg (fun z => c2 z.2)]
   ·rw [if_neg hg, if_neg hg]
  rw [e] at h2
  exact ⟨([], codeL n l a 1), hnil, Ev.bind h1 (Ev.neg c (j0f _ _ (out _ c))), Ev.bind h2 (Ev.neg c (Ev.now _))⟩

theorem FnExactWalksFrom : laws_FnExactWalksFrom.Pure := by
 intro n l v a _ hl hr _ _
 refine Ev.rounds ?_
 unfold laws_FnExactWalksFrom.f
 refine Ev.ex (szGraph n l hl hr) (fun t ht => ?_)
 rcases ht with ht | ht
 ·repeat (first | with_reducible exact Ev.now _ | dsimp only | refine Ev.pos (by first | omega | rfl | assumption | decide) ?_ | refine Ev.neg (by first | omega | assumption | exact Bool.false_ne_true | exact fun e => absurd e (by decide)) ?_ | simp only [bne_self_eq_false, Bool.not_true, Bool.not_false, List.length_cons, List.length_nil] | rw [wrap_id (by omega) (by omega)] | ((with_reducible refine Ev.eq (congrArg some ?_)); rfl))
 by_cases h0 : t < 0
 ·repeat (first | with_reducible exact Ev.now _ | dsimp only | refine Ev.pos (by first | omega | rfl | assumption | decide) ?_ | refine Ev.neg (by first | omega | assumption | exact Bool.false_ne_true | exact fun e => absurd e (by decide)) ?_ | simp only [bne_self_eq_false, Bool.not_true, Bool.not_false, List.length_cons, List.length_nil] | rw [wrap_id (by omega) (by omega)] | ((with_reducible refine Ev.eq (congrArg some ?_)); rfl))
 obtain ⟨r, hr, hs, hi⟩ := wf_same n l v a ht
 obtain ⟨q, hq, hq0, hq1⟩ := markGraph n l ht
 repeat (first | with_reducible exact Ev.now _ | dsimp only | with_reducible refine Ev.bind (toGraph n l ht) ?_ | with_reducible refine Ev.bind (hs) ?_ | with_reducible refine Ev.bind (hi) ?_ | with_reducible refine Ev.bind (eqInt64SS_self r.1 hr) ?_ | with_reducible refine Ev.bind (eqGraph_self n l ht) ?_ | with_reducible refine Ev.bind (hq) ?_ | with_reducible refine Ev.bind (markRows r.1 hr) ?_ | with_reducible refine Ev.bind (heldRows r.1 hr) ?_ | refine Ev.pos (by first | omega | rfl | assumption | decide) ?_ | refine Ev.neg (by first | omega | assumption | exact Bool.false_ne_true | exact fun e => absurd e (by decide)) ?_ | simp only [bne_self_eq_false, Bool.not_true, Bool.not_false, List.length_cons, List.length_nil] | rw [wrap_id (by omega) (by omega)] | with_reducible exact (toGraph n l ht) | with_reducible exact (hs) | with_reducible exact (hi) | with_reducible exact (eqInt64SS_self r.1 hr) | with_reducible exact (eqGraph_self n l ht) | with_reducible exact (hq) | with_reducible exact (markRows r.1 hr) | with_reducible exact (heldRows r.1 hr) | ((with_reducible refine Ev.eq (congrArg some ?_)); rfl))
end Go.Proofs.Ytipigagbgpoecaa.Pure
