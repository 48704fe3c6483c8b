/- The plain proofs for this law. -/
import Derived.Test.YtipigagbgpoecaaC5
import Derived.Test.YtipigagbgpoecaaAux
namespace Go.Proofs.Ytipigagbgpoecaa.Pure
open Go.RowKit Go.Proofs.Ytipigagbgpoecaa.G Go.Proofs.YtipigagbgpoecaaW.PrintWords Go.Proofs.YtipigagbgpoecaaW.PrintLast Go.Proofs.YtipigagbgpoecaaW.PrintMore Go.Proofs.Ytipigagbgpoecaa.Aux
set_option linter.unusedVariables false
set_option linter.unusedSimpArgs false

theorem toInt64S_loop (l : List Int) (hl : l.length ≤ 1048576) : ∀ (d i : Nat) (ys : List Int), i + d = l.length → ys.length = l.length → ys.take i = l.take i →
  Ev (fun k => laws_toInt64S.l0 k l ys (i : Int)) l := by
 intro d
 induction d with
 | zero =>
  intro i ys hi hy ht
  refine Ev.succ ?_; simp only [laws_toInt64S.l0]
  repeat (first | with_reducible exact Ev.now _ | dsimp only | refine Ev.pos (by first | omega | rfl | assumption | decide) ?_ | refine Ev.neg (by first | omega | assumption | exact Bool.false_ne_true | exact fun e => absurd e (by decide)) ?_ | simp only [bne_self_eq_false, Bool.not_true, Bool.not_false, List.length_cons, List.length_nil] | rw [wrap_id (by omega) (by omega)] | ((with_reducible refine Ev.eq (congrArg some ?_)); rfl))
  exact Ev.eq (congrArg some (eq_of_take hy (by omega) ht))
 | succ d ih =>
  intro i ys hi hy ht
  refine Ev.succ ?_; simp only [laws_toInt64S.l0]
  rw [wrap_succ (by omega)]
  repeat (first | with_reducible exact Ev.now _ | dsimp only | refine Ev.pos (by first | omega | rfl | assumption | decide) ?_ | refine Ev.neg (by first | omega | assumption | exact Bool.false_ne_true | exact fun e => absurd e (by decide)) ?_ | simp only [bne_self_eq_false, Bool.not_true, Bool.not_false, List.length_cons, List.length_nil] | rw [wrap_id (by omega) (by omega)] | ((with_reducible refine Ev.eq (congrArg some ?_)); rfl))
  exact ih (i + 1) _ (by omega) (by simpa using hy) (take_set_succ hy (by omega) (rd_lt (by omega)) ht)

theorem toInt64S (l : List Int) (hl : l.length ≤ 1048576) : Ev (fun k => laws_toInt64S.f k l) l := by
 unfold laws_toInt64S.f
 repeat (first | with_reducible exact Ev.now _ | dsimp only | refine Ev.pos (by first | omega | rfl | assumption | decide) ?_ | refine Ev.neg (by first | omega | assumption | exact Bool.false_ne_true | exact fun e => absurd e (by decide)) ?_ | simp only [bne_self_eq_false, Bool.not_true, Bool.not_false, List.length_cons, List.length_nil] | rw [wrap_id (by omega) (by omega)] | ((with_reducible refine Ev.eq (congrArg some ?_)); rfl))
 exact toInt64S_loop l hl l.length 0 _ (by omega) (by simp) (by simp)

theorem eqInt64S_loop (a b : List Int) (hl : a.length ≤ 1048576) (hab : a.length = b.length) : ∀ (d i : Nat), i + d = a.length →
  Ev (fun k => laws_eqInt64S.l0 k a b (i : Int)) (decide (a.drop i = b.drop i)) := by
 intro d
 induction d with
 | zero =>
  intro i hi
  refine Ev.succ ?_; simp only [laws_eqInt64S.l0]
  rw [List.drop_eq_nil_of_le (by omega), List.drop_eq_nil_of_le (by omega)]
  repeat (first | with_reducible exact Ev.now _ | dsimp only | refine Ev.pos (by first | omega | rfl | assumption | decide) ?_ | refine Ev.neg (by first | omega | assumption | exact Bool.false_ne_true | exact fun e => absurd e (by decide)) ?_ | simp only [bne_self_eq_false, Bool.not_true, Bool.not_false, List.length_cons, List.length_nil] | rw [wrap_id (by omega) (by omega)] | ((with_reducible refine Ev.eq (congrArg some ?_)); rfl))
 | succ d ih =>
  intro i hi
  refine Ev.succ ?_; simp only [laws_eqInt64S.l0]
  rw [List.drop_eq_getElem_cons (by omega : i < a.length), List.drop_eq_getElem_cons (by omega : i < b.length), wrap_succ (by omega)]
  by_cases e : rd a i = rd b i
  ·repeat (first | with_reducible exact Ev.now _ | dsimp only | refine Ev.pos (by first | omega | rfl | assumption | decide) ?_ | refine Ev.neg (by first | omega | assumption | exact Bool.false_ne_true | exact fun e => absurd e (by decide)) ?_ | simp only [bne_self_eq_false, Bool.not_true, Bool.not_false, List.length_cons, List.length_nil] | rw [wrap_id (by omega) (by omega)] | ((with_reducible refine Ev.eq (congrArg some ?_)); rfl))
   have := ih (i + 1) (by omega)
   rw [rd_lt (by omega), rd_lt (by omega)] at e
   rw [e, decide_cons]
   exact this
  ·rw [decide_eq_false (fun h => e (by rw [rd_lt (by omega), rd_lt (by omega)]; exact (List.cons.inj h).1))]
   repeat (first | with_reducible exact Ev.now _ | dsimp only | refine Ev.pos (by first | omega | rfl | assumption | decide) ?_ | refine Ev.neg (by first | omega | assumption | exact Bool.false_ne_true | exact fun e => absurd e (by decide)) ?_ | simp only [bne_self_eq_false, Bool.not_true, Bool.not_false, List.length_cons, List.length_nil] | rw [wrap_id (by omega) (by omega)] | ((with_reducible refine Ev.eq (congrArg some ?_)); rfl))

theorem eqInt64S (a b : List Int) (hl : a.length ≤ 1048576) : Ev (fun k => laws_eqInt64S.f k a b) (decide (a = b)) := by
 unfold laws_eqInt64S.f
 by_cases h : a.length = b.length
 ·repeat (first | with_reducible exact Ev.now _ | dsimp only | refine Ev.pos (by first | omega | rfl | assumption | decide) ?_ | refine Ev.neg (by first | omega | assumption | exact Bool.false_ne_true | exact fun e => absurd e (by decide)) ?_ | simp only [bne_self_eq_false, Bool.not_true, Bool.not_false, List.length_cons, List.length_nil] | rw [wrap_id (by omega) (by omega)] | ((with_reducible refine Ev.eq (congrArg some ?_)); rfl))
  exact eqInt64S_loop a b hl h a.length 0 (by omega)
 ·rw [decide_eq_false (fun e => h (by rw [e]))]
  repeat (first | with_reducible exact Ev.now _ | dsimp only | refine Ev.pos (by first | omega | rfl | assumption | decide) ?_ | refine Ev.neg (by first | omega | assumption | exact Bool.false_ne_true | exact fun e => absurd e (by decide)) ?_ | simp only [bne_self_eq_false, Bool.not_true, Bool.not_false, List.length_cons, List.length_nil] | rw [wrap_id (by omega) (by omega)] | ((with_reducible refine Ev.eq (congrArg some ?_)); rfl))

theorem eqInt64S_self (a : List Int) (hl : a.length ≤ 1048576) : Ev (fun k => laws_eqInt64S.f k a a) true :=
 Ev.conv (eqInt64S a a hl) (by simp)
theorem rl_lt {xs : List (List Int)} {i : Nat} (h : i < xs.length) : rd_L1 xs (i : Int) = xs[i] := by
 simp [rd_L1, List.getD_eq_getElem?_getD, h]

/-- Rows of which each, and their number, is of a moderate size. -/
def Mod (l : List (List Int)) : Prop := l.length ≤ 1048576 ∧ ∀ r ∈ l, r.length ≤ 1048576

theorem Mod.row {l : List (List Int)} (h : Mod l) {i : Nat} (hi : i < l.length) : l[i].length ≤ 1048576 := h.2 _ (List.getElem_mem hi)

theorem szInt64S (l : List Int) (a : Int) (h0 : 0 ≤ a) (h1 : a ≤ 1048576) (hl : l.length ≤ 9223372036854775807) : ∃ t, laws_szInt64S.f l a = some t ∧ (t < 0 ∨ (l.length ≤ 1048576 ∧ 0 ≤ t ∧ t ≤ a)) := by
 unfold laws_szInt64S.f
 rw [wrap_id (by omega) (by omega)]
 by_cases h : a - (l.length : Int) < 0
 ·exact ⟨-1, if_pos h, Or.inl (by omega)⟩
 ·exact ⟨_, if_neg h, Or.inr (by omega)⟩

theorem szInt64SS_loop (l : List (List Int)) (hl : l.length ≤ 1048576) (hr : ∀ r ∈ l, r.length ≤ 9223372036854775807) : ∀ (d i : Nat) (a : Int), i + d = l.length → 0 ≤ a → a ≤ 1048576 → (∀ j, (h : j < l.length) → j < i → l[j].length ≤ 1048576) →
  ∃ t, Ev (fun k => laws_szInt64SS.l0 k l a (i : Int)) t ∧ (t < 0 ∨ (Mod l ∧ 0 ≤ t ∧ t ≤ 1048576)) := by
 intro d
 induction d with
 | zero =>
  intro i a hi h0 h1 hm
  refine ⟨a, ?_, Or.inr ⟨⟨hl, fun r h => ?_⟩, h0, h1⟩⟩
  ·refine Ev.succ ?_; simp only [laws_szInt64SS.l0]
   repeat (first | with_reducible exact Ev.now _ | dsimp only | refine Ev.pos (by first | omega | rfl | assumption | decide) ?_ | refine Ev.neg (by first | omega | assumption | exact Bool.false_ne_true | exact fun e => absurd e (by decide)) ?_ | simp only [bne_self_eq_false, Bool.not_true, Bool.not_false, List.length_cons, List.length_nil] | rw [wrap_id (by omega) (by omega)] | ((with_reducible refine Ev.eq (congrArg some ?_)); rfl))
  ·obtain ⟨j, hj, rfl⟩ := List.getElem_of_mem h
   exact hm j hj (by omega)
 | succ d ih =>
  intro i a hi h0 h1 hm
  obtain ⟨t, ht, hc⟩ := szInt64S (l[i]'(by omega)) a h0 h1 (hr _ (List.getElem_mem _))
  rw [← rl_lt (by omega)] at ht
  rcases hc with hc | ⟨hc, hc0, hc1⟩
  ·refine ⟨-1, ?_, Or.inl (by omega)⟩
   refine Ev.succ ?_; simp only [laws_szInt64SS.l0]
   repeat (first | with_reducible exact Ev.now _ | dsimp only | with_reducible refine Ev.bind (Ev.eq ht) ?_ | refine Ev.pos (by first | omega | rfl | assumption | decide) ?_ | refine Ev.neg (by first | omega | assumption | exact Bool.false_ne_true | exact fun e => absurd e (by decide)) ?_ | simp only [bne_self_eq_false, Bool.not_true, Bool.not_false, List.length_cons, List.length_nil] | rw [wrap_id (by omega) (by omega)] | with_reducible exact (Ev.eq ht) | ((with_reducible refine Ev.eq (congrArg some ?_)); rfl))
  ·obtain ⟨t', h1', h2'⟩ := ih (i + 1) t (by omega) hc0 (by omega) (fun j hj hji => by
    by_cases e : j = i
    ·subst e; exact hc
    ·exact hm j hj (by omega))
   refine ⟨t', ?_, h2'⟩
   refine Ev.succ ?_; simp only [laws_szInt64SS.l0]
   rw [wrap_succ (by omega)]
   repeat (first | with_reducible exact Ev.now _ | dsimp only | with_reducible refine Ev.bind (Ev.eq ht) ?_ | refine Ev.pos (by first | omega | rfl | assumption | decide) ?_ | refine Ev.neg (by first | omega | assumption | exact Bool.false_ne_true | exact fun e => absurd e (by decide)) ?_ | simp only [bne_self_eq_false, Bool.not_true, Bool.not_false, List.length_cons, List.length_nil] | rw [wrap_id (by omega) (by omega)] | with_reducible exact (Ev.eq ht) | ((with_reducible refine Ev.eq (congrArg some ?_)); rfl))
   exact h1'

theorem szInt64SS (l : List (List Int)) (a : Int) (h0 : 0 ≤ a) (h1 : a ≤ 1048576) (hl : l.length ≤ 9223372036854775807) (hr : ∀ r ∈ l, r.length ≤ 9223372036854775807) : ∃ t, Ev (fun k => laws_szInt64SS.f k l a) t ∧ (t < 0 ∨ (Mod l ∧ 0 ≤ t ∧ t ≤ 1048576)) := by
 unfold laws_szInt64SS.f
 rw [wrap_id (by omega) (by omega)]
 by_cases h : a - (l.length : Int) < 0
 ·refine ⟨-1, ?_, Or.inl (by omega)⟩
  repeat (first | with_reducible exact Ev.now _ | dsimp only | refine Ev.pos (by first | omega | rfl | assumption | decide) ?_ | refine Ev.neg (by first | omega | assumption | exact Bool.false_ne_true | exact fun e => absurd e (by decide)) ?_ | simp only [bne_self_eq_false, Bool.not_true, Bool.not_false, List.length_cons, List.length_nil] | rw [wrap_id (by omega) (by omega)] | ((with_reducible refine Ev.eq (congrArg some ?_)); rfl))
 ·obtain ⟨t, h1, h2⟩ := szInt64SS_loop l (by omega) hr l.length 0 (a - (l.length : Int)) (by omega) (by omega) (by omega) (fun j _ hj => by omega)
  refine ⟨t, ?_, h2⟩
  repeat (first | with_reducible exact Ev.now _ | dsimp only | refine Ev.pos (by first | omega | rfl | assumption | decide) ?_ | refine Ev.neg (by first | omega | assumption | exact Bool.false_ne_true | exact fun e => absurd e (by decide)) ?_ | simp only [bne_self_eq_false, Bool.not_true, Bool.not_false, List.length_cons, List.length_nil] | rw [wrap_id (by omega) (by omega)] | ((with_reducible refine Ev.eq (congrArg some ?_)); rfl))
  exact h1

theorem szGraph (n : Int) (l : List (List Int)) (hl : l.length ≤ maxLen) (hr : ∀ r ∈ l, r.length ≤ maxLen ∧ ∀ y ∈ r, (Lit.int .i64 y).wf = true) : ∃ t, Ev (fun k => laws_szGraph.f k n l 1048576) t ∧ (t < 0 ∨ Mod l) := by
 obtain ⟨t, h1, h2⟩ := szInt64SS l 1048576 (by omega) (by omega) (by simp [maxLen] at hl; omega) (fun r h => by have := (hr r h).1; simp [maxLen] at this; omega)
 unfold laws_szGraph.f
 rcases h2 with h2 | ⟨h2, h3, h4⟩
 ·refine ⟨-1, ?_, Or.inl (by omega)⟩
  repeat (first | with_reducible exact Ev.now _ | dsimp only | with_reducible refine Ev.bind (h1) ?_ | refine Ev.pos (by first | omega | rfl | assumption | decide) ?_ | refine Ev.neg (by first | omega | assumption | exact Bool.false_ne_true | exact fun e => absurd e (by decide)) ?_ | simp only [bne_self_eq_false, Bool.not_true, Bool.not_false, List.length_cons, List.length_nil] | rw [wrap_id (by omega) (by omega)] | with_reducible exact (h1) | ((with_reducible refine Ev.eq (congrArg some ?_)); rfl))
 ·refine ⟨t, ?_, Or.inr h2⟩
  repeat (first | with_reducible exact Ev.now _ | dsimp only | with_reducible refine Ev.bind (h1) ?_ | refine Ev.pos (by first | omega | rfl | assumption | decide) ?_ | refine Ev.neg (by first | omega | assumption | exact Bool.false_ne_true | exact fun e => absurd e (by decide)) ?_ | simp only [bne_self_eq_false, Bool.not_true, Bool.not_false, List.length_cons, List.length_nil] | rw [wrap_id (by omega) (by omega)] | with_reducible exact (h1) | ((with_reducible refine Ev.eq (congrArg some ?_)); rfl))

theorem toInt64SS_loop (l : List (List Int)) (hl : Mod l) : ∀ (d i : Nat) (ys : List (List Int)), i + d = l.length → ys.length = l.length → ys.take i = l.take i →
  Ev (fun k => laws_toInt64SS.l0 k l ys (i : Int)) l := by
 have hl1 := hl.1
 intro d
 induction d with
 | zero =>
  intro i ys hi hy ht
  refine Ev.succ ?_; simp only [laws_toInt64SS.l0]
  repeat (first | with_reducible exact Ev.now _ | dsimp only | refine Ev.pos (by first | omega | rfl | assumption | decide) ?_ | refine Ev.neg (by first | omega | assumption | exact Bool.false_ne_true | exact fun e => absurd e (by decide)) ?_ | simp only [bne_self_eq_false, Bool.not_true, Bool.not_false, List.length_cons, List.length_nil] | rw [wrap_id (by omega) (by omega)] | ((with_reducible refine Ev.eq (congrArg some ?_)); rfl))
  exact Ev.eq (congrArg some (eq_of_take hy (by omega) ht))
 | succ d ih =>
  intro i ys hi hy ht
  refine Ev.succ ?_; simp only [laws_toInt64SS.l0]
  rw [wrap_succ (by omega), rl_lt (by omega)]
  repeat (first | with_reducible exact Ev.now _ | dsimp only | with_reducible refine Ev.bind (toInt64S _ (hl.row (by omega))) ?_ | refine Ev.pos (by first | omega | rfl | assumption | decide) ?_ | refine Ev.neg (by first | omega | assumption | exact Bool.false_ne_true | exact fun e => absurd e (by decide)) ?_ | simp only [bne_self_eq_false, Bool.not_true, Bool.not_false, List.length_cons, List.length_nil] | rw [wrap_id (by omega) (by omega)] | with_reducible exact (toInt64S _ (hl.row (by omega))) | ((with_reducible refine Ev.eq (congrArg some ?_)); rfl))
  exact ih (i + 1) _ (by omega) (by simpa using hy) (take_set_succ hy (by omega) rfl ht)

theorem toInt64SS (l : List (List Int)) (hl : Mod l) : Ev (fun k => laws_toInt64SS.f k l) l := by
 have hl1 := hl.1
 unfold laws_toInt64SS.f
 repeat (first | with_reducible exact Ev.now _ | dsimp only | refine Ev.pos (by first | omega | rfl | assumption | decide) ?_ | refine Ev.neg (by first | omega | assumption | exact Bool.false_ne_true | exact fun e => absurd e (by decide)) ?_ | simp only [bne_self_eq_false, Bool.not_true, Bool.not_false, List.length_cons, List.length_nil] | rw [wrap_id (by omega) (by omega)] | ((with_reducible refine Ev.eq (congrArg some ?_)); rfl))
 exact toInt64SS_loop l hl l.length 0 _ (by omega) (by simp) (by simp)

theorem toGraph (n : Int) (l : List (List Int)) (hl : Mod l) : Ev (fun k => laws_toGraph.f k n l) (n, l) := by
 unfold laws_toGraph.f
 repeat (first | with_reducible exact Ev.now _ | dsimp only | with_reducible refine Ev.bind (toInt64SS l hl) ?_ | refine Ev.pos (by first | omega | rfl | assumption | decide) ?_ | refine Ev.neg (by first | omega | assumption | exact Bool.false_ne_true | exact fun e => absurd e (by decide)) ?_ | simp only [bne_self_eq_false, Bool.not_true, Bool.not_false, List.length_cons, List.length_nil] | rw [wrap_id (by omega) (by omega)] | with_reducible exact (toInt64SS l hl) | ((with_reducible refine Ev.eq (congrArg some ?_)); rfl))

theorem eqInt64SS_self_loop (a : List (List Int)) (hl : Mod a) : ∀ (d i : Nat), i + d = a.length →
  Ev (fun k => laws_eqInt64SS.l0 k a a (i : Int)) true := by
 have hl1 := hl.1
 intro d
 induction d with
 | zero =>
  intro i hi
  refine Ev.succ ?_; simp only [laws_eqInt64SS.l0]
  repeat (first | with_reducible exact Ev.now _ | dsimp only | refine Ev.pos (by first | omega | rfl | assumption | decide) ?_ | refine Ev.neg (by first | omega | assumption | exact Bool.false_ne_true | exact fun e => absurd e (by decide)) ?_ | simp only [bne_self_eq_false, Bool.not_true, Bool.not_false, List.length_cons, List.length_nil] | rw [wrap_id (by omega) (by omega)] | ((with_reducible refine Ev.eq (congrArg some ?_)); rfl))
 | succ d ih =>
  intro i hi
  refine Ev.succ ?_; simp only [laws_eqInt64SS.l0]
  rw [rl_lt (by omega), wrap_succ (by omega)]
  repeat (first | with_reducible exact Ev.now _ | dsimp only | with_reducible refine Ev.bind (eqInt64S_self _ (hl.row (by omega))) ?_ | refine Ev.pos (by first | omega | rfl | assumption | decide) ?_ | refine Ev.neg (by first | omega | assumption | exact Bool.false_ne_true | exact fun e => absurd e (by decide)) ?_ | simp only [bne_self_eq_false, Bool.not_true, Bool.not_false, List.length_cons, List.length_nil] | rw [wrap_id (by omega) (by omega)] | with_reducible exact (eqInt64S_self _ (hl.row (by omega))) | ((with_reducible refine Ev.eq (congrArg some ?_)); rfl))
  exact ih (i + 1) (by omega)

theorem eqInt64SS_self (a : List (List Int)) (hl : Mod a) : Ev (fun k => laws_eqInt64SS.f k a a) true := by
 unfold laws_eqInt64SS.f
 repeat (first | with_reducible exact Ev.now _ | dsimp only | refine Ev.pos (by first | omega | rfl | assumption | decide) ?_ | refine Ev.neg (by first | omega | assumption | exact Bool.false_ne_true | exact fun e => absurd e (by decide)) ?_ | simp only [bne_self_eq_false, Bool.not_true, Bool.not_false, List.length_cons, List.length_nil] | rw [wrap_id (by omega) (by omega)] | ((with_reducible refine Ev.eq (congrArg some ?_)); rfl))
 exact eqInt64SS_self_loop a hl a.length 0 (by omega)

theorem eqGraph_self (n : Int) (a : List (List Int)) (hl : Mod a) : Ev (fun k => laws_eqGraph.f k n a n a) true := by
 unfold laws_eqGraph.f
 repeat (first | with_reducible exact Ev.now _ | dsimp only | with_reducible refine Ev.bind (eqInt64SS_self a hl) ?_ | refine Ev.pos (by first | omega | rfl | assumption | decide) ?_ | refine Ev.neg (by first | omega | assumption | exact Bool.false_ne_true | exact fun e => absurd e (by decide)) ?_ | simp only [bne_self_eq_false, Bool.not_true, Bool.not_false, List.length_cons, List.length_nil] | rw [wrap_id (by omega) (by omega)] | with_reducible exact (eqInt64SS_self a hl) | ((with_reducible refine Ev.eq (congrArg some ?_)); rfl))
theorem specIn (a b c : Int) : spec_l01In.f a b c = some (decide (b ≤ a ∧ a ≤ c)) := by
 unfold spec_l01In.f
 by_cases h : b ≤ a
 ·rw [if_pos h]; simp [h]
 ·rw [if_neg h]; simp [h]

theorem implWithin (a b c : Int) : impl_within.f a b c = some (decide (b ≤ a ∧ a ≤ c)) := by
 unfold impl_within.f
 by_cases h : b ≤ a
 ·rw [if_pos h]; simp [h]
 ·rw [if_neg h]; simp [h]

/-- One edge's test. -/
def okEdge (n : Int) (e : List Int) : Bool := decide (e.length = 2) && (decide (0 ≤ rd e 0 ∧ rd e 0 ≤ wrap64 (n - 1)) && decide (0 ≤ rd e 1 ∧ rd e 1 ≤ wrap64 (n - 1)))

def isGraph (n : Int) (l : List (List Int)) : Bool := l.all (okEdge n) && (decide (1 ≤ n ∧ n ≤ 8) && decide ((l.length : Int) ≤ 10))

theorem specIs_loop (n : Int) (l : List (List Int)) (hl : Mod l) : ∀ (d i : Nat), i + d = l.length →
  Ev (fun k => spec_l01Is.l0 k (i : Int) n l) ((l.drop i).all (okEdge n)) := by
 have hl1 := hl.1
 intro d
 induction d with
 | zero =>
  intro i hi
  refine Ev.succ ?_; simp only [spec_l01Is.l0]
  rw [List.drop_eq_nil_of_le (by omega)]
  repeat (first | with_reducible exact Ev.now _ | dsimp only | refine Ev.pos (by first | omega | rfl | assumption | decide) ?_ | refine Ev.neg (by first | omega | assumption | exact Bool.false_ne_true | exact fun e => absurd e (by decide)) ?_ | simp only [bne_self_eq_false, Bool.not_true, Bool.not_false, List.length_cons, List.length_nil] | rw [wrap_id (by omega) (by omega)] | ((with_reducible refine Ev.eq (congrArg some ?_)); rfl))
 | succ d ih =>
  intro i hi
  refine Ev.succ ?_; simp only [spec_l01Is.l0]
  rw [List.drop_eq_getElem_cons (by omega : i < l.length), List.all_cons, rl_lt (by omega), wrap_succ (by omega)]
  generalize l[i] = e
  have := ih (i + 1) (by omega)
  unfold okEdge
  by_cases h2 : (e.length : Int) = 2
  ·rw [decide_eq_true (show e.length = 2 by omega), Bool.true_and]
   by_cases ha : 0 ≤ rd e 0 ∧ rd e 0 ≤ wrap64 (n - 1)
   ·by_cases hb : 0 ≤ rd e 1 ∧ rd e 1 ≤ wrap64 (n - 1)
    ·rw [decide_eq_true ha, decide_eq_true hb, Bool.true_and, Bool.true_and]
     repeat (first | with_reducible exact Ev.now _ | dsimp only | with_reducible refine Ev.bind (Ev.eq ((specIn _ _ _).trans (congrArg some (decide_eq_true ha)))) ?_ | with_reducible refine Ev.bind (Ev.eq ((specIn _ _ _).trans (congrArg some (decide_eq_true hb)))) ?_ | refine Ev.pos (by first | omega | rfl | assumption | decide) ?_ | refine Ev.neg (by first | omega | assumption | exact Bool.false_ne_true | exact fun e => absurd e (by decide)) ?_ | simp only [bne_self_eq_false, Bool.not_true, Bool.not_false, List.length_cons, List.length_nil] | rw [wrap_id (by omega) (by omega)] | with_reducible exact (Ev.eq ((specIn _ _ _).trans (congrArg some (decide_eq_true ha)))) | with_reducible exact (Ev.eq ((specIn _ _ _).trans (congrArg some (decide_eq_true hb)))) | ((with_reducible refine Ev.eq (congrArg some ?_)); rfl))
     exact this
    ·rw [decide_eq_false hb, Bool.and_false, Bool.false_and]
     repeat (first | with_reducible exact Ev.now _ | dsimp only | with_reducible refine Ev.bind (Ev.eq ((specIn _ _ _).trans (congrArg some (decide_eq_true ha)))) ?_ | with_reducible refine Ev.bind (Ev.eq ((specIn _ _ _).trans (congrArg some (decide_eq_false hb)))) ?_ | refine Ev.pos (by first | omega | rfl | assumption | decide) ?_ | refine Ev.neg (by first | omega | assumption | exact Bool.false_ne_true | exact fun e => absurd e (by decide)) ?_ | simp only [bne_self_eq_false, Bool.not_true, Bool.not_false, List.length_cons, List.length_nil] | rw [wrap_id (by omega) (by omega)] | with_reducible exact (Ev.eq ((specIn _ _ _).trans (congrArg some (decide_eq_true ha)))) | with_reducible exact (Ev.eq ((specIn _ _ _).trans (congrArg some (decide_eq_false hb)))) | ((with_reducible refine Ev.eq (congrArg some ?_)); rfl))
   ·rw [decide_eq_false ha, Bool.false_and, Bool.false_and]
    repeat (first | with_reducible exact Ev.now _ | dsimp only | with_reducible refine Ev.bind (Ev.eq ((specIn _ _ _).trans (congrArg some (decide_eq_false ha)))) ?_ | refine Ev.pos (by first | omega | rfl | assumption | decide) ?_ | refine Ev.neg (by first | omega | assumption | exact Bool.false_ne_true | exact fun e => absurd e (by decide)) ?_ | simp only [bne_self_eq_false, Bool.not_true, Bool.not_false, List.length_cons, List.length_nil] | rw [wrap_id (by omega) (by omega)] | with_reducible exact (Ev.eq ((specIn _ _ _).trans (congrArg some (decide_eq_false ha)))) | ((with_reducible refine Ev.eq (congrArg some ?_)); rfl))
  ·rw [decide_eq_false (show ¬ e.length = 2 by omega), Bool.false_and, Bool.false_and]
   repeat (first | with_reducible exact Ev.now _ | dsimp only | refine Ev.pos (by first | omega | rfl | assumption | decide) ?_ | refine Ev.neg (by first | omega | assumption | exact Bool.false_ne_true | exact fun e => absurd e (by decide)) ?_ | simp only [bne_self_eq_false, Bool.not_true, Bool.not_false, List.length_cons, List.length_nil] | rw [wrap_id (by omega) (by omega)] | ((with_reducible refine Ev.eq (congrArg some ?_)); rfl))

theorem specIs (n : Int) (l : List (List Int)) (hl : Mod l) : Ev (fun k => spec_l01Is.f k n l) (isGraph n l) := by
 unfold spec_l01Is.f isGraph
 by_cases h1 : 1 ≤ n ∧ n ≤ 8
 ·rw [decide_eq_true h1, Bool.true_and]
  repeat (first | with_reducible exact Ev.now _ | dsimp only | with_reducible refine Ev.bind (Ev.eq ((specIn n 1 8).trans (congrArg some (decide_eq_true h1)))) ?_ | refine Ev.pos (by first | omega | rfl | assumption | decide) ?_ | refine Ev.neg (by first | omega | assumption | exact Bool.false_ne_true | exact fun e => absurd e (by decide)) ?_ | simp only [bne_self_eq_false, Bool.not_true, Bool.not_false, List.length_cons, List.length_nil] | rw [wrap_id (by omega) (by omega)] | with_reducible exact (Ev.eq ((specIn n 1 8).trans (congrArg some (decide_eq_true h1)))) | ((with_reducible refine Ev.eq (congrArg some ?_)); rfl))
  refine Ev.succ ?_
  simp only [spec_l01Is.j0]
  by_cases h2 : (l.length : Int) ≤ 10
  ·rw [decide_eq_true h2, decide_eq_false (show ¬ (l.length : Int) > 10 by omega), Bool.and_true]
   repeat (first | with_reducible exact Ev.now _ | dsimp only | refine Ev.pos (by first | omega | rfl | assumption | decide) ?_ | refine Ev.neg (by first | omega | assumption | exact Bool.false_ne_true | exact fun e => absurd e (by decide)) ?_ | simp only [bne_self_eq_false, Bool.not_true, Bool.not_false, List.length_cons, List.length_nil] | rw [wrap_id (by omega) (by omega)] | ((with_reducible refine Ev.eq (congrArg some ?_)); rfl))
   exact specIs_loop n l hl l.length 0 (by omega)
  ·rw [decide_eq_false h2, decide_eq_true (show (l.length : Int) > 10 by omega), Bool.and_false]
   repeat (first | with_reducible exact Ev.now _ | dsimp only | refine Ev.pos (by first | omega | rfl | assumption | decide) ?_ | refine Ev.neg (by first | omega | assumption | exact Bool.false_ne_true | exact fun e => absurd e (by decide)) ?_ | simp only [bne_self_eq_false, Bool.not_true, Bool.not_false, List.length_cons, List.length_nil] | rw [wrap_id (by omega) (by omega)] | ((with_reducible refine Ev.eq (congrArg some ?_)); rfl))
 ·rw [decide_eq_false h1, Bool.false_and, Bool.and_false]
  repeat (first | with_reducible exact Ev.now _ | dsimp only | with_reducible refine Ev.bind (Ev.eq ((specIn n 1 8).trans (congrArg some (decide_eq_false h1)))) ?_ | refine Ev.pos (by first | omega | rfl | assumption | decide) ?_ | refine Ev.neg (by first | omega | assumption | exact Bool.false_ne_true | exact fun e => absurd e (by decide)) ?_ | simp only [bne_self_eq_false, Bool.not_true, Bool.not_false, List.length_cons, List.length_nil] | rw [wrap_id (by omega) (by omega)] | with_reducible exact (Ev.eq ((specIn n 1 8).trans (congrArg some (decide_eq_false h1)))) | ((with_reducible refine Ev.eq (congrArg some ?_)); rfl))
  refine Ev.succ ?_
  simp only [spec_l01Is.j0]
  repeat (first | with_reducible exact Ev.now _ | dsimp only | refine Ev.pos (by first | omega | rfl | assumption | decide) ?_ | refine Ev.neg (by first | omega | assumption | exact Bool.false_ne_true | exact fun e => absurd e (by decide)) ?_ | simp only [bne_self_eq_false, Bool.not_true, Bool.not_false, List.length_cons, List.length_nil] | rw [wrap_id (by omega) (by omega)] | ((with_reducible refine Ev.eq (congrArg some ?_)); rfl))

theorem implIs_loop (n : Int) (l : List (List Int)) (hl : Mod l) : ∀ (d i : Nat), i + d = l.length →
  Ev (fun k => impl_IsGraph.l0 k l (l.length : Int) (i : Int) n l) ((l.drop i).all (okEdge n) && (decide (1 ≤ n ∧ n ≤ 8) && decide ((l.length : Int) ≤ 10))) := by
 have hl1 := hl.1
 intro d
 induction d with
 | zero =>
  intro i hi
  refine Ev.succ ?_; simp only [impl_IsGraph.l0]
  rw [List.drop_eq_nil_of_le (by omega), List.all_nil, Bool.true_and]
  by_cases h1 : 1 ≤ n ∧ n ≤ 8
  ·rw [decide_eq_true h1, Bool.true_and]
   repeat (first | with_reducible exact Ev.now _ | dsimp only | with_reducible refine Ev.bind (Ev.eq ((implWithin n 1 8).trans (congrArg some (decide_eq_true h1)))) ?_ | refine Ev.pos (by first | omega | rfl | assumption | decide) ?_ | refine Ev.neg (by first | omega | assumption | exact Bool.false_ne_true | exact fun e => absurd e (by decide)) ?_ | simp only [bne_self_eq_false, Bool.not_true, Bool.not_false, List.length_cons, List.length_nil] | rw [wrap_id (by omega) (by omega)] | with_reducible exact (Ev.eq ((implWithin n 1 8).trans (congrArg some (decide_eq_true h1)))) | ((with_reducible refine Ev.eq (congrArg some ?_)); rfl))
  ·rw [decide_eq_false h1, Bool.false_and]
   repeat (first | with_reducible exact Ev.now _ | dsimp only | with_reducible refine Ev.bind (Ev.eq ((implWithin n 1 8).trans (congrArg some (decide_eq_false h1)))) ?_ | refine Ev.pos (by first | omega | rfl | assumption | decide) ?_ | refine Ev.neg (by first | omega | assumption | exact Bool.false_ne_true | exact fun e => absurd e (by decide)) ?_ | simp only [bne_self_eq_false, Bool.not_true, Bool.not_false, List.length_cons, List.length_nil] | rw [wrap_id (by omega) (by omega)] | with_reducible exact (Ev.eq ((implWithin n 1 8).trans (congrArg some (decide_eq_false h1)))) | ((with_reducible refine Ev.eq (congrArg some ?_)); rfl))
 | succ d ih =>
  intro i hi
  refine Ev.succ ?_; simp only [impl_IsGraph.l0]
  rw [List.drop_eq_getElem_cons (by omega : i < l.length), List.all_cons, rl_lt (by omega), wrap_succ (by omega)]
  generalize l[i] = e
  have := ih (i + 1) (by omega)
  unfold okEdge at this ⊢
  by_cases h2 : (e.length : Int) = 2
  ·rw [decide_eq_true (show e.length = 2 by omega), Bool.true_and]
   by_cases ha : 0 ≤ rd e 0 ∧ rd e 0 ≤ wrap64 (n - 1)
   ·by_cases hb : 0 ≤ rd e 1 ∧ rd e 1 ≤ wrap64 (n - 1)
    ·rw [decide_eq_true ha, decide_eq_true hb, Bool.true_and, Bool.true_and]
     repeat (first | with_reducible exact Ev.now _ | dsimp only | with_reducible refine Ev.bind (Ev.eq ((implWithin _ _ _).trans (congrArg some (decide_eq_true ha)))) ?_ | with_reducible refine Ev.bind (Ev.eq ((implWithin _ _ _).trans (congrArg some (decide_eq_true hb)))) ?_ | refine Ev.pos (by first | omega | rfl | assumption | decide) ?_ | refine Ev.neg (by first | omega | assumption | exact Bool.false_ne_true | exact fun e => absurd e (by decide)) ?_ | simp only [bne_self_eq_false, Bool.not_true, Bool.not_false, List.length_cons, List.length_nil] | rw [wrap_id (by omega) (by omega)] | with_reducible exact (Ev.eq ((implWithin _ _ _).trans (congrArg some (decide_eq_true ha)))) | with_reducible exact (Ev.eq ((implWithin _ _ _).trans (congrArg some (decide_eq_true hb)))) | ((with_reducible refine Ev.eq (congrArg some ?_)); rfl))
     exact this
    ·rw [decide_eq_false hb, Bool.and_false, Bool.false_and, Bool.false_and]
     repeat (first | with_reducible exact Ev.now _ | dsimp only | with_reducible refine Ev.bind (Ev.eq ((implWithin _ _ _).trans (congrArg some (decide_eq_true ha)))) ?_ | with_reducible refine Ev.bind (Ev.eq ((implWithin _ _ _).trans (congrArg some (decide_eq_false hb)))) ?_ | refine Ev.pos (by first | omega | rfl | assumption | decide) ?_ | refine Ev.neg (by first | omega | assumption | exact Bool.false_ne_true | exact fun e => absurd e (by decide)) ?_ | simp only [bne_self_eq_false, Bool.not_true, Bool.not_false, List.length_cons, List.length_nil] | rw [wrap_id (by omega) (by omega)] | with_reducible exact (Ev.eq ((implWithin _ _ _).trans (congrArg some (decide_eq_true ha)))) | with_reducible exact (Ev.eq ((implWithin _ _ _).trans (congrArg some (decide_eq_false hb)))) | ((with_reducible refine Ev.eq (congrArg some ?_)); rfl))
   ·rw [decide_eq_false ha, Bool.false_and, Bool.false_and, Bool.false_and]
    repeat (first | with_reducible exact Ev.now _ | dsimp only | with_reducible refine Ev.bind (Ev.eq ((implWithin _ _ _).trans (congrArg some (decide_eq_false ha)))) ?_ | refine Ev.pos (by first | omega | rfl | assumption | decide) ?_ | refine Ev.neg (by first | omega | assumption | exact Bool.false_ne_true | exact fun e => absurd e (by decide)) ?_ | simp only [bne_self_eq_false, Bool.not_true, Bool.not_false, List.length_cons, List.length_nil] | rw [wrap_id (by omega) (by omega)] | with_reducible exact (Ev.eq ((implWithin _ _ _).trans (congrArg some (decide_eq_false ha)))) | ((with_reducible refine Ev.eq (congrArg some ?_)); rfl))
  ·rw [decide_eq_false (show ¬ e.length = 2 by omega), Bool.false_and, Bool.false_and, Bool.false_and]
   repeat (first | with_reducible exact Ev.now _ | dsimp only | refine Ev.pos (by first | omega | rfl | assumption | decide) ?_ | refine Ev.neg (by first | omega | assumption | exact Bool.false_ne_true | exact fun e => absurd e (by decide)) ?_ | simp only [bne_self_eq_false, Bool.not_true, Bool.not_false, List.length_cons, List.length_nil] | rw [wrap_id (by omega) (by omega)] | ((with_reducible refine Ev.eq (congrArg some ?_)); rfl))

theorem implIsGraph (n : Int) (l : List (List Int)) (hl : Mod l) : Ev (fun k => impl_IsGraph.f k n l) (isGraph n l) := by
 unfold impl_IsGraph.f
 exact implIs_loop n l hl l.length 0 (by omega)

theorem len_two {α : Type} {e : List α} (h : e.length = 2) : ∃ a b, e = [a, b] := by
 match e, h with
 | [a, b], _ => exact ⟨a, b, rfl⟩

theorem isGraph_iff (n : Int) (l : List (List Int)) : isGraph n l = true ↔ 1 ≤ n ∧ n ≤ 8 ∧ l.length ≤ 10 ∧ ∀ e ∈ l, ∃ a b : Int, e = [a, b] ∧ 0 ≤ a ∧ a < n ∧ 0 ≤ b ∧ b < n := by
 unfold isGraph
 rw [Bool.and_eq_true, Bool.and_eq_true, decide_eq_true_iff, decide_eq_true_iff, List.all_eq_true]
 constructor
 ·rintro ⟨h, ⟨h1, h2⟩, h3⟩
  refine ⟨h1, h2, by omega, fun e he => ?_⟩
  have := h e he
  unfold okEdge at this
  rw [Bool.and_eq_true, Bool.and_eq_true, decide_eq_true_iff, decide_eq_true_iff, decide_eq_true_iff, wrap_id (by omega) (by omega)] at this
  obtain ⟨he2, ha, hb⟩ := this
  obtain ⟨a, b, rfl⟩ := len_two he2
  simp only [show rd [a, b] 0 = a from rfl, show rd [a, b] 1 = b from rfl] at ha hb
  exact ⟨a, b, rfl, by omega, by omega, by omega, by omega⟩
 ·rintro ⟨h1, h2, h3, h⟩
  refine ⟨fun e he => ?_, ⟨h1, h2⟩, by omega⟩
  obtain ⟨a, b, rfl, h4, h5, h6, h7⟩ := h e he
  unfold okEdge
  rw [Bool.and_eq_true, Bool.and_eq_true, decide_eq_true_iff, decide_eq_true_iff, decide_eq_true_iff, wrap_id (by omega) (by omega)]
  simp only [show rd [a, b] 0 = a from rfl, show rd [a, b] 1 = b from rfl]
  exact ⟨rfl, by omega, by omega⟩
theorem graph_edge {n : Int} {l : List (List Int)} (h : isGraph n l = true) {i : Nat} (hi : i < l.length) :
  (rd_L1 l (i : Int)).length = 2 ∧ ∃ a b : Nat, rd (rd_L1 l (i : Int)) 0 = a ∧ rd (rd_L1 l (i : Int)) 1 = b ∧ (a : Int) < n ∧ (b : Int) < n := by
 rw [rl_lt hi]
 obtain ⟨h1, h2, h3, h4⟩ := (isGraph_iff n l).1 h
 obtain ⟨a, b, e, ha, ha', hb, hb'⟩ := h4 _ (List.getElem_mem hi)
 rw [e]
 refine ⟨rfl, a.toNat, b.toNat, ?_, ?_, by omega, by omega⟩
 ·show a = _
  omega
 ·show b = _
  omega

theorem graph_small {n : Int} {l : List (List Int)} (h : isGraph n l = true) : 1 ≤ n ∧ n ≤ 8 ∧ l.length ≤ 10 := by
 obtain ⟨h1, h2, h3, h4⟩ := (isGraph_iff n l).1 h
 exact ⟨h1, h2, h3⟩
/-- The directed edge's start, its end, and its reverse. -/
def tl (l : List (List Int)) (p : Nat) : Int := if p % 2 = 1 then rd (rd_L1 l ((p / 2 : Nat) : Int)) 1 else rd (rd_L1 l ((p / 2 : Nat) : Int)) 0
def hd (l : List (List Int)) (p : Nat) : Int := if p % 2 = 1 then rd (rd_L1 l ((p / 2 : Nat) : Int)) 0 else rd (rd_L1 l ((p / 2 : Nat) : Int)) 1
def inv (p : Nat) : Nat := if p % 2 = 0 then p + 1 else p - 1
def next (l : List (List Int)) (p q : Nat) : Bool := decide (hd l p = tl l q) && decide (q ≠ inv p)

theorem half (p : Nat) (h : p < 1000) : wrap64 (Int.tdiv (p : Int) 2) = ((p / 2 : Nat) : Int) := by
 rw [Int.tdiv_eq_ediv_of_nonneg (by omega), wrap_id (by omega) (by omega)]
 omega

theorem rest2 (p : Nat) : Int.tmod (p : Int) 2 = ((p % 2 : Nat) : Int) := by
 rw [Int.tmod_eq_emod_of_nonneg (by omega)]
 omega

theorem xor_inv (p : Nat) (h : p < 20) : Go.bits .xor .i64 (p : Int) 1 = ((inv p : Nat) : Int) := by
 have : ∀ q : Fin 20, Go.bits .xor .i64 (q.val : Int) 1 = ((inv q.val : Nat) : Int) := by decide
 exact this ⟨p, h⟩

section
variable {n : Int} {l : List (List Int)} (h : isGraph n l = true)
include h

theorem specEnds {p : Nat} (hp : p < 2 * l.length) : spec_l01Ends.f n l (p : Int) = some (tl l p, hd l p) := by
 obtain ⟨g1, g2, g3⟩ := graph_small h
 obtain ⟨e2, a, b, ea, eb, ha, hb⟩ := graph_edge h (show p / 2 < l.length by omega)
 unfold spec_l01Ends.f tl hd
 rw [half p (by omega), rest2, if_pos (by omega), if_pos (by omega)]
 by_cases c : p % 2 = 1
 ·rw [if_pos (show ((p % 2 : Nat) : Int) = 1 by omega), if_pos (by omega), if_pos (by omega), if_pos c, if_pos c]
 ·rw [if_neg (show ¬ ((p % 2 : Nat) : Int) = 1 by omega), if_pos (by omega), if_pos (by omega), if_neg c, if_neg c]

theorem implEnds {p : Nat} (hp : p < 2 * l.length) : impl_Graph_ends.f n l (p : Int) = some (tl l p, hd l p) := by
 obtain ⟨g1, g2, g3⟩ := graph_small h
 obtain ⟨e2, a, b, ea, eb, ha, hb⟩ := graph_edge h (show p / 2 < l.length by omega)
 unfold impl_Graph_ends.f tl hd
 rw [half p (by omega), rest2, wrap_id (x := 1 - ((p % 2 : Nat) : Int)) (by omega) (by omega), if_pos (by omega), if_pos (by omega), if_pos (by omega), if_pos (by omega), if_pos (by omega), if_pos (by omega)]
 by_cases c : p % 2 = 1
 ·rw [if_pos c, if_pos c, c]
  rfl
 ·rw [if_neg c, if_neg c, show p % 2 = 0 by omega]
  rfl

theorem implFollows {p q : Nat} (hp : p < 2 * l.length) (hq : q < 2 * l.length) : impl_Graph_follows.f n l (p : Int) (q : Int) = some (next l p q) := by
 obtain ⟨g1, g2, g3⟩ := graph_small h
 unfold impl_Graph_follows.f next
 rw [implEnds h hp, implEnds h hq, Option.bind_some, Option.bind_some, xor_inv p (by omega)]
 by_cases c : hd l p = tl l q
 ·rw [if_pos c.symm, decide_eq_true c, Bool.true_and]
  by_cases c2 : q = inv p
  ·rw [c2]; simp
  ·simp [c2, bne]
   omega
 ·rw [if_neg (fun e => c e.symm), decide_eq_false c, Bool.false_and]

end
theorem markInt64S_loop (n : Nat) (hn : n ≤ 1048576) (a : Int) (h0 : 0 ≤ a) (h1 : a ≤ 1125899906842624) : ∀ (d i : Nat) (ys : List Int), i + d = n → ys.length = n → ys.take i = (marks a n).take i →
  Ev (fun k => laws_markInt64S.l0 k ys (a + i) (i : Int)) (a + n, marks a n) := by
 intro d
 induction d with
 | zero =>
  intro i ys hi hy ht
  refine Ev.succ ?_; simp only [laws_markInt64S.l0]
  rw [show ys = marks a n from eq_of_take (by rw [hy, marks_length]) (by rw [marks_length]; omega) ht, show i = n by omega]
  have := marks_length a n
  repeat (first | with_reducible exact Ev.now _ | dsimp only | refine Ev.pos (by first | omega | rfl | assumption | decide) ?_ | refine Ev.neg (by first | omega | assumption | exact Bool.false_ne_true | exact fun e => absurd e (by decide)) ?_ | simp only [bne_self_eq_false, Bool.not_true, Bool.not_false, List.length_cons, List.length_nil] | rw [wrap_id (by omega) (by omega)] | ((with_reducible refine Ev.eq (congrArg some ?_)); rfl))
 | succ d ih =>
  intro i ys hi hy ht
  refine Ev.succ ?_; simp only [laws_markInt64S.l0]
  rw [wrap_succ (by omega), wrap_id (x := a + i + 1) (by omega) (by omega)]
  repeat (first | with_reducible exact Ev.now _ | dsimp only | refine Ev.pos (by first | omega | rfl | assumption | decide) ?_ | refine Ev.neg (by first | omega | assumption | exact Bool.false_ne_true | exact fun e => absurd e (by decide)) ?_ | simp only [bne_self_eq_false, Bool.not_true, Bool.not_false, List.length_cons, List.length_nil] | rw [wrap_id (by omega) (by omega)] | ((with_reducible refine Ev.eq (congrArg some ?_)); rfl))
  have := ih (i + 1) (ys.set i (a + i)) (by omega) (by simpa using hy) (take_set_succ (by rw [hy, marks_length]) (by rw [marks_length]; omega) (marks_get a n i (by rw [marks_length]; omega)).symm ht)
  rw [show a + ((i + 1 : Nat) : Int) = a + i + 1 by omega] at this
  exact this

theorem markInt64S (l : List Int) (hl : l.length ≤ 1048576) (a : Int) (h0 : 0 ≤ a) (h1 : a ≤ 1125899906842624) : Ev (fun k => laws_markInt64S.f k l a) (a + l.length, marks a l.length) := by
 unfold laws_markInt64S.f
 have := markInt64S_loop l.length hl a h0 h1 l.length 0 l (by omega) rfl (by simp)
 rw [show a + ((0 : Nat) : Int) = a by omega] at this
 exact this

theorem heldInt64S_loop (n : Nat) (hn : n ≤ 1048576) (a : Int) (h0 : 0 ≤ a) (h1 : a ≤ 1125899906842624) : ∀ (d i : Nat), i + d = n →
  Ev (fun k => laws_heldInt64S.l0 k (marks a n) (a + i) (i : Int)) (a + n) := by
 have hm := marks_length a n
 intro d
 induction d with
 | zero =>
  intro i hi
  refine Ev.succ ?_; simp only [laws_heldInt64S.l0]
  rw [show i = n by omega]
  repeat (first | with_reducible exact Ev.now _ | dsimp only | refine Ev.pos (by first | omega | rfl | assumption | decide) ?_ | refine Ev.neg (by first | omega | assumption | exact Bool.false_ne_true | exact fun e => absurd e (by decide)) ?_ | simp only [bne_self_eq_false, Bool.not_true, Bool.not_false, List.length_cons, List.length_nil] | rw [wrap_id (by omega) (by omega)] | ((with_reducible refine Ev.eq (congrArg some ?_)); rfl))
 | succ d ih =>
  intro i hi
  refine Ev.succ ?_; simp only [laws_heldInt64S.l0]
  rw [wrap_succ (by omega), wrap_id (x := a + i + 1) (by omega) (by omega)]
  have e := marks_get a n i (by omega)
  rw [← rd_lt] at e
  have := ih (i + 1) (by omega)
  rw [show a + ((i + 1 : Nat) : Int) = a + i + 1 by omega] at this
  repeat (first | with_reducible exact Ev.now _ | dsimp only | refine Ev.pos (by first | omega | rfl | assumption | decide) ?_ | refine Ev.neg (by first | omega | assumption | exact Bool.false_ne_true | exact fun e => absurd e (by decide)) ?_ | simp only [bne_self_eq_false, Bool.not_true, Bool.not_false, List.length_cons, List.length_nil] | rw [wrap_id (by omega) (by omega)] | ((with_reducible refine Ev.eq (congrArg some ?_)); rfl))
  exact this

theorem heldInt64S (a : Int) (n : Nat) (hn : n ≤ 1048576) (h0 : 0 ≤ a) (h1 : a ≤ 1125899906842624) : Ev (fun k => laws_heldInt64S.f k (marks a n) a) (a + n) := by
 unfold laws_heldInt64S.f
 have := heldInt64S_loop n hn a h0 h1 n 0 (by omega)
 rw [show a + ((0 : Nat) : Int) = a by omega] at this
 exact this
theorem markInt64SS_loop : ∀ (d i : Nat) (xs : List (List Int)) (a : Int), i + d = xs.length → xs.length ≤ 1048576 → (∀ r ∈ xs, r.length ≤ 1048576) → 0 ≤ a → a ≤ 1 + 1048576 * i →
  ∃ r : Int × List (List Int), Ev (fun k => laws_markInt64SS.l0 k xs a (i : Int)) r ∧ 0 ≤ r.1 ∧ r.1 ≤ 1 + 1048576 * xs.length := by
 intro d
 induction d with
 | zero =>
  intro i xs a hi hx hr h0 h1
  refine ⟨(a, xs), ?_, h0, by simp only; omega⟩
  refine Ev.succ ?_; simp only [laws_markInt64SS.l0]
  repeat (first | with_reducible exact Ev.now _ | dsimp only | refine Ev.pos (by first | omega | rfl | assumption | decide) ?_ | refine Ev.neg (by first | omega | assumption | exact Bool.false_ne_true | exact fun e => absurd e (by decide)) ?_ | simp only [bne_self_eq_false, Bool.not_true, Bool.not_false, List.length_cons, List.length_nil] | rw [wrap_id (by omega) (by omega)] | ((with_reducible refine Ev.eq (congrArg some ?_)); rfl))
 | succ d ih =>
  intro i xs a hi hx hr h0 h1
  have hlen : xs[i].length ≤ 1048576 := hr _ (List.getElem_mem (by omega))
  obtain ⟨r, h2, h3⟩ := ih (i + 1) (xs.set i (marks a xs[i].length)) (a + xs[i].length) (by simp; omega) (by simpa using hx) (fun r hm => by
   rcases List.mem_or_eq_of_mem_set hm with h | h
   ·exact hr r h
   ·rw [h, marks_length]; exact hlen) (by omega) (by omega)
  rw [List.length_set] at h3
  refine ⟨r, ?_, h3⟩
  refine Ev.succ ?_; simp only [laws_markInt64SS.l0]
  rw [wrap_succ (by omega), rl_lt (by omega)]
  repeat (first | with_reducible exact Ev.now _ | dsimp only | with_reducible refine Ev.bind (markInt64S xs[i] hlen a h0 (by omega)) ?_ | refine Ev.pos (by first | omega | rfl | assumption | decide) ?_ | refine Ev.neg (by first | omega | assumption | exact Bool.false_ne_true | exact fun e => absurd e (by decide)) ?_ | simp only [bne_self_eq_false, Bool.not_true, Bool.not_false, List.length_cons, List.length_nil] | rw [wrap_id (by omega) (by omega)] | with_reducible exact (markInt64S xs[i] hlen a h0 (by omega)) | ((with_reducible refine Ev.eq (congrArg some ?_)); rfl))
  exact h2

theorem markGraph (n : Int) (l : List (List Int)) (hl : Mod l) : ∃ r : Int × List (List Int), Ev (fun k => laws_markGraph.f k n l 1) r ∧ 0 ≤ r.1 ∧ r.1 ≤ 1099511627777 := by
 unfold laws_markGraph.f laws_markInt64SS.f
 have hl1 := hl.1
 obtain ⟨r, h1, h2, h3⟩ := markInt64SS_loop l.length 0 l 1 (by omega) hl.1 hl.2 (by decide) (by omega)
 exact ⟨r, h1, h2, by omega⟩
def marksR : Int → List (List Int) → List (List Int)
 | _, [] => []
 | a, r :: rs => marks a r.length :: marksR (a + r.length) rs

def total : List (List Int) → Nat
 | [] => 0
 | r :: rs => r.length + total rs

theorem total_le (rs : List (List Int)) (h : ∀ r ∈ rs, r.length ≤ 1048576) : total rs ≤ 1048576 * rs.length := by
 induction rs with
 | nil => simp [total]
 | cons r rs ih =>
  have h1 := h r (List.mem_cons_self)
  have h2 := ih (fun x hx => h x (List.mem_cons_of_mem _ hx))
  unfold total
  rw [List.length_cons]
  omega

theorem marksR_length (a : Int) (rs : List (List Int)) : (marksR a rs).length = rs.length := by
 induction rs generalizing a with
 | nil => rfl
 | cons r rs ih => simp [marksR, ih]

theorem rl_mid (A : List (List Int)) (r : List Int) (B : List (List Int)) : rd_L1 (A ++ r :: B) (A.length : Int) = r := by
 rw [rl_lt (by simp)]
 simp

theorem markRows_loop : ∀ (rest done : List (List Int)) (a : Int), (done ++ rest).length ≤ 1048576 → (∀ r ∈ rest, r.length ≤ 1048576) → 0 ≤ a → a + total rest ≤ 1125899906842624 →
  Ev (fun k => laws_markInt64SS.l0 k (done ++ rest) a (done.length : Int)) (a + total rest, done ++ marksR a rest) := by
 intro rest
 induction rest with
 | nil =>
  intro done a hl hr h0 h1
  refine Ev.succ ?_; simp only [laws_markInt64SS.l0]
  rw [List.append_nil] at *
  unfold marksR total
  rw [show a + ((0 : Nat) : Int) = a by omega, List.append_nil]
  repeat (first | with_reducible exact Ev.now _ | dsimp only | refine Ev.pos (by first | omega | rfl | assumption | decide) ?_ | refine Ev.neg (by first | omega | assumption | exact Bool.false_ne_true | exact fun e => absurd e (by decide)) ?_ | simp only [bne_self_eq_false, Bool.not_true, Bool.not_false, List.length_cons, List.length_nil] | rw [wrap_id (by omega) (by omega)] | ((with_reducible refine Ev.eq (congrArg some ?_)); rfl))
 | cons r rest ih =>
  intro done a hl hr h0 h1
  have hrl := hr r (List.mem_cons_self)
  unfold total at h1
  have hd : (done ++ r :: rest).length = done.length + rest.length + 1 := by simp; omega
  refine Ev.succ ?_; simp only [laws_markInt64SS.l0]
  rw [rl_mid, wrap_succ (by omega), Int.toNat_natCast]
  repeat (first | with_reducible exact Ev.now _ | dsimp only | with_reducible refine Ev.bind (markInt64S r hrl a h0 (by omega)) ?_ | refine Ev.pos (by first | omega | rfl | assumption | decide) ?_ | refine Ev.neg (by first | omega | assumption | exact Bool.false_ne_true | exact fun e => absurd e (by decide)) ?_ | simp only [bne_self_eq_false, Bool.not_true, Bool.not_false, List.length_cons, List.length_nil] | rw [wrap_id (by omega) (by omega)] | with_reducible exact (markInt64S r hrl a h0 (by omega)) | ((with_reducible refine Ev.eq (congrArg some ?_)); rfl))
  have e1 : (done ++ r :: rest).set done.length (marks a r.length) = (done ++ [marks a r.length]) ++ rest := by
   rw [List.set_append_right _ _ (Nat.le_refl _), Nat.sub_self, List.set_cons_zero, List.append_assoc]
   rfl
  have := ih (done ++ [marks a r.length]) (a + r.length) (by simp at hl ⊢; omega) (fun x hx => hr x (List.mem_cons_of_mem _ hx)) (by omega) (by omega)
  rw [e1]
  rw [List.length_append, List.length_singleton] at this
  unfold total marksR
  rw [show a + ((r.length + total rest : Nat) : Int) = a + r.length + total rest by omega, show done ++ marks a r.length :: marksR (a + r.length) rest = (done ++ [marks a r.length]) ++ marksR (a + r.length) rest by rw [List.append_assoc]; rfl]
  exact this

theorem markRows (rs : List (List Int)) (h : Mod rs) : Ev (fun k => laws_markInt64SS.f k rs 1) (1 + total rs, marksR 1 rs) := by
 have := total_le rs h.2
 have hl := h.1
 exact markRows_loop rs [] 1 hl h.2 (by decide) (by omega)

theorem heldRows_loop : ∀ (rest done : List (List Int)) (a : Int), (done ++ rest).length ≤ 1048576 → (∀ r ∈ rest, r.length ≤ 1048576) → 0 ≤ a → a + total rest ≤ 1125899906842624 →
  Ev (fun k => laws_heldInt64SS.l0 k (done ++ marksR a rest) a (done.length : Int)) (a + total rest) := by
 intro rest
 induction rest with
 | nil =>
  intro done a hl hr h0 h1
  refine Ev.succ ?_; simp only [laws_heldInt64SS.l0]
  unfold marksR total
  rw [show a + ((0 : Nat) : Int) = a by omega, List.append_nil]
  repeat (first | with_reducible exact Ev.now _ | dsimp only | refine Ev.pos (by first | omega | rfl | assumption | decide) ?_ | refine Ev.neg (by first | omega | assumption | exact Bool.false_ne_true | exact fun e => absurd e (by decide)) ?_ | simp only [bne_self_eq_false, Bool.not_true, Bool.not_false, List.length_cons, List.length_nil] | rw [wrap_id (by omega) (by omega)] | ((with_reducible refine Ev.eq (congrArg some ?_)); rfl))
 | cons r rest ih =>
  intro done a hl hr h0 h1
  have hrl := hr r (List.mem_cons_self)
  unfold total at h1
  have hd : (done ++ marksR a (r :: rest)).length = done.length + rest.length + 1 := by rw [List.length_append, marksR_length, List.length_cons]; omega
  have hd2 : (done ++ r :: rest).length = done.length + rest.length + 1 := by simp; omega
  refine Ev.succ ?_; simp only [laws_heldInt64SS.l0]
  unfold marksR at hd ⊢
  rw [rl_mid, wrap_succ (by omega)]
  repeat (first | with_reducible exact Ev.now _ | dsimp only | with_reducible refine Ev.bind (heldInt64S a r.length hrl h0 (by omega)) ?_ | refine Ev.pos (by first | omega | rfl | assumption | decide) ?_ | refine Ev.neg (by first | omega | assumption | exact Bool.false_ne_true | exact fun e => absurd e (by decide)) ?_ | simp only [bne_self_eq_false, Bool.not_true, Bool.not_false, List.length_cons, List.length_nil] | rw [wrap_id (by omega) (by omega)] | with_reducible exact (heldInt64S a r.length hrl h0 (by omega)) | ((with_reducible refine Ev.eq (congrArg some ?_)); rfl))
  have := ih (done ++ [marks a r.length]) (a + r.length) (by simp at hl ⊢; omega) (fun x hx => hr x (List.mem_cons_of_mem _ hx)) (by omega) (by omega)
  rw [List.length_append, List.length_singleton] at this
  unfold total
  rw [show a + ((r.length + total rest : Nat) : Int) = a + r.length + total rest by omega, show done ++ marks a r.length :: marksR (a + r.length) rest = (done ++ [marks a r.length]) ++ marksR (a + r.length) rest by rw [List.append_assoc]; rfl]
  exact this

theorem heldRows (rs : List (List Int)) (h : Mod rs) : Ev (fun k => laws_heldInt64SS.f k (marksR 1 rs) 1) (1 + total rs) := by
 have := total_le rs h.2
 have hl := h.1
 exact heldRows_loop rs [] 1 hl h.2 (by decide) (by omega)
def zeros (n : Nat) : List (List Int) := List.replicate n (List.replicate n 0)

theorem rep_succ {α : Type} (n : Nat) (x : α) : List.replicate n x ++ [x] = List.replicate (n + 1) x := List.replicate_succ'.symm

theorem implSquare (n : Int) (h0 : 0 ≤ n) (h1 : n ≤ 1000) : Ev (fun k => impl_square.f k n) (zeros n.toNat) := by
 have : ∀ (d v : Nat), (v : Int) + d = n → Ev (fun k => impl_square.l0 k n (List.replicate v (List.replicate n.toNat 0)) n (v : Int)) (zeros n.toNat) := by
  intro d
  induction d with
  | zero =>
   intro v hv
   refine Ev.succ ?_; simp only [impl_square.l0]
   rw [show v = n.toNat by omega]
   repeat (first | with_reducible exact Ev.now _ | dsimp only | refine Ev.pos (by first | omega | rfl | assumption | decide) ?_ | refine Ev.neg (by first | omega | assumption | exact Bool.false_ne_true | exact fun e => absurd e (by decide)) ?_ | simp only [bne_self_eq_false, Bool.not_true, Bool.not_false, List.length_cons, List.length_nil] | rw [wrap_id (by omega) (by omega)] | ((with_reducible refine Ev.eq (congrArg some ?_)); rfl))
  | succ d ih =>
   intro v hv
   have := ih (v + 1) (by omega)
   rw [← rep_succ] at this
   refine Ev.succ ?_; simp only [impl_square.l0]
   rw [wrap_succ (by omega)]
   refine Ev.pos (by omega) ?_
   refine Ev.pos (by omega) ?_
   refine Ev.pos (by omega) ?_
   refine Ev.pos (by simp; omega) ?_
   exact this
 exact this n.toNat 0 (by omega)
/-- f 0 + .. + f (n - 1). -/
def Sm : Nat → (Nat → Int) → Int
 | 0, _ => 0
 | n + 1, f => Sm n f + f n

theorem Sm_congr {n : Nat} {f g : Nat → Int} (h : ∀ i, i < n → f i = g i) : Sm n f = Sm n g := by
 induction n with
 | zero => rfl
 | succ n ih => unfold Sm; rw [ih (fun i hi => h i (by omega)), h n (by omega)]

theorem Sm_add (n : Nat) (f g : Nat → Int) : Sm n (fun i => f i + g i) = Sm n f + Sm n g := by
 induction n with
 | zero => rfl
 | succ n ih =>
  show Sm n (fun i => f i + g i) + (f n + g n) = Sm n f + f n + (Sm n g + g n)
  rw [ih]; omega

theorem Sm_mul_left (n : Nat) (c : Int) (f : Nat → Int) : Sm n (fun i => c * f i) = c * Sm n f := by
 induction n with
 | zero => simp [Sm]
 | succ n ih => unfold Sm; rw [ih, Int.mul_add]

theorem Sm_mul_right (n : Nat) (c : Int) (f : Nat → Int) : Sm n (fun i => f i * c) = Sm n f * c := by
 induction n with
 | zero => simp [Sm]
 | succ n ih => unfold Sm; rw [ih, Int.add_mul]

theorem Sm_zero (n : Nat) : Sm n (fun _ => 0) = 0 := by
 induction n with
 | zero => rfl
 | succ n ih => unfold Sm; rw [ih]; rfl

theorem Sm_swap (n m : Nat) (f : Nat → Nat → Int) : Sm n (fun i => Sm m (fun j => f i j)) = Sm m (fun j => Sm n (fun i => f i j)) := by
 induction n with
 | zero => exact (Sm_zero m).symm
 | succ n ih =>
  show Sm n (fun i => Sm m (fun j => f i j)) + Sm m (fun j => f n j) = _
  rw [ih, ← Sm_add]
  rfl

theorem Sm_le {n : Nat} {f : Nat → Int} {b : Int} (h : ∀ i, i < n → f i ≤ b) : Sm n f ≤ n * b := by
 induction n with
 | zero => simp [Sm]
 | succ n ih =>
  have h1 := ih (fun i hi => h i (by omega))
  have h2 := h n (by omega)
  unfold Sm
  rw [Int.natCast_add, Int.add_mul]
  omega

theorem Sm_nonneg {n : Nat} {f : Nat → Int} (h : ∀ i, i < n → 0 ≤ f i) : 0 ≤ Sm n f := by
 induction n with
 | zero => simp [Sm]
 | succ n ih =>
  have h1 := ih (fun i hi => h i (by omega))
  have h2 := h n (by omega)
  unfold Sm
  omega

/-- The product of two square matrices. -/
def mul (n : Nat) (a b : Nat → Nat → Int) : Nat → Nat → Int := fun i j => Sm n (fun k => a i k * b k j)

def tr (n : Nat) (a : Nat → Nat → Int) : Int := Sm n (fun i => a i i)

/-- a to the power p + 1, multiplied from the right. -/
def pw (n : Nat) (a : Nat → Nat → Int) : Nat → Nat → Nat → Int
 | 0 => a
 | p + 1 => mul n (pw n a p) a

/-- A list's matrix, and a matrix's list. -/
def mat (m : List (List Int)) (i j : Nat) : Int := rd (rd_L1 m (i : Int)) (j : Int)

def rowOf (n : Nat) (f : Nat → Int) : List Int := (List.range n).map f

def ofFn (n : Nat) (f : Nat → Nat → Int) : List (List Int) := (List.range n).map (fun i => rowOf n (f i))

theorem rowOf_length (n : Nat) (f : Nat → Int) : (rowOf n f).length = n := by simp [rowOf]

theorem rowOf_rd {n i : Nat} (f : Nat → Int) (h : i < n) : rd (rowOf n f) (i : Int) = f i := rd_map_range f h

theorem rowOf_congr {n : Nat} {f g : Nat → Int} (h : ∀ i, i < n → f i = g i) : rowOf n f = rowOf n g := by
 unfold rowOf
 exact List.map_congr_left (fun i hi => h i (List.mem_range.1 hi))

theorem rowOf_set {n i : Nat} (f : Nat → Int) (v : Int) (h : i < n) : (rowOf n f).set i v = rowOf n (fun j => if j = i then v else f j) := by
 refine list_ext_rd (by rw [List.length_set, rowOf_length, rowOf_length]) (fun j hj => ?_)
 rw [List.length_set, rowOf_length] at hj
 rw [rd_set (by rw [rowOf_length]; exact h), rowOf_rd _ hj, rowOf_rd _ hj]

theorem rowOf_zero (n : Nat) : rowOf n (fun _ => 0) = List.replicate n 0 := by
 refine list_ext_rd (by rw [rowOf_length, List.length_replicate]) (fun j hj => ?_)
 rw [rowOf_length] at hj
 rw [rowOf_rd _ hj, rd_replicate]

theorem ofFn_length (n : Nat) (f : Nat → Nat → Int) : (ofFn n f).length = n := by simp [ofFn]

theorem ofFn_row {n i : Nat} (f : Nat → Nat → Int) (h : i < n) : rd_L1 (ofFn n f) (i : Int) = rowOf n (f i) := by
 rw [rl_lt (by rw [ofFn_length]; exact h)]
 simp [ofFn]

theorem ofFn_mat {n i j : Nat} (f : Nat → Nat → Int) (hi : i < n) (hj : j < n) : mat (ofFn n f) i j = f i j := by
 unfold mat
 rw [ofFn_row f hi, rowOf_rd _ hj]

theorem ofFn_congr {n : Nat} {f g : Nat → Nat → Int} (h : ∀ i j, i < n → j < n → f i j = g i j) : ofFn n f = ofFn n g := by
 unfold ofFn
 exact List.map_congr_left (fun i hi => rowOf_congr (fun j hj => h i j (List.mem_range.1 hi) hj))

theorem ofFn_set {n i : Nat} (f : Nat → Nat → Int) (r : Nat → Int) (h : i < n) : (ofFn n f).set i (rowOf n r) = ofFn n (fun k => if k = i then r else f k) := by
 apply List.ext_getElem
 ·rw [List.length_set, ofFn_length, ofFn_length]
 ·intro k h1 h2
  rw [ofFn_length] at h2
  simp only [List.getElem_set, ofFn, List.getElem_map, List.getElem_range]
  by_cases e : k = i
  ·subst e; simp
  ·rw [if_neg (fun x => e x.symm), if_neg e]

/-- A square list of rows. -/
def Sq (n : Nat) (m : List (List Int)) : Prop := m.length = n ∧ ∀ i : Nat, i < n → (rd_L1 m (i : Int)).length = n

theorem Sq_ofFn (n : Nat) (f : Nat → Nat → Int) : Sq n (ofFn n f) := ⟨ofFn_length n f, fun i hi => by rw [ofFn_row f hi, rowOf_length]⟩

theorem wrap_add_wrap (a b : Int) : wrap64 (wrap64 a + wrap64 b) = wrap64 (a + b) := by
 unfold wrap64
 omega

theorem wrap_add_left (a b : Int) : wrap64 (wrap64 a + b) = wrap64 (a + b) := by
 unfold wrap64
 omega

/-- Row p, told up to the place q. -/
def rowE (l : List (List Int)) (p : Nat) : Nat → List Int
 | 0 => List.replicate (2 * l.length) 0
 | q + 1 => if next l p q = true then (rowE l p q).set q 1 else rowE l p q

def edgeM (l : List (List Int)) (n : Nat) : List (List Int) := (List.range n).map (fun p => rowE l p (2 * l.length))

theorem rowE_length (l : List (List Int)) (p q : Nat) : (rowE l p q).length = 2 * l.length := by
 induction q with
 | zero => simp [rowE]
 | succ q ih => unfold rowE; split <;> simp [ih]

theorem edgeM_length (l : List (List Int)) (n : Nat) : (edgeM l n).length = n := by simp [edgeM]

theorem edgeM_succ (l : List (List Int)) (n : Nat) : edgeM l (n + 1) = edgeM l n ++ [rowE l n (2 * l.length)] := map_range_succ _ _

theorem rowE_rd (l : List (List Int)) (p : Nat) : ∀ (q j : Nat), q ≤ 2 * l.length → rd (rowE l p q) (j : Int) = if j < q ∧ next l p j = true then 1 else 0 := by
 intro q
 induction q with
 | zero =>
  intro j _
  rw [if_neg (by omega)]
  exact rd_replicate _ _
 | succ q ih =>
  intro j hq
  have hl := rowE_length l p q
  unfold rowE
  by_cases c : next l p q = true
  ·rw [if_pos c, rd_set (by omega)]
   by_cases e : j = q
   ·subst e
    rw [if_pos rfl, if_pos ⟨by omega, c⟩]
   ·rw [if_neg e, ih j (by omega)]
    by_cases c2 : j < q ∧ next l p j = true
    ·rw [if_pos c2, if_pos ⟨by omega, c2.2⟩]
    ·rw [if_neg c2, if_neg (fun x => c2 ⟨by omega, x.2⟩)]
  ·rw [if_neg c, ih j (by omega)]
   by_cases c2 : j < q ∧ next l p j = true
   ·rw [if_pos c2, if_pos ⟨by omega, c2.2⟩]
   ·rw [if_neg c2, if_neg (fun x => ?_)]
    by_cases e : j = q
    ·subst e; exact c x.2
    ·exact c2 ⟨by omega, x.2⟩

theorem next_split {l : List (List Int)} {p q : Nat} : next l p q = true ↔ hd l p = tl l q ∧ q ≠ inv p := by
 unfold next
 rw [Bool.and_eq_true, decide_eq_true_iff, decide_eq_true_iff]
/-- The matrix while row p is told up to the place q. -/
def stage (l : List (List Int)) (p q : Nat) : List (List Int) := edgeM l p ++ rowE l p q :: List.replicate (2 * l.length - (p + 1)) (List.replicate (2 * l.length) 0)

theorem stage_length (l : List (List Int)) (p q : Nat) (h : p < 2 * l.length) : (stage l p q).length = 2 * l.length := by
 simp [stage, edgeM_length]; omega

theorem stage_row (l : List (List Int)) (p q : Nat) : rd_L1 (stage l p q) (p : Int) = rowE l p q := by
 unfold stage
 rw [rl_lt (by simp [edgeM_length])]
 rw [List.getElem_append_right (by rw [edgeM_length]; omega)]
 simp [edgeM_length]

theorem stage_set (l : List (List Int)) (p q : Nat) (r : List Int) : (stage l p q).set p r = edgeM l p ++ r :: List.replicate (2 * l.length - (p + 1)) (List.replicate (2 * l.length) 0) := by
 unfold stage
 rw [List.set_append_right _ _ (by rw [edgeM_length]; omega), edgeM_length, Nat.sub_self, List.set_cons_zero]

theorem stage_zero (l : List (List Int)) : 0 < 2 * l.length → stage l 0 0 = zeros (2 * l.length) := by
 intro h
 unfold stage edgeM zeros rowE
 rw [show 2 * l.length - (0 + 1) = 2 * l.length - 1 by omega]
 simp only [List.range_zero, List.map_nil, List.nil_append]
 rw [← List.replicate_succ, Nat.sub_add_cancel (by omega)]

theorem stage_next (l : List (List Int)) (p : Nat) (h : p + 1 < 2 * l.length) : stage l p (2 * l.length) = stage l (p + 1) 0 := by
 unfold stage
 rw [edgeM_succ, show 2 * l.length - (p + 1) = (2 * l.length - (p + 1 + 1)) + 1 by omega, List.replicate_succ, List.append_assoc]
 rfl

theorem stage_last (l : List (List Int)) (p : Nat) (h : p + 1 = 2 * l.length) : stage l p (2 * l.length) = edgeM l (2 * l.length) := by
 unfold stage
 rw [show 2 * l.length - (p + 1) = 0 by omega, List.replicate_zero, ← edgeM_succ, h]

section
variable {n : Int} {l : List (List Int)} (h : isGraph n l = true)
include h

theorem implRow (p : Nat) (hp : p < 2 * l.length) (r : List (List Int)) (hr : Ev (fun k => impl_Graph_edgeMatrix.l0 k (stage l p (2 * l.length)) (2 * (l.length : Int)) ((p + 1 : Nat) : Int) n l) r) :
  ∀ (d q : Nat), q + d = 2 * l.length → Ev (fun k => impl_Graph_edgeMatrix.l1 k (stage l p q) (p : Int) (hd l p) (2 * (l.length : Int)) (p : Int) (2 * (l.length : Int)) (q : Int) n l) r := by
 obtain ⟨g1, g2, g3⟩ := graph_small h
 intro d
 induction d with
 | zero =>
  intro q hq
  have e : q = 2 * l.length := by omega
  refine Ev.succ ?_; simp only [impl_Graph_edgeMatrix.l1]
  rw [wrap_succ (i := p) (by omega), e]
  repeat (first | with_reducible exact Ev.now _ | dsimp only | refine Ev.pos (by first | omega | rfl | assumption | decide) ?_ | refine Ev.neg (by first | omega | assumption | exact Bool.false_ne_true | exact fun e => absurd e (by decide)) ?_ | simp only [bne_self_eq_false, Bool.not_true, Bool.not_false, List.length_cons, List.length_nil] | rw [wrap_id (by omega) (by omega)] | ((with_reducible refine Ev.eq (congrArg some ?_)); rfl))
  exact hr
 | succ d ih =>
  intro q hq
  have hi := ih (q + 1) (by omega)
  have he := implEnds h (show q < 2 * l.length by omega)
  have hx := xor_inv p (by omega)
  have hlen := rowE_length l p q
  have hs := stage_length l p q hp
  refine Ev.succ ?_; simp only [impl_Graph_edgeMatrix.l1]
  rw [wrap_succ (i := q) (by omega), hx, stage_row]
  by_cases c : next l p q = true
  ·have e2 : (stage l p q).set p ((rowE l p q).set q 1) = stage l p (q + 1) := by
    rw [stage_set]
    unfold stage
    rw [show rowE l p (q + 1) = (if next l p q = true then (rowE l p q).set q 1 else rowE l p q) from rfl, if_pos c]
   obtain ⟨c1, c2⟩ := next_split.1 c
   rw [Int.toNat_natCast, Int.toNat_natCast, e2]
   repeat (first | with_reducible exact Ev.now _ | dsimp only | with_reducible refine Ev.bind (Ev.eq he) ?_ | refine Ev.pos (by first | omega | rfl | assumption | decide) ?_ | refine Ev.neg (by first | omega | assumption | exact Bool.false_ne_true | exact fun e => absurd e (by decide)) ?_ | simp only [bne_self_eq_false, Bool.not_true, Bool.not_false, List.length_cons, List.length_nil] | rw [wrap_id (by omega) (by omega)] | with_reducible exact (Ev.eq he) | ((with_reducible refine Ev.eq (congrArg some ?_)); rfl))
   exact hi
  ·have e2 : stage l p q = stage l p (q + 1) := by
    unfold stage
    rw [show rowE l p (q + 1) = (if next l p q = true then (rowE l p q).set q 1 else rowE l p q) from rfl, if_neg c]
   rw [← e2] at hi
   by_cases c1 : hd l p = tl l q
   ·have c2 : q = inv p := by
     apply Classical.byContradiction
     intro e
     exact c (next_split.2 ⟨c1, e⟩)
    repeat (first | with_reducible exact Ev.now _ | dsimp only | with_reducible refine Ev.bind (Ev.eq he) ?_ | refine Ev.pos (by first | omega | rfl | assumption | decide) ?_ | refine Ev.neg (by first | omega | assumption | exact Bool.false_ne_true | exact fun e => absurd e (by decide)) ?_ | simp only [bne_self_eq_false, Bool.not_true, Bool.not_false, List.length_cons, List.length_nil] | rw [wrap_id (by omega) (by omega)] | with_reducible exact (Ev.eq he) | ((with_reducible refine Ev.eq (congrArg some ?_)); rfl))
    exact hi
   ·repeat (first | with_reducible exact Ev.now _ | dsimp only | with_reducible refine Ev.bind (Ev.eq he) ?_ | refine Ev.pos (by first | omega | rfl | assumption | decide) ?_ | refine Ev.neg (by first | omega | assumption | exact Bool.false_ne_true | exact fun e => absurd e (by decide)) ?_ | simp only [bne_self_eq_false, Bool.not_true, Bool.not_false, List.length_cons, List.length_nil] | rw [wrap_id (by omega) (by omega)] | with_reducible exact (Ev.eq he) | ((with_reducible refine Ev.eq (congrArg some ?_)); rfl))
    exact hi

theorem implEdgeM : Ev (fun k => impl_Graph_edgeMatrix.f k n l) (edgeM l (2 * l.length)) := by
 obtain ⟨g1, g2, g3⟩ := graph_small h
 have main : ∀ (d p : Nat), p + 1 + d = 2 * l.length → Ev (fun k => impl_Graph_edgeMatrix.l0 k (stage l p 0) (2 * (l.length : Int)) (p : Int) n l) (edgeM l (2 * l.length)) := by
  intro d
  induction d with
  | zero =>
   intro p hp
   have he := implEnds h (show p < 2 * l.length by omega)
   refine Ev.succ ?_; simp only [impl_Graph_edgeMatrix.l0]
   unfold impl_Graph_size.f
   repeat (first | with_reducible exact Ev.now _ | dsimp only | with_reducible refine Ev.bind (Ev.eq he) ?_ | with_reducible refine Ev.bind (Ev.now _) ?_ | refine Ev.pos (by first | omega | rfl | assumption | decide) ?_ | refine Ev.neg (by first | omega | assumption | exact Bool.false_ne_true | exact fun e => absurd e (by decide)) ?_ | simp only [bne_self_eq_false, Bool.not_true, Bool.not_false, List.length_cons, List.length_nil] | rw [wrap_id (by omega) (by omega)] | with_reducible exact (Ev.eq he) | with_reducible exact (Ev.now _) | ((with_reducible refine Ev.eq (congrArg some ?_)); rfl))
   refine implRow h p (by omega) _ ?_ (2 * l.length) 0 (by omega)
   rw [stage_last l p (by omega)]
   refine Ev.succ ?_; simp only [impl_Graph_edgeMatrix.l0]
   repeat (first | with_reducible exact Ev.now _ | dsimp only | refine Ev.pos (by first | omega | rfl | assumption | decide) ?_ | refine Ev.neg (by first | omega | assumption | exact Bool.false_ne_true | exact fun e => absurd e (by decide)) ?_ | simp only [bne_self_eq_false, Bool.not_true, Bool.not_false, List.length_cons, List.length_nil] | rw [wrap_id (by omega) (by omega)] | ((with_reducible refine Ev.eq (congrArg some ?_)); rfl))
  | succ d ih =>
   intro p hp
   have hi := ih (p + 1) (by omega)
   have he := implEnds h (show p < 2 * l.length by omega)
   refine Ev.succ ?_; simp only [impl_Graph_edgeMatrix.l0]
   unfold impl_Graph_size.f
   repeat (first | with_reducible exact Ev.now _ | dsimp only | with_reducible refine Ev.bind (Ev.eq he) ?_ | with_reducible refine Ev.bind (Ev.now _) ?_ | refine Ev.pos (by first | omega | rfl | assumption | decide) ?_ | refine Ev.neg (by first | omega | assumption | exact Bool.false_ne_true | exact fun e => absurd e (by decide)) ?_ | simp only [bne_self_eq_false, Bool.not_true, Bool.not_false, List.length_cons, List.length_nil] | rw [wrap_id (by omega) (by omega)] | with_reducible exact (Ev.eq he) | with_reducible exact (Ev.now _) | ((with_reducible refine Ev.eq (congrArg some ?_)); rfl))
   refine implRow h p (by omega) _ ?_ (2 * l.length) 0 (by omega)
   rw [stage_next l p (by omega)]
   exact hi
 unfold impl_Graph_edgeMatrix.f impl_Graph_size.f
 refine Ev.bind (Ev.now _) ?_
 rw [wrap_id (x := 2 * (l.length : Int)) (by omega) (by omega)]
 refine Ev.bind (implSquare (2 * (l.length : Int)) (by omega) (by omega)) ?_
 refine Ev.bind (Ev.now _) ?_
 rw [wrap_id (x := 2 * (l.length : Int)) (by omega) (by omega)]
 rw [show (2 * (l.length : Int)).toNat = 2 * l.length by omega]
 by_cases e : l.length = 0
 ·refine Ev.succ ?_; simp only [impl_Graph_edgeMatrix.l0]
  refine Ev.neg (by omega) ?_
  refine Ev.eq (congrArg some ?_)
  rw [e]
  rfl
 ·rw [← stage_zero l (by omega)]
  exact main (2 * l.length - 1) 0 (by omega)

end
/-- One where q may follow p. -/
def W (l : List (List Int)) (p q : Nat) : Int := if next l p q = true then 1 else 0

theorem W_range (l : List (List Int)) (p q : Nat) : 0 ≤ W l p q ∧ W l p q ≤ 1 := by
 unfold W
 split <;> decide

theorem edgeM_ofFn (l : List (List Int)) : edgeM l (2 * l.length) = ofFn (2 * l.length) (W l) := by
 unfold edgeM ofFn
 refine List.map_congr_left (fun p hp => ?_)
 refine list_ext_rd (by rw [rowE_length, rowOf_length]) (fun j hj => ?_)
 rw [rowE_length] at hj
 rw [rowE_rd l p _ j (Nat.le_refl _), rowOf_rd _ hj]
 unfold W
 by_cases c : next l p j = true
 ·rw [if_pos c, if_pos ⟨hj, c⟩]
 ·rw [if_neg c, if_neg (fun e => c e.2)]

/-- The row of the j-th power that belongs to p. -/
def vec (l : List (List Int)) (N p : Nat) : Nat → Nat → Int
 | 0, q => if q = p then 1 else 0
 | j + 1, q => Sm N (fun r => vec l N p j r * W l r q)

theorem vec_range (l : List (List Int)) (N p : Nat) (hN : N ≤ 20) : ∀ j q, 0 ≤ vec l N p j q ∧ vec l N p j q ≤ 20 ^ j := by
 intro j
 induction j with
 | zero =>
  intro q
  unfold vec
  split <;> decide
 | succ j ih =>
  intro q
  unfold vec
  have hle : ∀ r, r < N → vec l N p j r * W l r q ≤ 20 ^ j := fun r _ => by
   have h1 := ih r
   have h2 := W_range l r q
   have : vec l N p j r * W l r q ≤ vec l N p j r * 1 := Int.mul_le_mul_of_nonneg_left h2.2 h1.1
   omega
  refine ⟨Sm_nonneg (fun r _ => Int.mul_nonneg (ih r).1 (W_range l r q).1), ?_⟩
  have h3 := Sm_le hle
  have h4 : (N : Int) * 20 ^ j ≤ 20 * 20 ^ j := Int.mul_le_mul_of_nonneg_right (by omega) (Int.pow_nonneg (by decide))
  rw [Int.pow_succ, Int.mul_comm (20 ^ j) 20]
  omega

theorem Sm_pick (N : Nat) (f : Nat → Int) {p : Nat} (hp : p < N) : Sm N (fun r => (if r = p then 1 else 0) * f r) = f p := by
 induction N with
 | zero => omega
 | succ N ih =>
  show Sm N (fun r => (if r = p then 1 else 0) * f r) + (if N = p then 1 else 0) * f N = f p
  by_cases e : p = N
  ·subst e
   rw [if_pos rfl, Int.one_mul]
   have : Sm p (fun r => (if r = p then 1 else 0) * f r) = Sm p (fun _ => 0) := Sm_congr (fun i hi => by rw [if_neg (by omega), Int.zero_mul])
   rw [this, Sm_zero, Int.zero_add]
  ·rw [ih (by omega), if_neg (by omega), Int.zero_mul, Int.add_zero]

theorem vec_pw (l : List (List Int)) (N : Nat) {p : Nat} (hp : p < N) : ∀ j q, vec l N p (j + 1) q = pw N (W l) j p q := by
 intro j
 induction j with
 | zero =>
  intro q
  show Sm N (fun r => (if r = p then 1 else 0) * W l r q) = W l p q
  exact Sm_pick N (fun r => W l r q) hp
 | succ j ih =>
  intro q
  show Sm N (fun r => vec l N p (j + 1) r * W l r q) = Sm N (fun r => pw N (W l) j p r * W l r q)
  exact Sm_congr (fun r _ => by rw [ih r])

theorem pw_range (l : List (List Int)) (N : Nat) (hN : N ≤ 20) {p : Nat} (hp : p < N) (j q : Nat) : 0 ≤ pw N (W l) j p q ∧ pw N (W l) j p q ≤ 20 ^ (j + 1) := by
 rw [← vec_pw l N hp]
 exact vec_range l N p hN (j + 1) q

/-- How many closed walks of j + 1 steps there are. -/
def closedN (l : List (List Int)) (j : Nat) : Int := tr (2 * l.length) (pw (2 * l.length) (W l) j)

theorem pow20 {j : Nat} (h : j ≤ 13) : (20 : Int) ^ j ≤ 81920000000000000 := by
 have : ∀ i : Fin 14, (20 : Int) ^ i.val ≤ 81920000000000000 := by decide
 exact this ⟨j, by omega⟩

theorem closedN_range (l : List (List Int)) (h : l.length ≤ 10) {j : Nat} (hj : j ≤ 12) : 0 ≤ closedN l j ∧ closedN l j ≤ 1638400000000000000 := by
 unfold closedN tr
 refine ⟨Sm_nonneg (fun i hi => (pw_range l _ (by omega) hi j i).1), ?_⟩
 have h1 : Sm (2 * l.length) (fun i => pw (2 * l.length) (W l) j i i) ≤ (2 * l.length : Nat) * 81920000000000000 := Sm_le (fun i hi => by
  have := (pw_range l _ (by omega) hi j i).2
  have := pow20 (show j + 1 ≤ 13 by omega)
  omega)
 omega
section
variable (n : Nat) (hn : n ≤ 1000) (a b : List (List Int)) (ha : Sq n a) (hb : Sq n b)

/-- The product's entry, of the k first places. -/
def part (k i j : Nat) : Int := wrap64 (Sm k (fun m => mat a i m * mat b m j))

/-- The result while row i is told from the places before k, and up to j from place k. -/
def rt (i k j : Nat) : List (List Int) := ofFn n (fun p q => if p < i then part a b n p q else if p = i then (if q < j then part a b (k + 1) p q else part a b k p q) else 0)

theorem rt_next (i k : Nat) : rt n a b i k n = rt n a b i (k + 1) 0 := by
 refine ofFn_congr (fun p q hp hq => ?_)
 by_cases c : p < i
 ·simp only [if_pos c]
 ·by_cases e : p = i
  ·simp only [if_neg c, if_pos e, if_pos hq, if_neg (Nat.not_lt_zero q)]
  ·simp only [if_neg c, if_neg e]

theorem part_zero (i j : Nat) : part a b 0 i j = 0 := by
 unfold part Sm
 exact wrap_id (by decide) (by decide)

theorem rt_row (i : Nat) : rt n a b i n 0 = rt n a b (i + 1) 0 0 := by
 refine ofFn_congr (fun p q hp hq => ?_)
 by_cases c : p < i
 ·rw [if_pos c, if_pos (by omega)]
 ·by_cases e : p = i
  ·rw [if_neg c, if_pos e, if_neg (by omega), if_pos (by omega)]
  ·rw [if_neg c, if_neg e, if_neg (by omega)]
   by_cases e2 : p = i + 1
   ·rw [if_pos e2, if_neg (by omega), part_zero]
   ·rw [if_neg e2]

theorem part_skip (k i j : Nat) (h : mat a i k = 0) : part a b (k + 1) i j = part a b k i j := by
 unfold part
 rw [show Sm (k + 1) (fun m => mat a i m * mat b m j) = Sm k (fun m => mat a i m * mat b m j) + mat a i k * mat b k j from rfl, h, Int.zero_mul, Int.add_zero]

theorem rt_skip (i k : Nat) (h : mat a i k = 0) : rt n a b i k 0 = rt n a b i (k + 1) 0 := by
 refine ofFn_congr (fun p q hp hq => ?_)
 by_cases c : p < i
 ·simp only [if_pos c]
 ·by_cases e : p = i
  ·subst e
   simp only [if_neg c, if_pos, if_neg (Nat.not_lt_zero q), part_skip a b k p q h]
  ·simp only [if_neg c, if_neg e]

theorem part_step (k i j : Nat) : wrap64 (part a b k i j + wrap64 (mat a i k * mat b k j)) = part a b (k + 1) i j := by
 unfold part
 rw [wrap_add_wrap]
 rfl

theorem rt_length (i k j : Nat) : (rt n a b i k j).length = n := ofFn_length _ _

theorem rt_at {i : Nat} (k j : Nat) (hi : i < n) : rd_L1 (rt n a b i k j) (i : Int) = rowOf n (fun q => if q < j then part a b (k + 1) i q else part a b k i q) := by
 unfold rt
 rw [ofFn_row _ hi]
 refine rowOf_congr (fun q hq => ?_)
 rw [if_neg (Nat.lt_irrefl i), if_pos rfl]

theorem rt_set {i j : Nat} (k : Nat) (hi : i < n) (hj : j < n) : (rt n a b i k j).set i ((rd_L1 (rt n a b i k j) (i : Int)).set j (wrap64 (rd (rd_L1 (rt n a b i k j) (i : Int)) (j : Int) + wrap64 (mat a i k * mat b k j)))) = rt n a b i k (j + 1) := by
 rw [rt_at n a b k j hi, rowOf_rd _ hj, if_neg (Nat.lt_irrefl j), part_step, rowOf_set _ _ hj]
 unfold rt
 rw [ofFn_set _ _ hi]
 refine ofFn_congr (fun p q hp hq => ?_)
 by_cases e : p = i
 ·subst e
  rw [if_pos rfl, if_neg (Nat.lt_irrefl p), if_pos rfl]
  by_cases e2 : q = j
  ·subst e2
   rw [if_pos rfl, if_pos (by omega)]
  ·rw [if_neg e2]
   by_cases c : q < j
   ·rw [if_pos c, if_pos (by omega)]
   ·rw [if_neg c, if_neg (by omega)]
 ·rw [if_neg e]
  by_cases c : p < i
  ·rw [if_pos c, if_pos c]
  ·rw [if_neg c, if_neg c, if_neg e, if_neg e]

include hn ha hb

theorem rtInner (i k : Nat) (hi : i < n) (hk : k < n) (r : List (List Int)) (hr : Ev (fun f => impl_rowsTimes.l1 f b (rt n a b i k n) (i : Int) a (n : Int) (i : Int) (rd_L1 a (i : Int)) (n : Int) ((k + 1 : Nat) : Int)) r) :
  ∀ (d j : Nat), j + d = n → Ev (fun f => impl_rowsTimes.l2 f b (rt n a b i k j) (i : Int) (mat a i k) a (n : Int) (i : Int) (rd_L1 a (i : Int)) (n : Int) (k : Int) (rd_L1 b (k : Int)) (n : Int) (j : Int)) r := by
 have hbl := hb.2 k hk
 intro d
 induction d with
 | zero =>
  intro j hj
  have e : j = n := by omega
  subst e
  refine Ev.succ ?_; simp only [impl_rowsTimes.l2]
  rw [wrap_succ (i := k) (by omega)]
  repeat (first | with_reducible exact Ev.now _ | dsimp only | refine Ev.pos (by first | omega | rfl | assumption | decide) ?_ | refine Ev.neg (by first | omega | assumption | exact Bool.false_ne_true | exact fun e => absurd e (by decide)) ?_ | simp only [bne_self_eq_false, Bool.not_true, Bool.not_false, List.length_cons, List.length_nil] | rw [wrap_id (by omega) (by omega)] | ((with_reducible refine Ev.eq (congrArg some ?_)); rfl))
  exact hr
 | succ d ih =>
  intro j hj
  have h1 := ih (j + 1) (by omega)
  have hl := rt_length n a b i k j
  have hrow : (rd_L1 (rt n a b i k j) (i : Int)).length = n := by rw [rt_at n a b k j hi, rowOf_length]
  have hset := rt_set n a b (i := i) (j := j) k hi (by omega)
  refine Ev.succ ?_; simp only [impl_rowsTimes.l2]
  rw [show rd (rd_L1 b (k : Int)) (j : Int) = mat b k j from rfl, Int.toNat_natCast, Int.toNat_natCast, hset, wrap_succ (i := j) (by omega)]
  repeat (first | with_reducible exact Ev.now _ | dsimp only | refine Ev.pos (by first | omega | rfl | assumption | decide) ?_ | refine Ev.neg (by first | omega | assumption | exact Bool.false_ne_true | exact fun e => absurd e (by decide)) ?_ | simp only [bne_self_eq_false, Bool.not_true, Bool.not_false, List.length_cons, List.length_nil] | rw [wrap_id (by omega) (by omega)] | ((with_reducible refine Ev.eq (congrArg some ?_)); rfl))
  exact h1

theorem rtMiddle (i : Nat) (hi : i < n) (r : List (List Int)) (hr : Ev (fun f => impl_rowsTimes.l0 f b (rt n a b (i + 1) 0 0) a (n : Int) ((i + 1 : Nat) : Int)) r) :
  ∀ (d k : Nat), k + d = n → Ev (fun f => impl_rowsTimes.l1 f b (rt n a b i k 0) (i : Int) a (n : Int) (i : Int) (rd_L1 a (i : Int)) (n : Int) (k : Int)) r := by
 have hal := ha.2 i hi
 have hbl := hb.1
 intro d
 induction d with
 | zero =>
  intro k hk
  have e : k = n := by omega
  refine Ev.succ ?_; simp only [impl_rowsTimes.l1]
  rw [e, rt_row, wrap_succ (i := i) (by omega)]
  repeat (first | with_reducible exact Ev.now _ | dsimp only | refine Ev.pos (by first | omega | rfl | assumption | decide) ?_ | refine Ev.neg (by first | omega | assumption | exact Bool.false_ne_true | exact fun e => absurd e (by decide)) ?_ | simp only [bne_self_eq_false, Bool.not_true, Bool.not_false, List.length_cons, List.length_nil] | rw [wrap_id (by omega) (by omega)] | ((with_reducible refine Ev.eq (congrArg some ?_)); rfl))
  exact hr
 | succ d ih =>
  intro k hk
  have h1 := ih (k + 1) (by omega)
  have hbk := hb.2 k (by omega)
  refine Ev.succ ?_; simp only [impl_rowsTimes.l1]
  rw [show rd (rd_L1 a (i : Int)) (k : Int) = mat a i k from rfl, wrap_succ (i := k) (by omega)]
  by_cases c : mat a i k = 0
  ·rw [← rt_skip n a b i k c] at h1
   repeat (first | with_reducible exact Ev.now _ | dsimp only | refine Ev.pos (by first | omega | rfl | assumption | decide) ?_ | refine Ev.neg (by first | omega | assumption | exact Bool.false_ne_true | exact fun e => absurd e (by decide)) ?_ | simp only [bne_self_eq_false, Bool.not_true, Bool.not_false, List.length_cons, List.length_nil] | rw [wrap_id (by omega) (by omega)] | ((with_reducible refine Ev.eq (congrArg some ?_)); rfl))
   exact h1
  ·rw [← rt_next] at h1
   repeat (first | with_reducible exact Ev.now _ | dsimp only | refine Ev.pos (by first | omega | rfl | assumption | decide) ?_ | refine Ev.neg (by first | omega | assumption | exact Bool.false_ne_true | exact fun e => absurd e (by decide)) ?_ | simp only [bne_self_eq_false, Bool.not_true, Bool.not_false, List.length_cons, List.length_nil] | rw [wrap_id (by omega) (by omega)] | ((with_reducible refine Ev.eq (congrArg some ?_)); rfl))
   rw [hbk]
   exact rtInner n hn a b ha hb i k hi (by omega) r h1 n 0 (by omega)

theorem rtOuter : ∀ (d i : Nat), i + d = n → Ev (fun f => impl_rowsTimes.l0 f b (rt n a b i 0 0) a (n : Int) (i : Int)) (ofFn n (part a b n)) := by
 have hal := ha.1
 intro d
 induction d with
 | zero =>
  intro i hi
  refine Ev.succ ?_; simp only [impl_rowsTimes.l0]
  have e : rt n a b i 0 0 = ofFn n (part a b n) := ofFn_congr (fun p q hp hq => if_pos (by omega))
  rw [e]
  repeat (first | with_reducible exact Ev.now _ | dsimp only | refine Ev.pos (by first | omega | rfl | assumption | decide) ?_ | refine Ev.neg (by first | omega | assumption | exact Bool.false_ne_true | exact fun e => absurd e (by decide)) ?_ | simp only [bne_self_eq_false, Bool.not_true, Bool.not_false, List.length_cons, List.length_nil] | rw [wrap_id (by omega) (by omega)] | ((with_reducible refine Ev.eq (congrArg some ?_)); rfl))
 | succ d ih =>
  intro i hi
  have h1 := ih (i + 1) (by omega)
  have hai := ha.2 i (by omega)
  refine Ev.succ ?_; simp only [impl_rowsTimes.l0]
  repeat (first | with_reducible exact Ev.now _ | dsimp only | refine Ev.pos (by first | omega | rfl | assumption | decide) ?_ | refine Ev.neg (by first | omega | assumption | exact Bool.false_ne_true | exact fun e => absurd e (by decide)) ?_ | simp only [bne_self_eq_false, Bool.not_true, Bool.not_false, List.length_cons, List.length_nil] | rw [wrap_id (by omega) (by omega)] | ((with_reducible refine Ev.eq (congrArg some ?_)); rfl))
  rw [hai]
  exact rtMiddle n hn a b ha hb i (by omega) _ h1 n 0 (by omega)

theorem rowsTimes : Ev (fun f => impl_rowsTimes.f f a b) (ofFn n (part a b n)) := by
 unfold impl_rowsTimes.f
 rw [ha.1]
 refine Ev.bind (implSquare (n : Int) (by omega) (by omega)) ?_
 have e : zeros (n : Int).toNat = rt n a b 0 0 0 := by
  rw [Int.toNat_natCast]
  apply List.ext_getElem
  ·rw [rt_length]; simp [zeros]
  ·intro k h1 h2
   rw [rt_length] at h2
   rw [← rl_lt, ← rl_lt]
   ·by_cases e : k = 0
    ·subst e
     rw [rt_at n a b 0 0 h2, rl_lt h1]
     simp only [zeros, List.getElem_replicate]
     rw [← rowOf_zero]
     refine rowOf_congr (fun q hq => ?_)
     rw [if_neg (by omega), part_zero]
    ·unfold rt
     rw [ofFn_row _ h2, rl_lt h1]
     simp only [zeros, List.getElem_replicate]
     rw [← rowOf_zero]
     refine rowOf_congr (fun q hq => ?_)
     rw [if_neg (by omega), if_neg e]
 rw [e]
 exact rtOuter n hn a b ha hb n 0 (by omega)

omit hb in
theorem trace : Ev (fun f => impl_trace.f f a) (wrap64 (tr n (mat a))) := by
 have hal := ha.1
 have : ∀ (d i : Nat), i + d = n → Ev (fun f => impl_trace.l0 f (wrap64 (Sm i (fun i => mat a i i))) a (n : Int) (i : Int)) (wrap64 (tr n (mat a))) := by
  intro d
  induction d with
  | zero =>
   intro i hi
   have e : i = n := by omega
   subst e
   refine Ev.succ ?_; simp only [impl_trace.l0]
   repeat (first | with_reducible exact Ev.now _ | dsimp only | refine Ev.pos (by first | omega | rfl | assumption | decide) ?_ | refine Ev.neg (by first | omega | assumption | exact Bool.false_ne_true | exact fun e => absurd e (by decide)) ?_ | simp only [bne_self_eq_false, Bool.not_true, Bool.not_false, List.length_cons, List.length_nil] | rw [wrap_id (by omega) (by omega)] | ((with_reducible refine Ev.eq (congrArg some ?_)); rfl))
  | succ d ih =>
   intro i hi
   have h1 := ih (i + 1) (by omega)
   have hai := ha.2 i (by omega)
   refine Ev.succ ?_; simp only [impl_trace.l0]
   rw [wrap_succ (by omega), wrap_add_left]
   repeat (first | with_reducible exact Ev.now _ | dsimp only | refine Ev.pos (by first | omega | rfl | assumption | decide) ?_ | refine Ev.neg (by first | omega | assumption | exact Bool.false_ne_true | exact fun e => absurd e (by decide)) ?_ | simp only [bne_self_eq_false, Bool.not_true, Bool.not_false, List.length_cons, List.length_nil] | rw [wrap_id (by omega) (by omega)] | ((with_reducible refine Ev.eq (congrArg some ?_)); rfl))
   exact h1
 unfold impl_trace.f
 rw [hal]
 have h0 := this n 0 (by omega)
 rw [show wrap64 (Sm 0 (fun i => mat a i i)) = 0 from wrap_id (x := 0) (by decide) (by decide)] at h0
 exact h0

end
def traces (l : List (List Int)) (k : Nat) : List Int := (List.range k).map (closedN l)

theorem traces_length (l : List (List Int)) (k : Nat) : (traces l k).length = k := by simp [traces]

theorem implTraces {l : List (List Int)} (h10 : l.length ≤ 10) (k : Nat) (hk : k ≤ 12) : Ev (fun f => impl_traces.f f (edgeM l (2 * l.length)) (k : Int)) (traces l k) := by
 have hN : 2 * l.length ≤ 20 := by omega
 have hSq : Sq (2 * l.length) (ofFn (2 * l.length) (W l)) := Sq_ofFn _ _
 have main : ∀ (d i : Nat), i + d = k → Ev (fun f => impl_traces.l0 f (ofFn (2 * l.length) (W l)) (traces l i) (ofFn (2 * l.length) (pw (2 * l.length) (W l) i)) (k : Int) (i : Int)) (traces l k) := by
  intro d
  induction d with
  | zero =>
   intro i hi
   have e : i = k := by omega
   subst e
   refine Ev.succ ?_; simp only [impl_traces.l0]
   repeat (first | with_reducible exact Ev.now _ | dsimp only | refine Ev.pos (by first | omega | rfl | assumption | decide) ?_ | refine Ev.neg (by first | omega | assumption | exact Bool.false_ne_true | exact fun e => absurd e (by decide)) ?_ | simp only [bne_self_eq_false, Bool.not_true, Bool.not_false, List.length_cons, List.length_nil] | rw [wrap_id (by omega) (by omega)] | ((with_reducible refine Ev.eq (congrArg some ?_)); rfl))
  | succ d ih =>
   intro i hi
   have h1 := ih (i + 1) (by omega)
   have hP : Sq (2 * l.length) (ofFn (2 * l.length) (pw (2 * l.length) (W l) i)) := Sq_ofFn _ _
   have ht := trace (2 * l.length) (by omega) _ hP
   have et : tr (2 * l.length) (mat (ofFn (2 * l.length) (pw (2 * l.length) (W l) i))) = closedN l i := Sm_congr (fun j hj => ofFn_mat _ hj hj)
   have hr := closedN_range l h10 (show i ≤ 12 by omega)
   rw [et, wrap_id (by omega) (by omega)] at ht
   have hm := rowsTimes (2 * l.length) (by omega) _ _ hP hSq
   have em : ofFn (2 * l.length) (part (ofFn (2 * l.length) (pw (2 * l.length) (W l) i)) (ofFn (2 * l.length) (W l)) (2 * l.length)) = ofFn (2 * l.length) (pw (2 * l.length) (W l) (i + 1)) := by
    refine ofFn_congr (fun p q hp hq => ?_)
    unfold part
    have e1 : Sm (2 * l.length) (fun m => mat (ofFn (2 * l.length) (pw (2 * l.length) (W l) i)) p m * mat (ofFn (2 * l.length) (W l)) m q) = pw (2 * l.length) (W l) (i + 1) p q := Sm_congr (fun m hm => by rw [ofFn_mat _ hp hm, ofFn_mat _ hm hq])
    have hb := pw_range l _ hN hp (i + 1) q
    have := pow20 (show i + 1 + 1 ≤ 13 by omega)
    rw [e1, wrap_id (by omega) (by omega)]
   rw [em] at hm
   have hl := traces_length l i
   rw [traces, map_range_succ] at h1
   refine Ev.succ ?_; simp only [impl_traces.l0]
   rw [wrap_succ (by omega)]
   repeat (first | with_reducible exact Ev.now _ | dsimp only | with_reducible refine Ev.bind (ht) ?_ | with_reducible refine Ev.bind (hm) ?_ | refine Ev.pos (by first | omega | rfl | assumption | decide) ?_ | refine Ev.neg (by first | omega | assumption | exact Bool.false_ne_true | exact fun e => absurd e (by decide)) ?_ | simp only [bne_self_eq_false, Bool.not_true, Bool.not_false, List.length_cons, List.length_nil] | rw [wrap_id (by omega) (by omega)] | with_reducible exact (ht) | with_reducible exact (hm) | ((with_reducible refine Ev.eq (congrArg some ?_)); rfl))
   exact h1
 rw [edgeM_ofFn]
 unfold impl_traces.f
 exact main k 0 (by omega)
theorem specNext {n : Int} {l : List (List Int)} (h : isGraph n l = true) {p q : Nat} (hp : p < 2 * l.length) (hq : q < 2 * l.length) : spec_l03Next.f n l (p : Int) (q : Int) = some (next l p q) := by
 obtain ⟨g1, g2, g3⟩ := graph_small h
 unfold spec_l03Next.f next
 rw [specEnds h hp, specEnds h hq, Option.bind_some, Option.bind_some, half p (by omega), half q (by omega)]
 by_cases c : hd l p = tl l q
 ·rw [if_pos c, decide_eq_true c, Bool.true_and]
  unfold inv
  by_cases c2 : ((p / 2 : Nat) : Int) = ((q / 2 : Nat) : Int)
  ·rw [if_pos c2]
   by_cases c3 : p = q
   ·rw [c3]
    simp
    split <;> omega
   ·rw [show ((p : Int) == (q : Int)) = false from beq_eq_false_iff_ne.2 (by omega)]
    congr 1
    symm
    rw [decide_eq_false_iff_not, Decidable.not_not]
    split <;> omega
  ·rw [if_neg c2]
   congr 1
   symm
   rw [decide_eq_true_iff]
   split <;> omega
 ·rw [if_neg c, decide_eq_false c, Bool.false_and]
section
variable {n : Int} {l : List (List Int)} (h : isGraph n l = true)

/-- The next row, told from the places before r, and up to q from place r. -/
def vrow (l : List (List Int)) (N : Nat) (v : Nat → Int) (r q : Nat) : List Int := rowOf N (fun j => if j < q then Sm (r + 1) (fun m => v m * W l m j) else Sm r (fun m => v m * W l m j))

theorem vrow_length (N : Nat) (v : Nat → Int) (r q : Nat) : (vrow l N v r q).length = N := rowOf_length _ _

theorem vrow_next (N : Nat) (v : Nat → Int) (r : Nat) : vrow l N v r N = vrow l N v (r + 1) 0 := by
 refine rowOf_congr (fun j hj => ?_)
 rw [if_pos hj, if_neg (by omega)]

theorem vrow_skip (N : Nat) (v : Nat → Int) (r : Nat) (h0 : v r = 0) : vrow l N v r 0 = vrow l N v (r + 1) 0 := by
 refine rowOf_congr (fun j hj => ?_)
 rw [if_neg (by omega), if_neg (by omega)]
 show _ = Sm r _ + v r * W l r j
 rw [h0, Int.zero_mul, Int.add_zero]

theorem vrow_rd (N : Nat) (v : Nat → Int) (r q : Nat) (hq : q < N) : rd (vrow l N v r q) (q : Int) = Sm r (fun m => v m * W l m q) := by
 unfold vrow
 rw [rowOf_rd _ hq, if_neg (by omega)]

theorem vrow_set (N : Nat) (v : Nat → Int) (r q : Nat) (hq : q < N) : (vrow l N v r q).set q (Sm (r + 1) (fun m => v m * W l m q)) = vrow l N v r (q + 1) := by
 unfold vrow
 rw [rowOf_set _ _ hq]
 refine rowOf_congr (fun j hj => ?_)
 by_cases e : j = q
 ·subst e
  rw [if_pos rfl, if_pos (by omega)]
 ·rw [if_neg e]
  by_cases c : j < q
  ·rw [if_pos c, if_pos (by omega)]
  ·rw [if_neg c, if_neg (by omega)]

theorem vrow_none (N : Nat) (v : Nat → Int) (r q : Nat) (hc : ¬ next l r q = true) : vrow l N v r q = vrow l N v r (q + 1) := by
 refine rowOf_congr (fun j hj => ?_)
 by_cases e : j = q
 ·subst e
  rw [if_neg (by omega), if_pos (by omega)]
  show _ = Sm r _ + v r * W l r j
  unfold W
  rw [if_neg hc, Int.mul_zero, Int.add_zero]
 ·by_cases c : j < q
  ·rw [if_pos c, if_pos (by omega)]
  ·rw [if_neg c, if_neg (by omega)]

include h

theorem specStep (k : Int) (M : List (List Int)) (p : Int) (v : Nat → Int) (B : Int) (hB : B ≤ 100000000000000000) (hv : ∀ r, r < 2 * l.length → 0 ≤ v r ∧ v r ≤ B) (x9 : Int) (res : List (List Int)) (hr : Ev (fun f => spec_l03Rows.l1 f k (2 * (l.length : Int)) M p (vrow l (2 * l.length) v (2 * l.length) 0) (wrap64 (x9 + 1)) n l) res) :
  ∀ (d r : Nat), r + d = 2 * l.length → Ev (fun f => spec_l03Rows.l2 f k (2 * (l.length : Int)) M p (rowOf (2 * l.length) v) x9 (vrow l (2 * l.length) v r 0) (r : Int) n l) res := by
 obtain ⟨g1, g2, g3⟩ := graph_small h
 have hlen : (rowOf (2 * l.length) v).length = 2 * l.length := rowOf_length _ _
 intro d
 induction d with
 | zero =>
  intro r hr'
  have e : r = 2 * l.length := by omega
  subst e
  refine Ev.succ ?_; simp only [spec_l03Rows.l2]
  repeat (first | with_reducible exact Ev.now _ | dsimp only | refine Ev.pos (by first | omega | rfl | assumption | decide) ?_ | refine Ev.neg (by first | omega | assumption | exact Bool.false_ne_true | exact fun e => absurd e (by decide)) ?_ | simp only [bne_self_eq_false, Bool.not_true, Bool.not_false, List.length_cons, List.length_nil] | rw [wrap_id (by omega) (by omega)] | ((with_reducible refine Ev.eq (congrArg some ?_)); rfl))
  exact hr
 | succ d ih =>
  intro r hr'
  have h1 := ih (r + 1) (by omega)
  have hvr := hv r (by omega)
  have erd : rd (rowOf (2 * l.length) v) (r : Int) = v r := rowOf_rd _ (by omega)
  have hsum : ∀ j, 0 ≤ Sm r (fun m => v m * W l m j) ∧ Sm r (fun m => v m * W l m j) ≤ 2000000000000000000 := fun j => by
   refine ⟨Sm_nonneg (fun m hm => Int.mul_nonneg (hv m (by omega)).1 (W_range l m j).1), ?_⟩
   have : Sm r (fun m => v m * W l m j) ≤ r * 100000000000000000 := Sm_le (fun m hm => by
    have h1 := hv m (by omega)
    have h2 := W_range l m j
    have : v m * W l m j ≤ v m * 1 := Int.mul_le_mul_of_nonneg_left h2.2 h1.1
    omega)
   omega
  have inner : ∀ (d q : Nat), 0 < v r → q + d = 2 * l.length → Ev (fun f => spec_l03Rows.l3 f k (2 * (l.length : Int)) M p (rowOf (2 * l.length) v) x9 (vrow l (2 * l.length) v r q) (r : Int) (q : Int) n l) res := by
   intro d
   induction d with
   | zero =>
    intro q hpos hq
    have e : q = 2 * l.length := by omega
    subst e
    refine Ev.succ ?_; simp only [spec_l03Rows.l3]
    refine Ev.neg (by omega) ?_
    refine Ev.succ ?_; simp only [spec_l03Rows.j4]
    rw [wrap_succ (i := r) (by omega), vrow_next]
    repeat (first | with_reducible exact Ev.now _ | dsimp only | refine Ev.pos (by first | omega | rfl | assumption | decide) ?_ | refine Ev.neg (by first | omega | assumption | exact Bool.false_ne_true | exact fun e => absurd e (by decide)) ?_ | simp only [bne_self_eq_false, Bool.not_true, Bool.not_false, List.length_cons, List.length_nil] | rw [wrap_id (by omega) (by omega)] | ((with_reducible refine Ev.eq (congrArg some ?_)); rfl))
    exact h1
   | succ d ih2 =>
    intro q hpos hq
    have h2 := ih2 (q + 1) hpos (by omega)
    have hn := specNext h (show r < 2 * l.length by omega) (show q < 2 * l.length by omega)
    have hvl := vrow_length (l := l) (2 * l.length) v r q
    refine Ev.succ ?_; simp only [spec_l03Rows.l3]
    rw [erd, decide_eq_true (show v r > 0 from hpos)]
    repeat (first | with_reducible exact Ev.now _ | dsimp only | refine Ev.pos (by first | omega | rfl | assumption | decide) ?_ | refine Ev.neg (by first | omega | assumption | exact Bool.false_ne_true | exact fun e => absurd e (by decide)) ?_ | simp only [bne_self_eq_false, Bool.not_true, Bool.not_false, List.length_cons, List.length_nil] | rw [wrap_id (by omega) (by omega)] | ((with_reducible refine Ev.eq (congrArg some ?_)); rfl))
    refine Ev.succ ?_; simp only [spec_l03Rows.j4]
    rw [erd, wrap_succ (i := q) (by omega), vrow_rd _ _ _ _ (by omega)]
    by_cases c : next l r q = true
    ·have hs := hsum q
     have e1 : Sm (r + 1) (fun m => v m * W l m q) = Sm r (fun m => v m * W l m q) + v r := by
      show Sm r _ + v r * W l r q = _
      unfold W
      rw [if_pos c, Int.mul_one]
     rw [wrap_id (x := Sm r (fun m => v m * W l m q) + v r) (by omega) (by omega), ← e1, Int.toNat_natCast, vrow_set _ _ _ _ (by omega)]
     rw [c] at hn
     repeat (first | with_reducible exact Ev.now _ | dsimp only | with_reducible refine Ev.bind (Ev.eq hn) ?_ | refine Ev.pos (by first | omega | rfl | assumption | decide) ?_ | refine Ev.neg (by first | omega | assumption | exact Bool.false_ne_true | exact fun e => absurd e (by decide)) ?_ | simp only [bne_self_eq_false, Bool.not_true, Bool.not_false, List.length_cons, List.length_nil] | rw [wrap_id (by omega) (by omega)] | with_reducible exact (Ev.eq hn) | ((with_reducible refine Ev.eq (congrArg some ?_)); rfl))
     exact h2
    ·have hn' := hn
     rw [Bool.not_eq_true] at c
     rw [c] at hn'
     rw [← vrow_none (l := l) _ v r q (by rw [c]; decide)] at h2
     repeat (first | with_reducible exact Ev.now _ | dsimp only | with_reducible refine Ev.bind (Ev.eq hn') ?_ | refine Ev.pos (by first | omega | rfl | assumption | decide) ?_ | refine Ev.neg (by first | omega | assumption | exact Bool.false_ne_true | exact fun e => absurd e (by decide)) ?_ | simp only [bne_self_eq_false, Bool.not_true, Bool.not_false, List.length_cons, List.length_nil] | rw [wrap_id (by omega) (by omega)] | with_reducible exact (Ev.eq hn') | ((with_reducible refine Ev.eq (congrArg some ?_)); rfl))
     exact h2
  refine Ev.succ ?_; simp only [spec_l03Rows.l2]
  refine Ev.pos (by omega) ?_
  by_cases c : 0 < v r
  ·exact inner (2 * l.length) 0 c (by omega)
  ·rw [← vrow_skip _ v r (by omega)] at h1
   refine Ev.succ ?_; simp only [spec_l03Rows.l3]
   rw [erd, decide_eq_false (show ¬ v r > 0 by omega)]
   refine Ev.pos (by omega) ?_
   refine Ev.pos (by omega) ?_
   refine Ev.pos (by omega) ?_
   refine Ev.succ ?_; simp only [spec_l03Rows.j4]
   rw [wrap_succ (i := r) (by omega)]
   repeat (first | with_reducible exact Ev.now _ | dsimp only | refine Ev.pos (by first | omega | rfl | assumption | decide) ?_ | refine Ev.neg (by first | omega | assumption | exact Bool.false_ne_true | exact fun e => absurd e (by decide)) ?_ | simp only [bne_self_eq_false, Bool.not_true, Bool.not_false, List.length_cons, List.length_nil] | rw [wrap_id (by omega) (by omega)] | ((with_reducible refine Ev.eq (congrArg some ?_)); rfl))
   exact h1

/-- The rows of the power k - 1. -/
theorem specRowsOf (k : Nat) (hk : 1 ≤ k ∧ k ≤ 12) : Ev (fun f => spec_l03Rows.f f n l (k : Int)) (ofFn (2 * l.length) (fun p => vec l (2 * l.length) p (k - 1))) := by
 obtain ⟨g1, g2, g3⟩ := graph_small h
 have steps : ∀ (M : List (List Int)) (p : Nat) (res : List (List Int)), M.length ≤ 20 → p < 2 * l.length → Ev (fun f => spec_l03Rows.l0 f (k : Int) (2 * (l.length : Int)) (M ++ [rowOf (2 * l.length) (vec l (2 * l.length) p (k - 1))]) ((p + 1 : Nat) : Int) n l) res →
   ∀ (d j : Nat), j + 1 + d = k → Ev (fun f => spec_l03Rows.l1 f (k : Int) (2 * (l.length : Int)) M (p : Int) (rowOf (2 * l.length) (vec l (2 * l.length) p j)) ((j + 1 : Nat) : Int) n l) res := by
  intro M p res hM hp hres d
  induction d with
  | zero =>
   intro j hj
   have e : j = k - 1 := by omega
   subst e
   refine Ev.succ ?_; simp only [spec_l03Rows.l1]
   rw [wrap_succ (i := p) (by omega)]
   repeat (first | with_reducible exact Ev.now _ | dsimp only | refine Ev.pos (by first | omega | rfl | assumption | decide) ?_ | refine Ev.neg (by first | omega | assumption | exact Bool.false_ne_true | exact fun e => absurd e (by decide)) ?_ | simp only [bne_self_eq_false, Bool.not_true, Bool.not_false, List.length_cons, List.length_nil] | rw [wrap_id (by omega) (by omega)] | ((with_reducible refine Ev.eq (congrArg some ?_)); rfl))
   exact hres
  | succ d ih =>
   intro j hj
   have h1 := ih (j + 1) (by omega)
   have hb := fun r (_ : r < 2 * l.length) => vec_range l (2 * l.length) p (by omega) j r
   have hB := pow20 (show j ≤ 13 by omega)
   refine Ev.succ ?_; simp only [spec_l03Rows.l1]
   rw [show (2 * (l.length : Int)).toNat = 2 * l.length by omega, ← rowOf_zero]
   repeat (first | with_reducible exact Ev.now _ | dsimp only | refine Ev.pos (by first | omega | rfl | assumption | decide) ?_ | refine Ev.neg (by first | omega | assumption | exact Bool.false_ne_true | exact fun e => absurd e (by decide)) ?_ | simp only [bne_self_eq_false, Bool.not_true, Bool.not_false, List.length_cons, List.length_nil] | rw [wrap_id (by omega) (by omega)] | ((with_reducible refine Ev.eq (congrArg some ?_)); rfl))
   refine specStep h (k : Int) M (p : Int) (vec l (2 * l.length) p j) (20 ^ j) (by omega) hb _ _ ?_ (2 * l.length) 0 (by omega)
   rw [wrap_succ (by omega)]
   have e : vrow l (2 * l.length) (vec l (2 * l.length) p j) (2 * l.length) 0 = rowOf (2 * l.length) (vec l (2 * l.length) p (j + 1)) := rowOf_congr (fun q hq => if_neg (by omega))
   rw [e]
   exact h1
 have main : ∀ (d p : Nat), p + d = 2 * l.length → Ev (fun f => spec_l03Rows.l0 f (k : Int) (2 * (l.length : Int)) ((List.range p).map (fun p => rowOf (2 * l.length) (vec l (2 * l.length) p (k - 1)))) (p : Int) n l) (ofFn (2 * l.length) (fun p => vec l (2 * l.length) p (k - 1))) := by
  intro d
  induction d with
  | zero =>
   intro p hp
   have e : p = 2 * l.length := by omega
   subst e
   refine Ev.succ ?_; simp only [spec_l03Rows.l0]
   refine Ev.neg (by omega) ?_
   exact Ev.now _
  | succ d ih =>
   intro p hp
   have h1 := ih (p + 1) (by omega)
   rw [map_range_succ] at h1
   have h2 := steps _ p _ (by simp; omega) (by omega) h1 (k - 1) 0 (by omega)
   refine Ev.succ ?_; simp only [spec_l03Rows.l0]
   rw [show (2 * (l.length : Int)).toNat = 2 * l.length by omega, ← rowOf_zero, Int.toNat_natCast]
   have hl : (rowOf (2 * l.length) (fun _ => 0)).length = 2 * l.length := rowOf_length _ _
   repeat (first | with_reducible exact Ev.now _ | dsimp only | with_reducible refine Ev.bind (Ev.now _) ?_ | refine Ev.pos (by first | omega | rfl | assumption | decide) ?_ | refine Ev.neg (by first | omega | assumption | exact Bool.false_ne_true | exact fun e => absurd e (by decide)) ?_ | simp only [bne_self_eq_false, Bool.not_true, Bool.not_false, List.length_cons, List.length_nil] | rw [wrap_id (by omega) (by omega)] | with_reducible exact (Ev.now _) | ((with_reducible refine Ev.eq (congrArg some ?_)); rfl))
   rw [rowOf_set _ _ (by omega)]
   have e : rowOf (2 * l.length) (fun j => if j = p then 1 else 0) = rowOf (2 * l.length) (vec l (2 * l.length) p 0) := rfl
   rw [e]
   exact h2
 unfold spec_l03Rows.f
 rw [wrap_id (x := 2 * (l.length : Int)) (by omega) (by omega)]
 exact main (2 * l.length) 0 (by omega)

end
/-- 1: no graph; 2: no length from lo to 12; 0: both are well. -/
def codeL (n : Int) (l : List (List Int)) (a lo : Int) : Int := if isGraph n l = true then (if lo ≤ a ∧ a ≤ 12 then 0 else 2) else 1

theorem specLength (n : Int) (l : List (List Int)) (a lo : Int) (hl : Mod l) : Ev (fun k => spec_l03Length.f k n l a lo) (codeL n l a lo) := by
 have h1 := specIs n l hl
 have hc := specIn a lo 12
 unfold spec_l03Length.f codeL
 by_cases hg : isGraph n l = true
 ·rw [hg] at h1
  rw [if_pos hg]
  by_cases c : lo ≤ a ∧ a ≤ 12
  ·rw [decide_eq_true c] at hc
   rw [if_pos c]
   repeat (first | with_reducible exact Ev.now _ | dsimp only | with_reducible refine Ev.bind (h1) ?_ | with_reducible refine Ev.bind (Ev.eq hc) ?_ | refine Ev.pos (by first | omega | rfl | assumption | decide) ?_ | refine Ev.neg (by first | omega | assumption | exact Bool.false_ne_true | exact fun e => absurd e (by decide)) ?_ | simp only [bne_self_eq_false, Bool.not_true, Bool.not_false, List.length_cons, List.length_nil] | rw [wrap_id (by omega) (by omega)] | with_reducible exact (h1) | with_reducible exact (Ev.eq hc) | ((with_reducible refine Ev.eq (congrArg some ?_)); rfl))
  ·rw [decide_eq_false c] at hc
   rw [if_neg c]
   repeat (first | with_reducible exact Ev.now _ | dsimp only | with_reducible refine Ev.bind (h1) ?_ | with_reducible refine Ev.bind (Ev.eq hc) ?_ | refine Ev.pos (by first | omega | rfl | assumption | decide) ?_ | refine Ev.neg (by first | omega | assumption | exact Bool.false_ne_true | exact fun e => absurd e (by decide)) ?_ | simp only [bne_self_eq_false, Bool.not_true, Bool.not_false, List.length_cons, List.length_nil] | rw [wrap_id (by omega) (by omega)] | with_reducible exact (h1) | with_reducible exact (Ev.eq hc) | ((with_reducible refine Ev.eq (congrArg some ?_)); rfl))
 ·rw [Bool.not_eq_true] at hg
  rw [hg] at h1
  rw [if_neg (by rw [hg]; decide)]
  repeat (first | with_reducible exact Ev.now _ | dsimp only | with_reducible refine Ev.bind (h1) ?_ | refine Ev.pos (by first | omega | rfl | assumption | decide) ?_ | refine Ev.neg (by first | omega | assumption | exact Bool.false_ne_true | exact fun e => absurd e (by decide)) ?_ | simp only [bne_self_eq_false, Bool.not_true, Bool.not_false, List.length_cons, List.length_nil] | rw [wrap_id (by omega) (by omega)] | with_reducible exact (h1) | ((with_reducible refine Ev.eq (congrArg some ?_)); rfl))

theorem codeL_zero {n : Int} {l : List (List Int)} {a lo : Int} (h : codeL n l a lo = 0) : isGraph n l = true ∧ lo ≤ a ∧ a ≤ 12 := by
 unfold codeL at h
 by_cases hg : isGraph n l = true
 ·rw [if_pos hg] at h
  by_cases c : lo ≤ a ∧ a ≤ 12
  ·exact ⟨hg, c⟩
  ·rw [if_neg c] at h
   cases h
 ·rw [if_neg hg] at h
  cases h

theorem implIsLength (a : Int) : impl_isLength.f a = some (decide (1 ≤ a ∧ a ≤ 12)) := by
 unfold impl_isLength.f
 rw [implWithin]
 rfl
theorem zeros_ofFn (n : Nat) : zeros n = ofFn n (fun _ _ => 0) := by
 show List.replicate n (List.replicate n 0) = (List.range n).map (fun _ => rowOf n (fun _ => 0))
 rw [rowOf_zero]
 simp [List.map_const']

/-- Ones on the diagonal, up to s. -/
def dgM (N s : Nat) : List (List Int) := ofFn N (fun i j => if i = j ∧ i < s then 1 else 0)

theorem dgM_length (N s : Nat) : (dgM N s).length = N := ofFn_length _ _

theorem dgM_zero (N : Nat) : zeros N = dgM N 0 := by
 rw [zeros_ofFn]
 exact ofFn_congr (fun i j _ _ => (if_neg (by omega)).symm)

theorem dgM_row (N s : Nat) (hs : s < N) : rd_L1 (dgM N s) (s : Int) = rowOf N (fun _ => 0) := by
 unfold dgM
 rw [ofFn_row _ hs]
 exact rowOf_congr (fun j _ => if_neg (by omega))

theorem dgM_set (N s : Nat) (hs : s < N) : (dgM N s).set s ((rd_L1 (dgM N s) (s : Int)).set s 1) = dgM N (s + 1) := by
 rw [dgM_row N s hs, rowOf_set _ _ hs]
 unfold dgM
 rw [ofFn_set _ _ hs]
 refine ofFn_congr (fun i j hi hj => ?_)
 by_cases c : i = s
 ·subst c
  rw [if_pos rfl]
  by_cases c2 : j = i
  ·rw [if_pos c2, if_pos ⟨c2.symm, by omega⟩]
  ·rw [if_neg c2, if_neg (fun z => c2 z.1.symm)]
 ·rw [if_neg c]
  by_cases c2 : i = j ∧ i < s
  ·rw [if_pos c2, if_pos ⟨c2.1, by omega⟩]
  ·rw [if_neg c2, if_neg (fun z => c2 ⟨z.1, by omega⟩)]

section
variable {n : Int} {l : List (List Int)} (h : isGraph n l = true)
include h

theorem specCount (k : Nat) (hk : 1 ≤ k ∧ k ≤ 12) : Ev (fun f => spec_l03Count.f f n l (k : Int)) (closedN l (k - 1)) := by
 obtain ⟨g1, g2, g3⟩ := graph_small h
 obtain ⟨N, hN⟩ : ∃ N, N = 2 * l.length := ⟨_, rfl⟩
 obtain ⟨R, hR⟩ : ∃ R, R = ofFn N (fun p => vec l N p (k - 1)) := ⟨_, rfl⟩
 have hRl : R.length = N := by rw [hR, ofFn_length]
 have hRr : ∀ p, p < N → (rd_L1 R (p : Int)).length = N := fun p hp => by rw [hR, ofFn_row _ hp, rowOf_length]
 have hRd : ∀ p q, p < N → q < N → rd (rd_L1 R (p : Int)) (q : Int) = vec l N p (k - 1) q := fun p q hp hq => by rw [hR, ofFn_row _ hp, rowOf_rd _ hq]
 have ek : k - 1 + 1 = k := by omega
 have hT : closedN l (k - 1) = Sm N (fun p => vec l N p k p) := by
  unfold closedN tr
  rw [← hN]
  refine Sm_congr (fun p hp => ?_)
  rw [← vec_pw l N hp, ek]
 have hvk : ∀ p q, vec l N p k q = Sm N (fun r => vec l N p (k - 1) r * W l r q) := fun p q => by
  conv => lhs; rw [← ek]
  rfl
 have b1 : ∀ p q, 0 ≤ vec l N p (k - 1) q ∧ vec l N p (k - 1) q ≤ 20480000000000000 := fun p q => by
  have h1 := vec_range l N p (by omega) (k - 1) q
  have : ∀ i : Fin 12, (20 : Int) ^ i.val ≤ 20480000000000000 := by decide
  have h2 := this ⟨k - 1, by omega⟩
  simp only at h2
  omega
 have b2 : ∀ p q m, m ≤ N → 0 ≤ Sm m (fun r => vec l N p (k - 1) r * W l r q) ∧ Sm m (fun r => vec l N p (k - 1) r * W l r q) ≤ 409600000000000000 := fun p q m hm => by
  refine ⟨Sm_nonneg (fun r _ => Int.mul_nonneg (b1 p r).1 (W_range l r q).1), ?_⟩
  have : Sm m (fun r => vec l N p (k - 1) r * W l r q) ≤ m * 20480000000000000 := Sm_le (fun r _ => by
   have h1 := b1 p r
   have h2 := W_range l r q
   have : vec l N p (k - 1) r * W l r q ≤ vec l N p (k - 1) r * 1 := Int.mul_le_mul_of_nonneg_left h2.2 h1.1
   omega)
  omega
 have b3 : ∀ m, m ≤ N → 0 ≤ Sm m (fun p => vec l N p k p) ∧ Sm m (fun p => vec l N p k p) ≤ 8192000000000000000 := fun m hm => by
  refine ⟨Sm_nonneg (fun p _ => by rw [hvk]; exact (b2 p p N (Nat.le_refl _)).1), ?_⟩
  have : Sm m (fun p => vec l N p k p) ≤ m * 409600000000000000 := Sm_le (fun p _ => by rw [hvk]; exact (b2 p p N (Nat.le_refl _)).2)
  omega
 have inner : ∀ (p : Nat) (hp : p < N) (res : Int), Ev (fun f => spec_l03Count.l0 f R (Sm (p + 1) (fun p => vec l N p k p)) ((p + 1 : Nat) : Int) n l) res →
   ∀ (d q : Nat), q + d = N → Ev (fun f => spec_l03Count.l1 f R (Sm p (fun p => vec l N p k p) + Sm q (fun r => vec l N p (k - 1) r * W l r p)) (p : Int) (q : Int) n l) res := by
  intro p hp res hres d
  induction d with
  | zero =>
   intro q hq
   have e : q = N := by omega
   subst e
   refine Ev.succ ?_; simp only [spec_l03Count.l1]
   rw [wrap_succ (i := p) (by omega), ← hvk]
   refine Ev.neg (by omega) ?_
   exact hres
  | succ d ih =>
   intro q hq
   have h1 := ih (q + 1) (by omega)
   rw [show Sm (q + 1) (fun r => vec l N p (k - 1) r * W l r p) = Sm q (fun r => vec l N p (k - 1) r * W l r p) + vec l N p (k - 1) q * W l q p from rfl] at h1
   have hn := specNext h (show q < 2 * l.length by omega) (show p < 2 * l.length by omega)
   have c1 := b1 p q
   have c2 := b2 p p q (by omega)
   have c3 := b3 p (by omega)
   have hl := hRr p hp
   refine Ev.succ ?_; simp only [spec_l03Count.l1]
   rw [hRd p q hp (by omega), wrap_succ (i := q) (by omega)]
   by_cases c : vec l N p (k - 1) q > 0
   ·by_cases cn : next l q p = true
    ·rw [show W l q p = 1 from if_pos cn, Int.mul_one, ← Int.add_assoc] at h1
     rw [cn] at hn
     have c4 := b3 (p + 1) (by omega)
     have c5 := b2 p p (q + 1) (by omega)
     rw [show Sm (q + 1) (fun r => vec l N p (k - 1) r * W l r p) = Sm q (fun r => vec l N p (k - 1) r * W l r p) + vec l N p (k - 1) q * W l q p from rfl, show W l q p = 1 from if_pos cn, Int.mul_one] at c5
     rw [wrap_id (x := Sm p (fun p => vec l N p k p) + Sm q (fun r => vec l N p (k - 1) r * W l r p) + vec l N p (k - 1) q) (by omega) (by omega)]
     repeat (first | with_reducible exact Ev.now _ | dsimp only | with_reducible refine Ev.bind (Ev.eq hn) ?_ | refine Ev.pos (by first | omega | rfl | assumption | decide) ?_ | refine Ev.neg (by first | omega | assumption | exact Bool.false_ne_true | exact fun e => absurd e (by decide)) ?_ | simp only [bne_self_eq_false, Bool.not_true, Bool.not_false, List.length_cons, List.length_nil] | rw [wrap_id (by omega) (by omega)] | with_reducible exact (Ev.eq hn) | ((with_reducible refine Ev.eq (congrArg some ?_)); rfl))
     exact h1
    ·rw [show W l q p = 0 from if_neg cn, Int.mul_zero, Int.add_zero] at h1
     rw [Bool.not_eq_true] at cn
     rw [cn] at hn
     repeat (first | with_reducible exact Ev.now _ | dsimp only | with_reducible refine Ev.bind (Ev.eq hn) ?_ | refine Ev.pos (by first | omega | rfl | assumption | decide) ?_ | refine Ev.neg (by first | omega | assumption | exact Bool.false_ne_true | exact fun e => absurd e (by decide)) ?_ | simp only [bne_self_eq_false, Bool.not_true, Bool.not_false, List.length_cons, List.length_nil] | rw [wrap_id (by omega) (by omega)] | with_reducible exact (Ev.eq hn) | ((with_reducible refine Ev.eq (congrArg some ?_)); rfl))
     exact h1
   ·rw [show vec l N p (k - 1) q = 0 by omega, Int.zero_mul, Int.add_zero] at h1
    repeat (first | with_reducible exact Ev.now _ | dsimp only | refine Ev.pos (by first | omega | rfl | assumption | decide) ?_ | refine Ev.neg (by first | omega | assumption | exact Bool.false_ne_true | exact fun e => absurd e (by decide)) ?_ | simp only [bne_self_eq_false, Bool.not_true, Bool.not_false, List.length_cons, List.length_nil] | rw [wrap_id (by omega) (by omega)] | ((with_reducible refine Ev.eq (congrArg some ?_)); rfl))
    exact h1
 have outer : ∀ (d p : Nat), p + d = N → Ev (fun f => spec_l03Count.l0 f R (Sm p (fun p => vec l N p k p)) (p : Int) n l) (closedN l (k - 1)) := by
  intro d
  induction d with
  | zero =>
   intro p hp
   have e : p = N := by omega
   refine Ev.succ ?_; simp only [spec_l03Count.l0]
   rw [hT, e]
   refine Ev.neg (by omega) ?_
   exact Ev.now _
  | succ d ih =>
   intro p hp
   have h1 := inner p (by omega) _ (ih (p + 1) (by omega)) N 0 (by omega)
   rw [show Sm 0 (fun r => vec l N p (k - 1) r * W l r p) = 0 from rfl, Int.add_zero] at h1
   refine Ev.succ ?_; simp only [spec_l03Count.l0]
   refine Ev.pos (by omega) ?_
   exact h1
 unfold spec_l03Count.f
 refine Ev.bind (specRowsOf h k hk) ?_
 rw [← hN, ← hR]
 exact outer N 0 (by omega)

end
def dirs (l : List (List Int)) (w : List Int) : Bool := w.all (fun x => decide (0 ≤ x ∧ x ≤ 2 * (l.length : Int) - 1))

/-- d steps of the walk, from the one to place i on. -/
def steps (l : List (List Int)) (w : List Int) : Nat → Nat → Bool
 | 0, _ => true
 | d + 1, i => next l (rd w ((i - 1 : Nat) : Int)).toNat (rd w (i : Int)).toNat && steps l w d (i + 1)

def isWalk (l : List (List Int)) (w : List Int) : Bool := decide (1 ≤ (w.length : Int) ∧ (w.length : Int) ≤ 12) && (dirs l w && steps l w (w.length - 1) 1)

theorem dirs_at {l : List (List Int)} {w : List Int} (h : dirs l w = true) {i : Nat} (hi : i < w.length) : rd w (i : Int) = (((rd w (i : Int)).toNat : Nat) : Int) ∧ (rd w (i : Int)).toNat < 2 * l.length := by
 unfold dirs at h
 rw [List.all_eq_true] at h
 have := of_decide_eq_true (h _ (rd_mem hi))
 omega

theorem walk_form {l : List (List Int)} {w : List Int} (h : isWalk l w = true) : 1 ≤ w.length ∧ w.length ≤ 12 ∧ dirs l w = true ∧ steps l w (w.length - 1) 1 = true := by
 unfold isWalk at h
 rw [Bool.and_eq_true, Bool.and_eq_true, decide_eq_true_iff] at h
 obtain ⟨h1, h2, h3⟩ := h
 exact ⟨by omega, by omega, h2, h3⟩
/-- d steps of the closed chain from the place i on. -/
def cyc (l : List (List Int)) (w : List Int) : Nat → Nat → Bool
 | 0, _ => true
 | d + 1, i => next l (rd w (i : Int)).toNat (rd w (((i + 1) % w.length : Nat) : Int)).toNat && cyc l w d (i + 1)

theorem mod_next (i n : Nat) (h : i < 1048576) : Int.tmod (wrap64 ((i : Int) + 1)) (n : Int) = (((i + 1) % n : Nat) : Int) := by
 rw [wrap_succ (by omega), Int.tmod_eq_emod_of_nonneg (by omega)]
 rfl

section
variable {n : Int} {l : List (List Int)} (h : isGraph n l = true) {w : List Int}
include h

theorem implCyc (hd : dirs l w = true) (hw : w.length ≤ 1048576) : ∀ (d i : Nat), i + d = w.length → Ev (fun k => impl_Graph_isStraight.l0 k w w (w.length : Int) (i : Int) n l) (cyc l w d i && decide ((w.length : Int) > 0)) := by
 obtain ⟨g1, g2, g3⟩ := graph_small h
 intro d
 induction d with
 | zero =>
  intro i hi
  refine Ev.succ ?_; simp only [impl_Graph_isStraight.l0]
  unfold cyc
  rw [Bool.true_and]
  repeat (first | with_reducible exact Ev.now _ | dsimp only | refine Ev.pos (by first | omega | rfl | assumption | decide) ?_ | refine Ev.neg (by first | omega | assumption | exact Bool.false_ne_true | exact fun e => absurd e (by decide)) ?_ | simp only [bne_self_eq_false, Bool.not_true, Bool.not_false, List.length_cons, List.length_nil] | rw [wrap_id (by omega) (by omega)] | ((with_reducible refine Ev.eq (congrArg some ?_)); rfl))
 | succ d ih =>
  intro i hi
  have hm : (i + 1) % w.length < w.length := Nat.mod_lt _ (by omega)
  obtain ⟨e1, r1⟩ := dirs_at hd (show i < w.length by omega)
  obtain ⟨e2, r2⟩ := dirs_at hd hm
  have := ih (i + 1) (by omega)
  have ha := implEnds h r1
  have hb := implEnds h r2
  have hx := xor_inv (rd w (i : Int)).toNat (by omega)
  rw [← e1] at ha hx
  rw [← e2] at hb
  refine Ev.succ ?_; simp only [impl_Graph_isStraight.l0]
  unfold cyc next
  rw [mod_next i w.length (by omega), wrap_succ (by omega), hx]
  by_cases c1 : Pure.hd l (rd w (i : Int)).toNat = tl l (rd w (((i + 1) % w.length : Nat) : Int)).toNat
  ·rw [decide_eq_true c1, Bool.true_and]
   by_cases c2 : (rd w (((i + 1) % w.length : Nat) : Int)).toNat = inv (rd w (i : Int)).toNat
   ·rw [decide_eq_false (show ¬ ((rd w (((i + 1) % w.length : Nat) : Int)).toNat ≠ inv (rd w (i : Int)).toNat) from fun e => e c2), Bool.false_and, Bool.false_and]
    have c2' : rd w (((i + 1) % w.length : Nat) : Int) = ((inv (rd w (i : Int)).toNat : Nat) : Int) := by omega
    repeat (first | with_reducible exact Ev.now _ | dsimp only | with_reducible refine Ev.bind (Ev.eq ha) ?_ | with_reducible refine Ev.bind (Ev.eq hb) ?_ | refine Ev.pos (by first | omega | rfl | assumption | decide) ?_ | refine Ev.neg (by first | omega | assumption | exact Bool.false_ne_true | exact fun e => absurd e (by decide)) ?_ | simp only [bne_self_eq_false, Bool.not_true, Bool.not_false, List.length_cons, List.length_nil] | rw [wrap_id (by omega) (by omega)] | with_reducible exact (Ev.eq ha) | with_reducible exact (Ev.eq hb) | ((with_reducible refine Ev.eq (congrArg some ?_)); rfl))
   ·rw [decide_eq_true (show (rd w (((i + 1) % w.length : Nat) : Int)).toNat ≠ inv (rd w (i : Int)).toNat from c2), Bool.true_and]
    have c2' : ¬ rd w (((i + 1) % w.length : Nat) : Int) = ((inv (rd w (i : Int)).toNat : Nat) : Int) := by omega
    repeat (first | with_reducible exact Ev.now _ | dsimp only | with_reducible refine Ev.bind (Ev.eq ha) ?_ | with_reducible refine Ev.bind (Ev.eq hb) ?_ | refine Ev.pos (by first | omega | rfl | assumption | decide) ?_ | refine Ev.neg (by first | omega | assumption | exact Bool.false_ne_true | exact fun e => absurd e (by decide)) ?_ | simp only [bne_self_eq_false, Bool.not_true, Bool.not_false, List.length_cons, List.length_nil] | rw [wrap_id (by omega) (by omega)] | with_reducible exact (Ev.eq ha) | with_reducible exact (Ev.eq hb) | ((with_reducible refine Ev.eq (congrArg some ?_)); rfl))
    exact this
  ·rw [decide_eq_false c1, Bool.false_and, Bool.false_and, Bool.false_and]
   repeat (first | with_reducible exact Ev.now _ | dsimp only | with_reducible refine Ev.bind (Ev.eq ha) ?_ | with_reducible refine Ev.bind (Ev.eq hb) ?_ | refine Ev.pos (by first | omega | rfl | assumption | decide) ?_ | refine Ev.neg (by first | omega | assumption | exact Bool.false_ne_true | exact fun e => absurd e (by decide)) ?_ | simp only [bne_self_eq_false, Bool.not_true, Bool.not_false, List.length_cons, List.length_nil] | rw [wrap_id (by omega) (by omega)] | with_reducible exact (Ev.eq ha) | with_reducible exact (Ev.eq hb) | ((with_reducible refine Ev.eq (congrArg some ?_)); rfl))

theorem implStraight (hd : dirs l w = true) (hw : w.length ≤ 1048576) : Ev (fun k => impl_Graph_isStraight.f k n l w) (cyc l w w.length 0 && decide ((w.length : Int) > 0)) := by
 unfold impl_Graph_isStraight.f
 exact implCyc h hd hw w.length 0 (by omega)

end
theorem cyc_of_steps (l : List (List Int)) (w : List Int) : ∀ (d i : Nat), i + 1 + d = w.length → steps l w d (i + 1) = true → cyc l w (d + 1) i = next l (rd w ((w.length - 1 : Nat) : Int)).toNat (rd w 0).toNat := by
 intro d
 induction d with
 | zero =>
  intro i hi hs
  unfold cyc cyc
  rw [Bool.and_true, show (i + 1) % w.length = 0 by rw [show i + 1 = w.length by omega, Nat.mod_self], show i = w.length - 1 by omega]
  rfl
 | succ d ih =>
  intro i hi hs
  unfold steps at hs
  rw [Bool.and_eq_true] at hs
  unfold cyc
  rw [Nat.mod_eq_of_lt (by omega), ih (i + 1) (by omega) hs.2]
  have := hs.1
  rw [show i + 1 - 1 = i by omega] at this
  rw [this, Bool.true_and]
def turn (w : List Int) (k : Nat) : List Int := w.drop k ++ w.take k

theorem turn_length (w : List Int) (k : Nat) : (turn w k).length = w.length := by
 unfold turn
 rw [List.length_append, List.length_drop, List.length_take]
 omega

/-- Does a list come before another one? -/
def bf : List Int → List Int → Bool
 | x :: xs, y :: ys => if x = y then bf xs ys else decide (x < y)
 | _, _ => false

theorem bf_self (a : List Int) : bf a a = false := by
 induction a with
 | nil => rfl
 | cons x xs ih => unfold bf; rw [if_pos rfl, ih]

theorem bf_or : ∀ (a b : List Int), a.length = b.length → (bf a b || bf b a) = decide (a ≠ b) := by
 intro a
 induction a with
 | nil =>
  intro b hb
  match b, hb with
  | [], _ => rfl
  | y :: ys, hb => simp at hb
 | cons x xs ih =>
  intro b hb
  match b, hb with
  | [], hb => simp at hb
  | y :: ys, hb =>
   unfold bf
   by_cases c : x = y
   ·subst c
    rw [if_pos rfl, if_pos rfl, ih ys (by simpa using hb)]
    by_cases c2 : xs = ys
    ·rw [c2]; simp
    ·rw [decide_eq_true c2, decide_eq_true (by intro e; exact c2 (List.cons.inj e).2)]
   ·rw [if_neg c, if_neg (fun e => c e.symm), decide_eq_true (show x :: xs ≠ y :: ys from fun e => c (List.cons.inj e).1)]
    by_cases c2 : x < y
    ·rw [decide_eq_true c2, Bool.true_or]
    ·rw [decide_eq_false c2, decide_eq_true (by omega), Bool.false_or]

theorem specTurn (w : List Int) (k : Nat) (hk : k ≤ w.length) (hw : w.length ≤ 1000) : spec_l03Turn.f w (k : Int) = some (turn w k) := by
 unfold spec_l03Turn.f spec_l01Own.f turn
 rw [if_pos (by omega), if_pos (by omega), Int.toNat_natCast]
 have h1 : (w.drop k).length ≤ 1000 := by rw [List.length_drop]; omega
 have h2 : (w.take k).length ≤ 1000 := by rw [List.length_take]; omega
 simp only [Option.bind_some, List.length_nil, List.nil_append]
 rw [if_pos (by omega), Option.bind_some, if_pos (by omega)]

theorem implTurned (w : List Int) (k : Nat) (hk : k ≤ w.length) (hw : w.length ≤ 1000) (h0 : 0 < w.length) : impl_turned.f w (k : Int) = some (turn w k) := by
 unfold impl_turned.f turn
 rw [if_pos (by omega), if_pos (by omega), if_pos h0, if_pos hw, Int.toNat_natCast]

theorem specBefore (a b : List Int) (hab : a.length = b.length) (hl : a.length ≤ 1000) : Ev (fun k => spec_l03Before.f k a b) (bf a b) := by
 have : ∀ (d i : Nat), i + d = a.length → Ev (fun k => spec_l03Before.l0 k a b (i : Int)) (bf (a.drop i) (b.drop i)) := by
  intro d
  induction d with
  | zero =>
   intro i hi
   rw [List.drop_eq_nil_of_le (by omega)]
   refine Ev.succ ?_; simp only [spec_l03Before.l0]
   exact Ev.neg (by omega) (Ev.now _)
  | succ d ih =>
   intro i hi
   have h1 := ih (i + 1) (by omega)
   rw [List.drop_eq_getElem_cons (by omega : i < a.length), List.drop_eq_getElem_cons (by omega : i < b.length)]
   refine Ev.succ ?_; simp only [spec_l03Before.l0]
   unfold bf
   rw [rd_lt (by omega), rd_lt (by omega), wrap_succ (i := i) (by omega)]
   by_cases c : a[i] = b[i]
   ·rw [if_pos c]
    exact Ev.pos (by omega) (Ev.pos (by omega) (Ev.pos (by omega) (Ev.pos c h1)))
   ·rw [if_neg c]
    exact Ev.pos (by omega) (Ev.pos (by omega) (Ev.pos (by omega) (Ev.neg c (Ev.now _))))
 exact this a.length 0 (by omega)

theorem libEqual2 (a b : List Int) (hl : a.length ≤ 1048576) : Ev (fun k => slices_Equal_int64_int64.f k a b) (decide (a = b)) := by
 unfold slices_Equal_int64_int64.f
 by_cases h : a.length = b.length
 ·refine Ev.pos (by omega) ?_
  have : ∀ (d i : Nat), i + d = a.length → Ev (fun k => slices_Equal_int64_int64.l0 k a b (a.length : Int) (i : Int)) (decide (a.drop i = b.drop i)) := by
   intro d
   induction d with
   | zero =>
    intro i hi
    refine Ev.succ ?_; simp only [slices_Equal_int64_int64.l0]
    rw [List.drop_eq_nil_of_le (by omega), List.drop_eq_nil_of_le (by omega)]
    repeat (first | with_reducible exact Ev.now _ | dsimp only | refine Ev.pos (by first | omega | rfl | assumption | decide) ?_ | refine Ev.neg (by first | omega | assumption | exact Bool.false_ne_true | exact fun e => absurd e (by decide)) ?_ | simp only [bne_self_eq_false, Bool.not_true, Bool.not_false, List.length_cons, List.length_nil] | rw [wrap_id (by omega) (by omega)] | ((with_reducible refine Ev.eq (congrArg some ?_)); rfl))
   | succ d ih =>
    intro i hi
    refine Ev.succ ?_; simp only [slices_Equal_int64_int64.l0]
    rw [List.drop_eq_getElem_cons (by omega : i < a.length), List.drop_eq_getElem_cons (by omega : i < b.length), wrap_succ (by omega)]
    by_cases e : rd a i = rd b i
    ·repeat (first | with_reducible exact Ev.now _ | dsimp only | refine Ev.pos (by first | omega | rfl | assumption | decide) ?_ | refine Ev.neg (by first | omega | assumption | exact Bool.false_ne_true | exact fun e => absurd e (by decide)) ?_ | simp only [bne_self_eq_false, Bool.not_true, Bool.not_false, List.length_cons, List.length_nil] | rw [wrap_id (by omega) (by omega)] | ((with_reducible refine Ev.eq (congrArg some ?_)); rfl))
     have := ih (i + 1) (by omega)
     rw [rd_lt (by omega), rd_lt (by omega)] at e
     rw [e, decide_cons]
     exact this
    ·rw [decide_eq_false (fun h => e (by rw [rd_lt (by omega), rd_lt (by omega)]; exact (List.cons.inj h).1))]
     repeat (first | with_reducible exact Ev.now _ | dsimp only | refine Ev.pos (by first | omega | rfl | assumption | decide) ?_ | refine Ev.neg (by first | omega | assumption | exact Bool.false_ne_true | exact fun e => absurd e (by decide)) ?_ | simp only [bne_self_eq_false, Bool.not_true, Bool.not_false, List.length_cons, List.length_nil] | rw [wrap_id (by omega) (by omega)] | ((with_reducible refine Ev.eq (congrArg some ?_)); rfl))
  exact this a.length 0 (by omega)
 ·rw [decide_eq_false (fun e => h (by rw [e]))]
  repeat (first | with_reducible exact Ev.now _ | dsimp only | refine Ev.pos (by first | omega | rfl | assumption | decide) ?_ | refine Ev.neg (by first | omega | assumption | exact Bool.false_ne_true | exact fun e => absurd e (by decide)) ?_ | simp only [bne_self_eq_false, Bool.not_true, Bool.not_false, List.length_cons, List.length_nil] | rw [wrap_id (by omega) (by omega)] | ((with_reducible refine Ev.eq (congrArg some ?_)); rfl))

theorem libCompare (a b : List Int) (hab : a.length = b.length) (hl : a.length ≤ 1000) : ∃ z : Int, Ev (fun k => slices_Compare_int64_int64.f k a b) z ∧ decide (z < 0) = bf a b := by
 have : ∀ (d i : Nat), i + d = a.length → ∃ z : Int, Ev (fun k => slices_Compare_int64_int64.l0 k a b a (a.length : Int) (i : Int)) z ∧ decide (z < 0) = bf (a.drop i) (b.drop i) := by
  intro d
  induction d with
  | zero =>
   intro i hi
   rw [List.drop_eq_nil_of_le (by omega)]
   refine ⟨0, ?_, rfl⟩
   refine Ev.succ ?_; simp only [slices_Compare_int64_int64.l0]
   exact Ev.neg (by omega) (Ev.neg (by omega) (Ev.now _))
  | succ d ih =>
   intro i hi
   obtain ⟨z, h1, h2⟩ := ih (i + 1) (by omega)
   rw [List.drop_eq_getElem_cons (by omega : i < a.length), List.drop_eq_getElem_cons (by omega : i < b.length)]
   have hc : ∀ x y : Int, cmp_Compare_int64.f x y = some (if x < y then -1 else if x > y then 1 else 0) := by
    intro x y
    unfold cmp_Compare_int64.f cmp_isNaN_int64.f
    simp only [bne_self_eq_false, Option.bind_some, if_false, Bool.false_eq_true]
    split
    ·rfl
    ·split <;> rfl
   unfold bf
   by_cases c : a[i] = b[i]
   ·refine ⟨z, ?_, by rw [if_pos c]; exact h2⟩
    refine Ev.succ ?_; simp only [slices_Compare_int64_int64.l0]
    rw [hc, rd_lt (by omega), rd_lt (by omega), wrap_succ (i := i) (by omega), c, if_neg (Int.lt_irrefl _), if_neg (Int.lt_irrefl _)]
    exact Ev.pos (by omega) (Ev.pos (by omega) (Ev.pos (by omega) (Ev.neg (by omega) (Ev.pos (by omega) (Ev.bind (Ev.now _) (Ev.pos rfl h1))))))
   ·refine ⟨if a[i] < b[i] then -1 else if a[i] > b[i] then 1 else 0, ?_, ?_⟩
    ·refine Ev.succ ?_; simp only [slices_Compare_int64_int64.l0]
     rw [hc, rd_lt (by omega), rd_lt (by omega)]
     refine Ev.pos (by omega) (Ev.pos (by omega) (Ev.pos (by omega) (Ev.neg (by omega) (Ev.pos (by omega) (Ev.bind (Ev.now _) (Ev.neg ?_ (Ev.now _)))))))
     split
     ·decide
     ·rw [if_pos (by omega)]
      decide
    ·rw [if_neg c]
     by_cases c2 : a[i] < b[i]
     ·rw [if_pos c2, decide_eq_true c2]; rfl
     ·rw [if_neg c2, if_pos (by omega), decide_eq_false c2]; rfl
 obtain ⟨z, h1, h2⟩ := this a.length 0 (by omega)
 rw [List.drop_zero, List.drop_zero] at h2
 exact ⟨z, h1, h2⟩

/-- No turn but the whole one is the walk itself: d turns from k on. -/
def noturn (w : List Int) : Nat → Nat → Bool
 | 0, _ => true
 | d + 1, k => decide (turn w k ≠ w) && noturn w d (k + 1)

/-- The least of the turns, of d from k on and of one that is had. -/
def least (w : List Int) : Nat → Nat → List Int → List Int
 | 0, _, b => b
 | d + 1, k, b => if bf (turn w k) b = true then least w d (k + 1) (turn w k) else least w d (k + 1) b

theorem specNoturn (w : List Int) (hw : w.length ≤ 1000) : ∀ (d k : Nat), k + d = w.length → Ev (fun f => spec_l03Prime.l0 f w (k : Int)) (noturn w d k) := by
 intro d
 induction d with
 | zero =>
  intro k hk
  refine Ev.succ ?_; simp only [spec_l03Prime.l0]
  exact Ev.neg (by omega) (Ev.now _)
 | succ d ih =>
  intro k hk
  have h1 := ih (k + 1) (by omega)
  have ht := specTurn w k (by omega) hw
  have hl := turn_length w k
  have b1 := specBefore (turn w k) w hl (by omega)
  have b2 := specBefore w (turn w k) hl.symm (by omega)
  have ho := bf_or (turn w k) w hl
  unfold noturn
  rw [← ho]
  refine Ev.succ ?_; simp only [spec_l03Prime.l0]
  rw [wrap_succ (i := k) (by omega)]
  refine Ev.pos (by omega) (Ev.bind (Ev.eq ht) ?_)
  cases c1 : bf (turn w k) w with
  | true =>
   rw [c1] at b1
   rw [Bool.true_or, Bool.true_and]
   exact Ev.bind b1 (Ev.pos rfl h1)
  | false =>
   rw [c1] at b1
   refine Ev.bind b1 (Ev.neg (by decide) ?_)
   cases c2 : bf w (turn w k) with
   | true =>
    rw [c2] at b2
    rw [Bool.false_or, Bool.true_and]
    exact Ev.bind b2 (Ev.pos rfl h1)
   | false =>
    rw [c2] at b2
    rw [Bool.false_or, Bool.false_and]
    exact Ev.bind b2 (Ev.neg (by decide) (Ev.now _))

theorem specLeast_loop (w : List Int) (hw : w.length ≤ 1000) : ∀ (d k : Nat) (b : List Int), k + d = w.length → b.length = w.length → Ev (fun f => spec_l03Least.l0 f w b (k : Int)) (least w d k b) := by
 intro d
 induction d with
 | zero =>
  intro k b hk hb
  refine Ev.succ ?_; simp only [spec_l03Least.l0]
  exact Ev.neg (by omega) (Ev.now _)
 | succ d ih =>
  intro k b hk hb
  have ht := specTurn w k (by omega) hw
  have hl := turn_length w k
  have b1 := specBefore (turn w k) b (by omega) (by omega)
  unfold least
  refine Ev.succ ?_; simp only [spec_l03Least.l0]
  rw [wrap_succ (i := k) (by omega)]
  refine Ev.pos (by omega) (Ev.bind (Ev.eq ht) ?_)
  cases c1 : bf (turn w k) b with
  | true =>
   rw [c1] at b1
   rw [if_pos rfl]
   exact Ev.bind b1 (Ev.pos rfl (ih (k + 1) _ (by omega) hl))
  | false =>
   rw [c1] at b1
   rw [if_neg (by decide)]
   exact Ev.bind b1 (Ev.neg (by decide) (ih (k + 1) b (by omega) hb))

theorem implLeast_loop (w : List Int) (hw : w.length ≤ 1000) (h0 : 0 < w.length) : ∀ (d k : Nat) (b : List Int), k + d = w.length → b.length = w.length → Ev (fun f => impl_leastTurn.l0 f w b (w.length : Int) (k : Int)) (least w d k b) := by
 intro d
 induction d with
 | zero =>
  intro k b hk hb
  refine Ev.succ ?_; simp only [impl_leastTurn.l0]
  exact Ev.neg (by omega) (Ev.now _)
 | succ d ih =>
  intro k b hk hb
  have ht := implTurned w k (by omega) hw h0
  have hl := turn_length w k
  obtain ⟨z, z1, z2⟩ := libCompare (turn w k) b (by omega) (by omega)
  unfold least
  refine Ev.succ ?_; simp only [impl_leastTurn.l0]
  rw [wrap_succ (i := k) (by omega)]
  refine Ev.pos (by omega) (Ev.bind (Ev.eq ht) (Ev.bind z1 ?_))
  cases c1 : bf (turn w k) b with
  | true =>
   rw [c1] at z2
   rw [if_pos rfl]
   exact Ev.pos (of_decide_eq_true z2) (ih (k + 1) _ (by omega) hl)
  | false =>
   rw [c1] at z2
   rw [if_neg (by decide)]
   exact Ev.neg (of_decide_eq_false z2) (ih (k + 1) b (by omega) hb)

theorem turn_zero (w : List Int) : turn w 0 = w := by
 unfold turn
 rw [List.drop_zero, List.take_zero, List.append_nil]

/-- The least turn. -/
def leastT (w : List Int) : List Int := least w (w.length - 1) 1 w

theorem least_length (w : List Int) : ∀ (d k : Nat) (b : List Int), b.length = w.length → (least w d k b).length = w.length := by
 intro d
 induction d with
 | zero => intro k b hb; exact hb
 | succ d ih =>
  intro k b hb
  unfold least
  split
  ·exact ih _ _ (turn_length w k)
  ·exact ih _ _ hb

theorem specLeast (w : List Int) (hw : w.length ≤ 1000) (h0 : 0 < w.length) : Ev (fun f => spec_l03Least.f f w) (leastT w) := by
 have ho : spec_l01Own.f w = some w := by
  unfold spec_l01Own.f
  rw [Option.bind_some, List.length_nil, List.nil_append, if_pos (by omega)]
 unfold spec_l03Least.f
 refine Ev.bind (Ev.eq ho) ?_
 exact specLeast_loop w hw (w.length - 1) 1 w (by omega) rfl

theorem implLeast (w : List Int) (hw : w.length ≤ 1000) (h0 : 0 < w.length) : Ev (fun f => impl_leastTurn.f f w) (leastT w) := by
 unfold impl_leastTurn.f slices_Clone_int64_int64.f
 refine Ev.bind (Ev.pos (by omega) (Ev.now _)) ?_
 have h := implLeast_loop w hw h0 w.length 0 w (by omega) rfl
 have e : least w w.length 0 w = leastT w := by
  obtain ⟨m, hm⟩ : ∃ m, w.length = m + 1 := ⟨w.length - 1, by omega⟩
  unfold leastT
  rw [hm, Nat.add_sub_cancel]
  show (if bf (turn w 0) w = true then _ else _) = _
  rw [turn_zero, bf_self, if_neg (by decide)]
 rw [e] at h
 exact h

section
variable {n : Int} {l : List (List Int)} (h : isGraph n l = true) {w : List Int} (hwk : isWalk l w = true)
include h hwk

/-- A walk that is closed. -/
def clo (l : List (List Int)) (w : List Int) : Bool := next l (rd w ((w.length - 1 : Nat) : Int)).toNat (rd w 0).toNat

theorem implClo : Ev (fun k => impl_Graph_isStraight.f k n l w) (clo l w) := by
 obtain ⟨h1, h12, hd, hs⟩ := walk_form hwk
 have hc := cyc_of_steps l w (w.length - 1) 0 (by omega) hs
 rw [show w.length - 1 + 1 = w.length by omega] at hc
 have i1 := implStraight h hd (by omega)
 rw [hc, decide_eq_true (by omega), Bool.and_true] at i1
 exact i1

theorem specClo : Ev (fun _ => spec_l03Closed.f n l w) (clo l w) := by
 obtain ⟨h1, h12, hd, hs⟩ := walk_form hwk
 obtain ⟨e1, r1⟩ := dirs_at hd (show w.length - 1 < w.length by omega)
 obtain ⟨e2, r2⟩ := dirs_at hd (show 0 < w.length by omega)
 have hn := specNext h r1 r2
 rw [← e1, ← e2] at hn
 unfold spec_l03Closed.f
 rw [wrap_id (x := (w.length : Int) - 1) (by omega) (by omega), show (w.length : Int) - 1 = ((w.length - 1 : Nat) : Int) by omega]
 exact Ev.pos (by omega) (Ev.pos (by omega) (Ev.pos (by omega) (Ev.bind (Ev.eq hn) (Ev.now _))))

theorem specPrime : Ev (fun k => spec_l03Prime.f k n l w) (noturn w (w.length - 1) 1 && clo l w) := by
 obtain ⟨h1, h12, hd, hs⟩ := walk_form hwk
 have hc := specClo h hwk
 have hn := specNoturn w (by omega) (w.length - 1) 1 (by omega)
 unfold spec_l03Prime.f
 cases c : clo l w with
 | true =>
  rw [c] at hc
  rw [Bool.and_true]
  exact Ev.bind hc (Ev.pos rfl hn)
 | false =>
  rw [c] at hc
  rw [Bool.and_false]
  exact Ev.bind hc (Ev.neg (by decide) (Ev.now _))

theorem implPrime : Ev (fun k => impl_Graph_isPrime.f k n l w) (noturn w (w.length - 1) 1 && clo l w) := by
 obtain ⟨h1, h12, hd, hs⟩ := walk_form hwk
 have hc := implClo h hwk
 have loop : ∀ (d k : Nat), k + d = w.length → Ev (fun f => impl_Graph_isPrime.l0 f w (k : Int) n l) (noturn w d k && clo l w) := by
  intro d
  induction d with
  | zero =>
   intro k hk
   refine Ev.succ ?_; simp only [impl_Graph_isPrime.l0]
   exact Ev.neg (by omega) (Ev.bind hc (Ev.now _))
  | succ d ih =>
   intro k hk
   have h2 := ih (k + 1) (by omega)
   have ht := implTurned w k (by omega) (by omega) (by omega)
   have hl := turn_length w k
   have he := libEqual2 (turn w k) w (by omega)
   unfold noturn
   refine Ev.succ ?_; simp only [impl_Graph_isPrime.l0]
   rw [wrap_succ (i := k) (by omega)]
   refine Ev.pos (by omega) (Ev.bind (Ev.eq ht) ?_)
   by_cases c : turn w k = w
   ·rw [decide_eq_true c] at he
    rw [decide_eq_false (fun z => z c), Bool.false_and, Bool.false_and]
    exact Ev.bind he (Ev.pos rfl (Ev.now _))
   ·rw [decide_eq_false c] at he
    rw [decide_eq_true c, Bool.true_and]
    exact Ev.bind he (Ev.neg (by decide) h2)
 exact loop (w.length - 1) 1 (by omega)

end
theorem Sm_mono {n : Nat} {f g : Nat → Int} (h : ∀ i, i < n → f i ≤ g i) : Sm n f ≤ Sm n g := by
 induction n with
 | zero => exact Int.le_refl _
 | succ n ih =>
  have h1 := ih (fun i hi => h i (by omega))
  have h2 := h n (by omega)
  unfold Sm
  omega

theorem Sm_one {n : Nat} {f : Nat → Int} (h : ∀ i, i < n → 0 ≤ f i) {i : Nat} (hi : i < n) : f i ≤ Sm n f := by
 induction n with
 | zero => omega
 | succ n ih =>
  have h2 := h n (by omega)
  have h3 := Sm_nonneg (n := n) (f := f) (fun i hi => h i (by omega))
  unfold Sm
  by_cases e : i = n
  ·subst e; omega
  ·have := ih (fun i hi => h i (by omega)) (by omega)
   omega

theorem Sm_pick1 {n p : Nat} (hp : p < n) : Sm n (fun r => if r = p then 1 else 0) = 1 := by
 have := Sm_pick n (fun _ => 1) hp
 simpa using this

theorem Sm_const (n : Nat) (c : Int) : Sm n (fun _ => c) = n * c := by
 induction n with
 | zero => simp [Sm]
 | succ n ih => unfold Sm; rw [ih, Int.natCast_add, Int.add_mul]; simp

theorem inv_even (m : Nat) : inv (2 * m) = 2 * m + 1 := by unfold inv; rw [if_pos (by omega)]
theorem inv_odd (m : Nat) : inv (2 * m + 1) = 2 * m := by unfold inv; rw [if_neg (by omega)]; omega
theorem inv_inv (p : Nat) : inv (inv p) = p := by
 unfold inv
 split <;> split <;> omega
theorem inv_lt {p m : Nat} (h : p < 2 * m) : inv p < 2 * m := by
 unfold inv
 split <;> omega

theorem Sm_inv (m : Nat) (f : Nat → Int) : Sm (2 * m) (fun q => f (inv q)) = Sm (2 * m) f := by
 induction m with
 | zero => rfl
 | succ m ih =>
  show Sm (2 * m) (fun q => f (inv q)) + f (inv (2 * m)) + f (inv (2 * m + 1)) = Sm (2 * m) f + f (2 * m) + f (2 * m + 1)
  rw [ih, inv_even, inv_odd]
  omega

theorem hd_inv (l : List (List Int)) (p : Nat) : hd l (inv p) = tl l p := by
 unfold hd tl inv
 split <;> split <;> (try omega)
 ·rename_i h1 h2
  rw [if_neg (by omega), show (p + 1) / 2 = p / 2 by omega]
 ·rename_i h1 h2
  rw [if_pos (by omega), show (p - 1) / 2 = p / 2 by omega]

theorem tl_inv (l : List (List Int)) (p : Nat) : tl l (inv p) = hd l p := by rw [← hd_inv, inv_inv]

theorem next_inv (l : List (List Int)) (p q : Nat) (h : next l p q = true) : next l (inv q) (inv p) = true := by
 rw [next_split] at h ⊢
 rw [hd_inv, tl_inv]
 refine ⟨h.1.symm, fun e => h.2 ?_⟩
 rw [inv_inv] at e
 rw [e]

section
variable (l : List (List Int)) (v : Int)

/-- Walks from v of t + 1 edges with the last one q; all walks of t + 1 edges; the edges that can follow p. -/
def aw (t q : Nat) : Int := Sm (2 * l.length) (fun p => if tl l p = v then vec l (2 * l.length) p t q else 0)
def cw (t : Nat) : Int := Sm (2 * l.length) (aw l v t)
def od (p : Nat) : Int := Sm (2 * l.length) (W l p)

theorem od_nonneg (p : Nat) : 0 ≤ od l p := Sm_nonneg (fun q _ => (W_range l p q).1)

theorem od_pos {p q : Nat} (hq : q < 2 * l.length) (h : next l p q = true) : 1 ≤ od l p := by
 have := Sm_one (f := W l p) (fun q _ => (W_range l p q).1) hq
 unfold W at this
 rw [if_pos h] at this
 exact this

theorem aw_nonneg (hl : l.length ≤ 10) (t q : Nat) : 0 ≤ aw l v t q := Sm_nonneg (fun p _ => by
 split
 ·exact (vec_range l _ p (by omega) t q).1
 ·exact Int.le_refl _)

theorem aw_zero {q : Nat} (hq : q < 2 * l.length) : aw l v 0 q = if tl l q = v then 1 else 0 := by
 have := Sm_pick (2 * l.length) (fun p => if tl l p = v then (1 : Int) else 0) hq
 rw [← this]
 refine Sm_congr (fun p _ => ?_)
 show (if tl l p = v then (if q = p then (1 : Int) else 0) else 0) = (if p = q then 1 else 0) * (if tl l p = v then 1 else 0)
 by_cases e : p = q
 ·subst e
  simp
 ·rw [if_neg (show ¬ q = p from fun z => e z.symm), if_neg e]
  simp

theorem aw_succ (t q : Nat) : aw l v (t + 1) q = Sm (2 * l.length) (fun r => aw l v t r * W l r q) := by
 have e : ∀ r, aw l v t r * W l r q = Sm (2 * l.length) (fun p => (if tl l p = v then vec l (2 * l.length) p t r else 0) * W l r q) := fun r => (Sm_mul_right _ _ _).symm
 rw [Sm_congr (fun r _ => e r), ← Sm_swap]
 refine Sm_congr (fun p _ => ?_)
 split
 ·rfl
 ·simp only [Int.zero_mul]
  exact (Sm_zero _).symm

theorem cw_succ (t : Nat) : cw l v (t + 1) = Sm (2 * l.length) (fun r => aw l v t r * od l r) := by
 unfold cw
 rw [Sm_congr (fun q _ => aw_succ l v t q), Sm_swap]
 exact Sm_congr (fun r _ => Sm_mul_left _ _ _)

theorem cw_nonneg (hl : l.length ≤ 10) (t : Nat) : 0 ≤ cw l v t := Sm_nonneg (fun q _ => aw_nonneg l v hl t q)

theorem cw_zero (hl : l.length ≤ 10) : cw l v 0 ≤ 20 := by
 have : cw l v 0 ≤ (2 * l.length : Nat) * 1 := Sm_le (fun q hq => by
  rw [aw_zero l v hq]
  split <;> decide)
 omega

theorem cw_le (hl : l.length ≤ 10) (M : Nat) (hM : ∀ r, r < 2 * l.length → od l r ≤ M) : ∀ t, cw l v t ≤ ((20 * M ^ t : Nat) : Int) := by
 intro t
 induction t with
 | zero => exact cw_zero l v hl
 | succ t ih =>
  rw [cw_succ]
  have h1 : Sm (2 * l.length) (fun r => aw l v t r * od l r) ≤ Sm (2 * l.length) (fun r => aw l v t r * M) := Sm_mono (fun r hr => Int.mul_le_mul_of_nonneg_left (hM r hr) (aw_nonneg l v hl t r))
  rw [Sm_mul_right] at h1
  have h2 : cw l v t * M ≤ ((20 * M ^ t : Nat) : Int) * M := Int.mul_le_mul_of_nonneg_right ih (by omega)
  have e : 20 * M ^ (t + 1) = 20 * M ^ t * M := by rw [Nat.pow_succ, Nat.mul_assoc]
  rw [e, Int.natCast_mul]
  unfold cw at h2
  omega

/-- Edges that none can follow. -/
def dd0 : Int := Sm (2 * l.length) (fun q => if od l q = 0 then 1 else 0)

theorem dd0_range : 0 ≤ dd0 l ∧ dd0 l ≤ (2 * l.length : Nat) := by
 refine ⟨Sm_nonneg (fun q _ => by split <;> decide), ?_⟩
 have : dd0 l ≤ (2 * l.length : Nat) * 1 := Sm_le (fun q _ => by split <;> decide)
 omega

theorem dd0_zero (h : dd0 l = 0) {r : Nat} (hr : r < 2 * l.length) : 1 ≤ od l r := by
 have h1 := Sm_one (f := fun q => if od l q = 0 then 1 else 0) (fun q _ => by split <;> decide) hr
 have h2 := od_nonneg l r
 unfold dd0 at h
 rw [h] at h1
 by_cases e : od l r = 0
 ·simp only [e, if_true] at h1
  omega
 ·omega

theorem od_dd0 {p : Nat} (hp : p < 2 * l.length) (h0 : od l p ≠ 0) : od l p + dd0 l + 1 ≤ (2 * l.length : Nat) := by
 have e1 := Sm_inv l.length (fun q => if od l q = 0 then 1 else 0)
 have e2 := Sm_pick1 (inv_lt hp)
 have h1 : Sm (2 * l.length) (fun q => W l p q + (if od l (inv q) = 0 then 1 else 0) + (if q = inv p then 1 else 0)) ≤ Sm (2 * l.length) (fun _ => 1) := by
  refine Sm_mono (fun q hq => ?_)
  unfold W
  by_cases c : next l p q = true
  ·have c1 := od_pos l (inv_lt hp) (next_inv l p q c)
   rw [next_split] at c
   rw [if_pos (by rw [next_split]; exact c), if_neg (by omega), if_neg c.2]
   decide
  ·rw [if_neg c]
   by_cases c2 : q = inv p
   ·subst c2
    rw [inv_inv, if_neg h0, if_pos rfl]
    decide
   ·rw [if_neg c2]
    split <;> decide
 rw [Sm_add, Sm_add, e1, e2, Sm_const] at h1
 unfold od dd0
 omega

theorem cw_live (hl : l.length ≤ 10) (t : Nat) : cw l v (t + 1) ≤ cw l v (t + 2) + dd0 l * cw l v t := by
 have e : cw l v (t + 2) + dd0 l * cw l v t = Sm (2 * l.length) (fun r => aw l v (t + 1) r * od l r + (if od l r = 0 then 1 else 0) * cw l v t) := by
  rw [Sm_add, Sm_mul_right, cw_succ]
  rfl
 rw [e]
 refine Sm_mono (fun q hq => ?_)
 have h1 := aw_nonneg l v hl (t + 1) q
 have h2 := od_nonneg l q
 by_cases c : od l q = 0
 ·rw [if_pos c, c, aw_succ]
  have : Sm (2 * l.length) (fun r => aw l v t r * W l r q) ≤ Sm (2 * l.length) (aw l v t) := Sm_mono (fun r _ => by
   have : aw l v t r * W l r q ≤ aw l v t r * 1 := Int.mul_le_mul_of_nonneg_left (W_range l r q).2 (aw_nonneg l v hl t r)
   omega)
  unfold cw
  omega
 ·rw [if_neg c]
  have : aw l v (t + 1) q * 1 ≤ aw l v (t + 1) q * od l q := Int.mul_le_mul_of_nonneg_left (by omega) h1
  omega

theorem cw_up (hl : l.length ≤ 10) (h : dd0 l = 0) (t : Nat) : ∀ d, cw l v t ≤ cw l v (t + d) := by
 intro d
 induction d with
 | zero => exact Int.le_refl _
 | succ d ih =>
  refine Int.le_trans ih ?_
  show _ ≤ cw l v (t + d + 1)
  rw [cw_succ]
  refine Sm_mono (fun r hr => ?_)
  have : aw l v (t + d) r * 1 ≤ aw l v (t + d) r * od l r := Int.mul_le_mul_of_nonneg_left (dd0_zero l h hr) (aw_nonneg l v hl _ r)
  omega

theorem od_le (hl : l.length ≤ 10) (r : Nat) (hr : r < 2 * l.length) : od l r ≤ ((19 - (dd0 l).toNat : Nat) : Int) := by
 have h1 := dd0_range l
 by_cases c : od l r = 0
 ·omega
 ·have := od_dd0 l hr c
  omega

/-- No count on the way is great, if the last one is small. -/
theorem cw_small (hl : l.length ≤ 10) (k : Nat) (hk : k ≤ 11) (h : cw l v k ≤ 400) : ∀ t, t ≤ k → cw l v t ≤ 5000000000000 := by
 intro t ht
 by_cases e : t = k
 ·subst e; omega
 have hd := dd0_range l
 by_cases c : dd0 l = 0
 ·have := cw_up l v hl c t (k - t)
  rw [show t + (k - t) = k by omega] at this
  omega
 have hM : (19 - (dd0 l).toNat : Nat) ≤ 18 := by omega
 have h9 := fun t => cw_le l v hl _ (od_le l hl) t
 by_cases c9 : t ≤ 9
 ·have h1 := h9 t
  have h2 : (19 - (dd0 l).toNat : Nat) ^ t ≤ 18 ^ 9 := Nat.le_trans (Nat.pow_le_pow_left hM t) (Nat.pow_le_pow_right (by decide) c9)
  have h3 : (18 : Nat) ^ 9 = 198359290368 := by decide
  rw [h3] at h2
  omega
 ·have e1 : t = 10 := by omega
  have e2 : k = 11 := by omega
  subst e1 e2
  have h1 := cw_live l v hl 9
  have h2 := h9 9
  have h3 : dd0 l * cw l v 9 ≤ dd0 l * ((20 * (19 - (dd0 l).toNat : Nat) ^ 9 : Nat) : Int) := Int.mul_le_mul_of_nonneg_left h2 hd.1
  obtain ⟨D, hD⟩ := Int.eq_ofNat_of_zero_le hd.1
  rw [hD] at h3 hd c
  have hD20 : D ≤ 20 := by omega
  have h4 : ∀ D, D < 21 → D * (20 * (19 - D) ^ 9) ≤ 4800000000000 := by decide
  have h5 := h4 D (by omega)
  have h6 : ((D : Int) * ((20 * (19 - D) ^ 9 : Nat) : Int)) = ((D * (20 * (19 - D) ^ 9) : Nat) : Int) := by simp
  rw [Int.toNat_natCast, h6] at h3
  rw [hD] at h1
  have h7 : cw l v (9 + 2) ≤ 400 := h
  have h8 : cw l v 10 ≤ cw l v (9 + 2) + D * cw l v 9 := h1
  omega

end
/-- The last edge. -/
def lastE (ws : List Int) : Nat := (rd ws ((ws.length - 1 : Nat) : Int)).toNat

theorem rd_snoc (ws : List Int) (q : Int) : rd (ws ++ [q]) ((ws.length : Nat) : Int) = q := by
 rw [rd_lt (by simp)]
 simp

theorem lastE_snoc (ws : List Int) (q : Nat) : lastE (ws ++ [(q : Int)]) = q := by
 unfold lastE
 rw [List.length_append, List.length_singleton, Nat.add_sub_cancel, rd_snoc, Int.toNat_natCast]

theorem flat_congr {α β : Type} {f g : α → List β} {L : List α} (h : ∀ a ∈ L, f a = g a) : L.flatMap f = L.flatMap g := by
 induction L with
 | nil => rfl
 | cons a L ih => rw [List.flatMap_cons, List.flatMap_cons, h a (by simp), ih (fun b hb => h b (by simp [hb]))]

def cnt (q : Nat) : List (List Int) → Int
 | [] => 0
 | ws :: L => (if lastE ws = q then 1 else 0) + cnt q L

theorem cnt_append (q : Nat) (A B : List (List Int)) : cnt q (A ++ B) = cnt q A + cnt q B := by
 induction A with
 | nil => simp [cnt]
 | cons ws A ih =>
  show (if lastE ws = q then 1 else 0) + cnt q (A ++ B) = (if lastE ws = q then 1 else 0) + cnt q A + cnt q B
  rw [ih]
  omega

theorem len_cnt (N : Nat) (L : List (List Int)) (h : ∀ ws ∈ L, lastE ws < N) : (L.length : Int) = Sm N (fun q => cnt q L) := by
 induction L with
 | nil => exact (Sm_zero N).symm
 | cons ws L ih =>
  have e : Sm N (fun q => cnt q (ws :: L)) = Sm N (fun q => (if q = lastE ws then 1 else 0) + cnt q L) := Sm_congr (fun q _ => by
   show (if lastE ws = q then (1 : Int) else 0) + _ = _
   by_cases c : lastE ws = q
   ·rw [if_pos c, if_pos c.symm]
   ·rw [if_neg c, if_neg (fun z => c z.symm)])
  rw [e, Sm_add, Sm_pick1 (h ws (by simp)), ← ih (fun w hw => h w (by simp [hw])), List.length_cons]
  omega

theorem cnt_sel (P : Nat → Bool) (f : Nat → List Int) (hf : ∀ a, lastE (f a) = a) (q : Nat) : ∀ m, cnt q (((List.range m).filter P).map f) = if q < m ∧ P q = true then 1 else 0 := by
 intro m
 induction m with
 | zero => rfl
 | succ m ih =>
  rw [List.range_succ, List.filter_append, List.map_append, cnt_append, ih]
  by_cases c : P m = true
  ·rw [List.filter_cons_of_pos c]
   show _ + ((if lastE (f m) = q then 1 else 0) + 0) = _
   rw [hf]
   by_cases e : m = q
   ·subst e
    rw [if_neg (by omega), if_pos rfl, if_pos ⟨by omega, c⟩]
    rfl
   ·rw [if_neg e]
    by_cases e2 : q < m ∧ P q = true
    ·rw [if_pos e2, if_pos ⟨by omega, e2.2⟩]
     rfl
    ·rw [if_neg e2, if_neg (fun z => e2 ⟨by omega, z.2⟩)]
     rfl
  ·rw [List.filter_cons_of_neg c]
   show _ + 0 = _
   by_cases e2 : q < m ∧ P q = true
   ·rw [if_pos e2, if_pos ⟨by omega, e2.2⟩]
    rfl
   ·rw [if_neg e2, if_neg (fun z => e2 ⟨by
     have : q ≠ m := fun e => c (e ▸ z.2)
     omega, z.2⟩)]
    rfl

section
variable (l : List (List Int)) (v : Int)

/-- A walk's longer ones; a list's; those of one edge; those of t + 1 edges. -/
def ext1 (ws : List Int) : List (List Int) := ((List.range (2 * l.length)).filter (fun q => next l (lastE ws) q)).map (fun q : Nat => ws ++ [(q : Int)])
def longer (L : List (List Int)) : List (List Int) := L.flatMap (ext1 l)
def one0 : List (List Int) := ((List.range (2 * l.length)).filter (fun a => decide (tl l a = v))).map (fun a : Nat => [(a : Int)])
def Lw : Nat → List (List Int)
 | 0 => one0 l v
 | t + 1 => longer l (Lw t)

/-- A walk as it is made: its entries are directed edges, it is not empty, and not long. -/
def good (m : Nat) (ws : List Int) : Prop := ws.length = m ∧ lastE ws < 2 * l.length ∧ rd ws ((ws.length - 1 : Nat) : Int) = ((lastE ws : Nat) : Int)

theorem good_snoc {m : Nat} {ws : List Int} (h : ws.length = m) {q : Nat} (hq : q < 2 * l.length) : good l (m + 1) (ws ++ [(q : Int)]) := by
 refine ⟨by rw [List.length_append, h]; rfl, by rw [lastE_snoc]; exact hq, ?_⟩
 rw [lastE_snoc, List.length_append, List.length_singleton, Nat.add_sub_cancel, rd_snoc]

theorem good_ext1 {m : Nat} {ws : List Int} (h : good l m ws) : ∀ x ∈ ext1 l ws, good l (m + 1) x := by
 intro x hx
 simp only [ext1, List.mem_map, List.mem_filter, List.mem_range] at hx
 obtain ⟨q, ⟨hq, _⟩, rfl⟩ := hx
 exact good_snoc l h.1 hq

theorem good_longer {m : Nat} {L : List (List Int)} (h : ∀ ws ∈ L, good l m ws) : ∀ x ∈ longer l L, good l (m + 1) x := by
 intro x hx
 simp only [longer, List.mem_flatMap] at hx
 obtain ⟨ws, hw, hx⟩ := hx
 exact good_ext1 l (h ws hw) x hx

theorem good_one0 : ∀ x ∈ one0 l v, good l 1 x := by
 intro x hx
 simp only [one0, List.mem_map, List.mem_filter, List.mem_range] at hx
 obtain ⟨q, ⟨hq, _⟩, rfl⟩ := hx
 exact good_snoc l (ws := []) rfl hq

theorem good_Lw : ∀ t, ∀ x ∈ Lw l v t, good l (t + 1) x
 | 0 => good_one0 l v
 | t + 1 => good_longer l (good_Lw t)

theorem cnt_longer {m : Nat} (L : List (List Int)) (h : ∀ ws ∈ L, good l m ws) {q : Nat} (hq : q < 2 * l.length) : cnt q (longer l L) = Sm (2 * l.length) (fun r => cnt r L * W l r q) := by
 induction L with
 | nil =>
  show 0 = Sm (2 * l.length) (fun r => 0 * W l r q)
  rw [Sm_mul_left, Int.zero_mul]
 | cons ws L ih =>
  show cnt q (ext1 l ws ++ longer l L) = Sm (2 * l.length) (fun r => ((if lastE ws = r then 1 else 0) + cnt r L) * W l r q)
  have e : Sm (2 * l.length) (fun r => ((if lastE ws = r then 1 else 0) + cnt r L) * W l r q) = Sm (2 * l.length) (fun r => (if r = lastE ws then 1 else 0) * W l r q + cnt r L * W l r q) := Sm_congr (fun r _ => by
   rw [Int.add_mul]
   by_cases c : lastE ws = r
   ·rw [if_pos c, if_pos c.symm]
   ·rw [if_neg c, if_neg (fun z => c z.symm)])
  rw [cnt_append, e, Sm_add, Sm_pick _ _ (h ws (by simp)).2.1, ih (fun w hw => h w (by simp [hw]))]
  have : cnt q (ext1 l ws) = W l (lastE ws) q := by
   unfold ext1 W
   rw [cnt_sel _ _ (fun a => lastE_snoc ws a)]
   by_cases c : next l (lastE ws) q = true
   ·rw [if_pos ⟨hq, c⟩, if_pos c]
   ·rw [if_neg (fun z => c z.2), if_neg c]
  rw [this]

theorem cnt_Lw : ∀ (t : Nat) {q : Nat}, q < 2 * l.length → cnt q (Lw l v t) = aw l v t q := by
 intro t
 induction t with
 | zero =>
  intro q hq
  rw [aw_zero l v hq]
  show cnt q (one0 l v) = _
  unfold one0
  rw [cnt_sel _ (fun a : Nat => [(a : Int)]) (fun a => lastE_snoc [] a)]
  by_cases c : tl l q = v
  ·rw [if_pos ⟨hq, decide_eq_true c⟩, if_pos c]
  ·rw [if_neg (fun z => c (of_decide_eq_true z.2)), if_neg c]
 | succ t ih =>
  intro q hq
  show cnt q (longer l (Lw l v t)) = _
  rw [cnt_longer l _ (good_Lw l v t) hq, aw_succ]
  exact Sm_congr (fun r hr => by rw [ih hr])

theorem len_Lw (t : Nat) : ((Lw l v t).length : Int) = cw l v t := by
 rw [len_cnt (2 * l.length) _ (fun ws hw => (good_Lw l v t ws hw).2.1)]
 exact Sm_congr (fun q hq => cnt_Lw l v t hq)

/-- All walks that go on from ws with d edges more. -/
def wk : Nat → List Int → List (List Int)
 | 0, ws => [ws]
 | d + 1, ws => ((List.range (2 * l.length)).filter (fun q => if ws.length = 0 then decide (tl l q = v) else next l (lastE ws) q)).flatMap (fun q : Nat => wk d (ws ++ [(q : Int)]))

def longerN : Nat → List (List Int) → List (List Int)
 | 0, L => L
 | d + 1, L => longerN d (longer l L)

theorem longerN_append : ∀ (d : Nat) (A B : List (List Int)), longerN l d (A ++ B) = longerN l d A ++ longerN l d B
 | 0, _, _ => rfl
 | d + 1, A, B => by
  show longerN l d (longer l (A ++ B)) = longerN l d (longer l A) ++ longerN l d (longer l B)
  rw [← longerN_append d]
  unfold longer
  rw [List.flatMap_append]

theorem longerN_nil : ∀ d, longerN l d [] = []
 | 0 => rfl
 | d + 1 => longerN_nil d

theorem longerN_flat (d : Nat) : ∀ L : List (List Int), longerN l d L = L.flatMap (fun ws => longerN l d [ws])
 | [] => longerN_nil l d
 | ws :: L => by
  rw [show ws :: L = [ws] ++ L from rfl, longerN_append, longerN_flat d L]
  simp

theorem wk_longer : ∀ (d : Nat) (ws : List Int), 0 < ws.length → wk l v d ws = longerN l d [ws]
 | 0, _, _ => rfl
 | d + 1, ws, h => by
  show (List.filter _ _).flatMap _ = longerN l d (longer l [ws])
  rw [show longer l [ws] = ext1 l ws by simp [longer], longerN_flat]
  unfold ext1
  rw [List.flatMap_map]
  have e : (fun q => if ws.length = 0 then decide (tl l q = v) else next l (lastE ws) q) = (fun q => next l (lastE ws) q) := funext (fun q => if_neg (by omega))
  rw [e]
  exact flat_congr (fun q _ => wk_longer d _ (by simp))

theorem wk_nil (d : Nat) : wk l v (d + 1) [] = longerN l d (one0 l v) := by
 show (List.filter _ _).flatMap _ = _
 rw [longerN_flat]
 unfold one0
 rw [List.flatMap_map]
 have e : (fun q => if ([] : List Int).length = 0 then decide (tl l q = v) else next l (lastE []) q) = (fun q => decide (tl l q = v)) := funext (fun q => if_pos rfl)
 rw [e]
 exact flat_congr (fun q _ => wk_longer l v d _ (by simp))

theorem longerN_Lw : ∀ (d t : Nat), longerN l d (Lw l v t) = Lw l v (t + d)
 | 0, _ => rfl
 | d + 1, t => by
  show longerN l d (Lw l v (t + 1)) = _
  rw [longerN_Lw d (t + 1), show t + 1 + d = t + (d + 1) by omega]

theorem wk_Lw (d : Nat) : wk l v (d + 1) [] = Lw l v d := by
 rw [wk_nil, show one0 l v = Lw l v 0 from rfl, longerN_Lw, Nat.zero_add]
end
section
variable {n : Int} {l : List (List Int)} (h : isGraph n l = true)
include h

/-- The longer walks of ws by the edges from q on. -/
def extFrom (l : List (List Int)) (ws : List Int) (q d : Nat) : List (List Int) := ((List.range' q d).filter (fun q => next l (lastE ws) q)).map (fun q : Nat => ws ++ [(q : Int)])

omit h in
theorem extFrom_all (ws : List Int) : extFrom l ws 0 (2 * l.length) = ext1 l ws := by
 unfold extFrom ext1
 rw [List.range_eq_range']

omit h in
theorem extFrom_succ (ws : List Int) (q d : Nat) : extFrom l ws q (d + 1) = (if next l (lastE ws) q = true then [ws ++ [(q : Int)]] else []) ++ extFrom l ws (q + 1) d := by
 unfold extFrom
 rw [List.range'_succ]
 by_cases c : next l (lastE ws) q = true
 ·rw [List.filter_cons_of_pos c, if_pos c]
  rfl
 ·rw [List.filter_cons_of_neg c, if_neg c]
  rfl

theorem spLonger1 {m : Nat} (hm : 1 ≤ m) (hm2 : m ≤ 1000) (L : List (List Int)) (hL : ∀ ws ∈ L, good l m ws) (i : Nat) (hi : i < L.length) (hll : L.length ≤ 5000000000000) (res : List (List Int)) :
  ∀ (d q : Nat) (acc : List (List Int)), q + d = 2 * l.length → acc.length + (extFrom l L[i] q d).length ≤ 5000000000000 →
   Ev (fun k => spec_l03Longer.l0 k L (acc ++ extFrom l L[i] q d) ((i + 1 : Nat) : Int) n l) res →
   Ev (fun k => spec_l03Longer.l1 k L acc (i : Int) ((lastE L[i] : Nat) : Int) (q : Int) n l) res := by
 obtain ⟨g1, g2, g3⟩ := graph_small h
 have hg := hL L[i] (List.getElem_mem hi)
 have hrow : rd_L1 L (i : Int) = L[i] := by
  show L.getD (i : Int).toNat [] = L[i]
  rw [Int.toNat_natCast, List.getD_eq_getElem?_getD, List.getElem?_eq_getElem hi]
  rfl
 intro d
 induction d with
 | zero =>
  intro q acc hq hb hr
  refine Ev.succ ?_; simp only [spec_l03Longer.l1]
  rw [wrap_id (x := 2 * (l.length : Int)) (by omega) (by omega), wrap_succ (i := i) (by omega)]
  refine Ev.neg (by omega) ?_
  simpa [extFrom] using hr
 | succ d ih =>
  intro q acc hq hb hr
  have hn := specNext h hg.2.1 (show q < 2 * l.length by omega)
  rw [extFrom_succ] at hb hr
  refine Ev.succ ?_; simp only [spec_l03Longer.l1]
  rw [wrap_id (x := 2 * (l.length : Int)) (by omega) (by omega), hn, wrap_succ (i := q) (by omega), hrow]
  refine Ev.pos (by omega) (Ev.bind (Ev.now _) ?_)
  by_cases c : next l (lastE L[i]) q = true
  ·rw [if_pos c] at hb hr
   rw [List.length_append, List.length_singleton] at hb
   have hown : spec_l01Own.f L[i] = some L[i] := by
    have := hg.1
    unfold spec_l01Own.f
    simp
    omega
   refine Ev.pos c (Ev.pos (by omega) (Ev.pos (by omega) ?_))
   rw [hown]
   refine Ev.bind (Ev.now _) (Ev.pos (by have := hg.1; omega) (Ev.pos (by omega) ?_))
   refine ih (q + 1) _ (by omega) (by rw [List.length_append, List.length_singleton]; omega) ?_
   rw [List.append_assoc]
   exact hr
  ·rw [if_neg c] at hb hr
   refine Ev.neg c (ih (q + 1) acc (by omega) (by simpa using hb) (by simpa using hr))

theorem spLonger0 {m : Nat} (hm : 1 ≤ m) (hm2 : m ≤ 1000) (L : List (List Int)) (hL : ∀ ws ∈ L, good l m ws) (hll : L.length ≤ 5000000000000) :
  ∀ (d i : Nat) (acc : List (List Int)), i + d = L.length → acc.length + (longer l (L.drop i)).length ≤ 5000000000000 →
   Ev (fun k => spec_l03Longer.l0 k L acc (i : Int) n l) (acc ++ longer l (L.drop i)) := by
 obtain ⟨g1, g2, g3⟩ := graph_small h
 intro d
 induction d with
 | zero =>
  intro i acc hi hb
  refine Ev.succ ?_; simp only [spec_l03Longer.l0]
  refine Ev.neg (by omega) ?_
  rw [List.drop_eq_nil_of_le (by omega)]
  show Ev _ (acc ++ [])
  rw [List.append_nil]
  exact Ev.now _
 | succ d ih =>
  intro i acc hi hb
  have hi' : i < L.length := by omega
  have hg := hL L[i] (List.getElem_mem hi')
  have hrow : rd_L1 L (i : Int) = L[i] := by
   show L.getD (i : Int).toNat [] = L[i]
   rw [Int.toNat_natCast, List.getD_eq_getElem?_getD, List.getElem?_eq_getElem hi']
   rfl
  have e : longer l (L.drop i) = ext1 l L[i] ++ longer l (L.drop (i + 1)) := by
   rw [List.drop_eq_getElem_cons hi']
   rfl
  rw [e, List.length_append] at hb
  have h1 := ih (i + 1) (acc ++ ext1 l L[i]) (by omega) (by rw [List.length_append]; omega)
  have h2 := spLonger1 h hm hm2 L hL i hi' hll _ (2 * l.length) 0 acc (by omega) (by rw [extFrom_all]; omega) (by rw [extFrom_all]; exact h1)
  refine Ev.succ ?_; simp only [spec_l03Longer.l0]
  rw [hrow, wrap_id (x := (L[i].length : Int) - 1) (by have := hg.1; omega) (by have := hg.1; omega), show (L[i].length : Int) - 1 = ((L[i].length - 1 : Nat) : Int) by have := hg.1; omega, hg.2.2, e, ← List.append_assoc]
  exact Ev.pos (by omega) (Ev.pos (by omega) (Ev.pos (by omega) (Ev.pos (by have := hg.1; omega) h2)))

theorem specLonger {m : Nat} (hm : 1 ≤ m) (hm2 : m ≤ 1000) (L : List (List Int)) (hL : ∀ ws ∈ L, good l m ws) (hll : L.length ≤ 5000000000000) (hb : (longer l L).length ≤ 5000000000000) :
  Ev (fun k => spec_l03Longer.f k n l L) (longer l L) := by
 have := spLonger0 h hm hm2 L hL hll L.length 0 [] (by omega) (by simpa using hb)
 exact this

end
section
variable (l : List (List Int))

/-- Whether q can be reached from p in i steps. -/
def rch : Nat → Nat → Nat → Bool
 | 0, p, q => p == q
 | i + 1, p, q => (List.range (2 * l.length)).any (fun r => next l p r && rch i r q)

theorem rch_succ (i p q : Nat) : rch l (i + 1) p q = true ↔ ∃ r, r < 2 * l.length ∧ next l p r = true ∧ rch l i r q = true := by
 show (List.range (2 * l.length)).any (fun r => next l p r && rch l i r q) = true ↔ _
 rw [List.any_eq_true]
 simp only [List.mem_range, Bool.and_eq_true]

theorem rch_back (i : Nat) : ∀ (p q : Nat), p < 2 * l.length → q < 2 * l.length → (rch l (i + 1) p q = true ↔ ∃ r, r < 2 * l.length ∧ rch l i p r = true ∧ next l r q = true) := by
 induction i with
 | zero =>
  intro p q hp hq
  rw [rch_succ]
  constructor
  ·rintro ⟨r, hr, hn, he⟩
   have he : r = q := by simpa [rch] using he
   subst he
   exact ⟨p, hp, by simp [rch], hn⟩
  ·rintro ⟨r, hr, he, hn⟩
   have he : p = r := by simpa [rch] using he
   subst he
   exact ⟨q, hq, hn, by simp [rch]⟩
 | succ i ih =>
  intro p q hp hq
  rw [rch_succ]
  constructor
  ·rintro ⟨r, hr, hn, he⟩
   obtain ⟨s, hs, h1, h2⟩ := (ih r q hr hq).1 he
   exact ⟨s, hs, (rch_succ l i p s).2 ⟨r, hr, hn, h1⟩, h2⟩
  ·rintro ⟨s, hs, h1, h2⟩
   obtain ⟨r, hr, hn, h3⟩ := (rch_succ l i p s).1 h1
   exact ⟨r, hr, hn, (ih r q hr hq).2 ⟨s, hs, h3, h2⟩⟩

/-- Breadth first: d + 1 steps from a list on whose walks begin with a. -/
def keepC (a d : Nat) (L : List (List Int)) : List (List Int) := (longer l L).filter (fun ws => rch l (d + 1) (lastE ws) a)
def clN (a : Nat) : Nat → List (List Int) → List (List Int)
 | 0, L => L
 | d + 1, L => clN a d (keepC l a d L)
def cl0 (k a : Nat) : List (List Int) := if rch l k a a = true then [[(a : Int)]] else []
/-- All closed walks of k edges. -/
def clAll (k : Nat) : List (List Int) := (List.range (2 * l.length)).flatMap (fun a => clN l a (k - 1) (cl0 l k a))

/-- Depth first. -/
def selC (d : Nat) (ws : List Int) (q : Nat) : Bool := (if ws.length = 0 then true else next l (lastE ws) q) && rch l (d + 1) q (if ws.length = 0 then q else (rd ws 0).toNat)
def cwk : Nat → List Int → List (List Int)
 | 0, ws => [ws]
 | d + 1, ws => ((List.range (2 * l.length)).filter (selC l d ws)).flatMap (fun q : Nat => cwk d (ws ++ [(q : Int)]))

theorem longer_append (A B : List (List Int)) : longer l (A ++ B) = longer l A ++ longer l B := by
 unfold longer
 rw [List.flatMap_append]

theorem keepC_append (a d : Nat) (A B : List (List Int)) : keepC l a d (A ++ B) = keepC l a d A ++ keepC l a d B := by
 unfold keepC
 rw [longer_append, List.filter_append]

theorem clN_append (a : Nat) : ∀ (d : Nat) (A B : List (List Int)), clN l a d (A ++ B) = clN l a d A ++ clN l a d B
 | 0, _, _ => rfl
 | d + 1, A, B => by
  show clN l a d (keepC l a d (A ++ B)) = clN l a d (keepC l a d A) ++ clN l a d (keepC l a d B)
  rw [keepC_append, clN_append a d]

theorem clN_nil (a : Nat) : ∀ d, clN l a d [] = []
 | 0 => rfl
 | d + 1 => clN_nil a d

theorem clN_flat (a d : Nat) : ∀ L : List (List Int), clN l a d L = L.flatMap (fun ws => clN l a d [ws])
 | [] => clN_nil l a d
 | ws :: L => by
  rw [show ws :: L = [ws] ++ L from rfl, clN_append, clN_flat a d L]
  simp

theorem rd_first (ws : List Int) (q : Int) (h : 0 < ws.length) : rd (ws ++ [q]) 0 = rd ws 0 := by
 have h1 : rd (ws ++ [q]) ((0 : Nat) : Int) = rd ws ((0 : Nat) : Int) := by
  rw [rd_lt (by simp), rd_lt h, List.getElem_append_left h]
 exact h1

theorem cwk_clN (a : Nat) : ∀ (d : Nat) (ws : List Int), 0 < ws.length → (rd ws 0).toNat = a → cwk l d ws = clN l a d [ws]
 | 0, _, _, _ => rfl
 | d + 1, ws, h, ha => by
  show (List.filter _ _).flatMap _ = clN l a d (keepC l a d [ws])
  have e : keepC l a d [ws] = ((List.range (2 * l.length)).filter (selC l d ws)).map (fun q : Nat => ws ++ [(q : Int)]) := by
   unfold keepC
   rw [show longer l [ws] = ext1 l ws by simp [longer]]
   unfold ext1
   rw [List.filter_map, List.filter_filter]
   congr 1
   refine List.filter_congr (fun q _ => ?_)
   show (rch l (d + 1) (lastE (ws ++ [(q : Int)])) a && next l (lastE ws) q) = selC l d ws q
   unfold selC
   rw [lastE_snoc, if_neg (by omega), if_neg (by omega), ha, Bool.and_comm]
  rw [e, clN_flat, List.flatMap_map]
  exact flat_congr (fun q _ => cwk_clN a d _ (by simp) (by rw [rd_first ws _ h, ha]))

theorem cwk_all (k : Nat) (hk : 1 ≤ k) : cwk l k [] = clAll l k := by
 obtain ⟨d, rfl⟩ : ∃ d, k = d + 1 := ⟨k - 1, by omega⟩
 show (List.filter _ _).flatMap _ = _
 unfold clAll
 rw [Nat.add_sub_cancel]
 have e : ∀ L : List Nat, (L.filter (selC l d [])).flatMap (fun q : Nat => cwk l d ([] ++ [(q : Int)])) = L.flatMap (fun a => clN l a d (cl0 l (d + 1) a)) := by
  intro L
  induction L with
  | nil => rfl
  | cons a L ih =>
   have hs : selC l d [] a = rch l (d + 1) a a := by
    unfold selC
    simp
   by_cases c : rch l (d + 1) a a = true
   ·rw [List.filter_cons_of_pos (by rw [hs]; exact c), List.flatMap_cons, List.flatMap_cons, ih]
    unfold cl0
    rw [if_pos c]
    congr 1
    exact cwk_clN l a d [(a : Int)] (by simp) (by
     have : rd [(a : Int)] ((0 : Nat) : Int) = (a : Int) := by rw [rd_lt (by simp)]; rfl
     have h2 : rd [(a : Int)] 0 = (a : Int) := this
     rw [h2, Int.toNat_natCast])
   ·rw [List.filter_cons_of_neg (by rw [hs]; exact c), List.flatMap_cons, ih]
    unfold cl0
    rw [if_neg c, clN_nil]
    rfl
 exact e _

/-! how many -/
theorem cnt_filter (q : Nat) (P : List Int → Bool) (L : List (List Int)) : 0 ≤ cnt q L ∧ cnt q (L.filter P) ≤ cnt q L := by
 induction L with
 | nil => exact ⟨Int.le_refl _, Int.le_refl _⟩
 | cons ws L ih =>
  have h0 : (0 : Int) ≤ (if lastE ws = q then 1 else 0) := by split <;> decide
  show 0 ≤ (if lastE ws = q then 1 else 0) + cnt q L ∧ _
  by_cases c : P ws = true
  ·rw [List.filter_cons_of_pos c]
   show _ ∧ (if lastE ws = q then 1 else 0) + cnt q (L.filter P) ≤ (if lastE ws = q then 1 else 0) + cnt q L
   omega
  ·rw [List.filter_cons_of_neg c]
   show _ ∧ cnt q (L.filter P) ≤ (if lastE ws = q then 1 else 0) + cnt q L
   omega

theorem good_keepC {m : Nat} (a d : Nat) {L : List (List Int)} (h : ∀ ws ∈ L, good l m ws) : ∀ x ∈ keepC l a d L, good l (m + 1) x := fun x hx => good_longer l h x (List.mem_filter.1 hx).1

/-- The list after t steps out of k - 1. -/
def clT (k a : Nat) : Nat → List (List Int)
 | 0 => cl0 l k a
 | t + 1 => keepC l a (k - 2 - t) (clT k a t)

theorem clT_clN (k a : Nat) : ∀ (d t : Nat), t + d = k - 1 → clN l a d (clT l k a t) = clT l k a (k - 1)
 | 0, t, h => by
  obtain rfl : t = k - 1 := by omega
  rfl
 | d + 1, t, h => by
  show clN l a d (keepC l a d (clT l k a t)) = _
  rw [← clT_clN k a d (t + 1) (by omega)]
  show _ = clN l a d (keepC l a (k - 2 - t) (clT l k a t))
  rw [show k - 2 - t = d by omega]

theorem good_clT (k a : Nat) (ha : a < 2 * l.length) : ∀ t, ∀ x ∈ clT l k a t, good l (t + 1) x
 | 0 => by
  intro x hx
  unfold clT cl0 at hx
  split at hx
  ·simp only [List.mem_singleton] at hx
   subst hx
   exact good_snoc l (ws := []) rfl ha
  ·simp at hx
 | t + 1 => good_keepC l a _ (good_clT k a ha t)

theorem rch_clT (k a : Nat) (ha : a < 2 * l.length) : ∀ t, t ≤ k - 1 → 1 ≤ k → ∀ x ∈ clT l k a t, rch l (k - t) (lastE x) a = true
 | 0, _, _ => by
  intro x hx
  unfold clT cl0 at hx
  split at hx
  ·rename_i c
   simp only [List.mem_singleton] at hx
   subst hx
   have : lastE [(a : Int)] = a := lastE_snoc [] a
   rw [this]
   exact c
  ·simp at hx
 | t + 1, h, hk => by
  intro x hx
  have h2 := (List.mem_filter.1 hx).2
  rw [show k - 2 - t + 1 = k - (t + 1) by omega] at h2
  exact h2

theorem cnt_clT (hl : l.length ≤ 10) (k a : Nat) (ha : a < 2 * l.length) : ∀ t {q : Nat}, q < 2 * l.length → cnt q (clT l k a t) ≤ vec l (2 * l.length) a t q := by
 intro t
 induction t with
 | zero =>
  intro q hq
  show cnt q (cl0 l k a) ≤ (if q = a then 1 else 0)
  unfold cl0
  split
  ·show (if lastE [(a : Int)] = q then 1 else 0) + 0 ≤ _
   have : lastE [(a : Int)] = a := lastE_snoc [] a
   rw [this]
   by_cases c : a = q
   ·rw [if_pos c, if_pos c.symm]
    decide
   ·rw [if_neg c, if_neg (fun z => c z.symm)]
    decide
  ·show 0 ≤ _
   split <;> decide
 | succ t ih =>
  intro q hq
  have h1 := (cnt_filter q (fun ws => rch l (k - 2 - t + 1) (lastE ws) a) (longer l (clT l k a t))).2
  rw [cnt_longer l _ (good_clT l k a ha t) hq] at h1
  refine Int.le_trans h1 ?_
  show _ ≤ Sm (2 * l.length) (fun r => vec l (2 * l.length) a t r * W l r q)
  exact Sm_mono (fun r hr => Int.mul_le_mul_of_nonneg_right (ih hr) (W_range l r q).1)

theorem len_clT (hl : l.length ≤ 10) (k a : Nat) (hk : 1 ≤ k) (ha : a < 2 * l.length) : ((clT l k a (k - 1)).length : Int) ≤ vec l (2 * l.length) a k a := by
 rw [len_cnt (2 * l.length) _ (fun ws hw => (good_clT l k a ha _ ws hw).2.1)]
 obtain ⟨d, rfl⟩ : ∃ d, k = d + 1 := ⟨k - 1, by omega⟩
 show _ ≤ Sm (2 * l.length) (fun r => vec l (2 * l.length) a d r * W l r a)
 refine Sm_mono (fun r hr => ?_)
 have h1 := cnt_clT l hl (d + 1) a ha d hr
 have hv := (vec_range l (2 * l.length) a (by omega) d r).1
 by_cases c : next l r a = true
 ·have : W l r a = 1 := by unfold W; rw [if_pos c]
  rw [this, Int.mul_one]
  exact h1
 ·have h0 : cnt r (clT l (d + 1) a d) = 0 := by
   have hz : ∀ L : List (List Int), (∀ ws ∈ L, lastE ws ≠ r) → cnt r L = 0 := by
    intro L
    induction L with
    | nil => intro _; rfl
    | cons ws L ih =>
     intro h
     show (if lastE ws = r then 1 else 0) + cnt r L = 0
     rw [if_neg (h ws (by simp)), ih (fun w hw => h w (by simp [hw]))]
     rfl
   refine hz _ (fun ws hw e => ?_)
   have h2 := rch_clT l (d + 1) a ha d (by omega) (by omega) ws hw
   rw [show d + 1 - d = 0 + 1 by omega, rch_succ] at h2
   obtain ⟨s, _, h3, h4⟩ := h2
   have h4 : s = a := by simpa [rch] using h4
   subst h4
   rw [e] at h3
   exact c h3
  show cnt r (clT l (d + 1) a d) ≤ _
  rw [h0]
  exact Int.mul_nonneg hv (W_range l r a).1

theorem ext1_one {ws : List Int} {P : List Int → Bool} {r : Nat} (hr : r < 2 * l.length) (hn : next l (lastE ws) r = true) (hP : P (ws ++ [(r : Int)]) = true) : 1 ≤ ((ext1 l ws).filter P).length := by
 have : ws ++ [(r : Int)] ∈ (ext1 l ws).filter P := List.mem_filter.2 ⟨by
  unfold ext1
  exact List.mem_map.2 ⟨r, List.mem_filter.2 ⟨List.mem_range.2 hr, hn⟩, rfl⟩, hP⟩
 exact List.length_pos_of_mem this

theorem clT_up (k a : Nat) (ha : a < 2 * l.length) (t : Nat) (ht : t + 1 ≤ k - 1) : (clT l k a t).length ≤ (clT l k a (t + 1)).length := by
 have key : ∀ L : List (List Int), (∀ x ∈ L, rch l (k - t) (lastE x) a = true) → L.length ≤ (keepC l a (k - 2 - t) L).length := by
  intro L
  induction L with
  | nil => intro _; exact Nat.zero_le _
  | cons ws L ih =>
   intro h
   have h1 := ih (fun x hx => h x (by simp [hx]))
   have h2 := h ws (by simp)
   rw [show k - t = (k - 2 - t + 1) + 1 by omega, rch_succ] at h2
   obtain ⟨r, hr, hn, hc⟩ := h2
   have e : keepC l a (k - 2 - t) (ws :: L) = (ext1 l ws).filter (fun ws => rch l (k - 2 - t + 1) (lastE ws) a) ++ keepC l a (k - 2 - t) L := by
    rw [show ws :: L = [ws] ++ L from rfl, keepC_append]
    unfold keepC
    rw [show longer l [ws] = ext1 l ws by simp [longer]]
   have h3 := ext1_one l (P := fun ws => rch l (k - 2 - t + 1) (lastE ws) a) hr hn (by
    show rch l (k - 2 - t + 1) (lastE (ws ++ [(r : Int)])) a = true
    rw [lastE_snoc]; exact hc)
   rw [e, List.length_append, List.length_cons]
   omega
 exact key _ (rch_clT l k a ha t (by omega) (by omega))

theorem clT_le (k a : Nat) (ha : a < 2 * l.length) : ∀ (d t : Nat), t + d = k - 1 → (clT l k a t).length ≤ (clT l k a (k - 1)).length
 | 0, t, h => by
  obtain rfl : t = k - 1 := by omega
  exact Nat.le_refl _
 | d + 1, t, h => Nat.le_trans (clT_up l k a ha t (by omega)) (clT_le k a ha d (t + 1) (by omega))

theorem longer_len (L : List (List Int)) : (longer l L).length ≤ 2 * l.length * L.length := by
 induction L with
 | nil => exact Nat.zero_le _
 | cons ws L ih =>
  have e : longer l (ws :: L) = ext1 l ws ++ longer l L := rfl
  have h1 : (ext1 l ws).length ≤ 2 * l.length := by
   unfold ext1
   rw [List.length_map]
   exact Nat.le_trans (List.length_filter_le _ _) (by simp)
  rw [e, List.length_append, List.length_cons, Nat.mul_add]
  omega

theorem flat_len (f : Nat → List (List Int)) (g : Nat → Int) : ∀ m, (∀ a, a < m → ((f a).length : Int) ≤ g a) → (((List.range m).flatMap f).length : Int) ≤ Sm m g
 | 0, _ => Int.le_refl _
 | m + 1, h => by
  have h1 := flat_len f g m (fun a ha => h a (by omega))
  have h2 := h m (by omega)
  rw [List.range_succ, List.flatMap_append, List.length_append]
  show _ ≤ Sm m g + g m
  simp only [List.flatMap_cons, List.flatMap_nil, List.append_nil]
  omega

theorem clAll_len (hl : l.length ≤ 10) (k : Nat) (hk : 1 ≤ k) : ((clAll l k).length : Int) ≤ closedN l (k - 1) := by
 unfold clAll closedN tr
 refine flat_len _ _ _ (fun a ha => ?_)
 have e : clN l a (k - 1) (cl0 l k a) = clT l k a (k - 1) := clT_clN l k a (k - 1) 0 (by omega)
 have h1 := len_clT l hl k a hk ha
 obtain ⟨d, rfl⟩ : ∃ d, k = d + 1 := ⟨k - 1, by omega⟩
 rw [e]
 rw [vec_pw l _ ha d a] at h1
 exact h1

end
theorem getB (xs : List (List Bool)) {i : Nat} : rd_L5 xs (i : Int) = xs.getD i [] := rfl
theorem rdB (xs : List Bool) {i : Nat} : rdOf false xs (i : Int) = xs.getD i false := rfl

section
variable {n : Int} {l : List (List Int)} (h : isGraph n l = true) (k : Nat) (hk : 1 ≤ k ∧ k ≤ 12)

/-- ways, row by row. -/
def wrow (l : List (List Int)) (a i m : Nat) : List Bool := (List.range m).map (fun b => rch l (i + 1) b a)
def wlist (l : List (List Int)) (a i : Nat) : List (List Bool) := (List.range i).map (fun j => wrow l a j (2 * l.length))

theorem wrow_get (a i m : Nat) {b : Nat} (hb : b < m) : (wrow l a i m).getD b false = rch l (i + 1) b a := by
 unfold wrow
 rw [List.getD_eq_getElem?_getD, List.getElem?_map, List.getElem?_range hb]
 rfl
theorem wlist_get (a i : Nat) {j : Nat} (hj : j < i) : (wlist l a i).getD j [] = wrow l a j (2 * l.length) := by
 unfold wlist
 rw [List.getD_eq_getElem?_getD, List.getElem?_map, List.getElem?_range hj]
 rfl
theorem wrow_length (a i m : Nat) : (wrow l a i m).length = m := by simp [wrow]
theorem wlist_length (a i : Nat) : (wlist l a i).length = i := by simp [wlist]

theorem any_succ (f : Nat → Bool) (c : Nat) : (List.range (c + 1)).any f = ((List.range c).any f || f c) := by
 rw [List.range_succ, List.any_append]
 simp

theorem rch_one (a b : Nat) (ha : a < 2 * l.length) : rch l 1 b a = next l b a := by
 rw [Bool.eq_iff_iff, show (1 : Nat) = 0 + 1 from rfl, rch_succ]
 constructor
 ·rintro ⟨r, _, h1, h2⟩
  have : r = a := by simpa [rch] using h2
  subst this
  exact h1
 ·intro h1
  exact ⟨a, ha, h1, by simp [rch]⟩

include h hk

theorem spC (acc : List (List Int)) (a : Nat) (ha : a < 2 * l.length) (i : Nat) (hi : i < k) (hi0 : 0 < i) (b : Nat) (hb : b < 2 * l.length) (r : List (List Int) × Bool)
  (hr : Ev (fun f => spec_l03All.l2 f (k : Int) (2 * (l.length : Int)) acc (a : Int) (wlist l a i) (i : Int) (wrow l a i (b + 1)) ((b + 1 : Nat) : Int) n l) r) :
  ∀ (d c : Nat), c + d = 2 * l.length → Ev (fun f => spec_l03All.l3 f (k : Int) (2 * (l.length : Int)) acc (a : Int) (wlist l a i) (i : Int) (wrow l a i b) (b : Int) ((List.range c).any (fun c => next l b c && rch l i c a)) (c : Int) n l) r := by
 obtain ⟨g1, g2, g3⟩ := graph_small h
 have hwl := wrow_length (l := l) a i b
 intro d
 induction d with
 | zero =>
  intro c hc
  obtain rfl : c = 2 * l.length := by omega
  have e : wrow l a i b ++ [(List.range (2 * l.length)).any (fun c => next l b c && rch l i c a)] = wrow l a i (b + 1) := (map_range_succ (fun b => rch l (i + 1) b a) b).symm
  refine Ev.succ ?_; simp only [spec_l03All.l3]
  rw [e, wrap_succ (i := b) (by omega)]
  exact Ev.neg (by omega) (Ev.pos (by omega) hr)
 | succ d ih =>
  intro c hc
  have h1 := ih (c + 1) (by omega)
  rw [any_succ] at h1
  have hn := specNext h hb (show c < 2 * l.length by omega)
  have hw : rd_L5 (wlist l a i) (((i - 1 : Nat) : Nat) : Int) = wrow l a (i - 1) (2 * l.length) := by rw [getB, wlist_get a i (by omega)]
  have hwv : rdOf false (wrow l a (i - 1) (2 * l.length)) (c : Int) = rch l i c a := by rw [rdB, wrow_get a (i - 1) _ (by omega), show i - 1 + 1 = i by omega]
  have hl1 := wlist_length (l := l) a i
  have hl2 := wrow_length (l := l) a (i - 1) (2 * l.length)
  refine Ev.succ ?_; simp only [spec_l03All.l3]
  rw [wrap_succ (i := c) (by omega), wrap_id (x := (i : Int) - 1) (by omega) (by omega), show (i : Int) - 1 = ((i - 1 : Nat) : Int) by omega, hn, hw, hwv]
  refine Ev.pos (by omega) (Ev.pos (by omega) ?_)
  by_cases c1 : (List.range c).any (fun c => next l b c && rch l i c a) = true
  ·rw [c1, Bool.true_or] at h1
   exact Ev.pos c1 h1
  ·have c2 : (List.range c).any (fun c => next l b c && rch l i c a) = false := by simpa using c1
   rw [c2, Bool.false_or] at h1
   refine Ev.neg c1 (Ev.bind (Ev.now _) ?_)
   by_cases c3 : next l b c = true
   ·rw [c3, Bool.true_and] at h1
    exact Ev.pos c3 (Ev.pos (by omega) (Ev.pos (by omega) (Ev.pos (by omega) (Ev.pos (by omega) h1))))
   ·have c4 : next l b c = false := by simpa using c3
    rw [c4, Bool.false_and] at h1
    exact Ev.neg c3 h1

theorem spB (acc : List (List Int)) (a : Nat) (ha : a < 2 * l.length) (i : Nat) (hi : i < k) (r : List (List Int) × Bool)
  (hr : Ev (fun f => spec_l03All.l1 f (k : Int) (2 * (l.length : Int)) acc (a : Int) (wlist l a (i + 1)) ((i + 1 : Nat) : Int) n l) r) :
  ∀ (d b : Nat), b + d = 2 * l.length → Ev (fun f => spec_l03All.l2 f (k : Int) (2 * (l.length : Int)) acc (a : Int) (wlist l a i) (i : Int) (wrow l a i b) (b : Int) n l) r := by
 obtain ⟨g1, g2, g3⟩ := graph_small h
 intro d
 induction d with
 | zero =>
  intro b hb
  obtain rfl : b = 2 * l.length := by omega
  have e : wlist l a i ++ [wrow l a i (2 * l.length)] = wlist l a (i + 1) := (map_range_succ (fun j => wrow l a j (2 * l.length)) i).symm
  have hl1 := wlist_length (l := l) a i
  refine Ev.succ ?_; simp only [spec_l03All.l2]
  rw [e, wrap_succ (i := i) (by omega)]
  exact Ev.neg (by omega) (Ev.pos (by omega) hr)
 | succ d ih =>
  intro b hb
  have h1 := ih (b + 1) (by omega)
  have hn := specNext h (show b < 2 * l.length by omega) ha
  refine Ev.succ ?_; simp only [spec_l03All.l2]
  rw [hn]
  refine Ev.pos (by omega) ?_
  by_cases c : i = 0
  ·subst c
   refine Ev.pos (by omega) (Ev.bind (Ev.now _) ?_)
   have e : wrow l a 0 b ++ [next l b a] = wrow l a 0 (b + 1) := by
    rw [← rch_one a b ha]
    exact (map_range_succ (fun b => rch l (0 + 1) b a) b).symm
   have hwl := wrow_length (l := l) a 0 b
   refine Ev.succ ?_; simp only [spec_l03All.j3]
   refine Ev.succ ?_; simp only [spec_l03All.l3]
   rw [e, wrap_succ (i := b) (by omega)]
   exact Ev.pos (by omega) (Ev.neg (by omega) (Ev.pos (by omega) h1))
  ·refine Ev.neg (by omega) ?_
   have h2 := spC h k hk acc a ha i hi (by omega) b (by omega) r h1 (2 * l.length) 0 (by omega)
   refine Ev.succ ?_; simp only [spec_l03All.j3]
   exact h2

theorem spI (acc : List (List Int)) (a : Nat) (ha : a < 2 * l.length) (r : List (List Int) × Bool)
  (hr : Ev (fun f => spec_l03All.l1 f (k : Int) (2 * (l.length : Int)) acc (a : Int) (wlist l a k) (k : Int) n l) r) :
  ∀ (d i : Nat), i + d = k → Ev (fun f => spec_l03All.l1 f (k : Int) (2 * (l.length : Int)) acc (a : Int) (wlist l a i) (i : Int) n l) r := by
 obtain ⟨g1, g2, g3⟩ := graph_small h
 intro d
 induction d with
 | zero =>
  intro i hi
  obtain rfl : i = k := by omega
  exact hr
 | succ d ih =>
  intro i hi
  have h1 := ih (i + 1) (by omega)
  have h2 := spB h k hk acc a ha i (by omega) r h1 (2 * l.length) 0 (by omega)
  refine Ev.succ ?_; simp only [spec_l03All.l1]
  exact Ev.pos (by omega) h2

/-- The walks of the longer list that can be closed are kept. -/
theorem spKeep (acc : List (List Int)) (a : Nat) (ha : a < 2 * l.length) (t : Nat) (ht : t < k) (m : Nat) (hm : 1 ≤ m) (hm2 : m ≤ 1000) (L : List (List Int)) (hL : ∀ ws ∈ L, good l m ws) (hll : L.length ≤ 5000000) (r : List (List Int) × Bool)
  (hr : Ev (fun f => spec_l03All.l4 f (k : Int) (2 * (l.length : Int)) acc (a : Int) (wlist l a k) (L.filter (fun ws => rch l (t + 1) (lastE ws) a)) ((t : Int) - 1) n l) r) :
  ∀ (d j : Nat), j + d = L.length → Ev (fun f => spec_l03All.l5 f (k : Int) (2 * (l.length : Int)) acc (a : Int) (wlist l a k) (t : Int) L ((L.take j).filter (fun ws => rch l (t + 1) (lastE ws) a)) (j : Int) n l) r := by
 obtain ⟨g1, g2, g3⟩ := graph_small h
 have hl1 := wlist_length (l := l) a k
 have hl2 := wrow_length (l := l) a t (2 * l.length)
 intro d
 induction d with
 | zero =>
  intro j hj
  obtain rfl : j = L.length := by omega
  refine Ev.succ ?_; simp only [spec_l03All.l5]
  rw [List.take_length, wrap_id (x := (t : Int) - 1) (by omega) (by omega)]
  exact Ev.neg (by omega) hr
 | succ d ih =>
  intro j hj
  have hj' : j < L.length := by omega
  have h1 := ih (j + 1) (by omega)
  have hg := hL L[j] (List.getElem_mem hj')
  have hrow : rd_L1 L (j : Int) = L[j] := by
   show L.getD (j : Int).toNat [] = L[j]
   rw [Int.toNat_natCast, List.getD_eq_getElem?_getD, List.getElem?_eq_getElem hj']
   rfl
  have hw : rd_L5 (wlist l a k) (t : Int) = wrow l a t (2 * l.length) := by rw [getB, wlist_get a k ht]
  have hwv : rdOf false (wrow l a t (2 * l.length)) ((lastE L[j] : Nat) : Int) = rch l (t + 1) (lastE L[j]) a := by rw [rdB, wrow_get a t _ hg.2.1]
  have hfl : ((L.take j).filter (fun ws => rch l (t + 1) (lastE ws) a)).length ≤ 5000000 := Nat.le_trans (List.length_filter_le _ _) (by rw [List.length_take]; omega)
  rw [List.take_succ_eq_append_getElem hj', List.filter_append] at h1
  have hlen := hg.1
  refine Ev.succ ?_; simp only [spec_l03All.l5]
  rw [hrow, hw, wrap_id (x := (L[j].length : Int) - 1) (by omega) (by omega), show (L[j].length : Int) - 1 = ((L[j].length - 1 : Nat) : Int) by omega, hg.2.2, hwv, wrap_succ (i := j) (by omega)]
  have hlt := hg.2.1
  refine Ev.pos (by omega) (Ev.pos (by omega) (Ev.pos (by omega) (Ev.pos (by omega) (Ev.pos (by omega) (Ev.pos (by omega) (Ev.pos (by omega) (Ev.pos (by omega) ?_)))))))
  by_cases c : rch l (t + 1) (lastE L[j]) a = true
  ·rw [List.filter_cons_of_pos (p := fun ws => rch l (t + 1) (lastE ws) a) c] at h1
   exact Ev.pos c (Ev.pos (by omega) h1)
  ·rw [List.filter_cons_of_neg (p := fun ws => rch l (t + 1) (lastE ws) a) c, List.filter_nil, List.append_nil] at h1
   exact Ev.neg c h1

theorem spExt (acc : List (List Int)) (a : Nat) (ha : a < 2 * l.length) (hs : (clT l k a (k - 1)).length ≤ 400) (r : List (List Int) × Bool)
  (hr : Ev (fun f => spec_l03All.l4 f (k : Int) (2 * (l.length : Int)) acc (a : Int) (wlist l a k) (clT l k a (k - 1)) (-1) n l) r) :
  ∀ (d t : Nat), t + d = k - 1 → Ev (fun f => spec_l03All.l4 f (k : Int) (2 * (l.length : Int)) acc (a : Int) (wlist l a k) (clT l k a t) ((d : Int) - 1) n l) r := by
 obtain ⟨g1, g2, g3⟩ := graph_small h
 intro d
 induction d with
 | zero =>
  intro t ht
  obtain rfl : t = k - 1 := by omega
  exact hr
 | succ d ih =>
  intro t ht
  have h1 := ih (t + 1) (by omega)
  have hle := clT_le l k a ha (d + 1) t ht
  have hgood := good_clT l k a ha t
  have hlo := longer_len l (clT l k a t)
  have hlo2 : 2 * l.length * (clT l k a t).length ≤ 20 * 400 := Nat.mul_le_mul (by omega) (by omega)
  have h2 := specLonger h (m := t + 1) (by omega) (by omega) (clT l k a t) hgood (by omega) (by omega)
  have e : (longer l (clT l k a t)).filter (fun ws => rch l (d + 1) (lastE ws) a) = clT l k a (t + 1) := by
   show _ = keepC l a (k - 2 - t) (clT l k a t)
   rw [show k - 2 - t = d by omega]
   rfl
  have h3 := spKeep h k hk acc a ha d (by omega) (t + 2) (by omega) (by omega) (longer l (clT l k a t)) (good_longer l hgood) (by omega) r (by rw [e]; exact h1) (longer l (clT l k a t)).length 0 (by omega)
  refine Ev.succ ?_; simp only [spec_l03All.l4]
  rw [show ((d + 1 : Nat) : Int) - 1 = (d : Int) by omega]
  exact Ev.pos (by omega) (Ev.bind h2 h3)

theorem spA (hb : (clAll l k).length ≤ 400) : ∀ (d a : Nat), a + d = 2 * l.length →
  Ev (fun f => spec_l03All.l0 f (k : Int) (2 * (l.length : Int)) ((List.range a).flatMap (fun a => clN l a (k - 1) (cl0 l k a))) (a : Int) n l) (clAll l k, true) := by
 obtain ⟨g1, g2, g3⟩ := graph_small h
 intro d
 induction d with
 | zero =>
  intro a ha
  obtain rfl : a = 2 * l.length := by omega
  refine Ev.succ ?_; simp only [spec_l03All.l0]
  exact Ev.neg (by omega) (Ev.now _)
 | succ d ih =>
  intro a ha
  have h1 := ih (a + 1) (by omega)
  have e0 : clN l a (k - 1) (cl0 l k a) = clT l k a (k - 1) := clT_clN l k a (k - 1) 0 (by omega)
  rw [List.range_succ, List.flatMap_append] at h1
  have e1 : [a].flatMap (fun a => clN l a (k - 1) (cl0 l k a)) = clT l k a (k - 1) := by
   rw [← e0]
   simp
  rw [e1] at h1
  have hle : ((List.range a).flatMap (fun a => clN l a (k - 1) (cl0 l k a))).length + (clT l k a (k - 1)).length ≤ 400 := by
   have e2 : clAll l k = (List.range a).flatMap (fun a => clN l a (k - 1) (cl0 l k a)) ++ (clT l k a (k - 1) ++ ((List.range' (a + 1) d).flatMap (fun a => clN l a (k - 1) (cl0 l k a)))) := by
    unfold clAll
    rw [← e1, ← List.flatMap_append, ← List.flatMap_append]
    congr 1
    rw [List.range_eq_range', List.range_eq_range', show 2 * l.length = a + (d + 1) by omega, ← List.range'_append_1 (s := 0) (m := a) (n := d + 1), List.range'_succ]
    simp
   rw [e2, List.length_append, List.length_append] at hb
   omega
  have h2 : Ev (fun f => spec_l03All.l4 f (k : Int) (2 * (l.length : Int)) ((List.range a).flatMap (fun a => clN l a (k - 1) (cl0 l k a))) (a : Int) (wlist l a k) (clT l k a (k - 1)) (-1) n l) (clAll l k, true) := by
   refine Ev.succ ?_; simp only [spec_l03All.l4]
   rw [wrap_succ (i := a) (by omega)]
   exact Ev.neg (by omega) (Ev.pos (by omega) h1)
  have h3 := spExt h k hk _ a (by omega) (by omega) _ h2 (k - 1) 0 (by omega)
  have hl1 := wlist_length (l := l) a k
  have hl2 := wrow_length (l := l) a (k - 1) (2 * l.length)
  have hw : rd_L5 (wlist l a k) ((k - 1 : Nat) : Int) = wrow l a (k - 1) (2 * l.length) := by rw [getB, wlist_get a k (by omega)]
  have hwv : rdOf false (wrow l a (k - 1) (2 * l.length)) (a : Int) = rch l k a a := by rw [rdB, wrow_get a (k - 1) _ (by omega), show k - 1 + 1 = k by omega]
  have h5 : ∀ L, clT l k a 0 = L → Ev (fun f => spec_l03All.j5 f (k : Int) (2 * (l.length : Int)) ((List.range a).flatMap (fun a => clN l a (k - 1) (cl0 l k a))) (a : Int) (wlist l a k) L n l) (clAll l k, true) := by
   intro L hL
   subst hL
   refine Ev.succ ?_; simp only [spec_l03All.j5]
   rw [wrap_id (x := (k : Int) - 2) (by omega) (by omega), show (k : Int) - 2 = ((k - 1 : Nat) : Int) - 1 by omega]
   exact h3
  have h4 : Ev (fun f => spec_l03All.l1 f (k : Int) (2 * (l.length : Int)) ((List.range a).flatMap (fun a => clN l a (k - 1) (cl0 l k a))) (a : Int) (wlist l a k) (k : Int) n l) (clAll l k, true) := by
   refine Ev.succ ?_; simp only [spec_l03All.l1]
   rw [wrap_id (x := (k : Int) - 1) (by omega) (by omega), show (k : Int) - 1 = ((k - 1 : Nat) : Int) by omega, hw, hwv]
   refine Ev.neg (by omega) (Ev.bind (Ev.now _) (Ev.pos (by omega) (Ev.pos (by omega) (Ev.pos (by omega) (Ev.pos (by omega) ?_)))))
   by_cases c : rch l k a a = true
   ·exact Ev.pos c (Ev.pos (by simp) (h5 _ (if_pos c)))
   ·exact Ev.neg c (h5 _ (if_neg c))
  have h6 := spI h k hk _ a (by omega) _ h4 k 0 (by omega)
  refine Ev.succ ?_; simp only [spec_l03All.l0]
  exact Ev.pos (by omega) h6

/-- All closed walks, if there are not too many. -/
def clR (l : List (List Int)) (k : Nat) : List (List Int) × Bool := if closedN l (k - 1) > 400 then ([], false) else (clAll l k, true)

theorem specAll : Ev (fun f => spec_l03All.f f n l (k : Int)) (clR l k) := by
 obtain ⟨g1, g2, g3⟩ := graph_small h
 have h1 := specCount h k hk
 unfold spec_l03All.f clR
 by_cases c : closedN l (k - 1) > 400
 ·rw [if_pos c]
  exact Ev.bind h1 (Ev.pos c (Ev.now _))
 ·rw [if_neg c]
  have h2 := spA h k hk (by have := clAll_len l g3 k hk.1; omega) (2 * l.length) 0 (by omega)
  refine Ev.bind h1 (Ev.neg c ?_)
  rw [wrap_id (x := 2 * (l.length : Int)) (by omega) (by omega)]
  exact h2

end
/-- Not more than one. -/
def mn1 (v : Int) : Int := if 1 < v then 1 else v

/-- Rows of which those before i, and row i up to f, are cut to one. -/
def cutM (N : Nat) (S : Nat → Nat → Int) (i f : Nat) : List (List Int) := ofFn N (fun p q => if p < i ∨ (p = i ∧ q < f) then mn1 (S p q) else S p q)

theorem cutM_row (N : Nat) (S : Nat → Nat → Int) (i f : Nat) (hi : i < N) : rd_L1 (cutM N S i f) (i : Int) = rowOf N (fun q => if q < f then mn1 (S i q) else S i q) := by
 unfold cutM
 rw [ofFn_row _ hi]
 refine rowOf_congr (fun q _ => ?_)
 by_cases c : q < f
 ·rw [if_pos c, if_pos (.inr ⟨rfl, c⟩)]
 ·rw [if_neg c, if_neg (fun z => z.elim (fun z => by omega) (fun z => c z.2))]

theorem cutM_set (N : Nat) (S : Nat → Nat → Int) (i f : Nat) (hi : i < N) (hf : f < N) : (cutM N S i f).set i ((rd_L1 (cutM N S i f) (i : Int)).set f (mn1 (S i f))) = cutM N S i (f + 1) := by
 rw [cutM_row N S i f hi, rowOf_set _ _ hf]
 unfold cutM
 rw [ofFn_set _ _ hi]
 refine ofFn_congr (fun p q hp hq => ?_)
 by_cases c : p = i
 ·subst c
  rw [if_pos rfl]
  by_cases c2 : q = f
  ·rw [if_pos c2, c2, if_pos (.inr ⟨rfl, by omega⟩)]
  ·rw [if_neg c2]
   by_cases c3 : q < f
   ·rw [if_pos c3, if_pos (.inr ⟨rfl, by omega⟩)]
   ·rw [if_neg c3, if_neg (fun z => z.elim (fun z => by omega) (fun z => by omega))]
 ·rw [if_neg c]
  by_cases c2 : p < i
  ·rw [if_pos (.inl c2), if_pos (.inl c2)]
  ·rw [if_neg (fun z => z.elim c2 (fun z => c z.1)), if_neg (fun z => z.elim c2 (fun z => c z.1))]

theorem cutM_next (N : Nat) (S : Nat → Nat → Int) (i : Nat) : cutM N S i N = cutM N S (i + 1) 0 := by
 refine ofFn_congr (fun p q hp hq => ?_)
 by_cases c : p < i + 1
 ·rw [if_pos (show p < i ∨ (p = i ∧ q < N) by omega), if_pos (show p < i + 1 ∨ (p = i + 1 ∧ q < 0) from .inl c)]
 ·rw [if_neg (show ¬ (p < i ∨ (p = i ∧ q < N)) by omega), if_neg (show ¬ (p < i + 1 ∨ (p = i + 1 ∧ q < 0)) by omega)]

theorem cutM_zero (N : Nat) (S : Nat → Nat → Int) : ofFn N S = cutM N S 0 0 := ofFn_congr (fun p q _ _ => (if_neg (fun z => z.elim (fun z => by omega) (fun z => by omega))).symm)
theorem cutM_all (N : Nat) (S : Nat → Nat → Int) : cutM N S N 0 = ofFn N (fun p q => mn1 (S p q)) := ofFn_congr (fun p q hp _ => if_pos (.inl hp))
theorem cutM_length (N : Nat) (S : Nat → Nat → Int) (i f : Nat) : (cutM N S i f).length = N := ofFn_length _ _

theorem lcM (N : Nat) (hN : N ≤ 1000) (S : Nat → Nat → Int) (i : Nat) (hi : i < N) : ∀ (d f : Nat), f + d = N → impl_Graph_closedWalks.lc (i : Int) (N : Int) (d + 1) (f : Int) (cutM N S i f) = some (cutM N S (i + 1) 0) := by
 intro d
 induction d with
 | zero =>
  intro f hf
  obtain rfl : f = N := by omega
  unfold impl_Graph_closedWalks.lc
  rw [if_neg (by omega), cutM_next]
 | succ d ih =>
  intro f hf
  have h1 := ih (f + 1) (by omega)
  have hl := cutM_length N S i f
  have hr : (rd_L1 (cutM N S i f) (i : Int)).length = N := by rw [cutM_row N S i f hi, rowOf_length]
  have hv : rd (rd_L1 (cutM N S i f) (i : Int)) (f : Int) = S i f := by
   rw [cutM_row N S i f hi, rowOf_rd _ (show f < N by omega), if_neg (by omega)]
  unfold impl_Graph_closedWalks.lc
  rw [if_pos (by omega), if_pos ⟨by omega, by omega, by omega, by omega⟩, hv, wrap_succ (i := f) (by omega), Int.toNat_natCast, Int.toNat_natCast]
  have e := cutM_set N S i f hi (by omega)
  unfold mn1 at e
  rw [e]
  exact h1

theorem lrM (N : Nat) (hN : N ≤ 1000) (S : Nat → Nat → Int) : ∀ (d i : Nat), i + d = N → impl_Graph_closedWalks.lr (N : Int) (d + 1) (i : Int) (cutM N S i 0) = some (ofFn N (fun p q => mn1 (S p q))) := by
 intro d
 induction d with
 | zero =>
  intro i hi
  obtain rfl : i = N := by omega
  unfold impl_Graph_closedWalks.lr
  rw [if_neg (by omega), cutM_all]
 | succ d ih =>
  intro i hi
  have h1 := ih (i + 1) (by omega)
  have hl := cutM_length N S i 0
  have hr : (rd_L1 (cutM N S i 0) (i : Int)).length = N := by rw [cutM_row N S i 0 (by omega), rowOf_length]
  have h2 : impl_Graph_closedWalks.lc (i : Int) (N : Int) (N + 1) 0 (cutM N S i 0) = some (cutM N S (i + 1) 0) := lcM N hN S i (by omega) N 0 (by omega)
  unfold impl_Graph_closedWalks.lr
  rw [if_pos (by omega), if_pos (by omega), hr, h2, Option.bind_some, wrap_succ (i := i) (by omega)]
  exact h1

theorem l0M (N : Nat) (hN : N ≤ 1000) : ∀ (d s : Nat), s + d = N → impl_Graph_closedWalks.l0 (N : Int) (d + 1) (s : Int) (dgM N s) = some (dgM N N) := by
 intro d
 induction d with
 | zero =>
  intro s hs
  obtain rfl : s = N := by omega
  unfold impl_Graph_closedWalks.l0
  rw [if_neg (by omega)]
 | succ d ih =>
  intro s hs
  have h1 := ih (s + 1) (by omega)
  have hl := dgM_length N s
  have hr : (rd_L1 (dgM N s) (s : Int)).length = N := by rw [dgM_row N s (by omega), rowOf_length]
  unfold impl_Graph_closedWalks.l0
  rw [if_pos (by omega), if_pos (by omega), wrap_succ (i := s) (by omega), Int.toNat_natCast, dgM_set N s (by omega)]
  exact h1

/-- Which edges are reached in i steps. -/
def wm (l : List (List Int)) (i : Nat) : List (List Int) := ofFn (2 * l.length) (fun p q => if rch l i p q = true then 1 else 0)

theorem wm_zero (l : List (List Int)) : dgM (2 * l.length) (2 * l.length) = wm l 0 := by
 refine ofFn_congr (fun p q hp hq => ?_)
 show (if p = q ∧ p < 2 * l.length then (1 : Int) else 0) = if (p == q) = true then 1 else 0
 by_cases c : p = q
 ·rw [if_pos ⟨c, hp⟩, if_pos (by simpa using c)]
 ·rw [if_neg (fun z => c z.1), if_neg (by simpa using c)]

section
variable {n : Int} {l : List (List Int)} (h : isGraph n l = true)
include h

theorem wm_next (i : Nat) : ofFn (2 * l.length) (fun p q => mn1 (part (wm l i) (ofFn (2 * l.length) (W l)) (2 * l.length) p q)) = wm l (i + 1) := by
 obtain ⟨g1, g2, g3⟩ := graph_small h
 refine ofFn_congr (fun p q hp hq => ?_)
 have e : Sm (2 * l.length) (fun m => mat (wm l i) p m * mat (ofFn (2 * l.length) (W l)) m q) = Sm (2 * l.length) (fun m => (if rch l i p m = true then 1 else 0) * W l m q) := Sm_congr (fun m hm => by
  unfold wm
  rw [ofFn_mat _ hp hm, ofFn_mat _ hm hq])
 have hpos : ∀ m, m < 2 * l.length → 0 ≤ (if rch l i p m = true then (1 : Int) else 0) * W l m q := fun m _ => Int.mul_nonneg (by split <;> decide) (W_range l m q).1
 have h0 := Sm_nonneg (n := 2 * l.length) hpos
 have h1 : Sm (2 * l.length) (fun m => (if rch l i p m = true then (1 : Int) else 0) * W l m q) ≤ (2 * l.length : Nat) * 1 := Sm_le (fun m _ => by
  have := W_range l m q
  split <;> omega)
 unfold part
 rw [e, wrap_id (by omega) (by omega)]
 by_cases c : rch l (i + 1) p q = true
 ·rw [if_pos c]
  obtain ⟨r, hr, h2, h3⟩ := (rch_back l i p q hp hq).1 c
  have h4 := Sm_one hpos hr
  have h5 : (if rch l i p r = true then (1 : Int) else 0) * W l r q = 1 := by
   unfold W
   rw [if_pos h2, if_pos h3]
   rfl
  simp only [h5] at h4
  unfold mn1
  split <;> omega
 ·rw [if_neg c]
  have hz : Sm (2 * l.length) (fun m => (if rch l i p m = true then (1 : Int) else 0) * W l m q) = 0 := by
   refine (Sm_congr (g := fun _ => 0) (fun m hm => ?_)).trans (Sm_zero _)
   by_cases c2 : rch l i p m = true
   ·by_cases c3 : next l m q = true
    ·exact absurd ((rch_back l i p q hp hq).2 ⟨m, hm, c2, c3⟩) c
    ·unfold W
     rw [if_neg c3, Int.mul_zero]
   ·rw [if_neg c2, Int.zero_mul]
  rw [hz]
  decide

theorem lwM (K : Nat) (hK : K ≤ 12) : ∀ (d i : Nat), i + d = K → Ev (fun f => impl_Graph_closedWalks.lw f (ofFn (2 * l.length) (W l)) (K : Int) (d + 1) (i : Int) ((List.range (i + 1)).map (wm l))) ((List.range (K + 1)).map (wm l)) := by
 obtain ⟨g1, g2, g3⟩ := graph_small h
 intro d
 induction d with
 | zero =>
  intro i hi
  obtain rfl : i = K := by omega
  unfold impl_Graph_closedWalks.lw
  exact Ev.neg (by omega) (Ev.now _)
 | succ d ih =>
  intro i hi
  have h1 := ih (i + 1) (by omega)
  have hget : ((List.range (i + 1)).map (wm l)).getD (i : Int).toNat [] = wm l i := by
   rw [Int.toNat_natCast, List.getD_eq_getElem?_getD, List.getElem?_map, List.getElem?_range (by omega)]
   rfl
  have h2 := rowsTimes (2 * l.length) (by omega) (wm l i) (ofFn (2 * l.length) (W l)) (Sq_ofFn _ _) (Sq_ofFn _ _)
  have h3 : impl_Graph_closedWalks.lr ((2 * l.length : Nat) : Int) (2 * l.length + 1) 0 _ = _ := lrM (2 * l.length) (by omega) (part (wm l i) (ofFn (2 * l.length) (W l)) (2 * l.length)) (2 * l.length) 0 (by omega)
  rw [← cutM_zero, wm_next h i] at h3
  have hll : ((List.range (i + 1)).map (wm l)).length = i + 1 := by simp
  rw [show (List.range (i + 1 + 1)).map (wm l) = (List.range (i + 1)).map (wm l) ++ [wm l (i + 1)] from map_range_succ _ _] at h1
  unfold impl_Graph_closedWalks.lw
  rw [hget, wrap_succ (i := i) (by omega)]
  refine Ev.pos (by omega) (Ev.pos (by omega) (Ev.bind h2 ?_))
  rw [ofFn_length, h3]
  exact Ev.bind (Ev.now _) (Ev.pos (by omega) h1)

omit h in
theorem canM (K i e f : Nat) (hi : i ≤ K) (he : e < 2 * l.length) (hf : f < 2 * l.length) : impl_Graph_closedWalks.can ((List.range (K + 1)).map (wm l)) (i : Int) (e : Int) (f : Int) = some (rch l i e f) := by
 have hget : ((List.range (K + 1)).map (wm l)).getD (i : Int).toNat [] = wm l i := by
  rw [Int.toNat_natCast, List.getD_eq_getElem?_getD, List.getElem?_map, List.getElem?_range (by omega)]
  rfl
 have hrow : rd_L1 (wm l i) (e : Int) = rowOf (2 * l.length) (fun q => if rch l i e q = true then 1 else 0) := ofFn_row _ he
 have hv : rd (rowOf (2 * l.length) (fun q => if rch l i e q = true then 1 else 0)) (f : Int) = if rch l i e f = true then 1 else 0 := rowOf_rd _ hf
 have hl1 : (wm l i).length = 2 * l.length := ofFn_length _ _
 have hl2 := rowOf_length (2 * l.length) (fun q => if rch l i e q = true then (1 : Int) else 0)
 unfold impl_Graph_closedWalks.can
 rw [hget, hrow, hv, if_pos ⟨⟨by omega, by simp; omega⟩, ⟨by omega, by omega⟩, by omega, by omega⟩]
 congr 1
 by_cases c : rch l i e f = true
 ·rw [if_pos c, c]
  rfl
 ·rw [if_neg c]
  simpa using c

/-- A walk on the way: its first edge is one, too. -/
def goodC (l : List (List Int)) (ws : List Int) : Prop := good l ws.length ws ∧ ∃ a, a < 2 * l.length ∧ rd ws 0 = ((a : Nat) : Int)

theorem lpC (K : Nat) (d0 : Nat) (F : List Int → List (List Int) → Option (List (List Int))) (G : Nat → List (List Int)) (ws : List Int) (hw : ws.length = 0 ∨ goodC l ws) (hwK : ws.length + (d0 + 1) = K) (hK : K ≤ 12) (hF : ∀ q, q < 2 * l.length → ∀ xs, xs.length + (G q).length ≤ 400 → F (ws ++ [(q : Int)]) xs = some (xs ++ G q)) :
  ∀ (d q : Nat) (xs : List (List Int)), q + d = 2 * l.length → xs.length + (((List.range' q d).filter (selC l d0 ws)).flatMap G).length ≤ 400 →
   impl_Graph_closedWalks.lp n l ((List.range (K + 1)).map (wm l)) (K : Int) F ws (2 * (l.length : Int)) (d + 1) (q : Int) xs = some (xs ++ ((List.range' q d).filter (selC l d0 ws)).flatMap G) := by
 obtain ⟨g1, g2, g3⟩ := graph_small h
 intro d
 induction d with
 | zero =>
  intro q xs hq hb
  unfold impl_Graph_closedWalks.lp
  rw [if_neg (by omega)]
  simp
 | succ d ih =>
  intro q xs hq hb
  have hql : q < 2 * l.length := by omega
  have hi : wrap64 ((K : Int) - (ws.length : Int)) = ((d0 + 1 : Nat) : Int) := by rw [wrap_id (by omega) (by omega)]; omega
  have hs : ((if (ws.length : Int) = 0 then some true else impl_Graph_follows.f n l (rd ws (wrap64 ((ws.length : Int) - 1))) (q : Int)).bind fun b =>
    if b = true then impl_Graph_closedWalks.can ((List.range (K + 1)).map (wm l)) (wrap64 ((K : Int) - (ws.length : Int))) (q : Int) (impl_Graph_closedWalks.first ws (q : Int)) else some false) = some (selC l d0 ws q) := by
   rw [hi]
   unfold selC impl_Graph_closedWalks.first
   by_cases c : ws.length = 0
   ·rw [if_pos (by omega), if_pos c, if_pos c, if_neg (by omega), Option.bind_some, if_pos rfl, canM K (d0 + 1) q q (by omega) hql hql, Bool.true_and]
   ·obtain ⟨hg, a, ha, hfa⟩ := hw.resolve_left c
    rw [if_neg (by omega), if_neg c, if_neg c, if_pos (by omega), wrap_id (x := (ws.length : Int) - 1) (by omega) (by omega), show (ws.length : Int) - 1 = ((ws.length - 1 : Nat) : Int) by omega, hg.2.2, implFollows h hg.2.1 hql, Option.bind_some, hfa, canM K (d0 + 1) q a (by omega) hql ha, Int.toNat_natCast]
    by_cases c2 : next l (lastE ws) q = true
    ·rw [if_pos c2, c2, Bool.true_and]
    ·have c3 : next l (lastE ws) q = false := by simpa using c2
     rw [if_neg c2, c3, Bool.false_and]
  have hs2 : ∀ {α : Type} (R : Bool → Option α), ((if (ws.length : Int) = 0 then some true else impl_Graph_follows.f n l (rd ws (wrap64 ((ws.length : Int) - 1))) (q : Int)).bind fun b =>
    (if b = true then impl_Graph_closedWalks.can ((List.range (K + 1)).map (wm l)) (wrap64 ((K : Int) - (ws.length : Int))) (q : Int) (impl_Graph_closedWalks.first ws (q : Int)) else some false).bind R) = R (selC l d0 ws q) := by
   intro α R
   rw [← Option.bind_assoc, hs, Option.bind_some]
  unfold impl_Graph_closedWalks.lp
  rw [if_pos (by omega), hs2, wrap_succ (i := q) (by omega)]
  rw [List.range'_succ] at hb ⊢
  by_cases c : selC l d0 ws q = true
  ·rw [List.filter_cons_of_pos c, List.flatMap_cons, List.length_append] at hb
   rw [List.filter_cons_of_pos c, List.flatMap_cons, if_pos c, if_pos (by omega), hF q hql xs (by omega), Option.bind_some, ih (q + 1) _ (by omega) (by rw [List.length_append]; omega), List.append_assoc]
  ·rw [List.filter_cons_of_neg c] at hb ⊢
   rw [if_neg c, ih (q + 1) _ (by omega) hb]

theorem goC (K : Nat) (hK : K ≤ 12) : ∀ (d : Nat) (ws : List Int) (xs : List (List Int)), (ws.length = 0 ∨ goodC l ws) → ws.length + d = K → xs.length + (cwk l d ws).length ≤ 400 →
  impl_Graph_closedWalks.go n l ((List.range (K + 1)).map (wm l)) (K : Int) d ws xs = some (xs ++ cwk l d ws) := by
 obtain ⟨g1, g2, g3⟩ := graph_small h
 intro d
 induction d with
 | zero =>
  intro ws xs hw hl hb
  have hc : slices_Clone_int64_int64.f ws = some ws := by
   unfold slices_Clone_int64_int64.f
   simp
   omega
  show (slices_Clone_int64_int64.f ws).bind _ = _
  rw [hc, Option.bind_some, if_pos (by omega)]
  rfl
 | succ d ih =>
  intro ws xs hw hl hb
  show (impl_Graph_size.f n l).bind _ = _
  unfold impl_Graph_size.f
  rw [Option.bind_some, wrap_id (x := 2 * (l.length : Int)) (by omega) (by omega), show (2 * (l.length : Int)).toNat = 2 * l.length by omega]
  have e : cwk l (d + 1) ws = ((List.range' 0 (2 * l.length)).filter (selC l d ws)).flatMap (fun q : Nat => cwk l d (ws ++ [(q : Int)])) := by
   rw [← List.range_eq_range']
   rfl
  rw [e] at hb ⊢
  refine lpC h K d _ (fun q : Nat => cwk l d (ws ++ [(q : Int)])) ws hw hl hK (fun q hq xs hx => ih _ _ (.inr ⟨?_, ?_⟩) (by rw [List.length_append, List.length_singleton]; omega) hx) (2 * l.length) 0 xs (by omega) hb
  ·have := good_snoc l (ws := ws) rfl hq
   rw [List.length_append]
   exact this
  ·rcases hw with hw | ⟨_, a, ha, hfa⟩
   ·have : ws = [] := List.eq_nil_of_length_eq_zero hw
    subst this
    refine ⟨q, hq, ?_⟩
    have : rd [(q : Int)] ((0 : Nat) : Int) = (q : Int) := by rw [rd_lt (by simp)]; rfl
    exact this
   ·by_cases c : ws.length = 0
    ·have : ws = [] := List.eq_nil_of_length_eq_zero c
     subst this
     refine ⟨q, hq, ?_⟩
     have : rd [(q : Int)] ((0 : Nat) : Int) = (q : Int) := by rw [rd_lt (by simp)]; rfl
     exact this
    ·exact ⟨a, ha, by rw [rd_first ws _ (by omega), hfa]⟩

theorem implAll (k : Nat) (hk : 1 ≤ k ∧ k ≤ 12) (hcn : Ev (fun f => impl_Graph_closedNumber.f f n l (k : Int)) (closedN l (k - 1))) : Ev (fun f => impl_Graph_closedWalks.f f n l (k : Int)) (if closedN l (k - 1) > 400 then ([], false) else (clAll l k, true)) := by
 obtain ⟨g1, g2, g3⟩ := graph_small h
 unfold impl_Graph_closedWalks.f
 by_cases c : closedN l (k - 1) > 400
 ·rw [if_pos c]
  exact Ev.bind hcn (Ev.pos c (Ev.now _))
 ·rw [if_neg c]
  have h2 := implSquare (2 * (l.length : Int)) (by omega) (by omega)
  rw [show (2 * (l.length : Int)).toNat = 2 * l.length by omega, dgM_zero] at h2
  have hE := implEdgeM h
  rw [edgeM_ofFn] at hE
  have h3 := l0M (2 * l.length) (by omega) (2 * l.length) 0 (by omega)
  rw [wm_zero] at h3
  have h4 : Ev (fun f => impl_Graph_closedWalks.lw f (ofFn (2 * l.length) (W l)) (k : Int) (k + 1) 0 [wm l 0]) ((List.range (k + 1)).map (wm l)) := lwM h k hk.2 k 0 (by omega)
  have h5 := goC h k hk.2 k [] [] (.inl rfl) (by simp) (by
   rw [cwk_all l k hk.1]
   have := clAll_len l g3 k hk.1
   show 0 + _ ≤ 400
   omega)
  rw [cwk_all l k hk.1] at h5
  refine Ev.bind hcn (Ev.neg c ?_)
  unfold impl_Graph_size.f
  refine Ev.bind (Ev.now _) ?_
  rw [wrap_id (x := 2 * (l.length : Int)) (by omega) (by omega)]
  refine Ev.bind h2 (Ev.bind hE ?_)
  rw [dgM_length]
  have h3' : impl_Graph_closedWalks.l0 ((2 * l.length : Nat) : Int) (2 * l.length + 1) 0 (dgM (2 * l.length) 0) = some (wm l 0) := h3
  rw [h3', Int.toNat_natCast]
  refine Ev.bind (Ev.now _) (Ev.bind h4 (Ev.pos (by omega) ?_))
  rw [h5]
  exact Ev.bind (Ev.now _) (Ev.now _)

end
theorem implCN {n : Int} {l : List (List Int)} (h : isGraph n l = true) (k : Nat) (hk : 1 ≤ k ∧ k ≤ 12) : Ev (fun f => impl_Graph_closedNumber.f f n l (k : Int)) (closedN l (k - 1)) := by
 obtain ⟨g1, g2, g3⟩ := graph_small h
 have ht := implTraces g3 k hk.2
 have hl := traces_length l k
 have e : rd (traces l k) ((k - 1 : Nat) : Int) = closedN l (k - 1) := rd_map_range _ (by omega)
 unfold impl_Graph_closedNumber.f
 rw [wrap_id (x := (k : Int) - 1) (by omega) (by omega), show (k : Int) - 1 = ((k - 1 : Nat) : Int) by omega]
 repeat (first | with_reducible exact Ev.now _ | dsimp only | with_reducible refine Ev.bind (implEdgeM h) ?_ | with_reducible refine Ev.bind (ht) ?_ | refine Ev.pos (by first | omega | rfl | assumption | decide) ?_ | refine Ev.neg (by first | omega | assumption | exact Bool.false_ne_true | exact fun e => absurd e (by decide)) ?_ | simp only [bne_self_eq_false, Bool.not_true, Bool.not_false, List.length_cons, List.length_nil] | rw [wrap_id (by omega) (by omega)] | with_reducible exact (implEdgeM h) | with_reducible exact (ht) | ((with_reducible refine Ev.eq (congrArg some ?_)); rfl))
 exact Ev.eq (congrArg some e)

theorem implCodeC (n : Int) (l : List (List Int)) (a : Int) (hl : Mod l) : Ev (fun k => impl_graphCode_at_ClosedWalks_1.f k n l a) (codeL n l a 1) := by
 have h1 := implIsGraph n l hl
 unfold impl_graphCode_at_ClosedWalks_1.f impl_ClosedWalks_1.f codeL
 rw [implIsLength]
 by_cases hg : isGraph n l = true
 ·rw [hg] at h1
  rw [if_pos hg]
  by_cases c : 1 ≤ a ∧ a ≤ 12
  ·rw [decide_eq_true c, if_pos c]
   exact Ev.bind h1 (Ev.pos rfl (Ev.bind (Ev.bind (Ev.now _) (Ev.now _)) (Ev.pos rfl (Ev.now _))))
  ·rw [decide_eq_false c, if_neg c]
   exact Ev.bind h1 (Ev.pos rfl (Ev.bind (Ev.bind (Ev.now _) (Ev.now _)) (Ev.neg (by decide) (Ev.now _))))
 ·rw [Bool.not_eq_true] at hg
  rw [hg] at h1
  rw [if_neg (by rw [hg]; decide)]
  exact Ev.bind h1 (Ev.neg (by decide) (Ev.now _))

/-- The answer: the walks, and the code. -/
def cwR (l : List (List Int)) (k : Nat) : List (List Int) × Int := if closedN l (k - 1) > 400 then ([], 3) else (clAll l k, 0)

theorem clAll_good {l : List (List Int)} {k : Nat} (hk : 1 ≤ k) : ∀ x ∈ clAll l k, good l k x := by
 intro x hx
 unfold clAll at hx
 obtain ⟨a, ha, hx⟩ := List.mem_flatMap.1 hx
 rw [show clN l a (k - 1) (cl0 l k a) = clT l k a (k - 1) from clT_clN l k a (k - 1) 0 (by omega)] at hx
 have := good_clT l k a (List.mem_range.1 ha) (k - 1) x hx
 rw [show k - 1 + 1 = k by omega] at this
 exact this

theorem implCW {n : Int} {l : List (List Int)} (h : isGraph n l = true) (k : Nat) (hk : 1 ≤ k ∧ k ≤ 12) (hl : Mod l) : Ev (fun f => impl_ClosedWalks.f f n l (k : Int)) (cwR l k) := by
 have h1 := implCodeC n l k hl
 have e : codeL n l k 1 = 0 := by
  unfold codeL
  rw [if_pos h, if_pos ⟨by omega, by omega⟩]
 rw [e] at h1
 have h2 := implAll h k hk (implCN h k hk)
 unfold impl_ClosedWalks.f cwR
 by_cases c : closedN l (k - 1) > 400
 ·rw [if_pos c] at h2 ⊢
  exact Ev.bind h1 (Ev.pos rfl (Ev.bind h2 (Ev.neg (by decide) (Ev.now _))))
 ·rw [if_neg c] at h2 ⊢
  exact Ev.bind h1 (Ev.pos rfl (Ev.bind h2 (Ev.pos rfl (Ev.now _))))

theorem bf_trans : ∀ (a b c : List Int), bf a b = true → bf b c = true → bf a c = true
 | x :: xs, y :: ys, z :: zs => by
  unfold bf
  intro h1 h2
  by_cases c1 : x = y
  ·subst c1
   rw [if_pos rfl] at h1
   by_cases c2 : x = z
   ·subst c2
    rw [if_pos rfl] at h2
    rw [if_pos rfl]
    exact bf_trans xs ys zs h1 h2
   ·rw [if_neg c2] at h2
    rw [if_neg c2]
    exact h2
  ·rw [if_neg c1] at h1
   have h1 := of_decide_eq_true h1
   by_cases c2 : y = z
   ·subst c2
    rw [if_neg c1]
    exact decide_eq_true h1
   ·rw [if_neg c2] at h2
    have h2 := of_decide_eq_true h2
    rw [if_neg (by omega)]
    exact decide_eq_true (by omega)
 | [], _, _ => by intro h1; simp [bf] at h1
 | _ :: _, [], _ => by intro h1; simp [bf] at h1
 | _ :: _, _ :: _, [] => by intro _ h2; simp [bf] at h2

theorem least_le (w : List Int) : ∀ (d k : Nat) (b : List Int), bf w b = false → bf w (least w d k b) = false
 | 0, _, _, h => h
 | d + 1, k, b, h => by
  unfold least
  by_cases c : bf (turn w k) b = true
  ·rw [if_pos c]
   refine least_le w d (k + 1) _ ?_
   cases e : bf w (turn w k) with
   | false => rfl
   | true =>
    have := bf_trans _ _ _ e c
    rw [this] at h
    cases h
  ·rw [if_neg c]
   exact least_le w d (k + 1) b h

theorem least_bf (w : List Int) : bf (leastT w) w = decide (leastT w ≠ w) := by
 have h1 := least_le w (w.length - 1) 1 w (bf_self w)
 have h2 := bf_or (leastT w) w (least_length w _ _ _ rfl)
 show bf (leastT w) w = _
 have h3 : bf w (leastT w) = false := h1
 rw [h3, Bool.or_false] at h2
 exact h2

theorem steps_all (l : List (List Int)) (w : List Int) : ∀ (d i : Nat), steps l w d i = true ↔ ∀ j, i ≤ j → j < i + d → next l (rd w ((j - 1 : Nat) : Int)).toNat (rd w (j : Int)).toNat = true
 | 0, i => by
  unfold steps
  simp
  intro j h1 h2
  omega
 | d + 1, i => by
  unfold steps
  rw [Bool.and_eq_true, steps_all l w d (i + 1)]
  constructor
  ·rintro ⟨h1, h2⟩ j hj hj2
   by_cases e : j = i
   ·subst e
    exact h1
   ·exact h2 j (by omega) (by omega)
  ·intro h
   exact ⟨h i (Nat.le_refl _) (by omega), fun j hj hj2 => h j (by omega) (by omega)⟩

theorem rd_left (ws : List Int) (q : Int) {j : Nat} (hj : j < ws.length) : rd (ws ++ [q]) (j : Int) = rd ws (j : Int) := by
 rw [rd_lt (by simp; omega), rd_lt hj, List.getElem_append_left hj]

theorem isWalk_snoc {l : List (List Int)} {ws : List Int} (h : isWalk l ws = true) (hl : ws.length < 12) {q : Nat} (hq : q < 2 * l.length) (hn : next l (lastE ws) q = true) : isWalk l (ws ++ [(q : Int)]) = true := by
 obtain ⟨h1, h12, hd, hs⟩ := walk_form h
 unfold isWalk
 rw [Bool.and_eq_true, Bool.and_eq_true, decide_eq_true_iff]
 refine ⟨by simp; omega, ?_, ?_⟩
 ·unfold dirs at hd ⊢
  rw [List.all_append, hd]
  simp
  omega
 ·rw [steps_all] at hs ⊢
  intro j hj hj2
  rw [List.length_append, List.length_singleton] at hj2
  by_cases e : j = ws.length
  ·subst e
   rw [rd_snoc, rd_left ws _ (show ws.length - 1 < ws.length by omega), Int.toNat_natCast]
   exact hn
  ·rw [rd_left ws _ (show j < ws.length by omega), rd_left ws _ (show j - 1 < ws.length by omega)]
   exact hs j hj (by omega)

theorem isWalk_one {l : List (List Int)} {a : Nat} (ha : a < 2 * l.length) : isWalk l [(a : Int)] = true := by
 unfold isWalk dirs
 simp [steps]
 omega

theorem isWalk_clT {l : List (List Int)} {k a : Nat} (hk : 1 ≤ k ∧ k ≤ 12) (ha : a < 2 * l.length) : ∀ t, t ≤ k - 1 → ∀ x ∈ clT l k a t, isWalk l x = true
 | 0, _ => by
  intro x hx
  unfold clT cl0 at hx
  split at hx
  ·simp only [List.mem_singleton] at hx
   subst hx
   exact isWalk_one ha
  ·simp at hx
 | t + 1, ht => by
  intro x hx
  have hx := (List.mem_filter.1 hx).1
  simp only [longer, List.mem_flatMap] at hx
  obtain ⟨ws, hw, hx⟩ := hx
  have h1 := isWalk_clT hk ha t (by omega) ws hw
  have hg := (good_clT l k a ha t ws hw).1
  simp only [ext1, List.mem_map, List.mem_filter, List.mem_range] at hx
  obtain ⟨q, ⟨hq, hn⟩, rfl⟩ := hx
  exact isWalk_snoc h1 (by omega) hq hn

theorem isWalk_clAll {l : List (List Int)} {k : Nat} (hk : 1 ≤ k ∧ k ≤ 12) : ∀ x ∈ clAll l k, isWalk l x = true := by
 intro x hx
 unfold clAll at hx
 obtain ⟨a, ha, hx⟩ := List.mem_flatMap.1 hx
 rw [show clN l a (k - 1) (cl0 l k a) = clT l k a (k - 1) from clT_clN l k a (k - 1) 0 (by omega)] at hx
 exact isWalk_clT hk (List.mem_range.1 ha) (k - 1) (Nat.le_refl _) x hx

/-- A prime walk that is its cycle's least one. -/
def isPC (l : List (List Int)) (w : List Int) : Bool := (noturn w (w.length - 1) 1 && clo l w) && decide (w = leastT w)

section
variable {n : Int} {l : List (List Int)} (h : isGraph n l = true) (L : List (List Int)) (hL : ∀ w ∈ L, isWalk l w = true) (hll : L.length ≤ 400)
include h hL hll

theorem spPC : ∀ (d i : Nat) (acc : List (List Int)), i + d = L.length → acc.length ≤ i → Ev (fun f => spec_PrimeCycles.l0 f L acc (i : Int) n l) (acc ++ (L.drop i).filter (isPC l), 0) := by
 intro d
 induction d with
 | zero =>
  intro i acc hi ha
  refine Ev.succ ?_; simp only [spec_PrimeCycles.l0]
  rw [List.drop_eq_nil_of_le (by omega), List.filter_nil, List.append_nil]
  exact Ev.neg (by omega) (Ev.now _)
 | succ d ih =>
  intro i acc hi ha
  have hi' : i < L.length := by omega
  have hw := hL L[i] (List.getElem_mem hi')
  obtain ⟨w1, w12, _, _⟩ := walk_form hw
  have hrow : rd_L1 L (i : Int) = L[i] := by
   show L.getD (i : Int).toNat [] = L[i]
   rw [Int.toNat_natCast, List.getD_eq_getElem?_getD, List.getElem?_eq_getElem hi']
   rfl
  have hp := specPrime h hw
  have hle := specLeast L[i] (by omega) (by omega)
  have hbf := specBefore (leastT L[i]) L[i] (least_length _ _ _ _ rfl) (by rw [show (leastT L[i]).length = L[i].length from least_length _ _ _ _ rfl]; omega)
  rw [least_bf] at hbf
  rw [List.drop_eq_getElem_cons hi']
  refine Ev.succ ?_; simp only [spec_PrimeCycles.l0]
  rw [hrow, wrap_succ (i := i) (by omega)]
  refine Ev.pos (by omega) (Ev.pos (by omega) (Ev.bind hp ?_))
  cases c : (noturn L[i] (L[i].length - 1) 1 && clo l L[i]) with
  | false =>
   have e : isPC l L[i] = false := by unfold isPC; rw [c, Bool.false_and]
   rw [List.filter_cons_of_neg (by rw [e]; decide)]
   exact Ev.neg (by decide) (ih (i + 1) acc (by omega) (by omega))
  | true =>
   refine Ev.pos rfl (Ev.bind hle (Ev.bind hbf ?_))
   by_cases c2 : L[i] = leastT L[i]
   ·have e : isPC l L[i] = true := by unfold isPC; rw [c, Bool.true_and]; exact decide_eq_true c2
    have h1 := ih (i + 1) (acc ++ [L[i]]) (by omega) (by rw [List.length_append, List.length_singleton]; omega)
    rw [List.append_assoc] at h1
    have e2 : decide (leastT L[i] ≠ L[i]) = false := by simp [c2.symm]
    rw [List.filter_cons_of_pos e, e2]
    exact Ev.neg (by decide) (Ev.pos (by omega) h1)
   ·have e : isPC l L[i] = false := by unfold isPC; rw [c, Bool.true_and]; exact decide_eq_false c2
    have e2 : decide (leastT L[i] ≠ L[i]) = true := by simpa using fun z => c2 (Eq.symm z)
    rw [List.filter_cons_of_neg (by rw [e]; decide), e2]
    exact Ev.pos rfl (ih (i + 1) acc (by omega) (by omega))

theorem imPC : ∀ (d i : Nat) (acc : List (List Int)), i + d = L.length → acc.length ≤ i → Ev (fun f => impl_PrimeCycles.l0 f L acc (L.length : Int) (i : Int) n l) (acc ++ (L.drop i).filter (isPC l), 0) := by
 intro d
 induction d with
 | zero =>
  intro i acc hi ha
  refine Ev.succ ?_; simp only [impl_PrimeCycles.l0]
  rw [List.drop_eq_nil_of_le (by omega), List.filter_nil, List.append_nil]
  exact Ev.neg (by omega) (Ev.now _)
 | succ d ih =>
  intro i acc hi ha
  have hi' : i < L.length := by omega
  have hw := hL L[i] (List.getElem_mem hi')
  obtain ⟨w1, w12, _, _⟩ := walk_form hw
  have hrow : rd_L1 L (i : Int) = L[i] := by
   show L.getD (i : Int).toNat [] = L[i]
   rw [Int.toNat_natCast, List.getD_eq_getElem?_getD, List.getElem?_eq_getElem hi']
   rfl
  have hp := implPrime h hw
  have hle := implLeast L[i] (by omega) (by omega)
  have heq := libEqual2 L[i] (leastT L[i]) (by omega)
  rw [List.drop_eq_getElem_cons hi']
  refine Ev.succ ?_; simp only [impl_PrimeCycles.l0]
  rw [hrow, wrap_succ (i := i) (by omega)]
  refine Ev.pos (by omega) (Ev.pos (by omega) (Ev.pos (by omega) (Ev.bind hp ?_)))
  cases c : (noturn L[i] (L[i].length - 1) 1 && clo l L[i]) with
  | false =>
   have e : isPC l L[i] = false := by unfold isPC; rw [c, Bool.false_and]
   rw [List.filter_cons_of_neg (by rw [e]; decide)]
   exact Ev.neg (by decide) (ih (i + 1) acc (by omega) (by omega))
  | true =>
   refine Ev.pos rfl (Ev.bind hle (Ev.bind heq ?_))
   by_cases c2 : L[i] = leastT L[i]
   ·have e : isPC l L[i] = true := by unfold isPC; rw [c, Bool.true_and]; exact decide_eq_true c2
    have h1 := ih (i + 1) (acc ++ [L[i]]) (by omega) (by rw [List.length_append, List.length_singleton]; omega)
    rw [List.append_assoc] at h1
    rw [List.filter_cons_of_pos e]
    exact Ev.pos (decide_eq_true c2) (Ev.pos (by omega) h1)
   ·have e : isPC l L[i] = false := by unfold isPC; rw [c, Bool.true_and]; exact decide_eq_false c2
    rw [List.filter_cons_of_neg (by rw [e]; decide)]
    exact Ev.neg (by simpa using c2) (ih (i + 1) acc (by omega) (by omega))

end

theorem pc_same (n : Int) (l : List (List Int)) (a : Int) (hl : Mod l) : ∃ r : List (List Int) × Int, Mod r.1 ∧ Ev (fun k => spec_PrimeCycles.f k n l a) r ∧ Ev (fun k => impl_PrimeCycles.f k n l a) r := by
 have hnil : Mod ([] : List (List Int)) := ⟨by simp, fun r hr => absurd hr (by simp)⟩
 unfold spec_PrimeCycles.f impl_PrimeCycles.f
 by_cases c : codeL n l a 1 = 0
 ·obtain ⟨hg, ha, hb⟩ := codeL_zero c
  obtain ⟨g1, g2, g3⟩ := graph_small hg
  obtain ⟨k, rfl⟩ := Int.eq_ofNat_of_zero_le (show 0 ≤ a by omega)
  have hk : 1 ≤ k ∧ k ≤ 12 := by omega
  have h1 := specLength n l k 1 hl
  rw [c] at h1
  have h2 := specAll hg k hk
  have h3 := implCW hg k hk hl
  unfold clR at h2
  unfold cwR at h3
  by_cases c2 : closedN l (k - 1) > 400
  ·rw [if_pos c2] at h2 h3
   exact ⟨([], 3), hnil, Ev.bind h1 (Ev.pos rfl (Ev.bind h2 (Ev.neg (by decide) (Ev.now _)))), Ev.bind h3 (Ev.neg (by decide) (Ev.now _))⟩
  ·rw [if_neg c2] at h2 h3
   have hlen : (clAll l k).length ≤ 400 := by
    have := clAll_len l g3 k hk.1
    omega
   have hW := isWalk_clAll (l := l) hk
   have h4 := spPC hg (clAll l k) hW hlen (clAll l k).length 0 [] (by omega) (by simp)
   have h5 := imPC hg (clAll l k) hW hlen (clAll l k).length 0 [] (by omega) (by simp)
   refine ⟨((clAll l k).filter (isPC l), 0), ⟨?_, fun r hr => ?_⟩, Ev.bind h1 (Ev.pos rfl (Ev.bind h2 (Ev.pos rfl h4))), Ev.bind h3 (Ev.pos rfl h5)⟩
   ·have := List.length_filter_le (isPC l) (clAll l k)
    show ((clAll l k).filter (isPC l)).length ≤ _
    omega
   ·have := (clAll_good hk.1 r (List.mem_filter.1 hr).1).1
    omega
 ·have h1 := specLength n l a 1 hl
  have h2 := implCodeC n l a hl
  unfold impl_ClosedWalks.f
  refine ⟨([], codeL n l a 1), hnil, Ev.bind h1 (Ev.neg c (Ev.now _)), Ev.bind (Ev.bind h2 (Ev.neg c (Ev.now _))) (Ev.neg c (Ev.now _))⟩

theorem FnExactPrimeCycles : laws_FnExactPrimeCycles.Pure := by
 intro n l a _ hl hr _
 refine Ev.rounds ?_
 unfold laws_FnExactPrimeCycles.f
 refine Ev.ex (szGraph n l hl hr) (fun t ht => ?_)
 rcases ht with ht | ht
 ·repeat (first | with_reducible exact Ev.now _ | dsimp only | refine Ev.pos (by first | omega | rfl | assumption | decide) ?_ | refine Ev.neg (by first | omega | assumption | exact Bool.false_ne_true | exact fun e => absurd e (by decide)) ?_ | simp only [bne_self_eq_false, Bool.not_true, Bool.not_false, List.length_cons, List.length_nil] | rw [wrap_id (by omega) (by omega)] | ((with_reducible refine Ev.eq (congrArg some ?_)); rfl))
 by_cases h0 : t < 0
 ·repeat (first | with_reducible exact Ev.now _ | dsimp only | refine Ev.pos (by first | omega | rfl | assumption | decide) ?_ | refine Ev.neg (by first | omega | assumption | exact Bool.false_ne_true | exact fun e => absurd e (by decide)) ?_ | simp only [bne_self_eq_false, Bool.not_true, Bool.not_false, List.length_cons, List.length_nil] | rw [wrap_id (by omega) (by omega)] | ((with_reducible refine Ev.eq (congrArg some ?_)); rfl))
 obtain ⟨r, hr, hs, hi⟩ := pc_same n l a ht
 obtain ⟨q, hq, hq0, hq1⟩ := markGraph n l ht
 repeat (first | with_reducible exact Ev.now _ | dsimp only | with_reducible refine Ev.bind (toGraph n l ht) ?_ | with_reducible refine Ev.bind (hs) ?_ | with_reducible refine Ev.bind (hi) ?_ | with_reducible refine Ev.bind (eqInt64SS_self r.1 hr) ?_ | with_reducible refine Ev.bind (eqGraph_self n l ht) ?_ | with_reducible refine Ev.bind (hq) ?_ | with_reducible refine Ev.bind (markRows r.1 hr) ?_ | with_reducible refine Ev.bind (heldRows r.1 hr) ?_ | refine Ev.pos (by first | omega | rfl | assumption | decide) ?_ | refine Ev.neg (by first | omega | assumption | exact Bool.false_ne_true | exact fun e => absurd e (by decide)) ?_ | simp only [bne_self_eq_false, Bool.not_true, Bool.not_false, List.length_cons, List.length_nil] | rw [wrap_id (by omega) (by omega)] | with_reducible exact (toGraph n l ht) | with_reducible exact (hs) | with_reducible exact (hi) | with_reducible exact (eqInt64SS_self r.1 hr) | with_reducible exact (eqGraph_self n l ht) | with_reducible exact (hq) | with_reducible exact (markRows r.1 hr) | with_reducible exact (heldRows r.1 hr) | ((with_reducible refine Ev.eq (congrArg some ?_)); rfl))
end Go.Proofs.Ytipigagbgpoecaa.Pure
