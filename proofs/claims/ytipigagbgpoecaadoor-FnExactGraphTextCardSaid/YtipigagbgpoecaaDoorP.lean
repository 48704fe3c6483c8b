/- The plain proofs for this law. -/
import Derived.Test.YtipigagbgpoecaaDoorC2
import Derived.Test.YtipigagbgpoecaaDoorAux
namespace Go.Proofs.YtipigagbgpoecaaDoor.Pure
open Go.RowKit Go.Proofs.YtipigagbgpoecaaDoor.G Go.Proofs.YtipigagbgpoecaaDoorW.PrintWords Go.Proofs.YtipigagbgpoecaaDoorW.PrintLast Go.Proofs.YtipigagbgpoecaaDoorW.PrintMore Go.Proofs.YtipigagbgpoecaaDoor.Aux
set_option linter.unusedVariables false
set_option linter.unusedSimpArgs false

theorem toInt64S_loop (l : List Int) (hl : l.length ≤ 1048576) : ∀ (d i : Nat) (ys : List Int), i + d = l.length → ys.length = l.length → ys.take i = l.take i →
  Ev (fun k => laws_toInt64S.l0 k l ys (i : Int)) l := by
 intro d
 induction d with
 | zero =>
  intro i ys hi hy ht
  refine Ev.succ ?_; simp only [laws_toInt64S.l0]
  repeat (first | with_reducible exact Ev.now _ | dsimp only | refine Ev.pos (by first | omega | rfl | assumption | decide) ?_ | refine Ev.neg (by first | omega | assumption | exact Bool.false_ne_true | exact fun e => absurd e (by decide)) ?_ | simp only [bne_self_eq_false, Bool.not_true, Bool.not_false, List.length_cons, List.length_nil] | rw [wrap_id (by omega) (by omega)] | ((with_reducible refine Ev.eq (congrArg some ?_)); rfl))
  exact Ev.eq (congrArg some (eq_of_take hy (by omega) ht))
 | succ d ih =>
  intro i ys hi hy ht
  refine Ev.succ ?_; simp only [laws_toInt64S.l0]
  rw [wrap_succ (by omega)]
  repeat (first | with_reducible exact Ev.now _ | dsimp only | refine Ev.pos (by first | omega | rfl | assumption | decide) ?_ | refine Ev.neg (by first | omega | assumption | exact Bool.false_ne_true | exact fun e => absurd e (by decide)) ?_ | simp only [bne_self_eq_false, Bool.not_true, Bool.not_false, List.length_cons, List.length_nil] | rw [wrap_id (by omega) (by omega)] | ((with_reducible refine Ev.eq (congrArg some ?_)); rfl))
  exact ih (i + 1) _ (by omega) (by simpa using hy) (take_set_succ hy (by omega) (rd_lt (by omega)) ht)

theorem toInt64S (l : List Int) (hl : l.length ≤ 1048576) : Ev (fun k => laws_toInt64S.f k l) l := by
 unfold laws_toInt64S.f
 repeat (first | with_reducible exact Ev.now _ | dsimp only | refine Ev.pos (by first | omega | rfl | assumption | decide) ?_ | refine Ev.neg (by first | omega | assumption | exact Bool.false_ne_true | exact fun e => absurd e (by decide)) ?_ | simp only [bne_self_eq_false, Bool.not_true, Bool.not_false, List.length_cons, List.length_nil] | rw [wrap_id (by omega) (by omega)] | ((with_reducible refine Ev.eq (congrArg some ?_)); rfl))
 exact toInt64S_loop l hl l.length 0 _ (by omega) (by simp) (by simp)

theorem eqInt64S_loop (a b : List Int) (hl : a.length ≤ 1048576) (hab : a.length = b.length) : ∀ (d i : Nat), i + d = a.length →
  Ev (fun k => laws_eqInt64S.l0 k a b (i : Int)) (decide (a.drop i = b.drop i)) := by
 intro d
 induction d with
 | zero =>
  intro i hi
  refine Ev.succ ?_; simp only [laws_eqInt64S.l0]
  rw [List.drop_eq_nil_of_le (by omega), List.drop_eq_nil_of_le (by omega)]
  repeat (first | with_reducible exact Ev.now _ | dsimp only | refine Ev.pos (by first | omega | rfl | assumption | decide) ?_ | refine Ev.neg (by first | omega | assumption | exact Bool.false_ne_true | exact fun e => absurd e (by decide)) ?_ | simp only [bne_self_eq_false, Bool.not_true, Bool.not_false, List.length_cons, List.length_nil] | rw [wrap_id (by omega) (by omega)] | ((with_reducible refine Ev.eq (congrArg some ?_)); rfl))
 | succ d ih =>
  intro i hi
  refine Ev.succ ?_; simp only [laws_eqInt64S.l0]
  rw [List.drop_eq_getElem_cons (by omega : i < a.length), List.drop_eq_getElem_cons (by omega : i < b.length), wrap_succ (by omega)]
  by_cases e : rd a i = rd b i
  ·repeat (first | with_reducible exact Ev.now _ | dsimp only | refine Ev.pos (by first | omega | rfl | assumption | decide) ?_ | refine Ev.neg (by first | omega | assumption | exact Bool.false_ne_true | exact fun e => absurd e (by decide)) ?_ | simp only [bne_self_eq_false, Bool.not_true, Bool.not_false, List.length_cons, List.length_nil] | rw [wrap_id (by omega) (by omega)] | ((with_reducible refine Ev.eq (congrArg some ?_)); rfl))
   have := ih (i + 1) (by omega)
   rw [rd_lt (by omega), rd_lt (by omega)] at e
   rw [e, decide_cons]
   exact this
  ·rw [decide_eq_false (fun h => e (by rw [rd_lt (by omega), rd_lt (by omega)]; exact (List.cons.inj h).1))]
   repeat (first | with_reducible exact Ev.now _ | dsimp only | refine Ev.pos (by first | omega | rfl | assumption | decide) ?_ | refine Ev.neg (by first | omega | assumption | exact Bool.false_ne_true | exact fun e => absurd e (by decide)) ?_ | simp only [bne_self_eq_false, Bool.not_true, Bool.not_false, List.length_cons, List.length_nil] | rw [wrap_id (by omega) (by omega)] | ((with_reducible refine Ev.eq (congrArg some ?_)); rfl))

theorem eqInt64S (a b : List Int) (hl : a.length ≤ 1048576) : Ev (fun k => laws_eqInt64S.f k a b) (decide (a = b)) := by
 unfold laws_eqInt64S.f
 by_cases h : a.length = b.length
 ·repeat (first | with_reducible exact Ev.now _ | dsimp only | refine Ev.pos (by first | omega | rfl | assumption | decide) ?_ | refine Ev.neg (by first | omega | assumption | exact Bool.false_ne_true | exact fun e => absurd e (by decide)) ?_ | simp only [bne_self_eq_false, Bool.not_true, Bool.not_false, List.length_cons, List.length_nil] | rw [wrap_id (by omega) (by omega)] | ((with_reducible refine Ev.eq (congrArg some ?_)); rfl))
  exact eqInt64S_loop a b hl h a.length 0 (by omega)
 ·rw [decide_eq_false (fun e => h (by rw [e]))]
  repeat (first | with_reducible exact Ev.now _ | dsimp only | refine Ev.pos (by first | omega | rfl | assumption | decide) ?_ | refine Ev.neg (by first | omega | assumption | exact Bool.false_ne_true | exact fun e => absurd e (by decide)) ?_ | simp only [bne_self_eq_false, Bool.not_true, Bool.not_false, List.length_cons, List.length_nil] | rw [wrap_id (by omega) (by omega)] | ((with_reducible refine Ev.eq (congrArg some ?_)); rfl))

theorem eqInt64S_self (a : List Int) (hl : a.length ≤ 1048576) : Ev (fun k => laws_eqInt64S.f k a a) true :=
 Ev.conv (eqInt64S a a hl) (by simp)
theorem rl_lt {xs : List (List Int)} {i : Nat} (h : i < xs.length) : rd_L1 xs (i : Int) = xs[i] := by
 simp [rd_L1, List.getD_eq_getElem?_getD, h]

/-- Rows of which each, and their number, is of a moderate size. -/
def Mod (l : List (List Int)) : Prop := l.length ≤ 1048576 ∧ ∀ r ∈ l, r.length ≤ 1048576

theorem Mod.row {l : List (List Int)} (h : Mod l) {i : Nat} (hi : i < l.length) : l[i].length ≤ 1048576 := h.2 _ (List.getElem_mem hi)

theorem szInt64S (l : List Int) (a : Int) (h0 : 0 ≤ a) (h1 : a ≤ 1048576) (hl : l.length ≤ 9223372036854775807) : ∃ t, laws_szInt64S.f l a = some t ∧ (t < 0 ∨ (l.length ≤ 1048576 ∧ 0 ≤ t ∧ t ≤ a)) := by
 unfold laws_szInt64S.f
 rw [wrap_id (by omega) (by omega)]
 by_cases h : a - (l.length : Int) < 0
 ·exact ⟨-1, if_pos h, Or.inl (by omega)⟩
 ·exact ⟨_, if_neg h, Or.inr (by omega)⟩

theorem szInt64SS_loop (l : List (List Int)) (hl : l.length ≤ 1048576) (hr : ∀ r ∈ l, r.length ≤ 9223372036854775807) : ∀ (d i : Nat) (a : Int), i + d = l.length → 0 ≤ a → a ≤ 1048576 → (∀ j, (h : j < l.length) → j < i → l[j].length ≤ 1048576) →
  ∃ t, Ev (fun k => laws_szInt64SS.l0 k l a (i : Int)) t ∧ (t < 0 ∨ (Mod l ∧ 0 ≤ t ∧ t ≤ 1048576)) := by
 intro d
 induction d with
 | zero =>
  intro i a hi h0 h1 hm
  refine ⟨a, ?_, Or.inr ⟨⟨hl, fun r h => ?_⟩, h0, h1⟩⟩
  ·refine Ev.succ ?_; simp only [laws_szInt64SS.l0]
   repeat (first | with_reducible exact Ev.now _ | dsimp only | refine Ev.pos (by first | omega | rfl | assumption | decide) ?_ | refine Ev.neg (by first | omega | assumption | exact Bool.false_ne_true | exact fun e => absurd e (by decide)) ?_ | simp only [bne_self_eq_false, Bool.not_true, Bool.not_false, List.length_cons, List.length_nil] | rw [wrap_id (by omega) (by omega)] | ((with_reducible refine Ev.eq (congrArg some ?_)); rfl))
  ·obtain ⟨j, hj, rfl⟩ := List.getElem_of_mem h
   exact hm j hj (by omega)
 | succ d ih =>
  intro i a hi h0 h1 hm
  obtain ⟨t, ht, hc⟩ := szInt64S (l[i]'(by omega)) a h0 h1 (hr _ (List.getElem_mem _))
  rw [← rl_lt (by omega)] at ht
  rcases hc with hc | ⟨hc, hc0, hc1⟩
  ·refine ⟨-1, ?_, Or.inl (by omega)⟩
   refine Ev.succ ?_; simp only [laws_szInt64SS.l0]
   repeat (first | with_reducible exact Ev.now _ | dsimp only | with_reducible refine Ev.bind (Ev.eq ht) ?_ | refine Ev.pos (by first | omega | rfl | assumption | decide) ?_ | refine Ev.neg (by first | omega | assumption | exact Bool.false_ne_true | exact fun e => absurd e (by decide)) ?_ | simp only [bne_self_eq_false, Bool.not_true, Bool.not_false, List.length_cons, List.length_nil] | rw [wrap_id (by omega) (by omega)] | with_reducible exact (Ev.eq ht) | ((with_reducible refine Ev.eq (congrArg some ?_)); rfl))
  ·obtain ⟨t', h1', h2'⟩ := ih (i + 1) t (by omega) hc0 (by omega) (fun j hj hji => by
    by_cases e : j = i
    ·subst e; exact hc
    ·exact hm j hj (by omega))
   refine ⟨t', ?_, h2'⟩
   refine Ev.succ ?_; simp only [laws_szInt64SS.l0]
   rw [wrap_succ (by omega)]
   repeat (first | with_reducible exact Ev.now _ | dsimp only | with_reducible refine Ev.bind (Ev.eq ht) ?_ | refine Ev.pos (by first | omega | rfl | assumption | decide) ?_ | refine Ev.neg (by first | omega | assumption | exact Bool.false_ne_true | exact fun e => absurd e (by decide)) ?_ | simp only [bne_self_eq_false, Bool.not_true, Bool.not_false, List.length_cons, List.length_nil] | rw [wrap_id (by omega) (by omega)] | with_reducible exact (Ev.eq ht) | ((with_reducible refine Ev.eq (congrArg some ?_)); rfl))
   exact h1'

theorem szInt64SS (l : List (List Int)) (a : Int) (h0 : 0 ≤ a) (h1 : a ≤ 1048576) (hl : l.length ≤ 9223372036854775807) (hr : ∀ r ∈ l, r.length ≤ 9223372036854775807) : ∃ t, Ev (fun k => laws_szInt64SS.f k l a) t ∧ (t < 0 ∨ (Mod l ∧ 0 ≤ t ∧ t ≤ 1048576)) := by
 unfold laws_szInt64SS.f
 rw [wrap_id (by omega) (by omega)]
 by_cases h : a - (l.length : Int) < 0
 ·refine ⟨-1, ?_, Or.inl (by omega)⟩
  repeat (first | with_reducible exact Ev.now _ | dsimp only | refine Ev.pos (by first | omega | rfl | assumption | decide) ?_ | refine Ev.neg (by first | omega | assumption | exact Bool.false_ne_true | exact fun e => absurd e (by decide)) ?_ | simp only [bne_self_eq_false, Bool.not_true, Bool.not_false, List.length_cons, List.length_nil] | rw [wrap_id (by omega) (by omega)] | ((with_reducible refine Ev.eq (congrArg some ?_)); rfl))
 ·obtain ⟨t, h1, h2⟩ := szInt64SS_loop l (by omega) hr l.length 0 (a - (l.length : Int)) (by omega) (by omega) (by omega) (fun j _ hj => by omega)
  refine ⟨t, ?_, h2⟩
  repeat (first | with_reducible exact Ev.now _ | dsimp only | refine Ev.pos (by first | omega | rfl | assumption | decide) ?_ | refine Ev.neg (by first | omega | assumption | exact Bool.false_ne_true | exact fun e => absurd e (by decide)) ?_ | simp only [bne_self_eq_false, Bool.not_true, Bool.not_false, List.length_cons, List.length_nil] | rw [wrap_id (by omega) (by omega)] | ((with_reducible refine Ev.eq (congrArg some ?_)); rfl))
  exact h1

theorem szGraph (n : Int) (l : List (List Int)) (hl : l.length ≤ maxLen) (hr : ∀ r ∈ l, r.length ≤ maxLen ∧ ∀ y ∈ r, (Lit.int .i64 y).wf = true) : ∃ t, Ev (fun k => laws_szGraph.f k n l 1048576) t ∧ (t < 0 ∨ Mod l) := by
 obtain ⟨t, h1, h2⟩ := szInt64SS l 1048576 (by omega) (by omega) (by simp [maxLen] at hl; omega) (fun r h => by have := (hr r h).1; simp [maxLen] at this; omega)
 unfold laws_szGraph.f
 rcases h2 with h2 | ⟨h2, h3, h4⟩
 ·refine ⟨-1, ?_, Or.inl (by omega)⟩
  repeat (first | with_reducible exact Ev.now _ | dsimp only | with_reducible refine Ev.bind (h1) ?_ | refine Ev.pos (by first | omega | rfl | assumption | decide) ?_ | refine Ev.neg (by first | omega | assumption | exact Bool.false_ne_true | exact fun e => absurd e (by decide)) ?_ | simp only [bne_self_eq_false, Bool.not_true, Bool.not_false, List.length_cons, List.length_nil] | rw [wrap_id (by omega) (by omega)] | with_reducible exact (h1) | ((with_reducible refine Ev.eq (congrArg some ?_)); rfl))
 ·refine ⟨t, ?_, Or.inr h2⟩
  repeat (first | with_reducible exact Ev.now _ | dsimp only | with_reducible refine Ev.bind (h1) ?_ | refine Ev.pos (by first | omega | rfl | assumption | decide) ?_ | refine Ev.neg (by first | omega | assumption | exact Bool.false_ne_true | exact fun e => absurd e (by decide)) ?_ | simp only [bne_self_eq_false, Bool.not_true, Bool.not_false, List.length_cons, List.length_nil] | rw [wrap_id (by omega) (by omega)] | with_reducible exact (h1) | ((with_reducible refine Ev.eq (congrArg some ?_)); rfl))

theorem toInt64SS_loop (l : List (List Int)) (hl : Mod l) : ∀ (d i : Nat) (ys : List (List Int)), i + d = l.length → ys.length = l.length → ys.take i = l.take i →
  Ev (fun k => laws_toInt64SS.l0 k l ys (i : Int)) l := by
 have hl1 := hl.1
 intro d
 induction d with
 | zero =>
  intro i ys hi hy ht
  refine Ev.succ ?_; simp only [laws_toInt64SS.l0]
  repeat (first | with_reducible exact Ev.now _ | dsimp only | refine Ev.pos (by first | omega | rfl | assumption | decide) ?_ | refine Ev.neg (by first | omega | assumption | exact Bool.false_ne_true | exact fun e => absurd e (by decide)) ?_ | simp only [bne_self_eq_false, Bool.not_true, Bool.not_false, List.length_cons, List.length_nil] | rw [wrap_id (by omega) (by omega)] | ((with_reducible refine Ev.eq (congrArg some ?_)); rfl))
  exact Ev.eq (congrArg some (eq_of_take hy (by omega) ht))
 | succ d ih =>
  intro i ys hi hy ht
  refine Ev.succ ?_; simp only [laws_toInt64SS.l0]
  rw [wrap_succ (by omega), rl_lt (by omega)]
  repeat (first | with_reducible exact Ev.now _ | dsimp only | with_reducible refine Ev.bind (toInt64S _ (hl.row (by omega))) ?_ | refine Ev.pos (by first | omega | rfl | assumption | decide) ?_ | refine Ev.neg (by first | omega | assumption | exact Bool.false_ne_true | exact fun e => absurd e (by decide)) ?_ | simp only [bne_self_eq_false, Bool.not_true, Bool.not_false, List.length_cons, List.length_nil] | rw [wrap_id (by omega) (by omega)] | with_reducible exact (toInt64S _ (hl.row (by omega))) | ((with_reducible refine Ev.eq (congrArg some ?_)); rfl))
  exact ih (i + 1) _ (by omega) (by simpa using hy) (take_set_succ hy (by omega) rfl ht)

theorem toInt64SS (l : List (List Int)) (hl : Mod l) : Ev (fun k => laws_toInt64SS.f k l) l := by
 have hl1 := hl.1
 unfold laws_toInt64SS.f
 repeat (first | with_reducible exact Ev.now _ | dsimp only | refine Ev.pos (by first | omega | rfl | assumption | decide) ?_ | refine Ev.neg (by first | omega | assumption | exact Bool.false_ne_true | exact fun e => absurd e (by decide)) ?_ | simp only [bne_self_eq_false, Bool.not_true, Bool.not_false, List.length_cons, List.length_nil] | rw [wrap_id (by omega) (by omega)] | ((with_reducible refine Ev.eq (congrArg some ?_)); rfl))
 exact toInt64SS_loop l hl l.length 0 _ (by omega) (by simp) (by simp)

theorem toGraph (n : Int) (l : List (List Int)) (hl : Mod l) : Ev (fun k => laws_toGraph.f k n l) (n, l) := by
 unfold laws_toGraph.f
 repeat (first | with_reducible exact Ev.now _ | dsimp only | with_reducible refine Ev.bind (toInt64SS l hl) ?_ | refine Ev.pos (by first | omega | rfl | assumption | decide) ?_ | refine Ev.neg (by first | omega | assumption | exact Bool.false_ne_true | exact fun e => absurd e (by decide)) ?_ | simp only [bne_self_eq_false, Bool.not_true, Bool.not_false, List.length_cons, List.length_nil] | rw [wrap_id (by omega) (by omega)] | with_reducible exact (toInt64SS l hl) | ((with_reducible refine Ev.eq (congrArg some ?_)); rfl))

theorem eqInt64SS_self_loop (a : List (List Int)) (hl : Mod a) : ∀ (d i : Nat), i + d = a.length →
  Ev (fun k => laws_eqInt64SS.l0 k a a (i : Int)) true := by
 have hl1 := hl.1
 intro d
 induction d with
 | zero =>
  intro i hi
  refine Ev.succ ?_; simp only [laws_eqInt64SS.l0]
  repeat (first | with_reducible exact Ev.now _ | dsimp only | refine Ev.pos (by first | omega | rfl | assumption | decide) ?_ | refine Ev.neg (by first | omega | assumption | exact Bool.false_ne_true | exact fun e => absurd e (by decide)) ?_ | simp only [bne_self_eq_false, Bool.not_true, Bool.not_false, List.length_cons, List.length_nil] | rw [wrap_id (by omega) (by omega)] | ((with_reducible refine Ev.eq (congrArg some ?_)); rfl))
 | succ d ih =>
  intro i hi
  refine Ev.succ ?_; simp only [laws_eqInt64SS.l0]
  rw [rl_lt (by omega), wrap_succ (by omega)]
  repeat (first | with_reducible exact Ev.now _ | dsimp only | with_reducible refine Ev.bind (eqInt64S_self _ (hl.row (by omega))) ?_ | refine Ev.pos (by first | omega | rfl | assumption | decide) ?_ | refine Ev.neg (by first | omega | assumption | exact Bool.false_ne_true | exact fun e => absurd e (by decide)) ?_ | simp only [bne_self_eq_false, Bool.not_true, Bool.not_false, List.length_cons, List.length_nil] | rw [wrap_id (by omega) (by omega)] | with_reducible exact (eqInt64S_self _ (hl.row (by omega))) | ((with_reducible refine Ev.eq (congrArg some ?_)); rfl))
  exact ih (i + 1) (by omega)

theorem eqInt64SS_self (a : List (List Int)) (hl : Mod a) : Ev (fun k => laws_eqInt64SS.f k a a) true := by
 unfold laws_eqInt64SS.f
 repeat (first | with_reducible exact Ev.now _ | dsimp only | refine Ev.pos (by first | omega | rfl | assumption | decide) ?_ | refine Ev.neg (by first | omega | assumption | exact Bool.false_ne_true | exact fun e => absurd e (by decide)) ?_ | simp only [bne_self_eq_false, Bool.not_true, Bool.not_false, List.length_cons, List.length_nil] | rw [wrap_id (by omega) (by omega)] | ((with_reducible refine Ev.eq (congrArg some ?_)); rfl))
 exact eqInt64SS_self_loop a hl a.length 0 (by omega)

theorem eqGraph_self (n : Int) (a : List (List Int)) (hl : Mod a) : Ev (fun k => laws_eqGraph.f k n a n a) true := by
 unfold laws_eqGraph.f
 repeat (first | with_reducible exact Ev.now _ | dsimp only | with_reducible refine Ev.bind (eqInt64SS_self a hl) ?_ | refine Ev.pos (by first | omega | rfl | assumption | decide) ?_ | refine Ev.neg (by first | omega | assumption | exact Bool.false_ne_true | exact fun e => absurd e (by decide)) ?_ | simp only [bne_self_eq_false, Bool.not_true, Bool.not_false, List.length_cons, List.length_nil] | rw [wrap_id (by omega) (by omega)] | with_reducible exact (eqInt64SS_self a hl) | ((with_reducible refine Ev.eq (congrArg some ?_)); rfl))
theorem specIn (a b c : Int) : spec_l01In.f a b c = some (decide (b ≤ a ∧ a ≤ c)) := by
 unfold spec_l01In.f
 by_cases h : b ≤ a
 ·rw [if_pos h]; simp [h]
 ·rw [if_neg h]; simp [h]

theorem implWithin (a b c : Int) : impl_within.f a b c = some (decide (b ≤ a ∧ a ≤ c)) := by
 unfold impl_within.f
 by_cases h : b ≤ a
 ·rw [if_pos h]; simp [h]
 ·rw [if_neg h]; simp [h]

/-- One edge's test. -/
def okEdge (n : Int) (e : List Int) : Bool := decide (e.length = 2) && (decide (0 ≤ rd e 0 ∧ rd e 0 ≤ wrap64 (n - 1)) && decide (0 ≤ rd e 1 ∧ rd e 1 ≤ wrap64 (n - 1)))

def isGraph (n : Int) (l : List (List Int)) : Bool := l.all (okEdge n) && (decide (1 ≤ n ∧ n ≤ 8) && decide ((l.length : Int) ≤ 10))

theorem specIs_loop (n : Int) (l : List (List Int)) (hl : Mod l) : ∀ (d i : Nat), i + d = l.length →
  Ev (fun k => spec_l01Is.l0 k (i : Int) n l) ((l.drop i).all (okEdge n)) := by
 have hl1 := hl.1
 intro d
 induction d with
 | zero =>
  intro i hi
  refine Ev.succ ?_; simp only [spec_l01Is.l0]
  rw [List.drop_eq_nil_of_le (by omega)]
  repeat (first | with_reducible exact Ev.now _ | dsimp only | refine Ev.pos (by first | omega | rfl | assumption | decide) ?_ | refine Ev.neg (by first | omega | assumption | exact Bool.false_ne_true | exact fun e => absurd e (by decide)) ?_ | simp only [bne_self_eq_false, Bool.not_true, Bool.not_false, List.length_cons, List.length_nil] | rw [wrap_id (by omega) (by omega)] | ((with_reducible refine Ev.eq (congrArg some ?_)); rfl))
 | succ d ih =>
  intro i hi
  refine Ev.succ ?_; simp only [spec_l01Is.l0]
  rw [List.drop_eq_getElem_cons (by omega : i < l.length), List.all_cons, rl_lt (by omega), wrap_succ (by omega)]
  generalize l[i] = e
  have := ih (i + 1) (by omega)
  unfold okEdge
  by_cases h2 : (e.length : Int) = 2
  ·rw [decide_eq_true (show e.length = 2 by omega), Bool.true_and]
   by_cases ha : 0 ≤ rd e 0 ∧ rd e 0 ≤ wrap64 (n - 1)
   ·by_cases hb : 0 ≤ rd e 1 ∧ rd e 1 ≤ wrap64 (n - 1)
    ·rw [decide_eq_true ha, decide_eq_true hb, Bool.true_and, Bool.true_and]
     repeat (first | with_reducible exact Ev.now _ | dsimp only | with_reducible refine Ev.bind (Ev.eq ((specIn _ _ _).trans (congrArg some (decide_eq_true ha)))) ?_ | with_reducible refine Ev.bind (Ev.eq ((specIn _ _ _).trans (congrArg some (decide_eq_true hb)))) ?_ | refine Ev.pos (by first | omega | rfl | assumption | decide) ?_ | refine Ev.neg (by first | omega | assumption | exact Bool.false_ne_true | exact fun e => absurd e (by decide)) ?_ | simp only [bne_self_eq_false, Bool.not_true, Bool.not_false, List.length_cons, List.length_nil] | rw [wrap_id (by omega) (by omega)] | with_reducible exact (Ev.eq ((specIn _ _ _).trans (congrArg some (decide_eq_true ha)))) | with_reducible exact (Ev.eq ((specIn _ _ _).trans (congrArg some (decide_eq_true hb)))) | ((with_reducible refine Ev.eq (congrArg some ?_)); rfl))
     exact this
    ·rw [decide_eq_false hb, Bool.and_false, Bool.false_and]
     repeat (first | with_reducible exact Ev.now _ | dsimp only | with_reducible refine Ev.bind (Ev.eq ((specIn _ _ _).trans (congrArg some (decide_eq_true ha)))) ?_ | with_reducible refine Ev.bind (Ev.eq ((specIn _ _ _).trans (congrArg some (decide_eq_false hb)))) ?_ | refine Ev.pos (by first | omega | rfl | assumption | decide) ?_ | refine Ev.neg (by first | omega | assumption | exact Bool.false_ne_true | exact fun e => absurd e (by decide)) ?_ | simp only [bne_self_eq_false, Bool.not_true, Bool.not_false, List.length_cons, List.length_nil] | rw [wrap_id (by omega) (by omega)] | with_reducible exact (Ev.eq ((specIn _ _ _).trans (congrArg some (decide_eq_true ha)))) | with_reducible exact (Ev.eq ((specIn _ _ _).trans (congrArg some (decide_eq_false hb)))) | ((with_reducible refine Ev.eq (congrArg some ?_)); rfl))
   ·rw [decide_eq_false ha, Bool.false_and, Bool.false_and]
    repeat (first | with_reducible exact Ev.now _ | dsimp only | with_reducible refine Ev.bind (Ev.eq ((specIn _ _ _).trans (congrArg some (decide_eq_false ha)))) ?_ | refine Ev.pos (by first | omega | rfl | assumption | decide) ?_ | refine Ev.neg (by first | omega | assumption | exact Bool.false_ne_true | exact fun e => absurd e (by decide)) ?_ | simp only [bne_self_eq_false, Bool.not_true, Bool.not_false, List.length_cons, List.length_nil] | rw [wrap_id (by omega) (by omega)] | with_reducible exact (Ev.eq ((specIn _ _ _).trans (congrArg some (decide_eq_false ha)))) | ((with_reducible refine Ev.eq (congrArg some ?_)); rfl))
  ·rw [decide_eq_false (show ¬ e.length = 2 by omega), Bool.false_and, Bool.false_and]
   repeat (first | with_reducible exact Ev.now _ | dsimp only | refine Ev.pos (by first | omega | rfl | assumption | decide) ?_ | refine Ev.neg (by first | omega | assumption | exact Bool.false_ne_true | exact fun e => absurd e (by decide)) ?_ | simp only [bne_self_eq_false, Bool.not_true, Bool.not_false, List.length_cons, List.length_nil] | rw [wrap_id (by omega) (by omega)] | ((with_reducible refine Ev.eq (congrArg some ?_)); rfl))

theorem specIs (n : Int) (l : List (List Int)) (hl : Mod l) : Ev (fun k => spec_l01Is.f k n l) (isGraph n l) := by
 unfold spec_l01Is.f isGraph
 by_cases h1 : 1 ≤ n ∧ n ≤ 8
 ·rw [decide_eq_true h1, Bool.true_and]
  repeat (first | with_reducible exact Ev.now _ | dsimp only | with_reducible refine Ev.bind (Ev.eq ((specIn n 1 8).trans (congrArg some (decide_eq_true h1)))) ?_ | refine Ev.pos (by first | omega | rfl | assumption | decide) ?_ | refine Ev.neg (by first | omega | assumption | exact Bool.false_ne_true | exact fun e => absurd e (by decide)) ?_ | simp only [bne_self_eq_false, Bool.not_true, Bool.not_false, List.length_cons, List.length_nil] | rw [wrap_id (by omega) (by omega)] | with_reducible exact (Ev.eq ((specIn n 1 8).trans (congrArg some (decide_eq_true h1)))) | ((with_reducible refine Ev.eq (congrArg some ?_)); rfl))
  refine Ev.succ ?_
  simp only [spec_l01Is.j0]
  by_cases h2 : (l.length : Int) ≤ 10
  ·rw [decide_eq_true h2, decide_eq_false (show ¬ (l.length : Int) > 10 by omega), Bool.and_true]
   repeat (first | with_reducible exact Ev.now _ | dsimp only | refine Ev.pos (by first | omega | rfl | assumption | decide) ?_ | refine Ev.neg (by first | omega | assumption | exact Bool.false_ne_true | exact fun e => absurd e (by decide)) ?_ | simp only [bne_self_eq_false, Bool.not_true, Bool.not_false, List.length_cons, List.length_nil] | rw [wrap_id (by omega) (by omega)] | ((with_reducible refine Ev.eq (congrArg some ?_)); rfl))
   exact specIs_loop n l hl l.length 0 (by omega)
  ·rw [decide_eq_false h2, decide_eq_true (show (l.length : Int) > 10 by omega), Bool.and_false]
   repeat (first | with_reducible exact Ev.now _ | dsimp only | refine Ev.pos (by first | omega | rfl | assumption | decide) ?_ | refine Ev.neg (by first | omega | assumption | exact Bool.false_ne_true | exact fun e => absurd e (by decide)) ?_ | simp only [bne_self_eq_false, Bool.not_true, Bool.not_false, List.length_cons, List.length_nil] | rw [wrap_id (by omega) (by omega)] | ((with_reducible refine Ev.eq (congrArg some ?_)); rfl))
 ·rw [decide_eq_false h1, Bool.false_and, Bool.and_false]
  repeat (first | with_reducible exact Ev.now _ | dsimp only | with_reducible refine Ev.bind (Ev.eq ((specIn n 1 8).trans (congrArg some (decide_eq_false h1)))) ?_ | refine Ev.pos (by first | omega | rfl | assumption | decide) ?_ | refine Ev.neg (by first | omega | assumption | exact Bool.false_ne_true | exact fun e => absurd e (by decide)) ?_ | simp only [bne_self_eq_false, Bool.not_true, Bool.not_false, List.length_cons, List.length_nil] | rw [wrap_id (by omega) (by omega)] | with_reducible exact (Ev.eq ((specIn n 1 8).trans (congrArg some (decide_eq_false h1)))) | ((with_reducible refine Ev.eq (congrArg some ?_)); rfl))
  refine Ev.succ ?_
  simp only [spec_l01Is.j0]
  repeat (first | with_reducible exact Ev.now _ | dsimp only | refine Ev.pos (by first | omega | rfl | assumption | decide) ?_ | refine Ev.neg (by first | omega | assumption | exact Bool.false_ne_true | exact fun e => absurd e (by decide)) ?_ | simp only [bne_self_eq_false, Bool.not_true, Bool.not_false, List.length_cons, List.length_nil] | rw [wrap_id (by omega) (by omega)] | ((with_reducible refine Ev.eq (congrArg some ?_)); rfl))

theorem implIs_loop (n : Int) (l : List (List Int)) (hl : Mod l) : ∀ (d i : Nat), i + d = l.length →
  Ev (fun k => impl_IsGraph.l0 k l (l.length : Int) (i : Int) n l) ((l.drop i).all (okEdge n) && (decide (1 ≤ n ∧ n ≤ 8) && decide ((l.length : Int) ≤ 10))) := by
 have hl1 := hl.1
 intro d
 induction d with
 | zero =>
  intro i hi
  refine Ev.succ ?_; simp only [impl_IsGraph.l0]
  rw [List.drop_eq_nil_of_le (by omega), List.all_nil, Bool.true_and]
  by_cases h1 : 1 ≤ n ∧ n ≤ 8
  ·rw [decide_eq_true h1, Bool.true_and]
   repeat (first | with_reducible exact Ev.now _ | dsimp only | with_reducible refine Ev.bind (Ev.eq ((implWithin n 1 8).trans (congrArg some (decide_eq_true h1)))) ?_ | refine Ev.pos (by first | omega | rfl | assumption | decide) ?_ | refine Ev.neg (by first | omega | assumption | exact Bool.false_ne_true | exact fun e => absurd e (by decide)) ?_ | simp only [bne_self_eq_false, Bool.not_true, Bool.not_false, List.length_cons, List.length_nil] | rw [wrap_id (by omega) (by omega)] | with_reducible exact (Ev.eq ((implWithin n 1 8).trans (congrArg some (decide_eq_true h1)))) | ((with_reducible refine Ev.eq (congrArg some ?_)); rfl))
  ·rw [decide_eq_false h1, Bool.false_and]
   repeat (first | with_reducible exact Ev.now _ | dsimp only | with_reducible refine Ev.bind (Ev.eq ((implWithin n 1 8).trans (congrArg some (decide_eq_false h1)))) ?_ | refine Ev.pos (by first | omega | rfl | assumption | decide) ?_ | refine Ev.neg (by first | omega | assumption | exact Bool.false_ne_true | exact fun e => absurd e (by decide)) ?_ | simp only [bne_self_eq_false, Bool.not_true, Bool.not_false, List.length_cons, List.length_nil] | rw [wrap_id (by omega) (by omega)] | with_reducible exact (Ev.eq ((implWithin n 1 8).trans (congrArg some (decide_eq_false h1)))) | ((with_reducible refine Ev.eq (congrArg some ?_)); rfl))
 | succ d ih =>
  intro i hi
  refine Ev.succ ?_; simp only [impl_IsGraph.l0]
  rw [List.drop_eq_getElem_cons (by omega : i < l.length), List.all_cons, rl_lt (by omega), wrap_succ (by omega)]
  generalize l[i] = e
  have := ih (i + 1) (by omega)
  unfold okEdge at this ⊢
  by_cases h2 : (e.length : Int) = 2
  ·rw [decide_eq_true (show e.length = 2 by omega), Bool.true_and]
   by_cases ha : 0 ≤ rd e 0 ∧ rd e 0 ≤ wrap64 (n - 1)
   ·by_cases hb : 0 ≤ rd e 1 ∧ rd e 1 ≤ wrap64 (n - 1)
    ·rw [decide_eq_true ha, decide_eq_true hb, Bool.true_and, Bool.true_and]
     repeat (first | with_reducible exact Ev.now _ | dsimp only | with_reducible refine Ev.bind (Ev.eq ((implWithin _ _ _).trans (congrArg some (decide_eq_true ha)))) ?_ | with_reducible refine Ev.bind (Ev.eq ((implWithin _ _ _).trans (congrArg some (decide_eq_true hb)))) ?_ | refine Ev.pos (by first | omega | rfl | assumption | decide) ?_ | refine Ev.neg (by first | omega | assumption | exact Bool.false_ne_true | exact fun e => absurd e (by decide)) ?_ | simp only [bne_self_eq_false, Bool.not_true, Bool.not_false, List.length_cons, List.length_nil] | rw [wrap_id (by omega) (by omega)] | with_reducible exact (Ev.eq ((implWithin _ _ _).trans (congrArg some (decide_eq_true ha)))) | with_reducible exact (Ev.eq ((implWithin _ _ _).trans (congrArg some (decide_eq_true hb)))) | ((with_reducible refine Ev.eq (congrArg some ?_)); rfl))
     exact this
    ·rw [decide_eq_false hb, Bool.and_false, Bool.false_and, Bool.false_and]
     repeat (first | with_reducible exact Ev.now _ | dsimp only | with_reducible refine Ev.bind (Ev.eq ((implWithin _ _ _).trans (congrArg some (decide_eq_true ha)))) ?_ | with_reducible refine Ev.bind (Ev.eq ((implWithin _ _ _).trans (congrArg some (decide_eq_false hb)))) ?_ | refine Ev.pos (by first | omega | rfl | assumption | decide) ?_ | refine Ev.neg (by first | omega | assumption | exact Bool.false_ne_true | exact fun e => absurd e (by decide)) ?_ | simp only [bne_self_eq_false, Bool.not_true, Bool.not_false, List.length_cons, List.length_nil] | rw [wrap_id (by omega) (by omega)] | with_reducible exact (Ev.eq ((implWithin _ _ _).trans (congrArg some (decide_eq_true ha)))) | with_reducible exact (Ev.eq ((implWithin _ _ _).trans (congrArg some (decide_eq_false hb)))) | ((with_reducible refine Ev.eq (congrArg some ?_)); rfl))
   ·rw [decide_eq_false ha, Bool.false_and, Bool.false_and, Bool.false_and]
    repeat (first | with_reducible exact Ev.now _ | dsimp only | with_reducible refine Ev.bind (Ev.eq ((implWithin _ _ _).trans (congrArg some (decide_eq_false ha)))) ?_ | refine Ev.pos (by first | omega | rfl | assumption | decide) ?_ | refine Ev.neg (by first | omega | assumption | exact Bool.false_ne_true | exact fun e => absurd e (by decide)) ?_ | simp only [bne_self_eq_false, Bool.not_true, Bool.not_false, List.length_cons, List.length_nil] | rw [wrap_id (by omega) (by omega)] | with_reducible exact (Ev.eq ((implWithin _ _ _).trans (congrArg some (decide_eq_false ha)))) | ((with_reducible refine Ev.eq (congrArg some ?_)); rfl))
  ·rw [decide_eq_false (show ¬ e.length = 2 by omega), Bool.false_and, Bool.false_and, Bool.false_and]
   repeat (first | with_reducible exact Ev.now _ | dsimp only | refine Ev.pos (by first | omega | rfl | assumption | decide) ?_ | refine Ev.neg (by first | omega | assumption | exact Bool.false_ne_true | exact fun e => absurd e (by decide)) ?_ | simp only [bne_self_eq_false, Bool.not_true, Bool.not_false, List.length_cons, List.length_nil] | rw [wrap_id (by omega) (by omega)] | ((with_reducible refine Ev.eq (congrArg some ?_)); rfl))

theorem implIsGraph (n : Int) (l : List (List Int)) (hl : Mod l) : Ev (fun k => impl_IsGraph.f k n l) (isGraph n l) := by
 unfold impl_IsGraph.f
 exact implIs_loop n l hl l.length 0 (by omega)

theorem len_two {α : Type} {e : List α} (h : e.length = 2) : ∃ a b, e = [a, b] := by
 match e, h with
 | [a, b], _ => exact ⟨a, b, rfl⟩

theorem isGraph_iff (n : Int) (l : List (List Int)) : isGraph n l = true ↔ 1 ≤ n ∧ n ≤ 8 ∧ l.length ≤ 10 ∧ ∀ e ∈ l, ∃ a b : Int, e = [a, b] ∧ 0 ≤ a ∧ a < n ∧ 0 ≤ b ∧ b < n := by
 unfold isGraph
 rw [Bool.and_eq_true, Bool.and_eq_true, decide_eq_true_iff, decide_eq_true_iff, List.all_eq_true]
 constructor
 ·rintro ⟨h, ⟨h1, h2⟩, h3⟩
  refine ⟨h1, h2, by omega, fun e he => ?_⟩
  have := h e he
  unfold okEdge at this
  rw [Bool.and_eq_true, Bool.and_eq_true, decide_eq_true_iff, decide_eq_true_iff, decide_eq_true_iff, wrap_id (by omega) (by omega)] at this
  obtain ⟨he2, ha, hb⟩ := this
  obtain ⟨a, b, rfl⟩ := len_two he2
  simp only [show rd [a, b] 0 = a from rfl, show rd [a, b] 1 = b from rfl] at ha hb
  exact ⟨a, b, rfl, by omega, by omega, by omega, by omega⟩
 ·rintro ⟨h1, h2, h3, h⟩
  refine ⟨fun e he => ?_, ⟨h1, h2⟩, by omega⟩
  obtain ⟨a, b, rfl, h4, h5, h6, h7⟩ := h e he
  unfold okEdge
  rw [Bool.and_eq_true, Bool.and_eq_true, decide_eq_true_iff, decide_eq_true_iff, decide_eq_true_iff, wrap_id (by omega) (by omega)]
  simp only [show rd [a, b] 0 = a from rfl, show rd [a, b] 1 = b from rfl]
  exact ⟨rfl, by omega, by omega⟩
theorem graph_small {n : Int} {l : List (List Int)} (h : isGraph n l = true) : 1 ≤ n ∧ n ≤ 8 ∧ l.length ≤ 10 := by
 obtain ⟨h1, h2, h3, h4⟩ := (isGraph_iff n l).1 h
 exact ⟨h1, h2, h3⟩
def bs (l : List UInt8) : ByteArray := ⟨l.toArray⟩

theorem bs_size (l : List UInt8) : (bs l).size = l.length := by simp [bs, ByteArray.size]

theorem bs_app (l m : List UInt8) : bs l ++ bs m = bs (l ++ m) := by
 apply ByteArray.ext
 simp [bs]

/-- The parts between the bytes c. -/
def splitL (c : UInt8) : List UInt8 → List (List UInt8)
 | [] => [[]]
 | b :: s => if b = c then [] :: splitL c s else
  match splitL c s with
  | [] => [[b]]
  | x :: xs => (b :: x) :: xs

/-- A text put ahead of the first part. -/
def glue (p : List UInt8) : List (List UInt8) → List (List UInt8)
 | [] => [p]
 | x :: xs => (p ++ x) :: xs

theorem splitL_ne (c : UInt8) (s : List UInt8) : splitL c s ≠ [] := by
 cases s with
 | nil => simp [splitL]
 | cons b s =>
  unfold splitL
  split
  ·simp
  ·split <;> simp

theorem splitL_eq (c : UInt8) (s : List UInt8) : splitL c (c :: s) = [] :: splitL c s := by simp [splitL]

theorem splitL_ne_cons {b c : UInt8} (h : b ≠ c) (s : List UInt8) : splitL c (b :: s) = glue [b] (splitL c s) := by
 rw [splitL, if_neg h]
 cases e : splitL c s with
 | nil => exact absurd e (splitL_ne c s)
 | cons x xs => rfl

def joinL (c : UInt8) : List (List UInt8) → List UInt8
 | [] => []
 | [x] => x
 | x :: y :: r => x ++ c :: joinL c (y :: r)

theorem joinL_cons {c : UInt8} (x : List UInt8) {xs : List (List UInt8)} (h : xs ≠ []) : joinL c (x :: xs) = x ++ c :: joinL c xs := by
 cases xs with
 | nil => exact absurd rfl h
 | cons y r => rfl

theorem splitL_free {c : UInt8} {x : List UInt8} (h : ∀ b ∈ x, b ≠ c) : splitL c x = [x] := by
 induction x with
 | nil => rfl
 | cons b x ih =>
  rw [splitL_ne_cons (h b (List.mem_cons_self)), ih (fun y hy => h y (List.mem_cons_of_mem _ hy))]
  rfl

theorem splitL_app {c : UInt8} {x : List UInt8} (h : ∀ b ∈ x, b ≠ c) (s : List UInt8) : splitL c (x ++ c :: s) = x :: splitL c s := by
 induction x with
 | nil => exact splitL_eq c s
 | cons b x ih =>
  rw [List.cons_append, splitL_ne_cons (h b (List.mem_cons_self)), ih (fun y hy => h y (List.mem_cons_of_mem _ hy))]
  rfl

theorem splitL_joinL {c : UInt8} (xs : List (List UInt8)) (hne : xs ≠ []) (h : ∀ x ∈ xs, ∀ b ∈ x, b ≠ c) : splitL c (joinL c xs) = xs := by
 induction xs with
 | nil => exact absurd rfl hne
 | cons x xs ih =>
  cases xs with
  | nil => exact splitL_free (h x (List.mem_cons_self))
  | cons y r =>
   rw [joinL_cons _ (by simp), splitL_app (h x (List.mem_cons_self)), ih (by simp) (fun z hz => h z (List.mem_cons_of_mem _ hz))]

theorem join_joinL (c : UInt8) (xs : List (List UInt8)) : Lib.join xs [c] = joinL c xs := by
 induction xs with
 | nil => rfl
 | cons x xs ih =>
  cases xs with
  | nil => exact Lib.join_one x [c]
  | cons y r =>
   rw [joinL_cons _ (by simp), ← ih]
   simp [Lib.join, List.intercalate]

/-- A figure. -/
def dg (n : Int) : UInt8 := UInt8.ofNat (48 + n.toNat)

theorem dg_toNat {n : Int} (h0 : 0 ≤ n) (h1 : n < 10) : ((dg n).toNat : Int) = 48 + n := by
 unfold dg
 rw [UInt8.toNat_ofNat', Nat.mod_eq_of_lt (by omega)]
 omega

theorem dg_ne {n : Int} (h0 : 0 ≤ n) (h1 : n < 10) {c : UInt8} (h : c.toNat < 48 ∨ 57 < c.toNat) : dg n ≠ c := by
 intro e
 have := dg_toNat h0 h1
 rw [e] at this
 omega

def word (e : List Int) : List UInt8 := [dg (rd e 0), 45, dg (rd e 1)]

/-- The text of a graph. -/
def txt (n : Int) (l : List (List Int)) : List UInt8 := dg n :: 58 :: joinL 44 (l.map word)

section
variable {n : Int} {l : List (List Int)} (h : isGraph n l = true)
include h

theorem graph_ends {e : List Int} (he : e ∈ l) : ∃ a b : Int, e = [a, b] ∧ rd e 0 = a ∧ rd e 1 = b ∧ 0 ≤ a ∧ a < 8 ∧ 0 ≤ b ∧ b < 8 := by
 obtain ⟨h1, h2, h3, h4⟩ := (isGraph_iff n l).1 h
 obtain ⟨a, b, rfl, ha, ha', hb, hb'⟩ := h4 e he
 exact ⟨a, b, rfl, rfl, rfl, ha, by omega, hb, by omega⟩

theorem word_free {c : UInt8} (hc : (c.toNat < 48 ∨ 57 < c.toNat) ∧ c ≠ 45) : ∀ x ∈ l.map word, ∀ b ∈ x, b ≠ c := by
 intro x hx b hb
 obtain ⟨e, he, rfl⟩ := List.mem_map.1 hx
 obtain ⟨p, q, _, e0, e1, h0, h1, h2, h3⟩ := graph_ends h he
 unfold word at hb
 rw [e0, e1] at hb
 simp only [List.mem_cons, List.not_mem_nil, or_false] at hb
 rcases hb with rfl | rfl | rfl
 ·exact dg_ne h0 (by omega) hc.1
 ·exact fun e => hc.2 e.symm
 ·exact dg_ne h2 (by omega) hc.1

theorem words_split (hl : l ≠ []) : splitL 44 (joinL 44 (l.map word)) = l.map word :=
 splitL_joinL _ (by simpa using hl) (word_free h (c := 44) (by decide))

theorem mem_joinL {c d : UInt8} (hd : (d.toNat < 48 ∨ 57 < d.toNat) ∧ d ≠ 45) (hcd : c ≠ d) : ∀ b ∈ joinL c (l.map word), b ≠ d := by
 have hf := word_free h hd
 clear h
 generalize l.map word = xs at hf
 induction xs with
 | nil => intro b hb; cases hb
 | cons x xs ih =>
  intro b hb
  cases xs with
  | nil => exact hf x (List.mem_cons_self) b hb
  | cons y r =>
   rw [joinL_cons _ (by simp)] at hb
   rcases List.mem_append.1 hb with hb | hb
   ·exact hf x (List.mem_cons_self) b hb
   ·rcases List.mem_cons.1 hb with rfl | hb
    ·exact hcd
    ·exact ih (fun z hz => hf z (List.mem_cons_of_mem _ hz)) b hb

theorem txt_split : splitL 58 (txt n l) = [[dg n], joinL 44 (l.map word)] := by
 obtain ⟨h1, h2, h3, h4⟩ := (isGraph_iff n l).1 h
 have e : txt n l = [dg n] ++ 58 :: joinL 44 (l.map word) := rfl
 rw [e, splitL_app (by simp; exact dg_ne (by omega) (by omega) (by decide)), splitL_free (mem_joinL h (by decide) (by decide))]

theorem word_split {e : List Int} (he : e ∈ l) : splitL 45 (word e) = [[dg (rd e 0)], [dg (rd e 1)]] := by
 obtain ⟨p, q, _, e0, e1, h0, h1, h2, h3⟩ := graph_ends h he
 unfold word
 rw [e0, e1]
 have e : [dg p, 45, dg q] = [dg p] ++ 45 :: [dg q] := rfl
 rw [e, splitL_app (by simp; exact dg_ne h0 (by omega) (by decide)), splitL_free (by simp; exact dg_ne h2 (by omega) (by decide))]

end

theorem joinL_word_length (l : List (List Int)) : (joinL 44 (l.map word)).length + 1 ≤ 4 * l.length + 1 := by
 induction l with
 | nil => simp [joinL]
 | cons e l ih =>
  cases l with
  | nil => simp [joinL, word]
  | cons f r =>
   rw [List.map_cons, joinL_cons _ (by simp)]
   simp [word] at ih ⊢
   omega
theorem lit44 : (⟨#[44]⟩ : ByteArray) = bs [44] := rfl
theorem lit45 : (⟨#[45]⟩ : ByteArray) = bs [45] := rfl
theorem lit58 : (⟨#[58]⟩ : ByteArray) = bs [58] := rfl

theorem specDec {n : Int} (h0 : 0 ≤ n) (h1 : n < 10) : Ev (fun k => spec_l01Dec.f k n) (bs [dg n]) := by
 refine Ev.succ ?_; simp only [spec_l01Dec.f]
 refine Ev.neg (by omega) ?_
 refine Ev.pos h1 ?_
 refine Ev.eq (congrArg some ?_)
 rw [wrap_id (x := 48 + n) (by omega) (by omega)]
 have e : ((48 + n) % 256).toNat = 48 + n.toNat := by omega
 simp only [strOfNums, List.map_cons, List.map_nil, e]
 rfl

theorem joinL_snoc (c : UInt8) (xs : List (List UInt8)) (y : List UInt8) : joinL c (xs ++ [y]) = if xs = [] then y else joinL c xs ++ c :: y := by
 induction xs with
 | nil => rfl
 | cons x xs ih =>
  rw [List.cons_append, joinL_cons _ (by simp), ih]
  cases xs with
  | nil => simp [joinL]
  | cons z r => simp [joinL_cons]

theorem txt_small (n : Int) (l : List (List Int)) (hl : l.length ≤ 10) (i : Nat) : (dg n :: 58 :: joinL 44 ((l.take i).map word)).length ≤ 50 := by
 have := joinL_word_length (l.take i)
 simp only [List.length_cons, List.length_take] at this ⊢
 omega

theorem specText {n : Int} {l : List (List Int)} (h : isGraph n l = true) : Ev (fun k => spec_l01Text.f k n l) (bs (txt n l)) := by
 obtain ⟨g1, g2, g3⟩ := graph_small h
 have loop : ∀ (d i : Nat), i + d = l.length → Ev (fun k => spec_l01Text.l0 k (bs (dg n :: 58 :: joinL 44 ((l.take i).map word))) (i : Int) n l) (bs (txt n l)) := by
  intro d
  induction d with
  | zero =>
   intro i hi
   have e : i = l.length := by omega
   subst e
   refine Ev.succ ?_; simp only [spec_l01Text.l0]
   refine Ev.neg (by omega) ?_
   rw [List.take_length]
   exact Ev.now _
  | succ d ih =>
   intro i hi
   have hil : i < l.length := by omega
   have ih1 := ih (i + 1) (by omega)
   have hP := txt_small n l g3 i
   obtain ⟨a, b, he, e0, e1, a0, a1, b0, b1⟩ := graph_ends h (List.getElem_mem hil)
   have hlen : l[i].length = 2 := by rw [he]; rfl
   have hw : word l[i] = [dg a, 45, dg b] := by unfold word; rw [e0, e1]
   rw [List.take_succ_eq_append_getElem hil, List.map_append, List.map_cons, List.map_nil, joinL_snoc, hw] at ih1
   obtain ⟨P, hPe⟩ : ∃ P, P = dg n :: 58 :: joinL 44 ((l.take i).map word) := ⟨_, rfl⟩
   rw [← hPe] at hP ⊢
   refine Ev.succ ?_; simp only [spec_l01Text.l0]
   refine Ev.pos (by omega) ?_
   rw [rl_lt hil]
   by_cases c : i = 0
   ·subst c
    refine Ev.neg (by omega) ?_
    refine Ev.pos (by omega) ?_
    refine Ev.pos (by omega) ?_
    rw [e0]
    refine Ev.bind (specDec a0 (by omega)) ?_
    refine Ev.pos (by rw [bs_size, bs_size]; simp only [List.length_cons, List.length_nil]; omega) ?_
    refine Ev.pos (by rw [bs_app, bs_size]; simp only [List.length_append, List.length_cons, List.length_nil]; omega) ?_
    refine Ev.pos (by omega) ?_
    rw [e1]
    refine Ev.bind (specDec b0 (by omega)) ?_
    refine Ev.pos (by rw [lit45, bs_app, bs_app, bs_size, bs_size]; simp only [List.length_append, List.length_cons, List.length_nil]; omega) ?_
    rw [wrap_succ (by omega), lit45, bs_app, bs_app, bs_app]
    rw [if_pos (by simp)] at ih1
    have e : P ++ [dg a] ++ [45] ++ [dg b] = dg n :: 58 :: [dg a, 45, dg b] := by rw [hPe]; simp [joinL]
    rw [e]
    exact ih1
   ·refine Ev.pos (by omega) ?_
    refine Ev.pos (by rw [bs_size]; omega) ?_
    refine Ev.pos (by omega) ?_
    refine Ev.pos (by omega) ?_
    rw [e0]
    refine Ev.bind (specDec a0 (by omega)) ?_
    refine Ev.pos (by rw [lit44, bs_app, bs_size, bs_size]; simp only [List.length_append, List.length_cons, List.length_nil]; omega) ?_
    refine Ev.pos (by rw [lit44, bs_app, bs_app, bs_size]; simp only [List.length_append, List.length_cons, List.length_nil]; omega) ?_
    refine Ev.pos (by omega) ?_
    rw [e1]
    refine Ev.bind (specDec b0 (by omega)) ?_
    refine Ev.pos (by rw [lit44, lit45, bs_app, bs_app, bs_app, bs_size, bs_size]; simp only [List.length_append, List.length_cons, List.length_nil]; omega) ?_
    rw [wrap_succ (by omega), lit44, lit45, bs_app, bs_app, bs_app, bs_app]
    rw [if_neg (by intro hh; have := congrArg List.length hh; rw [List.length_map, List.length_take, List.length_nil] at this; omega)] at ih1
    have e : P ++ [44] ++ [dg a] ++ [45] ++ [dg b] = dg n :: 58 :: (joinL 44 ((l.take i).map word) ++ 44 :: [dg a, 45, dg b]) := by rw [hPe]; simp
    rw [e]
    exact ih1
 unfold spec_l01Text.f
 refine Ev.bind (specDec (n := n) (by omega) (by omega)) ?_
 refine Ev.pos (by rw [bs_size]; simp) ?_
 rw [lit58, bs_app]
 exact loop l.length 0 (by omega)

theorem implDecimal {n : Int} (h0 : 0 ≤ n) (h1 : n < 10) : impl_decimal.f n = some (bs [dg n]) := by
 unfold impl_decimal.f strconv_FormatInt_46.f strconv_FormatInt_54.f
 rw [if_pos rfl, if_pos h0, if_pos h1]
 rfl

theorem map_data (xs : List (List UInt8)) : (xs.map bs).map (fun x => x.data.toList) = xs := by
 induction xs with
 | nil => rfl
 | cons x xs ih => rw [List.map_cons, List.map_cons, ih]; rfl

theorem implJoin (xs : List (List UInt8)) (h : xs.length ≤ 1000) (h2 : (joinL 44 xs).length ≤ 1000) : strings_Join.f (xs.map bs) (⟨#[44]⟩ : ByteArray) = some (bs (joinL 44 xs)) := by
 have e : Lib.join ((xs.map bs).map (fun x => x.data.toList)) ((⟨#[44]⟩ : ByteArray).data.toList) = joinL 44 xs := by
  rw [map_data]
  exact join_joinL 44 xs
 unfold strings_Join.f
 rw [if_pos (by rw [List.length_map]; omega), e, if_pos (by omega)]
 rfl

theorem implText {n : Int} {l : List (List Int)} (h : isGraph n l = true) : Ev (fun k => impl_graphText.f k n l) (bs (txt n l)) := by
 obtain ⟨g1, g2, g3⟩ := graph_small h
 have loop : ∀ (d i : Nat), i + d = l.length → Ev (fun k => impl_graphText.l0 k (((l.take i).map word).map bs) l (l.length : Int) (i : Int) n l) (bs (txt n l)) := by
  intro d
  induction d with
  | zero =>
   intro i hi
   have e : i = l.length := by omega
   subst e
   have hj := joinL_word_length l
   refine Ev.succ ?_; simp only [impl_graphText.l0]
   refine Ev.neg (by omega) ?_
   refine Ev.bind (Ev.eq (implDecimal (n := n) (by omega) (by omega))) ?_
   refine Ev.pos (by rw [bs_size]; simp) ?_
   rw [List.take_length]
   refine Ev.bind (Ev.eq (implJoin _ (by rw [List.length_map]; omega) (by omega))) ?_
   rw [lit58, bs_app]
   refine Ev.pos (by rw [bs_size, bs_size]; simp only [List.length_append, List.length_cons, List.length_nil]; omega) ?_
   rw [bs_app]
   exact Ev.now _
  | succ d ih =>
   intro i hi
   have hil : i < l.length := by omega
   have ih1 := ih (i + 1) (by omega)
   obtain ⟨a, b, he, e0, e1, a0, a1, b0, b1⟩ := graph_ends h (List.getElem_mem hil)
   have hlen : l[i].length = 2 := by rw [he]; rfl
   have hw : word l[i] = [dg a, 45, dg b] := by unfold word; rw [e0, e1]
   rw [List.take_succ_eq_append_getElem hil, List.map_append, List.map_cons, List.map_nil, List.map_append, List.map_cons, List.map_nil, hw] at ih1
   refine Ev.succ ?_; simp only [impl_graphText.l0]
   refine Ev.pos (by omega) ?_
   refine Ev.pos (by omega) ?_
   refine Ev.pos (by omega) ?_
   rw [rl_lt hil]
   refine Ev.pos (by omega) ?_
   rw [e0]
   refine Ev.bind (Ev.eq (implDecimal a0 (by omega))) ?_
   refine Ev.pos (by rw [bs_size]; simp) ?_
   refine Ev.pos (by omega) ?_
   rw [e1]
   refine Ev.bind (Ev.eq (implDecimal b0 (by omega))) ?_
   rw [lit45, bs_app]
   refine Ev.pos (by rw [bs_size, bs_size]; simp) ?_
   refine Ev.pos (by rw [List.length_map, List.length_map, List.length_take]; omega) ?_
   rw [bs_app, wrap_succ (by omega)]
   exact ih1
 unfold impl_graphText.f
 exact loop l.length 0 (by omega)

theorem FnExactGraphText : laws_FnExactGraphText.Pure := by
 intro n l hn hl hr
 obtain ⟨t, ht, hs⟩ := szGraph n l hl hr
 apply Ev.rounds
 unfold laws_FnExactGraphText.f
 refine Ev.bind ht ?_
 rcases hs with hs | hm
 ·refine Ev.pos hs ?_
  exact Ev.now _
 by_cases h0 : t < 0
 ·refine Ev.pos h0 ?_
  exact Ev.now _
 refine Ev.neg h0 ?_
 refine Ev.bind (toGraph n l hm) ?_
 dsimp only
 have key : ∃ r : ByteArray × Int, Ev (fun k => spec_GraphText.f k n l) r ∧ Ev (fun k => impl_GraphText.f k n l) r := by
  by_cases g : isGraph n l = true
  ·refine ⟨(bs (txt n l), 0), ?_, ?_⟩
   ·unfold spec_GraphText.f
    refine Ev.bind (specIs n l hm) ?_
    rw [g]
    refine Ev.pos rfl ?_
    refine Ev.bind (specText g) ?_
    exact Ev.now _
   ·unfold impl_GraphText.f
    refine Ev.bind (implIsGraph n l hm) ?_
    rw [g]
    refine Ev.pos rfl ?_
    refine Ev.bind (implText g) ?_
    exact Ev.now _
  ·refine ⟨(⟨#[]⟩, 1), ?_, ?_⟩
   ·unfold spec_GraphText.f
    refine Ev.bind (specIs n l hm) ?_
    rw [Bool.eq_false_iff.2 g]
    refine Ev.neg (by decide) ?_
    exact Ev.now _
   ·unfold impl_GraphText.f
    refine Ev.bind (implIsGraph n l hm) ?_
    rw [Bool.eq_false_iff.2 g]
    refine Ev.neg (by decide) ?_
    exact Ev.now _
 obtain ⟨r, h1, h2⟩ := key
 refine Ev.bind h1 ?_
 refine Ev.bind (toGraph n l hm) ?_
 dsimp only
 refine Ev.bind h2 ?_
 refine Ev.pos rfl ?_
 refine Ev.pos rfl ?_
 refine Ev.bind (toGraph n l hm) ?_
 dsimp only
 refine Ev.bind (eqGraph_self n l hm) ?_
 exact Ev.now _
end Go.Proofs.YtipigagbgpoecaaDoor.Pure
