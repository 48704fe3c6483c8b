/- The plain proofs for this law. -/
import Derived.Test.YtipigagbgpoecaaC3
import Derived.Test.YtipigagbgpoecaaAux
namespace Go.Proofs.Ytipigagbgpoecaa.Pure
open Go.RowKit Go.Proofs.Ytipigagbgpoecaa.G Go.Proofs.YtipigagbgpoecaaW.PrintWords Go.Proofs.YtipigagbgpoecaaW.PrintLast Go.Proofs.YtipigagbgpoecaaW.PrintMore Go.Proofs.Ytipigagbgpoecaa.Aux
set_option linter.unusedVariables false
set_option linter.unusedSimpArgs false

theorem toInt64S_loop (l : List Int) (hl : l.length ≤ 1048576) : ∀ (d i : Nat) (ys : List Int), i + d = l.length → ys.length = l.length → ys.take i = l.take i →
  Ev (fun k => laws_toInt64S.l0 k l ys (i : Int)) l := by
 intro d
 induction d with
 | zero =>
  intro i ys hi hy ht
  refine Ev.succ ?_; simp only [laws_toInt64S.l0]
  repeat (first | with_reducible exact Ev.now _ | dsimp only | refine Ev.pos (by first | omega | rfl | assumption | decide) ?_ | refine Ev.neg (by first | omega | assumption | exact Bool.false_ne_true | exact fun e => absurd e (by decide)) ?_ | simp only [bne_self_eq_false, Bool.not_true, Bool.not_false, List.length_cons, List.length_nil] | rw [wrap_id (by omega) (by omega)] | ((with_reducible refine Ev.eq (congrArg some ?_)); rfl))
  exact Ev.eq (congrArg some (eq_of_take hy (by omega) ht))
 | succ d ih =>
  intro i ys hi hy ht
  refine Ev.succ ?_; simp only [laws_toInt64S.l0]
  rw [wrap_succ (by omega)]
  repeat (first | with_reducible exact Ev.now _ | dsimp only | refine Ev.pos (by first | omega | rfl | assumption | decide) ?_ | refine Ev.neg (by first | omega | assumption | exact Bool.false_ne_true | exact fun e => absurd e (by decide)) ?_ | simp only [bne_self_eq_false, Bool.not_true, Bool.not_false, List.length_cons, List.length_nil] | rw [wrap_id (by omega) (by omega)] | ((with_reducible refine Ev.eq (congrArg some ?_)); rfl))
  exact ih (i + 1) _ (by omega) (by simpa using hy) (take_set_succ hy (by omega) (rd_lt (by omega)) ht)

theorem toInt64S (l : List Int) (hl : l.length ≤ 1048576) : Ev (fun k => laws_toInt64S.f k l) l := by
 unfold laws_toInt64S.f
 repeat (first | with_reducible exact Ev.now _ | dsimp only | refine Ev.pos (by first | omega | rfl | assumption | decide) ?_ | refine Ev.neg (by first | omega | assumption | exact Bool.false_ne_true | exact fun e => absurd e (by decide)) ?_ | simp only [bne_self_eq_false, Bool.not_true, Bool.not_false, List.length_cons, List.length_nil] | rw [wrap_id (by omega) (by omega)] | ((with_reducible refine Ev.eq (congrArg some ?_)); rfl))
 exact toInt64S_loop l hl l.length 0 _ (by omega) (by simp) (by simp)

theorem eqInt64S_loop (a b : List Int) (hl : a.length ≤ 1048576) (hab : a.length = b.length) : ∀ (d i : Nat), i + d = a.length →
  Ev (fun k => laws_eqInt64S.l0 k a b (i : Int)) (decide (a.drop i = b.drop i)) := by
 intro d
 induction d with
 | zero =>
  intro i hi
  refine Ev.succ ?_; simp only [laws_eqInt64S.l0]
  rw [List.drop_eq_nil_of_le (by omega), List.drop_eq_nil_of_le (by omega)]
  repeat (first | with_reducible exact Ev.now _ | dsimp only | refine Ev.pos (by first | omega | rfl | assumption | decide) ?_ | refine Ev.neg (by first | omega | assumption | exact Bool.false_ne_true | exact fun e => absurd e (by decide)) ?_ | simp only [bne_self_eq_false, Bool.not_true, Bool.not_false, List.length_cons, List.length_nil] | rw [wrap_id (by omega) (by omega)] | ((with_reducible refine Ev.eq (congrArg some ?_)); rfl))
 | succ d ih =>
  intro i hi
  refine Ev.succ ?_; simp only [laws_eqInt64S.l0]
  rw [List.drop_eq_getElem_cons (by omega : i < a.length), List.drop_eq_getElem_cons (by omega : i < b.length), wrap_succ (by omega)]
  by_cases e : rd a i = rd b i
  ·repeat (first | with_reducible exact Ev.now _ | dsimp only | refine Ev.pos (by first | omega | rfl | assumption | decide) ?_ | refine Ev.neg (by first | omega | assumption | exact Bool.false_ne_true | exact fun e => absurd e (by decide)) ?_ | simp only [bne_self_eq_false, Bool.not_true, Bool.not_false, List.length_cons, List.length_nil] | rw [wrap_id (by omega) (by omega)] | ((with_reducible refine Ev.eq (congrArg some ?_)); rfl))
   have := ih (i + 1) (by omega)
   rw [rd_lt (by omega), rd_lt (by omega)] at e
   rw [e, decide_cons]
   exact this
  ·rw [decide_eq_false (fun h => e (by rw [rd_lt (by omega), rd_lt (by omega)]; exact (List.cons.inj h).1))]
   repeat (first | with_reducible exact Ev.now _ | dsimp only | refine Ev.pos (by first | omega | rfl | assumption | decide) ?_ | refine Ev.neg (by first | omega | assumption | exact Bool.false_ne_true | exact fun e => absurd e (by decide)) ?_ | simp only [bne_self_eq_false, Bool.not_true, Bool.not_false, List.length_cons, List.length_nil] | rw [wrap_id (by omega) (by omega)] | ((with_reducible refine Ev.eq (congrArg some ?_)); rfl))

theorem eqInt64S (a b : List Int) (hl : a.length ≤ 1048576) : Ev (fun k => laws_eqInt64S.f k a b) (decide (a = b)) := by
 unfold laws_eqInt64S.f
 by_cases h : a.length = b.length
 ·repeat (first | with_reducible exact Ev.now _ | dsimp only | refine Ev.pos (by first | omega | rfl | assumption | decide) ?_ | refine Ev.neg (by first | omega | assumption | exact Bool.false_ne_true | exact fun e => absurd e (by decide)) ?_ | simp only [bne_self_eq_false, Bool.not_true, Bool.not_false, List.length_cons, List.length_nil] | rw [wrap_id (by omega) (by omega)] | ((with_reducible refine Ev.eq (congrArg some ?_)); rfl))
  exact eqInt64S_loop a b hl h a.length 0 (by omega)
 ·rw [decide_eq_false (fun e => h (by rw [e]))]
  repeat (first | with_reducible exact Ev.now _ | dsimp only | refine Ev.pos (by first | omega | rfl | assumption | decide) ?_ | refine Ev.neg (by first | omega | assumption | exact Bool.false_ne_true | exact fun e => absurd e (by decide)) ?_ | simp only [bne_self_eq_false, Bool.not_true, Bool.not_false, List.length_cons, List.length_nil] | rw [wrap_id (by omega) (by omega)] | ((with_reducible refine Ev.eq (congrArg some ?_)); rfl))

theorem eqInt64S_self (a : List Int) (hl : a.length ≤ 1048576) : Ev (fun k => laws_eqInt64S.f k a a) true :=
 Ev.conv (eqInt64S a a hl) (by simp)
theorem rl_lt {xs : List (List Int)} {i : Nat} (h : i < xs.length) : rd_L1 xs (i : Int) = xs[i] := by
 simp [rd_L1, List.getD_eq_getElem?_getD, h]

/-- Rows of which each, and their number, is of a moderate size. -/
def Mod (l : List (List Int)) : Prop := l.length ≤ 1048576 ∧ ∀ r ∈ l, r.length ≤ 1048576

theorem Mod.row {l : List (List Int)} (h : Mod l) {i : Nat} (hi : i < l.length) : l[i].length ≤ 1048576 := h.2 _ (List.getElem_mem hi)

theorem szInt64S (l : List Int) (a : Int) (h0 : 0 ≤ a) (h1 : a ≤ 1048576) (hl : l.length ≤ 9223372036854775807) : ∃ t, laws_szInt64S.f l a = some t ∧ (t < 0 ∨ (l.length ≤ 1048576 ∧ 0 ≤ t ∧ t ≤ a)) := by
 unfold laws_szInt64S.f
 rw [wrap_id (by omega) (by omega)]
 by_cases h : a - (l.length : Int) < 0
 ·exact ⟨-1, if_pos h, Or.inl (by omega)⟩
 ·exact ⟨_, if_neg h, Or.inr (by omega)⟩

theorem szInt64SS_loop (l : List (List Int)) (hl : l.length ≤ 1048576) (hr : ∀ r ∈ l, r.length ≤ 9223372036854775807) : ∀ (d i : Nat) (a : Int), i + d = l.length → 0 ≤ a → a ≤ 1048576 → (∀ j, (h : j < l.length) → j < i → l[j].length ≤ 1048576) →
  ∃ t, Ev (fun k => laws_szInt64SS.l0 k l a (i : Int)) t ∧ (t < 0 ∨ (Mod l ∧ 0 ≤ t ∧ t ≤ 1048576)) := by
 intro d
 induction d with
 | zero =>
  intro i a hi h0 h1 hm
  refine ⟨a, ?_, Or.inr ⟨⟨hl, fun r h => ?_⟩, h0, h1⟩⟩
  ·refine Ev.succ ?_; simp only [laws_szInt64SS.l0]
   repeat (first | with_reducible exact Ev.now _ | dsimp only | refine Ev.pos (by first | omega | rfl | assumption | decide) ?_ | refine Ev.neg (by first | omega | assumption | exact Bool.false_ne_true | exact fun e => absurd e (by decide)) ?_ | simp only [bne_self_eq_false, Bool.not_true, Bool.not_false, List.length_cons, List.length_nil] | rw [wrap_id (by omega) (by omega)] | ((with_reducible refine Ev.eq (congrArg some ?_)); rfl))
  ·obtain ⟨j, hj, rfl⟩ := List.getElem_of_mem h
   exact hm j hj (by omega)
 | succ d ih =>
  intro i a hi h0 h1 hm
  obtain ⟨t, ht, hc⟩ := szInt64S (l[i]'(by omega)) a h0 h1 (hr _ (List.getElem_mem _))
  rw [← rl_lt (by omega)] at ht
  rcases hc with hc | ⟨hc, hc0, hc1⟩
  ·refine ⟨-1, ?_, Or.inl (by omega)⟩
   refine Ev.succ ?_; simp only [laws_szInt64SS.l0]
   repeat (first | with_reducible exact Ev.now _ | dsimp only | with_reducible refine Ev.bind (Ev.eq ht) ?_ | refine Ev.pos (by first | omega | rfl | assumption | decide) ?_ | refine Ev.neg (by first | omega | assumption | exact Bool.false_ne_true | exact fun e => absurd e (by decide)) ?_ | simp only [bne_self_eq_false, Bool.not_true, Bool.not_false, List.length_cons, List.length_nil] | rw [wrap_id (by omega) (by omega)] | with_reducible exact (Ev.eq ht) | ((with_reducible refine Ev.eq (congrArg some ?_)); rfl))
  ·obtain ⟨t', h1', h2'⟩ := ih (i + 1) t (by omega) hc0 (by omega) (fun j hj hji => by
    by_cases e : j = i
    ·subst e; exact hc
    ·exact hm j hj (by omega))
   refine ⟨t', ?_, h2'⟩
   refine Ev.succ ?_; simp only [laws_szInt64SS.l0]
   rw [wrap_succ (by omega)]
   repeat (first | with_reducible exact Ev.now _ | dsimp only | with_reducible refine Ev.bind (Ev.eq ht) ?_ | refine Ev.pos (by first | omega | rfl | assumption | decide) ?_ | refine Ev.neg (by first | omega | assumption | exact Bool.false_ne_true | exact fun e => absurd e (by decide)) ?_ | simp only [bne_self_eq_false, Bool.not_true, Bool.not_false, List.length_cons, List.length_nil] | rw [wrap_id (by omega) (by omega)] | with_reducible exact (Ev.eq ht) | ((with_reducible refine Ev.eq (congrArg some ?_)); rfl))
   exact h1'

theorem szInt64SS (l : List (List Int)) (a : Int) (h0 : 0 ≤ a) (h1 : a ≤ 1048576) (hl : l.length ≤ 9223372036854775807) (hr : ∀ r ∈ l, r.length ≤ 9223372036854775807) : ∃ t, Ev (fun k => laws_szInt64SS.f k l a) t ∧ (t < 0 ∨ (Mod l ∧ 0 ≤ t ∧ t ≤ 1048576)) := by
 unfold laws_szInt64SS.f
 rw [wrap_id (by omega) (by omega)]
 by_cases h : a - (l.length : Int) < 0
 ·refine ⟨-1, ?_, Or.inl (by omega)⟩
  repeat (first | with_reducible exact Ev.now _ | dsimp only | refine Ev.pos (by first | omega | rfl | assumption | decide) ?_ | refine Ev.neg (by first | omega | assumption | exact Bool.false_ne_true | exact fun e => absurd e (by decide)) ?_ | simp only [bne_self_eq_false, Bool.not_true, Bool.not_false, List.length_cons, List.length_nil] | rw [wrap_id (by omega) (by omega)] | ((with_reducible refine Ev.eq (congrArg some ?_)); rfl))
 ·obtain ⟨t, h1, h2⟩ := szInt64SS_loop l (by omega) hr l.length 0 (a - (l.length : Int)) (by omega) (by omega) (by omega) (fun j _ hj => by omega)
  refine ⟨t, ?_, h2⟩
  repeat (first | with_reducible exact Ev.now _ | dsimp only | refine Ev.pos (by first | omega | rfl | assumption | decide) ?_ | refine Ev.neg (by first | omega | assumption | exact Bool.false_ne_true | exact fun e => absurd e (by decide)) ?_ | simp only [bne_self_eq_false, Bool.not_true, Bool.not_false, List.length_cons, List.length_nil] | rw [wrap_id (by omega) (by omega)] | ((with_reducible refine Ev.eq (congrArg some ?_)); rfl))
  exact h1

theorem toInt64SS_loop (l : List (List Int)) (hl : Mod l) : ∀ (d i : Nat) (ys : List (List Int)), i + d = l.length → ys.length = l.length → ys.take i = l.take i →
  Ev (fun k => laws_toInt64SS.l0 k l ys (i : Int)) l := by
 have hl1 := hl.1
 intro d
 induction d with
 | zero =>
  intro i ys hi hy ht
  refine Ev.succ ?_; simp only [laws_toInt64SS.l0]
  repeat (first | with_reducible exact Ev.now _ | dsimp only | refine Ev.pos (by first | omega | rfl | assumption | decide) ?_ | refine Ev.neg (by first | omega | assumption | exact Bool.false_ne_true | exact fun e => absurd e (by decide)) ?_ | simp only [bne_self_eq_false, Bool.not_true, Bool.not_false, List.length_cons, List.length_nil] | rw [wrap_id (by omega) (by omega)] | ((with_reducible refine Ev.eq (congrArg some ?_)); rfl))
  exact Ev.eq (congrArg some (eq_of_take hy (by omega) ht))
 | succ d ih =>
  intro i ys hi hy ht
  refine Ev.succ ?_; simp only [laws_toInt64SS.l0]
  rw [wrap_succ (by omega), rl_lt (by omega)]
  repeat (first | with_reducible exact Ev.now _ | dsimp only | with_reducible refine Ev.bind (toInt64S _ (hl.row (by omega))) ?_ | refine Ev.pos (by first | omega | rfl | assumption | decide) ?_ | refine Ev.neg (by first | omega | assumption | exact Bool.false_ne_true | exact fun e => absurd e (by decide)) ?_ | simp only [bne_self_eq_false, Bool.not_true, Bool.not_false, List.length_cons, List.length_nil] | rw [wrap_id (by omega) (by omega)] | with_reducible exact (toInt64S _ (hl.row (by omega))) | ((with_reducible refine Ev.eq (congrArg some ?_)); rfl))
  exact ih (i + 1) _ (by omega) (by simpa using hy) (take_set_succ hy (by omega) rfl ht)

theorem toInt64SS (l : List (List Int)) (hl : Mod l) : Ev (fun k => laws_toInt64SS.f k l) l := by
 have hl1 := hl.1
 unfold laws_toInt64SS.f
 repeat (first | with_reducible exact Ev.now _ | dsimp only | refine Ev.pos (by first | omega | rfl | assumption | decide) ?_ | refine Ev.neg (by first | omega | assumption | exact Bool.false_ne_true | exact fun e => absurd e (by decide)) ?_ | simp only [bne_self_eq_false, Bool.not_true, Bool.not_false, List.length_cons, List.length_nil] | rw [wrap_id (by omega) (by omega)] | ((with_reducible refine Ev.eq (congrArg some ?_)); rfl))
 exact toInt64SS_loop l hl l.length 0 _ (by omega) (by simp) (by simp)

theorem toGraph (n : Int) (l : List (List Int)) (hl : Mod l) : Ev (fun k => laws_toGraph.f k n l) (n, l) := by
 unfold laws_toGraph.f
 repeat (first | with_reducible exact Ev.now _ | dsimp only | with_reducible refine Ev.bind (toInt64SS l hl) ?_ | refine Ev.pos (by first | omega | rfl | assumption | decide) ?_ | refine Ev.neg (by first | omega | assumption | exact Bool.false_ne_true | exact fun e => absurd e (by decide)) ?_ | simp only [bne_self_eq_false, Bool.not_true, Bool.not_false, List.length_cons, List.length_nil] | rw [wrap_id (by omega) (by omega)] | with_reducible exact (toInt64SS l hl) | ((with_reducible refine Ev.eq (congrArg some ?_)); rfl))

theorem eqInt64SS_self_loop (a : List (List Int)) (hl : Mod a) : ∀ (d i : Nat), i + d = a.length →
  Ev (fun k => laws_eqInt64SS.l0 k a a (i : Int)) true := by
 have hl1 := hl.1
 intro d
 induction d with
 | zero =>
  intro i hi
  refine Ev.succ ?_; simp only [laws_eqInt64SS.l0]
  repeat (first | with_reducible exact Ev.now _ | dsimp only | refine Ev.pos (by first | omega | rfl | assumption | decide) ?_ | refine Ev.neg (by first | omega | assumption | exact Bool.false_ne_true | exact fun e => absurd e (by decide)) ?_ | simp only [bne_self_eq_false, Bool.not_true, Bool.not_false, List.length_cons, List.length_nil] | rw [wrap_id (by omega) (by omega)] | ((with_reducible refine Ev.eq (congrArg some ?_)); rfl))
 | succ d ih =>
  intro i hi
  refine Ev.succ ?_; simp only [laws_eqInt64SS.l0]
  rw [rl_lt (by omega), wrap_succ (by omega)]
  repeat (first | with_reducible exact Ev.now _ | dsimp only | with_reducible refine Ev.bind (eqInt64S_self _ (hl.row (by omega))) ?_ | refine Ev.pos (by first | omega | rfl | assumption | decide) ?_ | refine Ev.neg (by first | omega | assumption | exact Bool.false_ne_true | exact fun e => absurd e (by decide)) ?_ | simp only [bne_self_eq_false, Bool.not_true, Bool.not_false, List.length_cons, List.length_nil] | rw [wrap_id (by omega) (by omega)] | with_reducible exact (eqInt64S_self _ (hl.row (by omega))) | ((with_reducible refine Ev.eq (congrArg some ?_)); rfl))
  exact ih (i + 1) (by omega)

theorem eqInt64SS_self (a : List (List Int)) (hl : Mod a) : Ev (fun k => laws_eqInt64SS.f k a a) true := by
 unfold laws_eqInt64SS.f
 repeat (first | with_reducible exact Ev.now _ | dsimp only | refine Ev.pos (by first | omega | rfl | assumption | decide) ?_ | refine Ev.neg (by first | omega | assumption | exact Bool.false_ne_true | exact fun e => absurd e (by decide)) ?_ | simp only [bne_self_eq_false, Bool.not_true, Bool.not_false, List.length_cons, List.length_nil] | rw [wrap_id (by omega) (by omega)] | ((with_reducible refine Ev.eq (congrArg some ?_)); rfl))
 exact eqInt64SS_self_loop a hl a.length 0 (by omega)

theorem eqGraph_self (n : Int) (a : List (List Int)) (hl : Mod a) : Ev (fun k => laws_eqGraph.f k n a n a) true := by
 unfold laws_eqGraph.f
 repeat (first | with_reducible exact Ev.now _ | dsimp only | with_reducible refine Ev.bind (eqInt64SS_self a hl) ?_ | refine Ev.pos (by first | omega | rfl | assumption | decide) ?_ | refine Ev.neg (by first | omega | assumption | exact Bool.false_ne_true | exact fun e => absurd e (by decide)) ?_ | simp only [bne_self_eq_false, Bool.not_true, Bool.not_false, List.length_cons, List.length_nil] | rw [wrap_id (by omega) (by omega)] | with_reducible exact (eqInt64SS_self a hl) | ((with_reducible refine Ev.eq (congrArg some ?_)); rfl))
theorem specIn (a b c : Int) : spec_l01In.f a b c = some (decide (b ≤ a ∧ a ≤ c)) := by
 unfold spec_l01In.f
 by_cases h : b ≤ a
 ·rw [if_pos h]; simp [h]
 ·rw [if_neg h]; simp [h]

theorem implWithin (a b c : Int) : impl_within.f a b c = some (decide (b ≤ a ∧ a ≤ c)) := by
 unfold impl_within.f
 by_cases h : b ≤ a
 ·rw [if_pos h]; simp [h]
 ·rw [if_neg h]; simp [h]

/-- One edge's test. -/
def okEdge (n : Int) (e : List Int) : Bool := decide (e.length = 2) && (decide (0 ≤ rd e 0 ∧ rd e 0 ≤ wrap64 (n - 1)) && decide (0 ≤ rd e 1 ∧ rd e 1 ≤ wrap64 (n - 1)))

def isGraph (n : Int) (l : List (List Int)) : Bool := l.all (okEdge n) && (decide (1 ≤ n ∧ n ≤ 8) && decide ((l.length : Int) ≤ 10))

theorem specIs_loop (n : Int) (l : List (List Int)) (hl : Mod l) : ∀ (d i : Nat), i + d = l.length →
  Ev (fun k => spec_l01Is.l0 k (i : Int) n l) ((l.drop i).all (okEdge n)) := by
 have hl1 := hl.1
 intro d
 induction d with
 | zero =>
  intro i hi
  refine Ev.succ ?_; simp only [spec_l01Is.l0]
  rw [List.drop_eq_nil_of_le (by omega)]
  repeat (first | with_reducible exact Ev.now _ | dsimp only | refine Ev.pos (by first | omega | rfl | assumption | decide) ?_ | refine Ev.neg (by first | omega | assumption | exact Bool.false_ne_true | exact fun e => absurd e (by decide)) ?_ | simp only [bne_self_eq_false, Bool.not_true, Bool.not_false, List.length_cons, List.length_nil] | rw [wrap_id (by omega) (by omega)] | ((with_reducible refine Ev.eq (congrArg some ?_)); rfl))
 | succ d ih =>
  intro i hi
  refine Ev.succ ?_; simp only [spec_l01Is.l0]
  rw [List.drop_eq_getElem_cons (by omega : i < l.length), List.all_cons, rl_lt (by omega), wrap_succ (by omega)]
  generalize l[i] = e
  have := ih (i + 1) (by omega)
  unfold okEdge
  by_cases h2 : (e.length : Int) = 2
  ·rw [decide_eq_true (show e.length = 2 by omega), Bool.true_and]
   by_cases ha : 0 ≤ rd e 0 ∧ rd e 0 ≤ wrap64 (n - 1)
   ·by_cases hb : 0 ≤ rd e 1 ∧ rd e 1 ≤ wrap64 (n - 1)
    ·rw [decide_eq_true ha, decide_eq_true hb, Bool.true_and, Bool.true_and]
     repeat (first | with_reducible exact Ev.now _ | dsimp only | with_reducible refine Ev.bind (Ev.eq ((specIn _ _ _).trans (congrArg some (decide_eq_true ha)))) ?_ | with_reducible refine Ev.bind (Ev.eq ((specIn _ _ _).trans (congrArg some (decide_eq_true hb)))) ?_ | refine Ev.pos (by first | omega | rfl | assumption | decide) ?_ | refine Ev.neg (by first | omega | assumption | exact Bool.false_ne_true | exact fun e => absurd e (by decide)) ?_ | simp only [bne_self_eq_false, Bool.not_true, Bool.not_false, List.length_cons, List.length_nil] | rw [wrap_id (by omega) (by omega)] | with_reducible exact (Ev.eq ((specIn _ _ _).trans (congrArg some (decide_eq_true ha)))) | with_reducible exact (Ev.eq ((specIn _ _ _).trans (congrArg some (decide_eq_true hb)))) | ((with_reducible refine Ev.eq (congrArg some ?_)); rfl))
     exact this
    ·rw [decide_eq_false hb, Bool.and_false, Bool.false_and]
     repeat (first | with_reducible exact Ev.now _ | dsimp only | with_reducible refine Ev.bind (Ev.eq ((specIn _ _ _).trans (congrArg some (decide_eq_true ha)))) ?_ | with_reducible refine Ev.bind (Ev.eq ((specIn _ _ _).trans (congrArg some (decide_eq_false hb)))) ?_ | refine Ev.pos (by first | omega | rfl | assumption | decide) ?_ | refine Ev.neg (by first | omega | assumption | exact Bool.false_ne_true | exact fun e => absurd e (by decide)) ?_ | simp only [bne_self_eq_false, Bool.not_true, Bool.not_false, List.length_cons, List.length_nil] | rw [wrap_id (by omega) (by omega)] | with_reducible exact (Ev.eq ((specIn _ _ _).trans (congrArg some (decide_eq_true ha)))) | with_reducible exact (Ev.eq ((specIn _ _ _).trans (congrArg some (decide_eq_false hb)))) | ((with_reducible refine Ev.eq (congrArg some ?_)); rfl))
   ·rw [decide_eq_false ha, Bool.false_and, Bool.false_and]
    repeat (first | with_reducible exact Ev.now _ | dsimp only | with_reducible refine Ev.bind (Ev.eq ((specIn _ _ _).trans (congrArg some (decide_eq_false ha)))) ?_ | refine Ev.pos (by first | omega | rfl | assumption | decide) ?_ | refine Ev.neg (by first | omega | assumption | exact Bool.false_ne_true | exact fun e => absurd e (by decide)) ?_ | simp only [bne_self_eq_false, Bool.not_true, Bool.not_false, List.length_cons, List.length_nil] | rw [wrap_id (by omega) (by omega)] | with_reducible exact (Ev.eq ((specIn _ _ _).trans (congrArg some (decide_eq_false ha)))) | ((with_reducible refine Ev.eq (congrArg some ?_)); rfl))
  ·rw [decide_eq_false (show ¬ e.length = 2 by omega), Bool.false_and, Bool.false_and]
   repeat (first | with_reducible exact Ev.now _ | dsimp only | refine Ev.pos (by first | omega | rfl | assumption | decide) ?_ | refine Ev.neg (by first | omega | assumption | exact Bool.false_ne_true | exact fun e => absurd e (by decide)) ?_ | simp only [bne_self_eq_false, Bool.not_true, Bool.not_false, List.length_cons, List.length_nil] | rw [wrap_id (by omega) (by omega)] | ((with_reducible refine Ev.eq (congrArg some ?_)); rfl))

theorem specIs (n : Int) (l : List (List Int)) (hl : Mod l) : Ev (fun k => spec_l01Is.f k n l) (isGraph n l) := by
 unfold spec_l01Is.f isGraph
 by_cases h1 : 1 ≤ n ∧ n ≤ 8
 ·rw [decide_eq_true h1, Bool.true_and]
  repeat (first | with_reducible exact Ev.now _ | dsimp only | with_reducible refine Ev.bind (Ev.eq ((specIn n 1 8).trans (congrArg some (decide_eq_true h1)))) ?_ | refine Ev.pos (by first | omega | rfl | assumption | decide) ?_ | refine Ev.neg (by first | omega | assumption | exact Bool.false_ne_true | exact fun e => absurd e (by decide)) ?_ | simp only [bne_self_eq_false, Bool.not_true, Bool.not_false, List.length_cons, List.length_nil] | rw [wrap_id (by omega) (by omega)] | with_reducible exact (Ev.eq ((specIn n 1 8).trans (congrArg some (decide_eq_true h1)))) | ((with_reducible refine Ev.eq (congrArg some ?_)); rfl))
  refine Ev.succ ?_
  simp only [spec_l01Is.j0]
  by_cases h2 : (l.length : Int) ≤ 10
  ·rw [decide_eq_true h2, decide_eq_false (show ¬ (l.length : Int) > 10 by omega), Bool.and_true]
   repeat (first | with_reducible exact Ev.now _ | dsimp only | refine Ev.pos (by first | omega | rfl | assumption | decide) ?_ | refine Ev.neg (by first | omega | assumption | exact Bool.false_ne_true | exact fun e => absurd e (by decide)) ?_ | simp only [bne_self_eq_false, Bool.not_true, Bool.not_false, List.length_cons, List.length_nil] | rw [wrap_id (by omega) (by omega)] | ((with_reducible refine Ev.eq (congrArg some ?_)); rfl))
   exact specIs_loop n l hl l.length 0 (by omega)
  ·rw [decide_eq_false h2, decide_eq_true (show (l.length : Int) > 10 by omega), Bool.and_false]
   repeat (first | with_reducible exact Ev.now _ | dsimp only | refine Ev.pos (by first | omega | rfl | assumption | decide) ?_ | refine Ev.neg (by first | omega | assumption | exact Bool.false_ne_true | exact fun e => absurd e (by decide)) ?_ | simp only [bne_self_eq_false, Bool.not_true, Bool.not_false, List.length_cons, List.length_nil] | rw [wrap_id (by omega) (by omega)] | ((with_reducible refine Ev.eq (congrArg some ?_)); rfl))
 ·rw [decide_eq_false h1, Bool.false_and, Bool.and_false]
  repeat (first | with_reducible exact Ev.now _ | dsimp only | with_reducible refine Ev.bind (Ev.eq ((specIn n 1 8).trans (congrArg some (decide_eq_false h1)))) ?_ | refine Ev.pos (by first | omega | rfl | assumption | decide) ?_ | refine Ev.neg (by first | omega | assumption | exact Bool.false_ne_true | exact fun e => absurd e (by decide)) ?_ | simp only [bne_self_eq_false, Bool.not_true, Bool.not_false, List.length_cons, List.length_nil] | rw [wrap_id (by omega) (by omega)] | with_reducible exact (Ev.eq ((specIn n 1 8).trans (congrArg some (decide_eq_false h1)))) | ((with_reducible refine Ev.eq (congrArg some ?_)); rfl))
  refine Ev.succ ?_
  simp only [spec_l01Is.j0]
  repeat (first | with_reducible exact Ev.now _ | dsimp only | refine Ev.pos (by first | omega | rfl | assumption | decide) ?_ | refine Ev.neg (by first | omega | assumption | exact Bool.false_ne_true | exact fun e => absurd e (by decide)) ?_ | simp only [bne_self_eq_false, Bool.not_true, Bool.not_false, List.length_cons, List.length_nil] | rw [wrap_id (by omega) (by omega)] | ((with_reducible refine Ev.eq (congrArg some ?_)); rfl))

theorem implIs_loop (n : Int) (l : List (List Int)) (hl : Mod l) : ∀ (d i : Nat), i + d = l.length →
  Ev (fun k => impl_IsGraph.l0 k l (l.length : Int) (i : Int) n l) ((l.drop i).all (okEdge n) && (decide (1 ≤ n ∧ n ≤ 8) && decide ((l.length : Int) ≤ 10))) := by
 have hl1 := hl.1
 intro d
 induction d with
 | zero =>
  intro i hi
  refine Ev.succ ?_; simp only [impl_IsGraph.l0]
  rw [List.drop_eq_nil_of_le (by omega), List.all_nil, Bool.true_and]
  by_cases h1 : 1 ≤ n ∧ n ≤ 8
  ·rw [decide_eq_true h1, Bool.true_and]
   repeat (first | with_reducible exact Ev.now _ | dsimp only | with_reducible refine Ev.bind (Ev.eq ((implWithin n 1 8).trans (congrArg some (decide_eq_true h1)))) ?_ | refine Ev.pos (by first | omega | rfl | assumption | decide) ?_ | refine Ev.neg (by first | omega | assumption | exact Bool.false_ne_true | exact fun e => absurd e (by decide)) ?_ | simp only [bne_self_eq_false, Bool.not_true, Bool.not_false, List.length_cons, List.length_nil] | rw [wrap_id (by omega) (by omega)] | with_reducible exact (Ev.eq ((implWithin n 1 8).trans (congrArg some (decide_eq_true h1)))) | ((with_reducible refine Ev.eq (congrArg some ?_)); rfl))
  ·rw [decide_eq_false h1, Bool.false_and]
   repeat (first | with_reducible exact Ev.now _ | dsimp only | with_reducible refine Ev.bind (Ev.eq ((implWithin n 1 8).trans (congrArg some (decide_eq_false h1)))) ?_ | refine Ev.pos (by first | omega | rfl | assumption | decide) ?_ | refine Ev.neg (by first | omega | assumption | exact Bool.false_ne_true | exact fun e => absurd e (by decide)) ?_ | simp only [bne_self_eq_false, Bool.not_true, Bool.not_false, List.length_cons, List.length_nil] | rw [wrap_id (by omega) (by omega)] | with_reducible exact (Ev.eq ((implWithin n 1 8).trans (congrArg some (decide_eq_false h1)))) | ((with_reducible refine Ev.eq (congrArg some ?_)); rfl))
 | succ d ih =>
  intro i hi
  refine Ev.succ ?_; simp only [impl_IsGraph.l0]
  rw [List.drop_eq_getElem_cons (by omega : i < l.length), List.all_cons, rl_lt (by omega), wrap_succ (by omega)]
  generalize l[i] = e
  have := ih (i + 1) (by omega)
  unfold okEdge at this ⊢
  by_cases h2 : (e.length : Int) = 2
  ·rw [decide_eq_true (show e.length = 2 by omega), Bool.true_and]
   by_cases ha : 0 ≤ rd e 0 ∧ rd e 0 ≤ wrap64 (n - 1)
   ·by_cases hb : 0 ≤ rd e 1 ∧ rd e 1 ≤ wrap64 (n - 1)
    ·rw [decide_eq_true ha, decide_eq_true hb, Bool.true_and, Bool.true_and]
     repeat (first | with_reducible exact Ev.now _ | dsimp only | with_reducible refine Ev.bind (Ev.eq ((implWithin _ _ _).trans (congrArg some (decide_eq_true ha)))) ?_ | with_reducible refine Ev.bind (Ev.eq ((implWithin _ _ _).trans (congrArg some (decide_eq_true hb)))) ?_ | refine Ev.pos (by first | omega | rfl | assumption | decide) ?_ | refine Ev.neg (by first | omega | assumption | exact Bool.false_ne_true | exact fun e => absurd e (by decide)) ?_ | simp only [bne_self_eq_false, Bool.not_true, Bool.not_false, List.length_cons, List.length_nil] | rw [wrap_id (by omega) (by omega)] | with_reducible exact (Ev.eq ((implWithin _ _ _).trans (congrArg some (decide_eq_true ha)))) | with_reducible exact (Ev.eq ((implWithin _ _ _).trans (congrArg some (decide_eq_true hb)))) | ((with_reducible refine Ev.eq (congrArg some ?_)); rfl))
     exact this
    ·rw [decide_eq_false hb, Bool.and_false, Bool.false_and, Bool.false_and]
     repeat (first | with_reducible exact Ev.now _ | dsimp only | with_reducible refine Ev.bind (Ev.eq ((implWithin _ _ _).trans (congrArg some (decide_eq_true ha)))) ?_ | with_reducible refine Ev.bind (Ev.eq ((implWithin _ _ _).trans (congrArg some (decide_eq_false hb)))) ?_ | refine Ev.pos (by first | omega | rfl | assumption | decide) ?_ | refine Ev.neg (by first | omega | assumption | exact Bool.false_ne_true | exact fun e => absurd e (by decide)) ?_ | simp only [bne_self_eq_false, Bool.not_true, Bool.not_false, List.length_cons, List.length_nil] | rw [wrap_id (by omega) (by omega)] | with_reducible exact (Ev.eq ((implWithin _ _ _).trans (congrArg some (decide_eq_true ha)))) | with_reducible exact (Ev.eq ((implWithin _ _ _).trans (congrArg some (decide_eq_false hb)))) | ((with_reducible refine Ev.eq (congrArg some ?_)); rfl))
   ·rw [decide_eq_false ha, Bool.false_and, Bool.false_and, Bool.false_and]
    repeat (first | with_reducible exact Ev.now _ | dsimp only | with_reducible refine Ev.bind (Ev.eq ((implWithin _ _ _).trans (congrArg some (decide_eq_false ha)))) ?_ | refine Ev.pos (by first | omega | rfl | assumption | decide) ?_ | refine Ev.neg (by first | omega | assumption | exact Bool.false_ne_true | exact fun e => absurd e (by decide)) ?_ | simp only [bne_self_eq_false, Bool.not_true, Bool.not_false, List.length_cons, List.length_nil] | rw [wrap_id (by omega) (by omega)] | with_reducible exact (Ev.eq ((implWithin _ _ _).trans (congrArg some (decide_eq_false ha)))) | ((with_reducible refine Ev.eq (congrArg some ?_)); rfl))
  ·rw [decide_eq_false (show ¬ e.length = 2 by omega), Bool.false_and, Bool.false_and, Bool.false_and]
   repeat (first | with_reducible exact Ev.now _ | dsimp only | refine Ev.pos (by first | omega | rfl | assumption | decide) ?_ | refine Ev.neg (by first | omega | assumption | exact Bool.false_ne_true | exact fun e => absurd e (by decide)) ?_ | simp only [bne_self_eq_false, Bool.not_true, Bool.not_false, List.length_cons, List.length_nil] | rw [wrap_id (by omega) (by omega)] | ((with_reducible refine Ev.eq (congrArg some ?_)); rfl))

theorem implIsGraph (n : Int) (l : List (List Int)) (hl : Mod l) : Ev (fun k => impl_IsGraph.f k n l) (isGraph n l) := by
 unfold impl_IsGraph.f
 exact implIs_loop n l hl l.length 0 (by omega)

theorem len_two {α : Type} {e : List α} (h : e.length = 2) : ∃ a b, e = [a, b] := by
 match e, h with
 | [a, b], _ => exact ⟨a, b, rfl⟩

theorem isGraph_iff (n : Int) (l : List (List Int)) : isGraph n l = true ↔ 1 ≤ n ∧ n ≤ 8 ∧ l.length ≤ 10 ∧ ∀ e ∈ l, ∃ a b : Int, e = [a, b] ∧ 0 ≤ a ∧ a < n ∧ 0 ≤ b ∧ b < n := by
 unfold isGraph
 rw [Bool.and_eq_true, Bool.and_eq_true, decide_eq_true_iff, decide_eq_true_iff, List.all_eq_true]
 constructor
 ·rintro ⟨h, ⟨h1, h2⟩, h3⟩
  refine ⟨h1, h2, by omega, fun e he => ?_⟩
  have := h e he
  unfold okEdge at this
  rw [Bool.and_eq_true, Bool.and_eq_true, decide_eq_true_iff, decide_eq_true_iff, decide_eq_true_iff, wrap_id (by omega) (by omega)] at this
  obtain ⟨he2, ha, hb⟩ := this
  obtain ⟨a, b, rfl⟩ := len_two he2
  simp only [show rd [a, b] 0 = a from rfl, show rd [a, b] 1 = b from rfl] at ha hb
  exact ⟨a, b, rfl, by omega, by omega, by omega, by omega⟩
 ·rintro ⟨h1, h2, h3, h⟩
  refine ⟨fun e he => ?_, ⟨h1, h2⟩, by omega⟩
  obtain ⟨a, b, rfl, h4, h5, h6, h7⟩ := h e he
  unfold okEdge
  rw [Bool.and_eq_true, Bool.and_eq_true, decide_eq_true_iff, decide_eq_true_iff, decide_eq_true_iff, wrap_id (by omega) (by omega)]
  simp only [show rd [a, b] 0 = a from rfl, show rd [a, b] 1 = b from rfl]
  exact ⟨rfl, by omega, by omega⟩
theorem graph_edge {n : Int} {l : List (List Int)} (h : isGraph n l = true) {i : Nat} (hi : i < l.length) :
  (rd_L1 l (i : Int)).length = 2 ∧ ∃ a b : Nat, rd (rd_L1 l (i : Int)) 0 = a ∧ rd (rd_L1 l (i : Int)) 1 = b ∧ (a : Int) < n ∧ (b : Int) < n := by
 rw [rl_lt hi]
 obtain ⟨h1, h2, h3, h4⟩ := (isGraph_iff n l).1 h
 obtain ⟨a, b, e, ha, ha', hb, hb'⟩ := h4 _ (List.getElem_mem hi)
 rw [e]
 refine ⟨rfl, a.toNat, b.toNat, ?_, ?_, by omega, by omega⟩
 ·show a = _
  omega
 ·show b = _
  omega

theorem graph_small {n : Int} {l : List (List Int)} (h : isGraph n l = true) : 1 ≤ n ∧ n ≤ 8 ∧ l.length ≤ 10 := by
 obtain ⟨h1, h2, h3, h4⟩ := (isGraph_iff n l).1 h
 exact ⟨h1, h2, h3⟩
/-- The directed edge's start, its end, and its reverse. -/
def tl (l : List (List Int)) (p : Nat) : Int := if p % 2 = 1 then rd (rd_L1 l ((p / 2 : Nat) : Int)) 1 else rd (rd_L1 l ((p / 2 : Nat) : Int)) 0
def hd (l : List (List Int)) (p : Nat) : Int := if p % 2 = 1 then rd (rd_L1 l ((p / 2 : Nat) : Int)) 0 else rd (rd_L1 l ((p / 2 : Nat) : Int)) 1
def inv (p : Nat) : Nat := if p % 2 = 0 then p + 1 else p - 1
def next (l : List (List Int)) (p q : Nat) : Bool := decide (hd l p = tl l q) && decide (q ≠ inv p)

theorem half (p : Nat) (h : p < 1000) : wrap64 (Int.tdiv (p : Int) 2) = ((p / 2 : Nat) : Int) := by
 rw [Int.tdiv_eq_ediv_of_nonneg (by omega), wrap_id (by omega) (by omega)]
 omega

theorem rest2 (p : Nat) : Int.tmod (p : Int) 2 = ((p % 2 : Nat) : Int) := by
 rw [Int.tmod_eq_emod_of_nonneg (by omega)]
 omega

section
variable {n : Int} {l : List (List Int)} (h : isGraph n l = true)
include h

theorem specEnds {p : Nat} (hp : p < 2 * l.length) : spec_l01Ends.f n l (p : Int) = some (tl l p, hd l p) := by
 obtain ⟨g1, g2, g3⟩ := graph_small h
 obtain ⟨e2, a, b, ea, eb, ha, hb⟩ := graph_edge h (show p / 2 < l.length by omega)
 unfold spec_l01Ends.f tl hd
 rw [half p (by omega), rest2, if_pos (by omega), if_pos (by omega)]
 by_cases c : p % 2 = 1
 ·rw [if_pos (show ((p % 2 : Nat) : Int) = 1 by omega), if_pos (by omega), if_pos (by omega), if_pos c, if_pos c]
 ·rw [if_neg (show ¬ ((p % 2 : Nat) : Int) = 1 by omega), if_pos (by omega), if_pos (by omega), if_neg c, if_neg c]

theorem implEnds {p : Nat} (hp : p < 2 * l.length) : impl_Graph_ends.f n l (p : Int) = some (tl l p, hd l p) := by
 obtain ⟨g1, g2, g3⟩ := graph_small h
 obtain ⟨e2, a, b, ea, eb, ha, hb⟩ := graph_edge h (show p / 2 < l.length by omega)
 unfold impl_Graph_ends.f tl hd
 rw [half p (by omega), rest2, wrap_id (x := 1 - ((p % 2 : Nat) : Int)) (by omega) (by omega), if_pos (by omega), if_pos (by omega), if_pos (by omega), if_pos (by omega), if_pos (by omega), if_pos (by omega)]
 by_cases c : p % 2 = 1
 ·rw [if_pos c, if_pos c, c]
  rfl
 ·rw [if_neg c, if_neg c, show p % 2 = 0 by omega]
  rfl

end
def dirs (l : List (List Int)) (w : List Int) : Bool := w.all (fun x => decide (0 ≤ x ∧ x ≤ 2 * (l.length : Int) - 1))

theorem dirs_at {l : List (List Int)} {w : List Int} (h : dirs l w = true) {i : Nat} (hi : i < w.length) : rd w (i : Int) = (((rd w (i : Int)).toNat : Nat) : Int) ∧ (rd w (i : Int)).toNat < 2 * l.length := by
 unfold dirs at h
 rw [List.all_eq_true] at h
 have := of_decide_eq_true (h _ (rd_mem hi))
 omega

section
variable {n : Int} {l : List (List Int)} (h : isGraph n l = true) {w : List Int}
include h

theorem implDirs_loop (hw : w.length ≤ 1048576) : ∀ (d i : Nat), i + d = w.length →
  ∃ r : Int, Ev (fun k => slices_IndexFunc_int64_int64_124_at_Graph_areDirected_1.l0 k w (w.length : Int) (i : Int) n l) r ∧ (decide (r ≥ 0)) = !(w.drop i).all (fun x => decide (0 ≤ x ∧ x ≤ 2 * (l.length : Int) - 1)) := by
 obtain ⟨g1, g2, g3⟩ := graph_small h
 intro d
 induction d with
 | zero =>
  intro i hi
  refine ⟨-1, ?_, ?_⟩
  ·refine Ev.succ ?_; simp only [slices_IndexFunc_int64_int64_124_at_Graph_areDirected_1.l0]
   repeat (first | with_reducible exact Ev.now _ | dsimp only | refine Ev.pos (by first | omega | rfl | assumption | decide) ?_ | refine Ev.neg (by first | omega | assumption | exact Bool.false_ne_true | exact fun e => absurd e (by decide)) ?_ | simp only [bne_self_eq_false, Bool.not_true, Bool.not_false, List.length_cons, List.length_nil] | rw [wrap_id (by omega) (by omega)] | ((with_reducible refine Ev.eq (congrArg some ?_)); rfl))
  ·rw [List.drop_eq_nil_of_le (by omega)]
   rfl
 | succ d ih =>
  intro i hi
  have hc : impl_Graph_areDirected_1.f w[i] n l = some (!decide (0 ≤ w[i] ∧ w[i] ≤ 2 * (l.length : Int) - 1)) := by
   unfold impl_Graph_areDirected_1.f impl_Graph_size.f
   rw [Option.bind_some, wrap_id (x := 2 * (l.length : Int)) (by omega) (by omega), wrap_id (x := 2 * (l.length : Int) - 1) (by omega) (by omega), implWithin]
   rfl
  by_cases c : 0 ≤ w[i] ∧ w[i] ≤ 2 * (l.length : Int) - 1
  ·rw [decide_eq_true c] at hc
   obtain ⟨r, h1, h2⟩ := ih (i + 1) (by omega)
   refine ⟨r, ?_, ?_⟩
   ·refine Ev.succ ?_; simp only [slices_IndexFunc_int64_int64_124_at_Graph_areDirected_1.l0]
    rw [wrap_succ (by omega), rd_lt (by omega)]
    repeat (first | with_reducible exact Ev.now _ | dsimp only | with_reducible refine Ev.bind (Ev.eq hc) ?_ | refine Ev.pos (by first | omega | rfl | assumption | decide) ?_ | refine Ev.neg (by first | omega | assumption | exact Bool.false_ne_true | exact fun e => absurd e (by decide)) ?_ | simp only [bne_self_eq_false, Bool.not_true, Bool.not_false, List.length_cons, List.length_nil] | rw [wrap_id (by omega) (by omega)] | with_reducible exact (Ev.eq hc) | ((with_reducible refine Ev.eq (congrArg some ?_)); rfl))
    exact h1
   ·rw [List.drop_eq_getElem_cons (by omega : i < w.length), List.all_cons, decide_eq_true c, Bool.true_and]
    exact h2
  ·rw [decide_eq_false c] at hc
   refine ⟨(i : Int), ?_, ?_⟩
   ·refine Ev.succ ?_; simp only [slices_IndexFunc_int64_int64_124_at_Graph_areDirected_1.l0]
    rw [wrap_succ (by omega), rd_lt (by omega)]
    repeat (first | with_reducible exact Ev.now _ | dsimp only | with_reducible refine Ev.bind (Ev.eq hc) ?_ | refine Ev.pos (by first | omega | rfl | assumption | decide) ?_ | refine Ev.neg (by first | omega | assumption | exact Bool.false_ne_true | exact fun e => absurd e (by decide)) ?_ | simp only [bne_self_eq_false, Bool.not_true, Bool.not_false, List.length_cons, List.length_nil] | rw [wrap_id (by omega) (by omega)] | with_reducible exact (Ev.eq hc) | ((with_reducible refine Ev.eq (congrArg some ?_)); rfl))
   ·rw [List.drop_eq_getElem_cons (by omega : i < w.length), List.all_cons, decide_eq_false c, Bool.false_and]
    simp

theorem implDirs (hw : w.length ≤ 1048576) : Ev (fun k => impl_Graph_areDirected.f k n l w) (dirs l w) := by
 obtain ⟨r, h1, h2⟩ := implDirs_loop h hw w.length 0 (by omega)
 have h1' : Ev (fun k => slices_IndexFunc_int64_int64_124_at_Graph_areDirected_1.f k w n l) r := h1
 unfold impl_Graph_areDirected.f slices_ContainsFunc_int64_int64_93_at_Graph_areDirected_1.f
 rw [List.drop_zero] at h2
 have : dirs l w = !decide (r ≥ 0) := by rw [h2, Bool.not_not]; rfl
 rw [this]
 exact Ev.bind (Ev.bind h1' (Ev.now _)) (Ev.now _)

end
theorem mod_next (i n : Nat) (h : i < 1048576) : Int.tmod (wrap64 ((i : Int) + 1)) (n : Int) = (((i + 1) % n : Nat) : Int) := by
 rw [wrap_succ (by omega), Int.tmod_eq_emod_of_nonneg (by omega)]
 rfl

def cycA (l : List (List Int)) (w : List Int) : Nat → Nat → Bool
 | 0, _ => true
 | d + 1, i => decide (hd l (rd w (i : Int)).toNat = tl l (rd w (((i + 1) % w.length : Nat) : Int)).toNat) && cycA l w d (i + 1)

section
variable {n : Int} {l : List (List Int)} (h : isGraph n l = true) {w : List Int}
include h

theorem specDirected_loop (hw : w.length ≤ 1048576) : ∀ (d i : Nat), i + d = w.length → Ev (fun k => spec_l02Directed.l0 k w (i : Int) n l) ((w.drop i).all (fun x => decide (0 ≤ x ∧ x ≤ 2 * (l.length : Int) - 1)) && decide ((w.length : Int) ≤ 20)) := by
 obtain ⟨g1, g2, g3⟩ := graph_small h
 intro d
 induction d with
 | zero =>
  intro i hi
  refine Ev.succ ?_; simp only [spec_l02Directed.l0]
  rw [List.drop_eq_nil_of_le (by omega), List.all_nil, Bool.true_and]
  repeat (first | with_reducible exact Ev.now _ | dsimp only | refine Ev.pos (by first | omega | rfl | assumption | decide) ?_ | refine Ev.neg (by first | omega | assumption | exact Bool.false_ne_true | exact fun e => absurd e (by decide)) ?_ | simp only [bne_self_eq_false, Bool.not_true, Bool.not_false, List.length_cons, List.length_nil] | rw [wrap_id (by omega) (by omega)] | ((with_reducible refine Ev.eq (congrArg some ?_)); rfl))
 | succ d ih =>
  intro i hi
  have := ih (i + 1) (by omega)
  refine Ev.succ ?_; simp only [spec_l02Directed.l0]
  rw [wrap_succ (by omega), wrap_id (x := 2 * (l.length : Int)) (by omega) (by omega), wrap_id (x := 2 * (l.length : Int) - 1) (by omega) (by omega), specIn, rd_lt (by omega), List.drop_eq_getElem_cons (by omega : i < w.length), List.all_cons]
  by_cases c : 0 ≤ w[i] ∧ w[i] ≤ 2 * (l.length : Int) - 1
  ·rw [decide_eq_true c, Bool.true_and]
   repeat (first | with_reducible exact Ev.now _ | dsimp only | with_reducible refine Ev.bind (Ev.now _) ?_ | refine Ev.pos (by first | omega | rfl | assumption | decide) ?_ | refine Ev.neg (by first | omega | assumption | exact Bool.false_ne_true | exact fun e => absurd e (by decide)) ?_ | simp only [bne_self_eq_false, Bool.not_true, Bool.not_false, List.length_cons, List.length_nil] | rw [wrap_id (by omega) (by omega)] | with_reducible exact (Ev.now _) | ((with_reducible refine Ev.eq (congrArg some ?_)); rfl))
   exact this
  ·rw [decide_eq_false c, Bool.false_and, Bool.false_and]
   repeat (first | with_reducible exact Ev.now _ | dsimp only | with_reducible refine Ev.bind (Ev.now _) ?_ | refine Ev.pos (by first | omega | rfl | assumption | decide) ?_ | refine Ev.neg (by first | omega | assumption | exact Bool.false_ne_true | exact fun e => absurd e (by decide)) ?_ | simp only [bne_self_eq_false, Bool.not_true, Bool.not_false, List.length_cons, List.length_nil] | rw [wrap_id (by omega) (by omega)] | with_reducible exact (Ev.now _) | ((with_reducible refine Ev.eq (congrArg some ?_)); rfl))

theorem specDirected (hw : w.length ≤ 1048576) : Ev (fun k => spec_l02Directed.f k n l w) (dirs l w && decide ((w.length : Int) ≤ 20)) := by
 unfold spec_l02Directed.f
 exact specDirected_loop h hw w.length 0 (by omega)

theorem specClosed_loop (hd : dirs l w = true) (hw : w.length ≤ 1048576) : ∀ (d i : Nat), i + d = w.length → Ev (fun k => spec_l02Closed.l0 k w (i : Int) n l) (cycA l w d i && decide ((w.length : Int) > 0)) := by
 obtain ⟨g1, g2, g3⟩ := graph_small h
 intro d
 induction d with
 | zero =>
  intro i hi
  refine Ev.succ ?_; simp only [spec_l02Closed.l0]
  unfold cycA
  rw [Bool.true_and]
  repeat (first | with_reducible exact Ev.now _ | dsimp only | refine Ev.pos (by first | omega | rfl | assumption | decide) ?_ | refine Ev.neg (by first | omega | assumption | exact Bool.false_ne_true | exact fun e => absurd e (by decide)) ?_ | simp only [bne_self_eq_false, Bool.not_true, Bool.not_false, List.length_cons, List.length_nil] | rw [wrap_id (by omega) (by omega)] | ((with_reducible refine Ev.eq (congrArg some ?_)); rfl))
 | succ d ih =>
  intro i hi
  have hm : (i + 1) % w.length < w.length := Nat.mod_lt _ (by omega)
  obtain ⟨e1, r1⟩ := dirs_at hd (show i < w.length by omega)
  obtain ⟨e2, r2⟩ := dirs_at hd hm
  have := ih (i + 1) (by omega)
  have ha := specEnds h r1
  have hb := specEnds h r2
  rw [← e1] at ha
  rw [← e2] at hb
  refine Ev.succ ?_; simp only [spec_l02Closed.l0]
  unfold cycA
  rw [mod_next i w.length (by omega), wrap_succ (by omega)]
  by_cases c1 : Pure.hd l (rd w (i : Int)).toNat = tl l (rd w (((i + 1) % w.length : Nat) : Int)).toNat
  ·rw [decide_eq_true c1, Bool.true_and]
   repeat (first | with_reducible exact Ev.now _ | dsimp only | with_reducible refine Ev.bind (Ev.eq ha) ?_ | with_reducible refine Ev.bind (Ev.eq hb) ?_ | refine Ev.pos (by first | omega | rfl | assumption | decide) ?_ | refine Ev.neg (by first | omega | assumption | exact Bool.false_ne_true | exact fun e => absurd e (by decide)) ?_ | simp only [bne_self_eq_false, Bool.not_true, Bool.not_false, List.length_cons, List.length_nil] | rw [wrap_id (by omega) (by omega)] | with_reducible exact (Ev.eq ha) | with_reducible exact (Ev.eq hb) | ((with_reducible refine Ev.eq (congrArg some ?_)); rfl))
   exact this
  ·rw [decide_eq_false c1, Bool.false_and, Bool.false_and]
   repeat (first | with_reducible exact Ev.now _ | dsimp only | with_reducible refine Ev.bind (Ev.eq ha) ?_ | with_reducible refine Ev.bind (Ev.eq hb) ?_ | refine Ev.pos (by first | omega | rfl | assumption | decide) ?_ | refine Ev.neg (by first | omega | assumption | exact Bool.false_ne_true | exact fun e => absurd e (by decide)) ?_ | simp only [bne_self_eq_false, Bool.not_true, Bool.not_false, List.length_cons, List.length_nil] | rw [wrap_id (by omega) (by omega)] | with_reducible exact (Ev.eq ha) | with_reducible exact (Ev.eq hb) | ((with_reducible refine Ev.eq (congrArg some ?_)); rfl))

end
theorem markInt64S_loop (n : Nat) (hn : n ≤ 1048576) (a : Int) (h0 : 0 ≤ a) (h1 : a ≤ 1125899906842624) : ∀ (d i : Nat) (ys : List Int), i + d = n → ys.length = n → ys.take i = (marks a n).take i →
  Ev (fun k => laws_markInt64S.l0 k ys (a + i) (i : Int)) (a + n, marks a n) := by
 intro d
 induction d with
 | zero =>
  intro i ys hi hy ht
  refine Ev.succ ?_; simp only [laws_markInt64S.l0]
  rw [show ys = marks a n from eq_of_take (by rw [hy, marks_length]) (by rw [marks_length]; omega) ht, show i = n by omega]
  have := marks_length a n
  repeat (first | with_reducible exact Ev.now _ | dsimp only | refine Ev.pos (by first | omega | rfl | assumption | decide) ?_ | refine Ev.neg (by first | omega | assumption | exact Bool.false_ne_true | exact fun e => absurd e (by decide)) ?_ | simp only [bne_self_eq_false, Bool.not_true, Bool.not_false, List.length_cons, List.length_nil] | rw [wrap_id (by omega) (by omega)] | ((with_reducible refine Ev.eq (congrArg some ?_)); rfl))
 | succ d ih =>
  intro i ys hi hy ht
  refine Ev.succ ?_; simp only [laws_markInt64S.l0]
  rw [wrap_succ (by omega), wrap_id (x := a + i + 1) (by omega) (by omega)]
  repeat (first | with_reducible exact Ev.now _ | dsimp only | refine Ev.pos (by first | omega | rfl | assumption | decide) ?_ | refine Ev.neg (by first | omega | assumption | exact Bool.false_ne_true | exact fun e => absurd e (by decide)) ?_ | simp only [bne_self_eq_false, Bool.not_true, Bool.not_false, List.length_cons, List.length_nil] | rw [wrap_id (by omega) (by omega)] | ((with_reducible refine Ev.eq (congrArg some ?_)); rfl))
  have := ih (i + 1) (ys.set i (a + i)) (by omega) (by simpa using hy) (take_set_succ (by rw [hy, marks_length]) (by rw [marks_length]; omega) (marks_get a n i (by rw [marks_length]; omega)).symm ht)
  rw [show a + ((i + 1 : Nat) : Int) = a + i + 1 by omega] at this
  exact this

theorem markInt64S (l : List Int) (hl : l.length ≤ 1048576) (a : Int) (h0 : 0 ≤ a) (h1 : a ≤ 1125899906842624) : Ev (fun k => laws_markInt64S.f k l a) (a + l.length, marks a l.length) := by
 unfold laws_markInt64S.f
 have := markInt64S_loop l.length hl a h0 h1 l.length 0 l (by omega) rfl (by simp)
 rw [show a + ((0 : Nat) : Int) = a by omega] at this
 exact this

theorem heldInt64S_loop (n : Nat) (hn : n ≤ 1048576) (a : Int) (h0 : 0 ≤ a) (h1 : a ≤ 1125899906842624) : ∀ (d i : Nat), i + d = n →
  Ev (fun k => laws_heldInt64S.l0 k (marks a n) (a + i) (i : Int)) (a + n) := by
 have hm := marks_length a n
 intro d
 induction d with
 | zero =>
  intro i hi
  refine Ev.succ ?_; simp only [laws_heldInt64S.l0]
  rw [show i = n by omega]
  repeat (first | with_reducible exact Ev.now _ | dsimp only | refine Ev.pos (by first | omega | rfl | assumption | decide) ?_ | refine Ev.neg (by first | omega | assumption | exact Bool.false_ne_true | exact fun e => absurd e (by decide)) ?_ | simp only [bne_self_eq_false, Bool.not_true, Bool.not_false, List.length_cons, List.length_nil] | rw [wrap_id (by omega) (by omega)] | ((with_reducible refine Ev.eq (congrArg some ?_)); rfl))
 | succ d ih =>
  intro i hi
  refine Ev.succ ?_; simp only [laws_heldInt64S.l0]
  rw [wrap_succ (by omega), wrap_id (x := a + i + 1) (by omega) (by omega)]
  have e := marks_get a n i (by omega)
  rw [← rd_lt] at e
  have := ih (i + 1) (by omega)
  rw [show a + ((i + 1 : Nat) : Int) = a + i + 1 by omega] at this
  repeat (first | with_reducible exact Ev.now _ | dsimp only | refine Ev.pos (by first | omega | rfl | assumption | decide) ?_ | refine Ev.neg (by first | omega | assumption | exact Bool.false_ne_true | exact fun e => absurd e (by decide)) ?_ | simp only [bne_self_eq_false, Bool.not_true, Bool.not_false, List.length_cons, List.length_nil] | rw [wrap_id (by omega) (by omega)] | ((with_reducible refine Ev.eq (congrArg some ?_)); rfl))
  exact this

theorem heldInt64S (a : Int) (n : Nat) (hn : n ≤ 1048576) (h0 : 0 ≤ a) (h1 : a ≤ 1125899906842624) : Ev (fun k => laws_heldInt64S.f k (marks a n) a) (a + n) := by
 unfold laws_heldInt64S.f
 have := heldInt64S_loop n hn a h0 h1 n 0 (by omega)
 rw [show a + ((0 : Nat) : Int) = a by omega] at this
 exact this
theorem markInt64SS_loop : ∀ (d i : Nat) (xs : List (List Int)) (a : Int), i + d = xs.length → xs.length ≤ 1048576 → (∀ r ∈ xs, r.length ≤ 1048576) → 0 ≤ a → a ≤ 1 + 1048576 * i →
  ∃ r : Int × List (List Int), Ev (fun k => laws_markInt64SS.l0 k xs a (i : Int)) r ∧ 0 ≤ r.1 ∧ r.1 ≤ 1 + 1048576 * xs.length := by
 intro d
 induction d with
 | zero =>
  intro i xs a hi hx hr h0 h1
  refine ⟨(a, xs), ?_, h0, by simp only; omega⟩
  refine Ev.succ ?_; simp only [laws_markInt64SS.l0]
  repeat (first | with_reducible exact Ev.now _ | dsimp only | refine Ev.pos (by first | omega | rfl | assumption | decide) ?_ | refine Ev.neg (by first | omega | assumption | exact Bool.false_ne_true | exact fun e => absurd e (by decide)) ?_ | simp only [bne_self_eq_false, Bool.not_true, Bool.not_false, List.length_cons, List.length_nil] | rw [wrap_id (by omega) (by omega)] | ((with_reducible refine Ev.eq (congrArg some ?_)); rfl))
 | succ d ih =>
  intro i xs a hi hx hr h0 h1
  have hlen : xs[i].length ≤ 1048576 := hr _ (List.getElem_mem (by omega))
  obtain ⟨r, h2, h3⟩ := ih (i + 1) (xs.set i (marks a xs[i].length)) (a + xs[i].length) (by simp; omega) (by simpa using hx) (fun r hm => by
   rcases List.mem_or_eq_of_mem_set hm with h | h
   ·exact hr r h
   ·rw [h, marks_length]; exact hlen) (by omega) (by omega)
  rw [List.length_set] at h3
  refine ⟨r, ?_, h3⟩
  refine Ev.succ ?_; simp only [laws_markInt64SS.l0]
  rw [wrap_succ (by omega), rl_lt (by omega)]
  repeat (first | with_reducible exact Ev.now _ | dsimp only | with_reducible refine Ev.bind (markInt64S xs[i] hlen a h0 (by omega)) ?_ | refine Ev.pos (by first | omega | rfl | assumption | decide) ?_ | refine Ev.neg (by first | omega | assumption | exact Bool.false_ne_true | exact fun e => absurd e (by decide)) ?_ | simp only [bne_self_eq_false, Bool.not_true, Bool.not_false, List.length_cons, List.length_nil] | rw [wrap_id (by omega) (by omega)] | with_reducible exact (markInt64S xs[i] hlen a h0 (by omega)) | ((with_reducible refine Ev.eq (congrArg some ?_)); rfl))
  exact h2

theorem markGraph (n : Int) (l : List (List Int)) (hl : Mod l) : ∃ r : Int × List (List Int), Ev (fun k => laws_markGraph.f k n l 1) r ∧ 0 ≤ r.1 ∧ r.1 ≤ 1099511627777 := by
 unfold laws_markGraph.f laws_markInt64SS.f
 have hl1 := hl.1
 obtain ⟨r, h1, h2, h3⟩ := markInt64SS_loop l.length 0 l 1 (by omega) hl.1 hl.2 (by decide) (by omega)
 exact ⟨r, h1, h2, by omega⟩
def cl (x : Int) : Nat := if x = 0 then 0 else if x = 1 then 1 else if x = 2 then 2 else if x = 3 then 3 else 4

theorem cl_lt (x : Int) (n : Nat) (hn : n ≤ 4) : (cl x < n) ↔ (0 ≤ x ∧ x ≤ (n : Int) - 1) := by
 unfold cl
 split
 ·omega
 ·split
  ·omega
  ·split
   ·omega
   ·split <;> omega

theorem cl_eq (x : Int) (j : Nat) (hj : j < 4) : cl x = j ↔ x = (j : Int) := by
 unfold cl
 split
 ·omega
 ·split
  ·omega
  ·split
   ·omega
   ·split <;> omega

theorem cl_le (x : Int) : cl x < 5 := by
 unfold cl
 split
 ·omega
 ·split
  ·omega
  ·split
   ·omega
   ·split <;> omega

/-- The reference's loop over what is left, with what has been met. -/
def spn (n : Nat) : List Nat → Bool → Bool → Bool → Bool → Bool
 | [], _, _, _, _ => true
 | x :: xs, m0, m1, m2, m3 => if x < n then (if x = 0 then (if m0 = true then false else spn n xs true m1 m2 m3) else (if x = 1 then (if m1 = true then false else spn n xs m0 true m2 m3) else (if x = 2 then (if m2 = true then false else spn n xs m0 m1 true m3) else (if m3 = true then false else spn n xs m0 m1 m2 true)))) else false

/-- Each number less than n lies in the list, and there are n of them. -/
def perm (n : Nat) (r : List Int) : Bool := decide (r.length = n) && (List.range n).all (fun x => r.contains (x : Int))

theorem contains_cl (r : List Int) (x : Nat) (hx : x < 4) : (r.map cl).contains x = r.contains (x : Int) := by
 induction r with
 | nil => rfl
 | cons y ys ih =>
  rw [List.map_cons, List.contains_cons, List.contains_cons, ih]
  congr 1
  by_cases c : cl y = x
  ·rw [show (x == cl y) = true from beq_iff_eq.2 c.symm, show ((x : Int) == y) = true from beq_iff_eq.2 ((cl_eq y x hx).1 c).symm]
  ·rw [show (x == cl y) = false from beq_eq_false_iff_ne.2 (fun e => c e.symm), show ((x : Int) == y) = false from beq_eq_false_iff_ne.2 (fun e => c ((cl_eq y x hx).2 e.symm))]

theorem spn_perm (n : Nat) (h1 : 1 ≤ n) (h4 : n ≤ 4) (r : List Int) (hr : r.length = n) : spn n (r.map cl) false false false false = perm n r := by
 have e : perm n r = (List.range n).all (fun x => (r.map cl).contains x) := by
  unfold perm
  rw [decide_eq_true hr, Bool.true_and]
  have : ∀ l : List Nat, (∀ x ∈ l, x < 4) → l.all (fun x => r.contains (x : Int)) = l.all (fun x => (r.map cl).contains x) := by
   intro l
   induction l with
   | nil => intro _; rfl
   | cons x xs ih =>
    intro hl
    rw [List.all_cons, List.all_cons, ih (fun y hy => hl y (List.mem_cons_of_mem _ hy)), contains_cl r x (hl x List.mem_cons_self)]
  exact this _ (fun x hx => by have := List.mem_range.1 hx; omega)
 rw [e]
 have d1 : ∀ a : Fin 5, spn 1 [a.val] false false false false = (List.range 1).all (fun x => [a.val].contains x) := by decide +kernel
 have d2 : ∀ a b : Fin 5, spn 2 [a.val, b.val] false false false false = (List.range 2).all (fun x => [a.val, b.val].contains x) := by decide +kernel
 have d3 : ∀ a b c : Fin 5, spn 3 [a.val, b.val, c.val] false false false false = (List.range 3).all (fun x => [a.val, b.val, c.val].contains x) := by decide +kernel
 have d4 : ∀ a b c d : Fin 5, spn 4 [a.val, b.val, c.val, d.val] false false false false = (List.range 4).all (fun x => [a.val, b.val, c.val, d.val].contains x) := by decide +kernel
 match r, hr with
 | [], hr => simp at hr; omega
 | [a], hr =>
  obtain rfl : n = 1 := by simpa using hr.symm
  exact d1 ⟨cl a, cl_le a⟩
 | [a, b], hr =>
  obtain rfl : n = 2 := by simpa using hr.symm
  exact d2 ⟨cl a, cl_le a⟩ ⟨cl b, cl_le b⟩
 | [a, b, c], hr =>
  obtain rfl : n = 3 := by simpa using hr.symm
  exact d3 ⟨cl a, cl_le a⟩ ⟨cl b, cl_le b⟩ ⟨cl c, cl_le c⟩
 | [a, b, c, d], hr =>
  obtain rfl : n = 4 := by simpa using hr.symm
  exact d4 ⟨cl a, cl_le a⟩ ⟨cl b, cl_le b⟩ ⟨cl c, cl_le c⟩ ⟨cl d, cl_le d⟩
 | a :: b :: c :: d :: e :: f, hr => simp at hr; omega

theorem specIn2 (a b c : Int) : spec_l01In.f a b c = some (decide (b ≤ a ∧ a ≤ c)) := by
 unfold spec_l01In.f
 by_cases h : b ≤ a
 ·rw [if_pos h]; simp [h]
 ·rw [if_neg h]; simp [h]

theorem implWithin2 (a b c : Int) : impl_within.f a b c = some (decide (b ≤ a ∧ a ≤ c)) := by
 unfold impl_within.f
 by_cases h : b ≤ a
 ·rw [if_pos h]; simp [h]
 ·rw [if_neg h]; simp [h]

theorem specPerm_loop (n : Nat) (h1 : 1 ≤ n) (h4 : n ≤ 4) (r : List Int) (hr : r.length = n) : ∀ (d i : Nat) (m0 m1 m2 m3 : Bool), i + d = n →
  Ev (fun k => spec_l04Permutation.l0 k r (n : Int) m0 m1 m2 m3 (i : Int)) (spn n ((r.map cl).drop i) m0 m1 m2 m3) := by
 intro d
 induction d with
 | zero =>
  intro i m0 m1 m2 m3 hi
  rw [List.drop_eq_nil_of_le (by simp; omega)]
  refine Ev.succ ?_; simp only [spec_l04Permutation.l0]
  exact Ev.neg (by omega) (Ev.now _)
 | succ d ih =>
  intro i m0 m1 m2 m3 hi
  have hi' : i < (r.map cl).length := by simp; omega
  have hx : (r.map cl)[i] = cl (rd r (i : Int)) := by rw [List.getElem_map, rd_lt (by omega)]
  rw [List.drop_eq_getElem_cons hi', hx]
  refine Ev.succ ?_; simp only [spec_l04Permutation.l0]
  rw [wrap_id (x := (n : Int) - 1) (by omega) (by omega), specIn2, wrap_succ (i := i) (by omega)]
  refine Ev.pos (by omega) (Ev.pos (by omega) (Ev.bind (Ev.now _) ?_))
  have hn := cl_lt (rd r (i : Int)) n h4
  have e0 := cl_eq (rd r (i : Int)) 0 (by omega)
  have e1 := cl_eq (rd r (i : Int)) 1 (by omega)
  have e2 := cl_eq (rd r (i : Int)) 2 (by omega)
  have e3 := cl_eq (rd r (i : Int)) 3 (by omega)
  unfold spn
  by_cases c : cl (rd r (i : Int)) < n
  ·rw [if_pos c, decide_eq_true (hn.1 c)]
   refine Ev.pos rfl ?_
   by_cases c0 : cl (rd r (i : Int)) = 0
   ·rw [if_pos c0]
    refine Ev.pos (e0.1 c0) ?_
    cases m0 with
    | true => exact Ev.pos rfl (Ev.now _)
    | false => exact Ev.neg (by decide) (ih (i + 1) _ _ _ _ (by omega))
   ·rw [if_neg c0]
    refine Ev.neg (fun z => c0 (e0.2 z)) ?_
    by_cases c1 : cl (rd r (i : Int)) = 1
    ·rw [if_pos c1]
     refine Ev.pos (e1.1 c1) ?_
     cases m1 with
     | true => exact Ev.pos rfl (Ev.now _)
     | false => exact Ev.neg (by decide) (ih (i + 1) _ _ _ _ (by omega))
    ·rw [if_neg c1]
     refine Ev.neg (fun z => c1 (e1.2 z)) ?_
     by_cases c2 : cl (rd r (i : Int)) = 2
     ·rw [if_pos c2]
      refine Ev.pos (e2.1 c2) ?_
      cases m2 with
      | true => exact Ev.pos rfl (Ev.now _)
      | false => exact Ev.neg (by decide) (ih (i + 1) _ _ _ _ (by omega))
     ·rw [if_neg c2]
      refine Ev.neg (fun z => c2 (e2.2 z)) ?_
      have c3 : cl (rd r (i : Int)) = 3 := by omega
      refine Ev.pos (e3.1 c3) ?_
      cases m3 with
      | true => exact Ev.pos rfl (Ev.now _)
      | false => exact Ev.neg (by decide) (ih (i + 1) _ _ _ _ (by omega))
  ·rw [if_neg c, decide_eq_false (fun z => c (hn.2 z))]
   exact Ev.neg (by decide) (Ev.now _)

theorem specPerm (n : Nat) (h1 : 1 ≤ n) (h4 : n ≤ 4) (r : List Int) (hl : r.length ≤ 1048576) : Ev (fun k => spec_l04Permutation.f k r (n : Int)) (perm n r) := by
 unfold spec_l04Permutation.f
 by_cases hr : r.length = n
 ·have := specPerm_loop n h1 h4 r hr n 0 false false false false (by omega)
  rw [List.drop_zero, spn_perm n h1 h4 r hr] at this
  exact Ev.pos (by omega) this
 ·unfold perm
  rw [decide_eq_false hr, Bool.false_and]
  exact Ev.neg (by omega) (Ev.now _)

theorem libContains (r : List Int) (x : Int) (hl : r.length ≤ 1048576) : Ev (fun k => slices_Contains_int64_int64.f k r x) (r.contains x) := by
 have loop : ∀ (d i : Nat), i + d = r.length → ∃ z : Int, Ev (fun k => slices_Index_int64_int64.l0 k r x (r.length : Int) (i : Int)) z ∧ decide (z ≥ 0) = (r.drop i).contains x := by
  intro d
  induction d with
  | zero =>
   intro i hi
   refine ⟨-1, ?_, by rw [List.drop_eq_nil_of_le (by omega)]; rfl⟩
   refine Ev.succ ?_; simp only [slices_Index_int64_int64.l0]
   exact Ev.neg (by omega) (Ev.now _)
  | succ d ih =>
   intro i hi
   obtain ⟨z, h1, h2⟩ := ih (i + 1) (by omega)
   have hi' : i < r.length := by omega
   rw [List.drop_eq_getElem_cons hi', List.contains_cons, ← rd_lt hi']
   by_cases c : rd r (i : Int) = x
   ·refine ⟨(i : Int), ?_, by rw [show (x == rd r (i : Int)) = true from beq_iff_eq.2 c.symm, Bool.true_or]; simp⟩
    refine Ev.succ ?_; simp only [slices_Index_int64_int64.l0]
    repeat (first | with_reducible exact Ev.now _ | dsimp only | refine Ev.pos (by first | omega | rfl | assumption | decide) ?_ | refine Ev.neg (by first | omega | assumption | exact Bool.false_ne_true | exact fun e => absurd e (by decide)) ?_ | simp only [bne_self_eq_false, Bool.not_true, Bool.not_false, List.length_cons, List.length_nil] | rw [wrap_id (by omega) (by omega)] | ((with_reducible refine Ev.eq (congrArg some ?_)); rfl))
   ·refine ⟨z, ?_, by rw [show (x == rd r (i : Int)) = false from beq_eq_false_iff_ne.2 (fun e => c e.symm), Bool.false_or]; exact h2⟩
    refine Ev.succ ?_; simp only [slices_Index_int64_int64.l0]
    rw [wrap_succ (i := i) (by omega)]
    repeat (first | with_reducible exact Ev.now _ | dsimp only | refine Ev.pos (by first | omega | rfl | assumption | decide) ?_ | refine Ev.neg (by first | omega | assumption | exact Bool.false_ne_true | exact fun e => absurd e (by decide)) ?_ | simp only [bne_self_eq_false, Bool.not_true, Bool.not_false, List.length_cons, List.length_nil] | rw [wrap_id (by omega) (by omega)] | ((with_reducible refine Ev.eq (congrArg some ?_)); rfl))
    exact h1
 obtain ⟨z, h1, h2⟩ := loop r.length 0 (by omega)
 unfold slices_Contains_int64_int64.f slices_Index_int64_int64.f
 refine Ev.bind h1 ?_
 rw [h2, List.drop_zero]
 exact Ev.now _

theorem implOrder (n : Nat) (h4 : n ≤ 4) (r : List Int) (hl : r.length ≤ 1048576) : Ev (fun k => impl_isOrder.f k r (n : Int)) (perm n r) := by
 have loop : ∀ (d i : Nat), i + d = n → Ev (fun k => impl_isOrder.l0 k r (n : Int) (n : Int) (i : Int)) (((List.range n).drop i).all (fun x => r.contains (x : Int)) && decide (r.length = n)) := by
  intro d
  induction d with
  | zero =>
   intro i hi
   rw [List.drop_eq_nil_of_le (by simp; omega), List.all_nil, Bool.true_and]
   refine Ev.succ ?_; simp only [impl_isOrder.l0]
   refine Ev.neg (by omega) ?_
   rw [show decide (r.length = n) = ((r.length : Int) == (n : Int)) by
    by_cases c : r.length = n
    ·rw [decide_eq_true c, c]; exact (beq_iff_eq.2 rfl).symm
    ·rw [decide_eq_false c]; exact (beq_eq_false_iff_ne.2 (fun e => c (by omega))).symm]
   exact Ev.now _
  | succ d ih =>
   intro i hi
   have h1 := ih (i + 1) (by omega)
   have hi' : i < (List.range n).length := by simp; omega
   rw [List.drop_eq_getElem_cons hi', List.all_cons, List.getElem_range]
   have hc := libContains r (i : Int) hl
   refine Ev.succ ?_; simp only [impl_isOrder.l0]
   rw [wrap_succ (i := i) (by omega)]
   cases c : r.contains (i : Int) with
   | true =>
    rw [c] at hc
    rw [Bool.true_and]
    exact Ev.pos (by omega) (Ev.bind hc (Ev.pos rfl h1))
   | false =>
    rw [c] at hc
    rw [Bool.false_and, Bool.false_and]
    exact Ev.pos (by omega) (Ev.bind hc (Ev.neg (by decide) (Ev.now _)))
 have h0 := loop n 0 (by omega)
 unfold impl_isOrder.f perm
 rw [List.drop_zero, Bool.and_comm] at h0
 exact h0

def isCover (n : Int) (l : List (List Int)) (s : Int) (t : List (List Int)) : Bool :=
 isGraph n l && (decide (1 ≤ s ∧ s ≤ 4) && (decide (t.length = l.length) && t.all (perm s.toNat)))

theorem specIsCover (n : Int) (l : List (List Int)) (s : Int) (t : List (List Int)) (hl : Mod l) (ht : Mod t) : Ev (fun k => spec_l04Is.f k n l s t) (isCover n l s t) := by
 have h1 := specIs n l hl
 have hl1 := hl.1
 have ht1 := ht.1
 have bad : ∀ n l s t, Ev (fun k => spec_l04Is.j0 k true n l s t) false := fun n l s t => by
  refine Ev.succ ?_; simp only [spec_l04Is.j0]
  exact Ev.pos trivial (Ev.now _)
 unfold spec_l04Is.f isCover
 cases hg : isGraph n l with
 | false =>
  rw [hg] at h1
  rw [Bool.false_and]
  exact Ev.bind h1 (Ev.neg (by decide) (bad _ _ _ _))
 | true =>
  rw [hg] at h1
  rw [Bool.true_and, specIn2]
  refine Ev.bind h1 (Ev.pos rfl ?_)
  by_cases c : 1 ≤ s ∧ s ≤ 4
  ·rw [decide_eq_true c, Bool.true_and]
   refine Ev.bind (Ev.now _) (Ev.pos rfl ?_)
   by_cases c2 : t.length = l.length
   ·rw [decide_eq_true c2, Bool.true_and, c2, bne_self_eq_false]
    refine Ev.succ ?_; simp only [spec_l04Is.j0]
    refine Ev.neg (by decide) ?_
    obtain ⟨q, rfl⟩ := Int.eq_ofNat_of_zero_le (show 0 ≤ s by omega)
    have loop : ∀ (d i : Nat), i + d = t.length → Ev (fun k => spec_l04Is.l0 k (i : Int) n l (q : Int) t) ((t.drop i).all (perm q)) := by
     intro d
     induction d with
     | zero =>
      intro i hi
      rw [List.drop_eq_nil_of_le (by omega), List.all_nil]
      refine Ev.succ ?_; simp only [spec_l04Is.l0]
      exact Ev.neg (by omega) (Ev.now _)
     | succ d ih =>
      intro i hi
      have hi' : i < t.length := by omega
      have h2 := ih (i + 1) (by omega)
      have hp := specPerm q (by omega) (by omega) t[i] (ht.row hi')
      rw [← rl_lt hi'] at hp
      rw [List.drop_eq_getElem_cons hi', List.all_cons, ← rl_lt hi']
      refine Ev.succ ?_; simp only [spec_l04Is.l0]
      rw [wrap_succ (i := i) (by omega)]
      cases c3 : perm q (rd_L1 t (i : Int)) with
      | true =>
       rw [c3] at hp
       rw [Bool.true_and]
       exact Ev.pos (by omega) (Ev.pos (by omega) (Ev.bind hp (Ev.pos rfl h2)))
      | false =>
       rw [c3] at hp
       rw [Bool.false_and]
       exact Ev.pos (by omega) (Ev.pos (by omega) (Ev.bind hp (Ev.neg (by decide) (Ev.now _))))
    exact loop t.length 0 (by omega)
   ·rw [decide_eq_false c2, Bool.false_and, show ((t.length : Int) != (l.length : Int)) = true from bne_iff_ne.2 (by omega)]
    exact bad _ _ _ _
  ·rw [decide_eq_false c, Bool.false_and]
   exact Ev.bind (Ev.now _) (Ev.neg (by decide) (bad _ _ _ _))

theorem implIsCover (n : Int) (l : List (List Int)) (s : Int) (t : List (List Int)) (hl : Mod l) (ht : Mod t) : Ev (fun k => impl_IsCover.f k n l s t) (isCover n l s t) := by
 have h1 := implIsGraph n l hl
 have hl1 := hl.1
 have ht1 := ht.1
 unfold impl_IsCover.f isCover impl_Graph_size.f
 cases hg : isGraph n l with
 | false =>
  rw [hg] at h1
  rw [Bool.false_and]
  exact Ev.bind h1 (Ev.neg (by decide) (Ev.now _))
 | true =>
  rw [hg] at h1
  rw [Bool.true_and, implWithin2]
  refine Ev.bind h1 (Ev.pos rfl ?_)
  by_cases c : 1 ≤ s ∧ s ≤ 4
  ·rw [decide_eq_true c, Bool.true_and]
   refine Ev.bind (Ev.now _) (Ev.pos rfl (Ev.bind (Ev.now _) ?_))
   by_cases c2 : t.length = l.length
   ·rw [decide_eq_true c2, Bool.true_and]
    refine Ev.pos (by omega) ?_
    obtain ⟨q, rfl⟩ := Int.eq_ofNat_of_zero_le (show 0 ≤ s by omega)
    have loop : ∀ (d i : Nat), i + d = t.length → ∃ z : Int, Ev (fun k => slices_IndexFunc_int64_int64_148_at_IsCover_1.l0 k t (t.length : Int) (i : Int) n l (q : Int) t) z ∧ decide (z ≥ 0) = !(t.drop i).all (perm q) := by
     intro d
     induction d with
     | zero =>
      intro i hi
      refine ⟨-1, ?_, by rw [List.drop_eq_nil_of_le (by omega)]; rfl⟩
      refine Ev.succ ?_; simp only [slices_IndexFunc_int64_int64_148_at_IsCover_1.l0]
      exact Ev.neg (by omega) (Ev.now _)
     | succ d ih =>
      intro i hi
      obtain ⟨z, h2, h3⟩ := ih (i + 1) (by omega)
      have hi' : i < t.length := by omega
      have hp := implOrder q (by omega) t[i] (ht.row hi')
      rw [← rl_lt hi'] at hp
      have hp1 : Ev (fun k => impl_IsCover_1.f k (rd_L1 t (i : Int)) n l (q : Int) t) (!perm q (rd_L1 t (i : Int))) := by
       unfold impl_IsCover_1.f
       exact Ev.bind hp (Ev.now _)
      cases c3 : perm q (rd_L1 t (i : Int)) with
      | true =>
       rw [c3] at hp1
       refine ⟨z, ?_, by rw [List.drop_eq_getElem_cons hi', List.all_cons, ← rl_lt hi', c3, Bool.true_and]; exact h3⟩
       refine Ev.succ ?_; simp only [slices_IndexFunc_int64_int64_148_at_IsCover_1.l0]
       rw [wrap_succ (i := i) (by omega)]
       exact Ev.pos (by omega) (Ev.pos (by omega) (Ev.pos (by omega) (Ev.bind hp1 (Ev.neg (by decide) h2))))
      | false =>
       rw [c3] at hp1
       refine ⟨(i : Int), ?_, by rw [List.drop_eq_getElem_cons hi', List.all_cons, ← rl_lt hi', c3, Bool.false_and]; simp⟩
       refine Ev.succ ?_; simp only [slices_IndexFunc_int64_int64_148_at_IsCover_1.l0]
       exact Ev.pos (by omega) (Ev.pos (by omega) (Ev.pos (by omega) (Ev.bind hp1 (Ev.pos rfl (Ev.now _)))))
    obtain ⟨z, h2, h3⟩ := loop t.length 0 (by omega)
    rw [List.drop_zero] at h3
    unfold slices_ContainsFunc_int64_int64_131_at_IsCover_1.f slices_IndexFunc_int64_int64_148_at_IsCover_1.f
    refine Ev.bind (Ev.bind h2 (Ev.now _)) ?_
    rw [h3, Bool.not_not]
    exact Ev.now _
   ·rw [decide_eq_false c2, Bool.false_and]
    exact Ev.neg (by omega) (Ev.now _)
  ·rw [decide_eq_false c, Bool.false_and]
   exact Ev.bind (Ev.now _) (Ev.neg (by decide) (Ev.now _))

theorem szCover (n : Int) (l : List (List Int)) (s : Int) (t : List (List Int)) (hl : l.length ≤ maxLen) (hr : ∀ r ∈ l, r.length ≤ maxLen ∧ ∀ y ∈ r, (Lit.int .i64 y).wf = true) (hl' : t.length ≤ maxLen) (hr' : ∀ r ∈ t, r.length ≤ maxLen ∧ ∀ y ∈ r, (Lit.int .i64 y).wf = true) : ∃ z, Ev (fun k => laws_szCover.f k n l s t 1048576) z ∧ (z < 0 ∨ (Mod l ∧ Mod t)) := by
 unfold laws_szCover.f laws_szGraph.f
 obtain ⟨z, h1, h2⟩ := szInt64SS l 1048576 (by omega) (by omega) (by simp [maxLen] at hl; omega) (fun r h => by have := (hr r h).1; simp [maxLen] at this; omega)
 by_cases c : z < 0
 ·exact ⟨-1, Ev.bind (Ev.bind h1 (Ev.pos c (Ev.now _))) (Ev.pos (by decide) (Ev.now _)), .inl (by omega)⟩
 ·obtain ⟨m1, z0, z1⟩ := h2.resolve_left c
  obtain ⟨y, h3, h4⟩ := szInt64SS t z z0 z1 (by simp [maxLen] at hl'; omega) (fun r h => by have := (hr' r h).1; simp [maxLen] at this; omega)
  by_cases c2 : y < 0
  ·exact ⟨-1, Ev.bind (Ev.bind h1 (Ev.neg c (Ev.now _))) (Ev.neg c (Ev.bind h3 (Ev.pos c2 (Ev.now _)))), .inl (by omega)⟩
  ·exact ⟨y, Ev.bind (Ev.bind h1 (Ev.neg c (Ev.now _))) (Ev.neg c (Ev.bind h3 (Ev.neg c2 (Ev.now _)))), .inr ⟨m1, (h4.resolve_left c2).1⟩⟩

theorem toCover (n : Int) (l : List (List Int)) (s : Int) (t : List (List Int)) (hl : Mod l) (ht : Mod t) : Ev (fun k => laws_toCover.f k n l s t) (n, l, s, t) := by
 unfold laws_toCover.f
 exact Ev.bind (toGraph n l hl) (Ev.bind (toInt64SS t ht) (Ev.now _))

theorem eqCover_self (n : Int) (l : List (List Int)) (s : Int) (t : List (List Int)) (hl : Mod l) (ht : Mod t) : Ev (fun k => laws_eqCover.f k n l s t n l s t) true := by
 unfold laws_eqCover.f
 exact Ev.bind (eqGraph_self n l hl) (Ev.pos rfl (Ev.pos rfl (Ev.bind (eqInt64SS_self t ht) (Ev.pos rfl (Ev.now _)))))
/-- The first place from i on, of d places, where x stands. -/
def ix (r : List Int) (x : Int) : Nat → Nat → Nat
 | 0, i => i
 | d + 1, i => if rd r (i : Int) = x then i else ix r x d (i + 1)

theorem ix_spec (r : List Int) (x : Int) : ∀ (d i : Nat), i + d = r.length → (∃ j, i ≤ j ∧ j < r.length ∧ rd r (j : Int) = x) → i ≤ ix r x d i ∧ ix r x d i < r.length := by
 intro d
 induction d with
 | zero => intro i hi ⟨j, h1, h2, _⟩; omega
 | succ d ih =>
  intro i hi ⟨j, h1, h2, h3⟩
  unfold ix
  by_cases c : rd r (i : Int) = x
  ·rw [if_pos c]; omega
  ·rw [if_neg c]
   have := ih (i + 1) (by omega) ⟨j, by
    apply Classical.byContradiction
    intro z
    exact c (by rw [show i = j by omega]; exact h3), h2, h3⟩
   omega

theorem perm_spec {q : Nat} {r : List Int} (h : perm q r = true) (h1 : 1 ≤ q) (h4 : q ≤ 4) : r.length = q ∧ (∀ i : Nat, i < q → 0 ≤ rd r (i : Int) ∧ rd r (i : Int) < q) ∧ (∀ x : Nat, x < q → ∃ j, j < r.length ∧ rd r (j : Int) = x) := by
 have hl : r.length = q := by
  unfold perm at h
  rw [Bool.and_eq_true, decide_eq_true_iff] at h
  exact h.1
 refine ⟨hl, fun i hi => ?_, fun x hx => ?_⟩
 ·rw [← spn_perm q h1 h4 r hl] at h
  have : ∀ (l : List Nat) (m0 m1 m2 m3 : Bool), spn q l m0 m1 m2 m3 = true → ∀ y ∈ l, y < q := by
   intro l
   induction l with
   | nil => intro _ _ _ _ _ y hy; simp at hy
   | cons z zs ih =>
    intro m0 m1 m2 m3 hs y hy
    unfold spn at hs
    by_cases c : z < q
    ·rcases List.mem_cons.1 hy with e | e
     ·rw [e]; exact c
     ·rw [if_pos c] at hs
      split at hs
      ·split at hs
       ·cases hs
       ·exact ih _ _ _ _ hs y e
      ·split at hs
       ·split at hs
        ·cases hs
        ·exact ih _ _ _ _ hs y e
       ·split at hs
        ·split at hs
         ·cases hs
         ·exact ih _ _ _ _ hs y e
        ·split at hs
         ·cases hs
         ·exact ih _ _ _ _ hs y e
    ·rw [if_neg c] at hs
     cases hs
  have := this _ _ _ _ _ h (cl (rd r (i : Int))) (List.mem_map_of_mem (rd_mem (by omega)))
  have := (cl_lt (rd r (i : Int)) q h4).1 this
  omega
 ·unfold perm at h
  rw [Bool.and_eq_true] at h
  have := List.all_eq_true.1 h.2 x (List.mem_range.2 hx)
  rw [List.contains_iff_mem] at this
  obtain ⟨j, hj, e⟩ := List.getElem_of_mem this
  exact ⟨j, hj, by rw [rd_lt hj, e]⟩

/-- One edge's step from a sheet. -/
def st (t : List (List Int)) (e : Nat) (x : Int) : Int := if e % 2 = 0 then rd (rd_L1 t ((e / 2 : Nat) : Int)) x else ((ix (rd_L1 t ((e / 2 : Nat) : Int)) x (rd_L1 t ((e / 2 : Nat) : Int)).length 0 : Nat) : Int)

def stp (t : List (List Int)) (w : List Int) : Nat → Nat → Int → Int
 | 0, _, x => x
 | d + 1, i, x => stp t w d (i + 1) (st t (rd w (i : Int)).toNat x)

theorem cover_parts {n : Int} {l : List (List Int)} {s : Int} {t : List (List Int)} (h : isCover n l s t = true) : isGraph n l = true ∧ ∃ q : Nat, s = (q : Int) ∧ 1 ≤ q ∧ q ≤ 4 ∧ t.length = l.length ∧ ∀ i : Nat, i < t.length → perm q (rd_L1 t (i : Int)) = true := by
 unfold isCover at h
 rw [Bool.and_eq_true, Bool.and_eq_true, Bool.and_eq_true, decide_eq_true_iff, decide_eq_true_iff] at h
 obtain ⟨h1, ⟨h2, h3⟩, h4, h5⟩ := h
 refine ⟨h1, s.toNat, by omega, by omega, by omega, h4, fun i hi => ?_⟩
 rw [rl_lt hi]
 exact List.all_eq_true.1 h5 _ (List.getElem_mem hi)

section
variable {n : Int} {l : List (List Int)} {q : Nat} {t : List (List Int)} (hg : isGraph n l = true) (hq1 : 1 ≤ q) (hq4 : q ≤ 4) (htl : t.length = l.length) (htp : ∀ i : Nat, i < t.length → perm q (rd_L1 t (i : Int)) = true) {w : List Int} (hd : dirs l w = true) (hw : w.length ≤ 20)
include hg hq1 hq4 htl htp hd hw

omit hg hw in
theorem st_range (i : Nat) (hi : i < w.length) (x : Nat) (hx : x < q) : ∃ y : Nat, st t (rd w (i : Int)).toNat (x : Int) = (y : Int) ∧ y < q := by
 obtain ⟨e1, r1⟩ := dirs_at hd hi
 obtain ⟨p1, p2, p3⟩ := perm_spec (htp ((rd w (i : Int)).toNat / 2) (by omega)) hq1 hq4
 unfold st
 split
 ·have := p2 x hx
  exact ⟨(rd (rd_L1 t (((rd w (i : Int)).toNat / 2 : Nat) : Int)) (x : Int)).toNat, by omega, by omega⟩
 ·obtain ⟨j, hj, e⟩ := p3 x hx
  have := ix_spec (rd_L1 t (((rd w (i : Int)).toNat / 2 : Nat) : Int)) (x : Int) _ 0 (Nat.zero_add _) ⟨j, by omega, hj, e⟩
  exact ⟨_, rfl, by omega⟩

omit hg hw in
theorem stp_range : ∀ (d i x : Nat), i + d = w.length → x < q → ∃ y : Nat, stp t w d i (x : Int) = (y : Int) ∧ y < q := by
 intro d
 induction d with
 | zero => intro i x _ hx; exact ⟨x, rfl, hx⟩
 | succ d ih =>
  intro i x hi hx
  obtain ⟨y, hy, hyq⟩ := st_range hq1 hq4 htl htp hd i (by omega) x hx
  unfold stp
  rw [hy]
  exact ih (i + 1) y (by omega) hyq

omit hq1 hq4 htp hw in
theorem half' (i : Nat) (hi : i < w.length) : wrap64 (Int.tdiv (rd w (i : Int)) 2) = (((rd w (i : Int)).toNat / 2 : Nat) : Int) ∧ Int.tmod (rd w (i : Int)) 2 = (((rd w (i : Int)).toNat % 2 : Nat) : Int) ∧ (rd w (i : Int)).toNat / 2 < t.length := by
 obtain ⟨g1, g2, g3⟩ := graph_small hg
 obtain ⟨e1, r1⟩ := dirs_at hd hi
 have h1 := half (rd w (i : Int)).toNat (by omega)
 have h2 := rest2 (rd w (i : Int)).toNat
 rw [← e1] at h1 h2
 exact ⟨h1, h2, by omega⟩

omit hg hq1 hq4 htl htp hd in
theorem specSearch (x6 : List Int) (x7 : Int) (i : Nat) (hi : i < w.length) (r : List Int) (hr : r.length ≤ 100) (x : Int) (res : List Int × Int) : ∀ (d j : Nat), j + d = r.length → (∃ p, j ≤ p ∧ p < r.length ∧ rd r (p : Int) = x) →
  Ev (fun k => spec_l04Walk.l1 k w x6 x7 ((ix r x d j : Nat) : Int) ((i + 1 : Nat) : Int) n l (q : Int) t) res → Ev (fun k => spec_l04Walk.l2 k w x6 x7 x (i : Int) r (j : Int) n l (q : Int) t) res := by
 intro d
 induction d with
 | zero => intro j hj ⟨p, h1, h2, _⟩; omega
 | succ d ih =>
  intro j hj ⟨p, h1, h2, h3⟩ hres
  unfold ix at hres
  refine Ev.succ ?_; simp only [spec_l04Walk.l2]
  rw [wrap_succ (i := i) (by omega), wrap_succ (i := j) (by omega)]
  by_cases c : rd r (j : Int) = x
  ·rw [if_pos c] at hres
   exact Ev.pos (by omega) (Ev.pos (by omega) (Ev.pos c hres))
  ·rw [if_neg c] at hres
   refine Ev.pos (by omega) (Ev.pos (by omega) (Ev.neg c (ih (j + 1) (by omega) ⟨p, ?_, h2, h3⟩ hres)))
   apply Classical.byContradiction
   intro z
   exact c (by rw [show j = p by omega]; exact h3)

theorem specPSteps (x6 : List Int) (h6 : x6.length ≤ 100) (sh : Nat) (hsh : sh < 4) (res : List Int × Int) : ∀ (d i : Nat) (x : Nat), i + d = w.length → x < q →
  (Ev (fun k => spec_l04Walk.l0 k w (x6 ++ [stp t w d i (x : Int)]) ((sh + 1 : Nat) : Int) n l (q : Int) t) res) → Ev (fun k => spec_l04Walk.l1 k w x6 (sh : Int) (x : Int) (i : Int) n l (q : Int) t) res := by
 intro d
 induction d with
 | zero =>
  intro i x hi hx hres
  refine Ev.succ ?_; simp only [spec_l04Walk.l1]
  rw [wrap_succ (i := sh) (by omega)]
  exact Ev.neg (by omega) (Ev.pos (by omega) hres)
 | succ d ih =>
  intro i x hi hx hres
  obtain ⟨a1, a2, a3⟩ := half' hg htl hd i (by omega)
  obtain ⟨p1, p2, p3⟩ := perm_spec (htp ((rd w (i : Int)).toNat / 2) a3) hq1 hq4
  obtain ⟨y, hy, hyq⟩ := st_range hq1 hq4 htl htp hd i (by omega) x hx
  have hres' : Ev (fun k => spec_l04Walk.l0 k w (x6 ++ [stp t w d (i + 1) (y : Int)]) ((sh + 1 : Nat) : Int) n l (q : Int) t) res := by
   rw [← hy]; exact hres
  have h1 := ih (i + 1) y (by omega) hyq hres'
  refine Ev.succ ?_; simp only [spec_l04Walk.l1]
  rw [a1, a2, wrap_succ (i := i) (by omega)]
  refine Ev.pos (by omega) (Ev.pos (by omega) (Ev.pos (by omega) (Ev.pos (by omega) ?_)))
  unfold st at hy
  by_cases c : (rd w (i : Int)).toNat % 2 = 0
  ·rw [if_pos c] at hy
   rw [hy]
   exact Ev.pos (by omega) (Ev.pos (by omega) (Ev.pos (by omega) h1))
  ·rw [if_neg c] at hy
   obtain ⟨j, hj, e⟩ := p3 x hx
   rw [← hy] at h1
   exact Ev.neg (by omega) (specSearch hw x6 (sh : Int) i (by omega) _ (by omega) (x : Int) res _ 0 (Nat.zero_add _) ⟨j, by omega, hj, e⟩ h1)

theorem specSheets : ∀ (d sh : Nat), sh + d = q → Ev (fun k => spec_l04Walk.l0 k w ((List.range sh).map (fun x : Nat => stp t w w.length 0 (x : Int))) (sh : Int) n l (q : Int) t) ((List.range q).map (fun x : Nat => stp t w w.length 0 (x : Int)), 0) := by
 intro d
 induction d with
 | zero =>
  intro sh hsh
  obtain rfl : sh = q := by omega
  refine Ev.succ ?_; simp only [spec_l04Walk.l0]
  exact Ev.neg (by omega) (Ev.now _)
 | succ d ih =>
  intro sh hsh
  have h1 := ih (sh + 1) (by omega)
  rw [map_range_succ] at h1
  have h2 := specPSteps hg hq1 hq4 htl htp hd hw _ (by simp; omega) sh (by omega) _ w.length 0 sh (by omega) (by omega) h1
  refine Ev.succ ?_; simp only [spec_l04Walk.l0]
  exact Ev.pos (by omega) h2

omit hg hq1 hq4 htl htp hd hw in
theorem libIndexIx (r : List Int) (hr : r.length ≤ 100) (x : Int) : ∀ (d j : Nat), j + d = r.length → (∃ p, j ≤ p ∧ p < r.length ∧ rd r (p : Int) = x) → Ev (fun k => slices_Index_int64_int64.l0 k r x (r.length : Int) (j : Int)) ((ix r x d j : Nat) : Int) := by
 intro d
 induction d with
 | zero => intro j hj ⟨p, h1, h2, _⟩; omega
 | succ d ih =>
  intro j hj ⟨p, h1, h2, h3⟩
  unfold ix
  refine Ev.succ ?_; simp only [slices_Index_int64_int64.l0]
  rw [wrap_succ (i := j) (by omega)]
  by_cases c : rd r (j : Int) = x
  ·rw [if_pos c]
   repeat (first | with_reducible exact Ev.now _ | dsimp only | refine Ev.pos (by first | omega | rfl | assumption | decide) ?_ | refine Ev.neg (by first | omega | assumption | exact Bool.false_ne_true | exact fun e => absurd e (by decide)) ?_ | simp only [bne_self_eq_false, Bool.not_true, Bool.not_false, List.length_cons, List.length_nil] | rw [wrap_id (by omega) (by omega)] | ((with_reducible refine Ev.eq (congrArg some ?_)); rfl))
  ·rw [if_neg c]
   have := ih (j + 1) (by omega) ⟨p, by
    apply Classical.byContradiction
    intro z
    exact c (by rw [show j = p by omega]; exact h3), h2, h3⟩
   repeat (first | with_reducible exact Ev.now _ | dsimp only | refine Ev.pos (by first | omega | rfl | assumption | decide) ?_ | refine Ev.neg (by first | omega | assumption | exact Bool.false_ne_true | exact fun e => absurd e (by decide)) ?_ | simp only [bne_self_eq_false, Bool.not_true, Bool.not_false, List.length_cons, List.length_nil] | rw [wrap_id (by omega) (by omega)] | ((with_reducible refine Ev.eq (congrArg some ?_)); rfl))
   exact this

theorem implPSteps (x12 : List Int) (h6 : x12.length ≤ 100) (sh : Nat) (hsh : sh < 4) (res : List Int × Int) : ∀ (d i : Nat) (x : Nat), i + d = w.length → x < q →
  (Ev (fun k => impl_PermutationOfWalk.l1 k w (x12 ++ [stp t w d i (x : Int)]) (q : Int) ((sh + 1 : Nat) : Int) n l (q : Int) t) res) → Ev (fun k => impl_PermutationOfWalk.l2 k w x12 (x : Int) (q : Int) (sh : Int) w (w.length : Int) (i : Int) n l (q : Int) t) res := by
 intro d
 induction d with
 | zero =>
  intro i x hi hx hres
  refine Ev.succ ?_; simp only [impl_PermutationOfWalk.l2]
  rw [wrap_succ (i := sh) (by omega)]
  exact Ev.neg (by omega) (Ev.pos (by omega) hres)
 | succ d ih =>
  intro i x hi hx hres
  obtain ⟨a1, a2, a3⟩ := half' hg htl hd i (by omega)
  obtain ⟨p1, p2, p3⟩ := perm_spec (htp ((rd w (i : Int)).toNat / 2) a3) hq1 hq4
  obtain ⟨y, hy, hyq⟩ := st_range hq1 hq4 htl htp hd i (by omega) x hx
  have hres' : Ev (fun k => impl_PermutationOfWalk.l1 k w (x12 ++ [stp t w d (i + 1) (y : Int)]) (q : Int) ((sh + 1 : Nat) : Int) n l (q : Int) t) res := by
   rw [← hy]; exact hres
  have h1 := ih (i + 1) y (by omega) hyq hres'
  refine Ev.succ ?_; simp only [impl_PermutationOfWalk.l2]
  rw [a1, a2, wrap_succ (i := i) (by omega)]
  refine Ev.pos (by omega) (Ev.pos (by omega) (Ev.pos (by omega) (Ev.pos (by omega) (Ev.pos (by omega) ?_))))
  unfold st at hy
  by_cases c : (rd w (i : Int)).toNat % 2 = 0
  ·rw [if_pos c] at hy
   rw [hy]
   exact Ev.pos (by omega) (Ev.pos (by omega) (Ev.pos (by omega) h1))
  ·rw [if_neg c] at hy
   obtain ⟨j, hj, e⟩ := p3 x hx
   rw [← hy] at h1
   have h2 := libIndexIx (rd_L1 t (((rd w (i : Int)).toNat / 2 : Nat) : Int)) (by omega) (x : Int) _ 0 (Nat.zero_add _) ⟨j, by omega, hj, e⟩
   refine Ev.neg (by omega) (Ev.bind ?_ h1)
   unfold slices_Index_int64_int64.f
   exact h2

theorem implSheets : ∀ (d sh : Nat), sh + d = q → Ev (fun k => impl_PermutationOfWalk.l1 k w ((List.range sh).map (fun x : Nat => stp t w w.length 0 (x : Int))) (q : Int) (sh : Int) n l (q : Int) t) ((List.range q).map (fun x : Nat => stp t w w.length 0 (x : Int)), 0) := by
 intro d
 induction d with
 | zero =>
  intro sh hsh
  obtain rfl : sh = q := by omega
  refine Ev.succ ?_; simp only [impl_PermutationOfWalk.l1]
  exact Ev.neg (by omega) (Ev.now _)
 | succ d ih =>
  intro sh hsh
  have h1 := ih (sh + 1) (by omega)
  rw [map_range_succ] at h1
  have h2 := implPSteps hg hq1 hq4 htl htp hd hw _ (by simp; omega) sh (by omega) _ w.length 0 sh (by omega) (by omega) h1
  refine Ev.succ ?_; simp only [impl_PermutationOfWalk.l1]
  exact Ev.pos (by omega) h2

theorem implMeet (hw0 : 0 < w.length) : ∀ (d i : Nat), i + d = w.length → Ev (fun k => impl_PermutationOfWalk.l0 k w w (w.length : Int) (i : Int) n l (q : Int) t) (if cycA l w d i = true then ((List.range q).map (fun x : Nat => stp t w w.length 0 (x : Int)), 0) else ([], 5)) := by
 obtain ⟨g1, g2, g3⟩ := graph_small hg
 intro d
 induction d with
 | zero =>
  intro i hi
  unfold cycA
  rw [if_pos rfl]
  refine Ev.succ ?_; simp only [impl_PermutationOfWalk.l0]
  exact Ev.neg (by omega) (implSheets hg hq1 hq4 htl htp hd hw q 0 (by omega))
 | succ d ih =>
  intro i hi
  have hm : (i + 1) % w.length < w.length := Nat.mod_lt _ (by omega)
  obtain ⟨e1, r1⟩ := dirs_at hd (show i < w.length by omega)
  obtain ⟨e2, r2⟩ := dirs_at hd hm
  have h1 := ih (i + 1) (by omega)
  have ha := implEnds hg r1
  have hb := implEnds hg r2
  rw [← e1] at ha
  rw [← e2] at hb
  refine Ev.succ ?_; simp only [impl_PermutationOfWalk.l0]
  unfold cycA
  rw [mod_next i w.length (by omega), wrap_succ (by omega)]
  by_cases c1 : Pure.hd l (rd w (i : Int)).toNat = tl l (rd w (((i + 1) % w.length : Nat) : Int)).toNat
  ·rw [decide_eq_true c1, Bool.true_and]
   repeat (first | with_reducible exact Ev.now _ | dsimp only | with_reducible refine Ev.bind (Ev.eq ha) ?_ | with_reducible refine Ev.bind (Ev.eq hb) ?_ | refine Ev.pos (by first | omega | rfl | assumption | decide) ?_ | refine Ev.neg (by first | omega | assumption | exact Bool.false_ne_true | exact fun e => absurd e (by decide)) ?_ | simp only [bne_self_eq_false, Bool.not_true, Bool.not_false, List.length_cons, List.length_nil] | rw [wrap_id (by omega) (by omega)] | with_reducible exact (Ev.eq ha) | with_reducible exact (Ev.eq hb) | ((with_reducible refine Ev.eq (congrArg some ?_)); rfl))
   exact h1
  ·rw [decide_eq_false c1, Bool.false_and, if_neg (by decide)]
   repeat (first | with_reducible exact Ev.now _ | dsimp only | with_reducible refine Ev.bind (Ev.eq ha) ?_ | with_reducible refine Ev.bind (Ev.eq hb) ?_ | refine Ev.pos (by first | omega | rfl | assumption | decide) ?_ | refine Ev.neg (by first | omega | assumption | exact Bool.false_ne_true | exact fun e => absurd e (by decide)) ?_ | simp only [bne_self_eq_false, Bool.not_true, Bool.not_false, List.length_cons, List.length_nil] | rw [wrap_id (by omega) (by omega)] | with_reducible exact (Ev.eq ha) | with_reducible exact (Ev.eq hb) | ((with_reducible refine Ev.eq (congrArg some ?_)); rfl))

end

/-- Both answer alike; without an error: as many numbers as sheets, each a sheet. -/
def goodw (s : Int) (r : List Int × Int) : Prop := r.2 = 0 → (r.1.length : Int) = s ∧ r.1.length ≤ 4 ∧ ∀ i : Nat, i < r.1.length → 0 ≤ rd r.1 (i : Int) ∧ rd r.1 (i : Int) < s

theorem permw_same (n : Int) (l : List (List Int)) (s : Int) (t : List (List Int)) (w : List Int) (hl : Mod l) (ht : Mod t) (hw : w.length ≤ 1048576) : ∃ r : List Int × Int, r.1.length ≤ 1048576 ∧ goodw s r ∧ Ev (fun k => spec_l04Walk.f k n l s t w) r ∧ Ev (fun k => impl_PermutationOfWalk.f k n l s t w) r := by
 unfold impl_PermutationOfWalk.f spec_l04Walk.f
 have h1 := specIsCover n l s t hl ht
 have h2 := implIsCover n l s t hl ht
 cases hc : isCover n l s t with
 | false =>
  rw [hc] at h1 h2
  exact ⟨([], 1), by simp, fun h => absurd h (by decide), Ev.bind h1 (Ev.neg (by decide) (Ev.now _)), Ev.bind h2 (Ev.neg (by decide) (Ev.now _))⟩
 | true =>
  rw [hc] at h1 h2
  obtain ⟨hg, q, rfl, hq1, hq4, htl, htp⟩ := cover_parts hc
  have bad : Ev (fun k => spec_l04Walk.j0 k w true n l (q : Int) t) (([] : List Int), (2 : Int)) := by
   refine Ev.succ ?_; simp only [spec_l04Walk.j0]
   exact Ev.pos trivial (Ev.now _)
  rw [implWithin2]
  have hdi := implDirs hg hw
  have hds := specDirected hg hw
  by_cases c0 : w.length = 0
  ·refine ⟨([], 2), by simp, fun h => absurd h (by decide), Ev.bind h1 (Ev.pos rfl (Ev.pos (by omega) bad)), Ev.bind h2 (Ev.pos rfl ?_)⟩
   rw [decide_eq_false (by omega)]
   exact Ev.bind (Ev.now _) (Ev.neg (by decide) (Ev.now _))
  by_cases c20 : w.length ≤ 20
  ·cases hd : dirs l w with
   | false =>
    rw [hd] at hdi hds
    rw [Bool.false_and] at hds
    refine ⟨([], 2), by simp, fun h => absurd h (by decide), Ev.bind h1 (Ev.pos rfl (Ev.neg (by omega) (Ev.bind hds bad))), Ev.bind h2 (Ev.pos rfl ?_)⟩
    rw [decide_eq_true (by omega)]
    exact Ev.bind (Ev.now _) (Ev.pos rfl (Ev.bind hdi (Ev.neg (by decide) (Ev.now _))))
   | true =>
    rw [hd] at hdi hds
    rw [Bool.true_and, decide_eq_true (show (w.length : Int) ≤ 20 by omega)] at hds
    have hm := implMeet hg hq1 hq4 htl htp hd c20 (by omega) w.length 0 (by omega)
    have hs := specClosed_loop hg hd hw w.length 0 (by omega)
    rw [decide_eq_true (show (w.length : Int) > 0 by omega), Bool.and_true] at hs
    have hs2 := specSheets hg hq1 hq4 htl htp hd c20 q 0 (by omega)
    obtain ⟨R, hR⟩ : ∃ R : List Int × Int, R = (if cycA l w w.length 0 = true then ((List.range q).map (fun x : Nat => stp t w w.length 0 (x : Int)), 0) else ([], 5)) := ⟨_, rfl⟩
    have hlen : R.1.length ≤ 1048576 := by
     rw [hR]
     split
     ·simp; omega
     ·simp
    have hgood : goodw (q : Int) R := by
     rw [hR]
     split
     ·intro _
      refine ⟨by simp, by simp; omega, fun i hi => ?_⟩
      simp only [List.length_map, List.length_range] at hi
      obtain ⟨y, hy, hyq⟩ := stp_range hq1 hq4 htl htp hd w.length 0 i (by omega) hi
      rw [rd_map_range (fun x : Nat => stp t w w.length 0 (x : Int)) hi, hy]
      omega
     ·exact fun h => absurd h (by decide)
    have h3 : Ev (fun k => spec_l04Walk.j0 k w false n l (q : Int) t) R := by
     refine Ev.succ ?_; simp only [spec_l04Walk.j0]
     refine Ev.neg (by decide) (Ev.bind (a := cycA l w w.length 0) ?_ ?_)
     ·unfold spec_l02Closed.f
      exact hs
     ·rw [hR]
      cases cycA l w w.length 0 with
      | true => exact Ev.pos rfl hs2
      | false => exact Ev.neg (by decide) (Ev.now _)
    rw [← hR] at hm
    refine ⟨R, hlen, hgood, Ev.bind h1 (Ev.pos rfl (Ev.neg (by omega) (Ev.bind hds h3))), Ev.bind h2 (Ev.pos rfl ?_)⟩
    rw [decide_eq_true (by omega)]
    exact Ev.bind (Ev.now _) (Ev.pos rfl (Ev.bind hdi (Ev.pos rfl hm)))
  ·rw [decide_eq_false (show ¬ (w.length : Int) ≤ 20 by omega), Bool.and_false] at hds
   refine ⟨([], 2), by simp, fun h => absurd h (by decide), Ev.bind h1 (Ev.pos rfl (Ev.neg (by omega) (Ev.bind hds bad))), Ev.bind h2 (Ev.pos rfl ?_)⟩
   rw [decide_eq_false (by omega)]
   exact Ev.bind (Ev.now _) (Ev.neg (by decide) (Ev.now _))

theorem markRows_any : ∀ (d i : Nat) (xs : List (List Int)) (a : Int), i + d = xs.length → xs.length ≤ 1048576 → (∀ r ∈ xs, r.length ≤ 1048576) → 0 ≤ a → a ≤ 1099511627777 + 1048576 * i →
  ∃ r : Int × List (List Int), Ev (fun k => laws_markInt64SS.l0 k xs a (i : Int)) r ∧ 0 ≤ r.1 ∧ r.1 ≤ 1099511627777 + 1048576 * xs.length := by
 intro d
 induction d with
 | zero =>
  intro i xs a hi hx hr h0 h1
  refine ⟨(a, xs), ?_, h0, by simp only; omega⟩
  refine Ev.succ ?_; simp only [laws_markInt64SS.l0]
  repeat (first | with_reducible exact Ev.now _ | dsimp only | refine Ev.pos (by first | omega | rfl | assumption | decide) ?_ | refine Ev.neg (by first | omega | assumption | exact Bool.false_ne_true | exact fun e => absurd e (by decide)) ?_ | simp only [bne_self_eq_false, Bool.not_true, Bool.not_false, List.length_cons, List.length_nil] | rw [wrap_id (by omega) (by omega)] | ((with_reducible refine Ev.eq (congrArg some ?_)); rfl))
 | succ d ih =>
  intro i xs a hi hx hr h0 h1
  have hlen : xs[i].length ≤ 1048576 := hr _ (List.getElem_mem (by omega))
  obtain ⟨r, h2, h3⟩ := ih (i + 1) (xs.set i (marks a xs[i].length)) (a + xs[i].length) (by simp; omega) (by simpa using hx) (fun r hm => by
   rcases List.mem_or_eq_of_mem_set hm with h | h
   ·exact hr r h
   ·rw [h, marks_length]; exact hlen) (by omega) (by omega)
  rw [List.length_set] at h3
  refine ⟨r, ?_, h3⟩
  refine Ev.succ ?_; simp only [laws_markInt64SS.l0]
  rw [wrap_succ (by omega), rl_lt (by omega)]
  repeat (first | with_reducible exact Ev.now _ | dsimp only | with_reducible refine Ev.bind (markInt64S xs[i] hlen a h0 (by omega)) ?_ | refine Ev.pos (by first | omega | rfl | assumption | decide) ?_ | refine Ev.neg (by first | omega | assumption | exact Bool.false_ne_true | exact fun e => absurd e (by decide)) ?_ | simp only [bne_self_eq_false, Bool.not_true, Bool.not_false, List.length_cons, List.length_nil] | rw [wrap_id (by omega) (by omega)] | with_reducible exact (markInt64S xs[i] hlen a h0 (by omega)) | ((with_reducible refine Ev.eq (congrArg some ?_)); rfl))
  exact h2

theorem markCover (n : Int) (l : List (List Int)) (s : Int) (t : List (List Int)) (hl : Mod l) (ht : Mod t) : ∃ r : Int × List (List Int) × List (List Int), Ev (fun k => laws_markCover.f k n l s t 1) r ∧ 0 ≤ r.1 ∧ r.1 ≤ 2199023255553 := by
 obtain ⟨p, h1, h2, h3⟩ := markGraph n l hl
 unfold laws_markCover.f laws_markInt64SS.f
 have ht1 := ht.1
 obtain ⟨r, h4, h5, h6⟩ := markRows_any t.length 0 t p.1 (by omega) ht.1 ht.2 h2 (by omega)
 exact ⟨(r.1, p.2, r.2), Ev.bind h1 (Ev.bind h4 (Ev.now _)), h5, by show r.1 ≤ _; omega⟩
theorem spec_tow_free (n : Int) (l : List (List Int)) (q : Int) (t : List (List Int)) : ∀ k, (∀ x6 x8 x9 x10, spec_TypeOfWalk.l0 k x6 x8 x9 x10 n l q t = spec_TypeOfWalk.l0 k x6 x8 x9 x10 0 [] q []) ∧ (∀ x6 x8 x9 x10 x11 x12, spec_TypeOfWalk.l1 k x6 x8 x9 x10 x11 x12 n l q t = spec_TypeOfWalk.l1 k x6 x8 x9 x10 x11 x12 0 [] q []) ∧ (∀ x6 x8 x9 x10 x11 x13, spec_TypeOfWalk.l2 k x6 x8 x9 x10 x11 x13 n l q t = spec_TypeOfWalk.l2 k x6 x8 x9 x10 x11 x13 0 [] q []) := by
 intro k
 induction k with
 | zero => exact ⟨fun _ _ _ _ => rfl, fun _ _ _ _ _ _ => rfl, fun _ _ _ _ _ _ => rfl⟩
 | succ k ih =>
  obtain ⟨h0, h1, h2⟩ := ih
  refine ⟨fun _ _ _ _ => ?_, fun _ _ _ _ _ _ => ?_, fun _ _ _ _ _ _ => ?_⟩
  ·simp only [spec_TypeOfWalk.l0, h0, h1, h2]
  ·simp only [spec_TypeOfWalk.l1, h0, h1, h2]
  ·simp only [spec_TypeOfWalk.l2, h0, h1, h2]

/-- All rows of m numbers below q. -/
def rowsOf (q : Nat) : Nat → List (List Int)
 | 0 => [[]]
 | m + 1 => (List.range q).flatMap (fun x : Nat => (rowsOf q m).map (fun r => (x : Int) :: r))

theorem rowsOf_mem (q : Nat) : ∀ (m : Nat) (r : List Int), r.length = m → (∀ y ∈ r, 0 ≤ y ∧ y < q) → r ∈ rowsOf q m := by
 intro m
 induction m with
 | zero =>
  intro r hr _
  rw [List.eq_nil_of_length_eq_zero hr]
  exact List.mem_singleton.2 rfl
 | succ m ih =>
  intro r hr h
  cases r with
  | nil => simp at hr
  | cons y r =>
   unfold rowsOf
   have hy := h y List.mem_cons_self
   refine List.mem_flatMap.2 ⟨y.toNat, List.mem_range.2 (by omega), List.mem_map.2 ⟨r, ih r (by simpa using hr) (fun z hz => h z (List.mem_cons_of_mem _ hz)), ?_⟩⟩
   rw [show ((y.toNat : Nat) : Int) = y by omega]

/-- Both loops, run at one row. -/
def runsAlike (r : List Int) : Bool :=
 match spec_TypeOfWalk.l0 60 r (List.replicate 4 false) [] 0 0 [] (r.length : Int) [], impl_TypeOfWalk.l0 60 r [] (List.replicate r.length false) (r.length : Int) 0 with
 | some a, some b => decide (a = b ∧ a.1.length ≤ 1000)
 | _, _ => false

theorem runs_all : ∀ q : Fin 5, ∀ r ∈ rowsOf q.val q.val, runsAlike r = true := by decide +kernel

theorem Ev.of_mono {α : Type} {f : Nat → Option α} {r : α} (hm : ∀ k, LeO (f k) (f (k + 1))) (k0 : Nat) (h : f k0 = some r) : Ev f r := by
 refine ⟨k0, fun k hk => ?_⟩
 obtain ⟨d, rfl⟩ : ∃ d, k = k0 + d := ⟨k - k0, by omega⟩
 induction d with
 | zero => exact h
 | succ d ih => exact hm _ _ (ih (by omega))

theorem tow_runs (n : Int) (l : List (List Int)) (t : List (List Int)) (r : List Int) (h4 : r.length ≤ 4) (hr : ∀ i : Nat, i < r.length → 0 ≤ rd r (i : Int) ∧ rd r (i : Int) < (r.length : Int)) : ∃ z : List Int × Int, z.1.length ≤ 1048576 ∧ Ev (fun k => spec_TypeOfWalk.l0 k r (List.replicate 4 false) [] 0 n l (r.length : Int) t) z ∧ Ev (fun k => impl_TypeOfWalk.l0 k r [] (List.replicate r.length false) (r.length : Int) 0) z := by
 have h := runs_all ⟨r.length, by omega⟩ r (rowsOf_mem r.length r.length r rfl (fun y hy => by
  obtain ⟨i, hi, rfl⟩ := List.getElem_of_mem hy
  rw [← rd_lt hi]
  exact hr i hi))
 unfold runsAlike at h
 split at h
 ·next a b ha hb =>
  obtain ⟨e, h1⟩ := of_decide_eq_true h
  subst e
  refine ⟨a, by omega, ?_, ?_⟩
  ·refine Ev.congr (fun k => (spec_tow_free n l (r.length : Int) t k).1 _ _ _ _) ?_
   exact Ev.of_mono (fun k => (spec_TypeOfWalk.mono_l k).1 _ _ _ _ _ _ _ _) 60 ha
  ·exact Ev.of_mono (fun k => (impl_TypeOfWalk.mono_l k).1 _ _ _ _ _) 60 hb
 ·cases h

theorem tow_same (n : Int) (l : List (List Int)) (s : Int) (t : List (List Int)) (w : List Int) (hl : Mod l) (ht : Mod t) (hw : w.length ≤ 1048576) : ∃ r : List Int × Int, r.1.length ≤ 1048576 ∧ Ev (fun k => spec_TypeOfWalk.f k n l s t w) r ∧ Ev (fun k => impl_TypeOfWalk.f k n l s t w) r := by
 obtain ⟨r, hr, hg, hs, hi⟩ := permw_same n l s t w hl ht hw
 unfold spec_TypeOfWalk.f impl_TypeOfWalk.f
 by_cases c : r.2 = 0
 ·obtain ⟨g1, g2, g3⟩ := hg c
  obtain ⟨z, z1, z2, z3⟩ := tow_runs n l t r.1 g2 (fun i hi => by rw [g1]; exact g3 i hi)
  rw [g1] at z2
  refine ⟨z, z1, Ev.bind hs (Ev.pos c (Ev.pos (by omega) z2)), Ev.bind hi (Ev.pos c (Ev.pos (by omega) (Ev.pos (by omega) ?_)))⟩
  rw [Int.toNat_natCast]
  exact z3
 ·exact ⟨([], r.2), by simp, Ev.bind hs (Ev.neg c (Ev.now _)), Ev.bind hi (Ev.neg c (Ev.now _))⟩

theorem FnExactTypeOfWalk : laws_FnExactTypeOfWalk.Pure := by
 intro n l s t w _ hl hr _ hl' hr' _ _
 refine Ev.rounds ?_
 unfold laws_FnExactTypeOfWalk.f
 by_cases h : (w.length : Int) > 1048576
 ·repeat (first | with_reducible exact Ev.now _ | dsimp only | refine Ev.pos (by first | omega | rfl | assumption | decide) ?_ | refine Ev.neg (by first | omega | assumption | exact Bool.false_ne_true | exact fun e => absurd e (by decide)) ?_ | simp only [bne_self_eq_false, Bool.not_true, Bool.not_false, List.length_cons, List.length_nil] | rw [wrap_id (by omega) (by omega)] | ((with_reducible refine Ev.eq (congrArg some ?_)); rfl))
 have hw : w.length ≤ 1048576 := by omega
 refine Ev.neg (by omega) ?_
 refine Ev.ex (szCover n l s t hl hr hl' hr') (fun z hz => ?_)
 rcases hz with hz | ⟨hz, hz'⟩
 ·repeat (first | with_reducible exact Ev.now _ | dsimp only | refine Ev.pos (by first | omega | rfl | assumption | decide) ?_ | refine Ev.neg (by first | omega | assumption | exact Bool.false_ne_true | exact fun e => absurd e (by decide)) ?_ | simp only [bne_self_eq_false, Bool.not_true, Bool.not_false, List.length_cons, List.length_nil] | rw [wrap_id (by omega) (by omega)] | ((with_reducible refine Ev.eq (congrArg some ?_)); rfl))
 by_cases h0 : z < 0
 ·repeat (first | with_reducible exact Ev.now _ | dsimp only | refine Ev.pos (by first | omega | rfl | assumption | decide) ?_ | refine Ev.neg (by first | omega | assumption | exact Bool.false_ne_true | exact fun e => absurd e (by decide)) ?_ | simp only [bne_self_eq_false, Bool.not_true, Bool.not_false, List.length_cons, List.length_nil] | rw [wrap_id (by omega) (by omega)] | ((with_reducible refine Ev.eq (congrArg some ?_)); rfl))
 obtain ⟨r, hr, hs, hi⟩ := tow_same n l s t w hz hz' hw
 obtain ⟨p, hp, hp0, hp1⟩ := markCover n l s t hz hz'
 repeat (first | with_reducible exact Ev.now _ | dsimp only | with_reducible refine Ev.bind (toCover n l s t hz hz') ?_ | with_reducible refine Ev.bind (toInt64S w hw) ?_ | with_reducible refine Ev.bind (hs) ?_ | with_reducible refine Ev.bind (hi) ?_ | with_reducible refine Ev.bind (eqInt64S_self r.1 hr) ?_ | with_reducible refine Ev.bind (eqCover_self n l s t hz hz') ?_ | with_reducible refine Ev.bind (eqInt64S_self w hw) ?_ | with_reducible refine Ev.bind (hp) ?_ | with_reducible refine Ev.bind (markInt64S w hw p.1 hp0 (by omega)) ?_ | with_reducible refine Ev.bind (markInt64S r.1 hr 1 (by omega) (by omega)) ?_ | with_reducible refine Ev.bind (heldInt64S 1 r.1.length hr (by omega) (by omega)) ?_ | refine Ev.pos (by first | omega | rfl | assumption | decide) ?_ | refine Ev.neg (by first | omega | assumption | exact Bool.false_ne_true | exact fun e => absurd e (by decide)) ?_ | simp only [bne_self_eq_false, Bool.not_true, Bool.not_false, List.length_cons, List.length_nil] | rw [wrap_id (by omega) (by omega)] | with_reducible exact (toCover n l s t hz hz') | with_reducible exact (toInt64S w hw) | with_reducible exact (hs) | with_reducible exact (hi) | with_reducible exact (eqInt64S_self r.1 hr) | with_reducible exact (eqCover_self n l s t hz hz') | with_reducible exact (eqInt64S_self w hw) | with_reducible exact (hp) | with_reducible exact (markInt64S w hw p.1 hp0 (by omega)) | with_reducible exact (markInt64S r.1 hr 1 (by omega) (by omega)) | with_reducible exact (heldInt64S 1 r.1.length hr (by omega) (by omega)) | ((with_reducible refine Ev.eq (congrArg some ?_)); rfl))
end Go.Proofs.Ytipigagbgpoecaa.Pure
