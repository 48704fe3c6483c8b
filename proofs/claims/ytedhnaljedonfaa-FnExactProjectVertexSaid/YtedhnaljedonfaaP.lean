/- The plain proofs for this law. -/
import Derived.Test.YtedhnaljedonfaaC2
import Derived.Test.YtedhnaljedonfaaAux
namespace Go.Proofs.Ytedhnaljedonfaa.Pure
open Go.RowKit Go.Proofs.Ytedhnaljedonfaa.G Go.Proofs.YtedhnaljedonfaaW.PrintWords Go.Proofs.YtedhnaljedonfaaW.PrintLast Go.Proofs.YtedhnaljedonfaaW.PrintMore Go.Proofs.Ytedhnaljedonfaa.Aux
set_option linter.unusedVariables false
set_option linter.unusedSimpArgs false

theorem toInt64S_loop (l : List Int) (hl : l.length ≤ 1048576) : ∀ (d i : Nat) (ys : List Int), i + d = l.length → ys.length = l.length → ys.take i = l.take i →
  Ev (fun k => laws_toInt64S.l0 k l ys (i : Int)) l := by
 intro d
 induction d with
 | zero =>
  intro i ys hi hy ht
  refine Ev.succ ?_; simp only [laws_toInt64S.l0]
  repeat (first | with_reducible exact Ev.now _ | dsimp only | refine Ev.pos (by first | omega | rfl | assumption | decide) ?_ | refine Ev.neg (by first | omega | assumption | exact Bool.false_ne_true | exact fun e => absurd e (by decide)) ?_ | simp only [bne_self_eq_false, Bool.not_true, Bool.not_false, List.length_cons, List.length_nil] | rw [wrap_id (by omega) (by omega)] | ((with_reducible refine Ev.eq (congrArg some ?_)); rfl))
  exact Ev.eq (congrArg some (eq_of_take hy (by omega) ht))
 | succ d ih =>
  intro i ys hi hy ht
  refine Ev.succ ?_; simp only [laws_toInt64S.l0]
  rw [wrap_succ (by omega)]
  repeat (first | with_reducible exact Ev.now _ | dsimp only | refine Ev.pos (by first | omega | rfl | assumption | decide) ?_ | refine Ev.neg (by first | omega | assumption | exact Bool.false_ne_true | exact fun e => absurd e (by decide)) ?_ | simp only [bne_self_eq_false, Bool.not_true, Bool.not_false, List.length_cons, List.length_nil] | rw [wrap_id (by omega) (by omega)] | ((with_reducible refine Ev.eq (congrArg some ?_)); rfl))
  exact ih (i + 1) _ (by omega) (by simpa using hy) (take_set_succ hy (by omega) (rd_lt (by omega)) ht)

theorem toInt64S (l : List Int) (hl : l.length ≤ 1048576) : Ev (fun k => laws_toInt64S.f k l) l := by
 unfold laws_toInt64S.f
 repeat (first | with_reducible exact Ev.now _ | dsimp only | refine Ev.pos (by first | omega | rfl | assumption | decide) ?_ | refine Ev.neg (by first | omega | assumption | exact Bool.false_ne_true | exact fun e => absurd e (by decide)) ?_ | simp only [bne_self_eq_false, Bool.not_true, Bool.not_false, List.length_cons, List.length_nil] | rw [wrap_id (by omega) (by omega)] | ((with_reducible refine Ev.eq (congrArg some ?_)); rfl))
 exact toInt64S_loop l hl l.length 0 _ (by omega) (by simp) (by simp)

theorem eqInt64S_loop (a b : List Int) (hl : a.length ≤ 1048576) (hab : a.length = b.length) : ∀ (d i : Nat), i + d = a.length →
  Ev (fun k => laws_eqInt64S.l0 k a b (i : Int)) (decide (a.drop i = b.drop i)) := by
 intro d
 induction d with
 | zero =>
  intro i hi
  refine Ev.succ ?_; simp only [laws_eqInt64S.l0]
  rw [List.drop_eq_nil_of_le (by omega), List.drop_eq_nil_of_le (by omega)]
  repeat (first | with_reducible exact Ev.now _ | dsimp only | refine Ev.pos (by first | omega | rfl | assumption | decide) ?_ | refine Ev.neg (by first | omega | assumption | exact Bool.false_ne_true | exact fun e => absurd e (by decide)) ?_ | simp only [bne_self_eq_false, Bool.not_true, Bool.not_false, List.length_cons, List.length_nil] | rw [wrap_id (by omega) (by omega)] | ((with_reducible refine Ev.eq (congrArg some ?_)); rfl))
 | succ d ih =>
  intro i hi
  refine Ev.succ ?_; simp only [laws_eqInt64S.l0]
  rw [List.drop_eq_getElem_cons (by omega : i < a.length), List.drop_eq_getElem_cons (by omega : i < b.length), wrap_succ (by omega)]
  by_cases e : rd a i = rd b i
  ·repeat (first | with_reducible exact Ev.now _ | dsimp only | refine Ev.pos (by first | omega | rfl | assumption | decide) ?_ | refine Ev.neg (by first | omega | assumption | exact Bool.false_ne_true | exact fun e => absurd e (by decide)) ?_ | simp only [bne_self_eq_false, Bool.not_true, Bool.not_false, List.length_cons, List.length_nil] | rw [wrap_id (by omega) (by omega)] | ((with_reducible refine Ev.eq (congrArg some ?_)); rfl))
   have := ih (i + 1) (by omega)
   rw [rd_lt (by omega), rd_lt (by omega)] at e
   rw [e, decide_cons]
   exact this
  ·rw [decide_eq_false (fun h => e (by rw [rd_lt (by omega), rd_lt (by omega)]; exact (List.cons.inj h).1))]
   repeat (first | with_reducible exact Ev.now _ | dsimp only | refine Ev.pos (by first | omega | rfl | assumption | decide) ?_ | refine Ev.neg (by first | omega | assumption | exact Bool.false_ne_true | exact fun e => absurd e (by decide)) ?_ | simp only [bne_self_eq_false, Bool.not_true, Bool.not_false, List.length_cons, List.length_nil] | rw [wrap_id (by omega) (by omega)] | ((with_reducible refine Ev.eq (congrArg some ?_)); rfl))

theorem eqInt64S (a b : List Int) (hl : a.length ≤ 1048576) : Ev (fun k => laws_eqInt64S.f k a b) (decide (a = b)) := by
 unfold laws_eqInt64S.f
 by_cases h : a.length = b.length
 ·repeat (first | with_reducible exact Ev.now _ | dsimp only | refine Ev.pos (by first | omega | rfl | assumption | decide) ?_ | refine Ev.neg (by first | omega | assumption | exact Bool.false_ne_true | exact fun e => absurd e (by decide)) ?_ | simp only [bne_self_eq_false, Bool.not_true, Bool.not_false, List.length_cons, List.length_nil] | rw [wrap_id (by omega) (by omega)] | ((with_reducible refine Ev.eq (congrArg some ?_)); rfl))
  exact eqInt64S_loop a b hl h a.length 0 (by omega)
 ·rw [decide_eq_false (fun e => h (by rw [e]))]
  repeat (first | with_reducible exact Ev.now _ | dsimp only | refine Ev.pos (by first | omega | rfl | assumption | decide) ?_ | refine Ev.neg (by first | omega | assumption | exact Bool.false_ne_true | exact fun e => absurd e (by decide)) ?_ | simp only [bne_self_eq_false, Bool.not_true, Bool.not_false, List.length_cons, List.length_nil] | rw [wrap_id (by omega) (by omega)] | ((with_reducible refine Ev.eq (congrArg some ?_)); rfl))

theorem eqInt64S_self (a : List Int) (hl : a.length ≤ 1048576) : Ev (fun k => laws_eqInt64S.f k a a) true :=
 Ev.conv (eqInt64S a a hl) (by simp)
theorem rl_lt {xs : List (List Int)} {i : Nat} (h : i < xs.length) : rd_L1 xs (i : Int) = xs[i] := by
 simp [rd_L1, List.getD_eq_getElem?_getD, h]

/-- Rows of which each, and their number, is of a moderate size. -/
def Mod (l : List (List Int)) : Prop := l.length ≤ 1048576 ∧ ∀ r ∈ l, r.length ≤ 1048576

theorem Mod.row {l : List (List Int)} (h : Mod l) {i : Nat} (hi : i < l.length) : l[i].length ≤ 1048576 := h.2 _ (List.getElem_mem hi)

theorem szInt64S (l : List Int) (a : Int) (h0 : 0 ≤ a) (h1 : a ≤ 1048576) (hl : l.length ≤ 9223372036854775807) : ∃ t, laws_szInt64S.f l a = some t ∧ (t < 0 ∨ (l.length ≤ 1048576 ∧ 0 ≤ t ∧ t ≤ a)) := by
 unfold laws_szInt64S.f
 rw [wrap_id (by omega) (by omega)]
 by_cases h : a - (l.length : Int) < 0
 ·exact ⟨-1, if_pos h, Or.inl (by omega)⟩
 ·exact ⟨_, if_neg h, Or.inr (by omega)⟩

theorem szInt64SS_loop (l : List (List Int)) (hl : l.length ≤ 1048576) (hr : ∀ r ∈ l, r.length ≤ 9223372036854775807) : ∀ (d i : Nat) (a : Int), i + d = l.length → 0 ≤ a → a ≤ 1048576 → (∀ j, (h : j < l.length) → j < i → l[j].length ≤ 1048576) →
  ∃ t, Ev (fun k => laws_szInt64SS.l0 k l a (i : Int)) t ∧ (t < 0 ∨ (Mod l ∧ 0 ≤ t ∧ t ≤ 1048576)) := by
 intro d
 induction d with
 | zero =>
  intro i a hi h0 h1 hm
  refine ⟨a, ?_, Or.inr ⟨⟨hl, fun r h => ?_⟩, h0, h1⟩⟩
  ·refine Ev.succ ?_; simp only [laws_szInt64SS.l0]
   repeat (first | with_reducible exact Ev.now _ | dsimp only | refine Ev.pos (by first | omega | rfl | assumption | decide) ?_ | refine Ev.neg (by first | omega | assumption | exact Bool.false_ne_true | exact fun e => absurd e (by decide)) ?_ | simp only [bne_self_eq_false, Bool.not_true, Bool.not_false, List.length_cons, List.length_nil] | rw [wrap_id (by omega) (by omega)] | ((with_reducible refine Ev.eq (congrArg some ?_)); rfl))
  ·obtain ⟨j, hj, rfl⟩ := List.getElem_of_mem h
   exact hm j hj (by omega)
 | succ d ih =>
  intro i a hi h0 h1 hm
  obtain ⟨t, ht, hc⟩ := szInt64S (l[i]'(by omega)) a h0 h1 (hr _ (List.getElem_mem _))
  rw [← rl_lt (by omega)] at ht
  rcases hc with hc | ⟨hc, hc0, hc1⟩
  ·refine ⟨-1, ?_, Or.inl (by omega)⟩
   refine Ev.succ ?_; simp only [laws_szInt64SS.l0]
   repeat (first | with_reducible exact Ev.now _ | dsimp only | with_reducible refine Ev.bind (Ev.eq ht) ?_ | refine Ev.pos (by first | omega | rfl | assumption | decide) ?_ | refine Ev.neg (by first | omega | assumption | exact Bool.false_ne_true | exact fun e => absurd e (by decide)) ?_ | simp only [bne_self_eq_false, Bool.not_true, Bool.not_false, List.length_cons, List.length_nil] | rw [wrap_id (by omega) (by omega)] | with_reducible exact (Ev.eq ht) | ((with_reducible refine Ev.eq (congrArg some ?_)); rfl))
  ·obtain ⟨t', h1', h2'⟩ := ih (i + 1) t (by omega) hc0 (by omega) (fun j hj hji => by
    by_cases e : j = i
    ·subst e; exact hc
    ·exact hm j hj (by omega))
   refine ⟨t', ?_, h2'⟩
   refine Ev.succ ?_; simp only [laws_szInt64SS.l0]
   rw [wrap_succ (by omega)]
   repeat (first | with_reducible exact Ev.now _ | dsimp only | with_reducible refine Ev.bind (Ev.eq ht) ?_ | refine Ev.pos (by first | omega | rfl | assumption | decide) ?_ | refine Ev.neg (by first | omega | assumption | exact Bool.false_ne_true | exact fun e => absurd e (by decide)) ?_ | simp only [bne_self_eq_false, Bool.not_true, Bool.not_false, List.length_cons, List.length_nil] | rw [wrap_id (by omega) (by omega)] | with_reducible exact (Ev.eq ht) | ((with_reducible refine Ev.eq (congrArg some ?_)); rfl))
   exact h1'

theorem szInt64SS (l : List (List Int)) (a : Int) (h0 : 0 ≤ a) (h1 : a ≤ 1048576) (hl : l.length ≤ 9223372036854775807) (hr : ∀ r ∈ l, r.length ≤ 9223372036854775807) : ∃ t, Ev (fun k => laws_szInt64SS.f k l a) t ∧ (t < 0 ∨ (Mod l ∧ 0 ≤ t ∧ t ≤ 1048576)) := by
 unfold laws_szInt64SS.f
 rw [wrap_id (by omega) (by omega)]
 by_cases h : a - (l.length : Int) < 0
 ·refine ⟨-1, ?_, Or.inl (by omega)⟩
  repeat (first | with_reducible exact Ev.now _ | dsimp only | refine Ev.pos (by first | omega | rfl | assumption | decide) ?_ | refine Ev.neg (by first | omega | assumption | exact Bool.false_ne_true | exact fun e => absurd e (by decide)) ?_ | simp only [bne_self_eq_false, Bool.not_true, Bool.not_false, List.length_cons, List.length_nil] | rw [wrap_id (by omega) (by omega)] | ((with_reducible refine Ev.eq (congrArg some ?_)); rfl))
 ·obtain ⟨t, h1, h2⟩ := szInt64SS_loop l (by omega) hr l.length 0 (a - (l.length : Int)) (by omega) (by omega) (by omega) (fun j _ hj => by omega)
  refine ⟨t, ?_, h2⟩
  repeat (first | with_reducible exact Ev.now _ | dsimp only | refine Ev.pos (by first | omega | rfl | assumption | decide) ?_ | refine Ev.neg (by first | omega | assumption | exact Bool.false_ne_true | exact fun e => absurd e (by decide)) ?_ | simp only [bne_self_eq_false, Bool.not_true, Bool.not_false, List.length_cons, List.length_nil] | rw [wrap_id (by omega) (by omega)] | ((with_reducible refine Ev.eq (congrArg some ?_)); rfl))
  exact h1

theorem toInt64SS_loop (l : List (List Int)) (hl : Mod l) : ∀ (d i : Nat) (ys : List (List Int)), i + d = l.length → ys.length = l.length → ys.take i = l.take i →
  Ev (fun k => laws_toInt64SS.l0 k l ys (i : Int)) l := by
 have hl1 := hl.1
 intro d
 induction d with
 | zero =>
  intro i ys hi hy ht
  refine Ev.succ ?_; simp only [laws_toInt64SS.l0]
  repeat (first | with_reducible exact Ev.now _ | dsimp only | refine Ev.pos (by first | omega | rfl | assumption | decide) ?_ | refine Ev.neg (by first | omega | assumption | exact Bool.false_ne_true | exact fun e => absurd e (by decide)) ?_ | simp only [bne_self_eq_false, Bool.not_true, Bool.not_false, List.length_cons, List.length_nil] | rw [wrap_id (by omega) (by omega)] | ((with_reducible refine Ev.eq (congrArg some ?_)); rfl))
  exact Ev.eq (congrArg some (eq_of_take hy (by omega) ht))
 | succ d ih =>
  intro i ys hi hy ht
  refine Ev.succ ?_; simp only [laws_toInt64SS.l0]
  rw [wrap_succ (by omega), rl_lt (by omega)]
  repeat (first | with_reducible exact Ev.now _ | dsimp only | with_reducible refine Ev.bind (toInt64S _ (hl.row (by omega))) ?_ | refine Ev.pos (by first | omega | rfl | assumption | decide) ?_ | refine Ev.neg (by first | omega | assumption | exact Bool.false_ne_true | exact fun e => absurd e (by decide)) ?_ | simp only [bne_self_eq_false, Bool.not_true, Bool.not_false, List.length_cons, List.length_nil] | rw [wrap_id (by omega) (by omega)] | with_reducible exact (toInt64S _ (hl.row (by omega))) | ((with_reducible refine Ev.eq (congrArg some ?_)); rfl))
  exact ih (i + 1) _ (by omega) (by simpa using hy) (take_set_succ hy (by omega) rfl ht)

theorem toInt64SS (l : List (List Int)) (hl : Mod l) : Ev (fun k => laws_toInt64SS.f k l) l := by
 have hl1 := hl.1
 unfold laws_toInt64SS.f
 repeat (first | with_reducible exact Ev.now _ | dsimp only | refine Ev.pos (by first | omega | rfl | assumption | decide) ?_ | refine Ev.neg (by first | omega | assumption | exact Bool.false_ne_true | exact fun e => absurd e (by decide)) ?_ | simp only [bne_self_eq_false, Bool.not_true, Bool.not_false, List.length_cons, List.length_nil] | rw [wrap_id (by omega) (by omega)] | ((with_reducible refine Ev.eq (congrArg some ?_)); rfl))
 exact toInt64SS_loop l hl l.length 0 _ (by omega) (by simp) (by simp)

theorem toGraph (n : Int) (l : List (List Int)) (hl : Mod l) : Ev (fun k => laws_toGraph.f k n l) (n, l) := by
 unfold laws_toGraph.f
 repeat (first | with_reducible exact Ev.now _ | dsimp only | with_reducible refine Ev.bind (toInt64SS l hl) ?_ | refine Ev.pos (by first | omega | rfl | assumption | decide) ?_ | refine Ev.neg (by first | omega | assumption | exact Bool.false_ne_true | exact fun e => absurd e (by decide)) ?_ | simp only [bne_self_eq_false, Bool.not_true, Bool.not_false, List.length_cons, List.length_nil] | rw [wrap_id (by omega) (by omega)] | with_reducible exact (toInt64SS l hl) | ((with_reducible refine Ev.eq (congrArg some ?_)); rfl))

theorem eqInt64SS_self_loop (a : List (List Int)) (hl : Mod a) : ∀ (d i : Nat), i + d = a.length →
  Ev (fun k => laws_eqInt64SS.l0 k a a (i : Int)) true := by
 have hl1 := hl.1
 intro d
 induction d with
 | zero =>
  intro i hi
  refine Ev.succ ?_; simp only [laws_eqInt64SS.l0]
  repeat (first | with_reducible exact Ev.now _ | dsimp only | refine Ev.pos (by first | omega | rfl | assumption | decide) ?_ | refine Ev.neg (by first | omega | assumption | exact Bool.false_ne_true | exact fun e => absurd e (by decide)) ?_ | simp only [bne_self_eq_false, Bool.not_true, Bool.not_false, List.length_cons, List.length_nil] | rw [wrap_id (by omega) (by omega)] | ((with_reducible refine Ev.eq (congrArg some ?_)); rfl))
 | succ d ih =>
  intro i hi
  refine Ev.succ ?_; simp only [laws_eqInt64SS.l0]
  rw [rl_lt (by omega), wrap_succ (by omega)]
  repeat (first | with_reducible exact Ev.now _ | dsimp only | with_reducible refine Ev.bind (eqInt64S_self _ (hl.row (by omega))) ?_ | refine Ev.pos (by first | omega | rfl | assumption | decide) ?_ | refine Ev.neg (by first | omega | assumption | exact Bool.false_ne_true | exact fun e => absurd e (by decide)) ?_ | simp only [bne_self_eq_false, Bool.not_true, Bool.not_false, List.length_cons, List.length_nil] | rw [wrap_id (by omega) (by omega)] | with_reducible exact (eqInt64S_self _ (hl.row (by omega))) | ((with_reducible refine Ev.eq (congrArg some ?_)); rfl))
  exact ih (i + 1) (by omega)

theorem eqInt64SS_self (a : List (List Int)) (hl : Mod a) : Ev (fun k => laws_eqInt64SS.f k a a) true := by
 unfold laws_eqInt64SS.f
 repeat (first | with_reducible exact Ev.now _ | dsimp only | refine Ev.pos (by first | omega | rfl | assumption | decide) ?_ | refine Ev.neg (by first | omega | assumption | exact Bool.false_ne_true | exact fun e => absurd e (by decide)) ?_ | simp only [bne_self_eq_false, Bool.not_true, Bool.not_false, List.length_cons, List.length_nil] | rw [wrap_id (by omega) (by omega)] | ((with_reducible refine Ev.eq (congrArg some ?_)); rfl))
 exact eqInt64SS_self_loop a hl a.length 0 (by omega)

theorem eqGraph_self (n : Int) (a : List (List Int)) (hl : Mod a) : Ev (fun k => laws_eqGraph.f k n a n a) true := by
 unfold laws_eqGraph.f
 repeat (first | with_reducible exact Ev.now _ | dsimp only | with_reducible refine Ev.bind (eqInt64SS_self a hl) ?_ | refine Ev.pos (by first | omega | rfl | assumption | decide) ?_ | refine Ev.neg (by first | omega | assumption | exact Bool.false_ne_true | exact fun e => absurd e (by decide)) ?_ | simp only [bne_self_eq_false, Bool.not_true, Bool.not_false, List.length_cons, List.length_nil] | rw [wrap_id (by omega) (by omega)] | with_reducible exact (eqInt64SS_self a hl) | ((with_reducible refine Ev.eq (congrArg some ?_)); rfl))
theorem specIn (a b c : Int) : spec_l01In.f a b c = some (decide (b ≤ a ∧ a ≤ c)) := by
 unfold spec_l01In.f
 by_cases h : b ≤ a
 ·rw [if_pos h]; simp [h]
 ·rw [if_neg h]; simp [h]

theorem implWithin (a b c : Int) : impl_within.f a b c = some (decide (b ≤ a ∧ a ≤ c)) := by
 unfold impl_within.f
 by_cases h : b ≤ a
 ·rw [if_pos h]; simp [h]
 ·rw [if_neg h]; simp [h]

/-- One edge's test. -/
def okEdge (n : Int) (e : List Int) : Bool := decide (e.length = 2) && (decide (0 ≤ rd e 0 ∧ rd e 0 ≤ wrap64 (n - 1)) && decide (0 ≤ rd e 1 ∧ rd e 1 ≤ wrap64 (n - 1)))

def isGraph (n : Int) (l : List (List Int)) : Bool := l.all (okEdge n) && (decide (1 ≤ n ∧ n ≤ 8) && decide ((l.length : Int) ≤ 10))

theorem specIs_loop (n : Int) (l : List (List Int)) (hl : Mod l) : ∀ (d i : Nat), i + d = l.length →
  Ev (fun k => spec_l01Is.l0 k (i : Int) n l) ((l.drop i).all (okEdge n)) := by
 have hl1 := hl.1
 intro d
 induction d with
 | zero =>
  intro i hi
  refine Ev.succ ?_; simp only [spec_l01Is.l0]
  rw [List.drop_eq_nil_of_le (by omega)]
  repeat (first | with_reducible exact Ev.now _ | dsimp only | refine Ev.pos (by first | omega | rfl | assumption | decide) ?_ | refine Ev.neg (by first | omega | assumption | exact Bool.false_ne_true | exact fun e => absurd e (by decide)) ?_ | simp only [bne_self_eq_false, Bool.not_true, Bool.not_false, List.length_cons, List.length_nil] | rw [wrap_id (by omega) (by omega)] | ((with_reducible refine Ev.eq (congrArg some ?_)); rfl))
 | succ d ih =>
  intro i hi
  refine Ev.succ ?_; simp only [spec_l01Is.l0]
  rw [List.drop_eq_getElem_cons (by omega : i < l.length), List.all_cons, rl_lt (by omega), wrap_succ (by omega)]
  generalize l[i] = e
  have := ih (i + 1) (by omega)
  unfold okEdge
  by_cases h2 : (e.length : Int) = 2
  ·rw [decide_eq_true (show e.length = 2 by omega), Bool.true_and]
   by_cases ha : 0 ≤ rd e 0 ∧ rd e 0 ≤ wrap64 (n - 1)
   ·by_cases hb : 0 ≤ rd e 1 ∧ rd e 1 ≤ wrap64 (n - 1)
    ·rw [decide_eq_true ha, decide_eq_true hb, Bool.true_and, Bool.true_and]
     repeat (first | with_reducible exact Ev.now _ | dsimp only | with_reducible refine Ev.bind (Ev.eq ((specIn _ _ _).trans (congrArg some (decide_eq_true ha)))) ?_ | with_reducible refine Ev.bind (Ev.eq ((specIn _ _ _).trans (congrArg some (decide_eq_true hb)))) ?_ | refine Ev.pos (by first | omega | rfl | assumption | decide) ?_ | refine Ev.neg (by first | omega | assumption | exact Bool.false_ne_true | exact fun e => absurd e (by decide)) ?_ | simp only [bne_self_eq_false, Bool.not_true, Bool.not_false, List.length_cons, List.length_nil] | rw [wrap_id (by omega) (by omega)] | with_reducible exact (Ev.eq ((specIn _ _ _).trans (congrArg some (decide_eq_true ha)))) | with_reducible exact (Ev.eq ((specIn _ _ _).trans (congrArg some (decide_eq_true hb)))) | ((with_reducible refine Ev.eq (congrArg some ?_)); rfl))
     exact this
    ·rw [decide_eq_false hb, Bool.and_false, Bool.false_and]
     repeat (first | with_reducible exact Ev.now _ | dsimp only | with_reducible refine Ev.bind (Ev.eq ((specIn _ _ _).trans (congrArg some (decide_eq_true ha)))) ?_ | with_reducible refine Ev.bind (Ev.eq ((specIn _ _ _).trans (congrArg some (decide_eq_false hb)))) ?_ | refine Ev.pos (by first | omega | rfl | assumption | decide) ?_ | refine Ev.neg (by first | omega | assumption | exact Bool.false_ne_true | exact fun e => absurd e (by decide)) ?_ | simp only [bne_self_eq_false, Bool.not_true, Bool.not_false, List.length_cons, List.length_nil] | rw [wrap_id (by omega) (by omega)] | with_reducible exact (Ev.eq ((specIn _ _ _).trans (congrArg some (decide_eq_true ha)))) | with_reducible exact (Ev.eq ((specIn _ _ _).trans (congrArg some (decide_eq_false hb)))) | ((with_reducible refine Ev.eq (congrArg some ?_)); rfl))
   ·rw [decide_eq_false ha, Bool.false_and, Bool.false_and]
    repeat (first | with_reducible exact Ev.now _ | dsimp only | with_reducible refine Ev.bind (Ev.eq ((specIn _ _ _).trans (congrArg some (decide_eq_false ha)))) ?_ | refine Ev.pos (by first | omega | rfl | assumption | decide) ?_ | refine Ev.neg (by first | omega | assumption | exact Bool.false_ne_true | exact fun e => absurd e (by decide)) ?_ | simp only [bne_self_eq_false, Bool.not_true, Bool.not_false, List.length_cons, List.length_nil] | rw [wrap_id (by omega) (by omega)] | with_reducible exact (Ev.eq ((specIn _ _ _).trans (congrArg some (decide_eq_false ha)))) | ((with_reducible refine Ev.eq (congrArg some ?_)); rfl))
  ·rw [decide_eq_false (show ¬ e.length = 2 by omega), Bool.false_and, Bool.false_and]
   repeat (first | with_reducible exact Ev.now _ | dsimp only | refine Ev.pos (by first | omega | rfl | assumption | decide) ?_ | refine Ev.neg (by first | omega | assumption | exact Bool.false_ne_true | exact fun e => absurd e (by decide)) ?_ | simp only [bne_self_eq_false, Bool.not_true, Bool.not_false, List.length_cons, List.length_nil] | rw [wrap_id (by omega) (by omega)] | ((with_reducible refine Ev.eq (congrArg some ?_)); rfl))

theorem specIs (n : Int) (l : List (List Int)) (hl : Mod l) : Ev (fun k => spec_l01Is.f k n l) (isGraph n l) := by
 unfold spec_l01Is.f isGraph
 by_cases h1 : 1 ≤ n ∧ n ≤ 8
 ·rw [decide_eq_true h1, Bool.true_and]
  repeat (first | with_reducible exact Ev.now _ | dsimp only | with_reducible refine Ev.bind (Ev.eq ((specIn n 1 8).trans (congrArg some (decide_eq_true h1)))) ?_ | refine Ev.pos (by first | omega | rfl | assumption | decide) ?_ | refine Ev.neg (by first | omega | assumption | exact Bool.false_ne_true | exact fun e => absurd e (by decide)) ?_ | simp only [bne_self_eq_false, Bool.not_true, Bool.not_false, List.length_cons, List.length_nil] | rw [wrap_id (by omega) (by omega)] | with_reducible exact (Ev.eq ((specIn n 1 8).trans (congrArg some (decide_eq_true h1)))) | ((with_reducible refine Ev.eq (congrArg some ?_)); rfl))
  refine Ev.succ ?_
  simp only [spec_l01Is.j0]
  by_cases h2 : (l.length : Int) ≤ 10
  ·rw [decide_eq_true h2, decide_eq_false (show ¬ (l.length : Int) > 10 by omega), Bool.and_true]
   repeat (first | with_reducible exact Ev.now _ | dsimp only | refine Ev.pos (by first | omega | rfl | assumption | decide) ?_ | refine Ev.neg (by first | omega | assumption | exact Bool.false_ne_true | exact fun e => absurd e (by decide)) ?_ | simp only [bne_self_eq_false, Bool.not_true, Bool.not_false, List.length_cons, List.length_nil] | rw [wrap_id (by omega) (by omega)] | ((with_reducible refine Ev.eq (congrArg some ?_)); rfl))
   exact specIs_loop n l hl l.length 0 (by omega)
  ·rw [decide_eq_false h2, decide_eq_true (show (l.length : Int) > 10 by omega), Bool.and_false]
   repeat (first | with_reducible exact Ev.now _ | dsimp only | refine Ev.pos (by first | omega | rfl | assumption | decide) ?_ | refine Ev.neg (by first | omega | assumption | exact Bool.false_ne_true | exact fun e => absurd e (by decide)) ?_ | simp only [bne_self_eq_false, Bool.not_true, Bool.not_false, List.length_cons, List.length_nil] | rw [wrap_id (by omega) (by omega)] | ((with_reducible refine Ev.eq (congrArg some ?_)); rfl))
 ·rw [decide_eq_false h1, Bool.false_and, Bool.and_false]
  repeat (first | with_reducible exact Ev.now _ | dsimp only | with_reducible refine Ev.bind (Ev.eq ((specIn n 1 8).trans (congrArg some (decide_eq_false h1)))) ?_ | refine Ev.pos (by first | omega | rfl | assumption | decide) ?_ | refine Ev.neg (by first | omega | assumption | exact Bool.false_ne_true | exact fun e => absurd e (by decide)) ?_ | simp only [bne_self_eq_false, Bool.not_true, Bool.not_false, List.length_cons, List.length_nil] | rw [wrap_id (by omega) (by omega)] | with_reducible exact (Ev.eq ((specIn n 1 8).trans (congrArg some (decide_eq_false h1)))) | ((with_reducible refine Ev.eq (congrArg some ?_)); rfl))
  refine Ev.succ ?_
  simp only [spec_l01Is.j0]
  repeat (first | with_reducible exact Ev.now _ | dsimp only | refine Ev.pos (by first | omega | rfl | assumption | decide) ?_ | refine Ev.neg (by first | omega | assumption | exact Bool.false_ne_true | exact fun e => absurd e (by decide)) ?_ | simp only [bne_self_eq_false, Bool.not_true, Bool.not_false, List.length_cons, List.length_nil] | rw [wrap_id (by omega) (by omega)] | ((with_reducible refine Ev.eq (congrArg some ?_)); rfl))

theorem implIs_loop (n : Int) (l : List (List Int)) (hl : Mod l) : ∀ (d i : Nat), i + d = l.length →
  Ev (fun k => impl_IsGraph.l0 k l (l.length : Int) (i : Int) n l) ((l.drop i).all (okEdge n) && (decide (1 ≤ n ∧ n ≤ 8) && decide ((l.length : Int) ≤ 10))) := by
 have hl1 := hl.1
 intro d
 induction d with
 | zero =>
  intro i hi
  refine Ev.succ ?_; simp only [impl_IsGraph.l0]
  rw [List.drop_eq_nil_of_le (by omega), List.all_nil, Bool.true_and]
  by_cases h1 : 1 ≤ n ∧ n ≤ 8
  ·rw [decide_eq_true h1, Bool.true_and]
   repeat (first | with_reducible exact Ev.now _ | dsimp only | with_reducible refine Ev.bind (Ev.eq ((implWithin n 1 8).trans (congrArg some (decide_eq_true h1)))) ?_ | refine Ev.pos (by first | omega | rfl | assumption | decide) ?_ | refine Ev.neg (by first | omega | assumption | exact Bool.false_ne_true | exact fun e => absurd e (by decide)) ?_ | simp only [bne_self_eq_false, Bool.not_true, Bool.not_false, List.length_cons, List.length_nil] | rw [wrap_id (by omega) (by omega)] | with_reducible exact (Ev.eq ((implWithin n 1 8).trans (congrArg some (decide_eq_true h1)))) | ((with_reducible refine Ev.eq (congrArg some ?_)); rfl))
  ·rw [decide_eq_false h1, Bool.false_and]
   repeat (first | with_reducible exact Ev.now _ | dsimp only | with_reducible refine Ev.bind (Ev.eq ((implWithin n 1 8).trans (congrArg some (decide_eq_false h1)))) ?_ | refine Ev.pos (by first | omega | rfl | assumption | decide) ?_ | refine Ev.neg (by first | omega | assumption | exact Bool.false_ne_true | exact fun e => absurd e (by decide)) ?_ | simp only [bne_self_eq_false, Bool.not_true, Bool.not_false, List.length_cons, List.length_nil] | rw [wrap_id (by omega) (by omega)] | with_reducible exact (Ev.eq ((implWithin n 1 8).trans (congrArg some (decide_eq_false h1)))) | ((with_reducible refine Ev.eq (congrArg some ?_)); rfl))
 | succ d ih =>
  intro i hi
  refine Ev.succ ?_; simp only [impl_IsGraph.l0]
  rw [List.drop_eq_getElem_cons (by omega : i < l.length), List.all_cons, rl_lt (by omega), wrap_succ (by omega)]
  generalize l[i] = e
  have := ih (i + 1) (by omega)
  unfold okEdge at this ⊢
  by_cases h2 : (e.length : Int) = 2
  ·rw [decide_eq_true (show e.length = 2 by omega), Bool.true_and]
   by_cases ha : 0 ≤ rd e 0 ∧ rd e 0 ≤ wrap64 (n - 1)
   ·by_cases hb : 0 ≤ rd e 1 ∧ rd e 1 ≤ wrap64 (n - 1)
    ·rw [decide_eq_true ha, decide_eq_true hb, Bool.true_and, Bool.true_and]
     repeat (first | with_reducible exact Ev.now _ | dsimp only | with_reducible refine Ev.bind (Ev.eq ((implWithin _ _ _).trans (congrArg some (decide_eq_true ha)))) ?_ | with_reducible refine Ev.bind (Ev.eq ((implWithin _ _ _).trans (congrArg some (decide_eq_true hb)))) ?_ | refine Ev.pos (by first | omega | rfl | assumption | decide) ?_ | refine Ev.neg (by first | omega | assumption | exact Bool.false_ne_true | exact fun e => absurd e (by decide)) ?_ | simp only [bne_self_eq_false, Bool.not_true, Bool.not_false, List.length_cons, List.length_nil] | rw [wrap_id (by omega) (by omega)] | with_reducible exact (Ev.eq ((implWithin _ _ _).trans (congrArg some (decide_eq_true ha)))) | with_reducible exact (Ev.eq ((implWithin _ _ _).trans (congrArg some (decide_eq_true hb)))) | ((with_reducible refine Ev.eq (congrArg some ?_)); rfl))
     exact this
    ·rw [decide_eq_false hb, Bool.and_false, Bool.false_and, Bool.false_and]
     repeat (first | with_reducible exact Ev.now _ | dsimp only | with_reducible refine Ev.bind (Ev.eq ((implWithin _ _ _).trans (congrArg some (decide_eq_true ha)))) ?_ | with_reducible refine Ev.bind (Ev.eq ((implWithin _ _ _).trans (congrArg some (decide_eq_false hb)))) ?_ | refine Ev.pos (by first | omega | rfl | assumption | decide) ?_ | refine Ev.neg (by first | omega | assumption | exact Bool.false_ne_true | exact fun e => absurd e (by decide)) ?_ | simp only [bne_self_eq_false, Bool.not_true, Bool.not_false, List.length_cons, List.length_nil] | rw [wrap_id (by omega) (by omega)] | with_reducible exact (Ev.eq ((implWithin _ _ _).trans (congrArg some (decide_eq_true ha)))) | with_reducible exact (Ev.eq ((implWithin _ _ _).trans (congrArg some (decide_eq_false hb)))) | ((with_reducible refine Ev.eq (congrArg some ?_)); rfl))
   ·rw [decide_eq_false ha, Bool.false_and, Bool.false_and, Bool.false_and]
    repeat (first | with_reducible exact Ev.now _ | dsimp only | with_reducible refine Ev.bind (Ev.eq ((implWithin _ _ _).trans (congrArg some (decide_eq_false ha)))) ?_ | refine Ev.pos (by first | omega | rfl | assumption | decide) ?_ | refine Ev.neg (by first | omega | assumption | exact Bool.false_ne_true | exact fun e => absurd e (by decide)) ?_ | simp only [bne_self_eq_false, Bool.not_true, Bool.not_false, List.length_cons, List.length_nil] | rw [wrap_id (by omega) (by omega)] | with_reducible exact (Ev.eq ((implWithin _ _ _).trans (congrArg some (decide_eq_false ha)))) | ((with_reducible refine Ev.eq (congrArg some ?_)); rfl))
  ·rw [decide_eq_false (show ¬ e.length = 2 by omega), Bool.false_and, Bool.false_and, Bool.false_and]
   repeat (first | with_reducible exact Ev.now _ | dsimp only | refine Ev.pos (by first | omega | rfl | assumption | decide) ?_ | refine Ev.neg (by first | omega | assumption | exact Bool.false_ne_true | exact fun e => absurd e (by decide)) ?_ | simp only [bne_self_eq_false, Bool.not_true, Bool.not_false, List.length_cons, List.length_nil] | rw [wrap_id (by omega) (by omega)] | ((with_reducible refine Ev.eq (congrArg some ?_)); rfl))

theorem implIsGraph (n : Int) (l : List (List Int)) (hl : Mod l) : Ev (fun k => impl_IsGraph.f k n l) (isGraph n l) := by
 unfold impl_IsGraph.f
 exact implIs_loop n l hl l.length 0 (by omega)

def cl (x : Int) : Nat := if x = 0 then 0 else if x = 1 then 1 else if x = 2 then 2 else if x = 3 then 3 else 4

theorem cl_lt (x : Int) (n : Nat) (hn : n ≤ 4) : (cl x < n) ↔ (0 ≤ x ∧ x ≤ (n : Int) - 1) := by
 unfold cl
 split
 ·omega
 ·split
  ·omega
  ·split
   ·omega
   ·split <;> omega

theorem cl_eq (x : Int) (j : Nat) (hj : j < 4) : cl x = j ↔ x = (j : Int) := by
 unfold cl
 split
 ·omega
 ·split
  ·omega
  ·split
   ·omega
   ·split <;> omega

theorem cl_le (x : Int) : cl x < 5 := by
 unfold cl
 split
 ·omega
 ·split
  ·omega
  ·split
   ·omega
   ·split <;> omega

/-- The reference's loop over what is left, with what has been met. -/
def spn (n : Nat) : List Nat → Bool → Bool → Bool → Bool → Bool
 | [], _, _, _, _ => true
 | x :: xs, m0, m1, m2, m3 => if x < n then (if x = 0 then (if m0 = true then false else spn n xs true m1 m2 m3) else (if x = 1 then (if m1 = true then false else spn n xs m0 true m2 m3) else (if x = 2 then (if m2 = true then false else spn n xs m0 m1 true m3) else (if m3 = true then false else spn n xs m0 m1 m2 true)))) else false

/-- Each number less than n lies in the list, and there are n of them. -/
def perm (n : Nat) (r : List Int) : Bool := decide (r.length = n) && (List.range n).all (fun x => r.contains (x : Int))

theorem contains_cl (r : List Int) (x : Nat) (hx : x < 4) : (r.map cl).contains x = r.contains (x : Int) := by
 induction r with
 | nil => rfl
 | cons y ys ih =>
  rw [List.map_cons, List.contains_cons, List.contains_cons, ih]
  congr 1
  by_cases c : cl y = x
  ·rw [show (x == cl y) = true from beq_iff_eq.2 c.symm, show ((x : Int) == y) = true from beq_iff_eq.2 ((cl_eq y x hx).1 c).symm]
  ·rw [show (x == cl y) = false from beq_eq_false_iff_ne.2 (fun e => c e.symm), show ((x : Int) == y) = false from beq_eq_false_iff_ne.2 (fun e => c ((cl_eq y x hx).2 e.symm))]

theorem spn_perm (n : Nat) (h1 : 1 ≤ n) (h4 : n ≤ 4) (r : List Int) (hr : r.length = n) : spn n (r.map cl) false false false false = perm n r := by
 have e : perm n r = (List.range n).all (fun x => (r.map cl).contains x) := by
  unfold perm
  rw [decide_eq_true hr, Bool.true_and]
  have : ∀ l : List Nat, (∀ x ∈ l, x < 4) → l.all (fun x => r.contains (x : Int)) = l.all (fun x => (r.map cl).contains x) := by
   intro l
   induction l with
   | nil => intro _; rfl
   | cons x xs ih =>
    intro hl
    rw [List.all_cons, List.all_cons, ih (fun y hy => hl y (List.mem_cons_of_mem _ hy)), contains_cl r x (hl x List.mem_cons_self)]
  exact this _ (fun x hx => by have := List.mem_range.1 hx; omega)
 rw [e]
 have d1 : ∀ a : Fin 5, spn 1 [a.val] false false false false = (List.range 1).all (fun x => [a.val].contains x) := by decide +kernel
 have d2 : ∀ a b : Fin 5, spn 2 [a.val, b.val] false false false false = (List.range 2).all (fun x => [a.val, b.val].contains x) := by decide +kernel
 have d3 : ∀ a b c : Fin 5, spn 3 [a.val, b.val, c.val] false false false false = (List.range 3).all (fun x => [a.val, b.val, c.val].contains x) := by decide +kernel
 have d4 : ∀ a b c d : Fin 5, spn 4 [a.val, b.val, c.val, d.val] false false false false = (List.range 4).all (fun x => [a.val, b.val, c.val, d.val].contains x) := by decide +kernel
 match r, hr with
 | [], hr => simp at hr; omega
 | [a], hr =>
  obtain rfl : n = 1 := by simpa using hr.symm
  exact d1 ⟨cl a, cl_le a⟩
 | [a, b], hr =>
  obtain rfl : n = 2 := by simpa using hr.symm
  exact d2 ⟨cl a, cl_le a⟩ ⟨cl b, cl_le b⟩
 | [a, b, c], hr =>
  obtain rfl : n = 3 := by simpa using hr.symm
  exact d3 ⟨cl a, cl_le a⟩ ⟨cl b, cl_le b⟩ ⟨cl c, cl_le c⟩
 | [a, b, c, d], hr =>
  obtain rfl : n = 4 := by simpa using hr.symm
  exact d4 ⟨cl a, cl_le a⟩ ⟨cl b, cl_le b⟩ ⟨cl c, cl_le c⟩ ⟨cl d, cl_le d⟩
 | a :: b :: c :: d :: e :: f, hr => simp at hr; omega

theorem specIn2 (a b c : Int) : spec_l01In.f a b c = some (decide (b ≤ a ∧ a ≤ c)) := by
 unfold spec_l01In.f
 by_cases h : b ≤ a
 ·rw [if_pos h]; simp [h]
 ·rw [if_neg h]; simp [h]

theorem implWithin2 (a b c : Int) : impl_within.f a b c = some (decide (b ≤ a ∧ a ≤ c)) := by
 unfold impl_within.f
 by_cases h : b ≤ a
 ·rw [if_pos h]; simp [h]
 ·rw [if_neg h]; simp [h]

theorem specPerm_loop (n : Nat) (h1 : 1 ≤ n) (h4 : n ≤ 4) (r : List Int) (hr : r.length = n) : ∀ (d i : Nat) (m0 m1 m2 m3 : Bool), i + d = n →
  Ev (fun k => spec_l04Permutation.l0 k r (n : Int) m0 m1 m2 m3 (i : Int)) (spn n ((r.map cl).drop i) m0 m1 m2 m3) := by
 intro d
 induction d with
 | zero =>
  intro i m0 m1 m2 m3 hi
  rw [List.drop_eq_nil_of_le (by simp; omega)]
  refine Ev.succ ?_; simp only [spec_l04Permutation.l0]
  exact Ev.neg (by omega) (Ev.now _)
 | succ d ih =>
  intro i m0 m1 m2 m3 hi
  have hi' : i < (r.map cl).length := by simp; omega
  have hx : (r.map cl)[i] = cl (rd r (i : Int)) := by rw [List.getElem_map, rd_lt (by omega)]
  rw [List.drop_eq_getElem_cons hi', hx]
  refine Ev.succ ?_; simp only [spec_l04Permutation.l0]
  rw [wrap_id (x := (n : Int) - 1) (by omega) (by omega), specIn2, wrap_succ (i := i) (by omega)]
  refine Ev.pos (by omega) (Ev.pos (by omega) (Ev.bind (Ev.now _) ?_))
  have hn := cl_lt (rd r (i : Int)) n h4
  have e0 := cl_eq (rd r (i : Int)) 0 (by omega)
  have e1 := cl_eq (rd r (i : Int)) 1 (by omega)
  have e2 := cl_eq (rd r (i : Int)) 2 (by omega)
  have e3 := cl_eq (rd r (i : Int)) 3 (by omega)
  unfold spn
  by_cases c : cl (rd r (i : Int)) < n
  ·rw [if_pos c, decide_eq_true (hn.1 c)]
   refine Ev.pos rfl ?_
   by_cases c0 : cl (rd r (i : Int)) = 0
   ·rw [if_pos c0]
    refine Ev.pos (e0.1 c0) ?_
    cases m0 with
    | true => exact Ev.pos rfl (Ev.now _)
    | false => exact Ev.neg (by decide) (ih (i + 1) _ _ _ _ (by omega))
   ·rw [if_neg c0]
    refine Ev.neg (fun z => c0 (e0.2 z)) ?_
    by_cases c1 : cl (rd r (i : Int)) = 1
    ·rw [if_pos c1]
     refine Ev.pos (e1.1 c1) ?_
     cases m1 with
     | true => exact Ev.pos rfl (Ev.now _)
     | false => exact Ev.neg (by decide) (ih (i + 1) _ _ _ _ (by omega))
    ·rw [if_neg c1]
     refine Ev.neg (fun z => c1 (e1.2 z)) ?_
     by_cases c2 : cl (rd r (i : Int)) = 2
     ·rw [if_pos c2]
      refine Ev.pos (e2.1 c2) ?_
      cases m2 with
      | true => exact Ev.pos rfl (Ev.now _)
      | false => exact Ev.neg (by decide) (ih (i + 1) _ _ _ _ (by omega))
     ·rw [if_neg c2]
      refine Ev.neg (fun z => c2 (e2.2 z)) ?_
      have c3 : cl (rd r (i : Int)) = 3 := by omega
      refine Ev.pos (e3.1 c3) ?_
      cases m3 with
      | true => exact Ev.pos rfl (Ev.now _)
      | false => exact Ev.neg (by decide) (ih (i + 1) _ _ _ _ (by omega))
  ·rw [if_neg c, decide_eq_false (fun z => c (hn.2 z))]
   exact Ev.neg (by decide) (Ev.now _)

theorem specPerm (n : Nat) (h1 : 1 ≤ n) (h4 : n ≤ 4) (r : List Int) (hl : r.length ≤ 1048576) : Ev (fun k => spec_l04Permutation.f k r (n : Int)) (perm n r) := by
 unfold spec_l04Permutation.f
 by_cases hr : r.length = n
 ·have := specPerm_loop n h1 h4 r hr n 0 false false false false (by omega)
  rw [List.drop_zero, spn_perm n h1 h4 r hr] at this
  exact Ev.pos (by omega) this
 ·unfold perm
  rw [decide_eq_false hr, Bool.false_and]
  exact Ev.neg (by omega) (Ev.now _)

theorem libContains (r : List Int) (x : Int) (hl : r.length ≤ 1048576) : Ev (fun k => slices_Contains_int64_int64.f k r x) (r.contains x) := by
 have loop : ∀ (d i : Nat), i + d = r.length → ∃ z : Int, Ev (fun k => slices_Index_int64_int64.l0 k r x (r.length : Int) (i : Int)) z ∧ decide (z ≥ 0) = (r.drop i).contains x := by
  intro d
  induction d with
  | zero =>
   intro i hi
   refine ⟨-1, ?_, by rw [List.drop_eq_nil_of_le (by omega)]; rfl⟩
   refine Ev.succ ?_; simp only [slices_Index_int64_int64.l0]
   exact Ev.neg (by omega) (Ev.now _)
  | succ d ih =>
   intro i hi
   obtain ⟨z, h1, h2⟩ := ih (i + 1) (by omega)
   have hi' : i < r.length := by omega
   rw [List.drop_eq_getElem_cons hi', List.contains_cons, ← rd_lt hi']
   by_cases c : rd r (i : Int) = x
   ·refine ⟨(i : Int), ?_, by rw [show (x == rd r (i : Int)) = true from beq_iff_eq.2 c.symm, Bool.true_or]; simp⟩
    refine Ev.succ ?_; simp only [slices_Index_int64_int64.l0]
    repeat (first | with_reducible exact Ev.now _ | dsimp only | refine Ev.pos (by first | omega | rfl | assumption | decide) ?_ | refine Ev.neg (by first | omega | assumption | exact Bool.false_ne_true | exact fun e => absurd e (by decide)) ?_ | simp only [bne_self_eq_false, Bool.not_true, Bool.not_false, List.length_cons, List.length_nil] | rw [wrap_id (by omega) (by omega)] | ((with_reducible refine Ev.eq (congrArg some ?_)); rfl))
   ·refine ⟨z, ?_, by rw [show (x == rd r (i : Int)) = false from beq_eq_false_iff_ne.2 (fun e => c e.symm), Bool.false_or]; exact h2⟩
    refine Ev.succ ?_; simp only [slices_Index_int64_int64.l0]
    rw [wrap_succ (i := i) (by omega)]
    repeat (first | with_reducible exact Ev.now _ | dsimp only | refine Ev.pos (by first | omega | rfl | assumption | decide) ?_ | refine Ev.neg (by first | omega | assumption | exact Bool.false_ne_true | exact fun e => absurd e (by decide)) ?_ | simp only [bne_self_eq_false, Bool.not_true, Bool.not_false, List.length_cons, List.length_nil] | rw [wrap_id (by omega) (by omega)] | ((with_reducible refine Ev.eq (congrArg some ?_)); rfl))
    exact h1
 obtain ⟨z, h1, h2⟩ := loop r.length 0 (by omega)
 unfold slices_Contains_int64_int64.f slices_Index_int64_int64.f
 refine Ev.bind h1 ?_
 rw [h2, List.drop_zero]
 exact Ev.now _

theorem implOrder (n : Nat) (h4 : n ≤ 4) (r : List Int) (hl : r.length ≤ 1048576) : Ev (fun k => impl_isOrder.f k r (n : Int)) (perm n r) := by
 have loop : ∀ (d i : Nat), i + d = n → Ev (fun k => impl_isOrder.l0 k r (n : Int) (n : Int) (i : Int)) (((List.range n).drop i).all (fun x => r.contains (x : Int)) && decide (r.length = n)) := by
  intro d
  induction d with
  | zero =>
   intro i hi
   rw [List.drop_eq_nil_of_le (by simp; omega), List.all_nil, Bool.true_and]
   refine Ev.succ ?_; simp only [impl_isOrder.l0]
   refine Ev.neg (by omega) ?_
   rw [show decide (r.length = n) = ((r.length : Int) == (n : Int)) by
    by_cases c : r.length = n
    ·rw [decide_eq_true c, c]; exact (beq_iff_eq.2 rfl).symm
    ·rw [decide_eq_false c]; exact (beq_eq_false_iff_ne.2 (fun e => c (by omega))).symm]
   exact Ev.now _
  | succ d ih =>
   intro i hi
   have h1 := ih (i + 1) (by omega)
   have hi' : i < (List.range n).length := by simp; omega
   rw [List.drop_eq_getElem_cons hi', List.all_cons, List.getElem_range]
   have hc := libContains r (i : Int) hl
   refine Ev.succ ?_; simp only [impl_isOrder.l0]
   rw [wrap_succ (i := i) (by omega)]
   cases c : r.contains (i : Int) with
   | true =>
    rw [c] at hc
    rw [Bool.true_and]
    exact Ev.pos (by omega) (Ev.bind hc (Ev.pos rfl h1))
   | false =>
    rw [c] at hc
    rw [Bool.false_and, Bool.false_and]
    exact Ev.pos (by omega) (Ev.bind hc (Ev.neg (by decide) (Ev.now _)))
 have h0 := loop n 0 (by omega)
 unfold impl_isOrder.f perm
 rw [List.drop_zero, Bool.and_comm] at h0
 exact h0

def isCover (n : Int) (l : List (List Int)) (s : Int) (t : List (List Int)) : Bool :=
 isGraph n l && (decide (1 ≤ s ∧ s ≤ 4) && (decide (t.length = l.length) && t.all (perm s.toNat)))

theorem specIsCover (n : Int) (l : List (List Int)) (s : Int) (t : List (List Int)) (hl : Mod l) (ht : Mod t) : Ev (fun k => spec_l04Is.f k n l s t) (isCover n l s t) := by
 have h1 := specIs n l hl
 have hl1 := hl.1
 have ht1 := ht.1
 have bad : ∀ n l s t, Ev (fun k => spec_l04Is.j0 k true n l s t) false := fun n l s t => by
  refine Ev.succ ?_; simp only [spec_l04Is.j0]
  exact Ev.pos trivial (Ev.now _)
 unfold spec_l04Is.f isCover
 cases hg : isGraph n l with
 | false =>
  rw [hg] at h1
  rw [Bool.false_and]
  exact Ev.bind h1 (Ev.neg (by decide) (bad _ _ _ _))
 | true =>
  rw [hg] at h1
  rw [Bool.true_and, specIn2]
  refine Ev.bind h1 (Ev.pos rfl ?_)
  by_cases c : 1 ≤ s ∧ s ≤ 4
  ·rw [decide_eq_true c, Bool.true_and]
   refine Ev.bind (Ev.now _) (Ev.pos rfl ?_)
   by_cases c2 : t.length = l.length
   ·rw [decide_eq_true c2, Bool.true_and, c2, bne_self_eq_false]
    refine Ev.succ ?_; simp only [spec_l04Is.j0]
    refine Ev.neg (by decide) ?_
    obtain ⟨q, rfl⟩ := Int.eq_ofNat_of_zero_le (show 0 ≤ s by omega)
    have loop : ∀ (d i : Nat), i + d = t.length → Ev (fun k => spec_l04Is.l0 k (i : Int) n l (q : Int) t) ((t.drop i).all (perm q)) := by
     intro d
     induction d with
     | zero =>
      intro i hi
      rw [List.drop_eq_nil_of_le (by omega), List.all_nil]
      refine Ev.succ ?_; simp only [spec_l04Is.l0]
      exact Ev.neg (by omega) (Ev.now _)
     | succ d ih =>
      intro i hi
      have hi' : i < t.length := by omega
      have h2 := ih (i + 1) (by omega)
      have hp := specPerm q (by omega) (by omega) t[i] (ht.row hi')
      rw [← rl_lt hi'] at hp
      rw [List.drop_eq_getElem_cons hi', List.all_cons, ← rl_lt hi']
      refine Ev.succ ?_; simp only [spec_l04Is.l0]
      rw [wrap_succ (i := i) (by omega)]
      cases c3 : perm q (rd_L1 t (i : Int)) with
      | true =>
       rw [c3] at hp
       rw [Bool.true_and]
       exact Ev.pos (by omega) (Ev.pos (by omega) (Ev.bind hp (Ev.pos rfl h2)))
      | false =>
       rw [c3] at hp
       rw [Bool.false_and]
       exact Ev.pos (by omega) (Ev.pos (by omega) (Ev.bind hp (Ev.neg (by decide) (Ev.now _))))
    exact loop t.length 0 (by omega)
   ·rw [decide_eq_false c2, Bool.false_and, show ((t.length : Int) != (l.length : Int)) = true from bne_iff_ne.2 (by omega)]
    exact bad _ _ _ _
  ·rw [decide_eq_false c, Bool.false_and]
   exact Ev.bind (Ev.now _) (Ev.neg (by decide) (bad _ _ _ _))

theorem implIsCover (n : Int) (l : List (List Int)) (s : Int) (t : List (List Int)) (hl : Mod l) (ht : Mod t) : Ev (fun k => impl_IsCover.f k n l s t) (isCover n l s t) := by
 have h1 := implIsGraph n l hl
 have hl1 := hl.1
 have ht1 := ht.1
 unfold impl_IsCover.f isCover impl_Graph_size.f
 cases hg : isGraph n l with
 | false =>
  rw [hg] at h1
  rw [Bool.false_and]
  exact Ev.bind h1 (Ev.neg (by decide) (Ev.now _))
 | true =>
  rw [hg] at h1
  rw [Bool.true_and, implWithin2]
  refine Ev.bind h1 (Ev.pos rfl ?_)
  by_cases c : 1 ≤ s ∧ s ≤ 4
  ·rw [decide_eq_true c, Bool.true_and]
   refine Ev.bind (Ev.now _) (Ev.pos rfl (Ev.bind (Ev.now _) ?_))
   by_cases c2 : t.length = l.length
   ·rw [decide_eq_true c2, Bool.true_and]
    refine Ev.pos (by omega) ?_
    obtain ⟨q, rfl⟩ := Int.eq_ofNat_of_zero_le (show 0 ≤ s by omega)
    have loop : ∀ (d i : Nat), i + d = t.length → ∃ z : Int, Ev (fun k => slices_IndexFunc_int64_int64_99_at_IsCover_1.l0 k t (t.length : Int) (i : Int) n l (q : Int) t) z ∧ decide (z ≥ 0) = !(t.drop i).all (perm q) := by
     intro d
     induction d with
     | zero =>
      intro i hi
      refine ⟨-1, ?_, by rw [List.drop_eq_nil_of_le (by omega)]; rfl⟩
      refine Ev.succ ?_; simp only [slices_IndexFunc_int64_int64_99_at_IsCover_1.l0]
      exact Ev.neg (by omega) (Ev.now _)
     | succ d ih =>
      intro i hi
      obtain ⟨z, h2, h3⟩ := ih (i + 1) (by omega)
      have hi' : i < t.length := by omega
      have hp := implOrder q (by omega) t[i] (ht.row hi')
      rw [← rl_lt hi'] at hp
      have hp1 : Ev (fun k => impl_IsCover_1.f k (rd_L1 t (i : Int)) n l (q : Int) t) (!perm q (rd_L1 t (i : Int))) := by
       unfold impl_IsCover_1.f
       exact Ev.bind hp (Ev.now _)
      cases c3 : perm q (rd_L1 t (i : Int)) with
      | true =>
       rw [c3] at hp1
       refine ⟨z, ?_, by rw [List.drop_eq_getElem_cons hi', List.all_cons, ← rl_lt hi', c3, Bool.true_and]; exact h3⟩
       refine Ev.succ ?_; simp only [slices_IndexFunc_int64_int64_99_at_IsCover_1.l0]
       rw [wrap_succ (i := i) (by omega)]
       exact Ev.pos (by omega) (Ev.pos (by omega) (Ev.pos (by omega) (Ev.bind hp1 (Ev.neg (by decide) h2))))
      | false =>
       rw [c3] at hp1
       refine ⟨(i : Int), ?_, by rw [List.drop_eq_getElem_cons hi', List.all_cons, ← rl_lt hi', c3, Bool.false_and]; simp⟩
       refine Ev.succ ?_; simp only [slices_IndexFunc_int64_int64_99_at_IsCover_1.l0]
       exact Ev.pos (by omega) (Ev.pos (by omega) (Ev.pos (by omega) (Ev.bind hp1 (Ev.pos rfl (Ev.now _)))))
    obtain ⟨z, h2, h3⟩ := loop t.length 0 (by omega)
    rw [List.drop_zero] at h3
    unfold slices_ContainsFunc_int64_int64_73_at_IsCover_1.f slices_IndexFunc_int64_int64_99_at_IsCover_1.f
    refine Ev.bind (Ev.bind h2 (Ev.now _)) ?_
    rw [h3, Bool.not_not]
    exact Ev.now _
   ·rw [decide_eq_false c2, Bool.false_and]
    exact Ev.neg (by omega) (Ev.now _)
  ·rw [decide_eq_false c, Bool.false_and]
   exact Ev.bind (Ev.now _) (Ev.neg (by decide) (Ev.now _))

theorem szCover (n : Int) (l : List (List Int)) (s : Int) (t : List (List Int)) (hl : l.length ≤ maxLen) (hr : ∀ r ∈ l, r.length ≤ maxLen ∧ ∀ y ∈ r, (Lit.int .i64 y).wf = true) (hl' : t.length ≤ maxLen) (hr' : ∀ r ∈ t, r.length ≤ maxLen ∧ ∀ y ∈ r, (Lit.int .i64 y).wf = true) : ∃ z, Ev (fun k => laws_szCover.f k n l s t 1048576) z ∧ (z < 0 ∨ (Mod l ∧ Mod t)) := by
 unfold laws_szCover.f laws_szGraph.f
 obtain ⟨z, h1, h2⟩ := szInt64SS l 1048576 (by omega) (by omega) (by simp [maxLen] at hl; omega) (fun r h => by have := (hr r h).1; simp [maxLen] at this; omega)
 by_cases c : z < 0
 ·exact ⟨-1, Ev.bind (Ev.bind h1 (Ev.pos c (Ev.now _))) (Ev.pos (by decide) (Ev.now _)), .inl (by omega)⟩
 ·obtain ⟨m1, z0, z1⟩ := h2.resolve_left c
  obtain ⟨y, h3, h4⟩ := szInt64SS t z z0 z1 (by simp [maxLen] at hl'; omega) (fun r h => by have := (hr' r h).1; simp [maxLen] at this; omega)
  by_cases c2 : y < 0
  ·exact ⟨-1, Ev.bind (Ev.bind h1 (Ev.neg c (Ev.now _))) (Ev.neg c (Ev.bind h3 (Ev.pos c2 (Ev.now _)))), .inl (by omega)⟩
  ·exact ⟨y, Ev.bind (Ev.bind h1 (Ev.neg c (Ev.now _))) (Ev.neg c (Ev.bind h3 (Ev.neg c2 (Ev.now _)))), .inr ⟨m1, (h4.resolve_left c2).1⟩⟩

theorem toCover (n : Int) (l : List (List Int)) (s : Int) (t : List (List Int)) (hl : Mod l) (ht : Mod t) : Ev (fun k => laws_toCover.f k n l s t) (n, l, s, t) := by
 unfold laws_toCover.f
 exact Ev.bind (toGraph n l hl) (Ev.bind (toInt64SS t ht) (Ev.now _))

theorem eqCover_self (n : Int) (l : List (List Int)) (s : Int) (t : List (List Int)) (hl : Mod l) (ht : Mod t) : Ev (fun k => laws_eqCover.f k n l s t n l s t) true := by
 unfold laws_eqCover.f
 exact Ev.bind (eqGraph_self n l hl) (Ev.pos rfl (Ev.pos rfl (Ev.bind (eqInt64SS_self t ht) (Ev.pos rfl (Ev.now _)))))
theorem project_same (n : Int) (l : List (List Int)) (s : Int) (t : List (List Int)) (a : Int) (hl : Mod l) (ht : Mod t) : ∃ r : Int × Int, Ev (fun k => spec_ProjectVertex.f k n l s t a) r ∧ Ev (fun k => impl_ProjectVertex.f k n l s t a) r := by
 unfold spec_ProjectVertex.f impl_ProjectVertex.f
 have h1 := specIsCover n l s t hl ht
 have h2 := implIsCover n l s t hl ht
 cases hc : isCover n l s t with
 | false =>
  rw [hc] at h1 h2
  exact ⟨(0, 1), Ev.bind h1 (Ev.neg (by decide) (Ev.now _)), Ev.bind h2 (Ev.neg (by decide) (Ev.now _))⟩
 | true =>
  rw [hc] at h1 h2
  rw [specIn2, implWithin2]
  have hs : s ≠ 0 := by
   unfold isCover at hc
   rw [Bool.and_eq_true, Bool.and_eq_true, decide_eq_true_iff] at hc
   omega
  by_cases c : 0 ≤ a ∧ a ≤ wrap64 (wrap64 (n * s) - 1)
  ·rw [decide_eq_true c]
   exact ⟨_, Ev.bind h1 (Ev.pos rfl (Ev.bind (Ev.now _) (Ev.pos rfl (Ev.neg hs (Ev.now _))))), Ev.bind h2 (Ev.pos rfl (Ev.bind (Ev.now _) (Ev.pos rfl (Ev.neg hs (Ev.now _)))))⟩
  ·rw [decide_eq_false c]
   exact ⟨(0, 2), Ev.bind h1 (Ev.pos rfl (Ev.bind (Ev.now _) (Ev.neg (by decide) (Ev.now _)))), Ev.bind h2 (Ev.pos rfl (Ev.bind (Ev.now _) (Ev.neg (by decide) (Ev.now _))))⟩

theorem FnExactProjectVertex : laws_FnExactProjectVertex.Pure := by
 intro n l s t a _ hl hr _ hl' hr' _
 refine Ev.rounds ?_
 unfold laws_FnExactProjectVertex.f
 refine Ev.ex (szCover n l s t hl hr hl' hr') (fun z hz => ?_)
 rcases hz with hz | ⟨hz, hz'⟩
 ·repeat (first | with_reducible exact Ev.now _ | dsimp only | refine Ev.pos (by first | omega | rfl | assumption | decide) ?_ | refine Ev.neg (by first | omega | assumption | exact Bool.false_ne_true | exact fun e => absurd e (by decide)) ?_ | simp only [bne_self_eq_false, Bool.not_true, Bool.not_false, List.length_cons, List.length_nil] | rw [wrap_id (by omega) (by omega)] | ((with_reducible refine Ev.eq (congrArg some ?_)); rfl))
 by_cases h0 : z < 0
 ·repeat (first | with_reducible exact Ev.now _ | dsimp only | refine Ev.pos (by first | omega | rfl | assumption | decide) ?_ | refine Ev.neg (by first | omega | assumption | exact Bool.false_ne_true | exact fun e => absurd e (by decide)) ?_ | simp only [bne_self_eq_false, Bool.not_true, Bool.not_false, List.length_cons, List.length_nil] | rw [wrap_id (by omega) (by omega)] | ((with_reducible refine Ev.eq (congrArg some ?_)); rfl))
 obtain ⟨r, hs, hi⟩ := project_same n l s t a hz hz'
 repeat (first | with_reducible exact Ev.now _ | dsimp only | with_reducible refine Ev.bind (toCover n l s t hz hz') ?_ | with_reducible refine Ev.bind (hs) ?_ | with_reducible refine Ev.bind (hi) ?_ | with_reducible refine Ev.bind (eqCover_self n l s t hz hz') ?_ | refine Ev.pos (by first | omega | rfl | assumption | decide) ?_ | refine Ev.neg (by first | omega | assumption | exact Bool.false_ne_true | exact fun e => absurd e (by decide)) ?_ | simp only [bne_self_eq_false, Bool.not_true, Bool.not_false, List.length_cons, List.length_nil] | rw [wrap_id (by omega) (by omega)] | with_reducible exact (toCover n l s t hz hz') | with_reducible exact (hs) | with_reducible exact (hi) | with_reducible exact (eqCover_self n l s t hz hz') | ((with_reducible refine Ev.eq (congrArg some ?_)); rfl))
end Go.Proofs.Ytedhnaljedonfaa.Pure
