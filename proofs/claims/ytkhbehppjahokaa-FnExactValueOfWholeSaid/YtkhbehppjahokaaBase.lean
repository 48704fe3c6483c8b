/- What the laws' own helpers for lists of numbers compute: copies, likeness, sizes, marks. -/
import Derived.Test.YtkhbehppjahokaaG1
import Derived.Test.YtkhbehppjahokaaG2
import Derived.Test.YtkhbehppjahokaaAux
namespace Go.Proofs.Ytkhbehppjahokaa.Pure
open Go.RowKit Go.Proofs.Ytkhbehppjahokaa.G Go.Proofs.YtkhbehppjahokaaW.PrintWords Go.Proofs.YtkhbehppjahokaaW.PrintLast Go.Proofs.YtkhbehppjahokaaW.PrintMore Go.Proofs.Ytkhbehppjahokaa.Aux

theorem toInt64S_loop (l : List Int) (hl : l.length ≤ 1048576) : ∀ (d i : Nat) (ys : List Int), i + d = l.length → ys.length = l.length → ys.take i = l.take i →
    Ev (fun k => laws_toInt64S.l0 k l ys (i : Int)) l := by
  intro d
  induction d with
  | zero =>
    intro i ys hi hy ht
    refine Ev.succ ?_; simp only [laws_toInt64S.l0]
    repeat (first | with_reducible exact Ev.now _ | dsimp only | refine Ev.pos (by first | omega | rfl | assumption | decide) ?_ | refine Ev.neg (by first | omega | assumption | exact Bool.false_ne_true | exact fun e => absurd e (by decide)) ?_ | simp only [bne_self_eq_false, Bool.not_true, Bool.not_false] | rw [wrap_id (by omega) (by omega)] | ((with_reducible refine Ev.eq (congrArg some ?_)); rfl))
    exact Ev.eq (congrArg some (eq_of_take hy (by omega) ht))
  | succ d ih =>
    intro i ys hi hy ht
    refine Ev.succ ?_; simp only [laws_toInt64S.l0]
    rw [wrap_succ (by omega)]
    repeat (first | with_reducible exact Ev.now _ | dsimp only | refine Ev.pos (by first | omega | rfl | assumption | decide) ?_ | refine Ev.neg (by first | omega | assumption | exact Bool.false_ne_true | exact fun e => absurd e (by decide)) ?_ | simp only [bne_self_eq_false, Bool.not_true, Bool.not_false] | rw [wrap_id (by omega) (by omega)] | ((with_reducible refine Ev.eq (congrArg some ?_)); rfl))
    exact ih (i + 1) _ (by omega) (by simpa using hy) (take_set_succ hy (by omega) (rd_lt (by omega)) ht)

theorem toInt64S (l : List Int) (hl : l.length ≤ 1048576) : Ev (fun k => laws_toInt64S.f k l) l := by
  unfold laws_toInt64S.f
  repeat (first | with_reducible exact Ev.now _ | dsimp only | refine Ev.pos (by first | omega | rfl | assumption | decide) ?_ | refine Ev.neg (by first | omega | assumption | exact Bool.false_ne_true | exact fun e => absurd e (by decide)) ?_ | simp only [bne_self_eq_false, Bool.not_true, Bool.not_false] | rw [wrap_id (by omega) (by omega)] | ((with_reducible refine Ev.eq (congrArg some ?_)); rfl))
  exact toInt64S_loop l hl l.length 0 _ (by omega) (by simp) (by simp)

theorem eqInt64S_loop (a b : List Int) (hl : a.length ≤ 1048576) (hab : a.length = b.length) : ∀ (d i : Nat), i + d = a.length →
    Ev (fun k => laws_eqInt64S.l0 k a b (i : Int)) (decide (a.drop i = b.drop i)) := by
  intro d
  induction d with
  | zero =>
    intro i hi
    refine Ev.succ ?_; simp only [laws_eqInt64S.l0]
    rw [List.drop_eq_nil_of_le (by omega), List.drop_eq_nil_of_le (by omega)]
    repeat (first | with_reducible exact Ev.now _ | dsimp only | refine Ev.pos (by first | omega | rfl | assumption | decide) ?_ | refine Ev.neg (by first | omega | assumption | exact Bool.false_ne_true | exact fun e => absurd e (by decide)) ?_ | simp only [bne_self_eq_false, Bool.not_true, Bool.not_false] | rw [wrap_id (by omega) (by omega)] | ((with_reducible refine Ev.eq (congrArg some ?_)); rfl))
  | succ d ih =>
    intro i hi
    refine Ev.succ ?_; simp only [laws_eqInt64S.l0]
    rw [List.drop_eq_getElem_cons (by omega : i < a.length), List.drop_eq_getElem_cons (by omega : i < b.length), wrap_succ (by omega)]
    by_cases e : rd a i = rd b i
    · repeat (first | with_reducible exact Ev.now _ | dsimp only | refine Ev.pos (by first | omega | rfl | assumption | decide) ?_ | refine Ev.neg (by first | omega | assumption | exact Bool.false_ne_true | exact fun e => absurd e (by decide)) ?_ | simp only [bne_self_eq_false, Bool.not_true, Bool.not_false] | rw [wrap_id (by omega) (by omega)] | ((with_reducible refine Ev.eq (congrArg some ?_)); rfl))
      have := ih (i + 1) (by omega)
      rw [rd_lt (by omega), rd_lt (by omega)] at e
      rw [e, decide_cons]
      exact this
    · rw [decide_eq_false (fun h => e (by rw [rd_lt (by omega), rd_lt (by omega)]; exact (List.cons.inj h).1))]
      repeat (first | with_reducible exact Ev.now _ | dsimp only | refine Ev.pos (by first | omega | rfl | assumption | decide) ?_ | refine Ev.neg (by first | omega | assumption | exact Bool.false_ne_true | exact fun e => absurd e (by decide)) ?_ | simp only [bne_self_eq_false, Bool.not_true, Bool.not_false] | rw [wrap_id (by omega) (by omega)] | ((with_reducible refine Ev.eq (congrArg some ?_)); rfl))

theorem eqInt64S (a b : List Int) (hl : a.length ≤ 1048576) : Ev (fun k => laws_eqInt64S.f k a b) (decide (a = b)) := by
  unfold laws_eqInt64S.f
  by_cases h : a.length = b.length
  · repeat (first | with_reducible exact Ev.now _ | dsimp only | refine Ev.pos (by first | omega | rfl | assumption | decide) ?_ | refine Ev.neg (by first | omega | assumption | exact Bool.false_ne_true | exact fun e => absurd e (by decide)) ?_ | simp only [bne_self_eq_false, Bool.not_true, Bool.not_false] | rw [wrap_id (by omega) (by omega)] | ((with_reducible refine Ev.eq (congrArg some ?_)); rfl))
    exact eqInt64S_loop a b hl h a.length 0 (by omega)
  · rw [decide_eq_false (fun e => h (by rw [e]))]
    repeat (first | with_reducible exact Ev.now _ | dsimp only | refine Ev.pos (by first | omega | rfl | assumption | decide) ?_ | refine Ev.neg (by first | omega | assumption | exact Bool.false_ne_true | exact fun e => absurd e (by decide)) ?_ | simp only [bne_self_eq_false, Bool.not_true, Bool.not_false] | rw [wrap_id (by omega) (by omega)] | ((with_reducible refine Ev.eq (congrArg some ?_)); rfl))

theorem eqInt64S_self (a : List Int) (hl : a.length ≤ 1048576) : Ev (fun k => laws_eqInt64S.f k a a) true :=
  Ev.conv (eqInt64S a a hl) (by simp)
end Go.Proofs.Ytkhbehppjahokaa.Pure
