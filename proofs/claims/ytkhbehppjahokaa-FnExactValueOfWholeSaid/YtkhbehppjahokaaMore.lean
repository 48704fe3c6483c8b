/- The guarded multiply-and-add: both sides' helpers compute the same on moderate numbers. -/
import Derived.Test.YtkhbehppjahokaaG11
import Derived.Test.YtkhbehppjahokaaG13
import Derived.Test.YtkhbehppjahokaaAux
import Derived.Test.YtkhbehppjahokaaBase
import Derived.Test.YtkhbehppjahokaaWhole
namespace Go.Proofs.Ytkhbehppjahokaa.Pure
open Go.RowKit Go.Proofs.Ytkhbehppjahokaa.G Go.Proofs.YtkhbehppjahokaaW.PrintWords Go.Proofs.YtkhbehppjahokaaW.PrintLast Go.Proofs.YtkhbehppjahokaaW.PrintMore Go.Proofs.Ytkhbehppjahokaa.Aux

def big : Int := 1000000000000000

/-- a + b * c, and whether product and sum are small. -/
def more (a b c : Int) : Int × Bool := if -big ≤ b * c ∧ b * c ≤ big then (a + b * c, small (a + b * c)) else (0, false)

theorem mx_abs {a : Int} (h : -big ≤ a ∧ a ≤ big) : mx a (wrap64 (-a)) = a.natAbs := by
  unfold big at h
  rw [wrap_id (by omega) (by omega)]
  unfold mx
  split <;> omega

theorem guard_iff {b c : Int} (hb : b ≠ 0) : ¬ ((c.natAbs : Int) > big.tdiv (b.natAbs : Int)) ↔ (-big ≤ b * c ∧ b * c ≤ big) := by
  have hp : (0 : Int) < (b.natAbs : Int) := by omega
  rw [Int.tdiv_eq_ediv_of_nonneg (by decide), Int.not_lt, Int.le_ediv_iff_mul_le hp]
  have : (c.natAbs : Int) * (b.natAbs : Int) = ((b * c).natAbs : Int) := by
    rw [Int.natAbs_mul]
    push_cast
    exact Int.mul_comm _ _
  rw [this]
  omega

theorem div_small {b : Int} (h : b ≠ 0) : wrap64 (big.tdiv (b.natAbs : Int)) = big.tdiv (b.natAbs : Int) := by
  have h1 : big.tdiv (b.natAbs : Int) = big / (b.natAbs : Int) := Int.tdiv_eq_ediv_of_nonneg (by decide)
  have h2 : big / (b.natAbs : Int) ≤ big := Int.ediv_le_self _ (by decide)
  have h3 : 0 ≤ big / (b.natAbs : Int) := Int.ediv_nonneg (by decide) (by omega)
  rw [h1]
  unfold big at *
  exact wrap_id (by omega) (by omega)

theorem sum_wrap {a p : Int} (ha : -big ≤ a ∧ a ≤ big) (hp : -big ≤ p ∧ p ≤ big) : wrap64 (a + wrap64 p) = a + p := by
  unfold big at *
  rw [wrap_id (x := p) (by omega) (by omega), wrap_id (by omega) (by omega)]

theorem specMore {a b c : Int} (ha : -big ≤ a ∧ a ≤ big) (hb : -big ≤ b ∧ b ≤ big) (hc : -big ≤ c ∧ c ≤ big) : spec_l01More.f a b c = some (more a b c) := by
  unfold spec_l01More.f more
  by_cases h0 : b = 0
  · subst h0
    rw [if_pos rfl, Int.zero_mul, if_pos (by decide), sum_wrap ha (by decide), specIn]
    rfl
  · rw [if_neg h0, mx_abs hb, mx_abs hc, if_neg (by omega)]
    rw [show (1000000000000000 : Int) = big from rfl, div_small h0]
    by_cases h : -big ≤ b * c ∧ b * c ≤ big
    · rw [if_neg ((guard_iff h0).2 h), if_pos h, sum_wrap ha h, specIn]
      rfl
    · rw [if_pos (Decidable.not_not.1 (fun g => h ((guard_iff h0).1 g))), if_neg h]

theorem implTimes {a b c : Int} (ha : -big ≤ a ∧ a ≤ big) (hb : -big ≤ b ∧ b ≤ big) (hc : -big ≤ c ∧ c ≤ big) : Ev (fun k => impl_plusTimes.f k a b c) (more a b c) := by
  have hs : small a = true := decide_eq_true ha
  unfold impl_plusTimes.f
  by_cases h0 : b = 0
  · refine Ev.pos h0 ?_
    refine Ev.succ ?_; simp only [impl_plusTimes.j0]
    subst h0
    unfold more
    rw [Int.zero_mul, if_pos (by decide), Int.add_zero, hs]
    repeat (first | with_reducible exact Ev.now _ | dsimp only | refine Ev.pos (by first | omega | rfl | assumption | decide) ?_ | refine Ev.neg (by first | omega | assumption | exact Bool.false_ne_true | exact fun e => absurd e (by decide)) ?_ | simp only [bne_self_eq_false, Bool.not_true, Bool.not_false] | rw [wrap_id (by omega) (by omega)] | ((with_reducible refine Ev.eq (congrArg some ?_)); rfl))
  · refine Ev.neg h0 ?_
    refine Ev.succ ?_; simp only [impl_plusTimes.j0]
    by_cases h1 : c = 0
    · subst h1
      unfold more
      rw [Int.mul_zero, if_pos (by decide), Int.add_zero, hs]
      repeat (first | with_reducible exact Ev.now _ | dsimp only | refine Ev.pos (by first | omega | rfl | assumption | decide) ?_ | refine Ev.neg (by first | omega | assumption | exact Bool.false_ne_true | exact fun e => absurd e (by decide)) ?_ | simp only [bne_self_eq_false, Bool.not_true, Bool.not_false] | rw [wrap_id (by omega) (by omega)] | ((with_reducible refine Ev.eq (congrArg some ?_)); rfl))
    · rw [show (c == 0) = false from beq_eq_false_iff_ne.2 h1]
      refine Ev.neg (by decide) ?_
      unfold impl_absolute.f
      rw [mx_abs hb, mx_abs hc]
      repeat (first | with_reducible exact Ev.now _ | dsimp only | with_reducible refine Ev.bind (Ev.now _) ?_ | refine Ev.pos (by first | omega | rfl | assumption | decide) ?_ | refine Ev.neg (by first | omega | assumption | exact Bool.false_ne_true | exact fun e => absurd e (by decide)) ?_ | simp only [bne_self_eq_false, Bool.not_true, Bool.not_false] | rw [wrap_id (by omega) (by omega)] | with_reducible exact (Ev.now _) | ((with_reducible refine Ev.eq (congrArg some ?_)); rfl))
      rw [show (1000000000000000 : Int) = big from rfl, div_small h1]
      unfold more
      by_cases h : -big ≤ b * c ∧ b * c ≤ big
      · rw [if_pos h, sum_wrap ha h]
        refine Ev.neg ((guard_iff h1).2 (by rw [Int.mul_comm]; exact h)) ?_
        rw [implSmall]
        repeat (first | with_reducible exact Ev.now _ | dsimp only | with_reducible refine Ev.bind (Ev.now _) ?_ | refine Ev.pos (by first | omega | rfl | assumption | decide) ?_ | refine Ev.neg (by first | omega | assumption | exact Bool.false_ne_true | exact fun e => absurd e (by decide)) ?_ | simp only [bne_self_eq_false, Bool.not_true, Bool.not_false] | rw [wrap_id (by omega) (by omega)] | with_reducible exact (Ev.now _) | ((with_reducible refine Ev.eq (congrArg some ?_)); rfl))
      · rw [if_neg h]
        refine Ev.pos (Decidable.not_not.1 (fun g => h (by rw [Int.mul_comm]; exact (guard_iff h1).1 g))) ?_
        repeat (first | with_reducible exact Ev.now _ | dsimp only | refine Ev.pos (by first | omega | rfl | assumption | decide) ?_ | refine Ev.neg (by first | omega | assumption | exact Bool.false_ne_true | exact fun e => absurd e (by decide)) ?_ | simp only [bne_self_eq_false, Bool.not_true, Bool.not_false] | rw [wrap_id (by omega) (by omega)] | ((with_reducible refine Ev.eq (congrArg some ?_)); rfl))
end Go.Proofs.Ytkhbehppjahokaa.Pure
