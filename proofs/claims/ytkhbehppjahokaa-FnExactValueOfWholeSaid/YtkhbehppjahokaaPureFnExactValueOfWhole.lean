/- The exact law of ValueOfWhole: Horner's scheme with guards, the same on both sides. -/
import Derived.Test.YtkhbehppjahokaaG12
import Derived.Test.YtkhbehppjahokaaG13
import Derived.Test.YtkhbehppjahokaaG14
import Derived.Test.YtkhbehppjahokaaAux
import Derived.Test.YtkhbehppjahokaaBase
import Derived.Test.YtkhbehppjahokaaWhole
import Derived.Test.YtkhbehppjahokaaMore
import Derived.Test.YtkhbehppjahokaaAreWhole
namespace Go.Proofs.Ytkhbehppjahokaa.Pure
open Go.RowKit Go.Proofs.Ytkhbehppjahokaa.G Go.Proofs.YtkhbehppjahokaaW.PrintWords Go.Proofs.YtkhbehppjahokaaW.PrintLast Go.Proofs.YtkhbehppjahokaaW.PrintMore Go.Proofs.Ytkhbehppjahokaa.Aux

/-- The scheme, from the j first numbers on. -/
def val (l : List Int) (x : Int) : Nat → Int → Int × Int
  | 0, acc => (acc, 0)
  | j + 1, acc => if (more (l.getD j 0) acc x).2 = true then val l x j (more (l.getD j 0) acc x).1 else (0, 3)

theorem more_small {a b c : Int} (h : (more a b c).2 = true) : -big ≤ (more a b c).1 ∧ (more a b c).1 ≤ big := by
  unfold more at h ⊢
  by_cases g : -big ≤ b * c ∧ b * c ≤ big
  · rw [if_pos g] at h ⊢
    exact decide_eq_true_iff.1 h
  · rw [if_neg g] at h
    cases h

theorem specVal (l : List Int) (x : Int) (hx : -big ≤ x ∧ x ≤ big) (hl : l.length ≤ 40) (hs : ∀ y ∈ l, -big ≤ y ∧ y ≤ big) : ∀ (j : Nat) (acc : Int), j ≤ l.length → (-big ≤ acc ∧ acc ≤ big) →
    Ev (fun k => spec_ValueOfWhole.l0 k l x acc ((j : Int) - 1)) (val l x j acc) := by
  intro j
  induction j with
  | zero =>
    intro acc hj ha
    refine Ev.succ ?_; simp only [spec_ValueOfWhole.l0]
    unfold val
    repeat (first | with_reducible exact Ev.now _ | dsimp only | refine Ev.pos (by first | omega | rfl | assumption | decide) ?_ | refine Ev.neg (by first | omega | assumption | exact Bool.false_ne_true | exact fun e => absurd e (by decide)) ?_ | simp only [bne_self_eq_false, Bool.not_true, Bool.not_false, List.length_cons, List.length_nil] | rw [wrap_id (by omega) (by omega)] | ((with_reducible refine Ev.eq (congrArg some ?_)); rfl))
  | succ j ih =>
    intro acc hj ha
    refine Ev.succ ?_; simp only [spec_ValueOfWhole.l0]
    unfold val
    rw [show ((j + 1 : Nat) : Int) - 1 = j by omega, wrap_id (by omega) (by omega), specMore (hs _ (rd_mem (by omega))) ha hx, ← rd_nat]
    by_cases h : (more (rd l (j : Int)) acc x).2 = true
    · rw [if_pos h]
      repeat (first | with_reducible exact Ev.now _ | dsimp only | with_reducible refine Ev.bind (Ev.now _) ?_ | refine Ev.pos (by first | omega | rfl | assumption | decide) ?_ | refine Ev.neg (by first | omega | assumption | exact Bool.false_ne_true | exact fun e => absurd e (by decide)) ?_ | simp only [bne_self_eq_false, Bool.not_true, Bool.not_false, List.length_cons, List.length_nil] | rw [wrap_id (by omega) (by omega)] | with_reducible exact (Ev.now _) | ((with_reducible refine Ev.eq (congrArg some ?_)); rfl))
      exact ih _ (by omega) (more_small h)
    · rw [if_neg h]
      repeat (first | with_reducible exact Ev.now _ | dsimp only | with_reducible refine Ev.bind (Ev.now _) ?_ | refine Ev.pos (by first | omega | rfl | assumption | decide) ?_ | refine Ev.neg (by first | omega | assumption | exact Bool.false_ne_true | exact fun e => absurd e (by decide)) ?_ | simp only [bne_self_eq_false, Bool.not_true, Bool.not_false, List.length_cons, List.length_nil] | rw [wrap_id (by omega) (by omega)] | with_reducible exact (Ev.now _) | ((with_reducible refine Ev.eq (congrArg some ?_)); rfl))

theorem implVal (l : List Int) (x : Int) (hx : -big ≤ x ∧ x ≤ big) (hl : l.length ≤ 40) (hs : ∀ y ∈ l, -big ≤ y ∧ y ≤ big) : ∀ (j : Nat) (acc : Int), j ≤ l.length → (-big ≤ acc ∧ acc ≤ big) →
    Ev (fun k => impl_ValueOfWhole.l0 k l x acc ((j : Int) - 1)) (val l x j acc) := by
  intro j
  induction j with
  | zero =>
    intro acc hj ha
    refine Ev.succ ?_; simp only [impl_ValueOfWhole.l0]
    unfold val
    repeat (first | with_reducible exact Ev.now _ | dsimp only | refine Ev.pos (by first | omega | rfl | assumption | decide) ?_ | refine Ev.neg (by first | omega | assumption | exact Bool.false_ne_true | exact fun e => absurd e (by decide)) ?_ | simp only [bne_self_eq_false, Bool.not_true, Bool.not_false, List.length_cons, List.length_nil] | rw [wrap_id (by omega) (by omega)] | ((with_reducible refine Ev.eq (congrArg some ?_)); rfl))
  | succ j ih =>
    intro acc hj ha
    refine Ev.succ ?_; simp only [impl_ValueOfWhole.l0]
    unfold val
    have hc := hs _ (rd_mem (show j < l.length by omega))
    rw [show ((j + 1 : Nat) : Int) - 1 = j by omega, wrap_id (x := (j : Int) - 1) (by omega) (by omega), ← rd_nat]
    refine Ev.bind (implTimes (a := 0) (by decide) ha hx) ?_
    generalize rd l (j : Int) = c at hc
    by_cases g : -big ≤ acc * x ∧ acc * x ≤ big
    · have e1 : more 0 acc x = (acc * x, true) := by
        unfold more
        rw [if_pos g, Int.zero_add, show small (acc * x) = true from decide_eq_true g]
      have e2 : more c acc x = (c + acc * x, small (c + acc * x)) := if_pos g
      rw [e1, e2]
      have e3 : wrap64 (acc * x + c) = c + acc * x := by
        unfold big at *
        rw [wrap_id (by omega) (by omega), Int.add_comm]
      simp only [e3, implSmall]
      by_cases h : small (c + acc * x) = true
      · rw [if_pos h]
        repeat (first | with_reducible exact Ev.now _ | dsimp only | with_reducible refine Ev.bind (Ev.now _) ?_ | refine Ev.pos (by first | omega | rfl | assumption | decide) ?_ | refine Ev.neg (by first | omega | assumption | exact Bool.false_ne_true | exact fun e => absurd e (by decide)) ?_ | simp only [bne_self_eq_false, Bool.not_true, Bool.not_false, List.length_cons, List.length_nil] | rw [wrap_id (by omega) (by omega)] | with_reducible exact (Ev.now _) | ((with_reducible refine Ev.eq (congrArg some ?_)); rfl))
        exact ih _ (by omega) (decide_eq_true_iff.1 h)
      · rw [if_neg h]
        repeat (first | with_reducible exact Ev.now _ | dsimp only | with_reducible refine Ev.bind (Ev.now _) ?_ | refine Ev.pos (by first | omega | rfl | assumption | decide) ?_ | refine Ev.neg (by first | omega | assumption | exact Bool.false_ne_true | exact fun e => absurd e (by decide)) ?_ | simp only [bne_self_eq_false, Bool.not_true, Bool.not_false, List.length_cons, List.length_nil] | rw [wrap_id (by omega) (by omega)] | with_reducible exact (Ev.now _) | ((with_reducible refine Ev.eq (congrArg some ?_)); rfl))
    · have e1 : more 0 acc x = (0, false) := if_neg g
      have e2 : more c acc x = (0, false) := if_neg g
      rw [e1, e2]
      repeat (first | with_reducible exact Ev.now _ | dsimp only | refine Ev.pos (by first | omega | rfl | assumption | decide) ?_ | refine Ev.neg (by first | omega | assumption | exact Bool.false_ne_true | exact fun e => absurd e (by decide)) ?_ | simp only [bne_self_eq_false, Bool.not_true, Bool.not_false, List.length_cons, List.length_nil] | rw [wrap_id (by omega) (by omega)] | ((with_reducible refine Ev.eq (congrArg some ?_)); rfl))

theorem FnExactValueOfWhole : laws_FnExactValueOfWhole.Pure := by
  intro l x _ _ _
  refine Ev.rounds ?_
  unfold laws_FnExactValueOfWhole.f
  by_cases h : (l.length : Int) > 1048576
  · repeat (first | with_reducible exact Ev.now _ | dsimp only | refine Ev.pos (by first | omega | rfl | assumption | decide) ?_ | refine Ev.neg (by first | omega | assumption | exact Bool.false_ne_true | exact fun e => absurd e (by decide)) ?_ | simp only [bne_self_eq_false, Bool.not_true, Bool.not_false, List.length_cons, List.length_nil] | rw [wrap_id (by omega) (by omega)] | ((with_reducible refine Ev.eq (congrArg some ?_)); rfl))
  · have hl : l.length ≤ 1048576 := by omega
    obtain ⟨r, hs, hi⟩ : ∃ r, Ev (fun k => spec_ValueOfWhole.f k l x) r ∧ Ev (fun k => impl_ValueOfWhole.f k l x) r := by
      unfold spec_ValueOfWhole.f impl_ValueOfWhole.f
      rw [specIn, implWithin]
      by_cases hw : whole l = true
      · have h1 := specPoly l hl
        have h2 := areWhole l hl
        rw [hw] at h1 h2
        have h40 := whole_length hw
        by_cases hx : -1000 ≤ x ∧ x ≤ 1000
        · refine ⟨val l x l.length 0, ?_, ?_⟩
          · rw [decide_eq_true hx]
            repeat (first | with_reducible exact Ev.now _ | dsimp only | with_reducible refine Ev.bind (h1) ?_ | with_reducible refine Ev.bind (Ev.now _) ?_ | refine Ev.pos (by first | omega | rfl | assumption | decide) ?_ | refine Ev.neg (by first | omega | assumption | exact Bool.false_ne_true | exact fun e => absurd e (by decide)) ?_ | simp only [bne_self_eq_false, Bool.not_true, Bool.not_false, List.length_cons, List.length_nil] | rw [wrap_id (by omega) (by omega)] | with_reducible exact (h1) | with_reducible exact (Ev.now _) | ((with_reducible refine Ev.eq (congrArg some ?_)); rfl))
            exact specVal l x (by unfold big; omega) h40 (whole_small hw) _ _ (Nat.le_refl _) (by decide)
          · rw [decide_eq_true hx]
            repeat (first | with_reducible exact Ev.now _ | dsimp only | with_reducible refine Ev.bind (h2) ?_ | with_reducible refine Ev.bind (Ev.now _) ?_ | refine Ev.pos (by first | omega | rfl | assumption | decide) ?_ | refine Ev.neg (by first | omega | assumption | exact Bool.false_ne_true | exact fun e => absurd e (by decide)) ?_ | simp only [bne_self_eq_false, Bool.not_true, Bool.not_false, List.length_cons, List.length_nil] | rw [wrap_id (by omega) (by omega)] | with_reducible exact (h2) | with_reducible exact (Ev.now _) | ((with_reducible refine Ev.eq (congrArg some ?_)); rfl))
            exact implVal l x (by unfold big; omega) h40 (whole_small hw) _ _ (Nat.le_refl _) (by decide)
        · refine ⟨(0, 2), ?_, ?_⟩
          · rw [decide_eq_false hx]
            repeat (first | with_reducible exact Ev.now _ | dsimp only | with_reducible refine Ev.bind (h1) ?_ | with_reducible refine Ev.bind (Ev.now _) ?_ | refine Ev.pos (by first | omega | rfl | assumption | decide) ?_ | refine Ev.neg (by first | omega | assumption | exact Bool.false_ne_true | exact fun e => absurd e (by decide)) ?_ | simp only [bne_self_eq_false, Bool.not_true, Bool.not_false, List.length_cons, List.length_nil] | rw [wrap_id (by omega) (by omega)] | with_reducible exact (h1) | with_reducible exact (Ev.now _) | ((with_reducible refine Ev.eq (congrArg some ?_)); rfl))
          · rw [decide_eq_false hx]
            repeat (first | with_reducible exact Ev.now _ | dsimp only | with_reducible refine Ev.bind (h2) ?_ | with_reducible refine Ev.bind (Ev.now _) ?_ | refine Ev.pos (by first | omega | rfl | assumption | decide) ?_ | refine Ev.neg (by first | omega | assumption | exact Bool.false_ne_true | exact fun e => absurd e (by decide)) ?_ | simp only [bne_self_eq_false, Bool.not_true, Bool.not_false, List.length_cons, List.length_nil] | rw [wrap_id (by omega) (by omega)] | with_reducible exact (h2) | with_reducible exact (Ev.now _) | ((with_reducible refine Ev.eq (congrArg some ?_)); rfl))
      · rw [Bool.not_eq_true] at hw
        have h1 := specPoly l hl
        have h2 := areWhole l hl
        rw [hw] at h1 h2
        refine ⟨(0, 1), ?_, ?_⟩
        · repeat (first | with_reducible exact Ev.now _ | dsimp only | with_reducible refine Ev.bind (h1) ?_ | refine Ev.pos (by first | omega | rfl | assumption | decide) ?_ | refine Ev.neg (by first | omega | assumption | exact Bool.false_ne_true | exact fun e => absurd e (by decide)) ?_ | simp only [bne_self_eq_false, Bool.not_true, Bool.not_false, List.length_cons, List.length_nil] | rw [wrap_id (by omega) (by omega)] | with_reducible exact (h1) | ((with_reducible refine Ev.eq (congrArg some ?_)); rfl))
        · repeat (first | with_reducible exact Ev.now _ | dsimp only | with_reducible refine Ev.bind (h2) ?_ | refine Ev.pos (by first | omega | rfl | assumption | decide) ?_ | refine Ev.neg (by first | omega | assumption | exact Bool.false_ne_true | exact fun e => absurd e (by decide)) ?_ | simp only [bne_self_eq_false, Bool.not_true, Bool.not_false, List.length_cons, List.length_nil] | rw [wrap_id (by omega) (by omega)] | with_reducible exact (h2) | ((with_reducible refine Ev.eq (congrArg some ?_)); rfl))
    repeat (first | with_reducible exact Ev.now _ | dsimp only | with_reducible refine Ev.bind (toInt64S l hl) ?_ | with_reducible refine Ev.bind (hs) ?_ | with_reducible refine Ev.bind (hi) ?_ | with_reducible refine Ev.bind (eqInt64S_self l hl) ?_ | refine Ev.pos (by first | omega | rfl | assumption | decide) ?_ | refine Ev.neg (by first | omega | assumption | exact Bool.false_ne_true | exact fun e => absurd e (by decide)) ?_ | simp only [bne_self_eq_false, Bool.not_true, Bool.not_false, List.length_cons, List.length_nil] | rw [wrap_id (by omega) (by omega)] | with_reducible exact (toInt64S l hl) | with_reducible exact (hs) | with_reducible exact (hi) | with_reducible exact (eqInt64S_self l hl) | ((with_reducible refine Ev.eq (congrArg some ?_)); rfl))
end Go.Proofs.Ytkhbehppjahokaa.Pure
