/- The plain proofs for this law. -/
import Derived.Test.YtkhbehppjahokaaC1
import Derived.Test.YtkhbehppjahokaaAux
namespace Go.Proofs.Ytkhbehppjahokaa.Pure
open Go.RowKit Go.Proofs.Ytkhbehppjahokaa.G Go.Proofs.YtkhbehppjahokaaW.PrintWords Go.Proofs.YtkhbehppjahokaaW.PrintLast Go.Proofs.YtkhbehppjahokaaW.PrintMore Go.Proofs.Ytkhbehppjahokaa.Aux
set_option linter.unusedVariables false
set_option linter.unusedSimpArgs false

theorem toInt64S_loop (l : List Int) (hl : l.length ≤ 1048576) : ∀ (d i : Nat) (ys : List Int), i + d = l.length → ys.length = l.length → ys.take i = l.take i →
    Ev (fun k => laws_toInt64S.l0 k l ys (i : Int)) l := by
  intro d
  induction d with
  | zero =>
    intro i ys hi hy ht
    refine Ev.succ ?_; simp only [laws_toInt64S.l0]
    repeat (first | with_reducible exact Ev.now _ | dsimp only | refine Ev.pos (by first | omega | rfl | assumption | decide) ?_ | refine Ev.neg (by first | omega | assumption | exact Bool.false_ne_true | exact fun e => absurd e (by decide)) ?_ | simp only [bne_self_eq_false, Bool.not_true, Bool.not_false] | rw [wrap_id (by omega) (by omega)] | ((with_reducible refine Ev.eq (congrArg some ?_)); rfl))
    exact Ev.eq (congrArg some (eq_of_take hy (by omega) ht))
  | succ d ih =>
    intro i ys hi hy ht
    refine Ev.succ ?_; simp only [laws_toInt64S.l0]
    rw [wrap_succ (by omega)]
    repeat (first | with_reducible exact Ev.now _ | dsimp only | refine Ev.pos (by first | omega | rfl | assumption | decide) ?_ | refine Ev.neg (by first | omega | assumption | exact Bool.false_ne_true | exact fun e => absurd e (by decide)) ?_ | simp only [bne_self_eq_false, Bool.not_true, Bool.not_false] | rw [wrap_id (by omega) (by omega)] | ((with_reducible refine Ev.eq (congrArg some ?_)); rfl))
    exact ih (i + 1) _ (by omega) (by simpa using hy) (take_set_succ hy (by omega) (rd_lt (by omega)) ht)

theorem toInt64S (l : List Int) (hl : l.length ≤ 1048576) : Ev (fun k => laws_toInt64S.f k l) l := by
  unfold laws_toInt64S.f
  repeat (first | with_reducible exact Ev.now _ | dsimp only | refine Ev.pos (by first | omega | rfl | assumption | decide) ?_ | refine Ev.neg (by first | omega | assumption | exact Bool.false_ne_true | exact fun e => absurd e (by decide)) ?_ | simp only [bne_self_eq_false, Bool.not_true, Bool.not_false] | rw [wrap_id (by omega) (by omega)] | ((with_reducible refine Ev.eq (congrArg some ?_)); rfl))
  exact toInt64S_loop l hl l.length 0 _ (by omega) (by simp) (by simp)

theorem eqInt64S_loop (a b : List Int) (hl : a.length ≤ 1048576) (hab : a.length = b.length) : ∀ (d i : Nat), i + d = a.length →
    Ev (fun k => laws_eqInt64S.l0 k a b (i : Int)) (decide (a.drop i = b.drop i)) := by
  intro d
  induction d with
  | zero =>
    intro i hi
    refine Ev.succ ?_; simp only [laws_eqInt64S.l0]
    rw [List.drop_eq_nil_of_le (by omega), List.drop_eq_nil_of_le (by omega)]
    repeat (first | with_reducible exact Ev.now _ | dsimp only | refine Ev.pos (by first | omega | rfl | assumption | decide) ?_ | refine Ev.neg (by first | omega | assumption | exact Bool.false_ne_true | exact fun e => absurd e (by decide)) ?_ | simp only [bne_self_eq_false, Bool.not_true, Bool.not_false] | rw [wrap_id (by omega) (by omega)] | ((with_reducible refine Ev.eq (congrArg some ?_)); rfl))
  | succ d ih =>
    intro i hi
    refine Ev.succ ?_; simp only [laws_eqInt64S.l0]
    rw [List.drop_eq_getElem_cons (by omega : i < a.length), List.drop_eq_getElem_cons (by omega : i < b.length), wrap_succ (by omega)]
    by_cases e : rd a i = rd b i
    · repeat (first | with_reducible exact Ev.now _ | dsimp only | refine Ev.pos (by first | omega | rfl | assumption | decide) ?_ | refine Ev.neg (by first | omega | assumption | exact Bool.false_ne_true | exact fun e => absurd e (by decide)) ?_ | simp only [bne_self_eq_false, Bool.not_true, Bool.not_false] | rw [wrap_id (by omega) (by omega)] | ((with_reducible refine Ev.eq (congrArg some ?_)); rfl))
      have := ih (i + 1) (by omega)
      rw [rd_lt (by omega), rd_lt (by omega)] at e
      rw [e, decide_cons]
      exact this
    · rw [decide_eq_false (fun h => e (by rw [rd_lt (by omega), rd_lt (by omega)]; exact (List.cons.inj h).1))]
      repeat (first | with_reducible exact Ev.now _ | dsimp only | refine Ev.pos (by first | omega | rfl | assumption | decide) ?_ | refine Ev.neg (by first | omega | assumption | exact Bool.false_ne_true | exact fun e => absurd e (by decide)) ?_ | simp only [bne_self_eq_false, Bool.not_true, Bool.not_false] | rw [wrap_id (by omega) (by omega)] | ((with_reducible refine Ev.eq (congrArg some ?_)); rfl))

theorem eqInt64S (a b : List Int) (hl : a.length ≤ 1048576) : Ev (fun k => laws_eqInt64S.f k a b) (decide (a = b)) := by
  unfold laws_eqInt64S.f
  by_cases h : a.length = b.length
  · repeat (first | with_reducible exact Ev.now _ | dsimp only | refine Ev.pos (by first | omega | rfl | assumption | decide) ?_ | refine Ev.neg (by first | omega | assumption | exact Bool.false_ne_true | exact fun e => absurd e (by decide)) ?_ | simp only [bne_self_eq_false, Bool.not_true, Bool.not_false] | rw [wrap_id (by omega) (by omega)] | ((with_reducible refine Ev.eq (congrArg some ?_)); rfl))
    exact eqInt64S_loop a b hl h a.length 0 (by omega)
  · rw [decide_eq_false (fun e => h (by rw [e]))]
    repeat (first | with_reducible exact Ev.now _ | dsimp only | refine Ev.pos (by first | omega | rfl | assumption | decide) ?_ | refine Ev.neg (by first | omega | assumption | exact Bool.false_ne_true | exact fun e => absurd e (by decide)) ?_ | simp only [bne_self_eq_false, Bool.not_true, Bool.not_false] | rw [wrap_id (by omega) (by omega)] | ((with_reducible refine Ev.eq (congrArg some ?_)); rfl))

theorem eqInt64S_self (a : List Int) (hl : a.length ≤ 1048576) : Ev (fun k => laws_eqInt64S.f k a a) true :=
  Ev.conv (eqInt64S a a hl) (by simp)
theorem markInt64S_loop (n : Nat) (hn : n ≤ 1048576) (a : Int) (h0 : 0 ≤ a) (h1 : a ≤ 1125899906842624) : ∀ (d i : Nat) (ys : List Int), i + d = n → ys.length = n → ys.take i = (marks a n).take i →
    Ev (fun k => laws_markInt64S.l0 k ys (a + i) (i : Int)) (a + n, marks a n) := by
  intro d
  induction d with
  | zero =>
    intro i ys hi hy ht
    refine Ev.succ ?_; simp only [laws_markInt64S.l0]
    rw [show ys = marks a n from eq_of_take (by rw [hy, marks_length]) (by rw [marks_length]; omega) ht, show i = n by omega]
    have := marks_length a n
    repeat (first | with_reducible exact Ev.now _ | dsimp only | refine Ev.pos (by first | omega | rfl | assumption | decide) ?_ | refine Ev.neg (by first | omega | assumption | exact Bool.false_ne_true | exact fun e => absurd e (by decide)) ?_ | simp only [bne_self_eq_false, Bool.not_true, Bool.not_false] | rw [wrap_id (by omega) (by omega)] | ((with_reducible refine Ev.eq (congrArg some ?_)); rfl))
  | succ d ih =>
    intro i ys hi hy ht
    refine Ev.succ ?_; simp only [laws_markInt64S.l0]
    rw [wrap_succ (by omega), wrap_id (x := a + i + 1) (by omega) (by omega)]
    repeat (first | with_reducible exact Ev.now _ | dsimp only | refine Ev.pos (by first | omega | rfl | assumption | decide) ?_ | refine Ev.neg (by first | omega | assumption | exact Bool.false_ne_true | exact fun e => absurd e (by decide)) ?_ | simp only [bne_self_eq_false, Bool.not_true, Bool.not_false] | rw [wrap_id (by omega) (by omega)] | ((with_reducible refine Ev.eq (congrArg some ?_)); rfl))
    have := ih (i + 1) (ys.set i (a + i)) (by omega) (by simpa using hy) (take_set_succ (by rw [hy, marks_length]) (by rw [marks_length]; omega) (marks_get a n i (by rw [marks_length]; omega)).symm ht)
    rw [show a + ((i + 1 : Nat) : Int) = a + i + 1 by omega] at this
    exact this

theorem markInt64S (l : List Int) (hl : l.length ≤ 1048576) (a : Int) (h0 : 0 ≤ a) (h1 : a ≤ 1125899906842624) : Ev (fun k => laws_markInt64S.f k l a) (a + l.length, marks a l.length) := by
  unfold laws_markInt64S.f
  have := markInt64S_loop l.length hl a h0 h1 l.length 0 l (by omega) rfl (by simp)
  rw [show a + ((0 : Nat) : Int) = a by omega] at this
  exact this

theorem heldInt64S_loop (n : Nat) (hn : n ≤ 1048576) (a : Int) (h0 : 0 ≤ a) (h1 : a ≤ 1125899906842624) : ∀ (d i : Nat), i + d = n →
    Ev (fun k => laws_heldInt64S.l0 k (marks a n) (a + i) (i : Int)) (a + n) := by
  have hm := marks_length a n
  intro d
  induction d with
  | zero =>
    intro i hi
    refine Ev.succ ?_; simp only [laws_heldInt64S.l0]
    rw [show i = n by omega]
    repeat (first | with_reducible exact Ev.now _ | dsimp only | refine Ev.pos (by first | omega | rfl | assumption | decide) ?_ | refine Ev.neg (by first | omega | assumption | exact Bool.false_ne_true | exact fun e => absurd e (by decide)) ?_ | simp only [bne_self_eq_false, Bool.not_true, Bool.not_false] | rw [wrap_id (by omega) (by omega)] | ((with_reducible refine Ev.eq (congrArg some ?_)); rfl))
  | succ d ih =>
    intro i hi
    refine Ev.succ ?_; simp only [laws_heldInt64S.l0]
    rw [wrap_succ (by omega), wrap_id (x := a + i + 1) (by omega) (by omega)]
    have e := marks_get a n i (by omega)
    rw [← rd_lt] at e
    have := ih (i + 1) (by omega)
    rw [show a + ((i + 1 : Nat) : Int) = a + i + 1 by omega] at this
    repeat (first | with_reducible exact Ev.now _ | dsimp only | refine Ev.pos (by first | omega | rfl | assumption | decide) ?_ | refine Ev.neg (by first | omega | assumption | exact Bool.false_ne_true | exact fun e => absurd e (by decide)) ?_ | simp only [bne_self_eq_false, Bool.not_true, Bool.not_false] | rw [wrap_id (by omega) (by omega)] | ((with_reducible refine Ev.eq (congrArg some ?_)); rfl))
    exact this

theorem heldInt64S (a : Int) (n : Nat) (hn : n ≤ 1048576) (h0 : 0 ≤ a) (h1 : a ≤ 1125899906842624) : Ev (fun k => laws_heldInt64S.f k (marks a n) a) (a + n) := by
  unfold laws_heldInt64S.f
  have := heldInt64S_loop n hn a h0 h1 n 0 (by omega)
  rw [show a + ((0 : Nat) : Int) = a by omega] at this
  exact this
def small (x : Int) : Bool := decide (-1000000000000000 ≤ x ∧ x ≤ 1000000000000000)

def whole (l : List Int) : Bool := l.all small && decide (l.length ≤ 40) && (l.getLast? != some 0)

theorem specIn (a b c : Int) : spec_l01In.f a b c = some (decide (b ≤ a ∧ a ≤ c)) := by
  unfold spec_l01In.f
  by_cases h : b ≤ a
  · rw [if_pos h]; simp [h]
  · rw [if_neg h]; simp [h]

theorem implWithin (a b c : Int) : impl_within.f a b c = some (decide (b ≤ a ∧ a ≤ c)) := by
  unfold impl_within.f
  by_cases h : b ≤ a
  · rw [if_pos h]; simp [h]
  · rw [if_neg h]; simp [h]

theorem implSmall (x : Int) : impl_isSmall.f x = some (small x) := by
  unfold impl_isSmall.f
  rw [implWithin]
  rfl

theorem last_rd (l : List Int) (h : l ≠ []) : rd l ((l.length : Int) - 1) = l.getLast h := by
  have hp := List.length_pos_iff.2 h
  have : (l.length : Int) - 1 = ((l.length - 1 : Nat) : Int) := by omega
  rw [this, rd_lt (by omega), List.getLast_eq_getElem]

theorem end_test (l : List Int) (hl : l.length ≤ 1048576) : Ev (fun _ => (if (l.length : Int) ≤ 40 then (if (l.length : Int) = 0 then (some true) else (if 0 ≤ (wrap64 ((l.length : Int) - 1)) then (if (wrap64 ((l.length : Int) - 1)) < (l.length : Int) then (some ((rd l (wrap64 ((l.length : Int) - 1))) != 0)) else (none)) else (none))) else (some false)))
    (decide (l.length ≤ 40) && (l.getLast? != some 0)) := by
  by_cases h40 : (l.length : Int) ≤ 40
  · rw [decide_eq_true (show l.length ≤ 40 by omega), Bool.true_and]
    by_cases h0 : (l.length : Int) = 0
    · have : l = [] := List.length_eq_zero_iff.1 (by omega)
      subst this
      exact Ev.now _
    · have hne : l ≠ [] := fun e => h0 (by rw [e]; rfl)
      rw [wrap_id (by omega) (by omega), last_rd l hne, List.getLast?_eq_some_getLast hne]
      have : (some (l.getLast hne) != some 0) = (l.getLast hne != 0) := rfl
      rw [this]
      repeat (first | with_reducible exact Ev.now _ | dsimp only | refine Ev.pos (by first | omega | rfl | assumption | decide) ?_ | refine Ev.neg (by first | omega | assumption | exact Bool.false_ne_true | exact fun e => absurd e (by decide)) ?_ | simp only [bne_self_eq_false, Bool.not_true, Bool.not_false] | rw [wrap_id (by omega) (by omega)] | ((with_reducible refine Ev.eq (congrArg some ?_)); rfl))
  · rw [decide_eq_false (show ¬ l.length ≤ 40 by omega), Bool.false_and]
    repeat (first | with_reducible exact Ev.now _ | dsimp only | refine Ev.pos (by first | omega | rfl | assumption | decide) ?_ | refine Ev.neg (by first | omega | assumption | exact Bool.false_ne_true | exact fun e => absurd e (by decide)) ?_ | simp only [bne_self_eq_false, Bool.not_true, Bool.not_false] | rw [wrap_id (by omega) (by omega)] | ((with_reducible refine Ev.eq (congrArg some ?_)); rfl))

theorem specPoly_loop (l : List Int) (hl : l.length ≤ 1048576) : ∀ (d i : Nat), i + d = l.length →
    Ev (fun k => spec_l01Poly.l0 k l (i : Int)) ((l.drop i).all small && (decide (l.length ≤ 40) && (l.getLast? != some 0))) := by
  intro d
  induction d with
  | zero =>
    intro i hi
    refine Ev.succ ?_; simp only [spec_l01Poly.l0]
    rw [List.drop_eq_nil_of_le (by omega), List.all_nil, Bool.true_and]
    refine Ev.neg (by omega) ?_
    exact end_test l hl
  | succ d ih =>
    intro i hi
    refine Ev.succ ?_; simp only [spec_l01Poly.l0]
    rw [List.drop_eq_getElem_cons (by omega : i < l.length), List.all_cons, rd_lt (by omega), wrap_succ (by omega), specIn]
    have := ih (i + 1) (by omega)
    by_cases h : small l[i] = true
    · rw [h, Bool.true_and]
      unfold small at h
      repeat (first | with_reducible exact Ev.now _ | dsimp only | with_reducible refine Ev.bind (Ev.eq (congrArg some h)) ?_ | refine Ev.pos (by first | omega | rfl | assumption | decide) ?_ | refine Ev.neg (by first | omega | assumption | exact Bool.false_ne_true | exact fun e => absurd e (by decide)) ?_ | simp only [bne_self_eq_false, Bool.not_true, Bool.not_false] | rw [wrap_id (by omega) (by omega)] | with_reducible exact (Ev.eq (congrArg some h)) | ((with_reducible refine Ev.eq (congrArg some ?_)); rfl))
      exact this
    · rw [Bool.not_eq_true] at h
      rw [h, Bool.false_and, Bool.false_and]
      unfold small at h
      repeat (first | with_reducible exact Ev.now _ | dsimp only | with_reducible refine Ev.bind (Ev.eq (congrArg some h)) ?_ | refine Ev.pos (by first | omega | rfl | assumption | decide) ?_ | refine Ev.neg (by first | omega | assumption | exact Bool.false_ne_true | exact fun e => absurd e (by decide)) ?_ | simp only [bne_self_eq_false, Bool.not_true, Bool.not_false] | rw [wrap_id (by omega) (by omega)] | with_reducible exact (Ev.eq (congrArg some h)) | ((with_reducible refine Ev.eq (congrArg some ?_)); rfl))

theorem specPoly (l : List Int) (hl : l.length ≤ 1048576) : Ev (fun k => spec_l01Poly.f k l) (whole l) := by
  unfold spec_l01Poly.f whole
  rw [Bool.and_assoc]
  exact specPoly_loop l hl l.length 0 (by omega)

theorem implWhole_loop (l : List Int) (hl : l.length ≤ 1048576) : ∀ (d i : Nat), i + d = l.length →
    Ev (fun k => impl_IsWhole.l0 k l l (l.length : Int) (i : Int)) ((l.drop i).all small && (decide (l.length ≤ 40) && (l.getLast? != some 0))) := by
  intro d
  induction d with
  | zero =>
    intro i hi
    refine Ev.succ ?_; simp only [impl_IsWhole.l0]
    rw [List.drop_eq_nil_of_le (by omega), List.all_nil, Bool.true_and]
    refine Ev.neg (by omega) ?_
    exact end_test l hl
  | succ d ih =>
    intro i hi
    refine Ev.succ ?_; simp only [impl_IsWhole.l0]
    rw [List.drop_eq_getElem_cons (by omega : i < l.length), List.all_cons, rd_lt (by omega), wrap_succ (by omega), implSmall]
    have := ih (i + 1) (by omega)
    by_cases h : small l[i] = true
    · rw [h, Bool.true_and]
      repeat (first | with_reducible exact Ev.now _ | dsimp only | with_reducible refine Ev.bind (Ev.now _) ?_ | refine Ev.pos (by first | omega | rfl | assumption | decide) ?_ | refine Ev.neg (by first | omega | assumption | exact Bool.false_ne_true | exact fun e => absurd e (by decide)) ?_ | simp only [bne_self_eq_false, Bool.not_true, Bool.not_false] | rw [wrap_id (by omega) (by omega)] | with_reducible exact (Ev.now _) | ((with_reducible refine Ev.eq (congrArg some ?_)); rfl))
      exact this
    · rw [Bool.not_eq_true] at h
      rw [h, Bool.false_and, Bool.false_and]
      repeat (first | with_reducible exact Ev.now _ | dsimp only | with_reducible refine Ev.bind (Ev.now _) ?_ | refine Ev.pos (by first | omega | rfl | assumption | decide) ?_ | refine Ev.neg (by first | omega | assumption | exact Bool.false_ne_true | exact fun e => absurd e (by decide)) ?_ | simp only [bne_self_eq_false, Bool.not_true, Bool.not_false] | rw [wrap_id (by omega) (by omega)] | with_reducible exact (Ev.now _) | ((with_reducible refine Ev.eq (congrArg some ?_)); rfl))

theorem implWhole (l : List Int) (hl : l.length ≤ 1048576) : Ev (fun k => impl_IsWhole.f k l) (whole l) := by
  unfold impl_IsWhole.f whole
  rw [Bool.and_assoc]
  exact implWhole_loop l hl l.length 0 (by omega)

theorem whole_small {l : List Int} (h : whole l = true) : ∀ x ∈ l, -1000000000000000 ≤ x ∧ x ≤ 1000000000000000 := by
  unfold whole at h
  rw [Bool.and_eq_true, Bool.and_eq_true, List.all_eq_true] at h
  intro x hx
  exact decide_eq_true_iff.1 (h.1.1 x hx)

theorem whole_length {l : List Int} (h : whole l = true) : l.length ≤ 40 := by
  unfold whole at h
  rw [Bool.and_eq_true, Bool.and_eq_true] at h
  exact decide_eq_true_iff.1 h.1.2

def big : Int := 1000000000000000

/-- a + b * c, and whether product and sum are small. -/
def more (a b c : Int) : Int × Bool := if -big ≤ b * c ∧ b * c ≤ big then (a + b * c, small (a + b * c)) else (0, false)

theorem mx_abs {a : Int} (h : -big ≤ a ∧ a ≤ big) : mx a (wrap64 (-a)) = a.natAbs := by
  unfold big at h
  rw [wrap_id (by omega) (by omega)]
  unfold mx
  split <;> omega

theorem guard_iff {b c : Int} (hb : b ≠ 0) : ¬ ((c.natAbs : Int) > big.tdiv (b.natAbs : Int)) ↔ (-big ≤ b * c ∧ b * c ≤ big) := by
  have hp : (0 : Int) < (b.natAbs : Int) := by omega
  rw [Int.tdiv_eq_ediv_of_nonneg (by decide), Int.not_lt, Int.le_ediv_iff_mul_le hp]
  have : (c.natAbs : Int) * (b.natAbs : Int) = ((b * c).natAbs : Int) := by
    rw [Int.natAbs_mul]
    push_cast
    exact Int.mul_comm _ _
  rw [this]
  omega

theorem div_small {b : Int} (h : b ≠ 0) : wrap64 (big.tdiv (b.natAbs : Int)) = big.tdiv (b.natAbs : Int) := by
  have h1 : big.tdiv (b.natAbs : Int) = big / (b.natAbs : Int) := Int.tdiv_eq_ediv_of_nonneg (by decide)
  have h2 : big / (b.natAbs : Int) ≤ big := Int.ediv_le_self _ (by decide)
  have h3 : 0 ≤ big / (b.natAbs : Int) := Int.ediv_nonneg (by decide) (by omega)
  rw [h1]
  unfold big at *
  exact wrap_id (by omega) (by omega)

theorem sum_wrap {a p : Int} (ha : -big ≤ a ∧ a ≤ big) (hp : -big ≤ p ∧ p ≤ big) : wrap64 (a + wrap64 p) = a + p := by
  unfold big at *
  rw [wrap_id (x := p) (by omega) (by omega), wrap_id (by omega) (by omega)]

theorem specMore {a b c : Int} (ha : -big ≤ a ∧ a ≤ big) (hb : -big ≤ b ∧ b ≤ big) (hc : -big ≤ c ∧ c ≤ big) : spec_l01More.f a b c = some (more a b c) := by
  unfold spec_l01More.f more
  by_cases h0 : b = 0
  · subst h0
    rw [if_pos rfl, Int.zero_mul, if_pos (by decide), sum_wrap ha (by decide), specIn]
    rfl
  · rw [if_neg h0, mx_abs hb, mx_abs hc, if_neg (by omega)]
    rw [show (1000000000000000 : Int) = big from rfl, div_small h0]
    by_cases h : -big ≤ b * c ∧ b * c ≤ big
    · rw [if_neg ((guard_iff h0).2 h), if_pos h, sum_wrap ha h, specIn]
      rfl
    · rw [if_pos (Decidable.not_not.1 (fun g => h ((guard_iff h0).1 g))), if_neg h]

theorem implTimes {a b c : Int} (ha : -big ≤ a ∧ a ≤ big) (hb : -big ≤ b ∧ b ≤ big) (hc : -big ≤ c ∧ c ≤ big) : Ev (fun k => impl_plusTimes.f k a b c) (more a b c) := by
  have hs : small a = true := decide_eq_true ha
  unfold impl_plusTimes.f
  by_cases h0 : b = 0
  · refine Ev.pos h0 ?_
    refine Ev.succ ?_; simp only [impl_plusTimes.j0]
    subst h0
    unfold more
    rw [Int.zero_mul, if_pos (by decide), Int.add_zero, hs]
    repeat (first | with_reducible exact Ev.now _ | dsimp only | refine Ev.pos (by first | omega | rfl | assumption | decide) ?_ | refine Ev.neg (by first | omega | assumption | exact Bool.false_ne_true | exact fun e => absurd e (by decide)) ?_ | simp only [bne_self_eq_false, Bool.not_true, Bool.not_false] | rw [wrap_id (by omega) (by omega)] | ((with_reducible refine Ev.eq (congrArg some ?_)); rfl))
  · refine Ev.neg h0 ?_
    refine Ev.succ ?_; simp only [impl_plusTimes.j0]
    by_cases h1 : c = 0
    · subst h1
      unfold more
      rw [Int.mul_zero, if_pos (by decide), Int.add_zero, hs]
      repeat (first | with_reducible exact Ev.now _ | dsimp only | refine Ev.pos (by first | omega | rfl | assumption | decide) ?_ | refine Ev.neg (by first | omega | assumption | exact Bool.false_ne_true | exact fun e => absurd e (by decide)) ?_ | simp only [bne_self_eq_false, Bool.not_true, Bool.not_false] | rw [wrap_id (by omega) (by omega)] | ((with_reducible refine Ev.eq (congrArg some ?_)); rfl))
    · rw [show (c == 0) = false from beq_eq_false_iff_ne.2 h1]
      refine Ev.neg (by decide) ?_
      unfold impl_absolute.f
      rw [mx_abs hb, mx_abs hc]
      repeat (first | with_reducible exact Ev.now _ | dsimp only | with_reducible refine Ev.bind (Ev.now _) ?_ | refine Ev.pos (by first | omega | rfl | assumption | decide) ?_ | refine Ev.neg (by first | omega | assumption | exact Bool.false_ne_true | exact fun e => absurd e (by decide)) ?_ | simp only [bne_self_eq_false, Bool.not_true, Bool.not_false] | rw [wrap_id (by omega) (by omega)] | with_reducible exact (Ev.now _) | ((with_reducible refine Ev.eq (congrArg some ?_)); rfl))
      rw [show (1000000000000000 : Int) = big from rfl, div_small h1]
      unfold more
      by_cases h : -big ≤ b * c ∧ b * c ≤ big
      · rw [if_pos h, sum_wrap ha h]
        refine Ev.neg ((guard_iff h1).2 (by rw [Int.mul_comm]; exact h)) ?_
        rw [implSmall]
        repeat (first | with_reducible exact Ev.now _ | dsimp only | with_reducible refine Ev.bind (Ev.now _) ?_ | refine Ev.pos (by first | omega | rfl | assumption | decide) ?_ | refine Ev.neg (by first | omega | assumption | exact Bool.false_ne_true | exact fun e => absurd e (by decide)) ?_ | simp only [bne_self_eq_false, Bool.not_true, Bool.not_false] | rw [wrap_id (by omega) (by omega)] | with_reducible exact (Ev.now _) | ((with_reducible refine Ev.eq (congrArg some ?_)); rfl))
      · rw [if_neg h]
        refine Ev.pos (Decidable.not_not.1 (fun g => h (by rw [Int.mul_comm]; exact (guard_iff h1).1 g))) ?_
        repeat (first | with_reducible exact Ev.now _ | dsimp only | refine Ev.pos (by first | omega | rfl | assumption | decide) ?_ | refine Ev.neg (by first | omega | assumption | exact Bool.false_ne_true | exact fun e => absurd e (by decide)) ?_ | simp only [bne_self_eq_false, Bool.not_true, Bool.not_false] | rw [wrap_id (by omega) (by omega)] | ((with_reducible refine Ev.eq (congrArg some ?_)); rfl))
theorem rl_lt {xs : List (List Int)} {i : Nat} (h : i < xs.length) : rd_L3 xs (i : Int) = xs[i] := by
  simp [rd_L3, List.getD_eq_getElem?_getD, h]

/-- Rows of which each, and their number, is of a moderate size. -/
def Mod (l : List (List Int)) : Prop := l.length ≤ 1048576 ∧ ∀ r ∈ l, r.length ≤ 1048576

theorem Mod.row {l : List (List Int)} (h : Mod l) {i : Nat} (hi : i < l.length) : l[i].length ≤ 1048576 := h.2 _ (List.getElem_mem hi)

theorem areWhole_loop (L : List (List Int)) (hL : Mod L) : ∀ (d i : Nat), i + d = L.length →
    Ev (fun k => slices_IndexFunc_int64_int64_114_at_areWhole_1.l0 k L (L.length : Int) (i : Int)) (if (L.drop i).all whole = true then -1 else ((L.length : Int) - d + ((L.drop i).findIdx (fun x => !whole x) : Nat))) := by
  have hl1 := hL.1
  intro d
  induction d with
  | zero =>
    intro i hi
    refine Ev.succ ?_; simp only [slices_IndexFunc_int64_int64_114_at_areWhole_1.l0]
    rw [List.drop_eq_nil_of_le (by omega), List.all_nil, if_pos rfl]
    repeat (first | with_reducible exact Ev.now _ | dsimp only | refine Ev.pos (by first | omega | rfl | assumption | decide) ?_ | refine Ev.neg (by first | omega | assumption | exact Bool.false_ne_true | exact fun e => absurd e (by decide)) ?_ | simp only [bne_self_eq_false, Bool.not_true, Bool.not_false, List.length_cons, List.length_nil] | rw [wrap_id (by omega) (by omega)] | ((with_reducible refine Ev.eq (congrArg some ?_)); rfl))
  | succ d ih =>
    intro i hi
    refine Ev.succ ?_; simp only [slices_IndexFunc_int64_int64_114_at_areWhole_1.l0]
    rw [List.drop_eq_getElem_cons (by omega : i < L.length), List.all_cons, rl_lt (by omega), wrap_succ (by omega), List.findIdx_cons]
    have h1 : Ev (fun k => impl_areWhole_1.f k L[i]) (!whole L[i]) := by
      unfold impl_areWhole_1.f
      repeat (first | with_reducible exact Ev.now _ | dsimp only | with_reducible refine Ev.bind (implWhole L[i] (hL.row (by omega))) ?_ | refine Ev.pos (by first | omega | rfl | assumption | decide) ?_ | refine Ev.neg (by first | omega | assumption | exact Bool.false_ne_true | exact fun e => absurd e (by decide)) ?_ | simp only [bne_self_eq_false, Bool.not_true, Bool.not_false, List.length_cons, List.length_nil] | rw [wrap_id (by omega) (by omega)] | with_reducible exact (implWhole L[i] (hL.row (by omega))) | ((with_reducible refine Ev.eq (congrArg some ?_)); rfl))
    by_cases h : whole L[i] = true
    · rw [h, Bool.not_true] at h1
      rw [h, Bool.true_and, Bool.not_true, cond_false]
      have := ih (i + 1) (by omega)
      rw [show ((L.length : Int) - (d + 1 : Nat) + ((L.drop (i + 1)).findIdx (fun x => !whole x) + 1 : Nat)) = (L.length : Int) - d + ((L.drop (i + 1)).findIdx (fun x => !whole x) : Nat) by omega]
      repeat (first | with_reducible exact Ev.now _ | dsimp only | with_reducible refine Ev.bind (h1) ?_ | refine Ev.pos (by first | omega | rfl | assumption | decide) ?_ | refine Ev.neg (by first | omega | assumption | exact Bool.false_ne_true | exact fun e => absurd e (by decide)) ?_ | simp only [bne_self_eq_false, Bool.not_true, Bool.not_false, List.length_cons, List.length_nil] | rw [wrap_id (by omega) (by omega)] | with_reducible exact (h1) | ((with_reducible refine Ev.eq (congrArg some ?_)); rfl))
      exact this
    · rw [Bool.not_eq_true] at h
      rw [h, Bool.not_false] at h1
      rw [h, Bool.false_and, Bool.not_false, cond_true, if_neg (by decide), show (L.length : Int) - (d + 1 : Nat) + (0 : Nat) = i by omega]
      repeat (first | with_reducible exact Ev.now _ | dsimp only | with_reducible refine Ev.bind (h1) ?_ | refine Ev.pos (by first | omega | rfl | assumption | decide) ?_ | refine Ev.neg (by first | omega | assumption | exact Bool.false_ne_true | exact fun e => absurd e (by decide)) ?_ | simp only [bne_self_eq_false, Bool.not_true, Bool.not_false, List.length_cons, List.length_nil] | rw [wrap_id (by omega) (by omega)] | with_reducible exact (h1) | ((with_reducible refine Ev.eq (congrArg some ?_)); rfl))

theorem areWhole' (L : List (List Int)) (hL : Mod L) : Ev (fun k => impl_areWhole.f k L) (L.all whole) := by
  have hl1 := hL.1
  have h2 : Ev (fun k => slices_IndexFunc_int64_int64_114_at_areWhole_1.f k L) _ := areWhole_loop L hL L.length 0 (by omega)
  rw [List.drop_zero] at h2
  unfold impl_areWhole.f slices_ContainsFunc_int64_int64_93_at_areWhole_1.f
  by_cases h : L.all whole = true
  · rw [if_pos h] at h2
    rw [h]
    repeat (first | with_reducible exact Ev.now _ | dsimp only | with_reducible refine Ev.bind (Ev.bind h2 (Ev.now _)) ?_ | refine Ev.pos (by first | omega | rfl | assumption | decide) ?_ | refine Ev.neg (by first | omega | assumption | exact Bool.false_ne_true | exact fun e => absurd e (by decide)) ?_ | simp only [bne_self_eq_false, Bool.not_true, Bool.not_false, List.length_cons, List.length_nil] | rw [wrap_id (by omega) (by omega)] | with_reducible exact (Ev.bind h2 (Ev.now _)) | ((with_reducible refine Ev.eq (congrArg some ?_)); rfl))
  · rw [if_neg h] at h2
    rw [Bool.not_eq_true] at h
    rw [h]
    refine Ev.bind (Ev.bind h2 (Ev.now _)) ?_
    rw [decide_eq_true (by omega)]
    exact Ev.now _

theorem areWhole2 (l m : List Int) (hl : l.length ≤ 1048576) (hm : m.length ≤ 1048576) : Ev (fun k => impl_areWhole.f k [l, m]) (whole l && whole m) := by
  have := areWhole' [l, m] ⟨by simp, fun r h => by
    rcases List.mem_cons.1 h with h | h
    · rw [h]; exact hl
    · rw [List.mem_singleton.1 h]; exact hm⟩
  rw [List.all_cons, List.all_cons, List.all_nil, Bool.and_true] at this
  exact this
/-- The first i numbers without zeros at the end. -/
def trimN (l : List Int) : Nat → List Int
  | 0 => []
  | i + 1 => if rd l (i : Int) = 0 then trimN l i else l.take (i + 1)

theorem trimN_length (l : List Int) (i : Nat) : (trimN l i).length ≤ l.length := by
  induction i with
  | zero => simp [trimN]
  | succ i ih =>
    unfold trimN
    split
    · exact ih
    · simp only [List.length_take]; omega

theorem specOwn (l : List Int) (hl : l.length ≤ 1048576) : spec_l01Own.f l = some l := by
  unfold spec_l01Own.f
  simp only [Option.bind_some, List.length_nil, List.nil_append]
  exact if_pos (by omega)

theorem specTrim_loop (l : List Int) (hl : l.length ≤ 1048576) : ∀ (i : Nat), i ≤ l.length → Ev (fun k => spec_l01Trim.l0 k l (i : Int)) (trimN l i) := by
  intro i
  induction i with
  | zero =>
    intro hi
    refine Ev.succ ?_; simp only [spec_l01Trim.l0]
    repeat (first | with_reducible exact Ev.now _ | dsimp only | with_reducible refine Ev.bind (Ev.eq (specOwn _ (by simp))) ?_ | refine Ev.pos (by first | omega | rfl | assumption | decide) ?_ | refine Ev.neg (by first | omega | assumption | exact Bool.false_ne_true | exact fun e => absurd e (by decide)) ?_ | simp only [bne_self_eq_false, Bool.not_true, Bool.not_false, List.length_cons, List.length_nil] | rw [wrap_id (by omega) (by omega)] | with_reducible exact (Ev.eq (specOwn _ (by simp))) | ((with_reducible refine Ev.eq (congrArg some ?_)); rfl))
  | succ i ih =>
    intro hi
    refine Ev.succ ?_; simp only [spec_l01Trim.l0]
    rw [wrap_id (by omega) (by omega), show ((i + 1 : Nat) : Int) - 1 = i by omega]
    unfold trimN
    by_cases h : rd l (i : Int) = 0
    · rw [if_pos h]
      repeat (first | with_reducible exact Ev.now _ | dsimp only | refine Ev.pos (by first | omega | rfl | assumption | decide) ?_ | refine Ev.neg (by first | omega | assumption | exact Bool.false_ne_true | exact fun e => absurd e (by decide)) ?_ | simp only [bne_self_eq_false, Bool.not_true, Bool.not_false, List.length_cons, List.length_nil] | rw [wrap_id (by omega) (by omega)] | ((with_reducible refine Ev.eq (congrArg some ?_)); rfl))
      exact ih (by omega)
    · rw [if_neg h, Int.toNat_natCast]
      repeat (first | with_reducible exact Ev.now _ | dsimp only | (with_reducible refine Ev.bind (Ev.eq (specOwn (l.take (i + 1)) (by simp only [List.length_take]; omega))) ?_) | refine Ev.pos (by first | omega | rfl | assumption | decide) ?_ | refine Ev.neg (by first | omega | assumption | exact Bool.false_ne_true | exact fun e => absurd e (by decide)) ?_ | simp only [bne_self_eq_false, Bool.not_true, Bool.not_false, List.length_cons, List.length_nil] | rw [wrap_id (by omega) (by omega)] | (with_reducible exact (Ev.eq (specOwn (l.take (i + 1)) (by simp only [List.length_take]; omega)))) | ((with_reducible refine Ev.eq (congrArg some ?_)); rfl))

theorem specTrim (l : List Int) (hl : l.length ≤ 1048576) : Ev (fun k => spec_l01Trim.f k l) (trimN l l.length) := by
  unfold spec_l01Trim.f
  exact specTrim_loop l hl _ (Nat.le_refl _)
theorem implTrim_loop (l : List Int) (hl : l.length ≤ 1048576) : ∀ (i : Nat), i ≤ l.length → Ev (fun k => impl_trimmed.l0 k (l.take i)) (trimN l i) := by
  intro i
  have hc : ∀ x : List Int, x.length ≤ 1048576 → slices_Clone_int64_int64.f x = some x := fun x hx => if_pos (by omega)
  induction i with
  | zero =>
    intro hi
    refine Ev.succ ?_; simp only [impl_trimmed.l0]
    rw [List.take_zero]
    repeat (first | with_reducible exact Ev.now _ | dsimp only | with_reducible refine Ev.bind (Ev.eq (hc _ (by simp))) ?_ | refine Ev.pos (by first | omega | rfl | assumption | decide) ?_ | refine Ev.neg (by first | omega | assumption | exact Bool.false_ne_true | exact fun e => absurd e (by decide)) ?_ | simp only [bne_self_eq_false, Bool.not_true, Bool.not_false, List.length_cons, List.length_nil] | rw [wrap_id (by omega) (by omega)] | with_reducible exact (Ev.eq (hc _ (by simp))) | ((with_reducible refine Ev.eq (congrArg some ?_)); rfl))
  | succ i ih =>
    intro hi
    refine Ev.succ ?_; simp only [impl_trimmed.l0]
    have e : (l.take (i + 1)).length = i + 1 := by simp only [List.length_take]; omega
    rw [e, wrap_id (by omega) (by omega), show ((i + 1 : Nat) : Int) - 1 = i by omega]
    have e2 : rd (l.take (i + 1)) (i : Int) = rd l (i : Int) := by rw [rd_lt (by omega), rd_lt (by omega), List.getElem_take]
    have e3 : (l.take (i + 1)).take i = l.take i := by rw [List.take_take, Nat.min_eq_left (by omega)]
    rw [e2, show ((i : Int)).toNat = i from rfl, e3]
    unfold trimN
    by_cases h : rd l (i : Int) = 0
    · rw [if_pos h]
      repeat (first | with_reducible exact Ev.now _ | dsimp only | refine Ev.pos (by first | omega | rfl | assumption | decide) ?_ | refine Ev.neg (by first | omega | assumption | exact Bool.false_ne_true | exact fun e => absurd e (by decide)) ?_ | simp only [bne_self_eq_false, Bool.not_true, Bool.not_false, List.length_cons, List.length_nil] | rw [wrap_id (by omega) (by omega)] | ((with_reducible refine Ev.eq (congrArg some ?_)); rfl))
      exact ih (by omega)
    · rw [if_neg h]
      repeat (first | with_reducible exact Ev.now _ | dsimp only | with_reducible refine Ev.bind (Ev.eq (hc (l.take (i + 1)) (by omega))) ?_ | refine Ev.pos (by first | omega | rfl | assumption | decide) ?_ | refine Ev.neg (by first | omega | assumption | exact Bool.false_ne_true | exact fun e => absurd e (by decide)) ?_ | simp only [bne_self_eq_false, Bool.not_true, Bool.not_false, List.length_cons, List.length_nil] | rw [wrap_id (by omega) (by omega)] | with_reducible exact (Ev.eq (hc (l.take (i + 1)) (by omega))) | ((with_reducible refine Ev.eq (congrArg some ?_)); rfl))

theorem implTrim (l : List Int) (hl : l.length ≤ 1048576) : Ev (fun k => impl_trimmed.f k l) (trimN l l.length) := by
  unfold impl_trimmed.f
  have := implTrim_loop l hl _ (Nat.le_refl _)
  rw [List.take_length] at this
  exact this
theorem mx_nat (a b : Nat) : mx (a : Int) (b : Int) = ((max a b : Nat) : Int) := by
  unfold mx
  split <;> omega

section
variable (l m : List Int) (t : Int)

/-- The sum's number i. -/
def sm (i : Nat) : Int × Bool := more (rd l (i : Int)) t (rd m (i : Int))

def sms (n : Nat) : List Int := (List.range n).map (fun i => (sm l m t i).1)

theorem sms_length (n : Nat) : (sms l m t n).length = n := by simp [sms]

variable (hl : l.length ≤ 40) (hs : ∀ y ∈ l, -big ≤ y ∧ y ≤ big) (hm : m.length ≤ 40) (hn : ∀ y ∈ m, -big ≤ y ∧ y ≤ big) (ht : -big ≤ t ∧ t ≤ big)

theorem rd_big {xs : List Int} (hx : ∀ y ∈ xs, -big ≤ y ∧ y ≤ big) (i : Nat) : -big ≤ rd xs (i : Int) ∧ rd xs (i : Int) ≤ big := by
  by_cases h : i < xs.length
  · exact hx _ (rd_mem h)
  · rw [rd_ge (by omega)]; decide

include hs in
theorem sm_far {i : Nat} (h : m.length ≤ i) : sm l m t i = (rd l (i : Int), true) := by
  unfold sm more
  rw [rd_ge h, Int.mul_zero, if_pos (by decide), Int.add_zero]
  exact congrArg _ (decide_eq_true (rd_big hs i))

include hl in
theorem spec_copy (n : Nat) (hmax : n = max l.length m.length) (r : List Int × Int) (hr : ∀ xs : List Int, xs.length = n → (∀ j : Nat, rd xs (j : Int) = rd l (j : Int)) → Ev (fun k => spec_AddWhole.l1 k m t xs 0) r) :
    ∀ (d i : Nat) (xs : List Int), i + d = l.length → xs.length = n → (∀ j : Nat, rd xs (j : Int) = if j < i then rd l (j : Int) else 0) → Ev (fun k => spec_AddWhole.l0 k l m t xs (i : Int)) r := by
  intro d
  induction d with
  | zero =>
    intro i xs hi hx hv
    refine Ev.succ ?_; simp only [spec_AddWhole.l0]
    repeat (first | with_reducible exact Ev.now _ | dsimp only | refine Ev.pos (by first | omega | rfl | assumption | decide) ?_ | refine Ev.neg (by first | omega | assumption | exact Bool.false_ne_true | exact fun e => absurd e (by decide)) ?_ | simp only [bne_self_eq_false, Bool.not_true, Bool.not_false, List.length_cons, List.length_nil] | rw [wrap_id (by omega) (by omega)] | ((with_reducible refine Ev.eq (congrArg some ?_)); rfl))
    refine hr xs hx (fun j => ?_)
    rw [hv j]
    split
    · rfl
    · exact (rd_ge (by omega)).symm
  | succ d ih =>
    intro i xs hi hx hv
    refine Ev.succ ?_; simp only [spec_AddWhole.l0]
    rw [wrap_succ (by omega)]
    repeat (first | with_reducible exact Ev.now _ | dsimp only | refine Ev.pos (by first | omega | rfl | assumption | decide) ?_ | refine Ev.neg (by first | omega | assumption | exact Bool.false_ne_true | exact fun e => absurd e (by decide)) ?_ | simp only [bne_self_eq_false, Bool.not_true, Bool.not_false, List.length_cons, List.length_nil] | rw [wrap_id (by omega) (by omega)] | ((with_reducible refine Ev.eq (congrArg some ?_)); rfl))
    refine ih (i + 1) _ (by omega) (by simpa using hx) (fun j => ?_)
    rw [Int.toNat_natCast, rd_set (by omega), hv j]
    by_cases e : j = i
    · subst e; rw [if_pos rfl, if_pos (by omega)]
    · rw [if_neg e]
      by_cases e2 : j < i
      · rw [if_pos e2, if_pos (by omega)]
      · rw [if_neg e2, if_neg (by omega)]

include hl hs hm hn ht in
theorem spec_good (n : Nat) (hmax : n = max l.length m.length) (hok : ∀ i, i < n → (sm l m t i).2 = true) :
    ∀ (d i : Nat) (xs : List Int), i + d = m.length → xs.length = n → (∀ j : Nat, rd xs (j : Int) = if j < i then (sm l m t j).1 else rd l (j : Int)) → Ev (fun k => spec_AddWhole.l1 k m t xs (i : Int)) (trimN (sms l m t n) n, 0) := by
  intro d
  induction d with
  | zero =>
    intro i xs hi hx hv
    refine Ev.succ ?_; simp only [spec_AddWhole.l1]
    have e : xs = sms l m t n := by
      refine list_ext_rd (by rw [hx, sms_length]) (fun j hj => ?_)
      rw [hv j, sms, rd_map_range _ (by omega)]
      split
      · rfl
      · rw [sm_far l m t hs (by omega)]
    subst e
    have := specTrim (sms l m t n) (by omega)
    rw [hx] at this
    repeat (first | with_reducible exact Ev.now _ | dsimp only | with_reducible refine Ev.bind (this) ?_ | refine Ev.pos (by first | omega | rfl | assumption | decide) ?_ | refine Ev.neg (by first | omega | assumption | exact Bool.false_ne_true | exact fun e => absurd e (by decide)) ?_ | simp only [bne_self_eq_false, Bool.not_true, Bool.not_false, List.length_cons, List.length_nil] | rw [wrap_id (by omega) (by omega)] | with_reducible exact (this) | ((with_reducible refine Ev.eq (congrArg some ?_)); rfl))
  | succ d ih =>
    intro i xs hi hx hv
    refine Ev.succ ?_; simp only [spec_AddWhole.l1]
    have h2 : (more (rd l (i : Int)) t (rd m (i : Int))).2 = true := hok i (by omega)
    rw [wrap_succ (by omega), hv i, if_neg (by omega), specMore (rd_big hs i) ht (rd_big hn i)]
    repeat (first | with_reducible exact Ev.now _ | dsimp only | with_reducible refine Ev.bind (Ev.now _) ?_ | refine Ev.pos (by first | omega | rfl | assumption | decide) ?_ | refine Ev.neg (by first | omega | assumption | exact Bool.false_ne_true | exact fun e => absurd e (by decide)) ?_ | simp only [bne_self_eq_false, Bool.not_true, Bool.not_false, List.length_cons, List.length_nil] | rw [wrap_id (by omega) (by omega)] | with_reducible exact (Ev.now _) | ((with_reducible refine Ev.eq (congrArg some ?_)); rfl))
    refine ih (i + 1) _ (by omega) (by simpa using hx) (fun j => ?_)
    rw [Int.toNat_natCast, rd_set (by omega), hv j]
    by_cases e : j = i
    · subst e; rw [if_pos rfl, if_pos (by omega)]; rfl
    · rw [if_neg e]
      by_cases e2 : j < i
      · rw [if_pos e2, if_pos (by omega)]
      · rw [if_neg e2, if_neg (by omega)]

include hs hm hn ht in
theorem spec_bad (n : Nat) (hmax : n = max l.length m.length) :
    ∀ (d i : Nat) (xs : List Int), i + d = m.length → xs.length = n → (∀ j : Nat, i ≤ j → rd xs (j : Int) = rd l (j : Int)) → (∃ j, i ≤ j ∧ j < n ∧ ¬ (sm l m t j).2 = true) → Ev (fun k => spec_AddWhole.l1 k m t xs (i : Int)) ([], 3) := by
  intro d
  induction d with
  | zero =>
    intro i xs hi hx hv h
    obtain ⟨j, h1, h2, h3⟩ := h
    rw [sm_far l m t hs (by omega)] at h3
    exact absurd rfl h3
  | succ d ih =>
    intro i xs hi hx hv h
    refine Ev.succ ?_; simp only [spec_AddWhole.l1]
    rw [wrap_succ (by omega), hv i (by omega), specMore (rd_big hs i) ht (rd_big hn i)]
    by_cases e : (more (rd l (i : Int)) t (rd m (i : Int))).2 = true
    · repeat (first | with_reducible exact Ev.now _ | dsimp only | with_reducible refine Ev.bind (Ev.now _) ?_ | refine Ev.pos (by first | omega | rfl | assumption | decide) ?_ | refine Ev.neg (by first | omega | assumption | exact Bool.false_ne_true | exact fun e => absurd e (by decide)) ?_ | simp only [bne_self_eq_false, Bool.not_true, Bool.not_false, List.length_cons, List.length_nil] | rw [wrap_id (by omega) (by omega)] | with_reducible exact (Ev.now _) | ((with_reducible refine Ev.eq (congrArg some ?_)); rfl))
      refine ih (i + 1) _ (by omega) (by simpa using hx) (fun j hj => ?_) ?_
      · rw [Int.toNat_natCast, rd_set (by omega), if_neg (by omega)]
        exact hv j (by omega)
      · obtain ⟨j, h1, h2, h3⟩ := h
        refine ⟨j, ?_, h2, h3⟩
        rcases Nat.lt_or_eq_of_le h1 with h1 | h1
        · exact h1
        · subst h1; exact absurd e h3
    · repeat (first | with_reducible exact Ev.now _ | dsimp only | with_reducible refine Ev.bind (Ev.now _) ?_ | refine Ev.pos (by first | omega | rfl | assumption | decide) ?_ | refine Ev.neg (by first | omega | assumption | exact Bool.false_ne_true | exact fun e => absurd e (by decide)) ?_ | simp only [bne_self_eq_false, Bool.not_true, Bool.not_false, List.length_cons, List.length_nil] | rw [wrap_id (by omega) (by omega)] | with_reducible exact (Ev.now _) | ((with_reducible refine Ev.eq (congrArg some ?_)); rfl))

theorem implAt (xs : List Int) (i : Nat) : impl_at.f xs (i : Int) = some (rd xs (i : Int)) := by
  unfold impl_at.f
  by_cases h : i < xs.length
  · rw [if_pos (by omega), if_pos (by omega)]
  · rw [if_neg (by omega), rd_ge (by omega)]

include hl hs hm hn ht in
theorem impl_good (n : Nat) (hmax : n = max l.length m.length) (hok : ∀ i, i < n → (sm l m t i).2 = true) :
    ∀ (d i : Nat), i + d = n → Ev (fun k => impl_AddWhole.l0 k l m t (sms l m t i) (n : Int) (i : Int)) (trimN (sms l m t n) n, 0) := by
  intro d
  induction d with
  | zero =>
    intro i hi
    refine Ev.succ ?_; simp only [impl_AddWhole.l0]
    have e : i = n := by omega
    subst e
    have := implTrim (sms l m t i) (by rw [sms_length]; omega)
    rw [sms_length] at this
    repeat (first | with_reducible exact Ev.now _ | dsimp only | with_reducible refine Ev.bind (this) ?_ | refine Ev.pos (by first | omega | rfl | assumption | decide) ?_ | refine Ev.neg (by first | omega | assumption | exact Bool.false_ne_true | exact fun e => absurd e (by decide)) ?_ | simp only [bne_self_eq_false, Bool.not_true, Bool.not_false, List.length_cons, List.length_nil] | rw [wrap_id (by omega) (by omega)] | with_reducible exact (this) | ((with_reducible refine Ev.eq (congrArg some ?_)); rfl))
  | succ d ih =>
    intro i hi
    refine Ev.succ ?_; simp only [impl_AddWhole.l0]
    have h2 : (more (rd l (i : Int)) t (rd m (i : Int))).2 = true := hok i (by omega)
    have := sms_length l m t i
    rw [wrap_succ (by omega), implAt, implAt]
    repeat (first | with_reducible exact Ev.now _ | dsimp only | with_reducible refine Ev.bind (Ev.now _) ?_ | with_reducible refine Ev.bind (implTimes (rd_big hs i) ht (rd_big hn i)) ?_ | refine Ev.pos (by first | omega | rfl | assumption | decide) ?_ | refine Ev.neg (by first | omega | assumption | exact Bool.false_ne_true | exact fun e => absurd e (by decide)) ?_ | simp only [bne_self_eq_false, Bool.not_true, Bool.not_false, List.length_cons, List.length_nil] | rw [wrap_id (by omega) (by omega)] | with_reducible exact (Ev.now _) | with_reducible exact (implTimes (rd_big hs i) ht (rd_big hn i)) | ((with_reducible refine Ev.eq (congrArg some ?_)); rfl))
    have := ih (i + 1) (by omega)
    rw [sms, map_range_succ] at this
    exact this

include hl hs hm hn ht in
theorem impl_bad (n : Nat) (hmax : n = max l.length m.length) :
    ∀ (d i : Nat) (xs : List Int), i + d = n → xs.length ≤ i → (∃ j, i ≤ j ∧ j < n ∧ ¬ (sm l m t j).2 = true) → Ev (fun k => impl_AddWhole.l0 k l m t xs (n : Int) (i : Int)) ([], 3) := by
  intro d
  induction d with
  | zero =>
    intro i xs hi hx h
    obtain ⟨j, h1, h2, h3⟩ := h
    omega
  | succ d ih =>
    intro i xs hi hx h
    refine Ev.succ ?_; simp only [impl_AddWhole.l0]
    rw [wrap_succ (by omega), implAt, implAt]
    by_cases e : (more (rd l (i : Int)) t (rd m (i : Int))).2 = true
    · repeat (first | with_reducible exact Ev.now _ | dsimp only | with_reducible refine Ev.bind (Ev.now _) ?_ | with_reducible refine Ev.bind (implTimes (rd_big hs i) ht (rd_big hn i)) ?_ | refine Ev.pos (by first | omega | rfl | assumption | decide) ?_ | refine Ev.neg (by first | omega | assumption | exact Bool.false_ne_true | exact fun e => absurd e (by decide)) ?_ | simp only [bne_self_eq_false, Bool.not_true, Bool.not_false, List.length_cons, List.length_nil] | rw [wrap_id (by omega) (by omega)] | with_reducible exact (Ev.now _) | with_reducible exact (implTimes (rd_big hs i) ht (rd_big hn i)) | ((with_reducible refine Ev.eq (congrArg some ?_)); rfl))
      refine ih (i + 1) _ (by omega) (by simp; omega) ?_
      obtain ⟨j, h1, h2, h3⟩ := h
      refine ⟨j, ?_, h2, h3⟩
      rcases Nat.lt_or_eq_of_le h1 with h1 | h1
      · exact h1
      · subst h1; exact absurd e h3
    · repeat (first | with_reducible exact Ev.now _ | dsimp only | with_reducible refine Ev.bind (Ev.now _) ?_ | with_reducible refine Ev.bind (implTimes (rd_big hs i) ht (rd_big hn i)) ?_ | refine Ev.pos (by first | omega | rfl | assumption | decide) ?_ | refine Ev.neg (by first | omega | assumption | exact Bool.false_ne_true | exact fun e => absurd e (by decide)) ?_ | simp only [bne_self_eq_false, Bool.not_true, Bool.not_false, List.length_cons, List.length_nil] | rw [wrap_id (by omega) (by omega)] | with_reducible exact (Ev.now _) | with_reducible exact (implTimes (rd_big hs i) ht (rd_big hn i)) | ((with_reducible refine Ev.eq (congrArg some ?_)); rfl))

end

theorem add_same (l m : List Int) (t : Int) (hl : l.length ≤ 1048576) (hm : m.length ≤ 1048576) : ∃ r : List Int × Int, r.1.length ≤ 1048576 ∧ Ev (fun k => spec_AddWhole.f k l m t) r ∧ Ev (fun k => impl_AddWhole.f k l m t) r := by
  unfold spec_AddWhole.f impl_AddWhole.f
  have h1 := specPoly l hl
  have h1' := specPoly m hm
  have h2 := areWhole2 l m hl hm
  by_cases hw : whole l = true
  · rw [hw] at h1 h2
    by_cases hw' : whole m = true
    · rw [hw'] at h1' h2
      rw [Bool.and_true] at h2
      have hl40 := whole_length hw
      have hm40 := whole_length hw'
      have hs := whole_small hw
      have hn := whole_small hw'
      by_cases hx : -1000 ≤ t ∧ t ≤ 1000
      · have ht : -big ≤ t ∧ t ≤ big := by unfold big; omega
        have hwi := implWithin t (-1000) 1000
        have hsi := specIn t (-1000) 1000
        rw [decide_eq_true hx] at hwi hsi
        obtain ⟨n, hmax⟩ : ∃ n, n = max l.length m.length := ⟨_, rfl⟩
        have hz : ∀ j : Nat, rd (List.replicate n 0) (j : Int) = if j < 0 then rd l (j : Int) else 0 := fun j => by
          rw [if_neg (by omega), rd_replicate]
        by_cases hok : ∀ i, i < n → (sm l m t i).2 = true
        · refine ⟨(trimN (sms l m t n) n, 0), ?_, ?_, ?_⟩
          · have := trimN_length (sms l m t n) n
            rw [sms_length] at this
            simp only
            omega
          · repeat (first | with_reducible exact Ev.now _ | dsimp only | with_reducible refine Ev.bind (h1) ?_ | with_reducible refine Ev.bind (h1') ?_ | refine Ev.pos (by first | omega | rfl | assumption | decide) ?_ | refine Ev.neg (by first | omega | assumption | exact Bool.false_ne_true | exact fun e => absurd e (by decide)) ?_ | simp only [bne_self_eq_false, Bool.not_true, Bool.not_false, List.length_cons, List.length_nil] | rw [wrap_id (by omega) (by omega)] | with_reducible exact (h1) | with_reducible exact (h1') | ((with_reducible refine Ev.eq (congrArg some ?_)); rfl))
            refine Ev.succ ?_; simp only [spec_AddWhole.j0]
            rw [mx_nat, ← hmax, Int.toNat_natCast]
            repeat (first | with_reducible exact Ev.now _ | dsimp only | with_reducible refine Ev.bind (Ev.eq hsi) ?_ | refine Ev.pos (by first | omega | rfl | assumption | decide) ?_ | refine Ev.neg (by first | omega | assumption | exact Bool.false_ne_true | exact fun e => absurd e (by decide)) ?_ | simp only [bne_self_eq_false, Bool.not_true, Bool.not_false, List.length_cons, List.length_nil] | rw [wrap_id (by omega) (by omega)] | with_reducible exact (Ev.eq hsi) | ((with_reducible refine Ev.eq (congrArg some ?_)); rfl))
            refine spec_copy l m t hl40 n hmax _ (fun xs hx hv => ?_) l.length 0 _ (by omega) (by simp) hz
            exact spec_good l m t hl40 hs hm40 hn ht n hmax hok m.length 0 xs (by omega) hx (fun j => by rw [if_neg (by omega)]; exact hv j)
          · rw [mx_nat, ← hmax]
            repeat (first | with_reducible exact Ev.now _ | dsimp only | with_reducible refine Ev.bind (h2) ?_ | with_reducible refine Ev.bind (Ev.eq hwi) ?_ | refine Ev.pos (by first | omega | rfl | assumption | decide) ?_ | refine Ev.neg (by first | omega | assumption | exact Bool.false_ne_true | exact fun e => absurd e (by decide)) ?_ | simp only [bne_self_eq_false, Bool.not_true, Bool.not_false, List.length_cons, List.length_nil] | rw [wrap_id (by omega) (by omega)] | with_reducible exact (h2) | with_reducible exact (Ev.eq hwi) | ((with_reducible refine Ev.eq (congrArg some ?_)); rfl))
            exact impl_good l m t hl40 hs hm40 hn ht n hmax hok n 0 (by omega)
        · have hbad : ∃ i : Nat, i < n ∧ ¬ (sm l m t i).2 = true := by
            apply Classical.byContradiction
            intro hc
            exact hok (fun i hi => Classical.byContradiction (fun e => hc ⟨i, hi, e⟩))
          obtain ⟨i, hi, hb⟩ := hbad
          refine ⟨([], 3), by simp, ?_, ?_⟩
          · repeat (first | with_reducible exact Ev.now _ | dsimp only | with_reducible refine Ev.bind (h1) ?_ | with_reducible refine Ev.bind (h1') ?_ | refine Ev.pos (by first | omega | rfl | assumption | decide) ?_ | refine Ev.neg (by first | omega | assumption | exact Bool.false_ne_true | exact fun e => absurd e (by decide)) ?_ | simp only [bne_self_eq_false, Bool.not_true, Bool.not_false, List.length_cons, List.length_nil] | rw [wrap_id (by omega) (by omega)] | with_reducible exact (h1) | with_reducible exact (h1') | ((with_reducible refine Ev.eq (congrArg some ?_)); rfl))
            refine Ev.succ ?_; simp only [spec_AddWhole.j0]
            rw [mx_nat, ← hmax, Int.toNat_natCast]
            repeat (first | with_reducible exact Ev.now _ | dsimp only | with_reducible refine Ev.bind (Ev.eq hsi) ?_ | refine Ev.pos (by first | omega | rfl | assumption | decide) ?_ | refine Ev.neg (by first | omega | assumption | exact Bool.false_ne_true | exact fun e => absurd e (by decide)) ?_ | simp only [bne_self_eq_false, Bool.not_true, Bool.not_false, List.length_cons, List.length_nil] | rw [wrap_id (by omega) (by omega)] | with_reducible exact (Ev.eq hsi) | ((with_reducible refine Ev.eq (congrArg some ?_)); rfl))
            refine spec_copy l m t hl40 n hmax _ (fun xs hx hv => ?_) l.length 0 _ (by omega) (by simp) hz
            exact spec_bad l m t hs hm40 hn ht n hmax m.length 0 xs (by omega) hx (fun j _ => hv j) ⟨i, by omega, hi, hb⟩
          · rw [mx_nat, ← hmax]
            repeat (first | with_reducible exact Ev.now _ | dsimp only | with_reducible refine Ev.bind (h2) ?_ | with_reducible refine Ev.bind (Ev.eq hwi) ?_ | refine Ev.pos (by first | omega | rfl | assumption | decide) ?_ | refine Ev.neg (by first | omega | assumption | exact Bool.false_ne_true | exact fun e => absurd e (by decide)) ?_ | simp only [bne_self_eq_false, Bool.not_true, Bool.not_false, List.length_cons, List.length_nil] | rw [wrap_id (by omega) (by omega)] | with_reducible exact (h2) | with_reducible exact (Ev.eq hwi) | ((with_reducible refine Ev.eq (congrArg some ?_)); rfl))
            exact impl_bad l m t hl40 hs hm40 hn ht n hmax n 0 [] (by omega) (by simp) ⟨i, by omega, hi, hb⟩
      · have hwi := implWithin t (-1000) 1000
        have hsi := specIn t (-1000) 1000
        rw [decide_eq_false hx] at hwi hsi
        refine ⟨([], 2), by simp, ?_, ?_⟩
        · repeat (first | with_reducible exact Ev.now _ | dsimp only | with_reducible refine Ev.bind (h1) ?_ | with_reducible refine Ev.bind (h1') ?_ | refine Ev.pos (by first | omega | rfl | assumption | decide) ?_ | refine Ev.neg (by first | omega | assumption | exact Bool.false_ne_true | exact fun e => absurd e (by decide)) ?_ | simp only [bne_self_eq_false, Bool.not_true, Bool.not_false, List.length_cons, List.length_nil] | rw [wrap_id (by omega) (by omega)] | with_reducible exact (h1) | with_reducible exact (h1') | ((with_reducible refine Ev.eq (congrArg some ?_)); rfl))
          refine Ev.succ ?_; simp only [spec_AddWhole.j0]
          repeat (first | with_reducible exact Ev.now _ | dsimp only | with_reducible refine Ev.bind (Ev.eq hsi) ?_ | refine Ev.pos (by first | omega | rfl | assumption | decide) ?_ | refine Ev.neg (by first | omega | assumption | exact Bool.false_ne_true | exact fun e => absurd e (by decide)) ?_ | simp only [bne_self_eq_false, Bool.not_true, Bool.not_false, List.length_cons, List.length_nil] | rw [wrap_id (by omega) (by omega)] | with_reducible exact (Ev.eq hsi) | ((with_reducible refine Ev.eq (congrArg some ?_)); rfl))
        · repeat (first | with_reducible exact Ev.now _ | dsimp only | with_reducible refine Ev.bind (h2) ?_ | with_reducible refine Ev.bind (Ev.eq hwi) ?_ | refine Ev.pos (by first | omega | rfl | assumption | decide) ?_ | refine Ev.neg (by first | omega | assumption | exact Bool.false_ne_true | exact fun e => absurd e (by decide)) ?_ | simp only [bne_self_eq_false, Bool.not_true, Bool.not_false, List.length_cons, List.length_nil] | rw [wrap_id (by omega) (by omega)] | with_reducible exact (h2) | with_reducible exact (Ev.eq hwi) | ((with_reducible refine Ev.eq (congrArg some ?_)); rfl))
    · rw [Bool.not_eq_true] at hw'
      rw [hw'] at h1' h2
      rw [Bool.and_false] at h2
      refine ⟨([], 1), by simp, ?_, ?_⟩
      · repeat (first | with_reducible exact Ev.now _ | dsimp only | with_reducible refine Ev.bind (h1) ?_ | with_reducible refine Ev.bind (h1') ?_ | refine Ev.pos (by first | omega | rfl | assumption | decide) ?_ | refine Ev.neg (by first | omega | assumption | exact Bool.false_ne_true | exact fun e => absurd e (by decide)) ?_ | simp only [bne_self_eq_false, Bool.not_true, Bool.not_false, List.length_cons, List.length_nil] | rw [wrap_id (by omega) (by omega)] | with_reducible exact (h1) | with_reducible exact (h1') | ((with_reducible refine Ev.eq (congrArg some ?_)); rfl))
        refine Ev.succ ?_; simp only [spec_AddWhole.j0]
        repeat (first | with_reducible exact Ev.now _ | dsimp only | refine Ev.pos (by first | omega | rfl | assumption | decide) ?_ | refine Ev.neg (by first | omega | assumption | exact Bool.false_ne_true | exact fun e => absurd e (by decide)) ?_ | simp only [bne_self_eq_false, Bool.not_true, Bool.not_false, List.length_cons, List.length_nil] | rw [wrap_id (by omega) (by omega)] | ((with_reducible refine Ev.eq (congrArg some ?_)); rfl))
      · repeat (first | with_reducible exact Ev.now _ | dsimp only | with_reducible refine Ev.bind (h2) ?_ | refine Ev.pos (by first | omega | rfl | assumption | decide) ?_ | refine Ev.neg (by first | omega | assumption | exact Bool.false_ne_true | exact fun e => absurd e (by decide)) ?_ | simp only [bne_self_eq_false, Bool.not_true, Bool.not_false, List.length_cons, List.length_nil] | rw [wrap_id (by omega) (by omega)] | with_reducible exact (h2) | ((with_reducible refine Ev.eq (congrArg some ?_)); rfl))
  · rw [Bool.not_eq_true] at hw
    rw [hw] at h1 h2
    rw [Bool.false_and] at h2
    refine ⟨([], 1), by simp, ?_, ?_⟩
    · repeat (first | with_reducible exact Ev.now _ | dsimp only | with_reducible refine Ev.bind (h1) ?_ | refine Ev.pos (by first | omega | rfl | assumption | decide) ?_ | refine Ev.neg (by first | omega | assumption | exact Bool.false_ne_true | exact fun e => absurd e (by decide)) ?_ | simp only [bne_self_eq_false, Bool.not_true, Bool.not_false, List.length_cons, List.length_nil] | rw [wrap_id (by omega) (by omega)] | with_reducible exact (h1) | ((with_reducible refine Ev.eq (congrArg some ?_)); rfl))
      refine Ev.succ ?_; simp only [spec_AddWhole.j0]
      repeat (first | with_reducible exact Ev.now _ | dsimp only | refine Ev.pos (by first | omega | rfl | assumption | decide) ?_ | refine Ev.neg (by first | omega | assumption | exact Bool.false_ne_true | exact fun e => absurd e (by decide)) ?_ | simp only [bne_self_eq_false, Bool.not_true, Bool.not_false, List.length_cons, List.length_nil] | rw [wrap_id (by omega) (by omega)] | ((with_reducible refine Ev.eq (congrArg some ?_)); rfl))
    · repeat (first | with_reducible exact Ev.now _ | dsimp only | with_reducible refine Ev.bind (h2) ?_ | refine Ev.pos (by first | omega | rfl | assumption | decide) ?_ | refine Ev.neg (by first | omega | assumption | exact Bool.false_ne_true | exact fun e => absurd e (by decide)) ?_ | simp only [bne_self_eq_false, Bool.not_true, Bool.not_false, List.length_cons, List.length_nil] | rw [wrap_id (by omega) (by omega)] | with_reducible exact (h2) | ((with_reducible refine Ev.eq (congrArg some ?_)); rfl))

theorem FnExactAddWhole : laws_FnExactAddWhole.Pure := by
  intro l m t _ _ _ _ _
  refine Ev.rounds ?_
  unfold laws_FnExactAddWhole.f
  by_cases h : (l.length : Int) > 1048576
  · repeat (first | with_reducible exact Ev.now _ | dsimp only | refine Ev.pos (by first | omega | rfl | assumption | decide) ?_ | refine Ev.neg (by first | omega | assumption | exact Bool.false_ne_true | exact fun e => absurd e (by decide)) ?_ | simp only [bne_self_eq_false, Bool.not_true, Bool.not_false, List.length_cons, List.length_nil] | rw [wrap_id (by omega) (by omega)] | ((with_reducible refine Ev.eq (congrArg some ?_)); rfl))
  by_cases h' : (m.length : Int) > 1048576
  · repeat (first | with_reducible exact Ev.now _ | dsimp only | refine Ev.pos (by first | omega | rfl | assumption | decide) ?_ | refine Ev.neg (by first | omega | assumption | exact Bool.false_ne_true | exact fun e => absurd e (by decide)) ?_ | simp only [bne_self_eq_false, Bool.not_true, Bool.not_false, List.length_cons, List.length_nil] | rw [wrap_id (by omega) (by omega)] | ((with_reducible refine Ev.eq (congrArg some ?_)); rfl))
  have hl : l.length ≤ 1048576 := by omega
  have hm : m.length ≤ 1048576 := by omega
  obtain ⟨r, hr, hs, hi⟩ := add_same l m t hl hm
  repeat (first | with_reducible exact Ev.now _ | dsimp only | with_reducible refine Ev.bind (toInt64S l hl) ?_ | with_reducible refine Ev.bind (toInt64S m hm) ?_ | with_reducible refine Ev.bind (hs) ?_ | with_reducible refine Ev.bind (hi) ?_ | with_reducible refine Ev.bind (eqInt64S_self r.1 hr) ?_ | with_reducible refine Ev.bind (eqInt64S_self l hl) ?_ | with_reducible refine Ev.bind (eqInt64S_self m hm) ?_ | with_reducible refine Ev.bind (markInt64S l hl 1 (by omega) (by omega)) ?_ | with_reducible refine Ev.bind (markInt64S m hm (1 + l.length) (by omega) (by omega)) ?_ | with_reducible refine Ev.bind (markInt64S r.1 hr 1 (by omega) (by omega)) ?_ | with_reducible refine Ev.bind (heldInt64S 1 r.1.length hr (by omega) (by omega)) ?_ | refine Ev.pos (by first | omega | rfl | assumption | decide) ?_ | refine Ev.neg (by first | omega | assumption | exact Bool.false_ne_true | exact fun e => absurd e (by decide)) ?_ | simp only [bne_self_eq_false, Bool.not_true, Bool.not_false, List.length_cons, List.length_nil] | rw [wrap_id (by omega) (by omega)] | with_reducible exact (toInt64S l hl) | with_reducible exact (toInt64S m hm) | with_reducible exact (hs) | with_reducible exact (hi) | with_reducible exact (eqInt64S_self r.1 hr) | with_reducible exact (eqInt64S_self l hl) | with_reducible exact (eqInt64S_self m hm) | with_reducible exact (markInt64S l hl 1 (by omega) (by omega)) | with_reducible exact (markInt64S m hm (1 + l.length) (by omega) (by omega)) | with_reducible exact (markInt64S r.1 hr 1 (by omega) (by omega)) | with_reducible exact (heldInt64S 1 r.1.length hr (by omega) (by omega)) | ((with_reducible refine Ev.eq (congrArg some ?_)); rfl))
end Go.Proofs.Ytkhbehppjahokaa.Pure
