/- The plain proofs for this law. -/
import Derived.Test.YtkhbehppjahokaaC0
import Derived.Test.YtkhbehppjahokaaAux
namespace Go.Proofs.Ytkhbehppjahokaa.Pure
open Go.RowKit Go.Proofs.Ytkhbehppjahokaa.G Go.Proofs.YtkhbehppjahokaaW.PrintWords Go.Proofs.YtkhbehppjahokaaW.PrintLast Go.Proofs.YtkhbehppjahokaaW.PrintMore Go.Proofs.Ytkhbehppjahokaa.Aux
set_option linter.unusedVariables false
set_option linter.unusedSimpArgs false

theorem toInt64S_loop (l : List Int) (hl : l.length ≤ 1048576) : ∀ (d i : Nat) (ys : List Int), i + d = l.length → ys.length = l.length → ys.take i = l.take i →
    Ev (fun k => laws_toInt64S.l0 k l ys (i : Int)) l := by
  intro d
  induction d with
  | zero =>
    intro i ys hi hy ht
    refine Ev.succ ?_; simp only [laws_toInt64S.l0]
    repeat (first | with_reducible exact Ev.now _ | dsimp only | refine Ev.pos (by first | omega | rfl | assumption | decide) ?_ | refine Ev.neg (by first | omega | assumption | exact Bool.false_ne_true | exact fun e => absurd e (by decide)) ?_ | simp only [bne_self_eq_false, Bool.not_true, Bool.not_false] | rw [wrap_id (by omega) (by omega)] | ((with_reducible refine Ev.eq (congrArg some ?_)); rfl))
    exact Ev.eq (congrArg some (eq_of_take hy (by omega) ht))
  | succ d ih =>
    intro i ys hi hy ht
    refine Ev.succ ?_; simp only [laws_toInt64S.l0]
    rw [wrap_succ (by omega)]
    repeat (first | with_reducible exact Ev.now _ | dsimp only | refine Ev.pos (by first | omega | rfl | assumption | decide) ?_ | refine Ev.neg (by first | omega | assumption | exact Bool.false_ne_true | exact fun e => absurd e (by decide)) ?_ | simp only [bne_self_eq_false, Bool.not_true, Bool.not_false] | rw [wrap_id (by omega) (by omega)] | ((with_reducible refine Ev.eq (congrArg some ?_)); rfl))
    exact ih (i + 1) _ (by omega) (by simpa using hy) (take_set_succ hy (by omega) (rd_lt (by omega)) ht)

theorem toInt64S (l : List Int) (hl : l.length ≤ 1048576) : Ev (fun k => laws_toInt64S.f k l) l := by
  unfold laws_toInt64S.f
  repeat (first | with_reducible exact Ev.now _ | dsimp only | refine Ev.pos (by first | omega | rfl | assumption | decide) ?_ | refine Ev.neg (by first | omega | assumption | exact Bool.false_ne_true | exact fun e => absurd e (by decide)) ?_ | simp only [bne_self_eq_false, Bool.not_true, Bool.not_false] | rw [wrap_id (by omega) (by omega)] | ((with_reducible refine Ev.eq (congrArg some ?_)); rfl))
  exact toInt64S_loop l hl l.length 0 _ (by omega) (by simp) (by simp)

theorem eqInt64S_loop (a b : List Int) (hl : a.length ≤ 1048576) (hab : a.length = b.length) : ∀ (d i : Nat), i + d = a.length →
    Ev (fun k => laws_eqInt64S.l0 k a b (i : Int)) (decide (a.drop i = b.drop i)) := by
  intro d
  induction d with
  | zero =>
    intro i hi
    refine Ev.succ ?_; simp only [laws_eqInt64S.l0]
    rw [List.drop_eq_nil_of_le (by omega), List.drop_eq_nil_of_le (by omega)]
    repeat (first | with_reducible exact Ev.now _ | dsimp only | refine Ev.pos (by first | omega | rfl | assumption | decide) ?_ | refine Ev.neg (by first | omega | assumption | exact Bool.false_ne_true | exact fun e => absurd e (by decide)) ?_ | simp only [bne_self_eq_false, Bool.not_true, Bool.not_false] | rw [wrap_id (by omega) (by omega)] | ((with_reducible refine Ev.eq (congrArg some ?_)); rfl))
  | succ d ih =>
    intro i hi
    refine Ev.succ ?_; simp only [laws_eqInt64S.l0]
    rw [List.drop_eq_getElem_cons (by omega : i < a.length), List.drop_eq_getElem_cons (by omega : i < b.length), wrap_succ (by omega)]
    by_cases e : rd a i = rd b i
    · repeat (first | with_reducible exact Ev.now _ | dsimp only | refine Ev.pos (by first | omega | rfl | assumption | decide) ?_ | refine Ev.neg (by first | omega | assumption | exact Bool.false_ne_true | exact fun e => absurd e (by decide)) ?_ | simp only [bne_self_eq_false, Bool.not_true, Bool.not_false] | rw [wrap_id (by omega) (by omega)] | ((with_reducible refine Ev.eq (congrArg some ?_)); rfl))
      have := ih (i + 1) (by omega)
      rw [rd_lt (by omega), rd_lt (by omega)] at e
      rw [e, decide_cons]
      exact this
    · rw [decide_eq_false (fun h => e (by rw [rd_lt (by omega), rd_lt (by omega)]; exact (List.cons.inj h).1))]
      repeat (first | with_reducible exact Ev.now _ | dsimp only | refine Ev.pos (by first | omega | rfl | assumption | decide) ?_ | refine Ev.neg (by first | omega | assumption | exact Bool.false_ne_true | exact fun e => absurd e (by decide)) ?_ | simp only [bne_self_eq_false, Bool.not_true, Bool.not_false] | rw [wrap_id (by omega) (by omega)] | ((with_reducible refine Ev.eq (congrArg some ?_)); rfl))

theorem eqInt64S (a b : List Int) (hl : a.length ≤ 1048576) : Ev (fun k => laws_eqInt64S.f k a b) (decide (a = b)) := by
  unfold laws_eqInt64S.f
  by_cases h : a.length = b.length
  · repeat (first | with_reducible exact Ev.now _ | dsimp only | refine Ev.pos (by first | omega | rfl | assumption | decide) ?_ | refine Ev.neg (by first | omega | assumption | exact Bool.false_ne_true | exact fun e => absurd e (by decide)) ?_ | simp only [bne_self_eq_false, Bool.not_true, Bool.not_false] | rw [wrap_id (by omega) (by omega)] | ((with_reducible refine Ev.eq (congrArg some ?_)); rfl))
    exact eqInt64S_loop a b hl h a.length 0 (by omega)
  · rw [decide_eq_false (fun e => h (by rw [e]))]
    repeat (first | with_reducible exact Ev.now _ | dsimp only | refine Ev.pos (by first | omega | rfl | assumption | decide) ?_ | refine Ev.neg (by first | omega | assumption | exact Bool.false_ne_true | exact fun e => absurd e (by decide)) ?_ | simp only [bne_self_eq_false, Bool.not_true, Bool.not_false] | rw [wrap_id (by omega) (by omega)] | ((with_reducible refine Ev.eq (congrArg some ?_)); rfl))

theorem eqInt64S_self (a : List Int) (hl : a.length ≤ 1048576) : Ev (fun k => laws_eqInt64S.f k a a) true :=
  Ev.conv (eqInt64S a a hl) (by simp)
theorem markInt64S_loop (n : Nat) (hn : n ≤ 1048576) (a : Int) (h0 : 0 ≤ a) (h1 : a ≤ 1125899906842624) : ∀ (d i : Nat) (ys : List Int), i + d = n → ys.length = n → ys.take i = (marks a n).take i →
    Ev (fun k => laws_markInt64S.l0 k ys (a + i) (i : Int)) (a + n, marks a n) := by
  intro d
  induction d with
  | zero =>
    intro i ys hi hy ht
    refine Ev.succ ?_; simp only [laws_markInt64S.l0]
    rw [show ys = marks a n from eq_of_take (by rw [hy, marks_length]) (by rw [marks_length]; omega) ht, show i = n by omega]
    have := marks_length a n
    repeat (first | with_reducible exact Ev.now _ | dsimp only | refine Ev.pos (by first | omega | rfl | assumption | decide) ?_ | refine Ev.neg (by first | omega | assumption | exact Bool.false_ne_true | exact fun e => absurd e (by decide)) ?_ | simp only [bne_self_eq_false, Bool.not_true, Bool.not_false] | rw [wrap_id (by omega) (by omega)] | ((with_reducible refine Ev.eq (congrArg some ?_)); rfl))
  | succ d ih =>
    intro i ys hi hy ht
    refine Ev.succ ?_; simp only [laws_markInt64S.l0]
    rw [wrap_succ (by omega), wrap_id (x := a + i + 1) (by omega) (by omega)]
    repeat (first | with_reducible exact Ev.now _ | dsimp only | refine Ev.pos (by first | omega | rfl | assumption | decide) ?_ | refine Ev.neg (by first | omega | assumption | exact Bool.false_ne_true | exact fun e => absurd e (by decide)) ?_ | simp only [bne_self_eq_false, Bool.not_true, Bool.not_false] | rw [wrap_id (by omega) (by omega)] | ((with_reducible refine Ev.eq (congrArg some ?_)); rfl))
    have := ih (i + 1) (ys.set i (a + i)) (by omega) (by simpa using hy) (take_set_succ (by rw [hy, marks_length]) (by rw [marks_length]; omega) (marks_get a n i (by rw [marks_length]; omega)).symm ht)
    rw [show a + ((i + 1 : Nat) : Int) = a + i + 1 by omega] at this
    exact this

theorem markInt64S (l : List Int) (hl : l.length ≤ 1048576) (a : Int) (h0 : 0 ≤ a) (h1 : a ≤ 1125899906842624) : Ev (fun k => laws_markInt64S.f k l a) (a + l.length, marks a l.length) := by
  unfold laws_markInt64S.f
  have := markInt64S_loop l.length hl a h0 h1 l.length 0 l (by omega) rfl (by simp)
  rw [show a + ((0 : Nat) : Int) = a by omega] at this
  exact this

theorem heldInt64S_loop (n : Nat) (hn : n ≤ 1048576) (a : Int) (h0 : 0 ≤ a) (h1 : a ≤ 1125899906842624) : ∀ (d i : Nat), i + d = n →
    Ev (fun k => laws_heldInt64S.l0 k (marks a n) (a + i) (i : Int)) (a + n) := by
  have hm := marks_length a n
  intro d
  induction d with
  | zero =>
    intro i hi
    refine Ev.succ ?_; simp only [laws_heldInt64S.l0]
    rw [show i = n by omega]
    repeat (first | with_reducible exact Ev.now _ | dsimp only | refine Ev.pos (by first | omega | rfl | assumption | decide) ?_ | refine Ev.neg (by first | omega | assumption | exact Bool.false_ne_true | exact fun e => absurd e (by decide)) ?_ | simp only [bne_self_eq_false, Bool.not_true, Bool.not_false] | rw [wrap_id (by omega) (by omega)] | ((with_reducible refine Ev.eq (congrArg some ?_)); rfl))
  | succ d ih =>
    intro i hi
    refine Ev.succ ?_; simp only [laws_heldInt64S.l0]
    rw [wrap_succ (by omega), wrap_id (x := a + i + 1) (by omega) (by omega)]
    have e := marks_get a n i (by omega)
    rw [← rd_lt] at e
    have := ih (i + 1) (by omega)
    rw [show a + ((i + 1 : Nat) : Int) = a + i + 1 by omega] at this
    repeat (first | with_reducible exact Ev.now _ | dsimp only | refine Ev.pos (by first | omega | rfl | assumption | decide) ?_ | refine Ev.neg (by first | omega | assumption | exact Bool.false_ne_true | exact fun e => absurd e (by decide)) ?_ | simp only [bne_self_eq_false, Bool.not_true, Bool.not_false] | rw [wrap_id (by omega) (by omega)] | ((with_reducible refine Ev.eq (congrArg some ?_)); rfl))
    exact this

theorem heldInt64S (a : Int) (n : Nat) (hn : n ≤ 1048576) (h0 : 0 ≤ a) (h1 : a ≤ 1125899906842624) : Ev (fun k => laws_heldInt64S.f k (marks a n) a) (a + n) := by
  unfold laws_heldInt64S.f
  have := heldInt64S_loop n hn a h0 h1 n 0 (by omega)
  rw [show a + ((0 : Nat) : Int) = a by omega] at this
  exact this
def small (x : Int) : Bool := decide (-1000000000000000 ≤ x ∧ x ≤ 1000000000000000)

def whole (l : List Int) : Bool := l.all small && decide (l.length ≤ 40) && (l.getLast? != some 0)

theorem specIn (a b c : Int) : spec_l01In.f a b c = some (decide (b ≤ a ∧ a ≤ c)) := by
  unfold spec_l01In.f
  by_cases h : b ≤ a
  · rw [if_pos h]; simp [h]
  · rw [if_neg h]; simp [h]

theorem implWithin (a b c : Int) : impl_within.f a b c = some (decide (b ≤ a ∧ a ≤ c)) := by
  unfold impl_within.f
  by_cases h : b ≤ a
  · rw [if_pos h]; simp [h]
  · rw [if_neg h]; simp [h]

theorem implSmall (x : Int) : impl_isSmall.f x = some (small x) := by
  unfold impl_isSmall.f
  rw [implWithin]
  rfl

theorem last_rd (l : List Int) (h : l ≠ []) : rd l ((l.length : Int) - 1) = l.getLast h := by
  have hp := List.length_pos_iff.2 h
  have : (l.length : Int) - 1 = ((l.length - 1 : Nat) : Int) := by omega
  rw [this, rd_lt (by omega), List.getLast_eq_getElem]

theorem end_test (l : List Int) (hl : l.length ≤ 1048576) : Ev (fun _ => (if (l.length : Int) ≤ 40 then (if (l.length : Int) = 0 then (some true) else (if 0 ≤ (wrap64 ((l.length : Int) - 1)) then (if (wrap64 ((l.length : Int) - 1)) < (l.length : Int) then (some ((rd l (wrap64 ((l.length : Int) - 1))) != 0)) else (none)) else (none))) else (some false)))
    (decide (l.length ≤ 40) && (l.getLast? != some 0)) := by
  by_cases h40 : (l.length : Int) ≤ 40
  · rw [decide_eq_true (show l.length ≤ 40 by omega), Bool.true_and]
    by_cases h0 : (l.length : Int) = 0
    · have : l = [] := List.length_eq_zero_iff.1 (by omega)
      subst this
      exact Ev.now _
    · have hne : l ≠ [] := fun e => h0 (by rw [e]; rfl)
      rw [wrap_id (by omega) (by omega), last_rd l hne, List.getLast?_eq_some_getLast hne]
      have : (some (l.getLast hne) != some 0) = (l.getLast hne != 0) := rfl
      rw [this]
      repeat (first | with_reducible exact Ev.now _ | dsimp only | refine Ev.pos (by first | omega | rfl | assumption | decide) ?_ | refine Ev.neg (by first | omega | assumption | exact Bool.false_ne_true | exact fun e => absurd e (by decide)) ?_ | simp only [bne_self_eq_false, Bool.not_true, Bool.not_false] | rw [wrap_id (by omega) (by omega)] | ((with_reducible refine Ev.eq (congrArg some ?_)); rfl))
  · rw [decide_eq_false (show ¬ l.length ≤ 40 by omega), Bool.false_and]
    repeat (first | with_reducible exact Ev.now _ | dsimp only | refine Ev.pos (by first | omega | rfl | assumption | decide) ?_ | refine Ev.neg (by first | omega | assumption | exact Bool.false_ne_true | exact fun e => absurd e (by decide)) ?_ | simp only [bne_self_eq_false, Bool.not_true, Bool.not_false] | rw [wrap_id (by omega) (by omega)] | ((with_reducible refine Ev.eq (congrArg some ?_)); rfl))

theorem specPoly_loop (l : List Int) (hl : l.length ≤ 1048576) : ∀ (d i : Nat), i + d = l.length →
    Ev (fun k => spec_l01Poly.l0 k l (i : Int)) ((l.drop i).all small && (decide (l.length ≤ 40) && (l.getLast? != some 0))) := by
  intro d
  induction d with
  | zero =>
    intro i hi
    refine Ev.succ ?_; simp only [spec_l01Poly.l0]
    rw [List.drop_eq_nil_of_le (by omega), List.all_nil, Bool.true_and]
    refine Ev.neg (by omega) ?_
    exact end_test l hl
  | succ d ih =>
    intro i hi
    refine Ev.succ ?_; simp only [spec_l01Poly.l0]
    rw [List.drop_eq_getElem_cons (by omega : i < l.length), List.all_cons, rd_lt (by omega), wrap_succ (by omega), specIn]
    have := ih (i + 1) (by omega)
    by_cases h : small l[i] = true
    · rw [h, Bool.true_and]
      unfold small at h
      repeat (first | with_reducible exact Ev.now _ | dsimp only | with_reducible refine Ev.bind (Ev.eq (congrArg some h)) ?_ | refine Ev.pos (by first | omega | rfl | assumption | decide) ?_ | refine Ev.neg (by first | omega | assumption | exact Bool.false_ne_true | exact fun e => absurd e (by decide)) ?_ | simp only [bne_self_eq_false, Bool.not_true, Bool.not_false] | rw [wrap_id (by omega) (by omega)] | with_reducible exact (Ev.eq (congrArg some h)) | ((with_reducible refine Ev.eq (congrArg some ?_)); rfl))
      exact this
    · rw [Bool.not_eq_true] at h
      rw [h, Bool.false_and, Bool.false_and]
      unfold small at h
      repeat (first | with_reducible exact Ev.now _ | dsimp only | with_reducible refine Ev.bind (Ev.eq (congrArg some h)) ?_ | refine Ev.pos (by first | omega | rfl | assumption | decide) ?_ | refine Ev.neg (by first | omega | assumption | exact Bool.false_ne_true | exact fun e => absurd e (by decide)) ?_ | simp only [bne_self_eq_false, Bool.not_true, Bool.not_false] | rw [wrap_id (by omega) (by omega)] | with_reducible exact (Ev.eq (congrArg some h)) | ((with_reducible refine Ev.eq (congrArg some ?_)); rfl))

theorem specPoly (l : List Int) (hl : l.length ≤ 1048576) : Ev (fun k => spec_l01Poly.f k l) (whole l) := by
  unfold spec_l01Poly.f whole
  rw [Bool.and_assoc]
  exact specPoly_loop l hl l.length 0 (by omega)

theorem implWhole_loop (l : List Int) (hl : l.length ≤ 1048576) : ∀ (d i : Nat), i + d = l.length →
    Ev (fun k => impl_IsWhole.l0 k l l (l.length : Int) (i : Int)) ((l.drop i).all small && (decide (l.length ≤ 40) && (l.getLast? != some 0))) := by
  intro d
  induction d with
  | zero =>
    intro i hi
    refine Ev.succ ?_; simp only [impl_IsWhole.l0]
    rw [List.drop_eq_nil_of_le (by omega), List.all_nil, Bool.true_and]
    refine Ev.neg (by omega) ?_
    exact end_test l hl
  | succ d ih =>
    intro i hi
    refine Ev.succ ?_; simp only [impl_IsWhole.l0]
    rw [List.drop_eq_getElem_cons (by omega : i < l.length), List.all_cons, rd_lt (by omega), wrap_succ (by omega), implSmall]
    have := ih (i + 1) (by omega)
    by_cases h : small l[i] = true
    · rw [h, Bool.true_and]
      repeat (first | with_reducible exact Ev.now _ | dsimp only | with_reducible refine Ev.bind (Ev.now _) ?_ | refine Ev.pos (by first | omega | rfl | assumption | decide) ?_ | refine Ev.neg (by first | omega | assumption | exact Bool.false_ne_true | exact fun e => absurd e (by decide)) ?_ | simp only [bne_self_eq_false, Bool.not_true, Bool.not_false] | rw [wrap_id (by omega) (by omega)] | with_reducible exact (Ev.now _) | ((with_reducible refine Ev.eq (congrArg some ?_)); rfl))
      exact this
    · rw [Bool.not_eq_true] at h
      rw [h, Bool.false_and, Bool.false_and]
      repeat (first | with_reducible exact Ev.now _ | dsimp only | with_reducible refine Ev.bind (Ev.now _) ?_ | refine Ev.pos (by first | omega | rfl | assumption | decide) ?_ | refine Ev.neg (by first | omega | assumption | exact Bool.false_ne_true | exact fun e => absurd e (by decide)) ?_ | simp only [bne_self_eq_false, Bool.not_true, Bool.not_false] | rw [wrap_id (by omega) (by omega)] | with_reducible exact (Ev.now _) | ((with_reducible refine Ev.eq (congrArg some ?_)); rfl))

theorem implWhole (l : List Int) (hl : l.length ≤ 1048576) : Ev (fun k => impl_IsWhole.f k l) (whole l) := by
  unfold impl_IsWhole.f whole
  rw [Bool.and_assoc]
  exact implWhole_loop l hl l.length 0 (by omega)

theorem whole_small {l : List Int} (h : whole l = true) : ∀ x ∈ l, -1000000000000000 ≤ x ∧ x ≤ 1000000000000000 := by
  unfold whole at h
  rw [Bool.and_eq_true, Bool.and_eq_true, List.all_eq_true] at h
  intro x hx
  exact decide_eq_true_iff.1 (h.1.1 x hx)

theorem whole_length {l : List Int} (h : whole l = true) : l.length ≤ 40 := by
  unfold whole at h
  rw [Bool.and_eq_true, Bool.and_eq_true] at h
  exact decide_eq_true_iff.1 h.1.2

theorem whole_last {l : List Int} (h : whole l = true) : l.getLast? ≠ some 0 := by
  unfold whole at h
  rw [Bool.and_eq_true] at h
  exact bne_iff_ne.1 h.2
def big : Int := 1000000000000000

/-- a + b * c, and whether product and sum are small. -/
def more (a b c : Int) : Int × Bool := if -big ≤ b * c ∧ b * c ≤ big then (a + b * c, small (a + b * c)) else (0, false)

theorem mx_abs {a : Int} (h : -big ≤ a ∧ a ≤ big) : mx a (wrap64 (-a)) = a.natAbs := by
  unfold big at h
  rw [wrap_id (by omega) (by omega)]
  unfold mx
  split <;> omega

theorem guard_iff {b c : Int} (hb : b ≠ 0) : ¬ ((c.natAbs : Int) > big.tdiv (b.natAbs : Int)) ↔ (-big ≤ b * c ∧ b * c ≤ big) := by
  have hp : (0 : Int) < (b.natAbs : Int) := by omega
  rw [Int.tdiv_eq_ediv_of_nonneg (by decide), Int.not_lt, Int.le_ediv_iff_mul_le hp]
  have : (c.natAbs : Int) * (b.natAbs : Int) = ((b * c).natAbs : Int) := by
    rw [Int.natAbs_mul]
    push_cast
    exact Int.mul_comm _ _
  rw [this]
  omega

theorem div_small {b : Int} (h : b ≠ 0) : wrap64 (big.tdiv (b.natAbs : Int)) = big.tdiv (b.natAbs : Int) := by
  have h1 : big.tdiv (b.natAbs : Int) = big / (b.natAbs : Int) := Int.tdiv_eq_ediv_of_nonneg (by decide)
  have h2 : big / (b.natAbs : Int) ≤ big := Int.ediv_le_self _ (by decide)
  have h3 : 0 ≤ big / (b.natAbs : Int) := Int.ediv_nonneg (by decide) (by omega)
  rw [h1]
  unfold big at *
  exact wrap_id (by omega) (by omega)

theorem sum_wrap {a p : Int} (ha : -big ≤ a ∧ a ≤ big) (hp : -big ≤ p ∧ p ≤ big) : wrap64 (a + wrap64 p) = a + p := by
  unfold big at *
  rw [wrap_id (x := p) (by omega) (by omega), wrap_id (by omega) (by omega)]

theorem specMore {a b c : Int} (ha : -big ≤ a ∧ a ≤ big) (hb : -big ≤ b ∧ b ≤ big) (hc : -big ≤ c ∧ c ≤ big) : spec_l01More.f a b c = some (more a b c) := by
  unfold spec_l01More.f more
  by_cases h0 : b = 0
  · subst h0
    rw [if_pos rfl, Int.zero_mul, if_pos (by decide), sum_wrap ha (by decide), specIn]
    rfl
  · rw [if_neg h0, mx_abs hb, mx_abs hc, if_neg (by omega)]
    rw [show (1000000000000000 : Int) = big from rfl, div_small h0]
    by_cases h : -big ≤ b * c ∧ b * c ≤ big
    · rw [if_neg ((guard_iff h0).2 h), if_pos h, sum_wrap ha h, specIn]
      rfl
    · rw [if_pos (Decidable.not_not.1 (fun g => h ((guard_iff h0).1 g))), if_neg h]

theorem implTimes {a b c : Int} (ha : -big ≤ a ∧ a ≤ big) (hb : -big ≤ b ∧ b ≤ big) (hc : -big ≤ c ∧ c ≤ big) : Ev (fun k => impl_plusTimes.f k a b c) (more a b c) := by
  have hs : small a = true := decide_eq_true ha
  unfold impl_plusTimes.f
  by_cases h0 : b = 0
  · refine Ev.pos h0 ?_
    refine Ev.succ ?_; simp only [impl_plusTimes.j0]
    subst h0
    unfold more
    rw [Int.zero_mul, if_pos (by decide), Int.add_zero, hs]
    repeat (first | with_reducible exact Ev.now _ | dsimp only | refine Ev.pos (by first | omega | rfl | assumption | decide) ?_ | refine Ev.neg (by first | omega | assumption | exact Bool.false_ne_true | exact fun e => absurd e (by decide)) ?_ | simp only [bne_self_eq_false, Bool.not_true, Bool.not_false] | rw [wrap_id (by omega) (by omega)] | ((with_reducible refine Ev.eq (congrArg some ?_)); rfl))
  · refine Ev.neg h0 ?_
    refine Ev.succ ?_; simp only [impl_plusTimes.j0]
    by_cases h1 : c = 0
    · subst h1
      unfold more
      rw [Int.mul_zero, if_pos (by decide), Int.add_zero, hs]
      repeat (first | with_reducible exact Ev.now _ | dsimp only | refine Ev.pos (by first | omega | rfl | assumption | decide) ?_ | refine Ev.neg (by first | omega | assumption | exact Bool.false_ne_true | exact fun e => absurd e (by decide)) ?_ | simp only [bne_self_eq_false, Bool.not_true, Bool.not_false] | rw [wrap_id (by omega) (by omega)] | ((with_reducible refine Ev.eq (congrArg some ?_)); rfl))
    · rw [show (c == 0) = false from beq_eq_false_iff_ne.2 h1]
      refine Ev.neg (by decide) ?_
      unfold impl_absolute.f
      rw [mx_abs hb, mx_abs hc]
      repeat (first | with_reducible exact Ev.now _ | dsimp only | with_reducible refine Ev.bind (Ev.now _) ?_ | refine Ev.pos (by first | omega | rfl | assumption | decide) ?_ | refine Ev.neg (by first | omega | assumption | exact Bool.false_ne_true | exact fun e => absurd e (by decide)) ?_ | simp only [bne_self_eq_false, Bool.not_true, Bool.not_false] | rw [wrap_id (by omega) (by omega)] | with_reducible exact (Ev.now _) | ((with_reducible refine Ev.eq (congrArg some ?_)); rfl))
      rw [show (1000000000000000 : Int) = big from rfl, div_small h1]
      unfold more
      by_cases h : -big ≤ b * c ∧ b * c ≤ big
      · rw [if_pos h, sum_wrap ha h]
        refine Ev.neg ((guard_iff h1).2 (by rw [Int.mul_comm]; exact h)) ?_
        rw [implSmall]
        repeat (first | with_reducible exact Ev.now _ | dsimp only | with_reducible refine Ev.bind (Ev.now _) ?_ | refine Ev.pos (by first | omega | rfl | assumption | decide) ?_ | refine Ev.neg (by first | omega | assumption | exact Bool.false_ne_true | exact fun e => absurd e (by decide)) ?_ | simp only [bne_self_eq_false, Bool.not_true, Bool.not_false] | rw [wrap_id (by omega) (by omega)] | with_reducible exact (Ev.now _) | ((with_reducible refine Ev.eq (congrArg some ?_)); rfl))
      · rw [if_neg h]
        refine Ev.pos (Decidable.not_not.1 (fun g => h (by rw [Int.mul_comm]; exact (guard_iff h1).1 g))) ?_
        repeat (first | with_reducible exact Ev.now _ | dsimp only | refine Ev.pos (by first | omega | rfl | assumption | decide) ?_ | refine Ev.neg (by first | omega | assumption | exact Bool.false_ne_true | exact fun e => absurd e (by decide)) ?_ | simp only [bne_self_eq_false, Bool.not_true, Bool.not_false] | rw [wrap_id (by omega) (by omega)] | ((with_reducible refine Ev.eq (congrArg some ?_)); rfl))
theorem rl_lt {xs : List (List Int)} {i : Nat} (h : i < xs.length) : rd_L3 xs (i : Int) = xs[i] := by
  simp [rd_L3, List.getD_eq_getElem?_getD, h]

/-- Rows of which each, and their number, is of a moderate size. -/
def Mod (l : List (List Int)) : Prop := l.length ≤ 1048576 ∧ ∀ r ∈ l, r.length ≤ 1048576

theorem Mod.row {l : List (List Int)} (h : Mod l) {i : Nat} (hi : i < l.length) : l[i].length ≤ 1048576 := h.2 _ (List.getElem_mem hi)

theorem areWhole_loop (L : List (List Int)) (hL : Mod L) : ∀ (d i : Nat), i + d = L.length →
    Ev (fun k => slices_IndexFunc_int64_int64_114_at_areWhole_1.l0 k L (L.length : Int) (i : Int)) (if (L.drop i).all whole = true then -1 else ((L.length : Int) - d + ((L.drop i).findIdx (fun x => !whole x) : Nat))) := by
  have hl1 := hL.1
  intro d
  induction d with
  | zero =>
    intro i hi
    refine Ev.succ ?_; simp only [slices_IndexFunc_int64_int64_114_at_areWhole_1.l0]
    rw [List.drop_eq_nil_of_le (by omega), List.all_nil, if_pos rfl]
    repeat (first | with_reducible exact Ev.now _ | dsimp only | refine Ev.pos (by first | omega | rfl | assumption | decide) ?_ | refine Ev.neg (by first | omega | assumption | exact Bool.false_ne_true | exact fun e => absurd e (by decide)) ?_ | simp only [bne_self_eq_false, Bool.not_true, Bool.not_false, List.length_cons, List.length_nil] | rw [wrap_id (by omega) (by omega)] | ((with_reducible refine Ev.eq (congrArg some ?_)); rfl))
  | succ d ih =>
    intro i hi
    refine Ev.succ ?_; simp only [slices_IndexFunc_int64_int64_114_at_areWhole_1.l0]
    rw [List.drop_eq_getElem_cons (by omega : i < L.length), List.all_cons, rl_lt (by omega), wrap_succ (by omega), List.findIdx_cons]
    have h1 : Ev (fun k => impl_areWhole_1.f k L[i]) (!whole L[i]) := by
      unfold impl_areWhole_1.f
      repeat (first | with_reducible exact Ev.now _ | dsimp only | with_reducible refine Ev.bind (implWhole L[i] (hL.row (by omega))) ?_ | refine Ev.pos (by first | omega | rfl | assumption | decide) ?_ | refine Ev.neg (by first | omega | assumption | exact Bool.false_ne_true | exact fun e => absurd e (by decide)) ?_ | simp only [bne_self_eq_false, Bool.not_true, Bool.not_false, List.length_cons, List.length_nil] | rw [wrap_id (by omega) (by omega)] | with_reducible exact (implWhole L[i] (hL.row (by omega))) | ((with_reducible refine Ev.eq (congrArg some ?_)); rfl))
    by_cases h : whole L[i] = true
    · rw [h, Bool.not_true] at h1
      rw [h, Bool.true_and, Bool.not_true, cond_false]
      have := ih (i + 1) (by omega)
      rw [show ((L.length : Int) - (d + 1 : Nat) + ((L.drop (i + 1)).findIdx (fun x => !whole x) + 1 : Nat)) = (L.length : Int) - d + ((L.drop (i + 1)).findIdx (fun x => !whole x) : Nat) by omega]
      repeat (first | with_reducible exact Ev.now _ | dsimp only | with_reducible refine Ev.bind (h1) ?_ | refine Ev.pos (by first | omega | rfl | assumption | decide) ?_ | refine Ev.neg (by first | omega | assumption | exact Bool.false_ne_true | exact fun e => absurd e (by decide)) ?_ | simp only [bne_self_eq_false, Bool.not_true, Bool.not_false, List.length_cons, List.length_nil] | rw [wrap_id (by omega) (by omega)] | with_reducible exact (h1) | ((with_reducible refine Ev.eq (congrArg some ?_)); rfl))
      exact this
    · rw [Bool.not_eq_true] at h
      rw [h, Bool.not_false] at h1
      rw [h, Bool.false_and, Bool.not_false, cond_true, if_neg (by decide), show (L.length : Int) - (d + 1 : Nat) + (0 : Nat) = i by omega]
      repeat (first | with_reducible exact Ev.now _ | dsimp only | with_reducible refine Ev.bind (h1) ?_ | refine Ev.pos (by first | omega | rfl | assumption | decide) ?_ | refine Ev.neg (by first | omega | assumption | exact Bool.false_ne_true | exact fun e => absurd e (by decide)) ?_ | simp only [bne_self_eq_false, Bool.not_true, Bool.not_false, List.length_cons, List.length_nil] | rw [wrap_id (by omega) (by omega)] | with_reducible exact (h1) | ((with_reducible refine Ev.eq (congrArg some ?_)); rfl))

theorem areWhole' (L : List (List Int)) (hL : Mod L) : Ev (fun k => impl_areWhole.f k L) (L.all whole) := by
  have hl1 := hL.1
  have h2 : Ev (fun k => slices_IndexFunc_int64_int64_114_at_areWhole_1.f k L) _ := areWhole_loop L hL L.length 0 (by omega)
  rw [List.drop_zero] at h2
  unfold impl_areWhole.f slices_ContainsFunc_int64_int64_93_at_areWhole_1.f
  by_cases h : L.all whole = true
  · rw [if_pos h] at h2
    rw [h]
    repeat (first | with_reducible exact Ev.now _ | dsimp only | with_reducible refine Ev.bind (Ev.bind h2 (Ev.now _)) ?_ | refine Ev.pos (by first | omega | rfl | assumption | decide) ?_ | refine Ev.neg (by first | omega | assumption | exact Bool.false_ne_true | exact fun e => absurd e (by decide)) ?_ | simp only [bne_self_eq_false, Bool.not_true, Bool.not_false, List.length_cons, List.length_nil] | rw [wrap_id (by omega) (by omega)] | with_reducible exact (Ev.bind h2 (Ev.now _)) | ((with_reducible refine Ev.eq (congrArg some ?_)); rfl))
  · rw [if_neg h] at h2
    rw [Bool.not_eq_true] at h
    rw [h]
    refine Ev.bind (Ev.bind h2 (Ev.now _)) ?_
    rw [decide_eq_true (by omega)]
    exact Ev.now _

theorem areWhole (l : List Int) (hl : l.length ≤ 1048576) : Ev (fun k => impl_areWhole.f k [l]) (whole l) := by
  have := areWhole' [l] ⟨by simp, fun r h => by rw [List.mem_singleton.1 h]; exact hl⟩
  rw [List.all_cons, List.all_nil, Bool.and_true] at this
  exact this

/-- The first i numbers without zeros at the end. -/
def trimN (l : List Int) : Nat → List Int
  | 0 => []
  | i + 1 => if rd l (i : Int) = 0 then trimN l i else l.take (i + 1)

theorem specOwn (l : List Int) (hl : l.length ≤ 1048576) : spec_l01Own.f l = some l := by
  unfold spec_l01Own.f
  simp only [Option.bind_some, List.length_nil, List.nil_append]
  exact if_pos (by omega)

theorem specTrim_loop (l : List Int) (hl : l.length ≤ 1048576) : ∀ (i : Nat), i ≤ l.length → Ev (fun k => spec_l01Trim.l0 k l (i : Int)) (trimN l i) := by
  intro i
  induction i with
  | zero =>
    intro hi
    refine Ev.succ ?_; simp only [spec_l01Trim.l0]
    repeat (first | with_reducible exact Ev.now _ | dsimp only | with_reducible refine Ev.bind (Ev.eq (specOwn _ (by simp))) ?_ | refine Ev.pos (by first | omega | rfl | assumption | decide) ?_ | refine Ev.neg (by first | omega | assumption | exact Bool.false_ne_true | exact fun e => absurd e (by decide)) ?_ | simp only [bne_self_eq_false, Bool.not_true, Bool.not_false, List.length_cons, List.length_nil] | rw [wrap_id (by omega) (by omega)] | with_reducible exact (Ev.eq (specOwn _ (by simp))) | ((with_reducible refine Ev.eq (congrArg some ?_)); rfl))
  | succ i ih =>
    intro hi
    refine Ev.succ ?_; simp only [spec_l01Trim.l0]
    rw [wrap_id (by omega) (by omega), show ((i + 1 : Nat) : Int) - 1 = i by omega]
    unfold trimN
    by_cases h : rd l (i : Int) = 0
    · rw [if_pos h]
      repeat (first | with_reducible exact Ev.now _ | dsimp only | refine Ev.pos (by first | omega | rfl | assumption | decide) ?_ | refine Ev.neg (by first | omega | assumption | exact Bool.false_ne_true | exact fun e => absurd e (by decide)) ?_ | simp only [bne_self_eq_false, Bool.not_true, Bool.not_false, List.length_cons, List.length_nil] | rw [wrap_id (by omega) (by omega)] | ((with_reducible refine Ev.eq (congrArg some ?_)); rfl))
      exact ih (by omega)
    · rw [if_neg h, Int.toNat_natCast]
      repeat (first | with_reducible exact Ev.now _ | dsimp only | (with_reducible refine Ev.bind (Ev.eq (specOwn (l.take (i + 1)) (by simp only [List.length_take]; omega))) ?_) | refine Ev.pos (by first | omega | rfl | assumption | decide) ?_ | refine Ev.neg (by first | omega | assumption | exact Bool.false_ne_true | exact fun e => absurd e (by decide)) ?_ | simp only [bne_self_eq_false, Bool.not_true, Bool.not_false, List.length_cons, List.length_nil] | rw [wrap_id (by omega) (by omega)] | (with_reducible exact (Ev.eq (specOwn (l.take (i + 1)) (by simp only [List.length_take]; omega)))) | ((with_reducible refine Ev.eq (congrArg some ?_)); rfl))

theorem specTrim (l : List Int) (hl : l.length ≤ 1048576) : Ev (fun k => spec_l01Trim.f k l) (trimN l l.length) := by
  unfold spec_l01Trim.f
  exact specTrim_loop l hl _ (Nat.le_refl _)
theorem more_val {b c : Int} (h : (more 0 b c).2 = true) : (more 0 b c).1 = b * c ∧ wrap64 (b * c) = b * c := by
  unfold more at h ⊢
  by_cases g : -big ≤ b * c ∧ b * c ≤ big
  · rw [if_pos g]
    refine ⟨Int.zero_add _, ?_⟩
    unfold big at g
    exact wrap_id (by omega) (by omega)
  · rw [if_neg g] at h
    cases h

/-- The first n numbers of the derivative. -/
def dl (l : List Int) (n : Nat) : List Int := (List.range n).map (fun i => ((i + 1 : Nat) : Int) * rd l ((i + 1 : Nat) : Int))

theorem dl_length (l : List Int) (n : Nat) : (dl l n).length = n := by simp [dl]

theorem dl_succ (l : List Int) (n : Nat) : dl l (n + 1) = dl l n ++ [((n + 1 : Nat) : Int) * rd l ((n + 1 : Nat) : Int)] := by
  simp [dl, List.range_succ]

section
variable (l : List Int) (hl : l.length ≤ 40) (hs : ∀ y ∈ l, -big ≤ y ∧ y ≤ big)
include hl hs

omit hl in
theorem at_big {i : Nat} (h : i < l.length) : -big ≤ rd l (i : Int) ∧ rd l (i : Int) ≤ big := hs _ (rd_mem h)

theorem check_good (hok : ∀ i : Nat, i < l.length → (more 0 i (rd l i)).2 = true) (r : List Int × Int) (hr : Ev (fun k => (spec_l01Derive.f k l).bind fun t => some (t, 0)) r) : ∀ (d i : Nat), i + d = l.length → Ev (fun k => spec_DerivativeOfWhole.l0 k l (i : Int)) r := by
  intro d
  induction d with
  | zero =>
    intro i hi
    refine Ev.succ ?_; simp only [spec_DerivativeOfWhole.l0]
    refine Ev.neg (by omega) ?_
    obtain ⟨K, h⟩ := hr
    exact ⟨K, fun k hk => h k hk⟩
  | succ d ih =>
    intro i hi
    refine Ev.succ ?_; simp only [spec_DerivativeOfWhole.l0]
    rw [wrap_succ (by omega), specMore (a := 0) (by decide) (by unfold big; omega) (at_big l hs (by omega))]
    have := hok i (by omega)
    repeat (first | with_reducible exact Ev.now _ | dsimp only | with_reducible refine Ev.bind (Ev.now _) ?_ | refine Ev.pos (by first | omega | rfl | assumption | decide) ?_ | refine Ev.neg (by first | omega | assumption | exact Bool.false_ne_true | exact fun e => absurd e (by decide)) ?_ | simp only [bne_self_eq_false, Bool.not_true, Bool.not_false, List.length_cons, List.length_nil] | rw [wrap_id (by omega) (by omega)] | with_reducible exact (Ev.now _) | ((with_reducible refine Ev.eq (congrArg some ?_)); rfl))
    exact ih (i + 1) (by omega)

theorem check_bad : ∀ (d i : Nat), i + d = l.length → (∃ j : Nat, i ≤ j ∧ j < l.length ∧ ¬ (more 0 j (rd l j)).2 = true) → Ev (fun k => spec_DerivativeOfWhole.l0 k l (i : Int)) ([], 3) := by
  intro d
  induction d with
  | zero =>
    intro i hi h
    obtain ⟨j, h1, h2, h3⟩ := h
    omega
  | succ d ih =>
    intro i hi h
    refine Ev.succ ?_; simp only [spec_DerivativeOfWhole.l0]
    rw [wrap_succ (by omega), specMore (a := 0) (by decide) (by unfold big; omega) (at_big l hs (by omega))]
    by_cases e : (more 0 i (rd l i)).2 = true
    · repeat (first | with_reducible exact Ev.now _ | dsimp only | with_reducible refine Ev.bind (Ev.now _) ?_ | refine Ev.pos (by first | omega | rfl | assumption | decide) ?_ | refine Ev.neg (by first | omega | assumption | exact Bool.false_ne_true | exact fun e => absurd e (by decide)) ?_ | simp only [bne_self_eq_false, Bool.not_true, Bool.not_false, List.length_cons, List.length_nil] | rw [wrap_id (by omega) (by omega)] | with_reducible exact (Ev.now _) | ((with_reducible refine Ev.eq (congrArg some ?_)); rfl))
      refine ih (i + 1) (by omega) ?_
      obtain ⟨j, h1, h2, h3⟩ := h
      refine ⟨j, ?_, h2, h3⟩
      rcases Nat.lt_or_eq_of_le h1 with h1 | h1
      · exact h1
      · subst h1; exact absurd e h3
    · repeat (first | with_reducible exact Ev.now _ | dsimp only | with_reducible refine Ev.bind (Ev.now _) ?_ | refine Ev.pos (by first | omega | rfl | assumption | decide) ?_ | refine Ev.neg (by first | omega | assumption | exact Bool.false_ne_true | exact fun e => absurd e (by decide)) ?_ | simp only [bne_self_eq_false, Bool.not_true, Bool.not_false, List.length_cons, List.length_nil] | rw [wrap_id (by omega) (by omega)] | with_reducible exact (Ev.now _) | ((with_reducible refine Ev.eq (congrArg some ?_)); rfl))

omit hs in
theorem derive_loop (hok : ∀ i : Nat, i < l.length → (more 0 i (rd l i)).2 = true) : ∀ (d j : Nat), j + d = l.length - 1 → Ev (fun k => spec_l01Derive.l0 k l (dl l j) ((j + 1 : Nat) : Int)) (trimN (dl l (l.length - 1)) (l.length - 1)) := by
  intro d
  induction d with
  | zero =>
    intro j hj
    refine Ev.succ ?_; simp only [spec_l01Derive.l0]
    have e : j = l.length - 1 := by omega
    subst e
    have := specTrim (dl l (l.length - 1)) (by rw [dl_length]; omega)
    rw [dl_length] at this
    repeat (first | with_reducible exact Ev.now _ | dsimp only | with_reducible refine Ev.bind (this) ?_ | refine Ev.pos (by first | omega | rfl | assumption | decide) ?_ | refine Ev.neg (by first | omega | assumption | exact Bool.false_ne_true | exact fun e => absurd e (by decide)) ?_ | simp only [bne_self_eq_false, Bool.not_true, Bool.not_false, List.length_cons, List.length_nil] | rw [wrap_id (by omega) (by omega)] | with_reducible exact (this) | ((with_reducible refine Ev.eq (congrArg some ?_)); rfl))
  | succ d ih =>
    intro j hj
    refine Ev.succ ?_; simp only [spec_l01Derive.l0]
    rw [wrap_succ (by omega), (more_val (hok (j + 1) (by omega))).2]
    have := dl_length l j
    repeat (first | with_reducible exact Ev.now _ | dsimp only | refine Ev.pos (by first | omega | rfl | assumption | decide) ?_ | refine Ev.neg (by first | omega | assumption | exact Bool.false_ne_true | exact fun e => absurd e (by decide)) ?_ | simp only [bne_self_eq_false, Bool.not_true, Bool.not_false, List.length_cons, List.length_nil] | rw [wrap_id (by omega) (by omega)] | ((with_reducible refine Ev.eq (congrArg some ?_)); rfl))
    have := ih (j + 1) (by omega)
    rw [dl_succ] at this
    exact this

theorem der_good (hok : ∀ i : Nat, i < l.length → (more 0 i (rd l i)).2 = true) : ∀ (d j : Nat), j + d = l.length - 1 → Ev (fun k => impl_derivative.l0 k l (dl l j) ((j + 1 : Nat) : Int)) (dl l (l.length - 1), true) := by
  intro d
  induction d with
  | zero =>
    intro j hj
    refine Ev.succ ?_; simp only [impl_derivative.l0]
    have e : j = l.length - 1 := by omega
    subst e
    repeat (first | with_reducible exact Ev.now _ | dsimp only | refine Ev.pos (by first | omega | rfl | assumption | decide) ?_ | refine Ev.neg (by first | omega | assumption | exact Bool.false_ne_true | exact fun e => absurd e (by decide)) ?_ | simp only [bne_self_eq_false, Bool.not_true, Bool.not_false, List.length_cons, List.length_nil] | rw [wrap_id (by omega) (by omega)] | ((with_reducible refine Ev.eq (congrArg some ?_)); rfl))
  | succ d ih =>
    intro j hj
    refine Ev.succ ?_; simp only [impl_derivative.l0]
    have h1 := hok (j + 1) (by omega)
    rw [wrap_succ (by omega)]
    have := dl_length l j
    have hm := implTimes (a := 0) (b := ((j + 1 : Nat) : Int)) (c := rd l ((j + 1 : Nat) : Int)) (by decide) (by unfold big; omega) (at_big l hs (by omega))
    repeat (first | with_reducible exact Ev.now _ | dsimp only | with_reducible refine Ev.bind (hm) ?_ | refine Ev.pos (by first | omega | rfl | assumption | decide) ?_ | refine Ev.neg (by first | omega | assumption | exact Bool.false_ne_true | exact fun e => absurd e (by decide)) ?_ | simp only [bne_self_eq_false, Bool.not_true, Bool.not_false, List.length_cons, List.length_nil] | rw [wrap_id (by omega) (by omega)] | with_reducible exact (hm) | ((with_reducible refine Ev.eq (congrArg some ?_)); rfl))
    rw [(more_val h1).1, ← dl_succ]
    exact ih (j + 1) (by omega)

theorem der_bad : ∀ (d j : Nat), j + d = l.length - 1 → (∃ i : Nat, j + 1 ≤ i ∧ i < l.length ∧ ¬ (more 0 i (rd l i)).2 = true) → ∀ x : List Int, x.length ≤ j → Ev (fun k => impl_derivative.l0 k l x ((j + 1 : Nat) : Int)) ([], false) := by
  intro d
  induction d with
  | zero =>
    intro j hj h
    obtain ⟨i, h1, h2, h3⟩ := h
    omega
  | succ d ih =>
    intro j hj h x hx
    refine Ev.succ ?_; simp only [impl_derivative.l0]
    rw [wrap_succ (by omega)]
    have hm := implTimes (a := 0) (b := ((j + 1 : Nat) : Int)) (c := rd l ((j + 1 : Nat) : Int)) (by decide) (by unfold big; omega) (at_big l hs (by omega))
    by_cases e : (more 0 ((j + 1 : Nat) : Int) (rd l ((j + 1 : Nat) : Int))).2 = true
    · repeat (first | with_reducible exact Ev.now _ | dsimp only | with_reducible refine Ev.bind (hm) ?_ | refine Ev.pos (by first | omega | rfl | assumption | decide) ?_ | refine Ev.neg (by first | omega | assumption | exact Bool.false_ne_true | exact fun e => absurd e (by decide)) ?_ | simp only [bne_self_eq_false, Bool.not_true, Bool.not_false, List.length_cons, List.length_nil] | rw [wrap_id (by omega) (by omega)] | with_reducible exact (hm) | ((with_reducible refine Ev.eq (congrArg some ?_)); rfl))
      refine ih (j + 1) (by omega) ?_ _ (by simp; omega)
      obtain ⟨i, h1, h2, h3⟩ := h
      refine ⟨i, ?_, h2, h3⟩
      rcases Nat.lt_or_eq_of_le h1 with h1 | h1
      · exact h1
      · subst h1; exact absurd e h3
    · repeat (first | with_reducible exact Ev.now _ | dsimp only | with_reducible refine Ev.bind (hm) ?_ | refine Ev.pos (by first | omega | rfl | assumption | decide) ?_ | refine Ev.neg (by first | omega | assumption | exact Bool.false_ne_true | exact fun e => absurd e (by decide)) ?_ | simp only [bne_self_eq_false, Bool.not_true, Bool.not_false, List.length_cons, List.length_nil] | rw [wrap_id (by omega) (by omega)] | with_reducible exact (hm) | ((with_reducible refine Ev.eq (congrArg some ?_)); rfl))

end

theorem trim_dl (l : List Int) (h : whole l = true) : trimN (dl l (l.length - 1)) (l.length - 1) = dl l (l.length - 1) := by
  match hn : l.length - 1 with
  | 0 => rfl
  | n + 1 =>
    unfold trimN
    have hne : l ≠ [] := fun e => by rw [e] at hn; simp at hn
    have hlast := whole_last h
    rw [List.getLast?_eq_some_getLast hne, ← last_rd l hne, show (l.length : Int) - 1 = ((n + 1 : Nat) : Int) by omega] at hlast
    have h0 : rd l ((n + 1 : Nat) : Int) ≠ 0 := fun e => hlast (by rw [e])
    have e1 : rd (dl l (n + 1)) (n : Int) = ((n + 1 : Nat) : Int) * rd l ((n + 1 : Nat) : Int) := by
      rw [rd_lt (by rw [dl_length]; omega)]
      simp [dl]
    rw [if_neg, List.take_of_length_le (by rw [dl_length]; omega)]
    rw [e1]
    exact Int.mul_ne_zero (by omega) h0

theorem FnExactDerivativeOfWhole : laws_FnExactDerivativeOfWhole.Pure := by
  intro l _ _
  refine Ev.rounds ?_
  unfold laws_FnExactDerivativeOfWhole.f
  by_cases h : (l.length : Int) > 1048576
  · repeat (first | with_reducible exact Ev.now _ | dsimp only | refine Ev.pos (by first | omega | rfl | assumption | decide) ?_ | refine Ev.neg (by first | omega | assumption | exact Bool.false_ne_true | exact fun e => absurd e (by decide)) ?_ | simp only [bne_self_eq_false, Bool.not_true, Bool.not_false, List.length_cons, List.length_nil] | rw [wrap_id (by omega) (by omega)] | ((with_reducible refine Ev.eq (congrArg some ?_)); rfl))
  · have hl : l.length ≤ 1048576 := by omega
    obtain ⟨r, hr, hs, hi⟩ : ∃ r : List Int × Int, r.1.length ≤ 1048576 ∧ Ev (fun k => spec_DerivativeOfWhole.f k l) r ∧ Ev (fun k => impl_DerivativeOfWhole.f k l) r := by
      unfold spec_DerivativeOfWhole.f impl_DerivativeOfWhole.f
      have h1 := specPoly l hl
      have h2 := areWhole l hl
      by_cases hw : whole l = true
      · rw [hw] at h1 h2
        have h40 := whole_length hw
        have hs := whole_small hw
        by_cases hok : ∀ i : Nat, i < l.length → (more 0 i (rd l i)).2 = true
        · refine ⟨(dl l (l.length - 1), 0), by have := dl_length l (l.length - 1); simp only; omega, ?_, ?_⟩
          · repeat (first | with_reducible exact Ev.now _ | dsimp only | with_reducible refine Ev.bind (h1) ?_ | refine Ev.pos (by first | omega | rfl | assumption | decide) ?_ | refine Ev.neg (by first | omega | assumption | exact Bool.false_ne_true | exact fun e => absurd e (by decide)) ?_ | simp only [bne_self_eq_false, Bool.not_true, Bool.not_false, List.length_cons, List.length_nil] | rw [wrap_id (by omega) (by omega)] | with_reducible exact (h1) | ((with_reducible refine Ev.eq (congrArg some ?_)); rfl))
            refine check_good l h40 hs hok _ ?_ l.length 0 (by omega)
            have := derive_loop l h40 hok (l.length - 1) 0 (by omega)
            rw [trim_dl l hw] at this
            unfold spec_l01Derive.f
            exact Ev.bind this (Ev.now _)
          · have : Ev (fun k => impl_derivative.f k l) (dl l (l.length - 1), true) := der_good l h40 hs hok (l.length - 1) 0 (by omega)
            repeat (first | with_reducible exact Ev.now _ | dsimp only | with_reducible refine Ev.bind (h2) ?_ | with_reducible refine Ev.bind (this) ?_ | refine Ev.pos (by first | omega | rfl | assumption | decide) ?_ | refine Ev.neg (by first | omega | assumption | exact Bool.false_ne_true | exact fun e => absurd e (by decide)) ?_ | simp only [bne_self_eq_false, Bool.not_true, Bool.not_false, List.length_cons, List.length_nil] | rw [wrap_id (by omega) (by omega)] | with_reducible exact (h2) | with_reducible exact (this) | ((with_reducible refine Ev.eq (congrArg some ?_)); rfl))
        · have hbad : ∃ i : Nat, i < l.length ∧ ¬ (more 0 i (rd l i)).2 = true := by
            apply Classical.byContradiction
            intro hc
            exact hok (fun i hi => Classical.byContradiction (fun e => hc ⟨i, hi, e⟩))
          obtain ⟨i, hi, hb⟩ := hbad
          refine ⟨([], 3), by simp, ?_, ?_⟩
          · repeat (first | with_reducible exact Ev.now _ | dsimp only | with_reducible refine Ev.bind (h1) ?_ | refine Ev.pos (by first | omega | rfl | assumption | decide) ?_ | refine Ev.neg (by first | omega | assumption | exact Bool.false_ne_true | exact fun e => absurd e (by decide)) ?_ | simp only [bne_self_eq_false, Bool.not_true, Bool.not_false, List.length_cons, List.length_nil] | rw [wrap_id (by omega) (by omega)] | with_reducible exact (h1) | ((with_reducible refine Ev.eq (congrArg some ?_)); rfl))
            exact check_bad l h40 hs l.length 0 (by omega) ⟨i, by omega, hi, hb⟩
          · have hpos : 0 + 1 ≤ i := by
              rcases Nat.eq_zero_or_pos i with e | e
              · subst e
                exact absurd (show (more 0 ((0 : Nat) : Int) (rd l ((0 : Nat) : Int))).2 = true by
                  unfold more
                  rw [show ((0 : Nat) : Int) = 0 from rfl, Int.zero_mul, if_pos (by decide)]
                  rfl) hb
              · omega
            have : Ev (fun k => impl_derivative.f k l) ([], false) := der_bad l h40 hs (l.length - 1) 0 (by omega) ⟨i, hpos, hi, hb⟩ [] (by simp)
            repeat (first | with_reducible exact Ev.now _ | dsimp only | with_reducible refine Ev.bind (h2) ?_ | with_reducible refine Ev.bind (this) ?_ | refine Ev.pos (by first | omega | rfl | assumption | decide) ?_ | refine Ev.neg (by first | omega | assumption | exact Bool.false_ne_true | exact fun e => absurd e (by decide)) ?_ | simp only [bne_self_eq_false, Bool.not_true, Bool.not_false, List.length_cons, List.length_nil] | rw [wrap_id (by omega) (by omega)] | with_reducible exact (h2) | with_reducible exact (this) | ((with_reducible refine Ev.eq (congrArg some ?_)); rfl))
      · rw [Bool.not_eq_true] at hw
        rw [hw] at h1 h2
        refine ⟨([], 1), by simp, ?_, ?_⟩
        · repeat (first | with_reducible exact Ev.now _ | dsimp only | with_reducible refine Ev.bind (h1) ?_ | refine Ev.pos (by first | omega | rfl | assumption | decide) ?_ | refine Ev.neg (by first | omega | assumption | exact Bool.false_ne_true | exact fun e => absurd e (by decide)) ?_ | simp only [bne_self_eq_false, Bool.not_true, Bool.not_false, List.length_cons, List.length_nil] | rw [wrap_id (by omega) (by omega)] | with_reducible exact (h1) | ((with_reducible refine Ev.eq (congrArg some ?_)); rfl))
        · repeat (first | with_reducible exact Ev.now _ | dsimp only | with_reducible refine Ev.bind (h2) ?_ | refine Ev.pos (by first | omega | rfl | assumption | decide) ?_ | refine Ev.neg (by first | omega | assumption | exact Bool.false_ne_true | exact fun e => absurd e (by decide)) ?_ | simp only [bne_self_eq_false, Bool.not_true, Bool.not_false, List.length_cons, List.length_nil] | rw [wrap_id (by omega) (by omega)] | with_reducible exact (h2) | ((with_reducible refine Ev.eq (congrArg some ?_)); rfl))
    repeat (first | with_reducible exact Ev.now _ | dsimp only | with_reducible refine Ev.bind (toInt64S l hl) ?_ | with_reducible refine Ev.bind (hs) ?_ | with_reducible refine Ev.bind (hi) ?_ | with_reducible refine Ev.bind (eqInt64S_self r.1 hr) ?_ | with_reducible refine Ev.bind (eqInt64S_self l hl) ?_ | with_reducible refine Ev.bind (markInt64S l hl 1 (by omega) (by omega)) ?_ | with_reducible refine Ev.bind (markInt64S r.1 hr 1 (by omega) (by omega)) ?_ | with_reducible refine Ev.bind (heldInt64S 1 r.1.length hr (by omega) (by omega)) ?_ | refine Ev.pos (by first | omega | rfl | assumption | decide) ?_ | refine Ev.neg (by first | omega | assumption | exact Bool.false_ne_true | exact fun e => absurd e (by decide)) ?_ | simp only [bne_self_eq_false, Bool.not_true, Bool.not_false, List.length_cons, List.length_nil] | rw [wrap_id (by omega) (by omega)] | with_reducible exact (toInt64S l hl) | with_reducible exact (hs) | with_reducible exact (hi) | with_reducible exact (eqInt64S_self r.1 hr) | with_reducible exact (eqInt64S_self l hl) | with_reducible exact (markInt64S l hl 1 (by omega) (by omega)) | with_reducible exact (markInt64S r.1 hr 1 (by omega) (by omega)) | with_reducible exact (heldInt64S 1 r.1.length hr (by omega) (by omega)) | ((with_reducible refine Ev.eq (congrArg some ?_)); rfl))
end Go.Proofs.Ytkhbehppjahokaa.Pure
