/- The printed functions that this law reaches, and their contracts: part 3. -/
-- printed by this repo's wip/printer out of the kit's print with its own changes
import Derived.Test.YtipigagbgpoecaaC2
namespace Go.Proofs.Ytipigagbgpoecaa.G
open Go.RowKit Go.Proofs.YtipigagbgpoecaaW.PrintWords Go.Proofs.YtipigagbgpoecaaW.PrintLast Go.Proofs.YtipigagbgpoecaaW.PrintMore
attribute [local go_sem] max2_int min2_int max_two min_two max_three min_three max_four min_four   -- for this text's walks alone
set_option linter.unusedVariables false
set_option linter.unusedSimpArgs false

/-! ### impl_Graph_closedWalks: function 75 -/
theorem impl_Graph_closedWalks.run_one {P : Program} (w : World) (base : Nat) (t ty e : TypeId) (i : TypeInfo) (z : Value) (bytes : Nat) (ht : P.underlying t = some (.slice e)) (hi : P.info? e = some i) (hz : i.zero = some z)
    (hsize : i.size = 1) (hby : i.bytes = bytes) (hzs : z.cells.size = 1) (v : Value) (n : Nat) (xs : List Value) (hown : w.ownsRow base e 1 v n xs)
    (a : Addr) (c : Nat) (news : List Value) (hl : news.length = 1) (hnews : ∀ j u, news[j]? = some u → w.cell? (a.add j) = some u) (h1 : ∀ u ∈ news, u.oneCell' = true)
    (h63 : n + 1 ≤ maxLen) (hbytes : (n + 1) * bytes ≤ 140737488355328) (hbase : base ≤ w.heap.size) :
    ∃ v' w', (Builtin.append_ #[t, t] ty #[v, .slice (some a) 1 c]).run P w = .ok v' w' ∧ w'.ownsRow base e 1 v' (n + 1) (xs ++ news) ∧ w.grownBy w' v.ownBlock ∧
      ((∃ A c, v = .slice A n c ∧ v' = .slice A (n + 1) c) ∨ (w'.ownsRow base e 1 v n xs ∧ ∃ b, v'.ownBlock = some b ∧ w.heap.size ≤ b)) := by
  obtain ⟨v', w', hr, h2, h3, h4, h5⟩ := run_append_own_at (P := P) w base t ty e i z 1 bytes ht hi hz hsize hby hzs (by decide) v n xs hown a 1 c news (by rw [hl]) hnews h1 h63 hbytes hbase
  refine ⟨v', w', hr, h2, h3, ?_⟩
  have hn : ∀ b, v'.ownBlock = some b → v.ownBlock = none → w.heap.size ≤ b := fun b hb h0 => by
    rcases h5 with h5 | h5
    · rw [h5, h0] at hb
      cases hb
    · rw [h5] at hb
      injection hb with hb
      omega
  rcases hown.2 with ⟨rfl, rfl⟩ | ⟨g, cap, cur, rfl, hbg, hg, hnc, hcm, hcs, htake⟩
  · have hx : xs = [] := List.eq_nil_of_length_eq_zero (by simpa using hown.1)
    subst hx
    refine .inr ⟨World.ownsRow_nil _ _ _ _, ?_⟩
    rcases h2.2 with ⟨_, h0⟩ | ⟨g, cap, cur, rfl, _⟩
    · omega
    · exact ⟨g, rfl, hn g rfl rfl⟩
  · by_cases hroom : n + 1 ≤ cap
    · have hr2 := run_append_room (P := P) w t ty e i ht hi g n cap cur hg a 1 c news (by rw [hl, hsize]) hnews h1 hroom (by rw [hl, hcs, hsize]; omega)
      rw [hr] at hr2
      injection hr2 with hv hw
      exact .inl ⟨_, _, rfl, hv⟩
    · have holds : ∀ j u, xs[j]? = some u → w.cell? ((⟨g, 0, none⟩ : Addr).add j) = some u := hown.cells (g := g) rfl
      have hr2 := run_append_grow (P := P) w t ty e i z ht hi hz ⟨g, 0, none⟩ n cap xs (by rw [hsize]; exact hown.1) holds a 1 c news (by rw [hl, hsize]) hnews (by simp only [maxLen] at h63; omega) (by simp only [maxLen] at h63; omega) (growslice_fits (by omega) (by rw [hby]; exact hbytes))
      rw [hr] at hr2
      injection hr2 with hv hw
      refine .inr ⟨?_, w.heap.size, by rw [hv]; rfl, Nat.le_refl _⟩
      rw [hw]
      exact (hown.drew).alloc _
section
variable {P : Program} {ops : Array Oper} {o : Oper} {a : Act} {Q : Exit → Act → World → Prop} {Kc : Act → World → Prop}
theorem impl_Graph_closedWalks.one_step {w0 W : World} (base : Nat) (hw : Region.wanted o (yielded ops a.tmps) = true) (s x : Operand) (t e : TypeId) (z : Value) (bytes : Nat)
    (ho : o.op = .call { callee := .builtin .append, args := #[s, x], argTypes := #[t, t] })
    (ht : P.underlying t = some (.slice e)) (hinfo : (P.info? e).map (fun i => (i.zero, i.size, i.bytes)) = some (some z, 1, bytes)) (hz : z.cells.size = 1) (hb0 : 0 < bytes)
    (v : Value) (xs : List Int) (p : Int) (ok : Nat → Prop) (hs : a.eval s = v) (hx : a.eval x = .slice (some ⟨W.heap.size, 0, none⟩) 1 1)
    (HO : (Kd.int .i64).R e W base ok v xs) (HB : Below base w0 W) (hbase : base ≤ W.heap.size) (hl : (xs.length + 1) * bytes ≤ 140737488355328)
    (h : ∀ v1 w1, (Kd.int .i64).R e w1 base (fun _ => True) v1 (xs ++ [p]) → Below base w0 w1 → W.grownBy w1 v.ownBlock →
      ((∃ A c, v = .slice A xs.length c ∧ v1 = .slice A (xs.length + 1) c) ∨ ((Kd.int .i64).R e w1 base ok v xs ∧ ∃ b, v1.ownBlock = some b ∧ W.heap.size ≤ b)) → Kc (a.put o.dst v1) w1) :
    if Region.wanted o (yielded ops a.tmps) = true then Oper.wp P o a (W.alloc (.cells #[.int .i64 p] e)) Kc Q else Kc (a.put o.dst undef) (W.alloc (.cells #[.int .i64 p] e)) := by
  obtain ⟨i0, hi, hzz⟩ := Option.map_eq_some_iff.1 hinfo
  simp only [Prod.mk.injEq] at hzz
  obtain ⟨hz0, hz1, hz2⟩ := hzz
  have hlen : xs.length + 1 ≤ 140737488355328 := Nat.le_trans (Nat.le_mul_of_pos_right _ hb0) hl
  obtain ⟨hok, inner, hown, hr⟩ := HO
  rw [if_pos hw]
  obtain ⟨v1, w1, hrun, hown1, hg, hat⟩ := impl_Graph_closedWalks.run_one (P := P) (W.alloc (.cells #[.int .i64 p] e)) base t o.type e i0 z bytes ht hi hz0 hz1 hz2 hz v xs.length _ (hown.alloc _) ⟨W.heap.size, 0, none⟩ 1 [.int .i64 p] rfl
    (by simpa using World.news_of_block (cs := #[Value.int .i64 p]) (t := e) (fr := (0, 0)) (heap_alloc_new W (.cells #[.int .i64 p] e))) (by simp [Value.oneCell']) (by simp only [maxLen]; omega) hl (by simp; omega)
  unfold Oper.wp execOp
  simp only [ho, resolve, invoke, builtin, Sem.run_bind, Sem.run_pure, Result.andThen_ok, List.map_toArray, List.map_cons, List.map_nil, hs, hx, hrun]
  refine h v1 w1 ?_ ((HB.alloc hbase _).grown hg (by simp; omega) (own_base hown)) (World.grownBy.trans (World.grownBy_alloc W _ _) hg) ?_
  · refine Kd.R_appended (W := W) (okp := fun _ => False) (cs := [.int .i64 p]) (fun _ _ => trivial) (hr.imp_ (fun _ _ hp => (Kd.int .i64).M_mono (fun k hk => ⟨trivial, hk.2⟩) hp)) rfl (fun _ hk => hk.elim) (fun _ _ => trivial) hown1 (World.grownBy.trans (World.grownBy_alloc W _ _) hg) ?_
    rcases hat with ⟨A, c, rfl, rfl⟩ | ⟨_, b, hb, hle⟩
    · exact .inl (by cases A <;> rfl)
    · exact .inr ⟨b, hb, by simp at hle; omega⟩
  · rcases hat with hat | ⟨hat, b, hb, hle⟩
    · exact .inl hat
    · exact .inr ⟨⟨hok, _, hat, hr⟩, b, hb, by simp at hle; omega⟩
end
/-- Behind 'n': the rest of the walk that can still be closed, and how the closure goes on. -/
def impl_Graph_closedWalks.first (ws : List Int) (e : Int) : Int := if (ws.length : Int) > 0 then rd ws 0 else e
def impl_Graph_closedWalks.can (wy : List (List (List Int))) (i e f : Int) : Option Bool :=
  if (0 ≤ i ∧ i < (wy.length : Int)) ∧ (0 ≤ e ∧ e < ((wy.getD i.toNat []).length : Int)) ∧ 0 ≤ f ∧ f < ((rd_L1 (wy.getD i.toNat []) e).length : Int) then some (rd (rd_L1 (wy.getD i.toNat []) e) f == 1) else none
def impl_Graph_closedWalks.lp (n : Int) (l : List (List Int)) (wy : List (List (List Int))) (K : Int) (F : List Int → List (List Int) → Option (List (List Int))) (ws : List Int) (m : Int) : Nat → Int → List (List Int) → Option (List (List Int))
  | 0, _, _ => none
  | q + 1, e, xs => if e < m then ((if (ws.length : Int) = 0 then some true else impl_Graph_follows.f n l (rd ws (wrap64 ((ws.length : Int) - 1))) e).bind fun b =>
      (if b = true then impl_Graph_closedWalks.can wy (wrap64 (K - (ws.length : Int))) e (impl_Graph_closedWalks.first ws e) else some false).bind fun t =>
      if t = true then (if ws.length + 1 < 17592186044416 then (F (ws ++ [e]) xs).bind fun ys => impl_Graph_closedWalks.lp n l wy K F ws m q (wrap64 (e + 1)) ys else none) else impl_Graph_closedWalks.lp n l wy K F ws m q (wrap64 (e + 1)) xs) else some xs
def impl_Graph_closedWalks.go (n : Int) (l : List (List Int)) (wy : List (List (List Int))) (K : Int) : Nat → List Int → List (List Int) → Option (List (List Int))
  | 0, ws, xs => (slices_Clone_int64_int64.f ws).bind fun t => if xs.length + 1 < 5864062014805 then some (xs ++ [t]) else none
  | d + 1, ws, xs => (impl_Graph_size.f n l).bind fun s => impl_Graph_closedWalks.lp n l wy K (impl_Graph_closedWalks.go n l wy K d) ws (wrap64 (2 * s)) ((wrap64 (2 * s)).toNat + 1) 0 xs
set_option maxHeartbeats 8000000 in
set_option maxRecDepth 100000 in
theorem impl_Graph_closedWalks.base (n : Int) (l : List (List Int)) (wy : List (List (List Int))) (w0 : World) (K bk bo bg bw bx : Nat) (hlo : w0.heap.size ≤ bo)
    (ws : List Int) (xs r : List (List Int)) (walk vout : Value) (P okw : Nat → Prop) (w : World) (hd : ws.length = K) (h : impl_Graph_closedWalks.go n l wy (K : Int) 0 ws xs = some r) (hB : Below w0.heap.size w0 w)
    (hk : w.heap[bk]? = some (.cells #[.int .i64 K] 2 (0, 0)))
    (ho : w.heap[bo]? = some (.cells #[vout] 22 (0, 0))) (hS : Kd.S (Kd.slice 2 (Kd.int .i64)) 26 w w0.heap.size P vout xs) (hW : Kd.R (Kd.int .i64) 2 w w0.heap.size okw walk ws)
    (hWo : ∀ k, walk.ownBlock = some k → ¬ P k) :
    Calls Try.prog 110 #[walk, .pointer (some ⟨bk, 0, none⟩), .pointer (some ⟨bo, 0, none⟩), .pointer (some ⟨bg, 0, none⟩), .pointer (some ⟨bw, 0, none⟩), .pointer (some ⟨bx, 0, none⟩)] w fun e w' =>
      e = .returned (.tuple #[]) ∧ ∃ vout', w'.heap[bo]? = some (.cells #[vout'] 22 (0, 0)) ∧ Kd.S (Kd.slice 2 (Kd.int .i64)) 26 w' w0.heap.size (fun k => P k ∨ w.heap.size ≤ k) vout' r ∧ Kd.R (Kd.int .i64) 2 w' w0.heap.size okw walk ws ∧ Below w0.heap.size w0 w' ∧
        Kept w w' (fun k => k = bo ∨ P k ∨ walk.ownBlock = some k) := by
  subst hd
  obtain ⟨A1, c1, rfl⟩ := Kd.R_slice hW
  obtain ⟨A2, c2, rfl⟩ := Kd.S_slice hS
  obtain ⟨t, A0, H⟩ := bnd_ h
  obtain ⟨hlen, H⟩ := itn_ H
  obtain rfl := Option.some.inj H
  clear H h
  have c4b0 : ((ws.length : Int) == (ws.length : Int)) = true := beq_iff_eq.mpr rfl
  have hck : w.cell? ⟨bk, 0, none⟩ = some (.int .i64 ws.length) := (blk_cell hk 0).trans rfl
  have hfk := blk_frozen hk 0
  obtain ⟨hrl, hrc, hrC⟩ := Kd.R_reads' hW
  go_enter Try.func110, Try.ntmps110
  go_wp2
  have ho1 : w.drew.heap[bo]? = some (.cells #[.slice A2 xs.length c2] 22 (0, 0)) := ho
  have hS1 := Kd.S_drew hS
  have hW1 := Kd.R_drew (Kd.R_tight rfl hW)
  have hB1 : Below w0.heap.size w0 w.drew := below_drew1 hB
  have hK1 : Kept w w.drew (fun k => k = bo ∨ P k ∨ (Value.slice A1 ws.length c1).ownBlock = some k) := (Kept.refl w _)
  have hz1 : w.drew.heap.size = w.heap.size := rfl
  have hH0 : w.drew.cell? ⟨bo, 0, none⟩ = some (.slice A2 xs.length c2) := (blk_cell ho1 0).trans rfl
  refine start_ (n := 6) (S := fun w' => w'.cell? ⟨bo, 0, none⟩ = some (.slice A2 xs.length c2)) (ds := [5]) #[false, false, false, false, false, false] (by kernel_rfl) rfl rfl hH0 (fun hHeld => ?_)
  clear hH0
  generalize w.drew = w1 at ho1 hS1 hW1 hB1 hK1 hz1 hHeld ⊢
  refine pure_ (i := 1) (N := some 16) (v := ?_) (a' := ?_) #[false, true, false, false, false, false] rfl rfl (by kernel_rfl) (fun _ _ _ h => h) (Or.inl ⟨by rfl, ?_⟩) ?_ ?_
  rotate_left
  · intro w'
    go_simp
    with_reducible rfl
  rotate_left
  · simp only [Act.put, List.setIfInBounds_toArray, List.set_cons_zero, List.set_cons_succ, i64_w, i32_w]
    rfl
  refine take_ (i := 0) (N := some 15) (v := ?_) (a' := ?_) #[true, true, false, false, false, false] rfl rfl (by kernel_rfl) (fun _ _ _ h => h) (Or.inl ⟨by rfl, ?_⟩) hHeld ?_ ?_
  rotate_left
  · intro w' s0
    go_simp
    with_reducible rfl
  rotate_left
  · simp only [Act.put, List.setIfInBounds_toArray, List.set_cons_zero, List.set_cons_succ, i64_w, i32_w]
    rfl
  refine one_ (i := 2) (N := some 17) #[true, true, true, false, false, false] rfl rfl (by kernel_rfl) (by decide) (fun K hK => ?_)
  refine goes_ Try.func106 (by kernel_rfl) rfl #[.slice A1 ws.length c1] (by rfl) rfl rfl arg_ ?_
  with_reducible refine (slices_Clone_int64_int64.calls A1 c1 ws t _ ?side1 ?side2 A0.out).mono ?_
  (case side1 => exact (Kd.R_reads' hW1).2.2)
  (case side2 => exact hrc)
  rintro e w2 ⟨v2, rfl, hC2, hb2⟩
  refine ⟨_, rfl, ?_⟩
  have ho2 := blk_below ho1 hb2
  have hS2 := Kd.S_old hS1 hb2
  have hW2 := Kd.R_below hW1 hb2
  have hB2 : Below w0.heap.size w0 w2 := below_step hB1 hb2
  have hK2 := hK1.below hb2
  have hbs2 : ∀ k, v2.ownBlock = some k → w.heap.size ≤ k := fun k hk => by have := Kd.R_base hC2 k hk; omega
  obtain ⟨A3, c3, rfl⟩ := Kd.R_slice hC2
  refine hK.out _ _ ((blk_cell ho2 0).trans rfl) (fun hHeld => ?_)
  clear hK K
  refine norm_ (a' := ?_) ?_ ?_
  rotate_left
  · show Act.put _ (some 17) _ = _
    simp only [Act.put, List.setIfInBounds_toArray, List.set_cons_zero, List.set_cons_succ, i64_w, i32_w]
    rfl
  refine one_ (i := 3) (N := some 18) #[true, true, true, true, false, false] rfl rfl (by kernel_rfl) (by decide) (fun K hK => ?_)
  refine event_step (v := .slice (some ⟨w2.heap.size, 0, none⟩) 1 1) (w1 := w2.alloc (.cells #[.slice A3 t.length c3] 26 (0, 0))) (by rfl) ?hr ?_
  (case hr => first | (go_simp; done) | (go_simp; rfl))
  refine hK.out _ _ ((blk_cell (blk_alloc ho2 _) 0).trans rfl) (fun hHeld => ?_)
  clear hK K
  refine norm_ (a' := ?_) ?_ ?_
  rotate_left
  · show Act.put _ (some 18) _ = _
    simp only [Act.put, List.setIfInBounds_toArray, List.set_cons_zero, List.set_cons_succ, i64_w, i32_w]
    rfl
  refine one_ (i := 4) (N := some 19) #[true, true, true, true, true, false] rfl rfl (by kernel_rfl) (by decide) (fun K hK => ?_)
  refine Kd.S_append_step (Kd.slice 2 (Kd.int .i64)) (w0 := w0) w0.heap.size (by rfl) (.tmp 15) (.tmp 18) 22 26 (.slice none 0 0) 24 rfl Try.underlying22 info26 rfl (by decide) (by omega) (.slice A2 xs.length c2) xs t [.slice A3 t.length c3] (fun k => P k ∨ w.heap.size ≤ k) (fun k => some k = (.slice A3 t.length c3 : Value).ownBlock) rfl rfl ?aP ?aK ?aF ?aO hB2 ?aS ?aL ?_
  (case aP => exact Kd.M_row (Kd.R_lower (Kd.R_tight rfl hC2) (by rw [hz1]; exact hB.size)))
  (case aK => exact fun k hk => ⟨.inr (hbs2 k hk.symm), fun e => by have h1 := hbs2 k hk.symm; have h2 := Kd.S_lt hS k e.symm; omega⟩)
  (case aF => exact fun k hk => .inr (by have := hb2.size; omega))
  (case aO => exact Kd.S_mono hS2 (fun k hk => ⟨.inl hk.1, fun e => by have h1 := hbs2 k e.symm; have h2 := hk.2; omega⟩))
  (case aS => exact hB2.size)
  (case aL => omega)
  intro v3 w3 hS3 hB3 hg3 hat3
  obtain ⟨A4, c4, e4⟩ := Kd.S_slice hS3
  rw [List.length_append, List.length_singleton] at e4
  subst e4
  have ho3 := blk_grown ho2 hg3 (Kd.S_ne hS2 ho2 (by decide))
  have hW3 := Kd.R_grown hW2 hg3 (fun k hk e => hWo k hk.symm ((Kd.S_R hS).1 k e.symm))
  have hK3 := Kept.of_grown hg3 hK2 (fun k hk => .inl (.inr (.inl ((Kd.S_R hS).1 k hk))))
  refine hK.out _ _ ((blk_cell ho3 0).trans rfl) (fun hHeld => ?_)
  clear hK K
  refine norm_ (a' := ?_) ?_ ?_
  rotate_left
  · show Act.put _ (some 19) _ = _
    simp only [Act.put, List.setIfInBounds_toArray, List.set_cons_zero, List.set_cons_succ, i64_w, i32_w]
    rfl
  refine last_ (i := 5) (N := none) #[true, true, true, true, true, true] rfl rfl (by kernel_rfl) (by decide) (fun K hK => ?_)
  have hs3 : w3.cell? ⟨bo, 0, none⟩ = some (.slice A2 xs.length c2) := (blk_cell ho3 0).trans rfl
  have hf3 := blk_frozen ho3 0
  refine skip_ (w1 := ?_) (by rfl) rfl ?_ ?_
  rotate_left
  · go_simp
    rfl
  refine hK.out _ _ ?_
  clear hK K
  refine done_ (by kernel_rfl) ?_
  go_wp2
  (try simp only [Exit.inBlock, Exit.then])
  refine bodyPost_ret (results_none rfl _ _ _) rfl ?_
  refine ⟨rfl, _, blk_put (cs := #[.slice A2 xs.length c2]) ho3 0 _ rfl, Kd.S_set hS3 ho3 (by decide) 0 _, Kd.R_mono (Kd.R_set hW3 ho3 (by decide) 0 _) (fun k hk => hW.1 k hk.symm), below_set hB3 hlo, hK3.setCell (.inl (.inl rfl)) _⟩
def impl_Graph_closedWalks.X (bx bo k : Nat) : Prop := k = bx ∨ k = bo
/-- What holds in a round: the row that is made, the walk, what is kept since the call's begin (w). -/
def impl_Graph_closedWalks.Fx (w0 w : World) (bo : Nat) (P : Nat → Prop) (A1 : Option Addr) (c1 : Nat) (ws : List Int) (Ay : Option Addr) (cy : Nat) (ys : List (List Int)) (w1 : World) : Prop :=
  w1.heap[bo]? = some (.cells #[.slice Ay ys.length cy] 22 (0, 0)) ∧ Kd.S (Kd.slice 2 (Kd.int .i64)) 26 w1 w0.heap.size (fun k => P k ∨ w.heap.size ≤ k) (.slice Ay ys.length cy) ys ∧
    Kd.R (Kd.int .i64) 2 w1 w0.heap.size (fun k => some k = (Value.slice A1 ws.length c1).ownBlock) (.slice A1 ws.length c1) ws ∧ Below w0.heap.size w0 w1 ∧ Kept w w1 (fun k => k = bo ∨ P k ∨ (Value.slice A1 ws.length c1).ownBlock = some k)
theorem impl_Graph_closedWalks.Fx.below {w0 w w1 w2 : World} {bo : Nat} {P : Nat → Prop} {A1 : Option Addr} {c1 : Nat} {ws : List Int} {Ay : Option Addr} {cy : Nat} {ys : List (List Int)} (h : impl_Graph_closedWalks.Fx w0 w bo P A1 c1 ws Ay cy ys w1) (hb : Below w1.heap.size w1 w2) :
    impl_Graph_closedWalks.Fx w0 w bo P A1 c1 ws Ay cy ys w2 := ⟨blk_below h.1 hb, Kd.S_below h.2.1 hb, Kd.R_below h.2.2.1 hb, below_step h.2.2.2.1 hb, h.2.2.2.2.below hb⟩
theorem impl_Graph_closedWalks.Fx.drew {w0 w w1 : World} {bo : Nat} {P : Nat → Prop} {A1 : Option Addr} {c1 : Nat} {ws : List Int} {Ay : Option Addr} {cy : Nat} {ys : List (List Int)} (h : impl_Graph_closedWalks.Fx w0 w bo P A1 c1 ws Ay cy ys w1) :
    impl_Graph_closedWalks.Fx w0 w bo P A1 c1 ws Ay cy ys w1.drew := ⟨h.1, Kd.S_drew h.2.1, Kd.R_drew h.2.2.1, below_drew1 h.2.2.2.1, h.2.2.2.2⟩
def impl_Graph_closedWalks.OK (n : Int) (l : List (List Int)) (wy : List (List (List Int))) (w0 : World) (K bk bo bg bw bx d : Nat) : Prop :=
  ∀ (ws : List Int) (xs r : List (List Int)) (walk vout : Value) (P okw : Nat → Prop) (w : World), ws.length + d = K → impl_Graph_closedWalks.go n l wy (K : Int) d ws xs = some r → Below w0.heap.size w0 w → w.heap[bx]? = some (.cells #[.func (.func 110) #[] #[.pointer (some ⟨bk, 0, none⟩), .pointer (some ⟨bo, 0, none⟩), .pointer (some ⟨bg, 0, none⟩), .pointer (some ⟨bw, 0, none⟩), .pointer (some ⟨bx, 0, none⟩)]] 87 (0, 0)) →
    w.heap[bo]? = some (.cells #[vout] 22 (0, 0)) → Kd.S (Kd.slice 2 (Kd.int .i64)) 26 w w0.heap.size P vout xs → Kd.R (Kd.int .i64) 2 w w0.heap.size okw walk ws →
    (∀ k, P k → ¬ impl_Graph_closedWalks.X bx bo k) → (∀ k, walk.ownBlock = some k → ¬ P k ∧ ¬ impl_Graph_closedWalks.X bx bo k) →
    Calls Try.prog 110 #[walk, .pointer (some ⟨bk, 0, none⟩), .pointer (some ⟨bo, 0, none⟩), .pointer (some ⟨bg, 0, none⟩), .pointer (some ⟨bw, 0, none⟩), .pointer (some ⟨bx, 0, none⟩)] w fun e w' =>
      e = .returned (.tuple #[]) ∧ ∃ vout', w'.heap[bo]? = some (.cells #[vout'] 22 (0, 0)) ∧ Kd.S (Kd.slice 2 (Kd.int .i64)) 26 w' w0.heap.size (fun k => P k ∨ w.heap.size ≤ k) vout' r ∧ Kd.R (Kd.int .i64) 2 w' w0.heap.size okw walk ws ∧ Below w0.heap.size w0 w' ∧
        Kept w w' (fun k => k = bo ∨ P k ∨ walk.ownBlock = some k)
theorem impl_Graph_closedWalks.ok0 (n : Int) (l : List (List Int)) (wy : List (List (List Int))) (w0 : World) (K bk bo bg bw bx : Nat) (hlo : w0.heap.size ≤ bo) (hbk : w0.heap[bk]? = some (.cells #[.int .i64 K] 2 (0, 0))) : impl_Graph_closedWalks.OK n l wy w0 K bk bo bg bw bx 0 :=
  fun ws xs r walk vout P okw w hd h hB hx ho hS hW hP hWo => impl_Graph_closedWalks.base n l wy w0 K bk bo bg bw bx hlo ws xs r walk vout P okw w hd h hB (blk_below hbk hB) ho hS hW (fun k hk => (hWo k hk).1)
def impl_Graph_closedWalks.T9 : Bool × List (List Nat × List Nat) := (true, [([], []), ([0], [0]), ([1], [1]), ([2], [2]), ([2], [2]), ([2], [2]), ([5, 2], [2, 5]), ([4, 6, 2], [2, 4, 6]), ([7, 2], [2, 7]), ([2], [2]), ([3, 8, 9, 2, 2], [2, 3, 8, 9]), ([2, 10], [2, 10]), ([11, 10], [11]), ([12], [12]), ([12], [12]), ([12], [12]), ([14, 15, 12], [12, 14, 15]), ([13, 16, 12], [12, 13, 16]), ([17, 12], [12, 17]), ([12], [12]), ([18, 19, 12], [12, 18, 19]), ([20, 12], [12, 20]), ([12], [12]), ([21, 22, 12], [12, 21, 22]), ([23, 12], [12, 23]), ([24, 12], [12, 24]), ([12, 25], [12, 25])])
def impl_Graph_closedWalks.B9 : List Nat := [0, 1, 3, 7, 7, 7, 39, 119, 247, 7, 1023, 2047, 4095, 8191, 8191, 8191, 57343, 131071, 262143, 8191, 1048575, 2097151, 8191, 8388607, 16777215, 33554431, 67108863]
theorem impl_Graph_closedWalks.tab9 : rtab .any (opsOf Try.f110 9) = impl_Graph_closedWalks.T9 := by kernel_rfl
theorem impl_Graph_closedWalks.bits9 : waitsOk impl_Graph_closedWalks.T9.2 impl_Graph_closedWalks.B9 = true := by kernel_rfl
/-- An element of an element of the rows of rows that came in. -/
theorem impl_Graph_closedWalks.reads {w : World} {Aw : Option Addr} {wy : List (List (List Int))} {i e f : Int} {t : Bool} (h : Kd.C (Kd.slice 26 (Kd.slice 2 (Kd.int .i64))) w Aw wy.length wy) (hc : impl_Graph_closedWalks.can wy i e f = some t) :
    ∃ (aw a2 a3 : Addr) (n2 c2 n3 c3 : Nat) (x : Int), Aw = some aw ∧ (0 ≤ i ∧ i < (wy.length : Int)) ∧ (0 ≤ e ∧ e < (n2 : Int)) ∧ (0 ≤ f ∧ f < (n3 : Int)) ∧ (x == 1) = t ∧
      w.cell? (aw.add i.toNat) = some (.slice (some a2) n2 c2) ∧ w.cell? (a2.add e.toNat) = some (.slice (some a3) n3 c3) ∧ w.cell? (a3.add f.toNat) = some (.int .i64 x) := by
  obtain ⟨⟨⟨i0, i1⟩, ⟨e0, e1⟩, f0, f1⟩, ht⟩ := itn_ hc
  obtain ⟨aw, cc, rfl, hcl, hK, hcell⟩ := Kd.C_get h [] i i0 i1
  obtain ⟨A2, c2, rfl, hl2, hC2⟩ := hK
  obtain ⟨a2, cc2, rfl, hcl2, hK2, hcell2⟩ := Kd.C_get hC2 [] e e0 e1
  obtain ⟨A3, c3, rfl, hl3, hC3⟩ := hK2
  obtain ⟨a3, rfl, hx⟩ := Kd.at_int hC3 f f0 f1
  refine ⟨aw, a2, a3, _, c2, _, c3, _, rfl, ⟨i0, i1⟩, ⟨e0, e1⟩, ⟨f0, f1⟩, Option.some.inj ht, ?_, ?_, hx⟩
  · have := hcell 0 _ rfl
    simpa [Kd.slice] using this
  · have := hcell2 0 _ rfl
    rw [show (Kd.slice 2 (Kd.int .i64)).sz = 1 from rfl, Nat.mul_one, Nat.add_zero] at this
    exact this
set_option maxHeartbeats 8000000 in
set_option maxRecDepth 100000 in
theorem impl_Graph_closedWalks.step (n : Int) (A : Option Addr) (c : Nat) (l : List (List Int)) (Aw : Option Addr) (cw : Nat) (wy : List (List (List Int))) (w0 : World) (hr : Kd.C (Kd.slice 2 (Kd.int .i64)) w0 A l.length l) (hc : l.length ≤ c) (hrw : Kd.C (Kd.slice 26 (Kd.slice 2 (Kd.int .i64))) w0 Aw wy.length wy) (K bk bo bg bw bx : Nat) (hlo : w0.heap.size ≤ bo)
    (hbk : w0.heap[bk]? = some (.cells #[.int .i64 K] 2 (0, 0))) (hbg : w0.heap[bg]? = some (.cells #[.int .i64 n, .slice A l.length c] 29 (0, 0))) (hbw : w0.heap[bw]? = some (.cells #[.slice Aw wy.length cw] 88 (0, 0))) (d : Nat) (IH : impl_Graph_closedWalks.OK n l wy w0 K bk bo bg bw bx d) : impl_Graph_closedWalks.OK n l wy w0 K bk bo bg bw bx (d + 1) := by
  intro ws xs r walk vout P okw w hd h hB hx ho hS hW hP hWo
  have hXl : ∀ k, impl_Graph_closedWalks.X bx bo k → k < w.heap.size := by
    rintro k (rfl | rfl)
    · exact blk_lt hx
    · exact blk_lt ho
  obtain ⟨A1, c1, rfl⟩ := Kd.R_slice hW
  obtain ⟨A2, c2, rfl⟩ := Kd.S_slice hS
  have h : ((impl_Graph_size.f n l).bind fun s => impl_Graph_closedWalks.lp n l wy (K : Int) (impl_Graph_closedWalks.go n l wy (K : Int) d) ws (wrap64 (2 * s)) ((wrap64 (2 * s)).toNat + 1) 0 xs) = some r := h
  obtain ⟨s, As, H⟩ := bnd_ h
  clear h
  have hSx : ¬ (bx = bo ∨ P bx ∨ (Value.slice A1 ws.length c1).ownBlock = some bx) := by
    rintro (h | h | h)
    · exact blk_ne hx ho (by decide) h
    · exact hP bx h (.inl rfl)
    · exact (hWo bx h).2 (.inl rfl)
  have c4b0 : ((ws.length : Int) == (K : Int)) = false := beq_eq_false_iff_ne.mpr (by omega)
  have hck : w.cell? ⟨bk, 0, none⟩ = some (.int .i64 K) := (blk_cell (blk_below hbk hB) 0).trans rfl
  have hcg0 : w.cell? ⟨bg, 0, none⟩ = some (.int .i64 n) := (blk_cell (blk_below hbg hB) 0).trans rfl
  have hcg1 : w.cell? ⟨bg, 1, none⟩ = some (.slice A l.length c) := (blk_cell (blk_below hbg hB) 1).trans rfl
  have hF0 : impl_Graph_closedWalks.Fx w0 w bo P A1 c1 ws A2 c2 xs w := ⟨ho, Kd.S_mono hS (fun _ hk => .inl hk), Kd.R_tight rfl hW, hB, Kept.refl _ _⟩
  go_enter Try.func110, Try.ntmps110
  go_wp2_with (first | ((with_reducible refine gate_callee (f := 104) rfl ?_); refine goesL_ (some 21) rfl rfl Try.func104 (by kernel_rfl) rfl #[.agg #[.int .i64 n, .slice A l.length c]] rfl (by (try simp only [List.map_toArray, List.map_cons, List.map_nil]); first | done | rfl) ?_; (with_reducible refine (impl_Graph_size.calls n _ _ l s _ ?side1 ?side2 As.out).mono ?_); (case side1 => exact Kd.C_below hr hB); (case side2 => exact hc); rintro e w1 ⟨rfl, hb1⟩; refine ⟨_, rfl, ?_⟩; have hF1 := hF0.below hb1; clear hb1))
  clear hck hcg0 hcg1 c4b0
  go_loopg [23] ((wrap64 (2 * s)).toNat + 1) (fun kq v23 w' => ∃ (e : Int) (ys : List (List Int)) (Ay : Option Addr) (cy : Nat), v23 = .int .i64 e ∧ Aside0 (impl_Graph_closedWalks.lp n l wy (K : Int) (impl_Graph_closedWalks.go n l wy (K : Int) d) ws (wrap64 (2 * s)) kq e ys = some r) ∧ Aside0 (impl_Graph_closedWalks.Fx w0 w bo P A1 c1 ws Ay cy ys w'))
  case atStart => exact ⟨0, xs, A2, c2, (by first | rfl | (simp; done)), ⟨H⟩, ⟨hF1⟩⟩
  case round =>
    obtain ⟨e, ys, Ay, cy, rfl, HA, HF⟩ := hrel
    cases gk with
    | zero => exact absurd HA.out (by simp [impl_Graph_closedWalks.lp])
    | succ q =>
      have H2 := HA.out
      clear HA
      simp only [impl_Graph_closedWalks.lp] at H2
      by_cases c5 : e < wrap64 (2 * s)
      · rw [if_pos c5] at H2
        have c5b0 : decide (e < wrap64 (2 * s)) = true := decide_eq_true c5
        clear c5
        obtain ⟨i, hi⟩ : ∃ j_ : Int, wrap64 ((K : Int) - (ws.length : Int)) = j_ := ⟨_, rfl⟩
        have hiw : IntKind.i64.wrap ((K : Int) - (ws.length : Int)) = i := (i64_w _).trans hi
        rw [hi] at H2
        clear hi
        obtain ⟨f, hf⟩ : ∃ f_ : Int, impl_Graph_closedWalks.first ws e = f_ := ⟨_, rfl⟩
        rw [hf] at H2
        by_cases c6 : (ws.length : Int) = 0
        · rw [if_pos c6] at H2
          have hfe : e = f := by
            rw [← hf]
            unfold impl_Graph_closedWalks.first
            exact (if_neg (by omega)).symm
          subst hfe
          clear hf
          have c6b0 : ((ws.length : Int) == 0) = true := beq_iff_eq.mpr c6
          have c7b0 : decide (0 < (ws.length : Int)) = false := decide_eq_false (by omega)
          have c7b1 : decide (0 < ws.length) = false := decide_eq_false (by omega)
          clear c6
          rw [Option.bind_some, if_pos rfl] at H2
          obtain ⟨t, At, H3⟩ := bnd_ H2
          clear H2
          obtain ⟨aw, a2, a3, n2, c2, n3, c3, x, rfl, ⟨i0, i1⟩, ⟨e0, e1⟩, ⟨f0, f1⟩, hx1, hy1, hy2, hy3⟩ := impl_Graph_closedWalks.reads hrw At.out
          replace i0 := eq_true i0
          replace i1 := eq_true i1
          replace e0 := eq_true e0
          replace e1 := eq_true e1
          replace f0 := eq_true f0
          replace f1 := eq_true f1
          go_wp2
          have hF2 := HF.out.drew
          have hH0 : wr.drew.cell? ⟨bw, 0, none⟩ = some (.slice (some aw) wy.length cw) ∧ wr.drew.cell? ⟨bk, 0, none⟩ = some (.int .i64 K) ∧ wr.drew.cell? (aw.add i.toNat) = some (.slice (some a2) n2 c2) ∧ wr.drew.cell? (a2.add e.toNat) = some (.slice (some a3) n3 c3) ∧ wr.drew.cell? (a3.add e.toNat) = some (.int .i64 x) := ⟨(blk_cell (blk_below hbw hF2.2.2.2.1) 0).trans rfl, (blk_cell (blk_below hbk hF2.2.2.2.1) 0).trans rfl, (hF2.2.2.2.1.cell (World.block_lt_of_cell? _ _ hy1)).trans hy1, (hF2.2.2.2.1.cell (World.block_lt_of_cell? _ _ hy2)).trans hy2, (hF2.2.2.2.1.cell (World.block_lt_of_cell? _ _ hy3)).trans hy3⟩
          refine start_ (n := 27) (S := fun w' => w'.cell? ⟨bw, 0, none⟩ = some (.slice (some aw) wy.length cw) ∧ w'.cell? ⟨bk, 0, none⟩ = some (.int .i64 K) ∧ w'.cell? (aw.add i.toNat) = some (.slice (some a2) n2 c2) ∧ w'.cell? (a2.add e.toNat) = some (.slice (some a3) n3 c3) ∧ w'.cell? (a3.add e.toNat) = some (.int .i64 x)) (ds := []) #[false, false, false, false, false, false, false, false, false, false, false, false, false, false, false, false, false, false, false, false, false, false, false, false, false, false, false] (by kernel_rfl) rfl rfl hH0 (fun hHeld => ?_); refine with_tabW impl_Graph_closedWalks.tab9 impl_Graph_closedWalks.bits9 (fun HT_ HW_ => ?_)
          clear hH0
          generalize wr.drew = w3 at hF2 hHeld ⊢
          have hF3 := hF2
          clear hF2
          cases t with
          | true =>
            rw [if_pos rfl] at H3
            have H := H3
            clear H3
            refine pure_ (i := 0) (N := some 32) (v := ?_) (a' := ?_) #[true, false, false, false, false, false, false, false, false, false, false, false, false, false, false, false, false, false, false, false, false, false, false, false, false, false, false] rfl rfl (any_of HT_.out (by kernel_rfl)) (fun _ _ _ h => h) (Or.inl ⟨by rfl, ?_⟩) ?_ ?_
            rotate_left
            · intro w'
              go_simp
              with_reducible rfl
            rotate_left
            · simp only [Act.put, List.setIfInBounds_toArray, List.set_cons_zero, List.set_cons_succ, i64_w, i32_w]
              rfl
            refine pure_ (i := 1) (N := some 33) (v := ?_) (a' := ?_) #[true, true, false, false, false, false, false, false, false, false, false, false, false, false, false, false, false, false, false, false, false, false, false, false, false, false, false] rfl rfl (any_of HT_.out (by kernel_rfl)) (fun _ _ _ h => h) (Or.inl ⟨by rfl, ?_⟩) ?_ ?_
            rotate_left
            · intro w'
              go_simp
              with_reducible rfl
            rotate_left
            · simp only [Act.put, List.setIfInBounds_toArray, List.set_cons_zero, List.set_cons_succ, i64_w, i32_w]
              rfl
            refine pure_ (i := 2) (N := some 34) (v := ?_) (a' := ?_) #[true, true, true, false, false, false, false, false, false, false, false, false, false, false, false, false, false, false, false, false, false, false, false, false, false, false, false] rfl rfl (any_of HT_.out (by kernel_rfl)) (fun _ _ _ h => h) (Or.inl ⟨by rfl, ?_⟩) ?_ ?_
            rotate_left
            · intro w'
              go_simp
              with_reducible rfl
            rotate_left
            · simp only [Act.put, List.setIfInBounds_toArray, List.set_cons_zero, List.set_cons_succ, i64_w, i32_w]
              rfl
            refine pure_ (i := 3) (N := some 35) (v := undef) (a' := ?_) #[true, true, true, true, false, false, false, false, false, false, false, false, false, false, false, false, false, false, false, false, false, false, false, false, false, false, false] rfl rfl (any_of HT_.out (by kernel_rfl)) (fun _ _ _ h => h) (Or.inr ⟨by rfl, rfl⟩) ?_ ?_
            rotate_left
            · simp only [Act.put, List.setIfInBounds_toArray, List.set_cons_zero, List.set_cons_succ, i64_w, i32_w]
              rfl
            refine pure_ (i := 4) (N := some 36) (v := undef) (a' := ?_) #[true, true, true, true, true, false, false, false, false, false, false, false, false, false, false, false, false, false, false, false, false, false, false, false, false, false, false] rfl rfl (any_of HT_.out (by kernel_rfl)) (fun _ _ _ h => h) (Or.inr ⟨by rfl, rfl⟩) ?_ ?_
            rotate_left
            · simp only [Act.put, List.setIfInBounds_toArray, List.set_cons_zero, List.set_cons_succ, i64_w, i32_w]
              rfl
            refine pure_ (i := 5) (N := some 37) (v := undef) (a' := ?_) #[true, true, true, true, true, true, false, false, false, false, false, false, false, false, false, false, false, false, false, false, false, false, false, false, false, false, false] rfl rfl (any_of HT_.out (by kernel_rfl)) (fun _ _ _ h => h) (Or.inr ⟨by rfl, rfl⟩) ?_ ?_
            rotate_left
            · simp only [Act.put, List.setIfInBounds_toArray, List.set_cons_zero, List.set_cons_succ, i64_w, i32_w]
              rfl
            refine pure_ (i := 6) (N := some 38) (v := undef) (a' := ?_) #[true, true, true, true, true, true, true, false, false, false, false, false, false, false, false, false, false, false, false, false, false, false, false, false, false, false, false] rfl rfl (any_of HT_.out (by kernel_rfl)) (fun _ _ _ h => h) (Or.inr ⟨by rfl, rfl⟩) ?_ ?_
            rotate_left
            · simp only [Act.put, List.setIfInBounds_toArray, List.set_cons_zero, List.set_cons_succ, i64_w, i32_w]
              rfl
            refine pure_ (i := 7) (N := some 39) (v := undef) (a' := ?_) #[true, true, true, true, true, true, true, true, false, false, false, false, false, false, false, false, false, false, false, false, false, false, false, false, false, false, false] rfl rfl (any_of HT_.out (by kernel_rfl)) (fun _ _ _ h => h) (Or.inr ⟨by rfl, rfl⟩) ?_ ?_
            rotate_left
            · simp only [Act.put, List.setIfInBounds_toArray, List.set_cons_zero, List.set_cons_succ, i64_w, i32_w]
              rfl
            refine pure_ (i := 8) (N := some 40) (v := undef) (a' := ?_) #[true, true, true, true, true, true, true, true, true, false, false, false, false, false, false, false, false, false, false, false, false, false, false, false, false, false, false] rfl rfl (any_of HT_.out (by kernel_rfl)) (fun _ _ _ h => h) (Or.inr ⟨by rfl, rfl⟩) ?_ ?_
            rotate_left
            · simp only [Act.put, List.setIfInBounds_toArray, List.set_cons_zero, List.set_cons_succ, i64_w, i32_w]
              rfl
            refine pure_ (i := 9) (N := some 41) (v := undef) (a' := ?_) #[true, true, true, true, true, true, true, true, true, true, false, false, false, false, false, false, false, false, false, false, false, false, false, false, false, false, false] rfl rfl (any_of HT_.out (by kernel_rfl)) (fun _ _ _ h => h) (Or.inr ⟨by rfl, rfl⟩) ?_ ?_
            rotate_left
            · simp only [Act.put, List.setIfInBounds_toArray, List.set_cons_zero, List.set_cons_succ, i64_w, i32_w]
              rfl
            refine pure_ (i := 10) (N := some 42) (v := undef) (a' := ?_) #[true, true, true, true, true, true, true, true, true, true, true, false, false, false, false, false, false, false, false, false, false, false, false, false, false, false, false] rfl rfl (any_of HT_.out (by kernel_rfl)) (fun _ _ _ h => h) (Or.inr ⟨by rfl, rfl⟩) ?_ ?_
            rotate_left
            · simp only [Act.put, List.setIfInBounds_toArray, List.set_cons_zero, List.set_cons_succ, i64_w, i32_w]
              rfl
            refine pure_ (i := 11) (N := some 43) (v := ?_) (a' := ?_) #[true, true, true, true, true, true, true, true, true, true, true, true, false, false, false, false, false, false, false, false, false, false, false, false, false, false, false] rfl rfl (any_of HT_.out (by kernel_rfl)) (fun _ _ _ h => h) (Or.inl ⟨by rfl, ?_⟩) ?_ ?_
            rotate_left
            · intro w'
              go_simp
              with_reducible rfl
            rotate_left
            · simp only [Act.put, List.setIfInBounds_toArray, List.set_cons_zero, List.set_cons_succ, i64_w, i32_w]
              rfl
            refine pure_ (i := 12) (N := some 44) (v := ?_) (a' := ?_) #[true, true, true, true, true, true, true, true, true, true, true, true, true, false, false, false, false, false, false, false, false, false, false, false, false, false, false] rfl rfl (any_of HT_.out (by kernel_rfl)) (fun _ _ _ h => h) (Or.inl ⟨by rfl, ?_⟩) ?_ ?_
            rotate_left
            · intro w'
              go_simp
              with_reducible rfl
            rotate_left
            · simp only [Act.put, List.setIfInBounds_toArray, List.set_cons_zero, List.set_cons_succ, i64_w, i32_w]
              rfl
            refine pure_ (i := 15) (N := some 47) (v := ?_) (a' := ?_) #[true, true, true, true, true, true, true, true, true, true, true, true, true, false, false, true, false, false, false, false, false, false, false, false, false, false, false] rfl rfl (any_of HT_.out (by kernel_rfl)) (fun _ _ _ h => h) (Or.inl ⟨by rfl, ?_⟩) ?_ ?_
            rotate_left
            · intro w'
              go_simp
              with_reducible rfl
            rotate_left
            · simp only [Act.put, List.setIfInBounds_toArray, List.set_cons_zero, List.set_cons_succ, i64_w, i32_w]
              rfl
            refine pure_ (i := 19) (N := some 51) (v := ?_) (a' := ?_) #[true, true, true, true, true, true, true, true, true, true, true, true, true, false, false, true, false, false, false, true, false, false, false, false, false, false, false] rfl rfl (any_of HT_.out (by kernel_rfl)) (fun _ _ _ h => h) (Or.inl ⟨by rfl, ?_⟩) ?_ ?_
            rotate_left
            · intro w'
              go_simp
              with_reducible rfl
            rotate_left
            · simp only [Act.put, List.setIfInBounds_toArray, List.set_cons_zero, List.set_cons_succ, i64_w, i32_w]
              rfl
            refine pure_ (i := 22) (N := some 54) (v := ?_) (a' := ?_) #[true, true, true, true, true, true, true, true, true, true, true, true, true, false, false, true, false, false, false, true, false, false, true, false, false, false, false] rfl rfl (any_of HT_.out (by kernel_rfl)) (fun _ _ _ h => h) (Or.inl ⟨by rfl, ?_⟩) ?_ ?_
            rotate_left
            · intro w'
              go_simp
              with_reducible rfl
            rotate_left
            · simp only [Act.put, List.setIfInBounds_toArray, List.set_cons_zero, List.set_cons_succ, i64_w, i32_w]
              rfl
            refine take_ (i := 13) (N := some 45) (v := ?_) (a' := ?_) #[true, true, true, true, true, true, true, true, true, true, true, true, true, true, false, true, false, false, false, true, false, false, true, false, false, false, false] rfl rfl (take_ofW HT_.out HW_.out (by kernel_rfl)) (fun _ _ _ h => h) (Or.inl ⟨by rfl, ?_⟩) hHeld ?_ ?_
            rotate_left
            · rintro w' ⟨s0, s1, s2, s3, s4⟩
              go_simp
              with_reducible rfl
            rotate_left
            · simp only [Act.put, List.setIfInBounds_toArray, List.set_cons_zero, List.set_cons_succ, i64_w, i32_w]
              rfl
            refine take_ (i := 14) (N := some 46) (v := ?_) (a' := ?_) #[true, true, true, true, true, true, true, true, true, true, true, true, true, true, true, true, false, false, false, true, false, false, true, false, false, false, false] rfl rfl (take_ofW HT_.out HW_.out (by kernel_rfl)) (fun _ _ _ h => h) (Or.inl ⟨by rfl, ?_⟩) hHeld ?_ ?_
            rotate_left
            · rintro w' ⟨s0, s1, s2, s3, s4⟩
              go_simp
              with_reducible rfl
            rotate_left
            · simp only [Act.put, List.setIfInBounds_toArray, List.set_cons_zero, List.set_cons_succ, i64_w, i32_w]
              rfl
            refine pure_ (i := 16) (N := some 48) (v := ?_) (a' := ?_) #[true, true, true, true, true, true, true, true, true, true, true, true, true, true, true, true, true, false, false, true, false, false, true, false, false, false, false] rfl rfl (any_of HT_.out (by kernel_rfl)) (fun _ _ _ h => h) (Or.inl ⟨by rfl, ?_⟩) ?_ ?_
            rotate_left
            · intro w'
              go_simp
              with_reducible rfl
            rotate_left
            · simp only [Act.put, List.setIfInBounds_toArray, List.set_cons_zero, List.set_cons_succ, i64_w, i32_w]
              rfl
            refine pure_ (i := 17) (N := some 49) (v := ?_) (a' := ?_) #[true, true, true, true, true, true, true, true, true, true, true, true, true, true, true, true, true, true, false, true, false, false, true, false, false, false, false] rfl rfl (any_of HT_.out (by kernel_rfl)) (fun _ _ _ h => h) (Or.inl ⟨by rfl, ?_⟩) ?_ ?_
            rotate_left
            · intro w'
              go_simp
              with_reducible rfl
            rotate_left
            · simp only [Act.put, List.setIfInBounds_toArray, List.set_cons_zero, List.set_cons_succ, i64_w, i32_w]
              rfl
            refine take_ (i := 18) (N := some 50) (v := ?_) (a' := ?_) #[true, true, true, true, true, true, true, true, true, true, true, true, true, true, true, true, true, true, true, true, false, false, true, false, false, false, false] rfl rfl (take_ofW HT_.out HW_.out (by kernel_rfl)) (fun _ _ _ h => h) (Or.inl ⟨by rfl, ?_⟩) hHeld ?_ ?_
            rotate_left
            · rintro w' ⟨s0, s1, s2, s3, s4⟩
              go_simp
              with_reducible rfl
            rotate_left
            · simp only [Act.put, List.setIfInBounds_toArray, List.set_cons_zero, List.set_cons_succ, i64_w, i32_w]
              rfl
            refine pure_ (i := 20) (N := some 52) (v := ?_) (a' := ?_) #[true, true, true, true, true, true, true, true, true, true, true, true, true, true, true, true, true, true, true, true, true, false, true, false, false, false, false] rfl rfl (any_of HT_.out (by kernel_rfl)) (fun _ _ _ h => h) (Or.inl ⟨by rfl, ?_⟩) ?_ ?_
            rotate_left
            · intro w'
              go_simp
              with_reducible rfl
            rotate_left
            · simp only [Act.put, List.setIfInBounds_toArray, List.set_cons_zero, List.set_cons_succ, i64_w, i32_w]
              rfl
            refine take_ (i := 21) (N := some 53) (v := ?_) (a' := ?_) #[true, true, true, true, true, true, true, true, true, true, true, true, true, true, true, true, true, true, true, true, true, true, true, false, false, false, false] rfl rfl (take_ofW HT_.out HW_.out (by kernel_rfl)) (fun _ _ _ h => h) (Or.inl ⟨by rfl, ?_⟩) hHeld ?_ ?_
            rotate_left
            · rintro w' ⟨s0, s1, s2, s3, s4⟩
              go_simp
              with_reducible rfl
            rotate_left
            · simp only [Act.put, List.setIfInBounds_toArray, List.set_cons_zero, List.set_cons_succ, i64_w, i32_w]
              rfl
            refine pure_ (i := 23) (N := some 55) (v := ?_) (a' := ?_) #[true, true, true, true, true, true, true, true, true, true, true, true, true, true, true, true, true, true, true, true, true, true, true, true, false, false, false] rfl rfl (any_of HT_.out (by kernel_rfl)) (fun _ _ _ h => h) (Or.inl ⟨by rfl, ?_⟩) ?_ ?_
            rotate_left
            · intro w'
              go_simp
              with_reducible rfl
            rotate_left
            · simp only [Act.put, List.setIfInBounds_toArray, List.set_cons_zero, List.set_cons_succ, i64_w, i32_w]
              rfl
            refine take_ (i := 24) (N := some 56) (v := ?_) (a' := ?_) #[true, true, true, true, true, true, true, true, true, true, true, true, true, true, true, true, true, true, true, true, true, true, true, true, true, false, false] rfl rfl (take_ofW HT_.out HW_.out (by kernel_rfl)) (fun _ _ _ h => h) (Or.inl ⟨by rfl, ?_⟩) hHeld ?_ ?_
            rotate_left
            · rintro w' ⟨s0, s1, s2, s3, s4⟩
              go_simp
              with_reducible rfl
            rotate_left
            · simp only [Act.put, List.setIfInBounds_toArray, List.set_cons_zero, List.set_cons_succ, i64_w, i32_w]
              rfl
            refine pure_ (i := 25) (N := some 57) (v := ?_) (a' := ?_) #[true, true, true, true, true, true, true, true, true, true, true, true, true, true, true, true, true, true, true, true, true, true, true, true, true, true, false] rfl rfl (any_of HT_.out (by kernel_rfl)) (fun _ _ _ h => h) (Or.inl ⟨by rfl, ?_⟩) ?_ ?_
            rotate_left
            · intro w'
              go_simp
              with_reducible rfl
            rotate_left
            · simp only [Act.put, List.setIfInBounds_toArray, List.set_cons_zero, List.set_cons_succ, i64_w, i32_w]
              rfl
            refine pure_ (i := 26) (N := some 58) (v := ?_) (a' := ?_) #[true, true, true, true, true, true, true, true, true, true, true, true, true, true, true, true, true, true, true, true, true, true, true, true, true, true, true] rfl rfl (any_of HT_.out (by kernel_rfl)) (fun _ _ _ h => h) (Or.inl ⟨by rfl, ?_⟩) ?_ ?_
            rotate_left
            · intro w'
              go_simp
              with_reducible rfl
            rotate_left
            · simp only [Act.put, List.setIfInBounds_toArray, List.set_cons_zero, List.set_cons_succ, i64_w, i32_w]
              rfl
            refine done_ (done_of HT_.out (by kernel_rfl)) ?_
            go_wp2
            obtain ⟨hlen, H⟩ := itn_ H
            obtain ⟨zs, Az, H⟩ := bnd_ H
            have hF4 := hF3.drew
            have hE4 := blk_kept hx hF4.2.2.2.2 hSx
            have hH0 : w3.drew.cell? ⟨bx, 0, none⟩ = some (.func (.func 110) #[] #[.pointer (some ⟨bk, 0, none⟩), .pointer (some ⟨bo, 0, none⟩), .pointer (some ⟨bg, 0, none⟩), .pointer (some ⟨bw, 0, none⟩), .pointer (some ⟨bx, 0, none⟩)]) := (blk_cell hE4 0).trans rfl
            refine start_ (n := 6) (S := fun w' => w'.cell? ⟨bx, 0, none⟩ = some (.func (.func 110) #[] #[.pointer (some ⟨bk, 0, none⟩), .pointer (some ⟨bo, 0, none⟩), .pointer (some ⟨bg, 0, none⟩), .pointer (some ⟨bw, 0, none⟩), .pointer (some ⟨bx, 0, none⟩)])) (ds := [5]) #[false, false, false, false, false, false] (by kernel_rfl) rfl rfl hH0 (fun hHeld => ?_)
            clear hH0
            generalize w3.drew = w5 at hF4 hE4 hHeld ⊢
            refine pure_ (i := 1) (N := some 60) (v := ?_) (a' := ?_) #[false, true, false, false, false, false] rfl rfl (by kernel_rfl) (fun _ _ _ h => h) (Or.inl ⟨by rfl, ?_⟩) ?_ ?_
            rotate_left
            · intro w'
              go_simp
              with_reducible rfl
            rotate_left
            · simp only [Act.put, List.setIfInBounds_toArray, List.set_cons_zero, List.set_cons_succ, i64_w, i32_w]
              rfl
            refine pure_ (i := 2) (N := some 61) (v := ?_) (a' := ?_) #[false, true, true, false, false, false] rfl rfl (by kernel_rfl) (fun _ _ _ h => h) (Or.inl ⟨by rfl, ?_⟩) ?_ ?_
            rotate_left
            · intro w'
              go_simp
              with_reducible rfl
            rotate_left
            · simp only [Act.put, List.setIfInBounds_toArray, List.set_cons_zero, List.set_cons_succ, i64_w, i32_w]
              rfl
            refine take_ (i := 0) (N := some 59) (v := ?_) (a' := ?_) #[true, true, true, false, false, false] rfl rfl (by kernel_rfl) (fun _ _ _ h => h) (Or.inl ⟨by rfl, ?_⟩) hHeld ?_ ?_
            rotate_left
            · intro w' s0
              go_simp
              with_reducible rfl
            rotate_left
            · simp only [Act.put, List.setIfInBounds_toArray, List.set_cons_zero, List.set_cons_succ, i64_w, i32_w]
              rfl
            refine one_ (i := 3) (N := some 62) #[true, true, true, true, false, false] rfl rfl (by kernel_rfl) (by decide) (fun K hK => ?_)
            refine event_step (v := .slice (some ⟨w5.heap.size, 0, none⟩) 1 1) (w1 := w5.alloc (.cells #[.int .i64 e] 2 (0, 0))) (by rfl) ?hr ?_
            (case hr => first | (go_simp; done) | (go_simp; rfl))
            refine hK.out _ _ ((blk_cell (blk_alloc hE4 _) 0).trans rfl) (fun hHeld => ?_)
            clear hK K
            refine norm_ (a' := ?_) ?_ ?_
            rotate_left
            · show Act.put _ (some 62) _ = _
              simp only [Act.put, List.setIfInBounds_toArray, List.set_cons_zero, List.set_cons_succ, i64_w, i32_w]
              rfl
            refine one_ (i := 4) (N := some 63) #[true, true, true, true, true, false] rfl rfl (by kernel_rfl) (by decide) (fun K hK => ?_)
            refine impl_Graph_closedWalks.one_step (w0 := w0) w0.heap.size (by rfl) (.tmp 60) (.tmp 62) 26 2 (.int .i64 0) 8 rfl Try.underlying26 info2 rfl (by omega) (.slice A1 ws.length c1) ws e _ rfl rfl hF4.2.2.1 hF4.2.2.2.1 hF4.2.2.2.1.size (by omega) ?_
            intro v6 w6 hv6 hB6 hg6 hat6
            obtain ⟨ho5, hS5, hW5, hB5, hK5⟩ := hF4
            have hK6 := Kept.of_grown hg6 hK5 (fun k hk => .inl (.inr (.inr hk)))
            have hE6 := blk_kept hx hK6 hSx
            have hs5 := hK5.1
            have hs6 := hg6.size
            have ho6 := blk_grown ho5 hg6 (fun h => (hWo bo h.symm).2 (.inr rfl))
            have hWlt := Kd.R_lt hW
            have hS6 : Kd.S (Kd.slice 2 (Kd.int .i64)) 26 w6 w0.heap.size (fun k => (P k ∨ w.heap.size ≤ k) ∧ k < w5.heap.size) (.slice Ay ys.length cy) ys :=
              Kd.S_grown (Kd.S_mono (Kd.S_bound hS5) (fun k hk => ⟨hk.1, hk.2.2.1⟩)) hg6 (fun k hk h => hk.1.elim (hWo k h.symm).1 (fun h2 => by have := hWlt k h.symm; omega))
            refine hK.out _ _ ((blk_cell hE6 0).trans rfl) (fun hHeld => ?_)
            clear hK K
            refine norm_ (a' := ?_) ?_ ?_
            rotate_left
            · show Act.put _ (some 63) _ = _
              simp only [Act.put, List.setIfInBounds_toArray, List.set_cons_zero, List.set_cons_succ, i64_w, i32_w]
              rfl
            refine last_ (i := 5) (N := some 64) #[true, true, true, true, true, true] rfl rfl (by kernel_rfl) (by decide) (fun K hK => ?_)
            refine goesFR_ Try.func110 (by kernel_rfl) rfl (lb := #[.pointer (some ⟨bk, 0, none⟩), .pointer (some ⟨bo, 0, none⟩), .pointer (some ⟨bg, 0, none⟩), .pointer (some ⟨bw, 0, none⟩), .pointer (some ⟨bx, 0, none⟩)]) #[v6, .pointer (some ⟨bk, 0, none⟩), .pointer (some ⟨bo, 0, none⟩), .pointer (some ⟨bg, 0, none⟩), .pointer (some ⟨bw, 0, none⟩), .pointer (some ⟨bx, 0, none⟩)] (by rfl) rfl rfl (by first | rfl | (simp; done)) (by (try simp only [List.map_toArray, List.map_cons, List.map_nil, List.append_toArray, List.cons_append, List.nil_append]); first | done | rfl) ?_
            have hown6 : ∀ k, v6.ownBlock = some k → (Value.slice A1 ws.length c1).ownBlock = some k ∨ w5.heap.size ≤ k := fun k hk => by
              rcases hat6 with ⟨A, c, e1, e2⟩ | ⟨_, b, hb, hle⟩
              · injection e1 with e1 _ _
                subst e1 e2
                have h9 : ∀ (B : Option Addr) (m m2 x x2 : Nat), (Value.slice B m x).ownBlock = (Value.slice B m2 x2).ownBlock := fun B _ _ _ _ => by cases B <;> rfl
                exact .inl ((h9 _ _ _ _ _).trans hk)
              · rw [hb] at hk
                injection hk with hk
                exact .inr (by omega)
            refine (IH (ws ++ [e]) ys zs v6 _ _ _ w6 (by rw [List.length_append, List.length_singleton]; omega) Az.out hB6 hE6 ho6 hS6 hv6 (fun k hk hX => hk.1.elim (fun h => hP k h hX) (fun h => by have := hXl k hX; omega)) (fun k hk => ?own)).mono ?_
            case own =>
              rcases hown6 k hk with h | h
              · exact ⟨fun h2 => h2.1.elim (hWo k h).1 (fun h3 => by have := hWlt k h; omega), (hWo k h).2⟩
              · exact ⟨fun h2 => by have := h2.2; omega, fun hX => by have := hXl k hX; omega⟩
            rintro e' w7 ⟨rfl, v7, ho7, hS7, hv7, hB7, hK7⟩
            refine ⟨_, rfl, ?_⟩
            obtain ⟨Az7, cz7, rfl⟩ := Kd.S_slice hS7
            have hF7 : impl_Graph_closedWalks.Fx w0 w bo P A1 c1 ws Az7 cz7 zs w7 := by
              refine ⟨ho7, Kd.S_mono hS7 (fun k hk => hk.elim (fun h => h.1) (fun h => .inr (by omega))), ?_, hB7, hK6.then_ hK7 (fun k hk => ?_)⟩
              · rcases hat6 with ⟨A, c, e1, e2⟩ | ⟨hv, b, hb, hle⟩
                · injection e1 with e1 _ e3
                  subst e1 e2 e3
                  have h2 := Kd.R_tight rfl (Kd.R_take hv7 (m := ws.length) (by rw [List.length_append]; omega))
                  rw [List.take_left] at h2
                  exact h2
                · refine Kd.R_kept hv hK7 (fun k hk h => ?_)
                  rcases h with h | h | h
                  · subst h
                    exact (hWo _ hk.symm).2 (.inr rfl)
                  · exact h.1.elim (hWo k hk.symm).1 (fun h3 => by have := hWlt k hk.symm; omega)
                  · rw [hb] at h
                    injection h with h
                    have := hWlt k hk.symm
                    omega
              · rcases hk with h | h | h
                · exact .inl (.inl h)
                · exact h.1.elim (fun h => .inl (.inr (.inl h))) .inr
                · exact (hown6 k h).elim (fun h => .inl (.inr (.inr h))) (fun h => .inr (by omega))
            refine hK.out _ _ ?_
            clear hK K
            refine norm_ (a' := ?_) ?_ ?_
            rotate_left
            · show Act.put _ (some 64) _ = _
              simp only [Act.put, List.setIfInBounds_toArray, List.set_cons_zero, List.set_cons_succ, i64_w, i32_w]
              rfl
            refine done_ (by kernel_rfl) ?_
            go_wp2
            first | go_roundg q | (refine Handed.intro q ?measure ?_; rotate_left; go_step; (try simp only [add_plain]); (repeat apply Exists.intro); refine ⟨?rel, rfl⟩)
            case measure => omega
            case rel => exact ⟨wrap64 (e + 1), zs, Az7, cz7, (by first | rfl | (simp; done)), ⟨H⟩, ⟨hF7⟩⟩
          | false =>
            rw [if_neg (by decide)] at H3
            have H := H3
            clear H3
            refine pure_ (i := 0) (N := some 32) (v := ?_) (a' := ?_) #[true, false, false, false, false, false, false, false, false, false, false, false, false, false, false, false, false, false, false, false, false, false, false, false, false, false, false] rfl rfl (any_of HT_.out (by kernel_rfl)) (fun _ _ _ h => h) (Or.inl ⟨by rfl, ?_⟩) ?_ ?_
            rotate_left
            · intro w'
              go_simp
              with_reducible rfl
            rotate_left
            · simp only [Act.put, List.setIfInBounds_toArray, List.set_cons_zero, List.set_cons_succ, i64_w, i32_w]
              rfl
            refine pure_ (i := 1) (N := some 33) (v := ?_) (a' := ?_) #[true, true, false, false, false, false, false, false, false, false, false, false, false, false, false, false, false, false, false, false, false, false, false, false, false, false, false] rfl rfl (any_of HT_.out (by kernel_rfl)) (fun _ _ _ h => h) (Or.inl ⟨by rfl, ?_⟩) ?_ ?_
            rotate_left
            · intro w'
              go_simp
              with_reducible rfl
            rotate_left
            · simp only [Act.put, List.setIfInBounds_toArray, List.set_cons_zero, List.set_cons_succ, i64_w, i32_w]
              rfl
            refine pure_ (i := 2) (N := some 34) (v := ?_) (a' := ?_) #[true, true, true, false, false, false, false, false, false, false, false, false, false, false, false, false, false, false, false, false, false, false, false, false, false, false, false] rfl rfl (any_of HT_.out (by kernel_rfl)) (fun _ _ _ h => h) (Or.inl ⟨by rfl, ?_⟩) ?_ ?_
            rotate_left
            · intro w'
              go_simp
              with_reducible rfl
            rotate_left
            · simp only [Act.put, List.setIfInBounds_toArray, List.set_cons_zero, List.set_cons_succ, i64_w, i32_w]
              rfl
            refine pure_ (i := 3) (N := some 35) (v := undef) (a' := ?_) #[true, true, true, true, false, false, false, false, false, false, false, false, false, false, false, false, false, false, false, false, false, false, false, false, false, false, false] rfl rfl (any_of HT_.out (by kernel_rfl)) (fun _ _ _ h => h) (Or.inr ⟨by rfl, rfl⟩) ?_ ?_
            rotate_left
            · simp only [Act.put, List.setIfInBounds_toArray, List.set_cons_zero, List.set_cons_succ, i64_w, i32_w]
              rfl
            refine pure_ (i := 4) (N := some 36) (v := undef) (a' := ?_) #[true, true, true, true, true, false, false, false, false, false, false, false, false, false, false, false, false, false, false, false, false, false, false, false, false, false, false] rfl rfl (any_of HT_.out (by kernel_rfl)) (fun _ _ _ h => h) (Or.inr ⟨by rfl, rfl⟩) ?_ ?_
            rotate_left
            · simp only [Act.put, List.setIfInBounds_toArray, List.set_cons_zero, List.set_cons_succ, i64_w, i32_w]
              rfl
            refine pure_ (i := 5) (N := some 37) (v := undef) (a' := ?_) #[true, true, true, true, true, true, false, false, false, false, false, false, false, false, false, false, false, false, false, false, false, false, false, false, false, false, false] rfl rfl (any_of HT_.out (by kernel_rfl)) (fun _ _ _ h => h) (Or.inr ⟨by rfl, rfl⟩) ?_ ?_
            rotate_left
            · simp only [Act.put, List.setIfInBounds_toArray, List.set_cons_zero, List.set_cons_succ, i64_w, i32_w]
              rfl
            refine pure_ (i := 6) (N := some 38) (v := undef) (a' := ?_) #[true, true, true, true, true, true, true, false, false, false, false, false, false, false, false, false, false, false, false, false, false, false, false, false, false, false, false] rfl rfl (any_of HT_.out (by kernel_rfl)) (fun _ _ _ h => h) (Or.inr ⟨by rfl, rfl⟩) ?_ ?_
            rotate_left
            · simp only [Act.put, List.setIfInBounds_toArray, List.set_cons_zero, List.set_cons_succ, i64_w, i32_w]
              rfl
            refine pure_ (i := 7) (N := some 39) (v := undef) (a' := ?_) #[true, true, true, true, true, true, true, true, false, false, false, false, false, false, false, false, false, false, false, false, false, false, false, false, false, false, false] rfl rfl (any_of HT_.out (by kernel_rfl)) (fun _ _ _ h => h) (Or.inr ⟨by rfl, rfl⟩) ?_ ?_
            rotate_left
            · simp only [Act.put, List.setIfInBounds_toArray, List.set_cons_zero, List.set_cons_succ, i64_w, i32_w]
              rfl
            refine pure_ (i := 8) (N := some 40) (v := undef) (a' := ?_) #[true, true, true, true, true, true, true, true, true, false, false, false, false, false, false, false, false, false, false, false, false, false, false, false, false, false, false] rfl rfl (any_of HT_.out (by kernel_rfl)) (fun _ _ _ h => h) (Or.inr ⟨by rfl, rfl⟩) ?_ ?_
            rotate_left
            · simp only [Act.put, List.setIfInBounds_toArray, List.set_cons_zero, List.set_cons_succ, i64_w, i32_w]
              rfl
            refine pure_ (i := 9) (N := some 41) (v := undef) (a' := ?_) #[true, true, true, true, true, true, true, true, true, true, false, false, false, false, false, false, false, false, false, false, false, false, false, false, false, false, false] rfl rfl (any_of HT_.out (by kernel_rfl)) (fun _ _ _ h => h) (Or.inr ⟨by rfl, rfl⟩) ?_ ?_
            rotate_left
            · simp only [Act.put, List.setIfInBounds_toArray, List.set_cons_zero, List.set_cons_succ, i64_w, i32_w]
              rfl
            refine pure_ (i := 10) (N := some 42) (v := undef) (a' := ?_) #[true, true, true, true, true, true, true, true, true, true, true, false, false, false, false, false, false, false, false, false, false, false, false, false, false, false, false] rfl rfl (any_of HT_.out (by kernel_rfl)) (fun _ _ _ h => h) (Or.inr ⟨by rfl, rfl⟩) ?_ ?_
            rotate_left
            · simp only [Act.put, List.setIfInBounds_toArray, List.set_cons_zero, List.set_cons_succ, i64_w, i32_w]
              rfl
            refine pure_ (i := 11) (N := some 43) (v := ?_) (a' := ?_) #[true, true, true, true, true, true, true, true, true, true, true, true, false, false, false, false, false, false, false, false, false, false, false, false, false, false, false] rfl rfl (any_of HT_.out (by kernel_rfl)) (fun _ _ _ h => h) (Or.inl ⟨by rfl, ?_⟩) ?_ ?_
            rotate_left
            · intro w'
              go_simp
              with_reducible rfl
            rotate_left
            · simp only [Act.put, List.setIfInBounds_toArray, List.set_cons_zero, List.set_cons_succ, i64_w, i32_w]
              rfl
            refine pure_ (i := 12) (N := some 44) (v := ?_) (a' := ?_) #[true, true, true, true, true, true, true, true, true, true, true, true, true, false, false, false, false, false, false, false, false, false, false, false, false, false, false] rfl rfl (any_of HT_.out (by kernel_rfl)) (fun _ _ _ h => h) (Or.inl ⟨by rfl, ?_⟩) ?_ ?_
            rotate_left
            · intro w'
              go_simp
              with_reducible rfl
            rotate_left
            · simp only [Act.put, List.setIfInBounds_toArray, List.set_cons_zero, List.set_cons_succ, i64_w, i32_w]
              rfl
            refine pure_ (i := 15) (N := some 47) (v := ?_) (a' := ?_) #[true, true, true, true, true, true, true, true, true, true, true, true, true, false, false, true, false, false, false, false, false, false, false, false, false, false, false] rfl rfl (any_of HT_.out (by kernel_rfl)) (fun _ _ _ h => h) (Or.inl ⟨by rfl, ?_⟩) ?_ ?_
            rotate_left
            · intro w'
              go_simp
              with_reducible rfl
            rotate_left
            · simp only [Act.put, List.setIfInBounds_toArray, List.set_cons_zero, List.set_cons_succ, i64_w, i32_w]
              rfl
            refine pure_ (i := 19) (N := some 51) (v := ?_) (a' := ?_) #[true, true, true, true, true, true, true, true, true, true, true, true, true, false, false, true, false, false, false, true, false, false, false, false, false, false, false] rfl rfl (any_of HT_.out (by kernel_rfl)) (fun _ _ _ h => h) (Or.inl ⟨by rfl, ?_⟩) ?_ ?_
            rotate_left
            · intro w'
              go_simp
              with_reducible rfl
            rotate_left
            · simp only [Act.put, List.setIfInBounds_toArray, List.set_cons_zero, List.set_cons_succ, i64_w, i32_w]
              rfl
            refine pure_ (i := 22) (N := some 54) (v := ?_) (a' := ?_) #[true, true, true, true, true, true, true, true, true, true, true, true, true, false, false, true, false, false, false, true, false, false, true, false, false, false, false] rfl rfl (any_of HT_.out (by kernel_rfl)) (fun _ _ _ h => h) (Or.inl ⟨by rfl, ?_⟩) ?_ ?_
            rotate_left
            · intro w'
              go_simp
              with_reducible rfl
            rotate_left
            · simp only [Act.put, List.setIfInBounds_toArray, List.set_cons_zero, List.set_cons_succ, i64_w, i32_w]
              rfl
            refine take_ (i := 13) (N := some 45) (v := ?_) (a' := ?_) #[true, true, true, true, true, true, true, true, true, true, true, true, true, true, false, true, false, false, false, true, false, false, true, false, false, false, false] rfl rfl (take_ofW HT_.out HW_.out (by kernel_rfl)) (fun _ _ _ h => h) (Or.inl ⟨by rfl, ?_⟩) hHeld ?_ ?_
            rotate_left
            · rintro w' ⟨s0, s1, s2, s3, s4⟩
              go_simp
              with_reducible rfl
            rotate_left
            · simp only [Act.put, List.setIfInBounds_toArray, List.set_cons_zero, List.set_cons_succ, i64_w, i32_w]
              rfl
            refine take_ (i := 14) (N := some 46) (v := ?_) (a' := ?_) #[true, true, true, true, true, true, true, true, true, true, true, true, true, true, true, true, false, false, false, true, false, false, true, false, false, false, false] rfl rfl (take_ofW HT_.out HW_.out (by kernel_rfl)) (fun _ _ _ h => h) (Or.inl ⟨by rfl, ?_⟩) hHeld ?_ ?_
            rotate_left
            · rintro w' ⟨s0, s1, s2, s3, s4⟩
              go_simp
              with_reducible rfl
            rotate_left
            · simp only [Act.put, List.setIfInBounds_toArray, List.set_cons_zero, List.set_cons_succ, i64_w, i32_w]
              rfl
            refine pure_ (i := 16) (N := some 48) (v := ?_) (a' := ?_) #[true, true, true, true, true, true, true, true, true, true, true, true, true, true, true, true, true, false, false, true, false, false, true, false, false, false, false] rfl rfl (any_of HT_.out (by kernel_rfl)) (fun _ _ _ h => h) (Or.inl ⟨by rfl, ?_⟩) ?_ ?_
            rotate_left
            · intro w'
              go_simp
              with_reducible rfl
            rotate_left
            · simp only [Act.put, List.setIfInBounds_toArray, List.set_cons_zero, List.set_cons_succ, i64_w, i32_w]
              rfl
            refine pure_ (i := 17) (N := some 49) (v := ?_) (a' := ?_) #[true, true, true, true, true, true, true, true, true, true, true, true, true, true, true, true, true, true, false, true, false, false, true, false, false, false, false] rfl rfl (any_of HT_.out (by kernel_rfl)) (fun _ _ _ h => h) (Or.inl ⟨by rfl, ?_⟩) ?_ ?_
            rotate_left
            · intro w'
              go_simp
              with_reducible rfl
            rotate_left
            · simp only [Act.put, List.setIfInBounds_toArray, List.set_cons_zero, List.set_cons_succ, i64_w, i32_w]
              rfl
            refine take_ (i := 18) (N := some 50) (v := ?_) (a' := ?_) #[true, true, true, true, true, true, true, true, true, true, true, true, true, true, true, true, true, true, true, true, false, false, true, false, false, false, false] rfl rfl (take_ofW HT_.out HW_.out (by kernel_rfl)) (fun _ _ _ h => h) (Or.inl ⟨by rfl, ?_⟩) hHeld ?_ ?_
            rotate_left
            · rintro w' ⟨s0, s1, s2, s3, s4⟩
              go_simp
              with_reducible rfl
            rotate_left
            · simp only [Act.put, List.setIfInBounds_toArray, List.set_cons_zero, List.set_cons_succ, i64_w, i32_w]
              rfl
            refine pure_ (i := 20) (N := some 52) (v := ?_) (a' := ?_) #[true, true, true, true, true, true, true, true, true, true, true, true, true, true, true, true, true, true, true, true, true, false, true, false, false, false, false] rfl rfl (any_of HT_.out (by kernel_rfl)) (fun _ _ _ h => h) (Or.inl ⟨by rfl, ?_⟩) ?_ ?_
            rotate_left
            · intro w'
              go_simp
              with_reducible rfl
            rotate_left
            · simp only [Act.put, List.setIfInBounds_toArray, List.set_cons_zero, List.set_cons_succ, i64_w, i32_w]
              rfl
            refine take_ (i := 21) (N := some 53) (v := ?_) (a' := ?_) #[true, true, true, true, true, true, true, true, true, true, true, true, true, true, true, true, true, true, true, true, true, true, true, false, false, false, false] rfl rfl (take_ofW HT_.out HW_.out (by kernel_rfl)) (fun _ _ _ h => h) (Or.inl ⟨by rfl, ?_⟩) hHeld ?_ ?_
            rotate_left
            · rintro w' ⟨s0, s1, s2, s3, s4⟩
              go_simp
              with_reducible rfl
            rotate_left
            · simp only [Act.put, List.setIfInBounds_toArray, List.set_cons_zero, List.set_cons_succ, i64_w, i32_w]
              rfl
            refine pure_ (i := 23) (N := some 55) (v := ?_) (a' := ?_) #[true, true, true, true, true, true, true, true, true, true, true, true, true, true, true, true, true, true, true, true, true, true, true, true, false, false, false] rfl rfl (any_of HT_.out (by kernel_rfl)) (fun _ _ _ h => h) (Or.inl ⟨by rfl, ?_⟩) ?_ ?_
            rotate_left
            · intro w'
              go_simp
              with_reducible rfl
            rotate_left
            · simp only [Act.put, List.setIfInBounds_toArray, List.set_cons_zero, List.set_cons_succ, i64_w, i32_w]
              rfl
            refine take_ (i := 24) (N := some 56) (v := ?_) (a' := ?_) #[true, true, true, true, true, true, true, true, true, true, true, true, true, true, true, true, true, true, true, true, true, true, true, true, true, false, false] rfl rfl (take_ofW HT_.out HW_.out (by kernel_rfl)) (fun _ _ _ h => h) (Or.inl ⟨by rfl, ?_⟩) hHeld ?_ ?_
            rotate_left
            · rintro w' ⟨s0, s1, s2, s3, s4⟩
              go_simp
              with_reducible rfl
            rotate_left
            · simp only [Act.put, List.setIfInBounds_toArray, List.set_cons_zero, List.set_cons_succ, i64_w, i32_w]
              rfl
            refine pure_ (i := 25) (N := some 57) (v := ?_) (a' := ?_) #[true, true, true, true, true, true, true, true, true, true, true, true, true, true, true, true, true, true, true, true, true, true, true, true, true, true, false] rfl rfl (any_of HT_.out (by kernel_rfl)) (fun _ _ _ h => h) (Or.inl ⟨by rfl, ?_⟩) ?_ ?_
            rotate_left
            · intro w'
              go_simp
              with_reducible rfl
            rotate_left
            · simp only [Act.put, List.setIfInBounds_toArray, List.set_cons_zero, List.set_cons_succ, i64_w, i32_w]
              rfl
            refine pure_ (i := 26) (N := some 58) (v := ?_) (a' := ?_) #[true, true, true, true, true, true, true, true, true, true, true, true, true, true, true, true, true, true, true, true, true, true, true, true, true, true, true] rfl rfl (any_of HT_.out (by kernel_rfl)) (fun _ _ _ h => h) (Or.inl ⟨by rfl, ?_⟩) ?_ ?_
            rotate_left
            · intro w'
              go_simp
              with_reducible rfl
            rotate_left
            · simp only [Act.put, List.setIfInBounds_toArray, List.set_cons_zero, List.set_cons_succ, i64_w, i32_w]
              rfl
            refine done_ (done_of HT_.out (by kernel_rfl)) ?_
            go_wp2
            first | go_roundg q | (refine Handed.intro q ?measure ?_; rotate_left; go_step; (try simp only [add_plain]); (repeat apply Exists.intro); refine ⟨?rel, rfl⟩)
            case measure => omega
            case rel => exact ⟨wrap64 (e + 1), ys, Ay, cy, (by first | rfl | (simp; done)), ⟨H⟩, ⟨hF3⟩⟩
        · rw [if_neg c6] at H2
          have c6b0 : ((ws.length : Int) == 0) = false := beq_eq_false_iff_ne.mpr c6
          have c6b1 : (ws.length == 0) = false := by first | simpa using c6 | (simp at c6 ⊢; omega)
          have c7b0 : decide (0 < (ws.length : Int)) = true := decide_eq_true (by omega)
          have c7b1 : decide (0 < ws.length) = true := decide_eq_true (by omega)
          have hfe : f = rd ws 0 := by
            rw [← hf]
            unfold impl_Graph_closedWalks.first
            exact if_pos (by omega)
          have hwl : ws.length < 9223372036854775808 := by
            have h1 := (Kd.R_reads' hW).2.2.2.1
            omega
          obtain ⟨ji, hji⟩ : ∃ j_ : Int, wrap64 ((ws.length : Int) - 1) = j_ := ⟨_, rfl⟩
          have hjiw : IntKind.i64.wrap ((ws.length : Int) - 1) = ji := (i64_w _).trans hji
          rw [hji] at H2
          obtain ⟨b, Ab, H3⟩ := bnd_ H2
          clear H2
          have p8 : 0 ≤ ji := by
            unfold wrap64 at hji
            omega
          have q8 : ji < (ws.length : Int) := by
            unfold wrap64 at hji
            omega
          have p8b : decide (0 ≤ ji) = true := decide_eq_true p8
          have q8b : decide (ji < (ws.length : Int)) = true := decide_eq_true q8
          have q0 : (0 < ws.length) = True := eq_true (by omega)
          obtain ⟨g1, c9, e9, _, _, _⟩ := Kd.R_form HF.out.2.2.1 (by omega)
          injection e9 with e9 _ e10
          subst e9 e10
          have hx0 := (Kd.R_celln 0 HF.out.2.2.1 0 (by decide) (by omega)).1
          have hx8 := (Kd.R_celln 0 HF.out.2.2.1 ji p8 q8).1
          replace hx0 : wr.cell? ⟨g1, 0, none⟩ = some (.int .i64 f) := by rw [hfe]; exact hx0
          replace hx8 : wr.cell? ⟨g1, ji.toNat, none⟩ = some (.int .i64 (rd ws ji)) := hx8
          clear hji c6 hwl hf hfe
          replace p8 := eq_true p8
          replace q8 := eq_true q8
          go_wp2
          have hF2 := HF.out.drew
          cases b with
          | true =>
            rw [if_pos rfl] at H3
            obtain ⟨t, At, H3⟩ := bnd_ H3
            obtain ⟨aw, a2, a3, n2, c2, n3, c3, x, rfl, ⟨i0, i1⟩, ⟨e0, e1⟩, ⟨f0, f1⟩, hx1, hy1, hy2, hy3⟩ := impl_Graph_closedWalks.reads hrw At.out
            replace i0 := eq_true i0
            replace i1 := eq_true i1
            replace e0 := eq_true e0
            replace e1 := eq_true e1
            replace f0 := eq_true f0
            replace f1 := eq_true f1
            have hH0 : wr.drew.cell? ⟨bg, 0, none⟩ = some (.int .i64 n) ∧ wr.drew.cell? ⟨bg, 1, none⟩ = some (.slice A l.length c) ∧ wr.drew.cell? ⟨g1, ji.toNat, none⟩ = some (.int .i64 (rd ws ji)) ∧ wr.drew.cell? ⟨bw, 0, none⟩ = some (.slice (some aw) wy.length cw) ∧ wr.drew.cell? ⟨bk, 0, none⟩ = some (.int .i64 K) ∧ wr.drew.cell? (aw.add i.toNat) = some (.slice (some a2) n2 c2) ∧ wr.drew.cell? (a2.add e.toNat) = some (.slice (some a3) n3 c3) ∧ wr.drew.cell? (a3.add f.toNat) = some (.int .i64 x) := ⟨(blk_cell (blk_below hbg hF2.2.2.2.1) 0).trans rfl, (blk_cell (blk_below hbg hF2.2.2.2.1) 1).trans rfl, (Kd.R_celln 0 hF2.2.2.1 ji (of_eq_true p8) (of_eq_true q8)).1, (blk_cell (blk_below hbw hF2.2.2.2.1) 0).trans rfl, (blk_cell (blk_below hbk hF2.2.2.2.1) 0).trans rfl, (hF2.2.2.2.1.cell (World.block_lt_of_cell? _ _ hy1)).trans hy1, (hF2.2.2.2.1.cell (World.block_lt_of_cell? _ _ hy2)).trans hy2, (hF2.2.2.2.1.cell (World.block_lt_of_cell? _ _ hy3)).trans hy3⟩
            refine start_ (n := 27) (S := fun w' => w'.cell? ⟨bg, 0, none⟩ = some (.int .i64 n) ∧ w'.cell? ⟨bg, 1, none⟩ = some (.slice A l.length c) ∧ w'.cell? ⟨g1, ji.toNat, none⟩ = some (.int .i64 (rd ws ji)) ∧ w'.cell? ⟨bw, 0, none⟩ = some (.slice (some aw) wy.length cw) ∧ w'.cell? ⟨bk, 0, none⟩ = some (.int .i64 K) ∧ w'.cell? (aw.add i.toNat) = some (.slice (some a2) n2 c2) ∧ w'.cell? (a2.add e.toNat) = some (.slice (some a3) n3 c3) ∧ w'.cell? (a3.add f.toNat) = some (.int .i64 x)) (ds := []) #[false, false, false, false, false, false, false, false, false, false, false, false, false, false, false, false, false, false, false, false, false, false, false, false, false, false, false] (by kernel_rfl) rfl rfl hH0 (fun hHeld => ?_); refine with_tabW impl_Graph_closedWalks.tab9 impl_Graph_closedWalks.bits9 (fun HT_ HW_ => ?_)
            clear hH0
            generalize wr.drew = w2 at hF2 hHeld ⊢
            refine pure_ (i := 0) (N := some 32) (v := ?_) (a' := ?_) #[true, false, false, false, false, false, false, false, false, false, false, false, false, false, false, false, false, false, false, false, false, false, false, false, false, false, false] rfl rfl (any_of HT_.out (by kernel_rfl)) (fun _ _ _ h => h) (Or.inl ⟨by rfl, ?_⟩) ?_ ?_
            rotate_left
            · intro w'
              go_simp
              with_reducible rfl
            rotate_left
            · simp only [Act.put, List.setIfInBounds_toArray, List.set_cons_zero, List.set_cons_succ, i64_w, i32_w]
              rfl
            refine pure_ (i := 1) (N := some 33) (v := ?_) (a' := ?_) #[true, true, false, false, false, false, false, false, false, false, false, false, false, false, false, false, false, false, false, false, false, false, false, false, false, false, false] rfl rfl (any_of HT_.out (by kernel_rfl)) (fun _ _ _ h => h) (Or.inl ⟨by rfl, ?_⟩) ?_ ?_
            rotate_left
            · intro w'
              go_simp
              with_reducible rfl
            rotate_left
            · simp only [Act.put, List.setIfInBounds_toArray, List.set_cons_zero, List.set_cons_succ, i64_w, i32_w]
              rfl
            refine pure_ (i := 2) (N := some 34) (v := ?_) (a' := ?_) #[true, true, true, false, false, false, false, false, false, false, false, false, false, false, false, false, false, false, false, false, false, false, false, false, false, false, false] rfl rfl (any_of HT_.out (by kernel_rfl)) (fun _ _ _ h => h) (Or.inl ⟨by rfl, ?_⟩) ?_ ?_
            rotate_left
            · intro w'
              go_simp
              with_reducible rfl
            rotate_left
            · simp only [Act.put, List.setIfInBounds_toArray, List.set_cons_zero, List.set_cons_succ, i64_w, i32_w]
              rfl
            refine pure_ (i := 4) (N := some 36) (v := ?_) (a' := ?_) #[true, true, true, false, true, false, false, false, false, false, false, false, false, false, false, false, false, false, false, false, false, false, false, false, false, false, false] rfl rfl (any_of HT_.out (by kernel_rfl)) (fun _ _ _ h => h) (Or.inl ⟨by rfl, ?_⟩) ?_ ?_
            rotate_left
            · intro w'
              go_simp
              with_reducible rfl
            rotate_left
            · simp only [Act.put, List.setIfInBounds_toArray, List.set_cons_zero, List.set_cons_succ, i64_w, i32_w]
              rfl
            refine pure_ (i := 5) (N := some 37) (v := ?_) (a' := ?_) #[true, true, true, false, true, true, false, false, false, false, false, false, false, false, false, false, false, false, false, false, false, false, false, false, false, false, false] rfl rfl (any_of HT_.out (by kernel_rfl)) (fun _ _ _ h => h) (Or.inl ⟨by rfl, ?_⟩) ?_ ?_
            rotate_left
            · intro w'
              go_simp
              with_reducible rfl
            rotate_left
            · simp only [Act.put, List.setIfInBounds_toArray, List.set_cons_zero, List.set_cons_succ, i64_w, i32_w]
              rfl
            refine pure_ (i := 6) (N := some 38) (v := ?_) (a' := ?_) #[true, true, true, false, true, true, true, false, false, false, false, false, false, false, false, false, false, false, false, false, false, false, false, false, false, false, false] rfl rfl (any_of HT_.out (by kernel_rfl)) (fun _ _ _ h => h) (Or.inl ⟨by rfl, ?_⟩) ?_ ?_
            rotate_left
            · intro w'
              go_simp
              with_reducible rfl
            rotate_left
            · simp only [Act.put, List.setIfInBounds_toArray, List.set_cons_zero, List.set_cons_succ, i64_w, i32_w]
              rfl
            refine pure_ (i := 7) (N := some 39) (v := ?_) (a' := ?_) #[true, true, true, false, true, true, true, true, false, false, false, false, false, false, false, false, false, false, false, false, false, false, false, false, false, false, false] rfl rfl (any_of HT_.out (by kernel_rfl)) (fun _ _ _ h => h) (Or.inl ⟨by rfl, ?_⟩) ?_ ?_
            rotate_left
            · intro w'
              go_simp
              with_reducible rfl
            rotate_left
            · simp only [Act.put, List.setIfInBounds_toArray, List.set_cons_zero, List.set_cons_succ, i64_w, i32_w]
              rfl
            refine pure_ (i := 9) (N := some 41) (v := ?_) (a' := ?_) #[true, true, true, false, true, true, true, true, false, true, false, false, false, false, false, false, false, false, false, false, false, false, false, false, false, false, false] rfl rfl (any_of HT_.out (by kernel_rfl)) (fun _ _ _ h => h) (Or.inl ⟨by rfl, ?_⟩) ?_ ?_
            rotate_left
            · intro w'
              go_simp
              with_reducible rfl
            rotate_left
            · simp only [Act.put, List.setIfInBounds_toArray, List.set_cons_zero, List.set_cons_succ, i64_w, i32_w]
              rfl
            refine take_ (i := 3) (N := some 35) (v := ?_) (a' := ?_) #[true, true, true, true, true, true, true, true, false, true, false, false, false, false, false, false, false, false, false, false, false, false, false, false, false, false, false] rfl rfl (take_ofW HT_.out HW_.out (by kernel_rfl)) (fun _ _ _ h => h) (Or.inl ⟨by rfl, ?_⟩) hHeld ?_ ?_
            rotate_left
            · rintro w' ⟨s0, s1, s2, s3, s4, s5, s6, s7⟩
              go_simp
              with_reducible rfl
            rotate_left
            · simp only [Act.put, List.setIfInBounds_toArray, List.set_cons_zero, List.set_cons_succ, i64_w, i32_w]
              rfl
            refine take_ (i := 8) (N := some 40) (v := ?_) (a' := ?_) #[true, true, true, true, true, true, true, true, true, true, false, false, false, false, false, false, false, false, false, false, false, false, false, false, false, false, false] rfl rfl (take_ofW HT_.out HW_.out (by kernel_rfl)) (fun _ _ _ h => h) (Or.inl ⟨by rfl, ?_⟩) hHeld ?_ ?_
            rotate_left
            · rintro w' ⟨s0, s1, s2, s3, s4, s5, s6, s7⟩
              go_simp
              with_reducible rfl
            rotate_left
            · simp only [Act.put, List.setIfInBounds_toArray, List.set_cons_zero, List.set_cons_succ, i64_w, i32_w]
              rfl
            refine one_ (i := 10) (N := some 42) #[true, true, true, true, true, true, true, true, true, true, true, false, false, false, false, false, false, false, false, false, false, false, false, false, false, false, false] rfl rfl (one_of HT_.out (by kernel_rfl)) (by decide) (fun K hK => ?_)
            refine goes_ Try.func107 (by kernel_rfl) rfl #[.agg #[.int .i64 n, .slice A l.length c], .int .i64 (rd ws ji), .int .i64 e] (by rfl) rfl rfl arg_ ?_
            with_reducible refine (impl_Graph_follows.calls n _ _ l (rd ws ji) e true _ ?side1 ?side2 Ab.out).mono ?_
            (case side1 => exact Kd.C_below hr hF2.2.2.2.1)
            (case side2 => exact hc)
            rintro e' w3 ⟨rfl, hb3⟩
            refine ⟨_, rfl, ?_⟩
            have hF3 := hF2.below hb3
            refine hK.out _ _ ⟨(blk_cell (blk_below hbg hF3.2.2.2.1) 0).trans rfl, (blk_cell (blk_below hbg hF3.2.2.2.1) 1).trans rfl, (Kd.R_celln 0 hF3.2.2.1 ji (of_eq_true p8) (of_eq_true q8)).1, (blk_cell (blk_below hbw hF3.2.2.2.1) 0).trans rfl, (blk_cell (blk_below hbk hF3.2.2.2.1) 0).trans rfl, (hF3.2.2.2.1.cell (World.block_lt_of_cell? _ _ hy1)).trans hy1, (hF3.2.2.2.1.cell (World.block_lt_of_cell? _ _ hy2)).trans hy2, (hF3.2.2.2.1.cell (World.block_lt_of_cell? _ _ hy3)).trans hy3⟩ (fun hHeld => ?_)
            clear hK K
            refine norm_ (a' := ?_) ?_ ?_
            rotate_left
            · show Act.put _ (some 42) _ = _
              simp only [Act.put, List.setIfInBounds_toArray, List.set_cons_zero, List.set_cons_succ, i64_w, i32_w]
              rfl
            refine pure_ (i := 11) (N := some 43) (v := ?_) (a' := ?_) #[true, true, true, true, true, true, true, true, true, true, true, true, false, false, false, false, false, false, false, false, false, false, false, false, false, false, false] rfl rfl (any_of HT_.out (by kernel_rfl)) (fun _ _ _ h => h) (Or.inl ⟨by rfl, ?_⟩) ?_ ?_
            rotate_left
            · intro w'
              go_simp
              with_reducible rfl
            rotate_left
            · simp only [Act.put, List.setIfInBounds_toArray, List.set_cons_zero, List.set_cons_succ, i64_w, i32_w]
              rfl
            refine pure_ (i := 12) (N := some 44) (v := ?_) (a' := ?_) #[true, true, true, true, true, true, true, true, true, true, true, true, true, false, false, false, false, false, false, false, false, false, false, false, false, false, false] rfl rfl (any_of HT_.out (by kernel_rfl)) (fun _ _ _ h => h) (Or.inl ⟨by rfl, ?_⟩) ?_ ?_
            rotate_left
            · intro w'
              go_simp
              with_reducible rfl
            rotate_left
            · simp only [Act.put, List.setIfInBounds_toArray, List.set_cons_zero, List.set_cons_succ, i64_w, i32_w]
              rfl
            cases t with
            | true =>
              rw [if_pos rfl] at H3
              have H := H3
              clear H3
              refine pure_ (i := 15) (N := some 47) (v := ?_) (a' := ?_) #[true, true, true, true, true, true, true, true, true, true, true, true, true, false, false, true, false, false, false, false, false, false, false, false, false, false, false] rfl rfl (any_of HT_.out (by kernel_rfl)) (fun _ _ _ h => h) (Or.inl ⟨by rfl, ?_⟩) ?_ ?_
              rotate_left
              · intro w'
                go_simp
                with_reducible rfl
              rotate_left
              · simp only [Act.put, List.setIfInBounds_toArray, List.set_cons_zero, List.set_cons_succ, i64_w, i32_w]
                rfl
              refine pure_ (i := 19) (N := some 51) (v := ?_) (a' := ?_) #[true, true, true, true, true, true, true, true, true, true, true, true, true, false, false, true, false, false, false, true, false, false, false, false, false, false, false] rfl rfl (any_of HT_.out (by kernel_rfl)) (fun _ _ _ h => h) (Or.inl ⟨by rfl, ?_⟩) ?_ ?_
              rotate_left
              · intro w'
                go_simp
                with_reducible rfl
              rotate_left
              · simp only [Act.put, List.setIfInBounds_toArray, List.set_cons_zero, List.set_cons_succ, i64_w, i32_w]
                rfl
              refine pure_ (i := 22) (N := some 54) (v := ?_) (a' := ?_) #[true, true, true, true, true, true, true, true, true, true, true, true, true, false, false, true, false, false, false, true, false, false, true, false, false, false, false] rfl rfl (any_of HT_.out (by kernel_rfl)) (fun _ _ _ h => h) (Or.inl ⟨by rfl, ?_⟩) ?_ ?_
              rotate_left
              · intro w'
                go_simp
                with_reducible rfl
              rotate_left
              · simp only [Act.put, List.setIfInBounds_toArray, List.set_cons_zero, List.set_cons_succ, i64_w, i32_w]
                rfl
              refine take_ (i := 13) (N := some 45) (v := ?_) (a' := ?_) #[true, true, true, true, true, true, true, true, true, true, true, true, true, true, false, true, false, false, false, true, false, false, true, false, false, false, false] rfl rfl (take_ofW HT_.out HW_.out (by kernel_rfl)) (fun _ _ _ h => h) (Or.inl ⟨by rfl, ?_⟩) hHeld ?_ ?_
              rotate_left
              · rintro w' ⟨s0, s1, s2, s3, s4, s5, s6, s7⟩
                go_simp
                with_reducible rfl
              rotate_left
              · simp only [Act.put, List.setIfInBounds_toArray, List.set_cons_zero, List.set_cons_succ, i64_w, i32_w]
                rfl
              refine take_ (i := 14) (N := some 46) (v := ?_) (a' := ?_) #[true, true, true, true, true, true, true, true, true, true, true, true, true, true, true, true, false, false, false, true, false, false, true, false, false, false, false] rfl rfl (take_ofW HT_.out HW_.out (by kernel_rfl)) (fun _ _ _ h => h) (Or.inl ⟨by rfl, ?_⟩) hHeld ?_ ?_
              rotate_left
              · rintro w' ⟨s0, s1, s2, s3, s4, s5, s6, s7⟩
                go_simp
                with_reducible rfl
              rotate_left
              · simp only [Act.put, List.setIfInBounds_toArray, List.set_cons_zero, List.set_cons_succ, i64_w, i32_w]
                rfl
              refine pure_ (i := 16) (N := some 48) (v := ?_) (a' := ?_) #[true, true, true, true, true, true, true, true, true, true, true, true, true, true, true, true, true, false, false, true, false, false, true, false, false, false, false] rfl rfl (any_of HT_.out (by kernel_rfl)) (fun _ _ _ h => h) (Or.inl ⟨by rfl, ?_⟩) ?_ ?_
              rotate_left
              · intro w'
                go_simp
                with_reducible rfl
              rotate_left
              · simp only [Act.put, List.setIfInBounds_toArray, List.set_cons_zero, List.set_cons_succ, i64_w, i32_w]
                rfl
              refine pure_ (i := 17) (N := some 49) (v := ?_) (a' := ?_) #[true, true, true, true, true, true, true, true, true, true, true, true, true, true, true, true, true, true, false, true, false, false, true, false, false, false, false] rfl rfl (any_of HT_.out (by kernel_rfl)) (fun _ _ _ h => h) (Or.inl ⟨by rfl, ?_⟩) ?_ ?_
              rotate_left
              · intro w'
                go_simp
                with_reducible rfl
              rotate_left
              · simp only [Act.put, List.setIfInBounds_toArray, List.set_cons_zero, List.set_cons_succ, i64_w, i32_w]
                rfl
              refine take_ (i := 18) (N := some 50) (v := ?_) (a' := ?_) #[true, true, true, true, true, true, true, true, true, true, true, true, true, true, true, true, true, true, true, true, false, false, true, false, false, false, false] rfl rfl (take_ofW HT_.out HW_.out (by kernel_rfl)) (fun _ _ _ h => h) (Or.inl ⟨by rfl, ?_⟩) hHeld ?_ ?_
              rotate_left
              · rintro w' ⟨s0, s1, s2, s3, s4, s5, s6, s7⟩
                go_simp
                with_reducible rfl
              rotate_left
              · simp only [Act.put, List.setIfInBounds_toArray, List.set_cons_zero, List.set_cons_succ, i64_w, i32_w]
                rfl
              refine pure_ (i := 20) (N := some 52) (v := ?_) (a' := ?_) #[true, true, true, true, true, true, true, true, true, true, true, true, true, true, true, true, true, true, true, true, true, false, true, false, false, false, false] rfl rfl (any_of HT_.out (by kernel_rfl)) (fun _ _ _ h => h) (Or.inl ⟨by rfl, ?_⟩) ?_ ?_
              rotate_left
              · intro w'
                go_simp
                with_reducible rfl
              rotate_left
              · simp only [Act.put, List.setIfInBounds_toArray, List.set_cons_zero, List.set_cons_succ, i64_w, i32_w]
                rfl
              refine take_ (i := 21) (N := some 53) (v := ?_) (a' := ?_) #[true, true, true, true, true, true, true, true, true, true, true, true, true, true, true, true, true, true, true, true, true, true, true, false, false, false, false] rfl rfl (take_ofW HT_.out HW_.out (by kernel_rfl)) (fun _ _ _ h => h) (Or.inl ⟨by rfl, ?_⟩) hHeld ?_ ?_
              rotate_left
              · rintro w' ⟨s0, s1, s2, s3, s4, s5, s6, s7⟩
                go_simp
                with_reducible rfl
              rotate_left
              · simp only [Act.put, List.setIfInBounds_toArray, List.set_cons_zero, List.set_cons_succ, i64_w, i32_w]
                rfl
              refine pure_ (i := 23) (N := some 55) (v := ?_) (a' := ?_) #[true, true, true, true, true, true, true, true, true, true, true, true, true, true, true, true, true, true, true, true, true, true, true, true, false, false, false] rfl rfl (any_of HT_.out (by kernel_rfl)) (fun _ _ _ h => h) (Or.inl ⟨by rfl, ?_⟩) ?_ ?_
              rotate_left
              · intro w'
                go_simp
                with_reducible rfl
              rotate_left
              · simp only [Act.put, List.setIfInBounds_toArray, List.set_cons_zero, List.set_cons_succ, i64_w, i32_w]
                rfl
              refine take_ (i := 24) (N := some 56) (v := ?_) (a' := ?_) #[true, true, true, true, true, true, true, true, true, true, true, true, true, true, true, true, true, true, true, true, true, true, true, true, true, false, false] rfl rfl (take_ofW HT_.out HW_.out (by kernel_rfl)) (fun _ _ _ h => h) (Or.inl ⟨by rfl, ?_⟩) hHeld ?_ ?_
              rotate_left
              · rintro w' ⟨s0, s1, s2, s3, s4, s5, s6, s7⟩
                go_simp
                with_reducible rfl
              rotate_left
              · simp only [Act.put, List.setIfInBounds_toArray, List.set_cons_zero, List.set_cons_succ, i64_w, i32_w]
                rfl
              refine pure_ (i := 25) (N := some 57) (v := ?_) (a' := ?_) #[true, true, true, true, true, true, true, true, true, true, true, true, true, true, true, true, true, true, true, true, true, true, true, true, true, true, false] rfl rfl (any_of HT_.out (by kernel_rfl)) (fun _ _ _ h => h) (Or.inl ⟨by rfl, ?_⟩) ?_ ?_
              rotate_left
              · intro w'
                go_simp
                with_reducible rfl
              rotate_left
              · simp only [Act.put, List.setIfInBounds_toArray, List.set_cons_zero, List.set_cons_succ, i64_w, i32_w]
                rfl
              refine pure_ (i := 26) (N := some 58) (v := ?_) (a' := ?_) #[true, true, true, true, true, true, true, true, true, true, true, true, true, true, true, true, true, true, true, true, true, true, true, true, true, true, true] rfl rfl (any_of HT_.out (by kernel_rfl)) (fun _ _ _ h => h) (Or.inl ⟨by rfl, ?_⟩) ?_ ?_
              rotate_left
              · intro w'
                go_simp
                with_reducible rfl
              rotate_left
              · simp only [Act.put, List.setIfInBounds_toArray, List.set_cons_zero, List.set_cons_succ, i64_w, i32_w]
                rfl
              refine done_ (done_of HT_.out (by kernel_rfl)) ?_
              go_wp2
              obtain ⟨hlen, H⟩ := itn_ H
              obtain ⟨zs, Az, H⟩ := bnd_ H
              have hF4 := hF3.drew
              have hE4 := blk_kept hx hF4.2.2.2.2 hSx
              have hH0 : w3.drew.cell? ⟨bx, 0, none⟩ = some (.func (.func 110) #[] #[.pointer (some ⟨bk, 0, none⟩), .pointer (some ⟨bo, 0, none⟩), .pointer (some ⟨bg, 0, none⟩), .pointer (some ⟨bw, 0, none⟩), .pointer (some ⟨bx, 0, none⟩)]) := (blk_cell hE4 0).trans rfl
              refine start_ (n := 6) (S := fun w' => w'.cell? ⟨bx, 0, none⟩ = some (.func (.func 110) #[] #[.pointer (some ⟨bk, 0, none⟩), .pointer (some ⟨bo, 0, none⟩), .pointer (some ⟨bg, 0, none⟩), .pointer (some ⟨bw, 0, none⟩), .pointer (some ⟨bx, 0, none⟩)])) (ds := [5]) #[false, false, false, false, false, false] (by kernel_rfl) rfl rfl hH0 (fun hHeld => ?_)
              clear hH0
              generalize w3.drew = w5 at hF4 hE4 hHeld ⊢
              refine pure_ (i := 1) (N := some 60) (v := ?_) (a' := ?_) #[false, true, false, false, false, false] rfl rfl (by kernel_rfl) (fun _ _ _ h => h) (Or.inl ⟨by rfl, ?_⟩) ?_ ?_
              rotate_left
              · intro w'
                go_simp
                with_reducible rfl
              rotate_left
              · simp only [Act.put, List.setIfInBounds_toArray, List.set_cons_zero, List.set_cons_succ, i64_w, i32_w]
                rfl
              refine pure_ (i := 2) (N := some 61) (v := ?_) (a' := ?_) #[false, true, true, false, false, false] rfl rfl (by kernel_rfl) (fun _ _ _ h => h) (Or.inl ⟨by rfl, ?_⟩) ?_ ?_
              rotate_left
              · intro w'
                go_simp
                with_reducible rfl
              rotate_left
              · simp only [Act.put, List.setIfInBounds_toArray, List.set_cons_zero, List.set_cons_succ, i64_w, i32_w]
                rfl
              refine take_ (i := 0) (N := some 59) (v := ?_) (a' := ?_) #[true, true, true, false, false, false] rfl rfl (by kernel_rfl) (fun _ _ _ h => h) (Or.inl ⟨by rfl, ?_⟩) hHeld ?_ ?_
              rotate_left
              · intro w' s0
                go_simp
                with_reducible rfl
              rotate_left
              · simp only [Act.put, List.setIfInBounds_toArray, List.set_cons_zero, List.set_cons_succ, i64_w, i32_w]
                rfl
              refine one_ (i := 3) (N := some 62) #[true, true, true, true, false, false] rfl rfl (by kernel_rfl) (by decide) (fun K hK => ?_)
              refine event_step (v := .slice (some ⟨w5.heap.size, 0, none⟩) 1 1) (w1 := w5.alloc (.cells #[.int .i64 e] 2 (0, 0))) (by rfl) ?hr ?_
              (case hr => first | (go_simp; done) | (go_simp; rfl))
              refine hK.out _ _ ((blk_cell (blk_alloc hE4 _) 0).trans rfl) (fun hHeld => ?_)
              clear hK K
              refine norm_ (a' := ?_) ?_ ?_
              rotate_left
              · show Act.put _ (some 62) _ = _
                simp only [Act.put, List.setIfInBounds_toArray, List.set_cons_zero, List.set_cons_succ, i64_w, i32_w]
                rfl
              refine one_ (i := 4) (N := some 63) #[true, true, true, true, true, false] rfl rfl (by kernel_rfl) (by decide) (fun K hK => ?_)
              refine impl_Graph_closedWalks.one_step (w0 := w0) w0.heap.size (by rfl) (.tmp 60) (.tmp 62) 26 2 (.int .i64 0) 8 rfl Try.underlying26 info2 rfl (by omega) (.slice (some ⟨g1, 0, none⟩) ws.length c1) ws e _ rfl rfl hF4.2.2.1 hF4.2.2.2.1 hF4.2.2.2.1.size (by omega) ?_
              intro v6 w6 hv6 hB6 hg6 hat6
              obtain ⟨ho5, hS5, hW5, hB5, hK5⟩ := hF4
              have hK6 := Kept.of_grown hg6 hK5 (fun k hk => .inl (.inr (.inr hk)))
              have hE6 := blk_kept hx hK6 hSx
              have hs5 := hK5.1
              have hs6 := hg6.size
              have ho6 := blk_grown ho5 hg6 (fun h => (hWo bo h.symm).2 (.inr rfl))
              have hWlt := Kd.R_lt hW
              have hS6 : Kd.S (Kd.slice 2 (Kd.int .i64)) 26 w6 w0.heap.size (fun k => (P k ∨ w.heap.size ≤ k) ∧ k < w5.heap.size) (.slice Ay ys.length cy) ys :=
                Kd.S_grown (Kd.S_mono (Kd.S_bound hS5) (fun k hk => ⟨hk.1, hk.2.2.1⟩)) hg6 (fun k hk h => hk.1.elim (hWo k h.symm).1 (fun h2 => by have := hWlt k h.symm; omega))
              refine hK.out _ _ ((blk_cell hE6 0).trans rfl) (fun hHeld => ?_)
              clear hK K
              refine norm_ (a' := ?_) ?_ ?_
              rotate_left
              · show Act.put _ (some 63) _ = _
                simp only [Act.put, List.setIfInBounds_toArray, List.set_cons_zero, List.set_cons_succ, i64_w, i32_w]
                rfl
              refine last_ (i := 5) (N := some 64) #[true, true, true, true, true, true] rfl rfl (by kernel_rfl) (by decide) (fun K hK => ?_)
              refine goesFR_ Try.func110 (by kernel_rfl) rfl (lb := #[.pointer (some ⟨bk, 0, none⟩), .pointer (some ⟨bo, 0, none⟩), .pointer (some ⟨bg, 0, none⟩), .pointer (some ⟨bw, 0, none⟩), .pointer (some ⟨bx, 0, none⟩)]) #[v6, .pointer (some ⟨bk, 0, none⟩), .pointer (some ⟨bo, 0, none⟩), .pointer (some ⟨bg, 0, none⟩), .pointer (some ⟨bw, 0, none⟩), .pointer (some ⟨bx, 0, none⟩)] (by rfl) rfl rfl (by first | rfl | (simp; done)) (by (try simp only [List.map_toArray, List.map_cons, List.map_nil, List.append_toArray, List.cons_append, List.nil_append]); first | done | rfl) ?_
              have hown6 : ∀ k, v6.ownBlock = some k → (Value.slice (some ⟨g1, 0, none⟩) ws.length c1).ownBlock = some k ∨ w5.heap.size ≤ k := fun k hk => by
                rcases hat6 with ⟨A, c, e1, e2⟩ | ⟨_, b, hb, hle⟩
                · injection e1 with e1 _ _
                  subst e1 e2
                  have h9 : ∀ (B : Option Addr) (m m2 x x2 : Nat), (Value.slice B m x).ownBlock = (Value.slice B m2 x2).ownBlock := fun B _ _ _ _ => by cases B <;> rfl
                  exact .inl ((h9 _ _ _ _ _).trans hk)
                · rw [hb] at hk
                  injection hk with hk
                  exact .inr (by omega)
              refine (IH (ws ++ [e]) ys zs v6 _ _ _ w6 (by rw [List.length_append, List.length_singleton]; omega) Az.out hB6 hE6 ho6 hS6 hv6 (fun k hk hX => hk.1.elim (fun h => hP k h hX) (fun h => by have := hXl k hX; omega)) (fun k hk => ?own)).mono ?_
              case own =>
                rcases hown6 k hk with h | h
                · exact ⟨fun h2 => h2.1.elim (hWo k h).1 (fun h3 => by have := hWlt k h; omega), (hWo k h).2⟩
                · exact ⟨fun h2 => by have := h2.2; omega, fun hX => by have := hXl k hX; omega⟩
              rintro e' w7 ⟨rfl, v7, ho7, hS7, hv7, hB7, hK7⟩
              refine ⟨_, rfl, ?_⟩
              obtain ⟨Az7, cz7, rfl⟩ := Kd.S_slice hS7
              have hF7 : impl_Graph_closedWalks.Fx w0 w bo P (some ⟨g1, 0, none⟩) c1 ws Az7 cz7 zs w7 := by
                refine ⟨ho7, Kd.S_mono hS7 (fun k hk => hk.elim (fun h => h.1) (fun h => .inr (by omega))), ?_, hB7, hK6.then_ hK7 (fun k hk => ?_)⟩
                · rcases hat6 with ⟨A, c, e1, e2⟩ | ⟨hv, b, hb, hle⟩
                  · injection e1 with e1 _ e3
                    subst e1 e2 e3
                    have h2 := Kd.R_tight rfl (Kd.R_take hv7 (m := ws.length) (by rw [List.length_append]; omega))
                    rw [List.take_left] at h2
                    exact h2
                  · refine Kd.R_kept hv hK7 (fun k hk h => ?_)
                    rcases h with h | h | h
                    · subst h
                      exact (hWo _ hk.symm).2 (.inr rfl)
                    · exact h.1.elim (hWo k hk.symm).1 (fun h3 => by have := hWlt k hk.symm; omega)
                    · rw [hb] at h
                      injection h with h
                      have := hWlt k hk.symm
                      omega
                · rcases hk with h | h | h
                  · exact .inl (.inl h)
                  · exact h.1.elim (fun h => .inl (.inr (.inl h))) .inr
                  · exact (hown6 k h).elim (fun h => .inl (.inr (.inr h))) (fun h => .inr (by omega))
              refine hK.out _ _ ?_
              clear hK K
              refine norm_ (a' := ?_) ?_ ?_
              rotate_left
              · show Act.put _ (some 64) _ = _
                simp only [Act.put, List.setIfInBounds_toArray, List.set_cons_zero, List.set_cons_succ, i64_w, i32_w]
                rfl
              refine done_ (by kernel_rfl) ?_
              go_wp2
              first | go_roundg q | (refine Handed.intro q ?measure ?_; rotate_left; go_step; (try simp only [add_plain]); (repeat apply Exists.intro); refine ⟨?rel, rfl⟩)
              case measure => omega
              case rel => exact ⟨wrap64 (e + 1), zs, Az7, cz7, (by first | rfl | (simp; done)), ⟨H⟩, ⟨hF7⟩⟩
            | false =>
              rw [if_neg (by decide)] at H3
              have H := H3
              clear H3
              refine pure_ (i := 15) (N := some 47) (v := ?_) (a' := ?_) #[true, true, true, true, true, true, true, true, true, true, true, true, true, false, false, true, false, false, false, false, false, false, false, false, false, false, false] rfl rfl (any_of HT_.out (by kernel_rfl)) (fun _ _ _ h => h) (Or.inl ⟨by rfl, ?_⟩) ?_ ?_
              rotate_left
              · intro w'
                go_simp
                with_reducible rfl
              rotate_left
              · simp only [Act.put, List.setIfInBounds_toArray, List.set_cons_zero, List.set_cons_succ, i64_w, i32_w]
                rfl
              refine pure_ (i := 19) (N := some 51) (v := ?_) (a' := ?_) #[true, true, true, true, true, true, true, true, true, true, true, true, true, false, false, true, false, false, false, true, false, false, false, false, false, false, false] rfl rfl (any_of HT_.out (by kernel_rfl)) (fun _ _ _ h => h) (Or.inl ⟨by rfl, ?_⟩) ?_ ?_
              rotate_left
              · intro w'
                go_simp
                with_reducible rfl
              rotate_left
              · simp only [Act.put, List.setIfInBounds_toArray, List.set_cons_zero, List.set_cons_succ, i64_w, i32_w]
                rfl
              refine pure_ (i := 22) (N := some 54) (v := ?_) (a' := ?_) #[true, true, true, true, true, true, true, true, true, true, true, true, true, false, false, true, false, false, false, true, false, false, true, false, false, false, false] rfl rfl (any_of HT_.out (by kernel_rfl)) (fun _ _ _ h => h) (Or.inl ⟨by rfl, ?_⟩) ?_ ?_
              rotate_left
              · intro w'
                go_simp
                with_reducible rfl
              rotate_left
              · simp only [Act.put, List.setIfInBounds_toArray, List.set_cons_zero, List.set_cons_succ, i64_w, i32_w]
                rfl
              refine take_ (i := 13) (N := some 45) (v := ?_) (a' := ?_) #[true, true, true, true, true, true, true, true, true, true, true, true, true, true, false, true, false, false, false, true, false, false, true, false, false, false, false] rfl rfl (take_ofW HT_.out HW_.out (by kernel_rfl)) (fun _ _ _ h => h) (Or.inl ⟨by rfl, ?_⟩) hHeld ?_ ?_
              rotate_left
              · rintro w' ⟨s0, s1, s2, s3, s4, s5, s6, s7⟩
                go_simp
                with_reducible rfl
              rotate_left
              · simp only [Act.put, List.setIfInBounds_toArray, List.set_cons_zero, List.set_cons_succ, i64_w, i32_w]
                rfl
              refine take_ (i := 14) (N := some 46) (v := ?_) (a' := ?_) #[true, true, true, true, true, true, true, true, true, true, true, true, true, true, true, true, false, false, false, true, false, false, true, false, false, false, false] rfl rfl (take_ofW HT_.out HW_.out (by kernel_rfl)) (fun _ _ _ h => h) (Or.inl ⟨by rfl, ?_⟩) hHeld ?_ ?_
              rotate_left
              · rintro w' ⟨s0, s1, s2, s3, s4, s5, s6, s7⟩
                go_simp
                with_reducible rfl
              rotate_left
              · simp only [Act.put, List.setIfInBounds_toArray, List.set_cons_zero, List.set_cons_succ, i64_w, i32_w]
                rfl
              refine pure_ (i := 16) (N := some 48) (v := ?_) (a' := ?_) #[true, true, true, true, true, true, true, true, true, true, true, true, true, true, true, true, true, false, false, true, false, false, true, false, false, false, false] rfl rfl (any_of HT_.out (by kernel_rfl)) (fun _ _ _ h => h) (Or.inl ⟨by rfl, ?_⟩) ?_ ?_
              rotate_left
              · intro w'
                go_simp
                with_reducible rfl
              rotate_left
              · simp only [Act.put, List.setIfInBounds_toArray, List.set_cons_zero, List.set_cons_succ, i64_w, i32_w]
                rfl
              refine pure_ (i := 17) (N := some 49) (v := ?_) (a' := ?_) #[true, true, true, true, true, true, true, true, true, true, true, true, true, true, true, true, true, true, false, true, false, false, true, false, false, false, false] rfl rfl (any_of HT_.out (by kernel_rfl)) (fun _ _ _ h => h) (Or.inl ⟨by rfl, ?_⟩) ?_ ?_
              rotate_left
              · intro w'
                go_simp
                with_reducible rfl
              rotate_left
              · simp only [Act.put, List.setIfInBounds_toArray, List.set_cons_zero, List.set_cons_succ, i64_w, i32_w]
                rfl
              refine take_ (i := 18) (N := some 50) (v := ?_) (a' := ?_) #[true, true, true, true, true, true, true, true, true, true, true, true, true, true, true, true, true, true, true, true, false, false, true, false, false, false, false] rfl rfl (take_ofW HT_.out HW_.out (by kernel_rfl)) (fun _ _ _ h => h) (Or.inl ⟨by rfl, ?_⟩) hHeld ?_ ?_
              rotate_left
              · rintro w' ⟨s0, s1, s2, s3, s4, s5, s6, s7⟩
                go_simp
                with_reducible rfl
              rotate_left
              · simp only [Act.put, List.setIfInBounds_toArray, List.set_cons_zero, List.set_cons_succ, i64_w, i32_w]
                rfl
              refine pure_ (i := 20) (N := some 52) (v := ?_) (a' := ?_) #[true, true, true, true, true, true, true, true, true, true, true, true, true, true, true, true, true, true, true, true, true, false, true, false, false, false, false] rfl rfl (any_of HT_.out (by kernel_rfl)) (fun _ _ _ h => h) (Or.inl ⟨by rfl, ?_⟩) ?_ ?_
              rotate_left
              · intro w'
                go_simp
                with_reducible rfl
              rotate_left
              · simp only [Act.put, List.setIfInBounds_toArray, List.set_cons_zero, List.set_cons_succ, i64_w, i32_w]
                rfl
              refine take_ (i := 21) (N := some 53) (v := ?_) (a' := ?_) #[true, true, true, true, true, true, true, true, true, true, true, true, true, true, true, true, true, true, true, true, true, true, true, false, false, false, false] rfl rfl (take_ofW HT_.out HW_.out (by kernel_rfl)) (fun _ _ _ h => h) (Or.inl ⟨by rfl, ?_⟩) hHeld ?_ ?_
              rotate_left
              · rintro w' ⟨s0, s1, s2, s3, s4, s5, s6, s7⟩
                go_simp
                with_reducible rfl
              rotate_left
              · simp only [Act.put, List.setIfInBounds_toArray, List.set_cons_zero, List.set_cons_succ, i64_w, i32_w]
                rfl
              refine pure_ (i := 23) (N := some 55) (v := ?_) (a' := ?_) #[true, true, true, true, true, true, true, true, true, true, true, true, true, true, true, true, true, true, true, true, true, true, true, true, false, false, false] rfl rfl (any_of HT_.out (by kernel_rfl)) (fun _ _ _ h => h) (Or.inl ⟨by rfl, ?_⟩) ?_ ?_
              rotate_left
              · intro w'
                go_simp
                with_reducible rfl
              rotate_left
              · simp only [Act.put, List.setIfInBounds_toArray, List.set_cons_zero, List.set_cons_succ, i64_w, i32_w]
                rfl
              refine take_ (i := 24) (N := some 56) (v := ?_) (a' := ?_) #[true, true, true, true, true, true, true, true, true, true, true, true, true, true, true, true, true, true, true, true, true, true, true, true, true, false, false] rfl rfl (take_ofW HT_.out HW_.out (by kernel_rfl)) (fun _ _ _ h => h) (Or.inl ⟨by rfl, ?_⟩) hHeld ?_ ?_
              rotate_left
              · rintro w' ⟨s0, s1, s2, s3, s4, s5, s6, s7⟩
                go_simp
                with_reducible rfl
              rotate_left
              · simp only [Act.put, List.setIfInBounds_toArray, List.set_cons_zero, List.set_cons_succ, i64_w, i32_w]
                rfl
              refine pure_ (i := 25) (N := some 57) (v := ?_) (a' := ?_) #[true, true, true, true, true, true, true, true, true, true, true, true, true, true, true, true, true, true, true, true, true, true, true, true, true, true, false] rfl rfl (any_of HT_.out (by kernel_rfl)) (fun _ _ _ h => h) (Or.inl ⟨by rfl, ?_⟩) ?_ ?_
              rotate_left
              · intro w'
                go_simp
                with_reducible rfl
              rotate_left
              · simp only [Act.put, List.setIfInBounds_toArray, List.set_cons_zero, List.set_cons_succ, i64_w, i32_w]
                rfl
              refine pure_ (i := 26) (N := some 58) (v := ?_) (a' := ?_) #[true, true, true, true, true, true, true, true, true, true, true, true, true, true, true, true, true, true, true, true, true, true, true, true, true, true, true] rfl rfl (any_of HT_.out (by kernel_rfl)) (fun _ _ _ h => h) (Or.inl ⟨by rfl, ?_⟩) ?_ ?_
              rotate_left
              · intro w'
                go_simp
                with_reducible rfl
              rotate_left
              · simp only [Act.put, List.setIfInBounds_toArray, List.set_cons_zero, List.set_cons_succ, i64_w, i32_w]
                rfl
              refine done_ (done_of HT_.out (by kernel_rfl)) ?_
              go_wp2
              first | go_roundg q | (refine Handed.intro q ?measure ?_; rotate_left; go_step; (try simp only [add_plain]); (repeat apply Exists.intro); refine ⟨?rel, rfl⟩)
              case measure => omega
              case rel => exact ⟨wrap64 (e + 1), ys, Ay, cy, (by first | rfl | (simp; done)), ⟨H⟩, ⟨hF3⟩⟩
          | false =>
            rw [if_neg (by decide), Option.bind_some, if_neg (by decide)] at H3
            have H := H3
            clear H3
            have hH0 : wr.drew.cell? ⟨bg, 0, none⟩ = some (.int .i64 n) ∧ wr.drew.cell? ⟨bg, 1, none⟩ = some (.slice A l.length c) ∧ wr.drew.cell? ⟨g1, ji.toNat, none⟩ = some (.int .i64 (rd ws ji)) := ⟨(blk_cell (blk_below hbg hF2.2.2.2.1) 0).trans rfl, (blk_cell (blk_below hbg hF2.2.2.2.1) 1).trans rfl, (Kd.R_celln 0 hF2.2.2.1 ji (of_eq_true p8) (of_eq_true q8)).1⟩
            refine start_ (n := 27) (S := fun w' => w'.cell? ⟨bg, 0, none⟩ = some (.int .i64 n) ∧ w'.cell? ⟨bg, 1, none⟩ = some (.slice A l.length c) ∧ w'.cell? ⟨g1, ji.toNat, none⟩ = some (.int .i64 (rd ws ji))) (ds := []) #[false, false, false, false, false, false, false, false, false, false, false, false, false, false, false, false, false, false, false, false, false, false, false, false, false, false, false] (by kernel_rfl) rfl rfl hH0 (fun hHeld => ?_); refine with_tabW impl_Graph_closedWalks.tab9 impl_Graph_closedWalks.bits9 (fun HT_ HW_ => ?_)
            clear hH0
            generalize wr.drew = w2 at hF2 hHeld ⊢
            refine pure_ (i := 0) (N := some 32) (v := ?_) (a' := ?_) #[true, false, false, false, false, false, false, false, false, false, false, false, false, false, false, false, false, false, false, false, false, false, false, false, false, false, false] rfl rfl (any_of HT_.out (by kernel_rfl)) (fun _ _ _ h => h) (Or.inl ⟨by rfl, ?_⟩) ?_ ?_
            rotate_left
            · intro w'
              go_simp
              with_reducible rfl
            rotate_left
            · simp only [Act.put, List.setIfInBounds_toArray, List.set_cons_zero, List.set_cons_succ, i64_w, i32_w]
              rfl
            refine pure_ (i := 1) (N := some 33) (v := ?_) (a' := ?_) #[true, true, false, false, false, false, false, false, false, false, false, false, false, false, false, false, false, false, false, false, false, false, false, false, false, false, false] rfl rfl (any_of HT_.out (by kernel_rfl)) (fun _ _ _ h => h) (Or.inl ⟨by rfl, ?_⟩) ?_ ?_
            rotate_left
            · intro w'
              go_simp
              with_reducible rfl
            rotate_left
            · simp only [Act.put, List.setIfInBounds_toArray, List.set_cons_zero, List.set_cons_succ, i64_w, i32_w]
              rfl
            refine pure_ (i := 2) (N := some 34) (v := ?_) (a' := ?_) #[true, true, true, false, false, false, false, false, false, false, false, false, false, false, false, false, false, false, false, false, false, false, false, false, false, false, false] rfl rfl (any_of HT_.out (by kernel_rfl)) (fun _ _ _ h => h) (Or.inl ⟨by rfl, ?_⟩) ?_ ?_
            rotate_left
            · intro w'
              go_simp
              with_reducible rfl
            rotate_left
            · simp only [Act.put, List.setIfInBounds_toArray, List.set_cons_zero, List.set_cons_succ, i64_w, i32_w]
              rfl
            refine pure_ (i := 4) (N := some 36) (v := ?_) (a' := ?_) #[true, true, true, false, true, false, false, false, false, false, false, false, false, false, false, false, false, false, false, false, false, false, false, false, false, false, false] rfl rfl (any_of HT_.out (by kernel_rfl)) (fun _ _ _ h => h) (Or.inl ⟨by rfl, ?_⟩) ?_ ?_
            rotate_left
            · intro w'
              go_simp
              with_reducible rfl
            rotate_left
            · simp only [Act.put, List.setIfInBounds_toArray, List.set_cons_zero, List.set_cons_succ, i64_w, i32_w]
              rfl
            refine pure_ (i := 5) (N := some 37) (v := ?_) (a' := ?_) #[true, true, true, false, true, true, false, false, false, false, false, false, false, false, false, false, false, false, false, false, false, false, false, false, false, false, false] rfl rfl (any_of HT_.out (by kernel_rfl)) (fun _ _ _ h => h) (Or.inl ⟨by rfl, ?_⟩) ?_ ?_
            rotate_left
            · intro w'
              go_simp
              with_reducible rfl
            rotate_left
            · simp only [Act.put, List.setIfInBounds_toArray, List.set_cons_zero, List.set_cons_succ, i64_w, i32_w]
              rfl
            refine pure_ (i := 6) (N := some 38) (v := ?_) (a' := ?_) #[true, true, true, false, true, true, true, false, false, false, false, false, false, false, false, false, false, false, false, false, false, false, false, false, false, false, false] rfl rfl (any_of HT_.out (by kernel_rfl)) (fun _ _ _ h => h) (Or.inl ⟨by rfl, ?_⟩) ?_ ?_
            rotate_left
            · intro w'
              go_simp
              with_reducible rfl
            rotate_left
            · simp only [Act.put, List.setIfInBounds_toArray, List.set_cons_zero, List.set_cons_succ, i64_w, i32_w]
              rfl
            refine pure_ (i := 7) (N := some 39) (v := ?_) (a' := ?_) #[true, true, true, false, true, true, true, true, false, false, false, false, false, false, false, false, false, false, false, false, false, false, false, false, false, false, false] rfl rfl (any_of HT_.out (by kernel_rfl)) (fun _ _ _ h => h) (Or.inl ⟨by rfl, ?_⟩) ?_ ?_
            rotate_left
            · intro w'
              go_simp
              with_reducible rfl
            rotate_left
            · simp only [Act.put, List.setIfInBounds_toArray, List.set_cons_zero, List.set_cons_succ, i64_w, i32_w]
              rfl
            refine pure_ (i := 9) (N := some 41) (v := ?_) (a' := ?_) #[true, true, true, false, true, true, true, true, false, true, false, false, false, false, false, false, false, false, false, false, false, false, false, false, false, false, false] rfl rfl (any_of HT_.out (by kernel_rfl)) (fun _ _ _ h => h) (Or.inl ⟨by rfl, ?_⟩) ?_ ?_
            rotate_left
            · intro w'
              go_simp
              with_reducible rfl
            rotate_left
            · simp only [Act.put, List.setIfInBounds_toArray, List.set_cons_zero, List.set_cons_succ, i64_w, i32_w]
              rfl
            refine take_ (i := 3) (N := some 35) (v := ?_) (a' := ?_) #[true, true, true, true, true, true, true, true, false, true, false, false, false, false, false, false, false, false, false, false, false, false, false, false, false, false, false] rfl rfl (take_ofW HT_.out HW_.out (by kernel_rfl)) (fun _ _ _ h => h) (Or.inl ⟨by rfl, ?_⟩) hHeld ?_ ?_
            rotate_left
            · rintro w' ⟨s0, s1, s2⟩
              go_simp
              with_reducible rfl
            rotate_left
            · simp only [Act.put, List.setIfInBounds_toArray, List.set_cons_zero, List.set_cons_succ, i64_w, i32_w]
              rfl
            refine take_ (i := 8) (N := some 40) (v := ?_) (a' := ?_) #[true, true, true, true, true, true, true, true, true, true, false, false, false, false, false, false, false, false, false, false, false, false, false, false, false, false, false] rfl rfl (take_ofW HT_.out HW_.out (by kernel_rfl)) (fun _ _ _ h => h) (Or.inl ⟨by rfl, ?_⟩) hHeld ?_ ?_
            rotate_left
            · rintro w' ⟨s0, s1, s2⟩
              go_simp
              with_reducible rfl
            rotate_left
            · simp only [Act.put, List.setIfInBounds_toArray, List.set_cons_zero, List.set_cons_succ, i64_w, i32_w]
              rfl
            refine one_ (i := 10) (N := some 42) #[true, true, true, true, true, true, true, true, true, true, true, false, false, false, false, false, false, false, false, false, false, false, false, false, false, false, false] rfl rfl (one_of HT_.out (by kernel_rfl)) (by decide) (fun K hK => ?_)
            refine goes_ Try.func107 (by kernel_rfl) rfl #[.agg #[.int .i64 n, .slice A l.length c], .int .i64 (rd ws ji), .int .i64 e] (by rfl) rfl rfl arg_ ?_
            with_reducible refine (impl_Graph_follows.calls n _ _ l (rd ws ji) e false _ ?side1 ?side2 Ab.out).mono ?_
            (case side1 => exact Kd.C_below hr hF2.2.2.2.1)
            (case side2 => exact hc)
            rintro e' w3 ⟨rfl, hb3⟩
            refine ⟨_, rfl, ?_⟩
            have hF3 := hF2.below hb3
            refine hK.out _ _ ⟨(blk_cell (blk_below hbg hF3.2.2.2.1) 0).trans rfl, (blk_cell (blk_below hbg hF3.2.2.2.1) 1).trans rfl, (Kd.R_celln 0 hF3.2.2.1 ji (of_eq_true p8) (of_eq_true q8)).1⟩ (fun hHeld => ?_)
            clear hK K
            refine norm_ (a' := ?_) ?_ ?_
            rotate_left
            · show Act.put _ (some 42) _ = _
              simp only [Act.put, List.setIfInBounds_toArray, List.set_cons_zero, List.set_cons_succ, i64_w, i32_w]
              rfl
            refine pure_ (i := 11) (N := some 43) (v := ?_) (a' := ?_) #[true, true, true, true, true, true, true, true, true, true, true, true, false, false, false, false, false, false, false, false, false, false, false, false, false, false, false] rfl rfl (any_of HT_.out (by kernel_rfl)) (fun _ _ _ h => h) (Or.inl ⟨by rfl, ?_⟩) ?_ ?_
            rotate_left
            · intro w'
              go_simp
              with_reducible rfl
            rotate_left
            · simp only [Act.put, List.setIfInBounds_toArray, List.set_cons_zero, List.set_cons_succ, i64_w, i32_w]
              rfl
            refine pure_ (i := 12) (N := some 44) (v := ?_) (a' := ?_) #[true, true, true, true, true, true, true, true, true, true, true, true, true, false, false, false, false, false, false, false, false, false, false, false, false, false, false] rfl rfl (any_of HT_.out (by kernel_rfl)) (fun _ _ _ h => h) (Or.inl ⟨by rfl, ?_⟩) ?_ ?_
            rotate_left
            · intro w'
              go_simp
              with_reducible rfl
            rotate_left
            · simp only [Act.put, List.setIfInBounds_toArray, List.set_cons_zero, List.set_cons_succ, i64_w, i32_w]
              rfl
            refine pure_ (i := 13) (N := some 45) (v := undef) (a' := ?_) #[true, true, true, true, true, true, true, true, true, true, true, true, true, true, false, false, false, false, false, false, false, false, false, false, false, false, false] rfl rfl (any_of HT_.out (by kernel_rfl)) (fun _ _ _ h => h) (Or.inr ⟨by rfl, rfl⟩) ?_ ?_
            rotate_left
            · simp only [Act.put, List.setIfInBounds_toArray, List.set_cons_zero, List.set_cons_succ, i64_w, i32_w]
              rfl
            refine pure_ (i := 14) (N := some 46) (v := undef) (a' := ?_) #[true, true, true, true, true, true, true, true, true, true, true, true, true, true, true, false, false, false, false, false, false, false, false, false, false, false, false] rfl rfl (any_of HT_.out (by kernel_rfl)) (fun _ _ _ h => h) (Or.inr ⟨by rfl, rfl⟩) ?_ ?_
            rotate_left
            · simp only [Act.put, List.setIfInBounds_toArray, List.set_cons_zero, List.set_cons_succ, i64_w, i32_w]
              rfl
            refine pure_ (i := 15) (N := some 47) (v := undef) (a' := ?_) #[true, true, true, true, true, true, true, true, true, true, true, true, true, true, true, true, false, false, false, false, false, false, false, false, false, false, false] rfl rfl (any_of HT_.out (by kernel_rfl)) (fun _ _ _ h => h) (Or.inr ⟨by rfl, rfl⟩) ?_ ?_
            rotate_left
            · simp only [Act.put, List.setIfInBounds_toArray, List.set_cons_zero, List.set_cons_succ, i64_w, i32_w]
              rfl
            refine pure_ (i := 16) (N := some 48) (v := undef) (a' := ?_) #[true, true, true, true, true, true, true, true, true, true, true, true, true, true, true, true, true, false, false, false, false, false, false, false, false, false, false] rfl rfl (any_of HT_.out (by kernel_rfl)) (fun _ _ _ h => h) (Or.inr ⟨by rfl, rfl⟩) ?_ ?_
            rotate_left
            · simp only [Act.put, List.setIfInBounds_toArray, List.set_cons_zero, List.set_cons_succ, i64_w, i32_w]
              rfl
            refine pure_ (i := 17) (N := some 49) (v := undef) (a' := ?_) #[true, true, true, true, true, true, true, true, true, true, true, true, true, true, true, true, true, true, false, false, false, false, false, false, false, false, false] rfl rfl (any_of HT_.out (by kernel_rfl)) (fun _ _ _ h => h) (Or.inr ⟨by rfl, rfl⟩) ?_ ?_
            rotate_left
            · simp only [Act.put, List.setIfInBounds_toArray, List.set_cons_zero, List.set_cons_succ, i64_w, i32_w]
              rfl
            refine pure_ (i := 18) (N := some 50) (v := undef) (a' := ?_) #[true, true, true, true, true, true, true, true, true, true, true, true, true, true, true, true, true, true, true, false, false, false, false, false, false, false, false] rfl rfl (any_of HT_.out (by kernel_rfl)) (fun _ _ _ h => h) (Or.inr ⟨by rfl, rfl⟩) ?_ ?_
            rotate_left
            · simp only [Act.put, List.setIfInBounds_toArray, List.set_cons_zero, List.set_cons_succ, i64_w, i32_w]
              rfl
            refine pure_ (i := 19) (N := some 51) (v := undef) (a' := ?_) #[true, true, true, true, true, true, true, true, true, true, true, true, true, true, true, true, true, true, true, true, false, false, false, false, false, false, false] rfl rfl (any_of HT_.out (by kernel_rfl)) (fun _ _ _ h => h) (Or.inr ⟨by rfl, rfl⟩) ?_ ?_
            rotate_left
            · simp only [Act.put, List.setIfInBounds_toArray, List.set_cons_zero, List.set_cons_succ, i64_w, i32_w]
              rfl
            refine pure_ (i := 20) (N := some 52) (v := undef) (a' := ?_) #[true, true, true, true, true, true, true, true, true, true, true, true, true, true, true, true, true, true, true, true, true, false, false, false, false, false, false] rfl rfl (any_of HT_.out (by kernel_rfl)) (fun _ _ _ h => h) (Or.inr ⟨by rfl, rfl⟩) ?_ ?_
            rotate_left
            · simp only [Act.put, List.setIfInBounds_toArray, List.set_cons_zero, List.set_cons_succ, i64_w, i32_w]
              rfl
            refine pure_ (i := 21) (N := some 53) (v := undef) (a' := ?_) #[true, true, true, true, true, true, true, true, true, true, true, true, true, true, true, true, true, true, true, true, true, true, false, false, false, false, false] rfl rfl (any_of HT_.out (by kernel_rfl)) (fun _ _ _ h => h) (Or.inr ⟨by rfl, rfl⟩) ?_ ?_
            rotate_left
            · simp only [Act.put, List.setIfInBounds_toArray, List.set_cons_zero, List.set_cons_succ, i64_w, i32_w]
              rfl
            refine pure_ (i := 22) (N := some 54) (v := undef) (a' := ?_) #[true, true, true, true, true, true, true, true, true, true, true, true, true, true, true, true, true, true, true, true, true, true, true, false, false, false, false] rfl rfl (any_of HT_.out (by kernel_rfl)) (fun _ _ _ h => h) (Or.inr ⟨by rfl, rfl⟩) ?_ ?_
            rotate_left
            · simp only [Act.put, List.setIfInBounds_toArray, List.set_cons_zero, List.set_cons_succ, i64_w, i32_w]
              rfl
            refine pure_ (i := 23) (N := some 55) (v := undef) (a' := ?_) #[true, true, true, true, true, true, true, true, true, true, true, true, true, true, true, true, true, true, true, true, true, true, true, true, false, false, false] rfl rfl (any_of HT_.out (by kernel_rfl)) (fun _ _ _ h => h) (Or.inr ⟨by rfl, rfl⟩) ?_ ?_
            rotate_left
            · simp only [Act.put, List.setIfInBounds_toArray, List.set_cons_zero, List.set_cons_succ, i64_w, i32_w]
              rfl
            refine pure_ (i := 24) (N := some 56) (v := undef) (a' := ?_) #[true, true, true, true, true, true, true, true, true, true, true, true, true, true, true, true, true, true, true, true, true, true, true, true, true, false, false] rfl rfl (any_of HT_.out (by kernel_rfl)) (fun _ _ _ h => h) (Or.inr ⟨by rfl, rfl⟩) ?_ ?_
            rotate_left
            · simp only [Act.put, List.setIfInBounds_toArray, List.set_cons_zero, List.set_cons_succ, i64_w, i32_w]
              rfl
            refine pure_ (i := 25) (N := some 57) (v := undef) (a' := ?_) #[true, true, true, true, true, true, true, true, true, true, true, true, true, true, true, true, true, true, true, true, true, true, true, true, true, true, false] rfl rfl (any_of HT_.out (by kernel_rfl)) (fun _ _ _ h => h) (Or.inr ⟨by rfl, rfl⟩) ?_ ?_
            rotate_left
            · simp only [Act.put, List.setIfInBounds_toArray, List.set_cons_zero, List.set_cons_succ, i64_w, i32_w]
              rfl
            refine pure_ (i := 26) (N := some 58) (v := ?_) (a' := ?_) #[true, true, true, true, true, true, true, true, true, true, true, true, true, true, true, true, true, true, true, true, true, true, true, true, true, true, true] rfl rfl (any_of HT_.out (by kernel_rfl)) (fun _ _ _ h => h) (Or.inl ⟨by rfl, ?_⟩) ?_ ?_
            rotate_left
            · intro w'
              go_simp
              with_reducible rfl
            rotate_left
            · simp only [Act.put, List.setIfInBounds_toArray, List.set_cons_zero, List.set_cons_succ, i64_w, i32_w]
              rfl
            refine done_ (done_of HT_.out (by kernel_rfl)) ?_
            go_wp2
            first | go_roundg q | (refine Handed.intro q ?measure ?_; rotate_left; go_step; (try simp only [add_plain]); (repeat apply Exists.intro); refine ⟨?rel, rfl⟩)
            case measure => omega
            case rel => exact ⟨wrap64 (e + 1), ys, Ay, cy, (by first | rfl | (simp; done)), ⟨H⟩, ⟨hF3⟩⟩
      · rw [if_neg c5] at H2
        obtain rfl := Option.some.inj H2
        have c5b0 : decide (e < wrap64 (2 * s)) = false := decide_eq_false c5
        go_wp2
        go_end0
        obtain ⟨h1, h2, h3, h4, h5⟩ := HF.out
        exact ⟨rfl, _, h1, h2, Kd.R_mono h3 (fun k hk => hW.1 k hk.symm), h4, h5⟩
/-! the rows are made -/
theorem impl_Graph_closedWalks.put2 {w : World} {base g n cap : Nat} {ok : Nat → Prop} {xs : List (List Int)} (h : Kd.S (Kd.slice 2 (Kd.int .i64)) 26 w base ok (.slice (some ⟨g, 0, none⟩) n cap) xs) (i j : Int) (hi0 : 0 ≤ i) (hi : i < n) (hj0 : 0 ≤ j) (hj : j < ((rd_L1 xs i).length : Int)) :
    ∃ hb c', w.cell? ⟨g, i.toNat, none⟩ = some (.slice (some ⟨hb, 0, none⟩) (rd_L1 xs i).length c') ∧ w.cell? ⟨hb, j.toNat, none⟩ = some (.int .i64 (rd (rd_L1 xs i) j)) ∧ w.frozen? ⟨hb, j.toNat, none⟩ = false ∧ ok hb ∧ base ≤ hb ∧ hb ≠ g ∧ (∃ cells, w.heap[hb]? = some (.cells cells 2 (0, 0))) ∧
      ∀ u, Kd.S (Kd.slice 2 (Kd.int .i64)) 26 (w.setCell ⟨hb, j.toNat, none⟩ (.int .i64 u)) base ok (.slice (some ⟨g, 0, none⟩) n cap) (xs.set i.toNat ((rd_L1 xs i).set j.toNat u)) := by
  obtain ⟨oki, c, hcl, hM, hcc, hok, hbk⟩ := Kd.S_borrow h [] i hi0 hi
  obtain ⟨v, rfl, hR⟩ := hM
  replace hR := (show Kd.R (Kd.int .i64) 2 w base oki v (rd_L1 xs i) from hR)
  obtain ⟨hb, cap', rfl, hbase, hlt, hcells⟩ := Kd.R_form hR (by omega)
  obtain ⟨h1, h2⟩ := Kd.R_celln 0 hR j hj0 hj
  have hcell := hcc 0 _ rfl
  rw [show (Kd.slice 2 (Kd.int .i64)).sz = 1 from rfl, Nat.mul_one, Nat.add_zero] at hcell
  have hin := hok hb (hR.1 hb rfl)
  refine ⟨hb, cap', (by have e : (⟨g, 0, none⟩ : Addr).add i.toNat = ⟨g, i.toNat, none⟩ := (by unfold Addr.add; split <;> simp <;> omega)
                        rw [e] at hcell
                        exact hcell), h1, h2, hin.1, hbase, fun e => hin.2 (by rw [e]; rfl), hcells, fun u => ?_⟩
  obtain ⟨hp1, hp2⟩ := Kd.R_putg hR j u
  exact hbk hp2 (fun k hk => by injection hk with hk; subst hk; exact hR.1 _ rfl) ⟨_, rfl, hp1⟩
def impl_Graph_closedWalks.l0 (m : Int) : Nat → Int → List (List Int) → Option (List (List Int))
  | 0, _, _ => none
  | q + 1, e, x => if e < m then (if (0 ≤ e ∧ e < (x.length : Int)) ∧ e < ((rd_L1 x e).length : Int) then impl_Graph_closedWalks.l0 m q (wrap64 (e + 1)) (x.set e.toNat ((rd_L1 x e).set e.toNat 1)) else none) else some x
def impl_Graph_closedWalks.lc (i m : Int) : Nat → Int → List (List Int) → Option (List (List Int))
  | 0, _, _ => none
  | q + 1, f, x => if f < m then (if (0 ≤ i ∧ i < (x.length : Int)) ∧ 0 ≤ f ∧ f < ((rd_L1 x i).length : Int) ∧ ((rd_L1 x i).length : Int) = m then impl_Graph_closedWalks.lc i m q (wrap64 (f + 1)) (x.set i.toNat ((rd_L1 x i).set f.toNat (if 1 < rd (rd_L1 x i) f then 1 else rd (rd_L1 x i) f))) else none) else some x
def impl_Graph_closedWalks.lr (m : Int) : Nat → Int → List (List Int) → Option (List (List Int))
  | 0, _, _ => none
  | q + 1, i, x => if i < m then (if 0 ≤ i ∧ i < (x.length : Int) then (impl_Graph_closedWalks.lc i ((rd_L1 x i).length : Int) ((rd_L1 x i).length + 1) 0 x).bind fun y => impl_Graph_closedWalks.lr m q (wrap64 (i + 1)) y else none) else some x
def impl_Graph_closedWalks.lw (k : Nat) (mx : List (List Int)) (K : Int) : Nat → Int → List (List (List Int)) → Option (List (List (List Int)))
  | 0, _, _ => none
  | q + 1, i, wy => if i < K then (if 0 ≤ i ∧ i < (wy.length : Int) then (impl_rowsTimes.f k (wy.getD i.toNat []) mx).bind fun nx => (impl_Graph_closedWalks.lr (nx.length : Int) (nx.length + 1) 0 nx).bind fun ny => if wy.length < 5864062014805 then impl_Graph_closedWalks.lw k mx K q (wrap64 (i + 1)) (wy ++ [ny]) else none else none) else some wy
def impl_Graph_closedWalks.f (k : Nat) (a0_0 : Int) (l0_1 : List (List Int)) (a1 : Int) : Option (List (List Int) × Bool) := (impl_Graph_closedNumber.f k a0_0 l0_1 a1).bind fun t => if t > 400 then some ([], false) else
  (impl_Graph_size.f a0_0 l0_1).bind fun s => (impl_square.f k (wrap64 (2 * s))).bind fun fst => (impl_Graph_edgeMatrix.f k a0_0 l0_1).bind fun mx => (impl_Graph_closedWalks.l0 (fst.length : Int) (fst.length + 1) 0 fst).bind fun d =>
  (impl_Graph_closedWalks.lw k mx a1 (a1.toNat + 1) 0 [d]).bind fun wy => if 0 ≤ a1 ∧ a1 ≤ 1000 then (impl_Graph_closedWalks.go a0_0 l0_1 wy a1 a1.toNat [] []).bind fun r => some (r, true) else none
abbrev impl_Graph_closedWalks.Sg := Value × Nat × Value × Nat × Nat
/-- What holds on the way through the region that makes them: which of the steps (the first square, its row, the matrix, the variable) are done; where. -/
def impl_Graph_closedWalks.J (w0 wS : World) (fst mx : List (List Int)) (m3 m4 m6 m7 : Bool) (s : impl_Graph_closedWalks.Sg) (w' : World) : Prop :=
  Below w0.heap.size w0 w' ∧ Below wS.heap.size wS w' ∧ (m3 = true → Kd.S (Kd.slice 2 (Kd.int .i64)) 26 w' w0.heap.size (fun k => wS.heap.size ≤ k ∧ (m6 = true → k < s.2.2.2.1)) s.1 fst) ∧
    (m4 = true → w'.heap[s.2.1]? = some (.cells #[s.1] 22 (0, 0)) ∧ w0.heap.size ≤ s.2.1) ∧
    (m6 = true → Kd.S (Kd.slice 2 (Kd.int .i64)) 26 w' w0.heap.size (fun k => s.2.2.2.1 ≤ k) s.2.2.1 mx ∧ s.2.2.2.1 ≤ w'.heap.size) ∧
    (m7 = true → w'.heap[s.2.2.2.2]? = some (.cells #[.slice none 0 0] 88 (0, 0)) ∧ w0.heap.size ≤ s.2.2.2.2)
section
variable {w0 wS w1 w2 : World} {fst mx : List (List Int)} {m3 m4 m6 m7 : Bool} {s : impl_Graph_closedWalks.Sg}
theorem impl_Graph_closedWalks.J.below (h : impl_Graph_closedWalks.J w0 wS fst mx m3 m4 m6 m7 s w1) (hb : Below w1.heap.size w1 w2) : impl_Graph_closedWalks.J w0 wS fst mx m3 m4 m6 m7 s w2 := by
  obtain ⟨h1, h2, h3, h4, h6, h7⟩ := h
  have := hb.size
  exact ⟨below_step h1 hb, below_step h2 hb, fun e => Kd.S_below (h3 e) hb, fun e => ⟨blk_below (h4 e).1 hb, (h4 e).2⟩, fun e => ⟨Kd.S_below (h6 e).1 hb, Nat.le_trans (h6 e).2 this⟩, fun e => ⟨blk_below (h7 e).1 hb, (h7 e).2⟩⟩
theorem impl_Graph_closedWalks.J.t3 (h : impl_Graph_closedWalks.J w0 wS fst mx false false false m7 s w1) (hb : Below w1.heap.size w1 w2) {v : Value} (hv : Kd.S (Kd.slice 2 (Kd.int .i64)) 26 w2 w1.heap.size (fun _ => True) v fst) : impl_Graph_closedWalks.J w0 wS fst mx true false false m7 (v, s.2) w2 := by
  have hz := h.1.size
  have hzS := h.2.1.size
  obtain ⟨h1, h2, h3, h4, h6, h7⟩ := h.below hb
  exact ⟨h1, h2, fun _ => Kd.S_lower (Kd.S_mono (Kd.S_bound hv) (fun _ hk => ⟨Nat.le_trans hzS hk.2.1, fun e => by cases e⟩)) hz, fun e => (by cases e), fun e => (by cases e), h7⟩
theorem impl_Graph_closedWalks.J.t4 (h : impl_Graph_closedWalks.J w0 wS fst mx true false m6 m7 s w1) : impl_Graph_closedWalks.J w0 wS fst mx true true m6 m7 (s.1, w1.heap.size, s.2.2) (w1.alloc (.cells #[s.1] 22)) := by
  have hz := h.1.size
  obtain ⟨h1, h2, h3, h4, h6, h7⟩ := h.below (below_alloc (Below.refl _ _) (.cells #[s.1] 22))
  exact ⟨h1, h2, h3, fun _ => ⟨blk_new w1 _, hz⟩, h6, h7⟩
theorem impl_Graph_closedWalks.J.t6 (h : impl_Graph_closedWalks.J w0 wS fst mx true m4 false m7 s w1) (hb : Below w1.heap.size w1 w2) {v : Value} (hv : Kd.S (Kd.slice 2 (Kd.int .i64)) 26 w2 w1.heap.size (fun _ => True) v mx) : impl_Graph_closedWalks.J w0 wS fst mx true m4 true m7 (s.1, s.2.1, v, w1.heap.size, s.2.2.2.2) w2 := by
  have hz := h.1.size
  have hf := Kd.S_old (h.2.2.1 rfl) hb
  have hsz := hb.size
  obtain ⟨h1, h2, h3, h4, h6, h7⟩ := h.below hb
  exact ⟨h1, h2, fun _ => Kd.S_mono hf (fun _ hk => ⟨hk.1.1, fun _ => hk.2⟩), h4, fun _ => ⟨Kd.S_lower (Kd.S_mono (Kd.S_bound hv) (fun _ hk => hk.2.1)) hz, hsz⟩, h7⟩
theorem impl_Graph_closedWalks.J.t7 (h : impl_Graph_closedWalks.J w0 wS fst mx m3 m4 m6 false s w1) : impl_Graph_closedWalks.J w0 wS fst mx m3 m4 m6 true (s.1, s.2.1, s.2.2.1, s.2.2.2.1, w1.heap.size) (w1.alloc (.cells #[.slice none 0 0] 88)) := by
  have hz := h.1.size
  obtain ⟨h1, h2, h3, h4, h6, h7⟩ := h.below (below_alloc (Below.refl _ _) (.cells #[.slice none 0 0] 88))
  exact ⟨h1, h2, h3, h4, h6, fun _ => ⟨blk_new w1 _, hz⟩⟩
end
def impl_Graph_closedWalks.T3 : Bool × List (List Nat × List Nat) := (true, [([], []), ([0], [0]), ([1], [1]), ([2, 1], [2]), ([3], [3]), ([], []), ([5, 3], [5]), ([], []), ([7, 4, 6, 0, 1, 2, 3, 4, 7], [4, 7]), ([6, 8, 0, 1, 2, 3, 4, 5, 6, 7, 8], [6])])
def impl_Graph_closedWalks.B3 : List Nat := [0, 1, 3, 7, 15, 0, 47, 0, 255, 511]
theorem impl_Graph_closedWalks.info22 : (Try.prog.info? 22).map (fun i => (i.zero, i.size, i.bytes)) = some (some (.slice none 0 0), 1, 24) := by kernel_rfl
theorem impl_Graph_closedWalks.tab3 : rtab .any (opsOf Try.f75 3) = impl_Graph_closedWalks.T3 := by kernel_rfl
theorem impl_Graph_closedWalks.bits3 : waitsOk impl_Graph_closedWalks.T3.2 impl_Graph_closedWalks.B3 = true := by kernel_rfl
theorem impl_Graph_closedWalks.ok (n : Int) (A : Option Addr) (c : Nat) (l : List (List Int)) (Aw : Option Addr) (cw : Nat) (wy : List (List (List Int))) (w0 : World) (hr : Kd.C (Kd.slice 2 (Kd.int .i64)) w0 A l.length l) (hc : l.length ≤ c) (hrw : Kd.C (Kd.slice 26 (Kd.slice 2 (Kd.int .i64))) w0 Aw wy.length wy) (K bk bo bg bw bx : Nat) (hlo : w0.heap.size ≤ bo)
    (hbk : w0.heap[bk]? = some (.cells #[.int .i64 K] 2 (0, 0))) (hbg : w0.heap[bg]? = some (.cells #[.int .i64 n, .slice A l.length c] 29 (0, 0))) (hbw : w0.heap[bw]? = some (.cells #[.slice Aw wy.length cw] 88 (0, 0))) : ∀ d, impl_Graph_closedWalks.OK n l wy w0 K bk bo bg bw bx d
  | 0 => impl_Graph_closedWalks.ok0 n l wy w0 K bk bo bg bw bx hlo hbk
  | d + 1 => impl_Graph_closedWalks.step n A c l Aw cw wy w0 hr hc hrw K bk bo bg bw bx hlo hbk hbg hbw d (impl_Graph_closedWalks.ok n A c l Aw cw wy w0 hr hc hrw K bk bo bg bw bx hlo hbk hbg hbw d)
theorem impl_Graph_closedWalks.run_store_func {P : Program} {w : World} (a : Addr) (m : Mode) (fn : Fn) (first captured : Array Value) : (store a (.func fn first captured) m).run P w = stored P w a (.func fn first captured) m := run_store P w a _ m rfl
attribute [local go_sem] impl_Graph_closedWalks.run_store_func
set_option maxHeartbeats 8000000 in
set_option maxRecDepth 100000 in
theorem impl_Graph_closedWalks.calls (k : Nat) (a0_0 : Int) (A0_1 : Option Addr) (c0_1 : Nat) (l0_1 : List (List Int)) (a1 : Int) (r1 : List (List Int)) (r2 : Bool) (w : World) (hr0_1 : Kd.C (Kd.slice 2 (Kd.int .i64)) w A0_1 l0_1.length l0_1) (hc0_1 : l0_1.length ≤ c0_1) (h : impl_Graph_closedWalks.f k a0_0 l0_1 a1 = some (r1, r2)) :
    Calls Try.prog 75 #[.agg #[.int .i64 a0_0, .slice A0_1 l0_1.length c0_1], .int .i64 a1] w fun e w' => ∃ v0_ : Value, e = .returned (.tuple #[v0_, .bool r2]) ∧ Kd.S (Kd.slice 2 (Kd.int .i64)) 26 w' w.heap.size (fun _ => True) v0_ r1 ∧ Below w.heap.size w w' := by
  obtain ⟨t, At, H⟩ := bnd_ h
  clear h
  by_cases c1 : t > 400
  · rw [if_pos c1] at H
    simp only [Option.some.injEq, Prod.mk.injEq] at H
    obtain ⟨rfl, rfl⟩ := H
    have c1b0 : decide (t > 400) = true := decide_eq_true c1
    clear c1
    go_enter Try.func75, Try.ntmps75
    go_wp2_with (first
      | ((with_reducible refine gate_dst (N := 2) rfl ?_); refine box_event ?hg (N := 2) ?hd (cs := #[.int .i64 a0_0, .slice A0_1 l0_1.length c0_1]) (t := 29) ?hr ?_; (case hd => rfl); (case hg => rfl); (case hr => first | (go_simp; done) | (go_simp; rfl)); intro g2 hg_ w2 hx2 hb; clear hg_; have hB1 := below_step (Below.refl w.heap.size w) hb; clear hb; have hcz0 : w2.cell? ⟨g2, 0, none⟩ = some (.int .i64 a0_0) := (blk_cell hx2 0).trans rfl; have hcz1 : w2.cell? ⟨g2, 1, none⟩ = some (.slice A0_1 l0_1.length c0_1) := (blk_cell hx2 1).trans rfl)
      | ((with_reducible refine gate_dst (N := 3) rfl ?_); refine box_event ?hg (N := 3) ?hd (cs := #[.int .i64 a1]) (t := 2) ?hr ?_; (case hd => rfl); (case hg => rfl); (case hr => first | (go_simp; done) | (go_simp; rfl)); intro g3 hg_ w3 hx3 hb; clear hg_ hcz0 hcz1; have hB2 := below_step hB1 hb; replace hx2 := blk_below hx2 hb; clear hb; have hcz0 : w3.cell? ⟨g2, 0, none⟩ = some (.int .i64 a0_0) := (blk_cell hx2 0).trans rfl; have hcz1 : w3.cell? ⟨g2, 1, none⟩ = some (.slice A0_1 l0_1.length c0_1) := (blk_cell hx2 1).trans rfl; have hcz2 : w3.cell? ⟨g3, 0, none⟩ = some (.int .i64 a1) := (blk_cell hx3 0).trans rfl)
      | ((with_reducible refine gate_callee (f := 109) rfl ?_); refine goesL_ (some 19) rfl rfl Try.func109 (by kernel_rfl) rfl #[.agg #[.int .i64 a0_0, .slice A0_1 l0_1.length c0_1], .int .i64 a1] rfl (by (try simp only [List.map_toArray, List.map_cons, List.map_nil]); first | done | rfl) ?_; (with_reducible refine (impl_Graph_closedNumber.calls k a0_0 _ _ l0_1 a1 t _ ?side1 ?side2 At.out).mono ?_); (case side1 => exact Kd.C_below hr0_1 hB2); (case side2 => exact hc0_1); rintro e w4 ⟨rfl, hb⟩; refine ⟨_, rfl, ?_⟩; clear hcz0 hcz1 hcz2; replace hx2 := blk_below hx2 hb; replace hx3 := blk_below hx3 hb; have hB3 := below_step hB2 hb; clear hb))
    go_ret2
    exact ⟨_, rfl, Kd.S_nil _ _ _ _ _, hB3⟩
  · rw [if_neg c1] at H
    have c1b0 : decide (t > 400) = false := decide_eq_false c1
    clear c1
    obtain ⟨s, As, H⟩ := bnd_ H
    obtain ⟨fst, Af, H⟩ := bnd_ H
    obtain ⟨mx, Am, H⟩ := bnd_ H
    obtain ⟨dd, Ad, H⟩ := bnd_ H
    obtain ⟨wyR, Aw, H⟩ := bnd_ H
    obtain ⟨⟨hk0, hk1⟩, H⟩ := itn_ H
    obtain ⟨K, rfl⟩ := Int.eq_ofNat_of_zero_le hk0
    obtain ⟨rr, Arr, H⟩ := bnd_ H
    simp only [Option.some.injEq, Prod.mk.injEq] at H
    obtain ⟨rfl, rfl⟩ := H
    go_enter Try.func75, Try.ntmps75
    go_wp2_with (first
      | ((with_reducible refine gate_dst (N := 2) rfl ?_); refine box_event ?hg (N := 2) ?hd (cs := #[.int .i64 a0_0, .slice A0_1 l0_1.length c0_1]) (t := 29) ?hr ?_; (case hd => rfl); (case hg => rfl); (case hr => first | (go_simp; done) | (go_simp; rfl)); intro g2 hg_ w2 hx2 hb; clear hg_; have hB1 := below_step (Below.refl w.heap.size w) hb; clear hb; have hcz0 : w2.cell? ⟨g2, 0, none⟩ = some (.int .i64 a0_0) := (blk_cell hx2 0).trans rfl; have hcz1 : w2.cell? ⟨g2, 1, none⟩ = some (.slice A0_1 l0_1.length c0_1) := (blk_cell hx2 1).trans rfl)
      | ((with_reducible refine gate_dst (N := 3) rfl ?_); refine box_event ?hg (N := 3) ?hd (cs := #[.int .i64 (K : Int)]) (t := 2) ?hr ?_; (case hd => rfl); (case hg => rfl); (case hr => first | (go_simp; done) | (go_simp; rfl)); intro g3 hg_ w3 hx3 hb; clear hg_ hcz0 hcz1; have hB2 := below_step hB1 hb; replace hx2 := blk_below hx2 hb; clear hb; have hcz0 : w3.cell? ⟨g2, 0, none⟩ = some (.int .i64 a0_0) := (blk_cell hx2 0).trans rfl; have hcz1 : w3.cell? ⟨g2, 1, none⟩ = some (.slice A0_1 l0_1.length c0_1) := (blk_cell hx2 1).trans rfl; have hcz2 : w3.cell? ⟨g3, 0, none⟩ = some (.int .i64 (K : Int)) := (blk_cell hx3 0).trans rfl)
      | ((with_reducible refine gate_callee (f := 109) rfl ?_); refine goesL_ (some 19) rfl rfl Try.func109 (by kernel_rfl) rfl #[.agg #[.int .i64 a0_0, .slice A0_1 l0_1.length c0_1], .int .i64 (K : Int)] rfl (by (try simp only [List.map_toArray, List.map_cons, List.map_nil]); first | done | rfl) ?_; (with_reducible refine (impl_Graph_closedNumber.calls k a0_0 _ _ l0_1 (K : Int) t _ ?side1 ?side2 At.out).mono ?_); (case side1 => exact Kd.C_below hr0_1 hB2); (case side2 => exact hc0_1); rintro e w4 ⟨rfl, hb⟩; refine ⟨_, rfl, ?_⟩; clear hcz0 hcz1 hcz2; replace hx2 := blk_below hx2 hb; replace hx3 := blk_below hx3 hb; have hB3 := below_step hB2 hb; clear hb))
    have hH0 : w4.drew.cell? ⟨g2, 0, none⟩ = some (.int .i64 a0_0) ∧ w4.drew.cell? ⟨g2, 1, none⟩ = some (.slice A0_1 l0_1.length c0_1) := ⟨(blk_cell hx2 0).trans rfl, (blk_cell hx2 1).trans rfl⟩
    refine start_ (n := 10) (S := fun w' => w'.cell? ⟨g2, 0, none⟩ = some (.int .i64 a0_0) ∧ w'.cell? ⟨g2, 1, none⟩ = some (.slice A0_1 l0_1.length c0_1)) (ds := []) #[false, false, false, false, false, false, false, false, false, false] (by kernel_rfl) rfl rfl hH0 (fun hHeld => ?_); refine with_tabW impl_Graph_closedWalks.tab3 impl_Graph_closedWalks.bits3 (fun HT_ HW_ => ?_)
    clear hH0
    have hg := blk_drew hx2
    have hk := blk_drew hx3
    have hB1 : Below w.heap.size w w4.drew := below_drew1 hB3
    generalize w4.drew = w1 at hg hk hB1 hHeld ⊢
    refine take_ (i := 0) (N := some 21) (v := ?_) (a' := ?_) #[true, false, false, false, false, false, false, false, false, false] rfl rfl (take_ofW HT_.out HW_.out (by kernel_rfl)) (fun _ _ _ h => h) (Or.inl ⟨by rfl, ?_⟩) hHeld ?_ ?_
    rotate_left
    · rintro w' ⟨s0, s1⟩
      go_simp
      with_reducible rfl
    rotate_left
    · simp only [Act.put, List.setIfInBounds_toArray, List.set_cons_zero, List.set_cons_succ, i64_w, i32_w]
      rfl
    refine take_ (i := 5) (N := some 26) (v := ?_) (a' := ?_) #[true, false, false, false, false, true, false, false, false, false] rfl rfl (take_ofW HT_.out HW_.out (by kernel_rfl)) (fun _ _ _ h => h) (Or.inl ⟨by rfl, ?_⟩) hHeld ?_ ?_
    rotate_left
    · rintro w' ⟨s0, s1⟩
      go_simp
      with_reducible rfl
    rotate_left
    · simp only [Act.put, List.setIfInBounds_toArray, List.set_cons_zero, List.set_cons_succ, i64_w, i32_w]
      rfl
    refine join_ (σ := impl_Graph_closedWalks.Sg) 2 #[true, true, true, true, true, true, true, true, false, false] (fun s_ => [(22, .int .i64 s), (23, .int .i64 (wrap64 (2 * s))), (24, s_.1), (25, .slice (some ⟨s_.2.1, 0, none⟩) 1 1), (27, s_.2.2.1), (6, .pointer (some ⟨s_.2.2.2.2, 0, none⟩))]) (fun s_ w' => impl_Graph_closedWalks.J w w1 fst mx true true true true s_ w') ?_ ?_
    rotate_left
    · intro hJ1_3_4_6_7
      refine join_ (σ := impl_Graph_closedWalks.Sg) 3 #[true, true, true, true, true, true, true, false, false, false] (fun s_ => [(22, .int .i64 s), (23, .int .i64 (wrap64 (2 * s))), (24, s_.1), (25, .slice (some ⟨s_.2.1, 0, none⟩) 1 1), (27, s_.2.2.1)]) (fun s_ w' => impl_Graph_closedWalks.J w w1 fst mx true true true false s_ w') ?_ ?_
      rotate_left
      · intro hJ1_3_4_6
        refine join_ (σ := impl_Graph_closedWalks.Sg) 3 #[true, true, true, true, false, true, true, true, false, false] (fun s_ => [(22, .int .i64 s), (23, .int .i64 (wrap64 (2 * s))), (24, s_.1), (27, s_.2.2.1), (6, .pointer (some ⟨s_.2.2.2.2, 0, none⟩))]) (fun s_ w' => impl_Graph_closedWalks.J w w1 fst mx true false true true s_ w') ?_ ?_
        rotate_left
        · intro hJ1_3_6_7
          refine join_ (σ := impl_Graph_closedWalks.Sg) 3 #[true, true, true, true, true, true, false, true, false, false] (fun s_ => [(22, .int .i64 s), (23, .int .i64 (wrap64 (2 * s))), (24, s_.1), (25, .slice (some ⟨s_.2.1, 0, none⟩) 1 1), (6, .pointer (some ⟨s_.2.2.2.2, 0, none⟩))]) (fun s_ w' => impl_Graph_closedWalks.J w w1 fst mx true true false true s_ w') ?_ ?_
          rotate_left
          · intro hJ1_3_4_7
            refine join_ (σ := impl_Graph_closedWalks.Sg) 4 #[true, true, true, true, false, true, true, false, false, false] (fun s_ => [(22, .int .i64 s), (23, .int .i64 (wrap64 (2 * s))), (24, s_.1), (27, s_.2.2.1)]) (fun s_ w' => impl_Graph_closedWalks.J w w1 fst mx true false true false s_ w') ?_ ?_
            rotate_left
            · intro hJ1_3_6
              refine join_ (σ := impl_Graph_closedWalks.Sg) 4 #[true, true, true, true, true, true, false, false, false, false] (fun s_ => [(22, .int .i64 s), (23, .int .i64 (wrap64 (2 * s))), (24, s_.1), (25, .slice (some ⟨s_.2.1, 0, none⟩) 1 1)]) (fun s_ w' => impl_Graph_closedWalks.J w w1 fst mx true true false false s_ w') ?_ ?_
              rotate_left
              · intro hJ1_3_4
                refine join_ (σ := impl_Graph_closedWalks.Sg) 4 #[true, true, true, true, false, true, false, true, false, false] (fun s_ => [(22, .int .i64 s), (23, .int .i64 (wrap64 (2 * s))), (24, s_.1), (6, .pointer (some ⟨s_.2.2.2.2, 0, none⟩))]) (fun s_ w' => impl_Graph_closedWalks.J w w1 fst mx true false false true s_ w') ?_ ?_
                rotate_left
                · intro hJ1_3_7
                  refine join_ (σ := impl_Graph_closedWalks.Sg) 5 #[true, true, true, true, false, true, false, false, false, false] (fun s_ => [(22, .int .i64 s), (23, .int .i64 (wrap64 (2 * s))), (24, s_.1)]) (fun s_ w' => impl_Graph_closedWalks.J w w1 fst mx true false false false s_ w') ?_ ?_
                  rotate_left
                  · intro hJ1_3
                    refine join_ (σ := impl_Graph_closedWalks.Sg) 5 #[true, true, true, false, false, true, false, true, false, false] (fun s_ => [(22, .int .i64 s), (23, .int .i64 (wrap64 (2 * s))), (6, .pointer (some ⟨s_.2.2.2.2, 0, none⟩))]) (fun s_ w' => impl_Graph_closedWalks.J w w1 fst mx false false false true s_ w') ?_ ?_
                    rotate_left
                    · intro hJ1_7
                      refine join_ (σ := impl_Graph_closedWalks.Sg) 6 #[true, true, true, false, false, true, false, false, false, false] (fun s_ => [(22, .int .i64 s), (23, .int .i64 (wrap64 (2 * s)))]) (fun s_ w' => impl_Graph_closedWalks.J w w1 fst mx false false false false s_ w') ?_ ?_
                      rotate_left
                      · intro hJ1
                        refine join_ (σ := impl_Graph_closedWalks.Sg) 7 #[true, false, false, false, false, true, false, true, false, false] (fun s_ => [(6, .pointer (some ⟨s_.2.2.2.2, 0, none⟩))]) (fun s_ w' => impl_Graph_closedWalks.J w w1 fst mx false false false true s_ w') ?_ ?_
                        rotate_left
                        · intro hJ7
                          have hJ : impl_Graph_closedWalks.J w w1 fst mx false false false false (.nilFunc, 0, .nilFunc, 0, 0) w1 := ⟨hB1, Below.refl _ _, fun e => (by cases e), fun e => (by cases e), fun e => (by cases e), fun e => (by cases e)⟩
                          refine two_ (i := 1) (j := 7) (Ni := some 22) (Nj := some 6) #[true, true, false, false, false, true, false, false, false, false] #[true, false, false, false, false, true, false, true, false, false] rfl rfl rfl rfl (two_of HT_.out (by kernel_rfl)) (by decide) (by decide) (fun K hK => ?_) (fun K hK => ?_)
                          · skip
                            refine goes_ Try.func104 (by kernel_rfl) rfl #[.agg #[.int .i64 a0_0, .slice A0_1 l0_1.length c0_1]] (by rfl) rfl rfl arg_ ?_
                            with_reducible refine (impl_Graph_size.calls a0_0 _ _ l0_1 s _ ?side1 ?side2 As.out).mono ?_
                            (case side1 => exact Kd.C_below hr0_1 hJ.1)
                            (case side2 => exact hc0_1)
                            rintro e w2 ⟨rfl, hb⟩
                            refine ⟨_, rfl, ?_⟩
                            have hJ2 := hJ.below hb
                            refine hK.out _ _ ⟨(blk_cell (blk_below hg hJ2.2.1) 0).trans rfl, (blk_cell (blk_below hg hJ2.2.1) 1).trans rfl⟩ (fun hHeld => ?_)
                            clear hK K
                            refine norm_ (a' := ?_) ?_ ?_
                            rotate_left
                            · show Act.put _ (some 22) _ = _
                              simp only [Act.put, List.setIfInBounds_toArray, List.set_cons_zero, List.set_cons_succ, i64_w, i32_w]
                              rfl
                            refine pure_ (i := 2) (N := some 23) (v := ?_) (a' := ?_) #[true, true, true, false, false, true, false, false, false, false] rfl rfl (any_of HT_.out (by kernel_rfl)) (fun _ _ _ h => h) (Or.inl ⟨by rfl, ?_⟩) ?_ ?_
                            rotate_left
                            · intro w'
                              go_simp
                              with_reducible rfl
                            rotate_left
                            · simp only [Act.put, List.setIfInBounds_toArray, List.set_cons_zero, List.set_cons_succ, i64_w, i32_w]
                              rfl
                            exact norm_ (by first | (simp only [putAll, Act.put, List.setIfInBounds_toArray, List.set_cons_zero, List.set_cons_succ]; done) | (simp only [putAll, Act.put, List.setIfInBounds_toArray, List.set_cons_zero, List.set_cons_succ]; rfl)) (hJ1 _ _ hJ2)
                          · skip
                            refine event_step (v := .pointer (some ⟨w1.heap.size, 0, none⟩)) (w1 := w1.alloc (.cells #[.slice none 0 0] 88 (0, 0))) (by rfl) ?hr ?_
                            (case hr => first | (go_simp; done) | (go_simp; rfl))
                            have hJ2 := hJ.t7
                            refine hK.out _ _ ⟨(blk_cell (blk_below hg hJ2.2.1) 0).trans rfl, (blk_cell (blk_below hg hJ2.2.1) 1).trans rfl⟩ (fun hHeld => ?_)
                            clear hK K
                            refine norm_ (a' := ?_) ?_ ?_
                            rotate_left
                            · show Act.put _ (some 6) _ = _
                              simp only [Act.put, List.setIfInBounds_toArray, List.set_cons_zero, List.set_cons_succ, i64_w, i32_w]
                              rfl
                            exact norm_ (by first | (simp only [putAll, Act.put, List.setIfInBounds_toArray, List.set_cons_zero, List.set_cons_succ]; done) | (simp only [putAll, Act.put, List.setIfInBounds_toArray, List.set_cons_zero, List.set_cons_succ]; rfl)) (hJ7 _ _ hJ2)
                        · skip
                          rintro ⟨v24, a25, v27, bm, g6⟩ w1 hJ
                          have hHeld : w1.cell? ⟨g2, 0, none⟩ = some (.int .i64 a0_0) ∧ w1.cell? ⟨g2, 1, none⟩ = some (.slice A0_1 l0_1.length c0_1) := ⟨(blk_cell (blk_below hg hJ.2.1) 0).trans rfl, (blk_cell (blk_below hg hJ.2.1) 1).trans rfl⟩
                          refine norm_ (a' := ?_) ?_ ?_
                          rotate_left
                          · simp only [putAll, Act.put, List.setIfInBounds_toArray, List.set_cons_zero, List.set_cons_succ]
                            rfl
                          refine one_ (i := 1) (N := some 22) #[true, true, false, false, false, true, false, true, false, false] rfl rfl (one_of HT_.out (by kernel_rfl)) (by decide) (fun K hK => ?_)
                          refine goes_ Try.func104 (by kernel_rfl) rfl #[.agg #[.int .i64 a0_0, .slice A0_1 l0_1.length c0_1]] (by rfl) rfl rfl arg_ ?_
                          with_reducible refine (impl_Graph_size.calls a0_0 _ _ l0_1 s _ ?side1 ?side2 As.out).mono ?_
                          (case side1 => exact Kd.C_below hr0_1 hJ.1)
                          (case side2 => exact hc0_1)
                          rintro e w2 ⟨rfl, hb⟩
                          refine ⟨_, rfl, ?_⟩
                          have hJ2 := hJ.below hb
                          refine hK.out _ _ ⟨(blk_cell (blk_below hg hJ2.2.1) 0).trans rfl, (blk_cell (blk_below hg hJ2.2.1) 1).trans rfl⟩ (fun hHeld => ?_)
                          clear hK K
                          refine norm_ (a' := ?_) ?_ ?_
                          rotate_left
                          · show Act.put _ (some 22) _ = _
                            simp only [Act.put, List.setIfInBounds_toArray, List.set_cons_zero, List.set_cons_succ, i64_w, i32_w]
                            rfl
                          refine pure_ (i := 2) (N := some 23) (v := ?_) (a' := ?_) #[true, true, true, false, false, true, false, true, false, false] rfl rfl (any_of HT_.out (by kernel_rfl)) (fun _ _ _ h => h) (Or.inl ⟨by rfl, ?_⟩) ?_ ?_
                          rotate_left
                          · intro w'
                            go_simp
                            with_reducible rfl
                          rotate_left
                          · simp only [Act.put, List.setIfInBounds_toArray, List.set_cons_zero, List.set_cons_succ, i64_w, i32_w]
                            rfl
                          exact norm_ (by first | (simp only [putAll, Act.put, List.setIfInBounds_toArray, List.set_cons_zero, List.set_cons_succ]; done) | (simp only [putAll, Act.put, List.setIfInBounds_toArray, List.set_cons_zero, List.set_cons_succ]; rfl)) (hJ1_7 _ _ hJ2)
                      · skip
                        rintro ⟨v24, a25, v27, bm, g6⟩ w1 hJ
                        have hHeld : w1.cell? ⟨g2, 0, none⟩ = some (.int .i64 a0_0) ∧ w1.cell? ⟨g2, 1, none⟩ = some (.slice A0_1 l0_1.length c0_1) := ⟨(blk_cell (blk_below hg hJ.2.1) 0).trans rfl, (blk_cell (blk_below hg hJ.2.1) 1).trans rfl⟩
                        refine norm_ (a' := ?_) ?_ ?_
                        rotate_left
                        · simp only [putAll, Act.put, List.setIfInBounds_toArray, List.set_cons_zero, List.set_cons_succ]
                          rfl
                        refine two_ (i := 3) (j := 7) (Ni := some 24) (Nj := some 6) #[true, true, true, true, false, true, false, false, false, false] #[true, true, true, false, false, true, false, true, false, false] rfl rfl rfl rfl (two_of HT_.out (by kernel_rfl)) (by decide) (by decide) (fun K hK => ?_) (fun K hK => ?_)
                        · skip
                          refine goes_ Try.func95 (by kernel_rfl) rfl #[.int .i64 (wrap64 (2 * s))] (by rfl) rfl rfl arg_ ?_
                          with_reducible refine (impl_square.calls k (wrap64 (2 * s)) fst _ Af.out).mono ?_
                          rintro e w2 ⟨v, rfl, hv, hb⟩
                          refine ⟨_, rfl, ?_⟩
                          have hJ2 := hJ.t3 hb hv
                          refine hK.out _ _ ⟨(blk_cell (blk_below hg hJ2.2.1) 0).trans rfl, (blk_cell (blk_below hg hJ2.2.1) 1).trans rfl⟩ (fun hHeld => ?_)
                          clear hK K
                          refine norm_ (a' := ?_) ?_ ?_
                          rotate_left
                          · show Act.put _ (some 24) _ = _
                            simp only [Act.put, List.setIfInBounds_toArray, List.set_cons_zero, List.set_cons_succ, i64_w, i32_w]
                            rfl
                          exact norm_ (by first | (simp only [putAll, Act.put, List.setIfInBounds_toArray, List.set_cons_zero, List.set_cons_succ]; done) | (simp only [putAll, Act.put, List.setIfInBounds_toArray, List.set_cons_zero, List.set_cons_succ]; rfl)) (hJ1_3 _ _ hJ2)
                        · skip
                          refine event_step (v := .pointer (some ⟨w1.heap.size, 0, none⟩)) (w1 := w1.alloc (.cells #[.slice none 0 0] 88 (0, 0))) (by rfl) ?hr ?_
                          (case hr => first | (go_simp; done) | (go_simp; rfl))
                          have hJ2 := hJ.t7
                          refine hK.out _ _ ⟨(blk_cell (blk_below hg hJ2.2.1) 0).trans rfl, (blk_cell (blk_below hg hJ2.2.1) 1).trans rfl⟩ (fun hHeld => ?_)
                          clear hK K
                          refine norm_ (a' := ?_) ?_ ?_
                          rotate_left
                          · show Act.put _ (some 6) _ = _
                            simp only [Act.put, List.setIfInBounds_toArray, List.set_cons_zero, List.set_cons_succ, i64_w, i32_w]
                            rfl
                          exact norm_ (by first | (simp only [putAll, Act.put, List.setIfInBounds_toArray, List.set_cons_zero, List.set_cons_succ]; done) | (simp only [putAll, Act.put, List.setIfInBounds_toArray, List.set_cons_zero, List.set_cons_succ]; rfl)) (hJ1_7 _ _ hJ2)
                    · skip
                      rintro ⟨v24, a25, v27, bm, g6⟩ w1 hJ
                      have hHeld : w1.cell? ⟨g2, 0, none⟩ = some (.int .i64 a0_0) ∧ w1.cell? ⟨g2, 1, none⟩ = some (.slice A0_1 l0_1.length c0_1) := ⟨(blk_cell (blk_below hg hJ.2.1) 0).trans rfl, (blk_cell (blk_below hg hJ.2.1) 1).trans rfl⟩
                      refine norm_ (a' := ?_) ?_ ?_
                      rotate_left
                      · simp only [putAll, Act.put, List.setIfInBounds_toArray, List.set_cons_zero, List.set_cons_succ]
                        rfl
                      refine one_ (i := 3) (N := some 24) #[true, true, true, true, false, true, false, true, false, false] rfl rfl (one_of HT_.out (by kernel_rfl)) (by decide) (fun K hK => ?_)
                      refine goes_ Try.func95 (by kernel_rfl) rfl #[.int .i64 (wrap64 (2 * s))] (by rfl) rfl rfl arg_ ?_
                      with_reducible refine (impl_square.calls k (wrap64 (2 * s)) fst _ Af.out).mono ?_
                      rintro e w2 ⟨v, rfl, hv, hb⟩
                      refine ⟨_, rfl, ?_⟩
                      have hJ2 := hJ.t3 hb hv
                      refine hK.out _ _ ⟨(blk_cell (blk_below hg hJ2.2.1) 0).trans rfl, (blk_cell (blk_below hg hJ2.2.1) 1).trans rfl⟩ (fun hHeld => ?_)
                      clear hK K
                      refine norm_ (a' := ?_) ?_ ?_
                      rotate_left
                      · show Act.put _ (some 24) _ = _
                        simp only [Act.put, List.setIfInBounds_toArray, List.set_cons_zero, List.set_cons_succ, i64_w, i32_w]
                        rfl
                      exact norm_ (by first | (simp only [putAll, Act.put, List.setIfInBounds_toArray, List.set_cons_zero, List.set_cons_succ]; done) | (simp only [putAll, Act.put, List.setIfInBounds_toArray, List.set_cons_zero, List.set_cons_succ]; rfl)) (hJ1_3_7 _ _ hJ2)
                  · skip
                    rintro ⟨v24, a25, v27, bm, g6⟩ w1 hJ
                    obtain ⟨A24, c24, e24⟩ := Kd.S_slice (hJ.2.2.1 rfl)
                    replace e24 : v24 = .slice A24 fst.length c24 := e24
                    subst e24
                    have hHeld : w1.cell? ⟨g2, 0, none⟩ = some (.int .i64 a0_0) ∧ w1.cell? ⟨g2, 1, none⟩ = some (.slice A0_1 l0_1.length c0_1) := ⟨(blk_cell (blk_below hg hJ.2.1) 0).trans rfl, (blk_cell (blk_below hg hJ.2.1) 1).trans rfl⟩
                    refine norm_ (a' := ?_) ?_ ?_
                    rotate_left
                    · simp only [putAll, Act.put, List.setIfInBounds_toArray, List.set_cons_zero, List.set_cons_succ]
                      rfl
                    refine three_ (i := 4) (j := 6) (k := 7) (Ni := some 25) (Nj := some 27) (Nk := some 6) #[true, true, true, true, true, true, false, false, false, false] #[true, true, true, true, false, true, true, false, false, false] #[true, true, true, true, false, true, false, true, false, false] rfl rfl rfl rfl rfl rfl (three_of HT_.out (by kernel_rfl)) (by decide) (by decide) (by decide) (fun K hK => ?_) (fun K hK => ?_) (fun K hK => ?_)
                    · skip
                      refine event_step (v := .slice (some ⟨w1.heap.size, 0, none⟩) 1 1) (w1 := w1.alloc (.cells #[.slice A24 fst.length c24] 22 (0, 0))) (by rfl) ?hr ?_
                      (case hr => first | (go_simp; done) | (go_simp; rfl))
                      have hJ2 := hJ.t4
                      refine hK.out _ _ ⟨(blk_cell (blk_below hg hJ2.2.1) 0).trans rfl, (blk_cell (blk_below hg hJ2.2.1) 1).trans rfl⟩ (fun hHeld => ?_)
                      clear hK K
                      refine norm_ (a' := ?_) ?_ ?_
                      rotate_left
                      · show Act.put _ (some 25) _ = _
                        simp only [Act.put, List.setIfInBounds_toArray, List.set_cons_zero, List.set_cons_succ, i64_w, i32_w]
                        rfl
                      exact norm_ (by first | (simp only [putAll, Act.put, List.setIfInBounds_toArray, List.set_cons_zero, List.set_cons_succ]; done) | (simp only [putAll, Act.put, List.setIfInBounds_toArray, List.set_cons_zero, List.set_cons_succ]; rfl)) (hJ1_3_4 _ _ hJ2)
                    · skip
                      refine goes_ Try.func99 (by kernel_rfl) rfl #[.agg #[.int .i64 a0_0, .slice A0_1 l0_1.length c0_1]] (by rfl) rfl rfl arg_ ?_
                      with_reducible refine (impl_Graph_edgeMatrix.calls k a0_0 _ _ l0_1 mx _ ?side1 ?side2 Am.out).mono ?_
                      (case side1 => exact Kd.C_below hr0_1 hJ.1)
                      (case side2 => exact hc0_1)
                      rintro e w2 ⟨v, rfl, hv, hb⟩
                      refine ⟨_, rfl, ?_⟩
                      have hJ2 := hJ.t6 hb hv
                      refine hK.out _ _ ⟨(blk_cell (blk_below hg hJ2.2.1) 0).trans rfl, (blk_cell (blk_below hg hJ2.2.1) 1).trans rfl⟩ (fun hHeld => ?_)
                      clear hK K
                      refine norm_ (a' := ?_) ?_ ?_
                      rotate_left
                      · show Act.put _ (some 27) _ = _
                        simp only [Act.put, List.setIfInBounds_toArray, List.set_cons_zero, List.set_cons_succ, i64_w, i32_w]
                        rfl
                      exact norm_ (by first | (simp only [putAll, Act.put, List.setIfInBounds_toArray, List.set_cons_zero, List.set_cons_succ]; done) | (simp only [putAll, Act.put, List.setIfInBounds_toArray, List.set_cons_zero, List.set_cons_succ]; rfl)) (hJ1_3_6 _ _ hJ2)
                    · skip
                      refine event_step (v := .pointer (some ⟨w1.heap.size, 0, none⟩)) (w1 := w1.alloc (.cells #[.slice none 0 0] 88 (0, 0))) (by rfl) ?hr ?_
                      (case hr => first | (go_simp; done) | (go_simp; rfl))
                      have hJ2 := hJ.t7
                      refine hK.out _ _ ⟨(blk_cell (blk_below hg hJ2.2.1) 0).trans rfl, (blk_cell (blk_below hg hJ2.2.1) 1).trans rfl⟩ (fun hHeld => ?_)
                      clear hK K
                      refine norm_ (a' := ?_) ?_ ?_
                      rotate_left
                      · show Act.put _ (some 6) _ = _
                        simp only [Act.put, List.setIfInBounds_toArray, List.set_cons_zero, List.set_cons_succ, i64_w, i32_w]
                        rfl
                      exact norm_ (by first | (simp only [putAll, Act.put, List.setIfInBounds_toArray, List.set_cons_zero, List.set_cons_succ]; done) | (simp only [putAll, Act.put, List.setIfInBounds_toArray, List.set_cons_zero, List.set_cons_succ]; rfl)) (hJ1_3_7 _ _ hJ2)
                · skip
                  rintro ⟨v24, a25, v27, bm, g6⟩ w1 hJ
                  obtain ⟨A24, c24, e24⟩ := Kd.S_slice (hJ.2.2.1 rfl)
                  replace e24 : v24 = .slice A24 fst.length c24 := e24
                  subst e24
                  have hHeld : w1.cell? ⟨g2, 0, none⟩ = some (.int .i64 a0_0) ∧ w1.cell? ⟨g2, 1, none⟩ = some (.slice A0_1 l0_1.length c0_1) := ⟨(blk_cell (blk_below hg hJ.2.1) 0).trans rfl, (blk_cell (blk_below hg hJ.2.1) 1).trans rfl⟩
                  refine norm_ (a' := ?_) ?_ ?_
                  rotate_left
                  · simp only [putAll, Act.put, List.setIfInBounds_toArray, List.set_cons_zero, List.set_cons_succ]
                    rfl
                  refine two_ (i := 4) (j := 6) (Ni := some 25) (Nj := some 27) #[true, true, true, true, true, true, false, true, false, false] #[true, true, true, true, false, true, true, true, false, false] rfl rfl rfl rfl (two_of HT_.out (by kernel_rfl)) (by decide) (by decide) (fun K hK => ?_) (fun K hK => ?_)
                  · skip
                    refine event_step (v := .slice (some ⟨w1.heap.size, 0, none⟩) 1 1) (w1 := w1.alloc (.cells #[.slice A24 fst.length c24] 22 (0, 0))) (by rfl) ?hr ?_
                    (case hr => first | (go_simp; done) | (go_simp; rfl))
                    have hJ2 := hJ.t4
                    refine hK.out _ _ ⟨(blk_cell (blk_below hg hJ2.2.1) 0).trans rfl, (blk_cell (blk_below hg hJ2.2.1) 1).trans rfl⟩ (fun hHeld => ?_)
                    clear hK K
                    refine norm_ (a' := ?_) ?_ ?_
                    rotate_left
                    · show Act.put _ (some 25) _ = _
                      simp only [Act.put, List.setIfInBounds_toArray, List.set_cons_zero, List.set_cons_succ, i64_w, i32_w]
                      rfl
                    exact norm_ (by first | (simp only [putAll, Act.put, List.setIfInBounds_toArray, List.set_cons_zero, List.set_cons_succ]; done) | (simp only [putAll, Act.put, List.setIfInBounds_toArray, List.set_cons_zero, List.set_cons_succ]; rfl)) (hJ1_3_4_7 _ _ hJ2)
                  · skip
                    refine goes_ Try.func99 (by kernel_rfl) rfl #[.agg #[.int .i64 a0_0, .slice A0_1 l0_1.length c0_1]] (by rfl) rfl rfl arg_ ?_
                    with_reducible refine (impl_Graph_edgeMatrix.calls k a0_0 _ _ l0_1 mx _ ?side1 ?side2 Am.out).mono ?_
                    (case side1 => exact Kd.C_below hr0_1 hJ.1)
                    (case side2 => exact hc0_1)
                    rintro e w2 ⟨v, rfl, hv, hb⟩
                    refine ⟨_, rfl, ?_⟩
                    have hJ2 := hJ.t6 hb hv
                    refine hK.out _ _ ⟨(blk_cell (blk_below hg hJ2.2.1) 0).trans rfl, (blk_cell (blk_below hg hJ2.2.1) 1).trans rfl⟩ (fun hHeld => ?_)
                    clear hK K
                    refine norm_ (a' := ?_) ?_ ?_
                    rotate_left
                    · show Act.put _ (some 27) _ = _
                      simp only [Act.put, List.setIfInBounds_toArray, List.set_cons_zero, List.set_cons_succ, i64_w, i32_w]
                      rfl
                    exact norm_ (by first | (simp only [putAll, Act.put, List.setIfInBounds_toArray, List.set_cons_zero, List.set_cons_succ]; done) | (simp only [putAll, Act.put, List.setIfInBounds_toArray, List.set_cons_zero, List.set_cons_succ]; rfl)) (hJ1_3_6_7 _ _ hJ2)
              · skip
                rintro ⟨v24, a25, v27, bm, g6⟩ w1 hJ
                obtain ⟨A24, c24, e24⟩ := Kd.S_slice (hJ.2.2.1 rfl)
                replace e24 : v24 = .slice A24 fst.length c24 := e24
                subst e24
                have hHeld : w1.cell? ⟨g2, 0, none⟩ = some (.int .i64 a0_0) ∧ w1.cell? ⟨g2, 1, none⟩ = some (.slice A0_1 l0_1.length c0_1) := ⟨(blk_cell (blk_below hg hJ.2.1) 0).trans rfl, (blk_cell (blk_below hg hJ.2.1) 1).trans rfl⟩
                refine norm_ (a' := ?_) ?_ ?_
                rotate_left
                · simp only [putAll, Act.put, List.setIfInBounds_toArray, List.set_cons_zero, List.set_cons_succ]
                  rfl
                refine two_ (i := 6) (j := 7) (Ni := some 27) (Nj := some 6) #[true, true, true, true, true, true, true, false, false, false] #[true, true, true, true, true, true, false, true, false, false] rfl rfl rfl rfl (two_of HT_.out (by kernel_rfl)) (by decide) (by decide) (fun K hK => ?_) (fun K hK => ?_)
                · skip
                  refine goes_ Try.func99 (by kernel_rfl) rfl #[.agg #[.int .i64 a0_0, .slice A0_1 l0_1.length c0_1]] (by rfl) rfl rfl arg_ ?_
                  with_reducible refine (impl_Graph_edgeMatrix.calls k a0_0 _ _ l0_1 mx _ ?side1 ?side2 Am.out).mono ?_
                  (case side1 => exact Kd.C_below hr0_1 hJ.1)
                  (case side2 => exact hc0_1)
                  rintro e w2 ⟨v, rfl, hv, hb⟩
                  refine ⟨_, rfl, ?_⟩
                  have hJ2 := hJ.t6 hb hv
                  refine hK.out _ _ ⟨(blk_cell (blk_below hg hJ2.2.1) 0).trans rfl, (blk_cell (blk_below hg hJ2.2.1) 1).trans rfl⟩ (fun hHeld => ?_)
                  clear hK K
                  refine norm_ (a' := ?_) ?_ ?_
                  rotate_left
                  · show Act.put _ (some 27) _ = _
                    simp only [Act.put, List.setIfInBounds_toArray, List.set_cons_zero, List.set_cons_succ, i64_w, i32_w]
                    rfl
                  exact norm_ (by first | (simp only [putAll, Act.put, List.setIfInBounds_toArray, List.set_cons_zero, List.set_cons_succ]; done) | (simp only [putAll, Act.put, List.setIfInBounds_toArray, List.set_cons_zero, List.set_cons_succ]; rfl)) (hJ1_3_4_6 _ _ hJ2)
                · skip
                  refine event_step (v := .pointer (some ⟨w1.heap.size, 0, none⟩)) (w1 := w1.alloc (.cells #[.slice none 0 0] 88 (0, 0))) (by rfl) ?hr ?_
                  (case hr => first | (go_simp; done) | (go_simp; rfl))
                  have hJ2 := hJ.t7
                  refine hK.out _ _ ⟨(blk_cell (blk_below hg hJ2.2.1) 0).trans rfl, (blk_cell (blk_below hg hJ2.2.1) 1).trans rfl⟩ (fun hHeld => ?_)
                  clear hK K
                  refine norm_ (a' := ?_) ?_ ?_
                  rotate_left
                  · show Act.put _ (some 6) _ = _
                    simp only [Act.put, List.setIfInBounds_toArray, List.set_cons_zero, List.set_cons_succ, i64_w, i32_w]
                    rfl
                  exact norm_ (by first | (simp only [putAll, Act.put, List.setIfInBounds_toArray, List.set_cons_zero, List.set_cons_succ]; done) | (simp only [putAll, Act.put, List.setIfInBounds_toArray, List.set_cons_zero, List.set_cons_succ]; rfl)) (hJ1_3_4_7 _ _ hJ2)
            · skip
              rintro ⟨v24, a25, v27, bm, g6⟩ w1 hJ
              obtain ⟨A24, c24, e24⟩ := Kd.S_slice (hJ.2.2.1 rfl)
              replace e24 : v24 = .slice A24 fst.length c24 := e24
              subst e24
              obtain ⟨A27, c27, e27⟩ := Kd.S_slice (hJ.2.2.2.2.1 rfl).1
              replace e27 : v27 = .slice A27 mx.length c27 := e27
              subst e27
              have hHeld : w1.cell? ⟨g2, 0, none⟩ = some (.int .i64 a0_0) ∧ w1.cell? ⟨g2, 1, none⟩ = some (.slice A0_1 l0_1.length c0_1) := ⟨(blk_cell (blk_below hg hJ.2.1) 0).trans rfl, (blk_cell (blk_below hg hJ.2.1) 1).trans rfl⟩
              refine norm_ (a' := ?_) ?_ ?_
              rotate_left
              · simp only [putAll, Act.put, List.setIfInBounds_toArray, List.set_cons_zero, List.set_cons_succ]
                rfl
              refine two_ (i := 4) (j := 7) (Ni := some 25) (Nj := some 6) #[true, true, true, true, true, true, true, false, false, false] #[true, true, true, true, false, true, true, true, false, false] rfl rfl rfl rfl (two_of HT_.out (by kernel_rfl)) (by decide) (by decide) (fun K hK => ?_) (fun K hK => ?_)
              · skip
                refine event_step (v := .slice (some ⟨w1.heap.size, 0, none⟩) 1 1) (w1 := w1.alloc (.cells #[.slice A24 fst.length c24] 22 (0, 0))) (by rfl) ?hr ?_
                (case hr => first | (go_simp; done) | (go_simp; rfl))
                have hJ2 := hJ.t4
                refine hK.out _ _ ⟨(blk_cell (blk_below hg hJ2.2.1) 0).trans rfl, (blk_cell (blk_below hg hJ2.2.1) 1).trans rfl⟩ (fun hHeld => ?_)
                clear hK K
                refine norm_ (a' := ?_) ?_ ?_
                rotate_left
                · show Act.put _ (some 25) _ = _
                  simp only [Act.put, List.setIfInBounds_toArray, List.set_cons_zero, List.set_cons_succ, i64_w, i32_w]
                  rfl
                exact norm_ (by first | (simp only [putAll, Act.put, List.setIfInBounds_toArray, List.set_cons_zero, List.set_cons_succ]; done) | (simp only [putAll, Act.put, List.setIfInBounds_toArray, List.set_cons_zero, List.set_cons_succ]; rfl)) (hJ1_3_4_6 _ _ hJ2)
              · skip
                refine event_step (v := .pointer (some ⟨w1.heap.size, 0, none⟩)) (w1 := w1.alloc (.cells #[.slice none 0 0] 88 (0, 0))) (by rfl) ?hr ?_
                (case hr => first | (go_simp; done) | (go_simp; rfl))
                have hJ2 := hJ.t7
                refine hK.out _ _ ⟨(blk_cell (blk_below hg hJ2.2.1) 0).trans rfl, (blk_cell (blk_below hg hJ2.2.1) 1).trans rfl⟩ (fun hHeld => ?_)
                clear hK K
                refine norm_ (a' := ?_) ?_ ?_
                rotate_left
                · show Act.put _ (some 6) _ = _
                  simp only [Act.put, List.setIfInBounds_toArray, List.set_cons_zero, List.set_cons_succ, i64_w, i32_w]
                  rfl
                exact norm_ (by first | (simp only [putAll, Act.put, List.setIfInBounds_toArray, List.set_cons_zero, List.set_cons_succ]; done) | (simp only [putAll, Act.put, List.setIfInBounds_toArray, List.set_cons_zero, List.set_cons_succ]; rfl)) (hJ1_3_6_7 _ _ hJ2)
          · skip
            rintro ⟨v24, a25, v27, bm, g6⟩ w1 hJ
            obtain ⟨A24, c24, e24⟩ := Kd.S_slice (hJ.2.2.1 rfl)
            replace e24 : v24 = .slice A24 fst.length c24 := e24
            subst e24
            have hHeld : w1.cell? ⟨g2, 0, none⟩ = some (.int .i64 a0_0) ∧ w1.cell? ⟨g2, 1, none⟩ = some (.slice A0_1 l0_1.length c0_1) := ⟨(blk_cell (blk_below hg hJ.2.1) 0).trans rfl, (blk_cell (blk_below hg hJ.2.1) 1).trans rfl⟩
            refine norm_ (a' := ?_) ?_ ?_
            rotate_left
            · simp only [putAll, Act.put, List.setIfInBounds_toArray, List.set_cons_zero, List.set_cons_succ]
              rfl
            refine one_ (i := 6) (N := some 27) #[true, true, true, true, true, true, true, true, false, false] rfl rfl (one_of HT_.out (by kernel_rfl)) (by decide) (fun K hK => ?_)
            refine goes_ Try.func99 (by kernel_rfl) rfl #[.agg #[.int .i64 a0_0, .slice A0_1 l0_1.length c0_1]] (by rfl) rfl rfl arg_ ?_
            with_reducible refine (impl_Graph_edgeMatrix.calls k a0_0 _ _ l0_1 mx _ ?side1 ?side2 Am.out).mono ?_
            (case side1 => exact Kd.C_below hr0_1 hJ.1)
            (case side2 => exact hc0_1)
            rintro e w2 ⟨v, rfl, hv, hb⟩
            refine ⟨_, rfl, ?_⟩
            have hJ2 := hJ.t6 hb hv
            refine hK.out _ _ ⟨(blk_cell (blk_below hg hJ2.2.1) 0).trans rfl, (blk_cell (blk_below hg hJ2.2.1) 1).trans rfl⟩ (fun hHeld => ?_)
            clear hK K
            refine norm_ (a' := ?_) ?_ ?_
            rotate_left
            · show Act.put _ (some 27) _ = _
              simp only [Act.put, List.setIfInBounds_toArray, List.set_cons_zero, List.set_cons_succ, i64_w, i32_w]
              rfl
            exact norm_ (by first | (simp only [putAll, Act.put, List.setIfInBounds_toArray, List.set_cons_zero, List.set_cons_succ]; done) | (simp only [putAll, Act.put, List.setIfInBounds_toArray, List.set_cons_zero, List.set_cons_succ]; rfl)) (hJ1_3_4_6_7 _ _ hJ2)
        · skip
          rintro ⟨v24, a25, v27, bm, g6⟩ w1 hJ
          obtain ⟨A24, c24, e24⟩ := Kd.S_slice (hJ.2.2.1 rfl)
          replace e24 : v24 = .slice A24 fst.length c24 := e24
          subst e24
          obtain ⟨A27, c27, e27⟩ := Kd.S_slice (hJ.2.2.2.2.1 rfl).1
          replace e27 : v27 = .slice A27 mx.length c27 := e27
          subst e27
          have hHeld : w1.cell? ⟨g2, 0, none⟩ = some (.int .i64 a0_0) ∧ w1.cell? ⟨g2, 1, none⟩ = some (.slice A0_1 l0_1.length c0_1) := ⟨(blk_cell (blk_below hg hJ.2.1) 0).trans rfl, (blk_cell (blk_below hg hJ.2.1) 1).trans rfl⟩
          refine norm_ (a' := ?_) ?_ ?_
          rotate_left
          · simp only [putAll, Act.put, List.setIfInBounds_toArray, List.set_cons_zero, List.set_cons_succ]
            rfl
          refine one_ (i := 4) (N := some 25) #[true, true, true, true, true, true, true, true, false, false] rfl rfl (one_of HT_.out (by kernel_rfl)) (by decide) (fun K hK => ?_)
          refine event_step (v := .slice (some ⟨w1.heap.size, 0, none⟩) 1 1) (w1 := w1.alloc (.cells #[.slice A24 fst.length c24] 22 (0, 0))) (by rfl) ?hr ?_
          (case hr => first | (go_simp; done) | (go_simp; rfl))
          have hJ2 := hJ.t4
          refine hK.out _ _ ⟨(blk_cell (blk_below hg hJ2.2.1) 0).trans rfl, (blk_cell (blk_below hg hJ2.2.1) 1).trans rfl⟩ (fun hHeld => ?_)
          clear hK K
          refine norm_ (a' := ?_) ?_ ?_
          rotate_left
          · show Act.put _ (some 25) _ = _
            simp only [Act.put, List.setIfInBounds_toArray, List.set_cons_zero, List.set_cons_succ, i64_w, i32_w]
            rfl
          exact norm_ (by first | (simp only [putAll, Act.put, List.setIfInBounds_toArray, List.set_cons_zero, List.set_cons_succ]; done) | (simp only [putAll, Act.put, List.setIfInBounds_toArray, List.set_cons_zero, List.set_cons_succ]; rfl)) (hJ1_3_4_6_7 _ _ hJ2)
      · skip
        rintro ⟨v24, a25, v27, bm, g6⟩ w1 hJ
        obtain ⟨A24, c24, e24⟩ := Kd.S_slice (hJ.2.2.1 rfl)
        replace e24 : v24 = .slice A24 fst.length c24 := e24
        subst e24
        obtain ⟨A27, c27, e27⟩ := Kd.S_slice (hJ.2.2.2.2.1 rfl).1
        replace e27 : v27 = .slice A27 mx.length c27 := e27
        subst e27
        have hHeld : w1.cell? ⟨g2, 0, none⟩ = some (.int .i64 a0_0) ∧ w1.cell? ⟨g2, 1, none⟩ = some (.slice A0_1 l0_1.length c0_1) := ⟨(blk_cell (blk_below hg hJ.2.1) 0).trans rfl, (blk_cell (blk_below hg hJ.2.1) 1).trans rfl⟩
        refine norm_ (a' := ?_) ?_ ?_
        rotate_left
        · simp only [putAll, Act.put, List.setIfInBounds_toArray, List.set_cons_zero, List.set_cons_succ]
          rfl
        refine one_ (i := 7) (N := some 6) #[true, true, true, true, true, true, true, true, false, false] rfl rfl (one_of HT_.out (by kernel_rfl)) (by decide) (fun K hK => ?_)
        refine event_step (v := .pointer (some ⟨w1.heap.size, 0, none⟩)) (w1 := w1.alloc (.cells #[.slice none 0 0] 88 (0, 0))) (by rfl) ?hr ?_
        (case hr => first | (go_simp; done) | (go_simp; rfl))
        have hJ2 := hJ.t7
        refine hK.out _ _ ⟨(blk_cell (blk_below hg hJ2.2.1) 0).trans rfl, (blk_cell (blk_below hg hJ2.2.1) 1).trans rfl⟩ (fun hHeld => ?_)
        clear hK K
        refine norm_ (a' := ?_) ?_ ?_
        rotate_left
        · show Act.put _ (some 6) _ = _
          simp only [Act.put, List.setIfInBounds_toArray, List.set_cons_zero, List.set_cons_succ, i64_w, i32_w]
          rfl
        exact norm_ (by first | (simp only [putAll, Act.put, List.setIfInBounds_toArray, List.set_cons_zero, List.set_cons_succ]; done) | (simp only [putAll, Act.put, List.setIfInBounds_toArray, List.set_cons_zero, List.set_cons_succ]; rfl)) (hJ1_3_4_6_7 _ _ hJ2)
    rintro ⟨v24, a25, v27, bm, g6⟩ w1 hJ
    obtain ⟨A24, c24, e24⟩ := Kd.S_slice (hJ.2.2.1 rfl)
    replace e24 : v24 = .slice A24 fst.length c24 := e24
    subst e24
    obtain ⟨A27, c27, e27⟩ := Kd.S_slice (hJ.2.2.2.2.1 rfl).1
    replace e27 : v27 = .slice A27 mx.length c27 := e27
    subst e27
    have hHeld : w1.cell? ⟨g2, 0, none⟩ = some (.int .i64 a0_0) ∧ w1.cell? ⟨g2, 1, none⟩ = some (.slice A0_1 l0_1.length c0_1) := ⟨(blk_cell (blk_below hg hJ.2.1) 0).trans rfl, (blk_cell (blk_below hg hJ.2.1) 1).trans rfl⟩
    refine norm_ (a' := ?_) ?_ ?_
    rotate_left
    · simp only [putAll, Act.put, List.setIfInBounds_toArray, List.set_cons_zero, List.set_cons_succ]
      rfl
    obtain ⟨hB3', hBS, hF0, hA0, hM0, h70⟩ := hJ
    have hzS : g3 < _ := blk_lt hk
    replace hg := blk_below hg hBS
    replace hk := blk_below hk hBS
    have hF := Kd.S_mono (hF0 rfl) (fun k h => (⟨Nat.lt_of_lt_of_le hzS h.1, h.2 rfl⟩ : g3 < k ∧ k < bm))
    obtain ⟨hA, hAl⟩ := hA0 rfl
    obtain ⟨hM, _⟩ := hM0 rfl
    obtain ⟨h7, h7l⟩ := h70 rfl
    clear hB3 hBS hzS hF0 hA0 hM0 h70
    have hB3 := hB3'
    clear hB3'
    dsimp only at hF hA hAl hM h7 h7l
    refine one_ (i := 8) (N := none) #[true, true, true, true, true, true, true, true, true, false] rfl rfl (one_of HT_.out (by kernel_rfl)) (by decide) (fun K hK => ?_)
    have hs18 : w1.cell? ⟨g6, 0, none⟩ = some (.slice none 0 0) := (blk_cell h7 0).trans rfl
    have hfs18 := blk_frozen h7 0
    refine skip_ (w1 := ?_) (by rfl) rfl ?_ ?_
    rotate_left
    · go_simp
      rfl
    refine hK.out _ _ ⟨(blk_cell (blk_far hg (p := ⟨g6, 0, none⟩) (blk_ne hg h7 (by decide)) _) 0).trans rfl, (blk_cell (blk_far hg (p := ⟨g6, 0, none⟩) (blk_ne hg h7 (by decide)) _) 1).trans rfl⟩ (fun hHeld => ?_)
    clear hK K hs18 hfs18
    refine pure_ (i := 9) (N := some 7) (v := ?_) (a' := ?_) #[true, true, true, true, true, true, true, true, true, true] rfl rfl (any_of HT_.out (by kernel_rfl)) (fun _ _ _ h => h) (Or.inl ⟨by rfl, ?_⟩) ?_ ?_
    rotate_left
    · intro w'
      go_simp
      with_reducible rfl
    rotate_left
    · simp only [Act.put, List.setIfInBounds_toArray, List.set_cons_zero, List.set_cons_succ, i64_w, i32_w]
      rfl
    refine done_ (done_of HT_.out (by kernel_rfl)) ?_
    replace hg := blk_far hg (p := ⟨g6, 0, none⟩) (blk_ne hg h7 (by decide)) (.slice (some ⟨a25, 0, none⟩) 1 1)
    replace hk := blk_far hk (p := ⟨g6, 0, none⟩) (blk_ne hk h7 (by decide)) (.slice (some ⟨a25, 0, none⟩) 1 1)
    replace hA := blk_far hA (p := ⟨g6, 0, none⟩) (blk_ne hA h7 (by decide)) (.slice (some ⟨a25, 0, none⟩) 1 1)
    replace hF := Kd.S_set hF h7 (by decide) 0 (.slice (some ⟨a25, 0, none⟩) 1 1)
    replace hM := Kd.S_set hM h7 (by decide) 0 (.slice (some ⟨a25, 0, none⟩) 1 1)
    replace hB3 : Below w.heap.size w (w1.setCell ⟨g6, 0, none⟩ (.slice (some ⟨a25, 0, none⟩) 1 1)) := below_set hB3 h7l
    replace h7 : (w1.setCell ⟨g6, 0, none⟩ (.slice (some ⟨a25, 0, none⟩) 1 1)).heap[g6]? = some (.cells #[.slice (some ⟨a25, 0, none⟩) 1 1] 88 (0, 0)) := blk_put (cs := #[.slice none 0 0]) h7 0 _ rfl
    clear hHeld
    generalize w1.setCell ⟨g6, 0, none⟩ (.slice (some ⟨a25, 0, none⟩) 1 1) = w5 at hg hk hA hF hM hB3 h7 ⊢
    have hc6 : w5.cell? ⟨g6, 0, none⟩ = some (.slice (some ⟨a25, 0, none⟩) 1 1) := (blk_cell h7 0).trans rfl
    have hcA : w5.cell? ⟨a25, 0, none⟩ = some (.slice A24 fst.length c24) := (blk_cell hA 0).trans rfl
    go_wp2
    clear hc6 hcA
    go_loopg [32] (fst.length + 1) (fun kq v32 w' => ∃ (e : Int) (x : List (List Int)), v32 = .int .i64 e ∧ Aside0 (impl_Graph_closedWalks.l0 (fst.length : Int) kq e x = some dd) ∧ Aside0 (w'.heap[g2]? = some (.cells #[.int .i64 a0_0, .slice A0_1 l0_1.length c0_1] 29 (0, 0))) ∧ Aside0 (w'.heap[g3]? = some (.cells #[.int .i64 (K : Int)] 2 (0, 0))) ∧ Aside0 (w'.heap[a25]? = some (.cells #[.slice A24 fst.length c24] 22 (0, 0))) ∧ Aside0 (w'.heap[g6]? = some (.cells #[.slice (some ⟨a25, 0, none⟩) 1 1] 88 (0, 0))) ∧
      Aside0 (Kd.S (Kd.slice 2 (Kd.int .i64)) 26 w' w.heap.size (fun k => g3 < k ∧ k < bm) (.slice A24 fst.length c24) x) ∧ Aside0 (Kd.S (Kd.slice 2 (Kd.int .i64)) 26 w' w.heap.size (fun k => bm ≤ k) (.slice A27 mx.length c27) mx) ∧ Aside0 (Below w.heap.size w w'))
    case atStart => exact ⟨0, fst, (by first | rfl | (simp; done)), Ad, ⟨hg⟩, ⟨hk⟩, ⟨hA⟩, ⟨h7⟩, ⟨hF⟩, ⟨hM⟩, ⟨hB3⟩⟩
    case round =>
      clear hg hk hA h7 hF hM hB3
      obtain ⟨e, x, rfl, ⟨HA⟩, ⟨hg⟩, ⟨hk⟩, ⟨hA⟩, ⟨h7⟩, ⟨hF⟩, ⟨hM⟩, ⟨hB3⟩⟩ := hrel
      cases gk with
      | zero => exact absurd HA (by simp [impl_Graph_closedWalks.l0])
      | succ q =>
        simp only [impl_Graph_closedWalks.l0] at HA
        have hc6 : wr.cell? ⟨g6, 0, none⟩ = some (.slice (some ⟨a25, 0, none⟩) 1 1) := (blk_cell h7 0).trans rfl
        have hcA : wr.cell? ⟨a25, 0, none⟩ = some (.slice A24 fst.length c24) := (blk_cell hA 0).trans rfl
        by_cases c5 : e < (fst.length : Int)
        · rw [if_pos c5] at HA
          have c5b0 : decide (e < (fst.length : Int)) = true := decide_eq_true c5
          obtain ⟨⟨⟨e0, e1⟩, e2⟩, H⟩ := itn_ HA
          clear HA
          have hxl := (Kd.S_reads' hF).1
          obtain ⟨gF, c9, e9, _, _, _⟩ := Kd.R_form (Kd.S_R hF) (by omega)
          injection e9 with e9 e91 e10
          subst e9 e10
          obtain ⟨hb, c', hrow, hcell, hfz, hok, hbase, hne, ⟨cells, hty⟩, hput⟩ := impl_Graph_closedWalks.put2 hF e e e0 c5 e0 e2
          have e0b := eq_true e0
          have e1b := eq_true c5
          have e2b := eq_true e2
          clear hxl e1 e91 c5
          go_wp2
          first | go_roundg q | (refine Handed.intro q ?measure ?_; rotate_left; go_step; (try simp only [add_plain]); (repeat apply Exists.intro); refine ⟨?rel, rfl⟩)
          case measure => omega
          case rel => exact ⟨wrap64 (e + 1), _, (by first | rfl | (simp; done)), ⟨H⟩, ⟨blk_far hg (p := ⟨hb, e.toNat, none⟩) (blk_ne hg hty (by decide)) _⟩, ⟨blk_far hk (p := ⟨hb, e.toNat, none⟩) (Nat.ne_of_lt hok.1) _⟩, ⟨blk_far hA (p := ⟨hb, e.toNat, none⟩) (blk_ne hA hty (by decide)) _⟩, ⟨blk_far h7 (p := ⟨hb, e.toNat, none⟩) (blk_ne h7 hty (by decide)) _⟩, ⟨hput 1⟩, ⟨Kd.S_far hM (p := ⟨hb, e.toNat, none⟩) (fun k hk h => by have h1 := hok.2; have h2 : k = hb := h; omega) _⟩, ⟨hB3.setCell hbase _⟩⟩
        · rw [if_neg c5] at HA
          obtain rfl := Option.some.inj HA
          have c5b0 : decide (e < (fst.length : Int)) = false := decide_eq_false c5
          clear hc6 hcA
          have hxl := (Kd.S_reads' hF).1
          have hR : Kd.R (Kd.slice 26 (Kd.slice 2 (Kd.int .i64))) 22 wr w.heap.size (fun _ => True) (.slice (some ⟨a25, 0, none⟩) [x].length 1) [x] := by
            refine ⟨fun _ _ => trivial, [.slice A24 fst.length c24], ⟨by simp [Kd.slice], .inr ⟨a25, 1, #[.slice A24 fst.length c24], rfl, hAl, hA, by simp, by decide, by simp [Kd.slice], by simp [Kd.slice]⟩⟩, Reps.one ⟨_, rfl, ?_⟩ (Reps.none _ _)⟩
            exact Kd.R_mono (Kd.R_types (Kd.S_R hF) hA (by decide)) (fun k hk => ⟨trivial, fun e => hk.2 (by injection e)⟩)
          have hc3 : wr.cell? ⟨g3, 0, none⟩ = some (.int .i64 (K : Int)) := (blk_cell hk 0).trans rfl
          go_wp2
          clear hc3 hA hF hxl
          have Aw2 := Aw.out
          rw [Int.toNat_natCast] at Aw2
          replace hM := Kd.S_mono hM (fun _ _ => trivial)
          go_loopg [45] (K + 1) (fun kq v45 w' => ∃ (i : Int) (wy : List (List (List Int))) (Aq : Option Addr) (cq : Nat), v45 = .int .i64 i ∧ Aside0 (impl_Graph_closedWalks.lw k mx (K : Int) kq i wy = some wyR) ∧ Aside0 (w'.heap[g2]? = some (.cells #[.int .i64 a0_0, .slice A0_1 l0_1.length c0_1] 29 (0, 0))) ∧ Aside0 (w'.heap[g3]? = some (.cells #[.int .i64 (K : Int)] 2 (0, 0))) ∧ Aside0 (w'.heap[g6]? = some (.cells #[.slice Aq wy.length cq] 88 (0, 0))) ∧
            Aside0 (Kd.R (Kd.slice 26 (Kd.slice 2 (Kd.int .i64))) 22 w' w.heap.size (fun _ => True) (.slice Aq wy.length cq) wy) ∧ Aside0 (Kd.S (Kd.slice 2 (Kd.int .i64)) 26 w' w.heap.size (fun _ => True) (.slice A27 mx.length c27) mx) ∧ Aside0 (Below w.heap.size w w'))
          case atStart => exact ⟨0, [x], some ⟨a25, 0, none⟩, 1, (by first | rfl | (simp; done)), ⟨Aw2⟩, ⟨hg⟩, ⟨hk⟩, ⟨h7⟩, ⟨hR⟩, ⟨hM⟩, ⟨hB3⟩⟩
          case round =>
            clear hg hk h7 hR hM hB3 Aw2
            obtain ⟨i, wy, Aq, cq, rfl, ⟨HA⟩, ⟨hg⟩, ⟨hk⟩, ⟨h7⟩, ⟨hR⟩, ⟨hM⟩, ⟨hB3⟩⟩ := hrel
            obtain ⟨wA, hwA⟩ : ∃ z, z = wr := ⟨_, rfl⟩
            subst hwA
            have hc6 : wA.cell? ⟨g6, 0, none⟩ = some (.slice Aq wy.length cq) := (blk_cell h7 0).trans rfl
            cases gk with
            | zero => exact absurd HA (by simp [impl_Graph_closedWalks.lw])
            | succ q =>
              simp only [impl_Graph_closedWalks.lw] at HA
              by_cases c5 : i < (K : Int)
              · rw [if_pos c5] at HA
                have c5b0 : decide (i < (K : Int)) = true := decide_eq_true c5
                clear c5
                obtain ⟨⟨i0, i1⟩, H⟩ := itn_ HA
                obtain ⟨nx, An, H⟩ := bnd_ H
                obtain ⟨ny, Ay, H⟩ := bnd_ H
                obtain ⟨hlen, H⟩ := itn_ H
                clear HA
                have hRr := Kd.R_reads' hR
                obtain ⟨aq, cc, eq, hcl, hKq, hcellq⟩ := Kd.C_get hRr.2.2 [] i i0 i1
                subst eq
                obtain ⟨ro, hro⟩ : ∃ z, z = wy.getD i.toNat [] := ⟨_, rfl⟩
                rw [← hro] at An hKq
                clear hro
                obtain ⟨A2, c2, rfl, hl2, hC2⟩ := hKq
                have hcq := hcellq 0 _ rfl
                rw [show (Kd.slice 26 (Kd.slice 2 (Kd.int .i64))).sz = 1 from rfl, Nat.mul_one, Nat.add_zero] at hcq
                have hMr := Kd.S_reads' hM
                have i0b := eq_true i0
                have i1b := eq_true i1
                clear hcl hcellq
                go_wp2_with (first
                  | ((with_reducible refine gate_callee (f := 96) rfl ?_); refine goesL_ (some 53) rfl rfl Try.func96 (by kernel_rfl) rfl #[.slice A2 ro.length c2, .slice A27 mx.length c27] rfl (by (try simp only [List.map_toArray, List.map_cons, List.map_nil]); first | done | rfl) ?_; (with_reducible refine (impl_rowsTimes.calls k A2 c2 ro A27 c27 mx nx _ ?side1 ?side2 ?side3 ?side4 An.out).mono ?_); (case side1 => exact hC2); (case side2 => exact hl2); (case side3 => exact hMr.2.2); (case side4 => exact hMr.2.1); rintro e w6 ⟨vn, rfl, hN, hb⟩; refine ⟨_, rfl, ?_⟩; obtain ⟨A10, c10, rfl⟩ := Kd.S_slice hN))
                clear hRr hMr hcq i0b i1b hc6 hC2 hl2
                go_loopg [56] (nx.length + 1) (fun kq v56 w' => ∃ (j : Int) (x : List (List Int)), v56 = .int .i64 j ∧ Aside0 (impl_Graph_closedWalks.lr (nx.length : Int) kq j x = some ny) ∧ Aside0 (Kd.S (Kd.slice 2 (Kd.int .i64)) 26 w' wA.heap.size (fun _ => True) (.slice A10 nx.length c10) x) ∧ Aside0 (Below wA.heap.size wA w'))
                case atStart => exact ⟨0, nx, (by first | rfl | (simp; done)), ⟨Ay.out⟩, ⟨hN⟩, ⟨hb⟩⟩
                case round =>
                  clear hN hb
                  obtain ⟨j, x, rfl, ⟨HA⟩, ⟨hN⟩, ⟨hbA⟩⟩ := hrel
                  obtain ⟨wB, hwB⟩ : ∃ z, z = wr := ⟨_, rfl⟩
                  subst hwB
                  cases gk with
                  | zero => exact absurd HA (by simp [impl_Graph_closedWalks.lr])
                  | succ q2 =>
                    simp only [impl_Graph_closedWalks.lr] at HA
                    by_cases c6 : j < (nx.length : Int)
                    · rw [if_pos c6] at HA
                      have c6b0 : decide (j < (nx.length : Int)) = true := decide_eq_true c6
                      obtain ⟨⟨j0, j1⟩, H2⟩ := itn_ HA
                      obtain ⟨y, Ay2, H2⟩ := bnd_ H2
                      clear HA
                      obtain ⟨gN, c9, e9, _, _, _⟩ := Kd.R_form (Kd.S_R hN) (by omega)
                      injection e9 with e9 e91 e10
                      subst e9 e10
                      obtain ⟨cr, hcl, hMr, hcell⟩ := Kd.S_get hN [] j j0 c6
                      obtain ⟨vr, rfl, hRr⟩ := hMr
                      obtain ⟨Ar, cr, rfl⟩ := Kd.R_slice hRr
                      have hrow := hcell 0 _ rfl
                      rw [show (Kd.slice 2 (Kd.int .i64)).sz = 1 from rfl, Nat.mul_one, Nat.add_zero, show (⟨gN, 0, none⟩ : Addr).add j.toNat = ⟨gN, j.toNat, none⟩ from (by unfold Addr.add; split <;> simp <;> omega)] at hrow
                      replace hrow : wB.cell? ⟨gN, j.toNat, none⟩ = some (.slice Ar (rd_L1 x j).length cr) := hrow
                      have j0b := eq_true j0
                      have j1b := eq_true c6
                      clear hcl hcell hRr e91
                      go_wp2
                      go_loopg [62] ((rd_L1 x j).length + 1) (fun kq v62 w' => ∃ (f : Int) (z : List (List Int)), v62 = .int .i64 f ∧ Aside0 (impl_Graph_closedWalks.lc j ((rd_L1 x j).length : Int) kq f z = some y) ∧ Aside0 (Kd.S (Kd.slice 2 (Kd.int .i64)) 26 w' wA.heap.size (fun _ => True) (.slice (some ⟨gN, 0, none⟩) nx.length c10) z) ∧ Aside0 (w'.cell? ⟨gN, j.toNat, none⟩ = some (.slice Ar (rd_L1 x j).length cr)) ∧ Aside0 (Below wA.heap.size wA w'))
                      case atStart => exact ⟨0, x, (by first | rfl | (simp; done)), ⟨Ay2.out⟩, ⟨hN⟩, ⟨hrow⟩, ⟨hbA⟩⟩
                      case round =>
                        clear hN hrow hbA
                        obtain ⟨f, z, rfl, ⟨HA⟩, ⟨hN⟩, ⟨hrow⟩, ⟨hbA⟩⟩ := hrel
                        cases gk with
                        | zero => exact absurd HA (by simp [impl_Graph_closedWalks.lc])
                        | succ q3 =>
                          simp only [impl_Graph_closedWalks.lc] at HA
                          by_cases c7 : f < ((rd_L1 x j).length : Int)
                          · rw [if_pos c7] at HA
                            have c7b0 : decide (f < ((rd_L1 x j).length : Int)) = true := decide_eq_true c7
                            obtain ⟨⟨⟨z0, z1⟩, f0, f1, f2⟩, H3⟩ := itn_ HA
                            clear HA
                            obtain ⟨hb, c', hrow2, hcell, hfz, hok, hbase, hne, ⟨cells, hty⟩, hput⟩ := impl_Graph_closedWalks.put2 hN j f j0 c6 f0 f1
                            have e1 := Option.some.inj (hrow.symm.trans hrow2)
                            injection e1 with e1 _ e3
                            subst e1 e3
                            have f0b := eq_true f0
                            have f1b := eq_true c7
                            obtain ⟨mn, hmn⟩ : ∃ m_ : Int, (if 1 < rd (rd_L1 z j) f then 1 else rd (rd_L1 z j) f) = m_ := ⟨_, rfl⟩
                            rw [hmn] at H3
                            clear f1 f2 hrow2 z1
                            go_wp2
                            first | go_roundg q3 | (refine Handed.intro q3 ?measure ?_; rotate_left; go_step; (try simp only [add_plain]); (repeat apply Exists.intro); refine ⟨?rel, rfl⟩)
                            case measure => omega
                            case rel => exact ⟨wrap64 (f + 1), _, (by first | rfl | (simp; done)), ⟨H3⟩, ⟨hput mn⟩, ⟨(cell_far (p := ⟨hb, f.toNat, none⟩) (Ne.symm hne) _).trans hrow⟩, ⟨hbA.setCell hbase _⟩⟩
                          · rw [if_neg c7] at HA
                            obtain rfl := Option.some.inj HA
                            have c7b0 : decide (f < ((rd_L1 x j).length : Int)) = false := decide_eq_false c7
                            go_wp2
                            first | go_roundg q2 | (refine Handed.intro q2 ?measure ?_; rotate_left; go_step; (try simp only [add_plain]); (repeat apply Exists.intro); refine ⟨?rel, rfl⟩)
                            case measure => omega
                            case rel => exact ⟨wrap64 (j + 1), z, (by first | rfl | (simp; done)), ⟨H2⟩, ⟨hN⟩, ⟨hbA⟩⟩
                    · rw [if_neg c6] at HA
                      obtain rfl := Option.some.inj HA
                      have c6b0 : decide (j < (nx.length : Int)) = false := decide_eq_false c6
                      have hWlt := Kd.R_lt hR
                      have hlow := hB3.size
                      replace hg := blk_below hg hbA
                      replace hk := blk_below hk hbA
                      replace h7 := blk_below h7 hbA
                      replace hM := Kd.S_below hM hbA
                      replace hR := Kd.R_below hR hbA
                      replace hB3 : Below w.heap.size w wB := below_step hB3 hbA
                      have hbz := hbA.size
                      have hc6 : wB.cell? ⟨g6, 0, none⟩ = some (.slice (some aq) wy.length cq) := (blk_cell h7 0).trans rfl
                      go_wp2_with (first
                        | ((with_reducible refine gate_dst (N := 76) rfl ?_); refine Kd.event_run (v := .slice (some ⟨wB.heap.size, 0, none⟩) 1 1) (w1 := wB.alloc (.cells [.slice A10 nx.length c10].toArray 22 (0, 0))) ?hg ?hr ?_; (case hg => rfl); (case hr => first | (go_simp; done) | (go_simp; rfl)))
                        | ((with_reducible refine gate_dst (N := 77) rfl ?_); refine Kd.R_append (Kd.slice 26 (Kd.slice 2 (Kd.int .i64))) (w0 := w) (W := wB) w.heap.size rfl (.tmp 74) (.tmp 76) 88 22 (.slice none 0 0) 24 rfl Try.underlying88 impl_Graph_closedWalks.info22 rfl (by decide) (by omega) (.slice (some aq) wy.length cq) wy x [.slice A10 nx.length c10] (fun _ => True) (fun k => wA.heap.size ≤ k) rfl rfl ?aP (fun k hk => ⟨trivial, fun e => by have := hWlt k e.symm; omega⟩) (fun _ _ => trivial) hR hB3 ?aS ?aL ?_; (case aP => exact ⟨_, rfl, Kd.R_lower (Kd.R_mono (Kd.R_bound (Kd.S_R hN)) (fun k hk => hk.2.1)) hlow⟩); (case aS => exact hB3.size); (case aL => omega); intro v1 w8 hR8 hB8 hg8 hat8; obtain ⟨A8, c8, e8⟩ := Kd.R_slice hR8; rw [List.length_append, List.length_singleton] at e8; subst e8; have h78 := blk_grown h7 hg8 (Kd.R_ne hR h7 (by decide)); have hc8 : w8.cell? ⟨g6, 0, none⟩ = some (.slice (some aq) wy.length cq) := (blk_cell h78 0).trans rfl; have hf8 := blk_frozen h78 0))
                      first | go_roundg q | (refine Handed.intro q ?measure ?_; rotate_left; go_step; (try simp only [add_plain]); (repeat apply Exists.intro); refine ⟨?rel, rfl⟩)
                      case measure => omega
                      case rel =>
                        have el : (wy ++ [x]).length = wy.length + 1 := by rw [List.length_append, List.length_singleton]
                        refine ⟨wrap64 (i + 1), wy ++ [x], A8, c8, (by first | rfl | (simp; done) | (congr 1; unfold wrap64; omega)), ⟨H⟩, ⟨blk_far (blk_grown hg hg8 (Kd.R_ne hR hg (by decide))) (p := ⟨g6, 0, none⟩) (blk_ne hg h7 (by decide)) _⟩, ⟨blk_far (blk_grown hk hg8 (Kd.R_ne hR hk (by decide))) (p := ⟨g6, 0, none⟩) (blk_ne hk h7 (by decide)) _⟩, ⟨?_⟩, ⟨?_⟩, ⟨?_⟩, ⟨below_set hB8 h7l⟩⟩
                        · rw [el]
                          exact blk_put (cs := #[.slice (some aq) wy.length cq]) h78 0 _ rfl
                        · rw [el]
                          exact Kd.R_set hR8 h78 (by decide) 0 _
                        · exact Kd.S_set (Kd.S_over' hM (Kd.R_typed hR) (by decide) hg8) h78 (by decide) 0 _
              · rw [if_neg c5] at HA
                obtain rfl := Option.some.inj HA
                have c5b0 : decide (i < (K : Int)) = false := decide_eq_false c5
                clear hc6
                have hRr := (Kd.R_reads' hR).2.2
                go_wp2_with (first
                  | ((with_reducible refine gate_dst (N := 79) rfl ?_); refine Kd.S_lit (Kd.slice 2 (Kd.int .i64)) _ 26 ?hg (N := 79) ?hd (xs := ([] : List (List Int))) (inner := []) (ok := fun k => k = wA.heap.size) (okp := fun k => k = wA.heap.size) ?hr ?hp (fun _ hk => hk) rfl (Below.refl _ _) (Nat.le_refl _) (by simp) ?_; (case hd => rfl); (case hg => rfl); (case hr => first | (go_simp; done) | (go_simp; rfl)); (case hp => exact (Reps.none _ _)); intro v11 z5 hS5 hb hg_ hnew_; clear hg_; have hlt5 : Aside0 (wA.heap.size < z5.heap.size) := ⟨by obtain ⟨b0, hb0, hb1⟩ := hnew_; have h1 := (Kd.S_R hS5).1 b0 hb0; have h2 := Kd.S_lt hS5 b0 hb0; omega⟩; clear hnew_; have hB5 := below_step (Below.refl wA.heap.size wA) hb; clear hb; obtain ⟨Ax, cx, rfl⟩ := Kd.S_slice hS5)
                  | ((with_reducible refine gate_dst (N := 15) rfl ?_); refine box_event ?hg (N := 15) ?hd (cs := #[.slice none 0 0]) (t := 22) ?hr ?_; (case hd => rfl); (case hg => rfl); (case hr => first | (go_simp; done) | (go_simp; rfl)); intro g15 hg_ z6 hx15 hb; have hg15 := Aside0.mk hg_; clear hg_; have hB6 := below_step hB5 hb; have hS6 := Kd.S_below hS5 hb; clear hb; have hc15 : z6.cell? ⟨g15, 0, none⟩ = some (.slice none 0 0) := (blk_cell hx15 0).trans rfl; have hf15 := blk_frozen hx15 0)
                  | ((with_reducible refine gate_dst (N := 16) rfl ?_); have hS7 := Kd.S_set hS6 hx15 (by decide) 0 (.slice Ax 0 cx); have hB7 : Below wA.heap.size wA (z6.setCell ⟨g15, 0, none⟩ (.slice Ax 0 cx)) := below_set hB6 (by have h1 := hg15.out; have h2 := hB5.size; omega); have hx15_7 : (z6.setCell ⟨g15, 0, none⟩ (.slice Ax 0 cx)).heap[g15]? = some (.cells #[.slice Ax 0 cx] 22 (0, 0)) := blk_put (cs := #[.slice none 0 0]) hx15 0 (.slice Ax 0 cx) rfl;
                      generalize z6.setCell ⟨g15, 0, none⟩ (.slice Ax 0 cx) = z7 at hS7 hB7 hx15_7 ⊢; clear hc15 hf15;
                      refine box_event ?hg (N := 16) ?hd (cs := #[.nilFunc]) (t := 87) ?hr ?_; (case hd => rfl); (case hg => rfl); (case hr => first | (go_simp; done) | (go_simp; rfl)); intro g16 hg_ z8 hx16 hb; have hg16 := Aside0.mk hg_; clear hg_; have hS8 := Kd.S_below hS7 hb; have hB8 := below_step hB7 hb; have hx15_8 := blk_below hx15_7 hb; clear hb; have hc16 : z8.cell? ⟨g16, 0, none⟩ = some .nilFunc := (blk_cell hx16 0).trans rfl; have hf16 := blk_frozen hx16 0)
                  | ((with_reducible refine gate_fn (t := 81) rfl ?_); refine goesF_ (some 82) rfl rfl Try.func110 (by kernel_rfl) rfl (lb := #[.pointer (some ⟨g3, 0, none⟩), .pointer (some ⟨g15, 0, none⟩), .pointer (some ⟨g2, 0, none⟩), .pointer (some ⟨g6, 0, none⟩), .pointer (some ⟨g16, 0, none⟩)]) #[.slice none 0 0, .pointer (some ⟨g3, 0, none⟩), .pointer (some ⟨g15, 0, none⟩), .pointer (some ⟨g2, 0, none⟩), .pointer (some ⟨g6, 0, none⟩), .pointer (some ⟨g16, 0, none⟩)] rfl (by first | rfl | (simp; done)) (by (try simp only [List.map_toArray, List.map_cons, List.map_nil, List.append_toArray, List.cons_append, List.nil_append]); first | done | rfl) ?_;
                      have hS9 := Kd.S_set hS8 hx16 (by decide) 0 (.func (.func 110) #[] #[.pointer (some ⟨g3, 0, none⟩), .pointer (some ⟨g15, 0, none⟩), .pointer (some ⟨g2, 0, none⟩), .pointer (some ⟨g6, 0, none⟩), .pointer (some ⟨g16, 0, none⟩)]); have hB9 : Below wA.heap.size wA (z8.setCell ⟨g16, 0, none⟩ (.func (.func 110) #[] #[.pointer (some ⟨g3, 0, none⟩), .pointer (some ⟨g15, 0, none⟩), .pointer (some ⟨g2, 0, none⟩), .pointer (some ⟨g6, 0, none⟩), .pointer (some ⟨g16, 0, none⟩)])) := below_set hB8 (by have h1 := hg16.out; have h2 := hB7.size; omega); have hx16_9 : (z8.setCell ⟨g16, 0, none⟩ (.func (.func 110) #[] #[.pointer (some ⟨g3, 0, none⟩), .pointer (some ⟨g15, 0, none⟩), .pointer (some ⟨g2, 0, none⟩), .pointer (some ⟨g6, 0, none⟩), .pointer (some ⟨g16, 0, none⟩)])).heap[g16]? = some (.cells #[(.func (.func 110) #[] #[.pointer (some ⟨g3, 0, none⟩), .pointer (some ⟨g15, 0, none⟩), .pointer (some ⟨g2, 0, none⟩), .pointer (some ⟨g6, 0, none⟩), .pointer (some ⟨g16, 0, none⟩)])] 87 (0, 0)) := blk_put (cs := #[.nilFunc]) hx16 0 (.func (.func 110) #[] #[.pointer (some ⟨g3, 0, none⟩), .pointer (some ⟨g15, 0, none⟩), .pointer (some ⟨g2, 0, none⟩), .pointer (some ⟨g6, 0, none⟩), .pointer (some ⟨g16, 0, none⟩)]) rfl;
                      have hx15_9 := blk_far hx15_8 (p := ⟨g16, 0, none⟩) (blk_ne hx15_8 hx16 (by decide)) (.func (.func 110) #[] #[.pointer (some ⟨g3, 0, none⟩), .pointer (some ⟨g15, 0, none⟩), .pointer (some ⟨g2, 0, none⟩), .pointer (some ⟨g6, 0, none⟩), .pointer (some ⟨g16, 0, none⟩)]);
                      have hX : ∀ k, k = wA.heap.size → ¬ impl_Graph_closedWalks.X g16 g15 k := (by
                        have h1 := hlt5.out
                        have h2 := hg15.out
                        have h3 := hg16.out
                        have h9 := blk_lt hx15_7
                        rintro k rfl (h | h) <;> omega);
                      have hrA := Kd.C_below hr0_1 hB3;
                      refine (impl_Graph_closedWalks.ok a0_0 A0_1 c0_1 l0_1 _ _ _ wA hrA hc0_1 hRr K g3 g15 g2 g6 g16 (by have h1 := hg15.out; have h2 := hB5.size; omega) hk hg h7 K [] [] rr (.slice none 0 0) _ (fun k => k = wA.heap.size) (fun _ => True) _ (Nat.zero_add K) Arr.out hB9 hx16_9 hx15_9 hS9 (Kd.R_nil _ _ _ _ _) hX (fun k hk => by cases hk)).mono ?_;
                      rintro e' z10 ⟨rfl, vo, ho10, hS10, _, hB10, _⟩; refine ⟨_, rfl, ?_⟩; obtain ⟨Ay, cy, rfl⟩ := Kd.S_slice hS10; have hc11 : z10.cell? ⟨g15, 0, none⟩ = some (.slice Ay rr.length cy) := (blk_cell ho10 0).trans rfl; have hf11 := blk_frozen ho10 0))
                go_ret2
                exact ⟨_, rfl, Kd.S_lower (Kd.S_mono hS10 (fun _ _ => trivial)) hB3.size, ⟨hB10.os.trans hB3.os, hB10.tape.trans hB3.tape, hB10.output.trans hB3.output, Nat.le_trans hB3.size hB10.size, fun k hk => (hB10.block k (Nat.lt_of_lt_of_le hk hB3.size)).trans (hB3.block k hk)⟩⟩

/-! ### impl_ClosedWalks_1: function 100001 -/
def impl_ClosedWalks_1.f (a0_0 : Int) : Option (Bool) := (impl_isLength.f a0_0).bind fun t358 => (some t358)
set_option maxHeartbeats 8000000 in
set_option maxRecDepth 100000 in
theorem impl_ClosedWalks_1.calls (gq0_0 : Nat) (a0_0 : Int) (r : Bool) (w : World) (hbgq0_0 : w.heap[gq0_0]? = some (.cells #[.int .i64 a0_0] 2 (0, 0))) (h : impl_ClosedWalks_1.f a0_0 = some r) :
    Calls Try.prog 74 #[.pointer (some ⟨gq0_0, 0, none⟩)] w fun e w' => e = .returned (.bool r) ∧ Below w.heap.size w w' := by
  have BK357 := Aside0.mk hbgq0_0
  clear hbgq0_0
  have HB := Aside0.mk (Below.refl w.heap.size w)
  have H : ((impl_isLength.f a0_0).bind fun t358 => (some t358)) = some r := h
  clear h
  obtain ⟨t358, A2, H⟩ := bnd_ H
  obtain rfl := Option.some.inj H
  have hcz3_0 : w.cell? ⟨gq0_0, 0, none⟩ = some (.int .i64 a0_0) := (blk_cell BK357.out 0).trans rfl
  have hfz3_0 := blk_frozen BK357.out 0
  go_enter Try.func74, Try.ntmps74
  go_wp2_with (first | ((with_reducible refine gate_callee (f := 67) rfl ?_); refine goesL_ (some 3) rfl rfl Try.func67 (by kernel_rfl) rfl #[.int .i64 a0_0] rfl arg_ ?_; (with_reducible refine (impl_isLength.calls a0_0 t358 _ A2.out).mono ?_); rintro e w' ⟨rfl, ⟨nd, rfl⟩⟩; refine ⟨_, rfl, ?_⟩))
  go_ret
  exact ⟨er_, hbs_⟩

/-! ### impl_graphCode_at_ClosedWalks_1: function 100000 -/
def impl_graphCode_at_ClosedWalks_1.f (k : Nat) (a0_0 : Int) (l0_1 : List (List Int)) (a1_0 : Int) : Option (Int) := (impl_IsGraph.f k a0_0 l0_1).bind fun t361 => (if t361 = true then ((impl_ClosedWalks_1.f a1_0).bind fun t362 => (if t362 = true then (some 0) else (some 2))) else (some 1))
set_option maxHeartbeats 8000000 in
set_option maxRecDepth 100000 in
theorem impl_graphCode_at_ClosedWalks_1.calls (k : Nat) (a0_0 : Int) (A0_1 : Option Addr) (c0_1 : Nat) (l0_1 : List (List Int)) (gq1_0 : Nat) (a1_0 : Int) (r : Int) (w : World) (hr0_1 : Kd.C (Kd.slice 2 (Kd.int .i64)) w A0_1 l0_1.length l0_1) (hc0_1 : l0_1.length ≤ c0_1) (hbgq1_0 : w.heap[gq1_0]? = some (.cells #[.int .i64 a1_0] 2 (0, 0))) (h : impl_graphCode_at_ClosedWalks_1.f k a0_0 l0_1 a1_0 = some r) :
    Calls Try.prog 50 #[.agg #[.int .i64 a0_0, .slice A0_1 l0_1.length c0_1], .func (.func 74) #[] #[.pointer (some ⟨gq1_0, 0, none⟩)]] w fun e w' => e = .returned (.int .i64 r) ∧ Below w.heap.size w w' := by
  have hu29 := Try.underlying29
  have HR0_1 := Aside0.mk hr0_1
  have HC0_1 := Aside0.mk hc0_1
  clear hr0_1 hc0_1
  have BK359 := Aside0.mk hbgq1_0
  clear hbgq1_0
  have HB := Aside0.mk (Below.refl w.heap.size w)
  have H : ((impl_IsGraph.f k a0_0 l0_1).bind fun t361 => (if t361 = true then ((impl_ClosedWalks_1.f a1_0).bind fun t362 => (if t362 = true then (some 0) else (some 2))) else (some 1))) = some r := h
  clear h
  obtain ⟨t361, A3, H⟩ := bnd_ H
  by_cases c4 : t361 = true
  · subst c4
    have H1 : ((impl_ClosedWalks_1.f a1_0).bind fun t362 => (if t362 = true then (some 0) else (some 2))) = some r := by rw [if_pos rfl] at H; exact H
    clear H
    have H := H1
    clear H1
    obtain ⟨t362, A5, H⟩ := bnd_ H
    by_cases c6 : t362 = true
    · subst c6
      have H1 : (some 0) = some r := by rw [if_pos rfl] at H; exact H
      clear H
      have H := H1
      clear H1
      obtain rfl := Option.some.inj H
      go_enter Try.func50, Try.ntmps50
      go_wp2_with (first | ((with_reducible refine gate_dst (N := 2) rfl ?_); refine box_event ?hg (N := 2) ?hd (cs := #[.int .i64 a0_0, .slice A0_1 l0_1.length c0_1]) (t := 29) ?hr ?_; (case hd => rfl); (case hg => rfl); (case hr => first | (go_simp; done) | (go_simp; rfl)); intro gb360 hg w7 hbox hb; have BK360 := Aside0.mk (hbox); have GW360 := Aside0.mk ((by rw [hg]; exact (below_size hbs_) : w.heap.size ≤ gb360)); have GE360 := Aside0.mk ((by rw [hg]; exact (below_size hbs_) : w.heap.size ≤ gb360)); replace HB := Aside0.mk (below_step hbs_ hb); have NB359_360 := Aside0.mk ((by rw [hg]; exact Nat.ne_of_lt (blk_lt (g := gq1_0) (o := .cells #[.int .i64 a1_0] 2 (0, 0)) (blk_below BK359.out bgo_)) : gq1_0 ≠ gb360)); have NB360_359 := Aside0.mk ((by rw [hg]; exact Nat.ne_of_gt (blk_lt (g := gq1_0) (o := .cells #[.int .i64 a1_0] 2 (0, 0)) (blk_below BK359.out bgo_)) : gb360 ≠ gq1_0)); replace BK359 := Aside0.mk (blk_below (g := gq1_0) (o := .cells #[.int .i64 a1_0] 2 (0, 0)) (blk_below BK359.out bgo_) hb); clear hb hbox hg; have hnb8 := NB360_359.out; have hnc8 := NB359_360.out; have hcz9_0 : w7.cell? ⟨gb360, 0, none⟩ = some (.int .i64 a0_0) := (blk_cell BK360.out 0).trans rfl; have hcz9_1 : w7.cell? ⟨gb360, 1, none⟩ = some (.slice A0_1 l0_1.length c0_1) := (blk_cell BK360.out 1).trans rfl; have hfz9_0 := blk_frozen BK360.out 0; have hfz9_1 := blk_frozen BK360.out 1) | ((with_reducible refine gate_callee (f := 46) rfl ?_); refine goesL_ (some 7) rfl rfl Try.func46 (by kernel_rfl) rfl #[.agg #[.int .i64 a0_0, .slice A0_1 l0_1.length c0_1]] rfl arg_ ?_; (with_reducible refine (impl_IsGraph.calls k a0_0 _ _ l0_1 true _ ?side1 ?side2 A3.out).mono ?_); (case side1 => exact Kd.C_below (Kd.C_below HR0_1.out HB.out) bgo_); (case side2 => exact HC0_1.out); rintro e w10 ⟨rfl, hb⟩; refine ⟨_, rfl, ?_⟩; replace BK359 := Aside0.mk (blk_below (g := gq1_0) (o := .cells #[.int .i64 a1_0] 2 (0, 0)) (blk_below BK359.out bgo_) hb); replace BK360 := Aside0.mk (blk_below (g := gb360) (o := .cells #[.int .i64 a0_0, .slice A0_1 l0_1.length c0_1] 29 (0, 0)) (blk_below BK360.out bgo_) hb); replace HB := Aside0.mk (below_step hbs_ hb); (try clear hb); (try clear hb2); (try clear hk); (try clear hi)) | ((with_reducible refine gate_fn (t := 10) rfl ?_); refine goesF_ (some 11) rfl rfl Try.func74 (by kernel_rfl) rfl (lb := #[.pointer (some ⟨gq1_0, 0, none⟩)]) #[.pointer (some ⟨gq1_0, 0, none⟩)] rfl (by first | rfl | (simp; done)) (by (try simp only [List.map_toArray, List.map_cons, List.map_nil, List.append_toArray, List.cons_append, List.nil_append]); first | done | rfl | (simp only [List.length_drop, List.length_take]; rfl)) ?_; (with_reducible refine (impl_ClosedWalks_1.calls gq1_0 a1_0 true _ ?side1 A5.out).mono ?_); (case side1 => exact (blk_below BK359.out bgo_)); rintro e w11 ⟨rfl, hb⟩; refine ⟨_, rfl, ?_⟩; replace BK359 := Aside0.mk (blk_below (g := gq1_0) (o := .cells #[.int .i64 a1_0] 2 (0, 0)) (blk_below BK359.out bgo_) hb); replace BK360 := Aside0.mk (blk_below (g := gb360) (o := .cells #[.int .i64 a0_0, .slice A0_1 l0_1.length c0_1] 29 (0, 0)) (blk_below BK360.out bgo_) hb); replace HB := Aside0.mk (below_step hbs_ hb); (try clear hb); (try clear hb2); (try clear hk); (try clear hi)))
      go_ret
      exact ⟨er_, hbs_⟩
    · replace c6 := Bool.eq_false_iff.mpr c6
      subst c6
      have H1 : (some 2) = some r := by rw [if_neg (show ¬ (false = true) by decide)] at H; exact H
      clear H
      have H := H1
      clear H1
      obtain rfl := Option.some.inj H
      go_enter Try.func50, Try.ntmps50
      go_wp2_with (first | ((with_reducible refine gate_dst (N := 2) rfl ?_); refine box_event ?hg (N := 2) ?hd (cs := #[.int .i64 a0_0, .slice A0_1 l0_1.length c0_1]) (t := 29) ?hr ?_; (case hd => rfl); (case hg => rfl); (case hr => first | (go_simp; done) | (go_simp; rfl)); intro gb360 hg w12 hbox hb; have BK360 := Aside0.mk (hbox); have GW360 := Aside0.mk ((by rw [hg]; exact (below_size hbs_) : w.heap.size ≤ gb360)); have GE360 := Aside0.mk ((by rw [hg]; exact (below_size hbs_) : w.heap.size ≤ gb360)); replace HB := Aside0.mk (below_step hbs_ hb); have NB359_360 := Aside0.mk ((by rw [hg]; exact Nat.ne_of_lt (blk_lt (g := gq1_0) (o := .cells #[.int .i64 a1_0] 2 (0, 0)) (blk_below BK359.out bgo_)) : gq1_0 ≠ gb360)); have NB360_359 := Aside0.mk ((by rw [hg]; exact Nat.ne_of_gt (blk_lt (g := gq1_0) (o := .cells #[.int .i64 a1_0] 2 (0, 0)) (blk_below BK359.out bgo_)) : gb360 ≠ gq1_0)); replace BK359 := Aside0.mk (blk_below (g := gq1_0) (o := .cells #[.int .i64 a1_0] 2 (0, 0)) (blk_below BK359.out bgo_) hb); clear hb hbox hg; have hnb13 := NB360_359.out; have hnc13 := NB359_360.out; have hcz14_0 : w12.cell? ⟨gb360, 0, none⟩ = some (.int .i64 a0_0) := (blk_cell BK360.out 0).trans rfl; have hcz14_1 : w12.cell? ⟨gb360, 1, none⟩ = some (.slice A0_1 l0_1.length c0_1) := (blk_cell BK360.out 1).trans rfl; have hfz14_0 := blk_frozen BK360.out 0; have hfz14_1 := blk_frozen BK360.out 1) | ((with_reducible refine gate_callee (f := 46) rfl ?_); refine goesL_ (some 7) rfl rfl Try.func46 (by kernel_rfl) rfl #[.agg #[.int .i64 a0_0, .slice A0_1 l0_1.length c0_1]] rfl arg_ ?_; (with_reducible refine (impl_IsGraph.calls k a0_0 _ _ l0_1 true _ ?side1 ?side2 A3.out).mono ?_); (case side1 => exact Kd.C_below (Kd.C_below HR0_1.out HB.out) bgo_); (case side2 => exact HC0_1.out); rintro e w15 ⟨rfl, hb⟩; refine ⟨_, rfl, ?_⟩; replace BK359 := Aside0.mk (blk_below (g := gq1_0) (o := .cells #[.int .i64 a1_0] 2 (0, 0)) (blk_below BK359.out bgo_) hb); replace BK360 := Aside0.mk (blk_below (g := gb360) (o := .cells #[.int .i64 a0_0, .slice A0_1 l0_1.length c0_1] 29 (0, 0)) (blk_below BK360.out bgo_) hb); replace HB := Aside0.mk (below_step hbs_ hb); (try clear hb); (try clear hb2); (try clear hk); (try clear hi)) | ((with_reducible refine gate_fn (t := 10) rfl ?_); refine goesF_ (some 11) rfl rfl Try.func74 (by kernel_rfl) rfl (lb := #[.pointer (some ⟨gq1_0, 0, none⟩)]) #[.pointer (some ⟨gq1_0, 0, none⟩)] rfl (by first | rfl | (simp; done)) (by (try simp only [List.map_toArray, List.map_cons, List.map_nil, List.append_toArray, List.cons_append, List.nil_append]); first | done | rfl | (simp only [List.length_drop, List.length_take]; rfl)) ?_; (with_reducible refine (impl_ClosedWalks_1.calls gq1_0 a1_0 false _ ?side1 A5.out).mono ?_); (case side1 => exact (blk_below BK359.out bgo_)); rintro e w16 ⟨rfl, hb⟩; refine ⟨_, rfl, ?_⟩; replace BK359 := Aside0.mk (blk_below (g := gq1_0) (o := .cells #[.int .i64 a1_0] 2 (0, 0)) (blk_below BK359.out bgo_) hb); replace BK360 := Aside0.mk (blk_below (g := gb360) (o := .cells #[.int .i64 a0_0, .slice A0_1 l0_1.length c0_1] 29 (0, 0)) (blk_below BK360.out bgo_) hb); replace HB := Aside0.mk (below_step hbs_ hb); (try clear hb); (try clear hb2); (try clear hk); (try clear hi)))
      go_ret
      exact ⟨er_, hbs_⟩
  · replace c4 := Bool.eq_false_iff.mpr c4
    subst c4
    have H1 : (some 1) = some r := by rw [if_neg (show ¬ (false = true) by decide)] at H; exact H
    clear H
    have H := H1
    clear H1
    obtain rfl := Option.some.inj H
    go_enter Try.func50, Try.ntmps50
    go_wp2_with (first | ((with_reducible refine gate_dst (N := 2) rfl ?_); refine box_event ?hg (N := 2) ?hd (cs := #[.int .i64 a0_0, .slice A0_1 l0_1.length c0_1]) (t := 29) ?hr ?_; (case hd => rfl); (case hg => rfl); (case hr => first | (go_simp; done) | (go_simp; rfl)); intro gb360 hg w17 hbox hb; have BK360 := Aside0.mk (hbox); have GW360 := Aside0.mk ((by rw [hg]; exact (below_size hbs_) : w.heap.size ≤ gb360)); have GE360 := Aside0.mk ((by rw [hg]; exact (below_size hbs_) : w.heap.size ≤ gb360)); replace HB := Aside0.mk (below_step hbs_ hb); have NB359_360 := Aside0.mk ((by rw [hg]; exact Nat.ne_of_lt (blk_lt (g := gq1_0) (o := .cells #[.int .i64 a1_0] 2 (0, 0)) (blk_below BK359.out bgo_)) : gq1_0 ≠ gb360)); have NB360_359 := Aside0.mk ((by rw [hg]; exact Nat.ne_of_gt (blk_lt (g := gq1_0) (o := .cells #[.int .i64 a1_0] 2 (0, 0)) (blk_below BK359.out bgo_)) : gb360 ≠ gq1_0)); replace BK359 := Aside0.mk (blk_below (g := gq1_0) (o := .cells #[.int .i64 a1_0] 2 (0, 0)) (blk_below BK359.out bgo_) hb); clear hb hbox hg; have hnb18 := NB360_359.out; have hnc18 := NB359_360.out; have hcz19_0 : w17.cell? ⟨gb360, 0, none⟩ = some (.int .i64 a0_0) := (blk_cell BK360.out 0).trans rfl; have hcz19_1 : w17.cell? ⟨gb360, 1, none⟩ = some (.slice A0_1 l0_1.length c0_1) := (blk_cell BK360.out 1).trans rfl; have hfz19_0 := blk_frozen BK360.out 0; have hfz19_1 := blk_frozen BK360.out 1) | ((with_reducible refine gate_callee (f := 46) rfl ?_); refine goesL_ (some 7) rfl rfl Try.func46 (by kernel_rfl) rfl #[.agg #[.int .i64 a0_0, .slice A0_1 l0_1.length c0_1]] rfl arg_ ?_; (with_reducible refine (impl_IsGraph.calls k a0_0 _ _ l0_1 false _ ?side1 ?side2 A3.out).mono ?_); (case side1 => exact Kd.C_below (Kd.C_below HR0_1.out HB.out) bgo_); (case side2 => exact HC0_1.out); rintro e w20 ⟨rfl, hb⟩; refine ⟨_, rfl, ?_⟩; replace BK359 := Aside0.mk (blk_below (g := gq1_0) (o := .cells #[.int .i64 a1_0] 2 (0, 0)) (blk_below BK359.out bgo_) hb); replace BK360 := Aside0.mk (blk_below (g := gb360) (o := .cells #[.int .i64 a0_0, .slice A0_1 l0_1.length c0_1] 29 (0, 0)) (blk_below BK360.out bgo_) hb); replace HB := Aside0.mk (below_step hbs_ hb); (try clear hb); (try clear hb2); (try clear hk); (try clear hi)))
    go_ret
    exact ⟨er_, hbs_⟩

/-! ### impl_ClosedWalks: function 30 -/
def impl_ClosedWalks.f (k : Nat) (a0_0 : Int) (l0_1 : List (List Int)) (a1 : Int) : Option ((List (List Int)) × Int) := (impl_graphCode_at_ClosedWalks_1.f k a0_0 l0_1 a1).bind fun t365 => (if t365 = 0 then ((impl_Graph_closedWalks.f k a0_0 l0_1 a1).bind fun bt366 => (if bt366.2 = true then (some (bt366.1, 0)) else (some (([] : List (List Int)), 3)))) else (some (([] : List (List Int)), t365)))
set_option maxHeartbeats 8000000 in
set_option maxRecDepth 100000 in
theorem impl_ClosedWalks.calls (k : Nat) (a0_0 : Int) (A0_1 : Option Addr) (c0_1 : Nat) (l0_1 : List (List Int)) (a1 : Int) (r1 : List (List Int)) (r2 : Int) (w : World) (hr0_1 : Kd.C (Kd.slice 2 (Kd.int .i64)) w A0_1 l0_1.length l0_1) (hc0_1 : l0_1.length ≤ c0_1) (h : impl_ClosedWalks.f k a0_0 l0_1 a1 = some (r1, r2)) :
    Calls Try.prog 30 #[.agg #[.int .i64 a0_0, .slice A0_1 l0_1.length c0_1], .int .i64 a1] w fun e w' => ∃ v0_ : Value, e = .returned (.tuple #[v0_, .int .i64 r2]) ∧ Kd.S (Kd.slice 2 (Kd.int .i64)) 26 w' w.heap.size (fun _ => True) v0_ r1 ∧ Below w.heap.size w w' := by
  have hu29 := Try.underlying29
  have HR0_1 := Aside0.mk hr0_1
  have HC0_1 := Aside0.mk hc0_1
  clear hr0_1 hc0_1
  have HB := Aside0.mk (Below.refl w.heap.size w)
  have H : ((impl_graphCode_at_ClosedWalks_1.f k a0_0 l0_1 a1).bind fun t365 => (if t365 = 0 then ((impl_Graph_closedWalks.f k a0_0 l0_1 a1).bind fun bt366 => (if bt366.2 = true then (some (bt366.1, 0)) else (some (([] : List (List Int)), 3)))) else (some (([] : List (List Int)), t365)))) = some (r1, r2) := h
  clear h
  obtain ⟨t365, A3, H⟩ := bnd_ H
  by_cases c4 : t365 = 0
  · rw [if_pos c4] at H
    have c4b0 : (t365 == 0) = true := beq_iff_eq.mpr c4
    have c4b1 : (t365 != 0) = false := bne_eq_false_iff_eq.mpr c4
    clear c4
    obtain ⟨⟨t366, t369⟩, A5, H⟩ := bnd_ H
    dsimp only at H
    by_cases c6 : t369 = true
    · subst c6
      have H1 : (some (t366, 0)) = some (r1, r2) := by rw [if_pos rfl] at H; exact H
      clear H
      have H := H1
      clear H1
      simp only [Option.some.injEq, Prod.mk.injEq] at H
      obtain ⟨rfl, rfl⟩ := H
      go_enter Try.func30, Try.ntmps30
      go_wp2_with (first | ((with_reducible refine gate_dst (N := 2) rfl ?_); refine box_event ?hg (N := 2) ?hd (cs := #[.int .i64 a0_0, .slice A0_1 l0_1.length c0_1]) (t := 29) ?hr ?_; (case hd => rfl); (case hg => rfl); (case hr => first | (go_simp; done) | (go_simp; rfl)); intro gb363 hg w7 hbox hb; have BK363 := Aside0.mk (hbox); have GW363 := Aside0.mk ((by rw [hg]; exact (below_size hb_) : w.heap.size ≤ gb363)); have GE363 := Aside0.mk ((by rw [hg]; exact (below_size hb_) : w.heap.size ≤ gb363)); replace HB := Aside0.mk (below_step hb_ hb); clear hb hbox hg) | ((with_reducible refine gate_dst (N := 3) rfl ?_); refine box_event ?hg (N := 3) ?hd (cs := #[.int .i64 a1]) (t := 2) ?hr ?_; (case hd => rfl); (case hg => rfl); (case hr => first | (go_simp; done) | (go_simp; rfl)); intro gb364 hg w8 hbox hb; have BK364 := Aside0.mk (hbox); have GW364 := Aside0.mk ((by rw [hg]; exact (below_size hbs_) : w.heap.size ≤ gb364)); have GE364 := Aside0.mk ((by rw [hg]; exact (below_size hbs_) : w.heap.size ≤ gb364)); replace HB := Aside0.mk (below_step hbs_ hb); have NB363_364 := Aside0.mk ((by rw [hg]; exact Nat.ne_of_lt (blk_lt (g := gb363) (o := .cells #[.int .i64 a0_0, .slice A0_1 l0_1.length c0_1] 29 (0, 0)) (blk_below BK363.out bgo_)) : gb363 ≠ gb364)); have NB364_363 := Aside0.mk ((by rw [hg]; exact Nat.ne_of_gt (blk_lt (g := gb363) (o := .cells #[.int .i64 a0_0, .slice A0_1 l0_1.length c0_1] 29 (0, 0)) (blk_below BK363.out bgo_)) : gb364 ≠ gb363)); replace BK363 := Aside0.mk (blk_below (g := gb363) (o := .cells #[.int .i64 a0_0, .slice A0_1 l0_1.length c0_1] 29 (0, 0)) (blk_below BK363.out bgo_) hb); clear hb hbox hg; have hnb9 := NB363_364.out; have hnc9 := NB364_363.out; have hcz10_0 : w8.cell? ⟨gb363, 0, none⟩ = some (.int .i64 a0_0) := (blk_cell BK363.out 0).trans rfl; have hcz10_1 : w8.cell? ⟨gb363, 1, none⟩ = some (.slice A0_1 l0_1.length c0_1) := (blk_cell BK363.out 1).trans rfl; have hfz10_0 := blk_frozen BK363.out 0; have hfz10_1 := blk_frozen BK363.out 1) | ((with_reducible refine gate_callee (f := 50) rfl ?_); refine goesL_ (some 11) rfl rfl Try.func50 (by kernel_rfl) rfl #[.agg #[.int .i64 a0_0, .slice A0_1 l0_1.length c0_1], .func (.func 74) #[] #[.pointer (some ⟨gb364, 0, none⟩)]] rfl arg_ ?_; (with_reducible refine (impl_graphCode_at_ClosedWalks_1.calls k a0_0 _ _ l0_1 gb364 a1 t365 _ ?side1 ?side2 ?side3 A3.out).mono ?_); (case side1 => exact Kd.C_below (Kd.C_below HR0_1.out HB.out) bgo_); (case side2 => exact HC0_1.out); (case side3 => exact (blk_below BK364.out bgo_)); rintro e w11 ⟨rfl, hb⟩; refine ⟨_, rfl, ?_⟩; replace BK363 := Aside0.mk (blk_below (g := gb363) (o := .cells #[.int .i64 a0_0, .slice A0_1 l0_1.length c0_1] 29 (0, 0)) (blk_below BK363.out bgo_) hb); replace BK364 := Aside0.mk (blk_below (g := gb364) (o := .cells #[.int .i64 a1] 2 (0, 0)) (blk_below BK364.out bgo_) hb); replace HB := Aside0.mk (below_step hbs_ hb); (try clear hb); (try clear hb2); (try clear hk); (try clear hi); have hcz12_0 : w11.cell? ⟨gb363, 0, none⟩ = some (.int .i64 a0_0) := (blk_cell BK363.out 0).trans rfl; have hcz12_1 : w11.cell? ⟨gb363, 1, none⟩ = some (.slice A0_1 l0_1.length c0_1) := (blk_cell BK363.out 1).trans rfl; have hfz12_0 := blk_frozen BK363.out 0; have hfz12_1 := blk_frozen BK363.out 1; have hcz13_0 : w11.cell? ⟨gb364, 0, none⟩ = some (.int .i64 a1) := (blk_cell BK364.out 0).trans rfl; have hfz13_0 := blk_frozen BK364.out 0) | ((with_reducible refine gate_callee (f := 75) rfl ?_); refine goesL_ (some 18) rfl rfl Try.func75 (by kernel_rfl) rfl #[.agg #[.int .i64 a0_0, .slice A0_1 l0_1.length c0_1], .int .i64 a1] rfl arg_ ?_; (with_reducible refine (impl_Graph_closedWalks.calls k a0_0 _ _ l0_1 a1 t366 true _ ?side1 ?side2 A5.out).mono ?_); (case side1 => exact Kd.C_below (Kd.C_below HR0_1.out HB.out) bgo_); (case side2 => exact HC0_1.out); rintro e w14 ⟨v367, rfl, ho0, hb⟩; refine ⟨_, rfl, ?_⟩; have HO368 := Aside0.mk (Kd.S_lower (Kd.S_newB ho0 (g := gb364) (o := .cells #[.int .i64 a1] 2 (0, 0)) (blk_below BK364.out bgo_)) (below_size hbs_)); replace BK363 := Aside0.mk (blk_below (g := gb363) (o := .cells #[.int .i64 a0_0, .slice A0_1 l0_1.length c0_1] 29 (0, 0)) (blk_below BK363.out bgo_) hb); replace BK364 := Aside0.mk (blk_below (g := gb364) (o := .cells #[.int .i64 a1] 2 (0, 0)) (blk_below BK364.out bgo_) hb); replace HB := Aside0.mk (below_step hbs_ hb); (try clear hb); (try clear hb2); (try clear hk); (try clear hi); (try clear ho0)))
      go_ret2
      exact ⟨_, er_, by (with_reducible repeat (first | apply Kd.S_alloc | apply Kd.S_drewN | apply Kd.S_drew)); exact Kd.S_mono HO368.out (fun _ hk => trivial), hbs_⟩
    · replace c6 := Bool.eq_false_iff.mpr c6
      subst c6
      have H1 : (some (([] : List (List Int)), 3)) = some (r1, r2) := by rw [if_neg (show ¬ (false = true) by decide)] at H; exact H
      clear H
      have H := H1
      clear H1
      simp only [Option.some.injEq, Prod.mk.injEq] at H
      obtain ⟨rfl, rfl⟩ := H
      go_enter Try.func30, Try.ntmps30
      go_wp2_with (first | ((with_reducible refine gate_dst (N := 2) rfl ?_); refine box_event ?hg (N := 2) ?hd (cs := #[.int .i64 a0_0, .slice A0_1 l0_1.length c0_1]) (t := 29) ?hr ?_; (case hd => rfl); (case hg => rfl); (case hr => first | (go_simp; done) | (go_simp; rfl)); intro gb363 hg w15 hbox hb; have BK363 := Aside0.mk (hbox); have GW363 := Aside0.mk ((by rw [hg]; exact (below_size hb_) : w.heap.size ≤ gb363)); have GE363 := Aside0.mk ((by rw [hg]; exact (below_size hb_) : w.heap.size ≤ gb363)); replace HB := Aside0.mk (below_step hb_ hb); clear hb hbox hg) | ((with_reducible refine gate_dst (N := 3) rfl ?_); refine box_event ?hg (N := 3) ?hd (cs := #[.int .i64 a1]) (t := 2) ?hr ?_; (case hd => rfl); (case hg => rfl); (case hr => first | (go_simp; done) | (go_simp; rfl)); intro gb364 hg w16 hbox hb; have BK364 := Aside0.mk (hbox); have GW364 := Aside0.mk ((by rw [hg]; exact (below_size hbs_) : w.heap.size ≤ gb364)); have GE364 := Aside0.mk ((by rw [hg]; exact (below_size hbs_) : w.heap.size ≤ gb364)); replace HB := Aside0.mk (below_step hbs_ hb); have NB363_364 := Aside0.mk ((by rw [hg]; exact Nat.ne_of_lt (blk_lt (g := gb363) (o := .cells #[.int .i64 a0_0, .slice A0_1 l0_1.length c0_1] 29 (0, 0)) (blk_below BK363.out bgo_)) : gb363 ≠ gb364)); have NB364_363 := Aside0.mk ((by rw [hg]; exact Nat.ne_of_gt (blk_lt (g := gb363) (o := .cells #[.int .i64 a0_0, .slice A0_1 l0_1.length c0_1] 29 (0, 0)) (blk_below BK363.out bgo_)) : gb364 ≠ gb363)); replace BK363 := Aside0.mk (blk_below (g := gb363) (o := .cells #[.int .i64 a0_0, .slice A0_1 l0_1.length c0_1] 29 (0, 0)) (blk_below BK363.out bgo_) hb); clear hb hbox hg; have hnb17 := NB363_364.out; have hnc17 := NB364_363.out; have hcz18_0 : w16.cell? ⟨gb363, 0, none⟩ = some (.int .i64 a0_0) := (blk_cell BK363.out 0).trans rfl; have hcz18_1 : w16.cell? ⟨gb363, 1, none⟩ = some (.slice A0_1 l0_1.length c0_1) := (blk_cell BK363.out 1).trans rfl; have hfz18_0 := blk_frozen BK363.out 0; have hfz18_1 := blk_frozen BK363.out 1) | ((with_reducible refine gate_callee (f := 50) rfl ?_); refine goesL_ (some 11) rfl rfl Try.func50 (by kernel_rfl) rfl #[.agg #[.int .i64 a0_0, .slice A0_1 l0_1.length c0_1], .func (.func 74) #[] #[.pointer (some ⟨gb364, 0, none⟩)]] rfl arg_ ?_; (with_reducible refine (impl_graphCode_at_ClosedWalks_1.calls k a0_0 _ _ l0_1 gb364 a1 t365 _ ?side1 ?side2 ?side3 A3.out).mono ?_); (case side1 => exact Kd.C_below (Kd.C_below HR0_1.out HB.out) bgo_); (case side2 => exact HC0_1.out); (case side3 => exact (blk_below BK364.out bgo_)); rintro e w19 ⟨rfl, hb⟩; refine ⟨_, rfl, ?_⟩; replace BK363 := Aside0.mk (blk_below (g := gb363) (o := .cells #[.int .i64 a0_0, .slice A0_1 l0_1.length c0_1] 29 (0, 0)) (blk_below BK363.out bgo_) hb); replace BK364 := Aside0.mk (blk_below (g := gb364) (o := .cells #[.int .i64 a1] 2 (0, 0)) (blk_below BK364.out bgo_) hb); replace HB := Aside0.mk (below_step hbs_ hb); (try clear hb); (try clear hb2); (try clear hk); (try clear hi); have hcz20_0 : w19.cell? ⟨gb363, 0, none⟩ = some (.int .i64 a0_0) := (blk_cell BK363.out 0).trans rfl; have hcz20_1 : w19.cell? ⟨gb363, 1, none⟩ = some (.slice A0_1 l0_1.length c0_1) := (blk_cell BK363.out 1).trans rfl; have hfz20_0 := blk_frozen BK363.out 0; have hfz20_1 := blk_frozen BK363.out 1; have hcz21_0 : w19.cell? ⟨gb364, 0, none⟩ = some (.int .i64 a1) := (blk_cell BK364.out 0).trans rfl; have hfz21_0 := blk_frozen BK364.out 0) | ((with_reducible refine gate_callee (f := 75) rfl ?_); refine goesL_ (some 18) rfl rfl Try.func75 (by kernel_rfl) rfl #[.agg #[.int .i64 a0_0, .slice A0_1 l0_1.length c0_1], .int .i64 a1] rfl arg_ ?_; (with_reducible refine (impl_Graph_closedWalks.calls k a0_0 _ _ l0_1 a1 t366 false _ ?side1 ?side2 A5.out).mono ?_); (case side1 => exact Kd.C_below (Kd.C_below HR0_1.out HB.out) bgo_); (case side2 => exact HC0_1.out); rintro e w22 ⟨v367, rfl, ho0, hb⟩; refine ⟨_, rfl, ?_⟩; have HO368 := Aside0.mk (Kd.S_lower (Kd.S_newB ho0 (g := gb364) (o := .cells #[.int .i64 a1] 2 (0, 0)) (blk_below BK364.out bgo_)) (below_size hbs_)); replace BK363 := Aside0.mk (blk_below (g := gb363) (o := .cells #[.int .i64 a0_0, .slice A0_1 l0_1.length c0_1] 29 (0, 0)) (blk_below BK363.out bgo_) hb); replace BK364 := Aside0.mk (blk_below (g := gb364) (o := .cells #[.int .i64 a1] 2 (0, 0)) (blk_below BK364.out bgo_) hb); replace HB := Aside0.mk (below_step hbs_ hb); (try clear hb); (try clear hb2); (try clear hk); (try clear hi); (try clear ho0)))
      go_ret2
      exact ⟨_, er_, by first | exact Kd.S_nil _ _ _ _ _ | exact Kd.N_nil _ _ _ _ _ | exact Kd.V_nil _ _ _ _ _ | exact Kd.Q_nil _ _ _ _ _ | exact Kd.R_nil _ _ _ _ _, hbs_⟩
  · rw [if_neg c4] at H
    have c4b0 : (t365 == 0) = false := beq_eq_false_iff_ne.mpr c4
    have c4b1 : (t365 != 0) = true := bne_iff_ne.mpr c4
    simp only [Option.some.injEq, Prod.mk.injEq] at H
    obtain ⟨rfl, rfl⟩ := H
    go_enter Try.func30, Try.ntmps30
    go_wp2_with (first | ((with_reducible refine gate_dst (N := 2) rfl ?_); refine box_event ?hg (N := 2) ?hd (cs := #[.int .i64 a0_0, .slice A0_1 l0_1.length c0_1]) (t := 29) ?hr ?_; (case hd => rfl); (case hg => rfl); (case hr => first | (go_simp; done) | (go_simp; rfl)); intro gb363 hg w23 hbox hb; have BK363 := Aside0.mk (hbox); have GW363 := Aside0.mk ((by rw [hg]; exact (below_size hb_) : w.heap.size ≤ gb363)); have GE363 := Aside0.mk ((by rw [hg]; exact (below_size hb_) : w.heap.size ≤ gb363)); replace HB := Aside0.mk (below_step hb_ hb); clear hb hbox hg) | ((with_reducible refine gate_dst (N := 3) rfl ?_); refine box_event ?hg (N := 3) ?hd (cs := #[.int .i64 a1]) (t := 2) ?hr ?_; (case hd => rfl); (case hg => rfl); (case hr => first | (go_simp; done) | (go_simp; rfl)); intro gb364 hg w24 hbox hb; have BK364 := Aside0.mk (hbox); have GW364 := Aside0.mk ((by rw [hg]; exact (below_size hbs_) : w.heap.size ≤ gb364)); have GE364 := Aside0.mk ((by rw [hg]; exact (below_size hbs_) : w.heap.size ≤ gb364)); replace HB := Aside0.mk (below_step hbs_ hb); have NB363_364 := Aside0.mk ((by rw [hg]; exact Nat.ne_of_lt (blk_lt (g := gb363) (o := .cells #[.int .i64 a0_0, .slice A0_1 l0_1.length c0_1] 29 (0, 0)) (blk_below BK363.out bgo_)) : gb363 ≠ gb364)); have NB364_363 := Aside0.mk ((by rw [hg]; exact Nat.ne_of_gt (blk_lt (g := gb363) (o := .cells #[.int .i64 a0_0, .slice A0_1 l0_1.length c0_1] 29 (0, 0)) (blk_below BK363.out bgo_)) : gb364 ≠ gb363)); replace BK363 := Aside0.mk (blk_below (g := gb363) (o := .cells #[.int .i64 a0_0, .slice A0_1 l0_1.length c0_1] 29 (0, 0)) (blk_below BK363.out bgo_) hb); clear hb hbox hg; have hnb25 := NB363_364.out; have hnc25 := NB364_363.out; have hcz26_0 : w24.cell? ⟨gb363, 0, none⟩ = some (.int .i64 a0_0) := (blk_cell BK363.out 0).trans rfl; have hcz26_1 : w24.cell? ⟨gb363, 1, none⟩ = some (.slice A0_1 l0_1.length c0_1) := (blk_cell BK363.out 1).trans rfl; have hfz26_0 := blk_frozen BK363.out 0; have hfz26_1 := blk_frozen BK363.out 1) | ((with_reducible refine gate_callee (f := 50) rfl ?_); refine goesL_ (some 11) rfl rfl Try.func50 (by kernel_rfl) rfl #[.agg #[.int .i64 a0_0, .slice A0_1 l0_1.length c0_1], .func (.func 74) #[] #[.pointer (some ⟨gb364, 0, none⟩)]] rfl arg_ ?_; (with_reducible refine (impl_graphCode_at_ClosedWalks_1.calls k a0_0 _ _ l0_1 gb364 a1 t365 _ ?side1 ?side2 ?side3 A3.out).mono ?_); (case side1 => exact Kd.C_below (Kd.C_below HR0_1.out HB.out) bgo_); (case side2 => exact HC0_1.out); (case side3 => exact (blk_below BK364.out bgo_)); rintro e w27 ⟨rfl, hb⟩; refine ⟨_, rfl, ?_⟩; replace BK363 := Aside0.mk (blk_below (g := gb363) (o := .cells #[.int .i64 a0_0, .slice A0_1 l0_1.length c0_1] 29 (0, 0)) (blk_below BK363.out bgo_) hb); replace BK364 := Aside0.mk (blk_below (g := gb364) (o := .cells #[.int .i64 a1] 2 (0, 0)) (blk_below BK364.out bgo_) hb); replace HB := Aside0.mk (below_step hbs_ hb); (try clear hb); (try clear hb2); (try clear hk); (try clear hi)))
    go_ret2
    exact ⟨_, er_, by first | exact Kd.S_nil _ _ _ _ _ | exact Kd.N_nil _ _ _ _ _ | exact Kd.V_nil _ _ _ _ _ | exact Kd.Q_nil _ _ _ _ _ | exact Kd.R_nil _ _ _ _ _, hbs_⟩

/-! ### spec_l03Before: function 77 -/
def spec_l03Before.l0 : Nat → List Int → List Int → Int → Option (Bool)
  | 0, _, _, _ => none
  | k + 1, x0, x1, x5 => if x5 < (x0.length : Int) then (if 0 ≤ x5 then (if x5 < (x1.length : Int) then (if (rd x0 x5) = (rd x1 x5) then (spec_l03Before.l0 k x0 x1 (wrap64 (x5 + 1))) else (some (decide ((rd x0 x5) < (rd x1 x5))))) else (none)) else (none)) else (some false)
def spec_l03Before.f (k : Nat) (l0 : List Int) (l1 : List Int) : Option (Bool) := spec_l03Before.l0 k l0 l1 0
set_option maxHeartbeats 8000000 in
set_option maxRecDepth 100000 in
theorem spec_l03Before.calls (k : Nat) (A0 : Option Addr) (c0 : Nat) (l0 : List Int) (A1 : Option Addr) (c1 : Nat) (l1 : List Int) (r : Bool) (w : World) (hr0 : Kd.C (Kd.int .i64) w A0 l0.length l0) (hc0 : l0.length ≤ c0) (hr1 : Kd.C (Kd.int .i64) w A1 l1.length l1) (hc1 : l1.length ≤ c1) (h : spec_l03Before.f k l0 l1 = some r) :
    Calls Try.prog 77 #[.slice A0 l0.length c0, .slice A1 l1.length c1] w fun e w' => e = .returned (.bool r) ∧ Drawn0 w w' := by
  have HR0 := Aside0.mk hr0
  have HC0 := Aside0.mk hc0
  clear hr0 hc0
  have HR1 := Aside0.mk hr1
  have HC1 := Aside0.mk hc1
  clear hr1 hc1
  have H : (spec_l03Before.l0 k l0 l1 0) = some r := h
  clear h
  have H' := Aside0.mk H
  clear H
  go_enter Try.func77, Try.ntmps77
  go_wp2
  go_loopg [5] k (fun kq v5 w' => ∃ (x5_1 : Int), v5 = .int .i64 x5_1 ∧ Aside0 (spec_l03Before.l0 kq l0 l1 x5_1 = some r) ∧ Aside0 (kq ≤ k) ∧ Drawn0 w w')
  case atStart => exact ⟨(0), es_, H', ⟨Nat.le_refl _⟩, by repeat (first | exact Drawn0.refl _ | apply Drawn0.step)⟩
  case round =>
    clear H'
    obtain ⟨x5_1, rfl, HA, HK1, ⟨m1, rfl⟩⟩ := hrel
    cases gk with
    | zero => exact absurd HA.out (by simp [spec_l03Before.l0])
    | succ k1 =>
      have H := HA.out
      clear HA
      simp only [spec_l03Before.l0] at H
      by_cases c3 : x5_1 < (l0.length : Int)
      · rw [if_pos c3] at H
        have c3b0 := decide_eq_true c3
        clear c3
        obtain ⟨c4, H⟩ := itn_ H
        have c4b0 := decide_eq_true c4
        clear c4
        obtain ⟨c5, H⟩ := itn_ H
        have c5b0 := decide_eq_true c5
        clear c5
        by_cases c6 : (rd l0 x5_1) = (rd l1 x5_1)
        · rw [if_pos c6] at H
          have c6b0 : ((rd l0 x5_1) == (rd l1 x5_1)) = true := beq_iff_eq.mpr c6
          have c6b1 : ((rd l0 x5_1) != (rd l1 x5_1)) = false := bne_eq_false_iff_eq.mpr c6
          clear c6
          have H' := Aside0.mk H
          clear H
          have p411 : 0 ≤ (x5_1 : Int) := od_
          have q411 : x5_1 < (l0.length : Int) := od_
          obtain ⟨ad411, e411, hx411_0⟩ := Kd.at_int HR0.out x5_1 p411 q411
          cases e411
          replace p411 := eq_true p411
          replace q411 := eq_true q411
          have p412 : 0 ≤ (x5_1 : Int) := od_
          have q412 : x5_1 < (l1.length : Int) := od_
          obtain ⟨ad412, e412, hx412_0⟩ := Kd.at_int HR1.out x5_1 p412 q412
          cases e412
          replace p412 := eq_true p412
          replace q412 := eq_true q412
          go_wp2
          repeat (go_quiet (fail); try go_wp2)
          go_roundg k1
          case measure => have := HK1.out; omega
          case rel => exact ⟨(wrap64 (x5_1 + 1)), es_, H', ⟨by have := HK1.out; omega⟩, by repeat (first | exact Drawn0.refl _ | apply Drawn0.step)⟩
        · rw [if_neg c6] at H
          have c6b0 : ((rd l0 x5_1) == (rd l1 x5_1)) = false := beq_eq_false_iff_ne.mpr c6
          have c6b1 : ((rd l0 x5_1) != (rd l1 x5_1)) = true := bne_iff_ne.mpr c6
          obtain rfl := Option.some.inj H
          have p411 : 0 ≤ (x5_1 : Int) := od_
          have q411 : x5_1 < (l0.length : Int) := od_
          obtain ⟨ad411, e411, hx411_0⟩ := Kd.at_int HR0.out x5_1 p411 q411
          cases e411
          replace p411 := eq_true p411
          replace q411 := eq_true q411
          have p412 : 0 ≤ (x5_1 : Int) := od_
          have q412 : x5_1 < (l1.length : Int) := od_
          obtain ⟨ad412, e412, hx412_0⟩ := Kd.at_int HR1.out x5_1 p412 q412
          cases e412
          replace p412 := eq_true p412
          replace q412 := eq_true q412
          have p413 : 0 ≤ (x5_1 : Int) := od_
          have q413 : x5_1 < (l0.length : Int) := od_
          obtain ⟨ad413, e413, hx413_0⟩ := Kd.at_int HR0.out x5_1 p413 q413
          obtain rfl : ad411 = ad413 := (by injection e413)
          replace p413 := eq_true p413
          replace q413 := eq_true q413
          have p414 : 0 ≤ (x5_1 : Int) := od_
          have q414 : x5_1 < (l1.length : Int) := od_
          obtain ⟨ad414, e414, hx414_0⟩ := Kd.at_int HR1.out x5_1 p414 q414
          obtain rfl : ad412 = ad414 := (by injection e414)
          replace p414 := eq_true p414
          replace q414 := eq_true q414
          go_wp2
          repeat (go_quiet (fail); try go_wp2)
          go_ret
          exact ⟨es_, by repeat (first | exact Drawn0.refl _ | apply Drawn0.step)⟩
      · rw [if_neg c3] at H
        have c3b0 := decide_eq_false c3
        clear c3
        obtain rfl := Option.some.inj H
        go_wp2
        go_ret
        exact ⟨es_, by repeat (first | exact Drawn0.refl _ | apply Drawn0.step)⟩

end Go.Proofs.Ytipigagbgpoecaa.G
