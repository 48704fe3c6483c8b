/- The plain proofs for this law. -/
import Derived.Test.YtkadhadceongiaaC5
import Derived.Test.YtkadhadceongiaaAux
namespace Go.Proofs.Ytkadhadceongiaa.Pure
open Go.RowKit Go.Proofs.Ytkadhadceongiaa.G Go.Proofs.YtkadhadceongiaaW.PrintWords Go.Proofs.YtkadhadceongiaaW.PrintLast Go.Proofs.YtkadhadceongiaaW.PrintMore Go.Proofs.Ytkadhadceongiaa.Aux
set_option linter.unusedVariables false
set_option linter.unusedSimpArgs false

theorem jH {xs:List (List Int)} {i:Nat} (h:i<xs.length):af xs (i:Int)=xs[i]:=by
 simp[af,List.getD_eq_getElem?_getD,h]

/-- Rows of which each, and their number, is of a moderate size. -/
def Mod (l:List (List Int)):Prop:=l.length≤1048576∧∀r∈l,r.length≤1048576

theorem Mod.row {l:List (List Int)} (h:Mod l) {i:Nat} (hi:i<l.length):l[i].length≤1048576:=h.2 _ (List.getElem_mem hi)
theorem nu (a b c:Int):mM.f a b c=some (decide (b≤a∧a≤c)):=by
 unfold mM.f
 by_cases h:b≤a
 ·rw[if_pos h];simp[h]
 ·rw[if_neg h];simp[h]

theorem mN (a b c:Int):iz.f a b c=some (decide (b≤a∧a≤c)):=by
 unfold iz.f
 by_cases h:b≤a
 ·rw[if_pos h];simp[h]
 ·rw[if_neg h];simp[h]

/-- One edge's test. -/
def tZ (n:Int) (e:List Int):Bool:=decide (e.length=2) && (decide (0≤rd e 0∧rd e 0≤wrap64 (n - 1)) && decide (0≤rd e 1∧rd e 1≤wrap64 (n - 1)))

def fB (n:Int) (l:List (List Int)):Bool:=l.all (tZ n) && (decide (1≤n∧n≤8) && decide ((l.length:Int)≤10))

theorem Oa (n:Int) (l:List (List Int)) (hl:Mod l): ∀(d i:Nat),i+d=l.length→
  Ev (fun k=>ee.l0 k (i:Int) n l) ((l.drop i).all (tZ n)):=by
 have hl1:=hl.1;intro d
 induction d with
 | zero=>
  intro i hi;refine Ev.succ ?_;simp only[ee.l0];rw[List.drop_eq_nil_of_le (by omega)]
  repeat (first | with_reducible exact Ev.now _ | dsimp only | refine Ev.bZ ?_ | refine Ev.cj ?_ | simp only[bne_self_eq_false,Bool.not_true,Bool.not_false,List.length_cons,List.length_nil] | rw[aX (by omega) (by omega)] | ((with_reducible refine Ev.eq (congrArg some ?_));rfl))
 | succ d ih=>
  intro i hi;refine Ev.succ ?_;simp only[ee.l0];rw[List.drop_eq_getElem_cons (by omega:i<l.length),List.all_cons,jH (by omega),dI (by omega)];generalize l[i]=e;have:=ih (i+1) (by omega);unfold tZ
  by_cases h2:(e.length:Int)=2
  ·rw[decide_eq_true (show e.length=2 by omega),Bool.true_and]
   by_cases ha:0≤rd e 0∧rd e 0≤wrap64 (n - 1)
   ·by_cases hb:0≤rd e 1∧rd e 1≤wrap64 (n - 1)
    ·rw[decide_eq_true ha,decide_eq_true hb,Bool.true_and,Bool.true_and]
     repeat (first | with_reducible exact Ev.now _ | dsimp only | with_reducible refine Ev.bind (Ev.eq ((nu _ _ _).trans (congrArg some (decide_eq_true ha)))) ?_ | with_reducible refine Ev.bind (Ev.eq ((nu _ _ _).trans (congrArg some (decide_eq_true hb)))) ?_ | refine Ev.bZ ?_ | refine Ev.cj ?_ | simp only[bne_self_eq_false,Bool.not_true,Bool.not_false,List.length_cons,List.length_nil] | rw[aX (by omega) (by omega)] | with_reducible exact(Ev.eq ((nu _ _ _).trans (congrArg some (decide_eq_true ha)))) | with_reducible exact(Ev.eq ((nu _ _ _).trans (congrArg some (decide_eq_true hb)))) | ((with_reducible refine Ev.eq (congrArg some ?_));rfl))
     exact this
    ·rw[decide_eq_false hb,Bool.and_false,Bool.false_and]
     repeat (first | with_reducible exact Ev.now _ | dsimp only | with_reducible refine Ev.bind (Ev.eq ((nu _ _ _).trans (congrArg some (decide_eq_true ha)))) ?_ | with_reducible refine Ev.bind (Ev.eq ((nu _ _ _).trans (congrArg some (decide_eq_false hb)))) ?_ | refine Ev.bZ ?_ | refine Ev.cj ?_ | simp only[bne_self_eq_false,Bool.not_true,Bool.not_false,List.length_cons,List.length_nil] | rw[aX (by omega) (by omega)] | with_reducible exact(Ev.eq ((nu _ _ _).trans (congrArg some (decide_eq_true ha)))) | with_reducible exact(Ev.eq ((nu _ _ _).trans (congrArg some (decide_eq_false hb)))) | ((with_reducible refine Ev.eq (congrArg some ?_));rfl))
   ·rw[decide_eq_false ha,Bool.false_and,Bool.false_and]
    repeat (first | with_reducible exact Ev.now _ | dsimp only | with_reducible refine Ev.bind (Ev.eq ((nu _ _ _).trans (congrArg some (decide_eq_false ha)))) ?_ | refine Ev.bZ ?_ | refine Ev.cj ?_ | simp only[bne_self_eq_false,Bool.not_true,Bool.not_false,List.length_cons,List.length_nil] | rw[aX (by omega) (by omega)] | with_reducible exact(Ev.eq ((nu _ _ _).trans (congrArg some (decide_eq_false ha)))) | ((with_reducible refine Ev.eq (congrArg some ?_));rfl))
  ·rw[decide_eq_false (show ¬e.length=2 by omega),Bool.false_and,Bool.false_and]
   repeat (first | with_reducible exact Ev.now _ | dsimp only | refine Ev.bZ ?_ | refine Ev.cj ?_ | simp only[bne_self_eq_false,Bool.not_true,Bool.not_false,List.length_cons,List.length_nil] | rw[aX (by omega) (by omega)] | ((with_reducible refine Ev.eq (congrArg some ?_));rfl))

theorem qW (n:Int) (l:List (List Int)) (hl:Mod l):Ev (fun k=>ee.f k n l) (fB n l):=by
 unfold ee.f fB
 by_cases h1:1≤n∧n≤8
 ·rw[decide_eq_true h1,Bool.true_and]
  repeat (first | with_reducible exact Ev.now _ | dsimp only | with_reducible refine Ev.bind (Ev.eq ((nu n 1 8).trans (congrArg some (decide_eq_true h1)))) ?_ | refine Ev.bZ ?_ | refine Ev.cj ?_ | simp only[bne_self_eq_false,Bool.not_true,Bool.not_false,List.length_cons,List.length_nil] | rw[aX (by omega) (by omega)] | with_reducible exact(Ev.eq ((nu n 1 8).trans (congrArg some (decide_eq_true h1)))) | ((with_reducible refine Ev.eq (congrArg some ?_));rfl))
  refine Ev.succ ?_;simp only[ee.j0]
  by_cases h2:(l.length:Int)≤10
  ·rw[decide_eq_true h2,decide_eq_false (show ¬(l.length:Int)>10 by omega),Bool.and_true]
   repeat (first | with_reducible exact Ev.now _ | dsimp only | refine Ev.bZ ?_ | refine Ev.cj ?_ | simp only[bne_self_eq_false,Bool.not_true,Bool.not_false,List.length_cons,List.length_nil] | rw[aX (by omega) (by omega)] | ((with_reducible refine Ev.eq (congrArg some ?_));rfl))
   exact Oa n l hl l.length 0 (by omega)
  ·rw[decide_eq_false h2,decide_eq_true (show(l.length:Int)>10 by omega),Bool.and_false]
   repeat (first | with_reducible exact Ev.now _ | dsimp only | refine Ev.bZ ?_ | refine Ev.cj ?_ | simp only[bne_self_eq_false,Bool.not_true,Bool.not_false,List.length_cons,List.length_nil] | rw[aX (by omega) (by omega)] | ((with_reducible refine Ev.eq (congrArg some ?_));rfl))
 ·rw[decide_eq_false h1,Bool.false_and,Bool.and_false]
  repeat (first | with_reducible exact Ev.now _ | dsimp only | with_reducible refine Ev.bind (Ev.eq ((nu n 1 8).trans (congrArg some (decide_eq_false h1)))) ?_ | refine Ev.bZ ?_ | refine Ev.cj ?_ | simp only[bne_self_eq_false,Bool.not_true,Bool.not_false,List.length_cons,List.length_nil] | rw[aX (by omega) (by omega)] | with_reducible exact(Ev.eq ((nu n 1 8).trans (congrArg some (decide_eq_false h1)))) | ((with_reducible refine Ev.eq (congrArg some ?_));rfl))
  refine Ev.succ ?_;simp only[ee.j0]
  repeat (first | with_reducible exact Ev.now _ | dsimp only | refine Ev.bZ ?_ | refine Ev.cj ?_ | simp only[bne_self_eq_false,Bool.not_true,Bool.not_false,List.length_cons,List.length_nil] | rw[aX (by omega) (by omega)] | ((with_reducible refine Ev.eq (congrArg some ?_));rfl))

theorem Ob (n:Int) (l:List (List Int)) (hl:Mod l): ∀(d i:Nat),i+d=l.length→
  Ev (fun k=>iA.l0 k l (l.length:Int) (i:Int) n l) ((l.drop i).all (tZ n) && (decide (1≤n∧n≤8) && decide ((l.length:Int)≤10))):=by
 have hl1:=hl.1;intro d
 induction d with
 | zero=>
  intro i hi;refine Ev.succ ?_;simp only[iA.l0];rw[List.drop_eq_nil_of_le (by omega),List.all_nil,Bool.true_and]
  by_cases h1:1≤n∧n≤8
  ·rw[decide_eq_true h1,Bool.true_and]
   repeat (first | with_reducible exact Ev.now _ | dsimp only | with_reducible refine Ev.bind (Ev.eq ((mN n 1 8).trans (congrArg some (decide_eq_true h1)))) ?_ | refine Ev.bZ ?_ | refine Ev.cj ?_ | simp only[bne_self_eq_false,Bool.not_true,Bool.not_false,List.length_cons,List.length_nil] | rw[aX (by omega) (by omega)] | with_reducible exact(Ev.eq ((mN n 1 8).trans (congrArg some (decide_eq_true h1)))) | ((with_reducible refine Ev.eq (congrArg some ?_));rfl))
  ·rw[decide_eq_false h1,Bool.false_and]
   repeat (first | with_reducible exact Ev.now _ | dsimp only | with_reducible refine Ev.bind (Ev.eq ((mN n 1 8).trans (congrArg some (decide_eq_false h1)))) ?_ | refine Ev.bZ ?_ | refine Ev.cj ?_ | simp only[bne_self_eq_false,Bool.not_true,Bool.not_false,List.length_cons,List.length_nil] | rw[aX (by omega) (by omega)] | with_reducible exact(Ev.eq ((mN n 1 8).trans (congrArg some (decide_eq_false h1)))) | ((with_reducible refine Ev.eq (congrArg some ?_));rfl))
 | succ d ih=>
  intro i hi;refine Ev.succ ?_;simp only[iA.l0];rw[List.drop_eq_getElem_cons (by omega:i<l.length),List.all_cons,jH (by omega),dI (by omega)];generalize l[i]=e;have:=ih (i+1) (by omega);unfold tZ at this ⊢
  by_cases h2:(e.length:Int)=2
  ·rw[decide_eq_true (show e.length=2 by omega),Bool.true_and]
   by_cases ha:0≤rd e 0∧rd e 0≤wrap64 (n - 1)
   ·by_cases hb:0≤rd e 1∧rd e 1≤wrap64 (n - 1)
    ·rw[decide_eq_true ha,decide_eq_true hb,Bool.true_and,Bool.true_and]
     repeat (first | with_reducible exact Ev.now _ | dsimp only | with_reducible refine Ev.bind (Ev.eq ((mN _ _ _).trans (congrArg some (decide_eq_true ha)))) ?_ | with_reducible refine Ev.bind (Ev.eq ((mN _ _ _).trans (congrArg some (decide_eq_true hb)))) ?_ | refine Ev.bZ ?_ | refine Ev.cj ?_ | simp only[bne_self_eq_false,Bool.not_true,Bool.not_false,List.length_cons,List.length_nil] | rw[aX (by omega) (by omega)] | with_reducible exact(Ev.eq ((mN _ _ _).trans (congrArg some (decide_eq_true ha)))) | with_reducible exact(Ev.eq ((mN _ _ _).trans (congrArg some (decide_eq_true hb)))) | ((with_reducible refine Ev.eq (congrArg some ?_));rfl))
     exact this
    ·rw[decide_eq_false hb,Bool.and_false,Bool.false_and,Bool.false_and]
     repeat (first | with_reducible exact Ev.now _ | dsimp only | with_reducible refine Ev.bind (Ev.eq ((mN _ _ _).trans (congrArg some (decide_eq_true ha)))) ?_ | with_reducible refine Ev.bind (Ev.eq ((mN _ _ _).trans (congrArg some (decide_eq_false hb)))) ?_ | refine Ev.bZ ?_ | refine Ev.cj ?_ | simp only[bne_self_eq_false,Bool.not_true,Bool.not_false,List.length_cons,List.length_nil] | rw[aX (by omega) (by omega)] | with_reducible exact(Ev.eq ((mN _ _ _).trans (congrArg some (decide_eq_true ha)))) | with_reducible exact(Ev.eq ((mN _ _ _).trans (congrArg some (decide_eq_false hb)))) | ((with_reducible refine Ev.eq (congrArg some ?_));rfl))
   ·rw[decide_eq_false ha,Bool.false_and,Bool.false_and,Bool.false_and]
    repeat (first | with_reducible exact Ev.now _ | dsimp only | with_reducible refine Ev.bind (Ev.eq ((mN _ _ _).trans (congrArg some (decide_eq_false ha)))) ?_ | refine Ev.bZ ?_ | refine Ev.cj ?_ | simp only[bne_self_eq_false,Bool.not_true,Bool.not_false,List.length_cons,List.length_nil] | rw[aX (by omega) (by omega)] | with_reducible exact(Ev.eq ((mN _ _ _).trans (congrArg some (decide_eq_false ha)))) | ((with_reducible refine Ev.eq (congrArg some ?_));rfl))
  ·rw[decide_eq_false (show ¬e.length=2 by omega),Bool.false_and,Bool.false_and,Bool.false_and]
   repeat (first | with_reducible exact Ev.now _ | dsimp only | refine Ev.bZ ?_ | refine Ev.cj ?_ | simp only[bne_self_eq_false,Bool.not_true,Bool.not_false,List.length_cons,List.length_nil] | rw[aX (by omega) (by omega)] | ((with_reducible refine Ev.eq (congrArg some ?_));rfl))

theorem wj (n:Int) (l:List (List Int)) (hl:Mod l):Ev (fun k=>iA.f k n l) (fB n l):=by
 unfold iA.f;exact Ob n l hl l.length 0 (by omega)

theorem Dl {α:Type} {e:List α} (h:e.length=2): ∃a b,e= [a,b]:=by
 match e,h with
 | [a,b],_=>exact⟨a,b,rfl⟩

theorem wu (n:Int) (l:List (List Int)):fB n l=true↔1≤n∧n≤8∧l.length≤10∧∀e∈l,∃a b:Int,e= [a,b]∧0≤a∧a<n∧0≤b∧b<n:=by
 unfold fB;rw[Bool.and_eq_true,Bool.and_eq_true,decide_eq_true_iff,decide_eq_true_iff,List.all_eq_true]
 constructor
 ·rintro⟨h,⟨h1,h2⟩,h3⟩
  refine⟨h1,h2,by omega,fun e he=> ?_⟩;have:=h e he;unfold tZ at this;rw[Bool.and_eq_true,Bool.and_eq_true,decide_eq_true_iff,decide_eq_true_iff,decide_eq_true_iff,aX (by omega) (by omega)]at this;obtain⟨he2,ha,hb⟩:=this;obtain⟨a,b,rfl⟩:=Dl he2;simp only[show rd [a,b] 0=a from rfl,show rd [a,b] 1=b from rfl]at ha hb;exact⟨a,b,rfl,by omega,by omega,by omega,by omega⟩
 ·rintro⟨h1,h2,h3,h⟩
  refine⟨fun e he=> ?_,⟨h1,h2⟩,by omega⟩;obtain⟨a,b,rfl,h4,h5,h6,h7⟩:=h e he;unfold tZ;rw[Bool.and_eq_true,Bool.and_eq_true,decide_eq_true_iff,decide_eq_true_iff,decide_eq_true_iff,aX (by omega) (by omega)];simp only[show rd [a,b] 0=a from rfl,show rd [a,b] 1=b from rfl];exact⟨rfl,by omega,by omega⟩
theorem tI {n:Int} {l:List (List Int)} (h:fB n l=true) {i:Nat} (hi:i<l.length):
  (af l (i:Int)).length=2∧∃a b:Nat,rd (af l (i:Int)) 0=a∧rd (af l (i:Int)) 1=b∧(a:Int)<n∧(b:Int)<n:=by
 rw[jH hi];obtain⟨h1,h2,h3,h4⟩:=(wu n l).1 h;obtain⟨a,b,e,ha,ha',hb,hb'⟩:=h4 _ (List.getElem_mem hi);rw[e];refine⟨rfl,a.toNat,b.toNat, ?_, ?_,by omega,by omega⟩
 ·show a=_
  omega
 ·show b=_
  omega

theorem gp {n:Int} {l:List (List Int)} (h:fB n l=true):1≤n∧n≤8∧l.length≤10:=by
 obtain⟨h1,h2,h3,h4⟩:=(wu n l).1 h;exact⟨h1,h2,h3⟩
/-- The directed edge's start, its end, and its reverse. -/
def tl (l:List (List Int)) (p:Nat):Int:=if p % 2=1 then rd (af l ((p / 2:Nat):Int)) 1 else rd (af l ((p / 2:Nat):Int)) 0
def hd (l:List (List Int)) (p:Nat):Int:=if p % 2=1 then rd (af l ((p / 2:Nat):Int)) 0 else rd (af l ((p / 2:Nat):Int)) 1
def inv (p:Nat):Nat:=if p % 2=0 then p+1 else p - 1
def next (l:List (List Int)) (p q:Nat):Bool:=decide (hd l p=tl l q) && decide (q≠inv p)

theorem half (p:Nat) (h:p<1000):wrap64 (Int.tdiv (p:Int) 2)=((p / 2:Nat):Int):=by
 rw[Int.tdiv_eq_ediv_of_nonneg (by omega),aX (by omega) (by omega)]
 omega

theorem Hw (p:Nat):Int.tmod (p:Int) 2=((p % 2:Nat):Int):=by
 rw[Int.tmod_eq_emod_of_nonneg (by omega)]
 omega

theorem Hy (p:Nat) (h:p<20):Go.bits .xor .i64 (p:Int) 1=((inv p:Nat):Int):=by
 have: ∀q:Fin 20,Go.bits .xor .i64 (q.val:Int) 1=((inv q.val:Nat):Int):=by decide
 exact this ⟨p,h⟩

section
variable {n:Int} {l:List (List Int)} (h:fB n l=true)
include h

theorem Dn {p:Nat} (hp:p<2*l.length):mO.f n l (p:Int)=some (tl l p,hd l p):=by
 obtain⟨g1,g2,g3⟩:=gp h;obtain⟨e2,a,b,ea,eb,ha,hb⟩:=tI h (show p / 2<l.length by omega);unfold mO.f tl hd;rw[half p (by omega),Hw,if_pos (by omega),if_pos (by omega)]
 by_cases c:p % 2=1
 ·rw[if_pos (show((p % 2:Nat):Int)=1 by omega),if_pos (by omega),if_pos (by omega),if_pos c,if_pos c]
 ·rw[if_neg (show ¬((p % 2:Nat):Int)=1 by omega),if_pos (by omega),if_pos (by omega),if_neg c,if_neg c]

theorem Dp {p:Nat} (hp:p<2*l.length):pM.f n l (p:Int)=some (tl l p,hd l p):=by
 obtain⟨g1,g2,g3⟩:=gp h;obtain⟨e2,a,b,ea,eb,ha,hb⟩:=tI h (show p / 2<l.length by omega);unfold pM.f tl hd;rw[half p (by omega),Hw,aX (x:=1 - ((p % 2:Nat):Int)) (by omega) (by omega),if_pos (by omega),if_pos (by omega),if_pos (by omega),if_pos (by omega),if_pos (by omega),if_pos (by omega)]
 by_cases c:p % 2=1
 ·rw[if_pos c,if_pos c,c]
  rfl
 ·rw[if_neg c,if_neg c,show p % 2=0 by omega]
  rfl

end
def zeros (n:Nat):List (List Int):=List.replicate n (List.replicate n 0)

theorem Hz {α:Type} (n:Nat) (x:α):List.replicate n x++[x]=List.replicate (n+1) x:=List.replicate_succ'.symm

theorem Al (n:Int) (h0:0≤n) (h1:n≤1000):Ev (fun k=>jw.f k n) (zeros n.toNat):=by
 have: ∀(d v:Nat),(v:Int)+d=n→Ev (fun k=>jw.l0 k n (List.replicate v (List.replicate n.toNat 0)) n (v:Int)) (zeros n.toNat):=by
  intro d
  induction d with
  | zero=>
   intro v hv;refine Ev.succ ?_;simp only[jw.l0];rw[show v=n.toNat by omega]
   repeat (first | with_reducible exact Ev.now _ | dsimp only | refine Ev.bZ ?_ | refine Ev.cj ?_ | simp only[bne_self_eq_false,Bool.not_true,Bool.not_false,List.length_cons,List.length_nil] | rw[aX (by omega) (by omega)] | ((with_reducible refine Ev.eq (congrArg some ?_));rfl))
  | succ d ih=>
   intro v hv;have:=ih (v+1) (by omega);rw[← Hz]at this;refine Ev.succ ?_;simp only[jw.l0];rw[dI (by omega)];refine Ev.pos (by omega) ?_;refine Ev.pos (by omega) ?_;refine Ev.pos (by omega) ?_;refine Ev.pos (by simp;omega) ?_;exact this
 exact this n.toNat 0 (by omega)
theorem AA {n:Int} {l:List (List Int)} (h:fB n l=true) {p:Nat} (hp:p<2*l.length): ∃a b:Nat,tl l p=a∧hd l p=b∧(a:Int)<n∧(b:Int)<n:=by
 obtain⟨e2,a,b,ea,eb,ha,hb⟩:=tI h (show p / 2<l.length by omega);unfold tl hd
 split
 ·exact⟨b,a,eb,ea,hb,ha⟩
 ·exact⟨a,b,ea,eb,ha,hb⟩

def bump (m:List (List Int)) (a b:Int):List (List Int):=m.set a.toNat ((af m a).set b.toNat (wrap64 (rd (af m a) b+1)))

/-- The matrix after p directed edges. -/
def eN (l:List (List Int)) (n:Nat):Nat→List (List Int)
 | 0=>zeros n
 | p+1=>bump (eN l n p) (tl l p) (hd l p)

theorem vZ {xs:List (List Int)} {i j:Nat} {v:List Int} (h:i<xs.length):af (xs.set i v) (j:Int)=if j=i then v else af xs (j:Int):=by
 by_cases e:j=i
 ·subst e
  rw[if_pos rfl,jH (by simpa using h)];simp
 ·rw[if_neg e]
  simp only[af,List.getD_eq_getElem?_getD,Int.toNat_natCast];rw[List.getElem?_set_ne (fun x=>e x.symm)]

section
variable {n:Int} {l:List (List Int)} (h:fB n l=true)
include h

theorem qm: ∀p:Nat,p≤2*l.length→(eN l n.toNat p).length=n.toNat∧∀v:Nat,v<n.toNat→(af (eN l n.toNat p) (v:Int)).length=n.toNat:=by
 intro p
 induction p with
 | zero=>
  intro _;refine⟨by simp[eN,zeros],fun v hv=> ?_⟩;rw[jH (by simp only[eN,zeros,List.length_replicate];exact hv)];simp[eN,zeros]
 | succ p ih=>
  intro hp;obtain⟨h1,h2⟩:=ih (by omega);obtain⟨a,b,ea,eb,ha,hb⟩:=AA h (show p<2*l.length by omega);unfold eN bump;rw[ea,eb,Int.toNat_natCast,Int.toNat_natCast];refine⟨by rw[List.length_set];exact h1,fun v hv=> ?_⟩;rw[vZ (by omega)]
  split
  ·rw[List.length_set];exact h2 a (by omega)
  ·exact h2 v hv

theorem UK (p:Nat) (hp:p≤2*l.length):Mod (eN l n.toNat p):=by
 obtain⟨g1,g2,g3⟩:=gp h;obtain⟨h1,h2⟩:=qm h p hp;refine⟨by omega,fun r hr=> ?_⟩;obtain⟨i,hi,rfl⟩:=List.getElem_of_mem hr;rw[← jH hi,h2 i (by omega)]
 omega

theorem Oc: ∀(d p:Nat),p+d=2*l.length→Ev (fun k=>iM.l1 k (eN l n.toNat p) (p:Int) n l) (eN l n.toNat (2*l.length)):=by
 obtain⟨g1,g2,g3⟩:=gp h;intro d
 induction d with
 | zero=>
  intro p hp;have e:p=2*l.length:=by omega
  refine Ev.succ ?_;simp only[iM.l1];rw[aX (x:=2*(l.length:Int)) (by omega) (by omega),e]
  repeat (first | with_reducible exact Ev.now _ | dsimp only | refine Ev.bZ ?_ | refine Ev.cj ?_ | simp only[bne_self_eq_false,Bool.not_true,Bool.not_false,List.length_cons,List.length_nil] | rw[aX (by omega) (by omega)] | ((with_reducible refine Ev.eq (congrArg some ?_));rfl))
 | succ d ih=>
  intro p hp;have:=ih (p+1) (by omega);obtain⟨h1,h2⟩:=qm h p (by omega);obtain⟨a,b,ea,eb,ha,hb⟩:=AA h (show p<2*l.length by omega);have he:=Dn h (show p<2*l.length by omega);rw[show eN l n.toNat (p+1)=bump (eN l n.toNat p) (tl l p) (hd l p) from rfl]at this;unfold bump at this;rw[ea,eb]at this he;have CZ:=h2 a (by omega);refine Ev.succ ?_;simp only[iM.l1];rw[aX (x:=2*(l.length:Int)) (by omega) (by omega),dI (by omega)]
  repeat (first | with_reducible exact Ev.now _ | dsimp only | with_reducible refine Ev.bind (Ev.eq he) ?_ | refine Ev.bZ ?_ | refine Ev.cj ?_ | simp only[bne_self_eq_false,Bool.not_true,Bool.not_false,List.length_cons,List.length_nil] | rw[aX (by omega) (by omega)] | with_reducible exact(Ev.eq he) | ((with_reducible refine Ev.eq (congrArg some ?_));rfl))
  exact this

theorem MC:Ev (fun k=>iM.f k n l) (eN l n.toNat (2*l.length)):=by
 obtain⟨g1,g2,g3⟩:=gp h;have: ∀(d v:Nat),(v:Int)+d=n→Ev (fun k=>iM.l0 k (List.replicate v (List.replicate n.toNat 0)) (v:Int) n l) (eN l n.toNat (2*l.length)):=by
  intro d
  induction d with
  | zero=>
   intro v hv;refine Ev.succ ?_;simp only[iM.l0];rw[show v=n.toNat by omega]
   repeat (first | with_reducible exact Ev.now _ | dsimp only | refine Ev.bZ ?_ | refine Ev.cj ?_ | simp only[bne_self_eq_false,Bool.not_true,Bool.not_false,List.length_cons,List.length_nil] | rw[aX (by omega) (by omega)] | ((with_reducible refine Ev.eq (congrArg some ?_));rfl))
   exact Oc h (2*l.length) 0 (by omega)
  | succ d ih=>
   intro v hv;have:=ih (v+1) (by omega);rw[← Hz]at this;refine Ev.succ ?_;simp only[iM.l0];rw[dI (by omega)];refine Ev.pos (by omega) ?_;refine Ev.pos (by omega) ?_;refine Ev.pos (by omega) ?_;refine Ev.pos (by simp;omega) ?_;exact this
 exact this n.toNat 0 (by omega)

theorem Od: ∀(d i:Nat),i+d=l.length→Ev (fun k=>fW.l0 k (eN l n.toNat (2*i)) l (l.length:Int) (i:Int)) (eN l n.toNat (2*l.length)):=by
 obtain⟨g1,g2,g3⟩:=gp h;intro d
 induction d with
 | zero=>
  intro i hi;have e:i=l.length:=by omega
  refine Ev.succ ?_;simp only[fW.l0];rw[e]
  repeat (first | with_reducible exact Ev.now _ | dsimp only | refine Ev.bZ ?_ | refine Ev.cj ?_ | simp only[bne_self_eq_false,Bool.not_true,Bool.not_false,List.length_cons,List.length_nil] | rw[aX (by omega) (by omega)] | ((with_reducible refine Ev.eq (congrArg some ?_));rfl))
 | succ d ih=>
  intro i hi;have:=ih (i+1) (by omega);obtain⟨h1,h2⟩:=qm h (2*i) (by omega);obtain⟨h3,h4⟩:=qm h (2*i+1) (by omega);obtain⟨e2,a,b,ea,eb,ha,hb⟩:=tI h (show i<l.length by omega);have t1:tl l (2*i)=a:=by
   unfold tl;rw[if_neg (by omega),show 2*i / 2=i by omega];exact ea
  have t2:hd l (2*i)=b:=by
   unfold hd;rw[if_neg (by omega),show 2*i / 2=i by omega];exact eb
  have t3:tl l (2*i+1)=b:=by
   unfold tl;rw[if_pos (by omega),show(2*i+1) / 2=i by omega];exact eb
  have t4:hd l (2*i+1)=a:=by
   unfold hd;rw[if_pos (by omega),show(2*i+1) / 2=i by omega];exact ea
  have b1:eN l n.toNat (2*i+1)=(eN l n.toNat (2*i)).set a ((af (eN l n.toNat (2*i)) (a:Int)).set b (wrap64 (rd (af (eN l n.toNat (2*i)) (a:Int)) (b:Int)+1))):=by
   conv=>lhs;unfold eN bump
   rw[t1,t2,Int.toNat_natCast,Int.toNat_natCast]
  have b2:eN l n.toNat (2*(i+1))=(eN l n.toNat (2*i+1)).set b ((af (eN l n.toNat (2*i+1)) (b:Int)).set a (wrap64 (rd (af (eN l n.toNat (2*i+1)) (b:Int)) (a:Int)+1))):=by
   conv=>lhs;rw[show 2*(i+1)=(2*i+1)+1 by omega];unfold eN bump
   rw[t3,t4,Int.toNat_natCast,Int.toNat_natCast]
  rw[b2]at this;have CZ:=h2 a (by omega);have U7:=h4 b (by omega);refine Ev.succ ?_;simp only[fW.l0];rw[dI (by omega),ea,eb,Int.toNat_natCast,Int.toNat_natCast,← b1]
  repeat (first | with_reducible exact Ev.now _ | dsimp only | with_reducible refine Ev.bind (Ev.now _) ?_ | refine Ev.bZ ?_ | refine Ev.cj ?_ | simp only[bne_self_eq_false,Bool.not_true,Bool.not_false,List.length_cons,List.length_nil] | rw[aX (by omega) (by omega)] | with_reducible exact(Ev.now _) | ((with_reducible refine Ev.eq (congrArg some ?_));rfl))
  exact this

theorem MA:Ev (fun k=>fW.f k n l) (eN l n.toNat (2*l.length)):=by
 obtain⟨g1,g2,g3⟩:=gp h;unfold fW.f;refine Ev.bind (Al n (by omega) (by omega)) ?_;exact Od h l.length 0 (by omega)

end
section
variable (l:List (List Int))

/-- How many ends of the i first edges are v. -/
def cnt (v:Int):Nat→Nat
 | 0=>0
 | i+1=>cnt v i+(if rd (af l (i:Int)) 0=v then 1 else 0)+(if rd (af l (i:Int)) 1=v then 1 else 0)

theorem tL (v:Int) (i:Nat):cnt l v i≤2*i:=by
 induction i with
 | zero=>simp[cnt]
 | succ i ih=>
  unfold cnt
  split<;>split<;>omega

def qo (n:Nat):List Int:=(List.range n).map (fun v:Nat=>((cnt l (v:Int) l.length:Nat):Int))

theorem G2 (n:Nat):(qo l n).length=n:=by simp[qo]

variable {n:Int} (h:fB n l=true)
include h

theorem Mp (v:Int): ∀(d i:Nat),i+d=l.length→Ev (fun k=>fe.l0 k v ((cnt l v i:Nat):Int) (i:Int) n l) ((cnt l v l.length:Nat):Int):=by
 obtain⟨g1,g2,g3⟩:=gp h;intro d
 induction d with
 | zero=>
  intro i hi;have e:i=l.length:=by omega
  subst e;refine Ev.succ ?_;simp only[fe.l0]
  repeat (first | with_reducible exact Ev.now _ | dsimp only | refine Ev.bZ ?_ | refine Ev.cj ?_ | simp only[bne_self_eq_false,Bool.not_true,Bool.not_false,List.length_cons,List.length_nil] | rw[aX (by omega) (by omega)] | ((with_reducible refine Ev.eq (congrArg some ?_));rfl))
 | succ d ih=>
  intro i hi;obtain⟨e2,a,b,ea,eb,ha,hb⟩:=tI h (show i<l.length by omega);have hc:=tL l v i;have hr:=ih (i+1) (by omega);have ec:cnt l v (i+1)=cnt l v i+(if rd (af l (i:Int)) 0=v then 1 else 0)+(if rd (af l (i:Int)) 1=v then 1 else 0):=rfl;rw[ec,ea,eb]at hr;have s2: ∀c:Nat,c≤2*i+1→Ev (fun k=>fe.l0 k v ((c+(if (b:Int)=v then 1 else 0):Nat):Int) ((i+1:Nat):Int) n l) ((cnt l v l.length:Nat):Int)→Ev (fun k=>fe.l1 k v (c:Int) (i:Int) 1 n l) ((cnt l v l.length:Nat):Int):=by
   intro c hc hr;refine Ev.succ ?_;rw[show(fun k=>fe.l1 (k+1) v (c:Int) (i:Int) 1 n l)=fun k=>_ from funext fun k=>by rw[fe.l1]];rw[eb]
   by_cases c2:(b:Int)=v
   ·rw[if_pos c2]at hr
    repeat (first | with_reducible exact Ev.now _ | dsimp only | refine Ev.bZ ?_ | refine Ev.cj ?_ | simp only[bne_self_eq_false,Bool.not_true,Bool.not_false,List.length_cons,List.length_nil] | rw[aX (by omega) (by omega)] | ((with_reducible refine Ev.eq (congrArg some ?_));rfl))
    refine Ev.succ ?_;rw[show(fun k=>fe.l1 (k+1) v ((c:Int)+1) (i:Int) (1+1) n l)=fun k=>_ from funext fun k=>by rw[fe.l1]];rw[dI (i:=i) (by omega)];refine Ev.neg (by omega) ?_;exact hr
   ·rw[if_neg c2]at hr
    repeat (first | with_reducible exact Ev.now _ | dsimp only | refine Ev.bZ ?_ | refine Ev.cj ?_ | simp only[bne_self_eq_false,Bool.not_true,Bool.not_false,List.length_cons,List.length_nil] | rw[aX (by omega) (by omega)] | ((with_reducible refine Ev.eq (congrArg some ?_));rfl))
    refine Ev.succ ?_;rw[show(fun k=>fe.l1 (k+1) v (c:Int) (i:Int) (1+1) n l)=fun k=>_ from funext fun k=>by rw[fe.l1]];rw[dI (i:=i) (by omega)];refine Ev.neg (by omega) ?_;exact hr
  refine Ev.succ ?_;simp only[fe.l0];refine Ev.pos (by omega) ?_;refine Ev.succ ?_;rw[show(fun k=>fe.l1 (k+1) v ((cnt l v i:Nat):Int) (i:Int) 0 n l)=fun k=>_ from funext fun k=>by rw[fe.l1]];rw[ea]
  by_cases c1:(a:Int)=v
  ·rw[if_pos c1]at hr
   repeat (first | with_reducible exact Ev.now _ | dsimp only | refine Ev.bZ ?_ | refine Ev.cj ?_ | simp only[bne_self_eq_false,Bool.not_true,Bool.not_false,List.length_cons,List.length_nil] | rw[aX (by omega) (by omega)] | ((with_reducible refine Ev.eq (congrArg some ?_));rfl))
   exact s2 (cnt l v i+1) (by omega) hr
  ·rw[if_neg c1]at hr
   repeat (first | with_reducible exact Ev.now _ | dsimp only | refine Ev.bZ ?_ | refine Ev.cj ?_ | simp only[bne_self_eq_false,Bool.not_true,Bool.not_false,List.length_cons,List.length_nil] | rw[aX (by omega) (by omega)] | ((with_reducible refine Ev.eq (congrArg some ?_));rfl))
   exact s2 (cnt l v i) (by omega) hr

theorem My: ∀(d i:Nat) (xs:List Int),i+d=l.length→xs.length=n.toNat→(∀v:Nat,v<n.toNat→rd xs (v:Int)=((cnt l (v:Int) i:Nat):Int))→Ev (fun k=>j9.l0 k xs l (l.length:Int) (i:Int)) (qo l n.toNat):=by
 obtain⟨g1,g2,g3⟩:=gp h;intro d
 induction d with
 | zero=>
  intro i xs hi hx hv;refine Ev.succ ?_;simp only[j9.l0];have e:xs=qo l n.toNat:=by
   refine vY (by rw[hx,G2]) (fun j hj=> ?_);rw[hv j (by omega),qo,xX _ (by omega),show i=l.length by omega]
  rw[e]
  repeat (first | with_reducible exact Ev.now _ | dsimp only | refine Ev.bZ ?_ | refine Ev.cj ?_ | simp only[bne_self_eq_false,Bool.not_true,Bool.not_false,List.length_cons,List.length_nil] | rw[aX (by omega) (by omega)] | ((with_reducible refine Ev.eq (congrArg some ?_));rfl))
 | succ d ih=>
  intro i xs hi hx hv;obtain⟨e2,a,b,ea,eb,ha,hb⟩:=tI h (show i<l.length by omega);have hca:=tL l (a:Int) i;have hcb:=tL l (b:Int) i;have U8:rd xs (a:Int)=_:=hv a (by omega);have U9:rd xs (b:Int)=_:=hv b (by omega);have key: ∀v:Nat,v<n.toNat→rd ((xs.set a (wrap64 (rd xs (a:Int)+1))).set b (wrap64 (rd (xs.set a (wrap64 (rd xs (a:Int)+1))) (b:Int)+1))) (v:Int)=((cnt l (v:Int) (i+1):Nat):Int):=by
   intro v U7;have hvv:=hv v U7;unfold cnt;rw[ea,eb,U8];rw[aX (x:=((cnt l (a:Int) i:Nat):Int)+1) (by omega) (by omega),qV (by simp;omega),qV (by omega),qV (by omega)]
   by_cases c1:v=b
   ·subst c1
    rw[if_pos rfl,if_pos (c:=(v:Int)=v) rfl]
    by_cases c2:v=a
    ·subst c2
     rw[if_pos rfl,if_pos rfl,aX (by omega) (by omega)]
     omega
    ·rw[if_neg c2,if_neg (by omega),hvv,aX (by omega) (by omega)]
     omega
   ·rw[if_neg c1,if_neg (c:=(b:Int)=v) (by omega)]
    by_cases c2:v=a
    ·subst c2
     rw[if_pos rfl,if_pos rfl]
     omega
    ·rw[if_neg c2,if_neg (by omega),hvv]
     omega
  have hr:=ih (i+1) _ (by omega) (by simpa using hx) key;refine Ev.succ ?_;simp only[j9.l0];rw[dI (i:=i) (by omega),ea,eb];refine Ev.pos (by omega) ?_;refine Ev.pos (by omega) ?_;refine Ev.pos (by omega) ?_;refine Ev.pos (by omega) ?_;refine Ev.pos (by omega) ?_;refine Ev.pos (by omega) ?_;refine Ev.bind (Ev.now _) ?_;refine Ev.pos (by omega) ?_;refine Ev.pos (by omega) ?_;refine Ev.pos (by simp;omega) ?_;exact hr

end
/-- f 0 + .. + f (n - 1). -/
def Sm:Nat→(Nat→Int)→Int
 | 0,_=>0
 | n+1,f=>Sm n f+f n

theorem bK {n:Nat} {f g:Nat→Int} (h: ∀i,i<n→f i=g i):Sm n f=Sm n g:=by
 induction n with
 | zero=>rfl
 | succ n ih=>unfold Sm;rw[ih (fun i hi=>h i (by omega)),h n (by omega)]

theorem gz (n:Nat) (f g:Nat→Int):Sm n (fun i=>f i+g i)=Sm n f+Sm n g:=by
 induction n with
 | zero=>rfl
 | succ n ih=>
  show Sm n (fun i=>f i+g i)+(f n+g n)=Sm n f+f n+(Sm n g+g n)
  rw[ih];omega

theorem e7 (n:Nat) (c:Int) (f:Nat→Int):Sm n (fun i=>c*f i)=c*Sm n f:=by
 induction n with
 | zero=>simp[Sm]
 | succ n ih=>unfold Sm;rw[ih,Int.mul_add]

theorem jL (n:Nat) (c:Int) (f:Nat→Int):Sm n (fun i=>f i*c)=Sm n f*c:=by
 induction n with
 | zero=>simp[Sm]
 | succ n ih=>unfold Sm;rw[ih,Int.add_mul]

theorem jR (n:Nat):Sm n (fun _=>0)=0:=by
 induction n with
 | zero=>rfl
 | succ n ih=>unfold Sm;rw[ih];rfl

theorem lE (n m:Nat) (f:Nat→Nat→Int):Sm n (fun i=>Sm m (fun j=>f i j))=Sm m (fun j=>Sm n (fun i=>f i j)):=by
 induction n with
 | zero=>exact(jR m).symm
 | succ n ih=>
  show Sm n (fun i=>Sm m (fun j=>f i j))+Sm m (fun j=>f n j)=_
  rw[ih,← gz]
  rfl

theorem ye {n:Nat} {f:Nat→Int} {b:Int} (h: ∀i,i<n→f i≤b):Sm n f≤n*b:=by
 induction n with
 | zero=>simp[Sm]
 | succ n ih=>
  have h1:=ih (fun i hi=>h i (by omega));have h2:=h n (by omega);unfold Sm;rw[Int.natCast_add,Int.add_mul]
  omega

theorem ym {n:Nat} {f:Nat→Int} (h: ∀i,i<n→0≤f i):0≤Sm n f:=by
 induction n with
 | zero=>simp[Sm]
 | succ n ih=>
  have h1:=ih (fun i hi=>h i (by omega));have h2:=h n (by omega);unfold Sm
  omega

/-- The product of two square matrices. -/
def mul (n:Nat) (a b:Nat→Nat→Int):Nat→Nat→Int:=fun i j=>Sm n (fun k=>a i k*b k j)

theorem mul_assoc' (n:Nat) (a b c:Nat→Nat→Int) (i j:Nat):mul n (mul n a b) c i j=mul n a (mul n b c) i j:=by
 unfold mul;rw[bK (g:=fun k=>Sm n (fun m=>a i m*b m k*c k j)) (fun k _=>(jL n _ _).symm)];rw[lE];refine bK (fun m _=> ?_);rw[← e7];exact bK (fun k _=>Int.mul_assoc _ _ _)

def tr (n:Nat) (a:Nat→Nat→Int):Int:=Sm n (fun i=>a i i)

theorem mul_congr {n:Nat} {a b a' b':Nat→Nat→Int} {i j:Nat} (ha: ∀k,k<n→a i k=a' i k) (hb: ∀k,k<n→b k j=b' k j):mul n a b i j=mul n a' b' i j:=
 bK (fun k hk=>by rw[ha k hk,hb k hk])

/-- A list's matrix, and a matrix's list. -/
def bE (m:List (List Int)) (i j:Nat):Int:=rd (af m (i:Int)) (j:Int)

def rowOf (n:Nat) (f:Nat→Int):List Int:=(List.range n).map f

def ofFn (n:Nat) (f:Nat→Nat→Int):List (List Int):=(List.range n).map (fun i=>rowOf n (f i))

theorem gm (n:Nat) (f:Nat→Int):(rowOf n f).length=n:=by simp[rowOf]

theorem jK {n i:Nat} (f:Nat→Int) (h:i<n):rd (rowOf n f) (i:Int)=f i:=xX f h

theorem nW {n:Nat} {f g:Nat→Int} (h: ∀i,i<n→f i=g i):rowOf n f=rowOf n g:=by
 unfold rowOf;exact List.map_congr_left (fun i hi=>h i (List.mem_range.1 hi))

theorem Ak {n i:Nat} (f:Nat→Int) (v:Int) (h:i<n):(rowOf n f).set i v=rowOf n (fun j=>if j=i then v else f j):=by
 refine vY (by rw[List.length_set,gm,gm]) (fun j hj=> ?_);rw[List.length_set,gm]at hj;rw[qV (by rw[gm];exact h),jK _ hj,jK _ hj]

theorem yg (n:Nat):rowOf n (fun _=>0)=List.replicate n 0:=by
 refine vY (by rw[gm,List.length_replicate]) (fun j hj=> ?_);rw[gm]at hj;rw[jK _ hj,yf]

theorem r8 (n:Nat) (f:Nat→Nat→Int):(ofFn n f).length=n:=by simp[ofFn]

theorem xV {n i:Nat} (f:Nat→Nat→Int) (h:i<n):af (ofFn n f) (i:Int)=rowOf n (f i):=by
 rw[jH (by rw[r8];exact h)];simp[ofFn]

theorem tJ {n i j:Nat} (f:Nat→Nat→Int) (hi:i<n) (hj:j<n):bE (ofFn n f) i j=f i j:=by
 unfold bE;rw[xV f hi,jK _ hj]

theorem qQ {n:Nat} {f g:Nat→Nat→Int} (h: ∀i j,i<n→j<n→f i j=g i j):ofFn n f=ofFn n g:=by
 unfold ofFn;exact List.map_congr_left (fun i hi=>nW (fun j hj=>h i j (List.mem_range.1 hi) hj))

theorem Gu {n i:Nat} (f:Nat→Nat→Int) (r:Nat→Int) (h:i<n):(ofFn n f).set i (rowOf n r)=ofFn n (fun k=>if k=i then r else f k):=by
 apply List.ext_getElem
 ·rw[List.length_set,r8,r8]
 ·intro k h1 h2
  rw[r8]at h2;simp only[List.getElem_set,ofFn,List.getElem_map,List.getElem_range]
  by_cases e:k=i
  ·subst e;simp
  ·rw[if_neg (fun x=>e x.symm),if_neg e]

/-- A square list of rows. -/
def Sq (n:Nat) (m:List (List Int)):Prop:=m.length=n∧∀i:Nat,i<n→(af m (i:Int)).length=n

theorem vU (n:Nat) (f:Nat→Nat→Int):Sq n (ofFn n f):=⟨r8 n f,fun i hi=>by rw[xV f hi,gm]⟩

theorem r7 (a b:Int):wrap64 (wrap64 a+wrap64 b)=wrap64 (a+b):=by
 unfold wrap64
 omega

theorem C6 (a b:Int):wrap64 (wrap64 a+b)=wrap64 (a+b):=by
 unfold wrap64
 omega

/-- Row p, told up to the place q. -/
def jx (l:List (List Int)) (p:Nat):Nat→List Int
 | 0=>List.replicate (2*l.length) 0
 | q+1=>if next l p q=true then (jx l p q).set q 1 else jx l p q

def kf (l:List (List Int)) (n:Nat):List (List Int):=(List.range n).map (fun p=>jx l p (2*l.length))

theorem wv (l:List (List Int)) (p q:Nat):(jx l p q).length=2*l.length:=by
 induction q with
 | zero=>simp[jx]
 | succ q ih=>unfold jx;split<;>simp[ih]

theorem qX (l:List (List Int)) (n:Nat):(kf l n).length=n:=by simp[kf]

theorem Dq (l:List (List Int)) (n:Nat):kf l (n+1)=kf l n++[jx l n (2*l.length)]:=tM _ _

theorem Oe (l:List (List Int)) (p:Nat): ∀(q j:Nat),q≤2*l.length→rd (jx l p q) (j:Int)=if j<q∧next l p j=true then 1 else 0:=by
 intro q
 induction q with
 | zero=>
  intro j _;rw[if_neg (by omega)];exact yf _ _
 | succ q ih=>
  intro j hq;have hl:=wv l p q;unfold jx
  by_cases c:next l p q=true
  ·rw[if_pos c,qV (by omega)]
   by_cases e:j=q
   ·subst e
    rw[if_pos rfl,if_pos ⟨by omega,c⟩]
   ·rw[if_neg e,ih j (by omega)]
    by_cases c2:j<q∧next l p j=true
    ·rw[if_pos c2,if_pos ⟨by omega,c2.2⟩]
    ·rw[if_neg c2,if_neg (fun x=>c2 ⟨by omega,x.2⟩)]
  ·rw[if_neg c,ih j (by omega)]
   by_cases c2:j<q∧next l p j=true
   ·rw[if_pos c2,if_pos ⟨by omega,c2.2⟩]
   ·rw[if_neg c2,if_neg (fun x=> ?_)]
    by_cases e:j=q
    ·subst e;exact c x.2
    ·exact c2 ⟨by omega,x.2⟩

theorem MS (l:List (List Int)) (h:l.length≤10):Mod (kf l (2*l.length)):=by
 refine⟨by rw[qX];omega,fun r hr=> ?_⟩;simp only[kf,List.mem_map]at hr;obtain⟨p,_,rfl⟩:=hr;rw[wv]
 omega

theorem xY {l:List (List Int)} {p q:Nat}:next l p q=true↔hd l p=tl l q∧q≠inv p:=by
 unfold next;rw[Bool.and_eq_true,decide_eq_true_iff,decide_eq_true_iff]
section
variable {n:Int} {l:List (List Int)} (h:fB n l=true)
include h

theorem Og (p:Nat) (hp:p<2*l.length) (m:List (List Int)) (hm:m.length≤20) (r:List (List Int)) (hr:Ev (fun k=>gL.l0 k (m++[jx l p (2*l.length)]) (2*(l.length:Int)) ((p+1:Nat):Int) n l) r):
  ∀(d q:Nat),q+d=2*l.length→Ev (fun k=>gL.l1 k m (2*(l.length:Int)) (p:Int) (jx l p q) (hd l p) (q:Int) n l) r:=by
 obtain⟨g1,g2,g3⟩:=gp h;intro d
 induction d with
 | zero=>
  intro q hq;have e:q=2*l.length:=by omega
  refine Ev.succ ?_;simp only[gL.l1];rw[dI (by omega),e]
  repeat (first | with_reducible exact Ev.now _ | dsimp only | refine Ev.bZ ?_ | refine Ev.cj ?_ | simp only[bne_self_eq_false,Bool.not_true,Bool.not_false,List.length_cons,List.length_nil] | rw[aX (by omega) (by omega)] | ((with_reducible refine Ev.eq (congrArg some ?_));rfl))
  exact hr
 | succ d ih=>
  intro q hq;have hi:=ih (q+1) (by omega);rw[show jx l p (q+1)=(if next l p q=true then (jx l p q).set q 1 else jx l p q) from rfl]at hi;have he:=Dn h (show q<2*l.length by omega);have hx:=Hy p (by omega);have hlen:=wv l p q;refine Ev.succ ?_;simp only[gL.l1];rw[dI (i:=q) (by omega),hx]
  by_cases c:next l p q=true
  ·rw[if_pos c]at hi
   obtain⟨c1,c2⟩:=xY.1 c
   repeat (first | with_reducible exact Ev.now _ | dsimp only | with_reducible refine Ev.bind (Ev.eq he) ?_ | refine Ev.bZ ?_ | refine Ev.cj ?_ | simp only[bne_self_eq_false,Bool.not_true,Bool.not_false,List.length_cons,List.length_nil] | rw[aX (by omega) (by omega)] | with_reducible exact(Ev.eq he) | ((with_reducible refine Ev.eq (congrArg some ?_));rfl))
   exact hi
  ·rw[if_neg c]at hi
   by_cases c1:hd l p=tl l q
   ·have c2:q=inv p:=by
     apply Classical.byContradiction;intro e;exact c (xY.2 ⟨c1,e⟩)
    repeat (first | with_reducible exact Ev.now _ | dsimp only | with_reducible refine Ev.bind (Ev.eq he) ?_ | refine Ev.bZ ?_ | refine Ev.cj ?_ | simp only[bne_self_eq_false,Bool.not_true,Bool.not_false,List.length_cons,List.length_nil] | rw[aX (by omega) (by omega)] | with_reducible exact(Ev.eq he) | ((with_reducible refine Ev.eq (congrArg some ?_));rfl))
    exact hi
   ·repeat (first | with_reducible exact Ev.now _ | dsimp only | with_reducible refine Ev.bind (Ev.eq he) ?_ | refine Ev.bZ ?_ | refine Ev.cj ?_ | simp only[bne_self_eq_false,Bool.not_true,Bool.not_false,List.length_cons,List.length_nil] | rw[aX (by omega) (by omega)] | with_reducible exact(Ev.eq he) | ((with_reducible refine Ev.eq (congrArg some ?_));rfl))
    exact hi

theorem CW:Ev (fun k=>gL.f k n l) (kf l (2*l.length)):=by
 obtain⟨g1,g2,g3⟩:=gp h;have: ∀(d p:Nat),p+d=2*l.length→Ev (fun k=>gL.l0 k (kf l p) (2*(l.length:Int)) (p:Int) n l) (kf l (2*l.length)):=by
  intro d
  induction d with
  | zero=>
   intro p hp;have e:p=2*l.length:=by omega
   refine Ev.succ ?_;simp only[gL.l0];rw[e]
   repeat (first | with_reducible exact Ev.now _ | dsimp only | refine Ev.bZ ?_ | refine Ev.cj ?_ | simp only[bne_self_eq_false,Bool.not_true,Bool.not_false,List.length_cons,List.length_nil] | rw[aX (by omega) (by omega)] | ((with_reducible refine Ev.eq (congrArg some ?_));rfl))
  | succ d ih=>
   intro p hp;have hi:=ih (p+1) (by omega);rw[Dq]at hi;have he:=Dn h (show p<2*l.length by omega);have hl:=qX l p;refine Ev.succ ?_;simp only[gL.l0];rw[show(2*(l.length:Int)).toNat=2*l.length by omega]
   repeat (first | with_reducible exact Ev.now _ | dsimp only | with_reducible refine Ev.bind (Ev.eq he) ?_ | refine Ev.bZ ?_ | refine Ev.cj ?_ | simp only[bne_self_eq_false,Bool.not_true,Bool.not_false,List.length_cons,List.length_nil] | rw[aX (by omega) (by omega)] | with_reducible exact(Ev.eq he) | ((with_reducible refine Ev.eq (congrArg some ?_));rfl))
   exact Og h p (by omega) (kf l p) (by omega) _ hi (2*l.length) 0 (by omega)
 unfold gL.f;rw[aX (x:=2*(l.length:Int)) (by omega) (by omega)];exact this (2*l.length) 0 (by omega)

end
/-- The matrix while row p is told up to the place q. -/
def stage (l:List (List Int)) (p q:Nat):List (List Int):=kf l p++jx l p q :: List.replicate (2*l.length - (p+1)) (List.replicate (2*l.length) 0)

theorem Oh (l:List (List Int)) (p q:Nat) (h:p<2*l.length):(stage l p q).length=2*l.length:=by
 simp[stage,qX];omega

theorem Oi (l:List (List Int)) (p q:Nat):af (stage l p q) (p:Int)=jx l p q:=by
 unfold stage;rw[jH (by simp[qX])];rw[List.getElem_append_right (by rw[qX];omega)];simp[qX]

theorem Oj (l:List (List Int)) (p q:Nat) (r:List Int):(stage l p q).set p r=kf l p++r :: List.replicate (2*l.length - (p+1)) (List.replicate (2*l.length) 0):=by
 unfold stage;rw[List.set_append_right _ _ (by rw[qX];omega),qX,Nat.sub_self,List.set_cons_zero]

theorem Ok (l:List (List Int)):0<2*l.length→stage l 0 0=zeros (2*l.length):=by
 intro h;unfold stage kf zeros jx;rw[show 2*l.length - (0+1)=2*l.length - 1 by omega];simp only[List.range_zero,List.map_nil,List.nil_append];rw[← List.replicate_succ,Nat.sub_add_cancel (by omega)]

theorem Ol (l:List (List Int)) (p:Nat) (h:p+1<2*l.length):stage l p (2*l.length)=stage l (p+1) 0:=by
 unfold stage;rw[Dq,show 2*l.length - (p+1)=(2*l.length - (p+1+1))+1 by omega,List.replicate_succ,List.append_assoc]
 rfl

theorem Om (l:List (List Int)) (p:Nat) (h:p+1=2*l.length):stage l p (2*l.length)=kf l (2*l.length):=by
 unfold stage;rw[show 2*l.length - (p+1)=0 by omega,List.replicate_zero,← Dq,h]

section
variable {n:Int} {l:List (List Int)} (h:fB n l=true)
include h

theorem HC (p:Nat) (hp:p<2*l.length) (r:List (List Int)) (hr:Ev (fun k=>gW.l0 k (stage l p (2*l.length)) (2*(l.length:Int)) ((p+1:Nat):Int) n l) r):
  ∀(d q:Nat),q+d=2*l.length→Ev (fun k=>gW.l1 k (stage l p q) (p:Int) (hd l p) (2*(l.length:Int)) (p:Int) (2*(l.length:Int)) (q:Int) n l) r:=by
 obtain⟨g1,g2,g3⟩:=gp h;intro d
 induction d with
 | zero=>
  intro q hq;have e:q=2*l.length:=by omega
  refine Ev.succ ?_;simp only[gW.l1];rw[dI (i:=p) (by omega),e]
  repeat (first | with_reducible exact Ev.now _ | dsimp only | refine Ev.bZ ?_ | refine Ev.cj ?_ | simp only[bne_self_eq_false,Bool.not_true,Bool.not_false,List.length_cons,List.length_nil] | rw[aX (by omega) (by omega)] | ((with_reducible refine Ev.eq (congrArg some ?_));rfl))
  exact hr
 | succ d ih=>
  intro q hq;have hi:=ih (q+1) (by omega);have he:=Dp h (show q<2*l.length by omega);have hx:=Hy p (by omega);have hlen:=wv l p q;have hs:=Oh l p q hp;refine Ev.succ ?_;simp only[gW.l1];rw[dI (i:=q) (by omega),hx,Oi]
  by_cases c:next l p q=true
  ·have e2:(stage l p q).set p ((jx l p q).set q 1)=stage l p (q+1):=by
    rw[Oj];unfold stage;rw[show jx l p (q+1)=(if next l p q=true then (jx l p q).set q 1 else jx l p q) from rfl,if_pos c]
   obtain⟨c1,c2⟩:=xY.1 c;rw[Int.toNat_natCast,Int.toNat_natCast,e2]
   repeat (first | with_reducible exact Ev.now _ | dsimp only | with_reducible refine Ev.bind (Ev.eq he) ?_ | refine Ev.bZ ?_ | refine Ev.cj ?_ | simp only[bne_self_eq_false,Bool.not_true,Bool.not_false,List.length_cons,List.length_nil] | rw[aX (by omega) (by omega)] | with_reducible exact(Ev.eq he) | ((with_reducible refine Ev.eq (congrArg some ?_));rfl))
   exact hi
  ·have e2:stage l p q=stage l p (q+1):=by
    unfold stage;rw[show jx l p (q+1)=(if next l p q=true then (jx l p q).set q 1 else jx l p q) from rfl,if_neg c]
   rw[← e2]at hi
   by_cases c1:hd l p=tl l q
   ·have c2:q=inv p:=by
     apply Classical.byContradiction;intro e;exact c (xY.2 ⟨c1,e⟩)
    repeat (first | with_reducible exact Ev.now _ | dsimp only | with_reducible refine Ev.bind (Ev.eq he) ?_ | refine Ev.bZ ?_ | refine Ev.cj ?_ | simp only[bne_self_eq_false,Bool.not_true,Bool.not_false,List.length_cons,List.length_nil] | rw[aX (by omega) (by omega)] | with_reducible exact(Ev.eq he) | ((with_reducible refine Ev.eq (congrArg some ?_));rfl))
    exact hi
   ·repeat (first | with_reducible exact Ev.now _ | dsimp only | with_reducible refine Ev.bind (Ev.eq he) ?_ | refine Ev.bZ ?_ | refine Ev.cj ?_ | simp only[bne_self_eq_false,Bool.not_true,Bool.not_false,List.length_cons,List.length_nil] | rw[aX (by omega) (by omega)] | with_reducible exact(Ev.eq he) | ((with_reducible refine Ev.eq (congrArg some ?_));rfl))
    exact hi

theorem CV:Ev (fun k=>gW.f k n l) (kf l (2*l.length)):=by
 obtain⟨g1,g2,g3⟩:=gp h;have main: ∀(d p:Nat),p+1+d=2*l.length→Ev (fun k=>gW.l0 k (stage l p 0) (2*(l.length:Int)) (p:Int) n l) (kf l (2*l.length)):=by
  intro d
  induction d with
  | zero=>
   intro p hp;have he:=Dp h (show p<2*l.length by omega);refine Ev.succ ?_;simp only[gW.l0];unfold oK.f
   repeat (first | with_reducible exact Ev.now _ | dsimp only | with_reducible refine Ev.bind (Ev.eq he) ?_ | with_reducible refine Ev.bind (Ev.now _) ?_ | refine Ev.bZ ?_ | refine Ev.cj ?_ | simp only[bne_self_eq_false,Bool.not_true,Bool.not_false,List.length_cons,List.length_nil] | rw[aX (by omega) (by omega)] | with_reducible exact(Ev.eq he) | with_reducible exact(Ev.now _) | ((with_reducible refine Ev.eq (congrArg some ?_));rfl))
   refine HC h p (by omega) _ ?_ (2*l.length) 0 (by omega);rw[Om l p (by omega)];refine Ev.succ ?_;simp only[gW.l0]
   repeat (first | with_reducible exact Ev.now _ | dsimp only | refine Ev.bZ ?_ | refine Ev.cj ?_ | simp only[bne_self_eq_false,Bool.not_true,Bool.not_false,List.length_cons,List.length_nil] | rw[aX (by omega) (by omega)] | ((with_reducible refine Ev.eq (congrArg some ?_));rfl))
  | succ d ih=>
   intro p hp;have hi:=ih (p+1) (by omega);have he:=Dp h (show p<2*l.length by omega);refine Ev.succ ?_;simp only[gW.l0];unfold oK.f
   repeat (first | with_reducible exact Ev.now _ | dsimp only | with_reducible refine Ev.bind (Ev.eq he) ?_ | with_reducible refine Ev.bind (Ev.now _) ?_ | refine Ev.bZ ?_ | refine Ev.cj ?_ | simp only[bne_self_eq_false,Bool.not_true,Bool.not_false,List.length_cons,List.length_nil] | rw[aX (by omega) (by omega)] | with_reducible exact(Ev.eq he) | with_reducible exact(Ev.now _) | ((with_reducible refine Ev.eq (congrArg some ?_));rfl))
   refine HC h p (by omega) _ ?_ (2*l.length) 0 (by omega);rw[Ol l p (by omega)];exact hi
 unfold gW.f oK.f;refine Ev.bind (Ev.now _) ?_;rw[aX (x:=2*(l.length:Int)) (by omega) (by omega)];refine Ev.bind (Al (2*(l.length:Int)) (by omega) (by omega)) ?_;refine Ev.bind (Ev.now _) ?_;rw[aX (x:=2*(l.length:Int)) (by omega) (by omega)];rw[show(2*(l.length:Int)).toNat=2*l.length by omega]
 by_cases e:l.length=0
 ·refine Ev.succ ?_;simp only[gW.l0]
  refine Ev.neg (by omega) ?_;refine Ev.eq (congrArg some ?_);rw[e]
  rfl
 ·rw[← Ok l (by omega)]
  exact main (2*l.length - 1) 0 (by omega)

end
/-- One where q may follow p. -/
def W (l:List (List Int)) (p q:Nat):Int:=if next l p q=true then 1 else 0

theorem LR (l:List (List Int)) (p q:Nat):0≤W l p q∧W l p q≤1:=by
 unfold W
 split<;>decide

theorem GI (l:List (List Int)):kf l (2*l.length)=ofFn (2*l.length) (W l):=by
 unfold kf ofFn;refine List.map_congr_left (fun p hp=> ?_);refine vY (by rw[wv,gm]) (fun j hj=> ?_);rw[wv]at hj;rw[Oe l p _ j (Nat.le_refl _),jK _ hj];unfold W
 by_cases c:next l p j=true
 ·rw[if_pos c,if_pos ⟨hj,c⟩]
 ·rw[if_neg c,if_neg (fun e=>c e.2)]

def sg (j:Nat):Int:=if j % 2=0 then 1 else -1

theorem HE (j:Nat):sg (j+1)= - sg j:=by
 unfold sg
 split<;>split<;>omega

def minor (m:Nat→Nat→Int) (j:Nat):Nat→Nat→Int:=fun i k=>m (i+1) (if k<j then k else k+1)

def cl:Nat→(Nat→Nat→Int)→Int
 | 0,_=>1
 | n+1,m=>Sm (n+1) (fun j=>sg j*m 0 j*cl n (minor m j))

theorem gJ: ∀(n:Nat) (m m':Nat→Nat→Int),(∀i k,i<n→k<n→m i k=m' i k)→cl n m=cl n m':=by
 intro n
 induction n with
 | zero=>intro m m' _;rfl
 | succ n ih=>
  intro m m' h;unfold cl;refine bK (fun j hj=> ?_);rw[h 0 j (by omega) hj,ih (minor m j) (minor m' j) (fun i k hi hk=> ?_)];unfold minor
  split
  ·exact h _ _ (by omega) (by omega)
  ·exact h _ _ (by omega) (by omega)

/-- Column c becomes v. -/
def cQ (m:Nat→Nat→Int) (c:Nat) (v:Nat→Int):Nat→Nat→Int:=fun i k=>if k=c then v i else m i k

theorem sw (m:Nat→Nat→Int) (c:Nat):cQ m c (fun i=>m i c)=m:=by
 funext i k
 unfold cQ
 split
 ·next h=>rw[h]
 ·rfl

theorem qY (m:Nat→Nat→Int) {c d:Nat} (h:c≠d) (v v':Nat→Int):cQ (cQ m c v) d v'=cQ (cQ m d v') c v:=by
 funext i k
 unfold cQ
 by_cases e:k=d
 ·rw[if_pos e,if_neg (by omega),if_pos e]
 ·rw[if_neg e]
  by_cases e2:k=c
  ·rw[if_pos e2,if_pos e2]
  ·rw[if_neg e2,if_neg e2,if_neg e]

theorem AJ (m:Nat→Nat→Int) (c:Nat) (v:Nat→Int):minor (cQ m c v) c=minor m c:=by
 funext i k
 unfold minor cQ;rw[if_neg]
 split<;>omega

theorem AK (m:Nat→Nat→Int) {c j:Nat} (h:j≠c) (v:Nat→Int):minor (cQ m c v) j=cQ (minor m j) (if c<j then c else c - 1) (fun i=>v (i+1)):=by
 funext i k
 unfold minor cQ
 by_cases e:(if k<j then k else k+1)=c
 ·rw[if_pos e,if_pos (show k=(if c<j then c else c - 1) by split at e<;>split<;>omega)]
 ·rw[if_neg e,if_neg (show ¬k=(if c<j then c else c - 1) by split at e<;>split<;>omega)]

/-- Linear in a column. -/
theorem sx: ∀(n:Nat) (m:Nat→Nat→Int) (c:Nat) (s t:Int) (x y:Nat→Int),c<n→cl n (cQ m c (fun i=>s*x i+t*y i))=s*cl n (cQ m c x)+t*cl n (cQ m c y):=by
 intro n
 induction n with
 | zero=>intro m c s t x y h;omega
 | succ n ih=>
  intro m c s t x y hc;unfold cl;rw[← e7,← e7,← gz];refine bK (fun j hj=> ?_)
  by_cases e:j=c
  ·subst e
   rw[AJ,AJ,AJ];simp only[cQ,if_pos];generalize cl n (minor m j)=d;generalize sg j=g;rw[Int.mul_add,Int.add_mul]
   congr 1
   ·rw[← Int.mul_assoc,Int.mul_comm g s,Int.mul_assoc s g,Int.mul_assoc]
   ·rw[← Int.mul_assoc,Int.mul_comm g t,Int.mul_assoc t g,Int.mul_assoc]
  ·rw[AK m e,AK m e,AK m e,ih _ _ s t _ _ (by split<;>omega)]
   simp only[cQ,if_neg e];generalize cl n _=d1;generalize cl n _=d2;generalize sg j*m 0 j=g;rw[Int.mul_add,← Int.mul_assoc,← Int.mul_assoc,Int.mul_comm g s,Int.mul_comm g t,Int.mul_assoc,Int.mul_assoc]

theorem Ds (n:Nat) (m:Nat→Nat→Int) (c:Nat) (x y:Nat→Int) (hc:c<n):cl n (cQ m c (fun i=>x i+y i))=cl n (cQ m c x)+cl n (cQ m c y):=by
 have:=sx n m c 1 1 x y hc;simp only[Int.one_mul]at this;exact this

theorem Dt (n:Nat) (m:Nat→Nat→Int) (c:Nat) (hc:c<n):cl n (cQ m c (fun _=>0))=0:=by
 have:=sx n m c 0 0 (fun _=>0) (fun _=>0) hc;simp only[Int.zero_mul,Int.add_zero]at this;exact this

theorem Oo {n c:Nat} {f:Nat→Int} (hc:c+1<n) (h: ∀i,i<n→i≠c→i≠c+1→f i=0):Sm n f=f c+f (c+1):=by
 have z: ∀k,k≤n→Sm k f=(if c<k then f c else 0)+(if c+1<k then f (c+1) else 0):=by
  intro k
  induction k with
  | zero=>intro _;rfl
  | succ k ih=>
   intro hk;unfold Sm;rw[ih (by omega)]
   by_cases e:k=c
   ·subst e
    rw[if_neg (by omega),if_neg (by omega),if_pos (by omega),if_neg (by omega)]
    omega
   ·by_cases e2:k=c+1
    ·subst e2
     rw[if_pos (by omega),if_neg (by omega),if_pos (by omega),if_pos (by omega)]
     omega
    ·rw[h k (by omega) e e2]
     by_cases c1:c<k
     ·rw[if_pos c1,if_pos (show c<k+1 by omega)]
      by_cases c2:c+1<k
      ·rw[if_pos c2,if_pos (by omega)];omega
      ·rw[if_neg c2,if_neg (by omega)];omega
     ·rw[if_neg c1,if_neg (show ¬c+1<k by omega),if_neg (show ¬c<k+1 by omega),if_neg (by omega)];omega
 rw[z n (Nat.le_refl _),if_pos (by omega),if_pos (by omega)]

/-- Two like columns side by side. -/
theorem Du: ∀(n:Nat) (m:Nat→Nat→Int) (c:Nat),c+1<n→(∀i,m i c=m i (c+1))→cl n m=0:=by
 intro n
 induction n with
 | zero=>intro m c h;omega
 | succ n ih=>
  intro m c hc h;unfold cl;rw[Oo hc]
  ·have e:minor m c=minor m (c+1):=by
    funext i k
    unfold minor
    by_cases e1:k<c
    ·rw[if_pos e1,if_pos (by omega)]
    ·rw[if_neg e1]
     by_cases e2:k=c
     ·subst e2
      rw[if_pos (by omega)];exact(h (i+1)).symm
     ·rw[if_neg (by omega)]
   rw[e,← h 0,HE,Int.neg_mul,Int.neg_mul]
   omega
  ·intro j hj h1 h2
   rw[ih (minor m j) (if c+1<j then c else c - 1),Int.mul_zero]
   ·split<;>omega
   ·intro i
    unfold minor
    by_cases c1:c+1<j
    ·rw[if_pos c1,if_pos (by omega),if_pos (by omega)]
     exact h (i+1)
    ·rw[if_neg c1,if_neg (by omega),if_neg (by omega),show c - 1+1=c by omega]
     exact h (i+1)

/-- Two neighbours change places: the sign changes. -/
theorem HF (n:Nat) (m:Nat→Nat→Int) (c:Nat) (hc:c+1<n) (x y:Nat→Int):cl n (cQ (cQ m c x) (c+1) y)= - cl n (cQ (cQ m c y) (c+1) x):=by
 have two: ∀x,cl n (cQ (cQ m c x) (c+1) x)=0:=fun x=>Du n _ c hc (fun i=>by
  unfold cQ;rw[if_neg (by omega),if_pos rfl,if_pos rfl])
 have h:=two (fun i=>x i+y i);rw[Ds n _ (c+1) x y hc,qY m (show c≠c+1 by omega),qY m (show c≠c+1 by omega),Ds n _ c x y (by omega),Ds n _ c x y (by omega)]at h;rw[qY m (show c+1≠c by omega),qY m (show c+1≠c by omega),qY m (show c+1≠c by omega),qY m (show c+1≠c by omega),two x,two y]at h
 omega

/-- Two like columns anywhere. -/
theorem HG (n:Nat): ∀(d:Nat) (m:Nat→Nat→Int) (p:Nat),p+1+d<n→(∀i,m i p=m i (p+1+d))→cl n m=0:=by
 intro d
 induction d with
 | zero=>intro m p hp h;exact Du n m p hp h
 | succ d ih=>
  intro m p hp h;have hs:=HF n m (p+1+d) (by omega) (fun i=>m i (p+1+d)) (fun i=>m i (p+1+d+1));have e1:cQ (cQ m (p+1+d) (fun i=>m i (p+1+d))) (p+1+d+1) (fun i=>m i (p+1+d+1))=m:=by
   rw[sw,sw]
  rw[e1]at hs;rw[hs,ih _ p (by omega)]
  ·rfl
  ·intro i
   unfold cQ;rw[if_neg (by omega),if_neg (by omega),if_neg (by omega),if_pos rfl];exact h i

theorem AL {n:Nat} {m:Nat→Nat→Int} {p q:Nat} (hp:p<n) (hq:q<n) (hne:p≠q) (h: ∀i,m i p=m i q):cl n m=0:=by
 rcases Nat.lt_or_gt_of_ne hne with c | c
 ·exact HG n (q - p - 1) m p (by omega) (fun i=>by rw[show p+1+(q - p - 1)=q by omega];exact h i)
 ·exact HG n (p - q - 1) m q (by omega) (fun i=>by rw[show q+1+(p - q - 1)=p by omega];exact(h i).symm)

/-- A column that is a sum. -/
theorem Dv (n:Nat) (m:Nat→Nat→Int) (c:Nat) (hc:c<n) (t:Nat→Int) (w:Nat→Nat→Int): ∀k,cl n (cQ m c (fun r=>Sm k (fun i=>t i*w i r)))=Sm k (fun i=>t i*cl n (cQ m c (w i))):=by
 intro k
 induction k with
 | zero=>exact Dt n m c hc
 | succ k ih=>
  have h:=sx n m c 1 (t k) (fun r=>Sm k (fun i=>t i*w i r)) (w k) hc;simp only[Int.one_mul]at h
  show cl n (cQ m c (fun r=>Sm k (fun i=>t i*w i r)+t k*w k r))=_
  rw[h,ih]
  rfl

theorem mH (N:Nat) (f:Nat→Int) {p:Nat} (hp:p<N):Sm N (fun r=>(if r=p then 1 else 0)*f r)=f p:=by
 induction N with
 | zero=>omega
 | succ N ih=>
  show Sm N (fun r=>(if r=p then 1 else 0)*f r)+(if N=p then 1 else 0)*f N=f p
  by_cases e:p=N
  ·subst e
   rw[if_pos rfl,Int.one_mul];have:Sm p (fun r=>(if r=p then 1 else 0)*f r)=Sm p (fun _=>0):=bK (fun i hi=>by rw[if_neg (by omega),Int.zero_mul]);rw[this,jR,Int.zero_add]
  ·rw[ih (by omega),if_neg (by omega),Int.zero_mul,Int.add_zero]

def unit (i:Nat):Nat→Int:=fun r=>if r=i then 1 else 0

def adj (n:Nat) (x:Nat→Nat→Int) (k i:Nat):Int:=cl n (cQ x k (unit i))

/-- Cramer: what the k-th row of the adjoint does to a column. -/
theorem HH (n:Nat) (x:Nat→Nat→Int) (k:Nat) (hk:k<n) (v:Nat→Int):Sm n (fun i=>adj n x k i*v i)=cl n (cQ x k v):=by
 have h:=Dv n x k hk v unit n;have e:cl n (cQ x k (fun r=>Sm n (fun i=>v i*unit i r)))=cl n (cQ x k v):=by
  refine gJ n _ _ (fun i j hi hj=> ?_);unfold cQ
  split
  ·have:Sm n (fun a=>v a*unit a i)=Sm n (fun a=>(if a=i then 1 else 0)*v a):=bK (fun a _=>by
    unfold unit;rw[Int.mul_comm]
    by_cases c:i=a
    ·rw[if_pos c,if_pos c.symm]
    ·rw[if_neg c,if_neg (fun z=>c z.symm)])
   exact this.trans (mH n v hi)
  ·rfl
 rw[e]at h;rw[h];exact bK (fun i _=>Int.mul_comm _ _)

theorem HI (n:Nat) (x:Nat→Nat→Int) (k j:Nat) (hk:k<n) (hj:j<n):mul n (adj n x) x k j=if k=j then cl n x else 0:=by
 unfold mul;rw[HH n x k hk (fun i=>x i j)]
 by_cases e:k=j
 ·subst e
  rw[if_pos rfl,sw]
 ·rw[if_neg e]
  refine AL hk hj e (fun i=> ?_);unfold cQ;rw[if_pos rfl,if_neg (fun z=>e z.symm)]
def ab (x:Int):Int:=(x.natAbs:Int)

theorem kU (x:Int):0≤ab x:=by unfold ab;omega
theorem yh (x y:Int):ab (x+y)≤ab x+ab y:=by unfold ab;omega
theorem wk (x y:Int):ab (x*y)=ab x*ab y:=by
 unfold ab;rw[Int.natAbs_mul]
 push_cast
 rfl

/-- The coefficients c, d of them, make f; their sizes sum up to at most B. -/
def iB (d:Nat) (B:Int) (c:Nat→Int) (f:Int→Int):Prop:=(∀i,d≤i→c i=0)∧(∀u,f u=Sm d (fun i=>c i*u ^ i))∧Sm d (fun i=>ab (c i))≤B

theorem nX {d e:Nat} (f:Nat→Int) (vW:d≤e) (h: ∀i,d≤i→f i=0):Sm e f=Sm d f:=by
 induction e with
 | zero=>rw[show d=0 by omega]
 | succ e ih=>
  by_cases c:d=e+1
  ·rw[c]
  ·show Sm e f+f e=_
   rw[ih (by omega),h e (by omega),Int.add_zero]

theorem iB.more {d e:Nat} {B:Int} {c:Nat→Int} {f:Int→Int} (h:iB d B c f) (vW:d≤e):iB e B c f:=by
 refine⟨fun i hi=>h.1 i (by omega),fun u=> ?_, ?_⟩
 ·rw[h.2.1 u,nX _ vW (fun i hi=>by rw[h.1 i hi,Int.zero_mul])]
 ·rw[nX _ vW (fun i hi=>by rw[h.1 i hi];rfl)]
  exact h.2.2

theorem yj {n:Nat} {f g:Nat→Int} (h: ∀i,i<n→f i≤g i):Sm n f≤Sm n g:=by
 induction n with
 | zero=>exact Int.le_refl _
 | succ n ih=>
  have h1:=ih (fun i hi=>h i (by omega));have h2:=h n (by omega);unfold Sm
  omega

theorem iB.add {d:Nat} {B B':Int} {c c':Nat→Int} {f g:Int→Int} (h:iB d B c f) (h':iB d B' c' g):iB d (B+B') (fun i=>c i+c' i) (fun u=>f u+g u):=by
 refine⟨fun i hi=>by show c i+c' i=0;rw[h.1 i hi,h'.1 i hi];rfl,fun u=> ?_, ?_⟩
 ·show f u+g u=Sm d (fun i=>(c i+c' i)*u ^ i)
  rw[h.2.1 u,h'.2.1 u,← gz];exact bK (fun i _=>(Int.add_mul _ _ _).symm)
 ·have:=h.2.2
  have:=h'.2.2;have h3:Sm d (fun i=>ab (c i+c' i))≤Sm d (fun i=>ab (c i)+ab (c' i)):=yj (fun i _=>yh _ _);rw[gz]at h3
  show Sm d (fun i=>ab (c i+c' i))≤B+B'
  omega

theorem iB.zero (d:Nat):iB d 0 (fun _=>0) (fun _=>0):=by
 refine⟨fun _ _=>rfl,fun u=> ?_, ?_⟩
 ·rw[bK (g:=fun _=>0) (fun i _=>Int.zero_mul _),jR]
 ·show Sm d (fun _=>(0:Int))≤0
  rw[jR];exact Int.le_refl _

theorem iB.one:iB 1 1 (fun i=>if i=0 then 1 else 0) (fun _=>1):=by
 refine⟨fun i hi=>if_neg (by omega),fun u=> ?_, ?_⟩
 ·show(1:Int)=0+(if 0=0 then 1 else 0)*u ^ 0
  rw[if_pos rfl,Int.pow_zero]
  rfl
 ·exact Int.le_refl _

/-- The coefficients behind a linear factor. -/
def lI (a b:Int) (c:Nat→Int) (i:Nat):Int:=a*c i+(if i=0 then 0 else b*c (i - 1))

theorem AO (d:Nat) (f:Nat→Int):Sm (d+1) (fun i=>if i=0 then 0 else f (i - 1))=Sm d f:=by
 induction d with
 | zero=>rfl
 | succ d ih=>
  show Sm (d+1) (fun i=>if i=0 then 0 else f (i - 1))+(if d+1=0 then 0 else f (d+1 - 1))=Sm d f+f d
  rw[ih,if_neg (by omega),Nat.add_sub_cancel]

theorem iB.AP {d:Nat} {B:Int} {c:Nat→Int} {f:Int→Int} (h:iB d B c f) (a b:Int):iB (d+1) ((ab a+ab b)*B) (lI a b c) (fun u=>(a+u*b)*f u):=by
 refine⟨fun i hi=> ?_,fun u=> ?_, ?_⟩
 ·unfold lI
  rw[h.1 i (by omega),if_neg (by omega),h.1 (i - 1) (by omega),Int.mul_zero,Int.mul_zero]
  rfl
 ·unfold lI
  have e1:Sm (d+1) (fun i=>(a*c i+(if i=0 then 0 else b*c (i - 1)))*u ^ i)=Sm (d+1) (fun i=>a*(c i*u ^ i))+Sm (d+1) (fun i=>if i=0 then 0 else u*b*(c (i - 1)*u ^ (i - 1))):=by
   rw[← gz];refine bK (fun i _=> ?_);rw[Int.add_mul,Int.mul_assoc]
   congr 1
   by_cases e:i=0
   ·rw[if_pos e,if_pos e,Int.zero_mul]
   ·rw[if_neg e,if_neg e]
    obtain⟨j,rfl⟩: ∃j,i=j+1:=⟨i - 1,by omega⟩;rw[Nat.add_sub_cancel,Int.pow_succ,Int.mul_comm (u ^ j) u,Int.mul_comm u b,Int.mul_assoc,Int.mul_assoc]
    congr 1
    rw[← Int.mul_assoc,Int.mul_comm (c j) u,Int.mul_assoc]
  rw[e1,e7,AO d (fun i=>u*b*(c i*u ^ i)),e7,nX (d:=d) (fun i=>c i*u ^ i) (by omega) (fun i hi=>by rw[h.1 i hi,Int.zero_mul]),← h.2.1 u];exact Int.add_mul _ _ _
 ·have h1:Sm (d+1) (fun i=>ab (lI a b c i))≤Sm (d+1) (fun i=>ab a*ab (c i)+(if i=0 then 0 else ab b*ab (c (i - 1)))):=yj (fun i _=>by
   unfold lI;have:=yh (a*c i) (if i=0 then 0 else b*c (i - 1));rw[wk]at this
   by_cases e:i=0
   ·rw[if_pos e]at this ⊢
    rw[if_pos e];exact this
   ·rw[if_neg e,wk]at this
    rw[if_neg e,if_neg e];exact this)
  rw[gz,e7,AO d (fun i=>ab b*ab (c i)),e7,nX (d:=d) (fun i=>ab (c i)) (by omega) (fun i hi=>by rw[h.1 i hi];rfl)]at h1;have h2:ab a*Sm d (fun i=>ab (c i))≤ab a*B:=Int.mul_le_mul_of_nonneg_left h.2.2 (kU a);have h3:ab b*Sm d (fun i=>ab (c i))≤ab b*B:=Int.mul_le_mul_of_nonneg_left h.2.2 (kU b);rw[Int.add_mul]
  omega

/-- A polynomial that is zero at all whole numbers from 2 on has no coefficients. -/
theorem C3: ∀(d:Nat) (c:Nat→Int),(∀u:Int,2≤u→Sm d (fun i=>c i*u ^ i)=0)→∀i,i<d→c i=0:=by
 intro d
 induction d with
 | zero=>intro c _ i hi;omega
 | succ d ih=>
  intro c h;have split: ∀u:Int,Sm (d+1) (fun i=>c i*u ^ i)=c 0+u*Sm d (fun i=>c (i+1)*u ^ i):=by
   intro u;have: ∀n,Sm (n+1) (fun i=>c i*u ^ i)=c 0+u*Sm n (fun i=>c (i+1)*u ^ i):=by
    intro n
    induction n with
    | zero=>
     show 0+c 0*u ^ 0=c 0+u*0
     rw[Int.pow_zero]
     omega
    | succ n ihn=>
     show Sm (n+1) (fun i=>c i*u ^ i)+c (n+1)*u ^ (n+1)=c 0+u*(Sm n (fun i=>c (i+1)*u ^ i)+c (n+1)*u ^ n)
     rw[ihn,Int.mul_add,Int.pow_succ,Int.mul_comm (u ^ n) u,← Int.mul_assoc (c (n+1)) u,Int.mul_comm (c (n+1)) u,Int.mul_assoc u]
     omega
   exact this d
  have h0:c 0=0:=by
   apply Classical.byContradiction;intro hc;have h1:=h (ab (c 0)+2) (by have:=kU (c 0);omega);rw[split]at h1;generalize Sm d _=s at h1;have hab:ab (c 0)=(c 0).natAbs:=rfl;have hdvd:(ab (c 0)+2)∣c 0:=⟨-s,by rw[Int.mul_neg];omega⟩;have:=Int.natAbs_dvd_natAbs.2 hdvd;have:=Nat.le_of_dvd (by omega) this;have e:(ab (c 0)+2).natAbs=(c 0).natAbs+2:=by rw[hab];omega
   omega
  intro i hi
  by_cases e:i=0
  ·rw[e];exact h0
  ·have:=ih (fun i=>c (i+1)) (fun u hu=>by
    have h1:=h u hu;rw[split,h0,Int.zero_add]at h1;rcases Int.mul_eq_zero.1 h1 with h2 | h2
    ·omega
    ·exact h2) (i - 1) (by omega)
   simp only[Nat.sub_add_cancel (show 1≤i by omega)]at this;exact this

theorem Az (d:Nat) (c:Nat→Int) (h: ∀u:Int,1≤u→Sm d (fun i=>c i*u ^ i)=0): ∀i,i<d→c i=0:=C3 d c (fun u hu=>h u (by omega))
/-- A product of n numbers. -/
def Pr:Nat→(Nat→Int)→Int
 | 0,_=>1
 | n+1,f=>Pr n f*f n

theorem HJ {n:Nat} {f g:Nat→Int} (h: ∀i,i<n→f i=g i):Pr n f=Pr n g:=by
 induction n with
 | zero=>rfl
 | succ n ih=>unfold Pr;rw[ih (fun i hi=>h i (by omega)),h n (by omega)]

theorem Dw {n:Nat} {f:Nat→Int} (h: ∀i,i<n→0≤f i):0≤Pr n f:=by
 induction n with
 | zero=>exact(by decide:(0:Int)≤1)
 | succ n ih=>
  unfold Pr;exact Int.mul_nonneg (ih (fun i hi=>h i (by omega))) (h n (by omega))

theorem Av {n:Nat} {f g:Nat→Int} (h0: ∀i,i<n→0≤f i) (h: ∀i,i<n→f i≤g i):Pr n f≤Pr n g:=by
 induction n with
 | zero=>exact Int.le_refl _
 | succ n ih=>
  unfold Pr;have h1:=ih (fun i hi=>h0 i (by omega)) (fun i hi=>h i (by omega));have h2:Pr n f*f n≤Pr n g*f n:=Int.mul_le_mul_of_nonneg_right h1 (h0 n (by omega));have hg:0≤Pr n g:=Dw (fun i hi=>Int.le_trans (h0 i (by omega)) (h i (by omega)));have h3:Pr n g*f n≤Pr n g*g n:=Int.mul_le_mul_of_nonneg_left (h n (by omega)) hg
  omega

/-- The number's place behind the one that is left out. -/
def skip (j k:Nat):Nat:=if k<j then k else k+1

theorem Oq (n j:Nat) (f:Nat→Int) (hj:j≤n):Pr (n+1) (fun k=>f (skip j k))=if j=n+1 then Pr (n+1) f else Pr n (fun k=>f (skip j k))*f (n+1):=by
 rw[if_neg (by omega)]
 show Pr n (fun k=>f (skip j k))*f (skip j n)=_
 rw[show skip j n=n+1 from if_neg (by omega)]

theorem Ot (a c:Nat→Int) (ha: ∀i,0≤a i) (hc: ∀i,0≤c i): ∀n,Sm (n+1) (fun j=>a j*Pr n (fun k=>c (skip j k)))+Pr (n+1) c≤Pr (n+1) (fun k=>a k+c k):=by
 intro n
 induction n with
 | zero=>
  show 0+a 0*1+1*c 0≤1*(a 0+c 0)
  omega
 | succ n ih=>
  have e1:Sm (n+1) (fun j=>a j*Pr (n+1) (fun k=>c (skip j k)))=Sm (n+1) (fun j=>a j*Pr n (fun k=>c (skip j k)))*c (n+1):=by
   rw[← jL];refine bK (fun j hj=> ?_);rw[Oq n j c (by omega),if_neg (by omega),Int.mul_assoc]
  have e2:Pr (n+1) (fun k=>c (skip (n+1) k))=Pr (n+1) c:=HJ (fun k hk=>by rw[show skip (n+1) k=k from if_pos hk])
  show Sm (n+1) (fun j=>a j*Pr (n+1) (fun k=>c (skip j k)))+a (n+1)*Pr (n+1) (fun k=>c (skip (n+1) k))+Pr (n+1) c*c (n+1)≤Pr (n+1) (fun k=>a k+c k)*(a (n+1)+c (n+1))
  rw[e1,e2,Int.mul_add];have hP:Pr (n+1) c≤Pr (n+1) (fun k=>a k+c k):=Av (fun i _=>hc i) (fun i _=>by have:=ha i;omega);have h1:(Sm (n+1) (fun j=>a j*Pr n (fun k=>c (skip j k)))+Pr (n+1) c)*c (n+1)≤Pr (n+1) (fun k=>a k+c k)*c (n+1):=Int.mul_le_mul_of_nonneg_right ih (hc _);have h2:Pr (n+1) c*a (n+1)≤Pr (n+1) (fun k=>a k+c k)*a (n+1):=Int.mul_le_mul_of_nonneg_right hP (ha _);rw[Int.add_mul]at h1;rw[Int.mul_comm (a (n+1))]
  omega

/-- The coefficients of the determinant of a + u b. -/
def dc:Nat→(Nat→Nat→Int)→(Nat→Nat→Int)→Nat→Int
 | 0,_,_=>fun i=>if i=0 then 1 else 0
 | n+1,a,b=>fun i=>Sm (n+1) (fun j=>lI (sg j*a 0 j) (sg j*b 0 j) (dc n (minor a j) (minor b j)) i)

theorem iB.sum {d:Nat} (n:Nat) (B:Nat→Int) (c:Nat→Nat→Int) (f:Nat→Int→Int) (h: ∀j,j<n→iB d (B j) (c j) (f j)):iB d (Sm n B) (fun i=>Sm n (fun j=>c j i)) (fun u=>Sm n (fun j=>f j u)):=by
 induction n with
 | zero=>exact iB.zero d
 | succ n ih=>exact iB.add (ih (fun j hj=>h j (by omega))) (h n (by omega))

/-- A column's size. -/
def cs (n:Nat) (a b:Nat→Nat→Int) (k:Nat):Int:=Sm n (fun i=>ab (a i k)+ab (b i k))

theorem Aw (n:Nat) (a b:Nat→Nat→Int) (k:Nat):0≤cs n a b k:=ym (fun i _=>by
 have:=kU (a i k);have:=kU (b i k)
 omega)

theorem r9 (n:Nat) (f:Nat→Int):Sm (n+1) f=f 0+Sm n (fun i=>f (i+1)):=by
 induction n with
 | zero=>show 0+f 0=f 0+0;omega
 | succ n ih=>
  show Sm (n+1) f+f (n+1)=f 0+(Sm n (fun i=>f (i+1))+f (n+1))
  rw[ih];omega

theorem HM (j:Nat) (x:Int):ab (sg j*x)=ab x:=by
 rw[wk];have:ab (sg j)=1:=by unfold sg ab;split<;>rfl
 rw[this,Int.one_mul]

theorem tO: ∀(n:Nat) (a b:Nat→Nat→Int),iB (n+1) (Pr n (cs n a b)) (dc n a b) (fun u=>cl n (fun i k=>a i k+u*b i k)):=by
 intro n
 induction n with
 | zero=>intro a b;exact iB.one
 | succ n ih=>
  intro a b;have h:=iB.sum (d:=n+2) (n+1) (fun j=>(ab (sg j*a 0 j)+ab (sg j*b 0 j))*Pr n (cs n (minor a j) (minor b j))) (fun j=>lI (sg j*a 0 j) (sg j*b 0 j) (dc n (minor a j) (minor b j)))
   (fun j u=>(sg j*a 0 j+u*(sg j*b 0 j))*cl n (fun i k=>minor a j i k+u*minor b j i k)) (fun j _=>(ih (minor a j) (minor b j)).AP _ _)
  have hB:Sm (n+1) (fun j=>(ab (sg j*a 0 j)+ab (sg j*b 0 j))*Pr n (cs n (minor a j) (minor b j)))≤Pr (n+1) (cs (n+1) a b):=by
   have h1:=Ot (fun k=>ab (a 0 k)+ab (b 0 k)) (fun k=>Sm n (fun i=>ab (a (i+1) k)+ab (b (i+1) k))) (fun k=>by have:=kU (a 0 k);have:=kU (b 0 k);omega) (fun k=>ym (fun i _=>by have:=kU (a (i+1) k);have:=kU (b (i+1) k);omega)) n;have h2:0≤Pr (n+1) (fun k=>Sm n (fun i=>ab (a (i+1) k)+ab (b (i+1) k))):=Dw (fun k _=>ym (fun i _=>by have:=kU (a (i+1) k);have:=kU (b (i+1) k);omega));have e1:Pr (n+1) (cs (n+1) a b)=Pr (n+1) (fun k=>(ab (a 0 k)+ab (b 0 k))+Sm n (fun i=>ab (a (i+1) k)+ab (b (i+1) k))):=HJ (fun k _=>r9 n (fun i=>ab (a i k)+ab (b i k)));have e2:Sm (n+1) (fun j=>(ab (sg j*a 0 j)+ab (sg j*b 0 j))*Pr n (cs n (minor a j) (minor b j)))=Sm (n+1) (fun j=>(ab (a 0 j)+ab (b 0 j))*Pr n (fun k=>Sm n (fun i=>ab (a (i+1) (skip j k))+ab (b (i+1) (skip j k))))):=bK (fun j _=>by
    rw[HM,HM]
    rfl)
   rw[e1,e2]
   omega
  refine⟨h.1,fun u=> ?_,Int.le_trans h.2.2 hB⟩;refine Eq.trans ?_ (h.2.1 u);refine bK (fun j _=> ?_)
  show sg j*(a 0 j+u*b 0 j)*cl n (minor (fun i k=>a i k+u*b i k) j)=(sg j*a 0 j+u*(sg j*b 0 j))*cl n (fun i k=>minor a j i k+u*minor b j i k)
  have e:minor (fun i k=>a i k+u*b i k) j=fun i k=>minor a j i k+u*minor b j i k:=rfl
  rw[e,Int.mul_add,← Int.mul_assoc (sg j) u,Int.mul_comm (sg j) u,Int.mul_assoc u]
theorem mG (n:Nat) (a b:Nat→Nat→Int) {i:Nat} (h:n+1≤i):dc n a b i=0:=(tO n a b).1 i h

theorem xW: ∀(n:Nat) (a b:Nat→Nat→Int),dc n a b 0=cl n a:=by
 intro n
 induction n with
 | zero=>intro a b;rfl
 | succ n ih=>
  intro a b
  show Sm (n+1) (fun j=>lI (sg j*a 0 j) (sg j*b 0 j) (dc n (minor a j) (minor b j)) 0)=Sm (n+1) (fun j=>sg j*a 0 j*cl n (minor a j))
  refine bK (fun j _=> ?_);unfold lI;rw[if_pos rfl,ih,Int.add_zero]

theorem Ou: ∀(n:Nat) (a b:Nat→Nat→Int),dc n a b n=cl n b:=by
 intro n
 induction n with
 | zero=>intro a b;rfl
 | succ n ih=>
  intro a b
  show Sm (n+1) (fun j=>lI (sg j*a 0 j) (sg j*b 0 j) (dc n (minor a j) (minor b j)) (n+1))=Sm (n+1) (fun j=>sg j*b 0 j*cl n (minor b j))
  refine bK (fun j _=> ?_);unfold lI;rw[if_neg (by omega),Nat.add_sub_cancel,ih,mG n _ _ (Nat.le_refl _),Int.mul_zero,Int.zero_add]

def eM (i k:Nat):Int:=if i=k then 1 else 0
def ng (a:Nat→Nat→Int) (i k:Nat):Int:= - a i k

/-- The coefficients of det(1 - u a). -/
def ch (n:Nat) (a:Nat→Nat→Int):Nat→Int:=dc n eM (ng a)

/-- The coefficients of the adjoint's entries. -/
def nc (n:Nat) (a:Nat→Nat→Int) (m k i:Nat):Int:=dc n (cQ eM k (unit i)) (cQ (ng a) k (fun _=>0)) m

def xu (a:Nat→Nat→Int) (u:Int) (i k:Nat):Int:=eM i k+u*ng a i k

theorem wz (n:Nat) (a:Nat→Nat→Int) (u:Int) (k i:Nat):adj n (xu a u) k i=Sm (n+1) (fun m=>nc n a m k i*u ^ m):=by
 refine Eq.trans ?_ ((tO n (cQ eM k (unit i)) (cQ (ng a) k (fun _=>0))).2.1 u);unfold adj;refine gJ n _ _ (fun r c _ _=> ?_);unfold cQ xu
 by_cases e:c=k
 ·rw[if_pos e,if_pos e,if_pos e,Int.mul_zero,Int.add_zero]
 ·rw[if_neg e,if_neg e,if_neg e]

theorem su (n:Nat) (a:Nat→Nat→Int) (u:Int):cl n (xu a u)=Sm (n+1) (fun m=>ch n a m*u ^ m):=(tO n eM (ng a)).2.1 u

theorem Dx (n:Nat) (a:Nat→Nat→Int) (m k i:Nat) (hk:k<n) (hm:n≤m):nc n a m k i=0:=by
 by_cases e:m=n
 ·subst e
  unfold nc;rw[Ou];exact Dt m (ng a) k hk
 ·exact mG n _ _ (by omega)

/-- N_m = N_(m-1) A + d_m. -/
theorem yw (n:Nat) (a:Nat→Nat→Int) (m k j:Nat) (hk:k<n) (hj:j<n):nc n a m k j=(if m=0 then 0 else Sm n (fun i=>nc n a (m - 1) k i*a i j))+(if k=j then ch n a m else 0):=by
 by_cases hm:n+2≤m
 ·rw[Dx n a m k j hk (by omega),if_neg (by omega),show ch n a m=0 from mG n _ _ (by omega)]
  rw[bK (g:=fun _=>0) (fun i _=>by rw[Dx n a (m - 1) k i hk (by omega),Int.zero_mul]),jR]
  split<;>rfl
 have key: ∀u:Int,Sm (n+2) (fun m=>(nc n a m k j - ((if m=0 then 0 else Sm n (fun i=>nc n a (m - 1) k i*a i j))+(if k=j then ch n a m else 0)))*u ^ m)=0:=by
  intro u;have h:=HI n (xu a u) k j hk hj;unfold mul at h;have e1:Sm n (fun i=>adj n (xu a u) k i*xu a u i j)=adj n (xu a u) k j - u*Sm n (fun i=>adj n (xu a u) k i*a i j):=by
   have:Sm n (fun i=>adj n (xu a u) k i*xu a u i j)=Sm n (fun i=>(if i=j then 1 else 0)*adj n (xu a u) k i+(-u)*(adj n (xu a u) k i*a i j)):=bK (fun i _=>by
    unfold xu eM ng;generalize adj n _ k i=g;rw[Int.mul_add]
    congr 1
    ·exact Int.mul_comm _ _
    ·rw[Int.mul_neg,Int.mul_neg,Int.neg_mul,Int.mul_comm g,Int.mul_assoc,Int.mul_comm (a i j) g])
   rw[this,gz,mH n _ hj,e7,Int.neg_mul]
   rfl
  rw[e1]at h;have e2:Sm n (fun i=>adj n (xu a u) k i*a i j)=Sm (n+1) (fun m=>Sm n (fun i=>nc n a m k i*a i j)*u ^ m):=by
   rw[bK (g:=fun i=>Sm (n+1) (fun m=>nc n a m k i*a i j*u ^ m)) (fun i _=>by
    rw[wz,← jL];exact bK (fun m _=>by rw[Int.mul_assoc,Int.mul_comm (u ^ m),← Int.mul_assoc])),lE]
   exact bK (fun m _=>jL n _ _)
  have e3:u*Sm (n+1) (fun m=>Sm n (fun i=>nc n a m k i*a i j)*u ^ m)=Sm (n+2) (fun m=>(if m=0 then 0 else Sm n (fun i=>nc n a (m - 1) k i*a i j))*u ^ m):=by
   rw[← e7,← AO];refine bK (fun m _=> ?_)
   by_cases e:m=0
   ·rw[if_pos e,if_pos e,Int.zero_mul]
   ·rw[if_neg e,if_neg e]
    obtain⟨q,rfl⟩: ∃q,m=q+1:=⟨m - 1,by omega⟩;rw[Nat.add_sub_cancel,Int.pow_succ,Int.mul_comm (u ^ q) u,← Int.mul_assoc,← Int.mul_assoc,Int.mul_comm u]
  have e4:Sm (n+1) (fun m=>nc n a m k j*u ^ m)=Sm (n+2) (fun m=>nc n a m k j*u ^ m):=(nX _ (by omega) (fun i hi=>by rw[Dx n a i k j hk (by omega),Int.zero_mul])).symm;have e5:(if k=j then cl n (xu a u) else 0)=Sm (n+2) (fun m=>(if k=j then ch n a m else 0)*u ^ m):=by
   by_cases c:k=j
   ·rw[if_pos c,su]
    rw[bK (n:=n+2) (g:=fun m=>ch n a m*u ^ m) (fun m _=>by rw[if_pos c])];exact(nX _ (by omega) (fun i hi=>by rw[show ch n a i=0 from mG n _ _ (by omega),Int.zero_mul])).symm
   ·rw[if_neg c,bK (n:=n+2) (g:=fun _=>0) (fun m _=>by rw[if_neg c,Int.zero_mul]),jR]
  rw[wz,e2,e3,e4,e5]at h;have e6:Sm (n+2) (fun m=>(nc n a m k j - ((if m=0 then 0 else Sm n (fun i=>nc n a (m - 1) k i*a i j))+(if k=j then ch n a m else 0)))*u ^ m)=Sm (n+2) (fun m=>nc n a m k j*u ^ m)+((-1)*Sm (n+2) (fun m=>(if m=0 then 0 else Sm n (fun i=>nc n a (m - 1) k i*a i j))*u ^ m)+(-1)*Sm (n+2) (fun m=>(if k=j then ch n a m else 0)*u ^ m)):=by
   rw[← e7,← e7,← gz,← gz];refine bK (fun m _=> ?_);generalize nc n a m k j=x1;generalize (if m=0 then (0:Int) else _)=x2;generalize (if k=j then _ else (0:Int))=x3;generalize u ^ m=x4;rw[Int.sub_mul,Int.add_mul]
   omega
  rw[e6]
  omega
 have:=Az (n+2) _ (fun u _=>key u) m (by omega)
 omega
/-- Each column f before k that has another one, p f, to lean on: less t f times that one. -/
def fV (p:Nat→Nat) (t:Nat→Int) (m:Nat→Nat→Int) (k:Nat) (i f:Nat):Int:=if f<k∧p f≠f then m i f - t f*m i (p f) else m i f

theorem Ov (n:Nat) (p:Nat→Nat) (t:Nat→Int) (m:Nat→Nat→Int) (hp: ∀f,f<n→p f<n) (Dy: ∀f,f<n→p (p f)=p f): ∀k,k≤n→cl n (fV p t m k)=cl n m:=by
 intro k
 induction k with
 | zero=>
  intro _;refine gJ n _ _ (fun i f _ _=> ?_);unfold fV;rw[if_neg (by omega)]
 | succ k ih=>
  intro hk;have h0:=ih (by omega)
  by_cases e:p k=k
  ·rw[← h0]
   refine gJ n _ _ (fun i f _ _=> ?_);unfold fV
   by_cases c:f<k∧p f≠f
   ·rw[if_pos c,if_pos ⟨by omega,c.2⟩]
   ·rw[if_neg c,if_neg (fun z=> ?_)]
    by_cases e2:f=k
    ·exact z.2 (e2▸e)
    ·exact c ⟨by omega,z.2⟩
  ·have h1:=sx n (fV p t m k) k 1 (-t k) (fun i=>fV p t m k i k) (fun i=>fV p t m k i (p k)) (by omega)
   rw[sw,h0]at h1;have h2:cl n (cQ (fV p t m k) k (fun i=>fV p t m k i (p k)))=0:=by
    refine AL (p:=k) (q:=p k) (by omega) (hp k (by omega)) (fun z=>e z.symm) (fun i=> ?_);unfold cQ;rw[if_pos rfl,if_neg e]
   rw[h2,Int.mul_zero,Int.add_zero,Int.one_mul]at h1;rw[← h1];refine gJ n _ _ (fun i f _ _=> ?_);unfold cQ
   by_cases e2:f=k
   ·rw[if_pos e2,e2]
    have a1:fV p t m (k+1) i k=m i k - t k*m i (p k):=if_pos ⟨by omega,e⟩;have a2:fV p t m k i k=m i k:=if_neg (by omega);have a3:fV p t m k i (p k)=m i (p k):=if_neg (fun z=>z.2 (Dy k (by omega)))
    show fV p t m (k+1) i k=1*fV p t m k i k+ -t k*fV p t m k i (p k)
    rw[a1,a2,a3,Int.neg_mul]
    omega
   ·rw[if_neg e2]
    unfold fV
    by_cases c:f<k∧p f≠f
    ·rw[if_pos c,if_pos ⟨by omega,c.2⟩]
    ·rw[if_neg c,if_neg (fun z=>c ⟨by omega,z.2⟩)]

theorem GL {n:Nat} {f:Nat→Int} (h: ∀i,i<n→0≤f i) {i:Nat} (hi:i<n):f i≤Sm n f:=by
 induction n with
 | zero=>omega
 | succ n ih=>
  have h1:0≤Sm n f:=ym (fun i hi=>h i (by omega));have h2:=h n (by omega);unfold Sm
  by_cases e:i=n
  ·rw[e];omega
  ·have:=ih (fun i hi=>h i (by omega)) (by omega)
   omega

/-- The same function of u has the same coefficients. -/
theorem CS (n:Nat) (x a b:Nat→Nat→Int) (h: ∀u:Int,cl n (xu x u)=cl n (fun i k=>a i k+u*b i k)) (m:Nat):ch n x m=dc n a b m:=by
 by_cases hm:n+1≤m
 ·rw[show ch n x m=0 from mG n _ _ hm,mG n _ _ hm]
 have:=Az (n+1) (fun m=>ch n x m - dc n a b m) (fun u _=>by
  have h1:=h u;have h2:=(tO n a b).2.1 u;simp only at h2;rw[su,h2]at h1;rw[bK (g:=fun m=>ch n x m*u ^ m+(-1)*(dc n a b m*u ^ m)) (fun m _=>by grind),gz,e7]
  omega) m (by omega)
 omega

theorem Ox (n:Nat) (x a b:Nat→Nat→Int) (h: ∀u:Int,cl n (xu x u)=cl n (fun i k=>a i k+u*b i k)) (m:Nat):ab (ch n x m)≤Pr n (cs n a b):=by
 rw[CS n x a b h m]
 by_cases hm:n+1≤m
 ·rw[mG n _ _ hm]
  exact Dw (fun i _=>Aw n a b i)
 ·exact Int.le_trans (GL (f:=fun i=>ab (dc n a b i)) (fun i _=>kU _) (by omega)) (tO n a b).2.2

/-- The columns behind the steps, of 1 - u x. -/
theorem GN (n:Nat) (p:Nat→Nat) (t:Nat→Int) (x:Nat→Nat→Int) (hp: ∀f,f<n→p f<n) (Dy: ∀f,f<n→p (p f)=p f) (m:Nat):ab (ch n x m)≤Pr n (cs n (fV p t eM n) (fV p t (ng x) n)):=by
 refine Ox n x _ _ (fun u=> ?_) m;rw[← Ov n p t (xu x u) hp Dy n (Nat.le_refl _)];refine gJ n _ _ (fun i f _ hf=> ?_);unfold fV xu
 by_cases c:f<n∧p f≠f
 ·rw[if_pos c,if_pos c,if_pos c]
  grind
 ·rw[if_neg c,if_neg c,if_neg c]

/-- A product of factors, 20 at at most eight places, else 4. -/
theorem GR (n:Nat) (q:Nat→Bool):Pr n (fun i=>if q i then 20 else 4)=4 ^ n*5 ^ (Sm n (fun i=>if q i then 1 else 0)).toNat∧0≤Sm n (fun i=>if q i then 1 else 0):=by
 induction n with
 | zero=>exact⟨rfl,Int.le_refl _⟩
 | succ n ih=>
  obtain⟨h1,h2⟩:=ih;unfold Pr Sm;rw[h1];simp only
  by_cases c:q n=true
  ·rw[if_pos c,if_pos c]
   refine⟨?_,by omega⟩;rw[show(Sm n (fun i=>if q i then 1 else 0)+1).toNat=(Sm n (fun i=>if q i then 1 else 0)).toNat+1 by omega,Int.pow_succ,Int.pow_succ];generalize (4:Int) ^ n=x;generalize (5:Int) ^ _=y
   grind
  ·rw[if_neg c,if_neg c,Int.add_zero]
   refine⟨?_,h2⟩;rw[Int.pow_succ];generalize (4:Int) ^ n=x;generalize (5:Int) ^ _=y
   grind
theorem HN {d e:Nat} (f:Nat→Int) (vW:d≤e) (h: ∀i,i<e→d≤i→f i=0):Sm e f=Sm d f:=by
 induction e with
 | zero=>rw[show d=0 by omega]
 | succ e ih=>
  by_cases c:d=e+1
  ·rw[c]
  ·show Sm e f+f e=_
   rw[ih (by omega) (fun i hi hd=>h i (by omega) hd),h e (by omega) (by omega),Int.add_zero]

theorem Dz (a b:Nat) (f:Nat→Int):Sm (a+b) f=Sm a f+Sm b (fun i=>f (a+i)):=by
 induction b with
 | zero=>show Sm a f=Sm a f+0;omega
 | succ b ih=>
  show Sm (a+b) f+f (a+b)=Sm a f+(Sm b (fun i=>f (a+i))+f (a+b))
  rw[ih];omega

/-- More columns than rows that are not zero. -/
theorem Oy: ∀(N:Nat) (m:Nat→Nat→Int) (r s:Nat),r<s→s≤N→(∀i k,i<N→k<s→r≤i→m i k=0)→cl N m=0:=by
 intro N
 induction N with
 | zero=>intro m r s h1 h2 _;omega
 | succ N ih=>
  intro m r s h1 h2 h
  by_cases hr:r=0
  ·subst hr
   have e:cl (N+1) m=cl (N+1) (cQ m 0 (fun _=>0)):=by
    refine gJ _ _ _ (fun i k hi hk=> ?_);unfold cQ
    by_cases c:k=0
    ·rw[if_pos c];exact h i k hi (by omega) (by omega)
    ·rw[if_neg c]
   rw[e,Dt _ _ _ (by omega)]
  ·show Sm (N+1) (fun j=>sg j*m 0 j*cl N (minor m j))=0
   rw[bK (g:=fun _=>0) (fun j hj=> ?_),jR]
   by_cases c:j<s
   ·by_cases hs:s=N+1
    ·rw[ih (minor m j) (r - 1) (s - 1) (by omega) (by omega) (fun i k hi hk hr'=> ?_),Int.mul_zero]
     unfold minor
     split
     ·exact h _ _ (by omega) (by omega) (by omega)
     ·exact h _ _ (by omega) (by omega) (by omega)
    ·rw[ih (minor m j) (r - 1) (s - 1) (by omega) (by omega) (fun i k hi hk hr'=> ?_),Int.mul_zero]
     unfold minor
     split
     ·exact h _ _ (by omega) (by omega) (by omega)
     ·exact h _ _ (by omega) (by omega) (by omega)
   ·rw[ih (minor m j) (r - 1) s (by omega) (by omega) (fun i k hi hk hr'=> ?_),Int.mul_zero]
    unfold minor;rw[if_pos (by omega)];exact h _ _ (by omega) (by omega) (by omega)

/-- Zero to the right above. -/
theorem HP: ∀(p q:Nat) (m:Nat→Nat→Int),(∀i k,i<p→p≤k→k<p+q→m i k=0)→cl (p+q) m=cl p m*cl q (fun i k=>m (p+i) (p+k)):=by
 intro p
 induction p with
 | zero=>
  intro q m _
  show _=1*_
  rw[Int.one_mul,Nat.zero_add];exact gJ _ _ _ (fun i k _ _=>by rw[Nat.zero_add,Nat.zero_add])
 | succ p ih=>
  intro q m h;rw[show p+1+q=p+q+1 by omega]
  show Sm (p+q+1) (fun j=>sg j*m 0 j*cl (p+q) (minor m j))=Sm (p+1) (fun j=>sg j*m 0 j*cl p (minor m j))*_
  rw[HN (d:=p+1) _ (by omega) (fun i hi hd=>by rw[h 0 i (by omega) hd (by omega),Int.mul_zero,Int.zero_mul]),← jL];refine bK (fun j hj=> ?_);rw[ih q (minor m j) (fun i k hi hk hk2=> ?_),← Int.mul_assoc]
  ·congr 1
   refine gJ _ _ _ (fun i k _ _=> ?_);unfold minor;rw[if_neg (by omega),show p+i+1=p+1+i by omega,show p+k+1=p+1+k by omega]
  ·unfold minor
   rw[if_neg (by omega)];exact h _ _ (by omega) (by omega) (by omega)

/-- Zero to the left below. -/
theorem HQ: ∀(p q:Nat) (m:Nat→Nat→Int),(∀i k,p≤i→i<p+q→k<p→m i k=0)→cl (p+q) m=cl p m*cl q (fun i k=>m (p+i) (p+k)):=by
 intro p
 induction p with
 | zero=>
  intro q m _
  show _=1*_
  rw[Int.one_mul,Nat.zero_add];exact gJ _ _ _ (fun i k _ _=>by rw[Nat.zero_add,Nat.zero_add])
 | succ p ih=>
  intro q m h;rw[show p+1+q=p+q+1 by omega]
  show Sm (p+q+1) (fun j=>sg j*m 0 j*cl (p+q) (minor m j))=Sm (p+1) (fun j=>sg j*m 0 j*cl p (minor m j))*_
  rw[HN (d:=p+1) _ (by omega) (fun j hj hd=> ?_),← jL]
  ·refine bK (fun j hj=> ?_)
   rw[ih q (minor m j) (fun i k hi hi2 hk=> ?_),← Int.mul_assoc]
   ·congr 1
    refine gJ _ _ _ (fun i k _ _=> ?_);unfold minor;rw[if_neg (by omega),show p+i+1=p+1+i by omega,show p+k+1=p+1+k by omega]
   ·unfold minor
    split
    ·exact h _ _ (by omega) (by omega) (by omega)
    ·exact h _ _ (by omega) (by omega) (by omega)
  ·rw[Oy (p+q) (minor m j) p (p+1) (by omega) (by omega) (fun i k hi hk hr=> ?_),Int.mul_zero]
   unfold minor;rw[if_pos (by omega)];exact h _ _ (by omega) (by omega) (by omega)

/-- Each column before k that is marked: s times itself and some of the columns that are not marked. -/
def iN (N:Nat) (p:Nat→Bool) (s:Int) (t:Nat→Nat→Int) (m:Nat→Nat→Int) (k:Nat) (i c:Nat):Int:=
 if c<k∧p c=true then s*m i c+Sm N (fun d=>(if p d then 0 else t c d)*m i d) else m i c

def marked (p:Nat→Bool):Nat→Nat
 | 0=>0
 | k+1=>marked p k+if p k then 1 else 0

theorem DA (N:Nat) (p:Nat→Bool) (s:Int) (t:Nat→Nat→Int) (m:Nat→Nat→Int): ∀k,k≤N→cl N (iN N p s t m k)=s ^ marked p k*cl N m:=by
 intro k
 induction k with
 | zero=>
  intro _
  show _=s ^ 0*_
  rw[Int.pow_zero,Int.one_mul];refine gJ N _ _ (fun i f _ _=> ?_);unfold iN;rw[if_neg (by omega)]
 | succ k ih=>
  intro hk;have h0:=ih (by omega)
  by_cases e:p k=true
  ·have hs:=Dv N (iN N p s t m k) k (by omega) (fun d=>if p d then 0 else t k d) (fun d i=>iN N p s t m k i d) N
   have hz:Sm N (fun d=>(if p d then 0 else t k d)*cl N (cQ (iN N p s t m k) k (fun i=>iN N p s t m k i d)))=0:=by
    rw[bK (g:=fun _=>0) (fun d hd=> ?_),jR]
    by_cases c:p d=true
    ·rw[if_pos c,Int.zero_mul]
    ·have U7:d≠k:=fun z=>c (z▸e)
     rw[AL (p:=k) (q:=d) (by omega) hd (fun z=>U7 z.symm) (fun i=> ?_),Int.mul_zero];unfold cQ;rw[if_pos rfl,if_neg U7]
   rw[hz]at hs;have h1:=sx N (iN N p s t m k) k s 1 (fun i=>iN N p s t m k i k) (fun r=>Sm N (fun d=>(if p d then 0 else t k d)*iN N p s t m k r d)) (by omega);rw[sw,hs,h0,Int.mul_zero,Int.add_zero]at h1;rw[show marked p (k+1)=marked p k+1 from by show _+(if p k then 1 else 0)=_;rw[if_pos e],Int.pow_succ,Int.mul_comm (s ^ marked p k) s,Int.mul_assoc,← h1];refine gJ N _ _ (fun i f _ hf=> ?_);unfold cQ
   by_cases e2:f=k
   ·rw[if_pos e2,e2]
    have a1:iN N p s t m (k+1) i k=s*m i k+Sm N (fun d=>(if p d then 0 else t k d)*m i d):=if_pos ⟨by omega,e⟩;have a2:iN N p s t m k i k=m i k:=if_neg (by omega)
    show iN N p s t m (k+1) i k=s*iN N p s t m k i k+1*Sm N (fun d=>(if p d then 0 else t k d)*iN N p s t m k i d)
    rw[a1,a2,Int.one_mul]
    congr 1
    refine bK (fun d hd=> ?_)
    by_cases c:p d=true
    ·rw[if_pos c,Int.zero_mul,Int.zero_mul]
    ·rw[show iN N p s t m k i d=m i d from if_neg (fun z=>c z.2)]
   ·rw[if_neg e2]
    unfold iN
    by_cases c:f<k∧p f=true
    ·rw[if_pos c,if_pos ⟨by omega,c.2⟩]
    ·rw[if_neg c,if_neg (fun z=>c ⟨by omega,z.2⟩)]
  ·rw[show marked p (k+1)=marked p k from by show _+(if p k then 1 else 0)=_;rw[if_neg e];rfl,← h0]
   refine gJ N _ _ (fun i f _ _=> ?_);unfold iN
   by_cases c:f<k∧p f=true
   ·rw[if_pos c,if_pos ⟨by omega,c.2⟩]
   ·rw[if_neg c,if_neg (fun z=> ?_)]
    by_cases e2:f=k
    ·exact e (e2▸z.2)
    ·exact c ⟨by omega,z.2⟩

theorem Oz (n:Nat): ∀k,marked (fun c=>decide (n≤c)) k=k - n:=by
 intro k
 induction k with
 | zero=>simp[marked]
 | succ k ih=>
  show marked _ k+(if decide (n≤k)=true then 1 else 0)=_
  rw[ih]
  by_cases c:n≤k
  ·rw[if_pos (decide_eq_true c)];omega
  ·rw[if_neg (show ¬decide (n≤k)=true by simp;omega)];omega

/-- x times the unit. -/
def gK (x:Int) (i k:Nat):Int:=if i=k then x else 0

theorem DB (x:Int): ∀n,cl n (gK x)=x ^ n:=by
 intro n
 induction n with
 | zero=>exact(Int.pow_zero x).symm
 | succ n ih=>
  have h:=HP n 1 (gK x) (fun i k hi hk _=>by unfold gK;rw[if_neg (by omega)]);rw[h,ih,Int.pow_succ]
  congr 1
  show 0+1*(if n+0=n+0 then x else 0)*1=x
  rw[if_pos rfl]
  omega

/-- x 1 beside X above, E beside 1 below. -/
def bl (n:Nat) (x:Int) (X E:Nat→Nat→Int) (i k:Nat):Int:=
 if i<n then (if k<n then gK x i k else X i (k - n)) else (if k<n then E (i - n) k else gK 1 (i - n) (k - n))

theorem Ax (N:Nat) (f:Nat→Int) (x:Int) {p:Nat} (hp:p<N):Sm N (fun d=>f d*gK x d p)=f p*x:=by
 rw[bK (g:=fun d=>(if d=p then 1 else 0)*(f d*x)) (fun d _=> ?_)]
 ·exact mH N (fun d=>f d*x) hp
 ·unfold gK
  by_cases c:d=p
  ·rw[if_pos c,if_pos c,Int.one_mul]
  ·rw[if_neg c,if_neg c,Int.zero_mul,Int.mul_zero]

theorem DC (N:Nat) (f:Nat→Int) (x:Int) {p:Nat} (hp:p<N):Sm N (fun d=>f d*gK x p d)=f p*x:=by
 rw[← Ax N f x hp];exact bK (fun d _=>by
  unfold gK
  by_cases c:p=d
  ·rw[if_pos c,if_pos c.symm]
  ·rw[if_neg c,if_neg (fun z=>c z.symm)])

/-- The left columns less those to the right: below all is zero. -/
theorem OA (n q:Nat) (x:Int) (X E:Nat→Nat→Int):cl (n+q) (bl n x X E)=cl n (fun i k=>gK x i k - Sm q (fun e=>X i e*E e k)):=by
 have h:=DA (n+q) (fun c=>decide (c<n)) 1 (fun c d=> -(E (d - n) c)) (bl n x X E) (n+q) (Nat.le_refl _);rw[Int.one_pow,Int.one_mul]at h;rw[← h];have cell: ∀i k,k<n→iN (n+q) (fun c=>decide (c<n)) 1 (fun c d=> -(E (d - n) c)) (bl n x X E) (n+q) i k=bl n x X E i k - Sm q (fun e=>bl n x X E i (n+e)*E e k):=by
  intro i k hk;unfold iN;rw[if_pos ⟨by omega,decide_eq_true hk⟩,Int.one_mul,Dz];rw[bK (n:=n) (g:=fun _=>0) (fun d hd=>by rw[if_pos (decide_eq_true hd),Int.zero_mul]),jR,Int.zero_add];rw[bK (n:=q) (g:=fun e=>(-1)*(bl n x X E i (n+e)*E e k)) (fun e _=>by
   rw[if_neg (show ¬decide (n+e<n)=true by simp)]
   show -(E (n+e - n) k)*_=_
   rw[Nat.add_sub_cancel_left]
   grind),e7]
  omega
 rw[HQ n q _ (fun i k hi hi2 hk=> ?_)]
 ·have e1:cl q (fun i k=>iN (n+q) (fun c=>decide (c<n)) 1 (fun c d=> -(E (d - n) c)) (bl n x X E) (n+q) (n+i) (n+k))=1:=by
   rw[← Int.one_pow (n:=q),← DB 1 q];refine gJ q _ _ (fun i k _ _=> ?_);unfold iN;rw[if_neg (fun z=>by have:=of_decide_eq_true z.2;omega)];unfold bl;rw[if_neg (by omega),if_neg (by omega),Nat.add_sub_cancel_left,Nat.add_sub_cancel_left]
  rw[e1,Int.mul_one];refine gJ n _ _ (fun i k hi hk=> ?_);rw[cell i k hk]
  congr 1
  ·unfold bl;rw[if_pos hi,if_pos hk]
  ·refine bK (fun e _=> ?_)
   unfold bl;rw[if_pos hi,if_neg (by omega),Nat.add_sub_cancel_left]
 ·rw[cell i k hk]
  have e2:Sm q (fun e=>bl n x X E i (n+e)*E e k)=E (i - n) k*1:=by
   rw[← DC q (fun e=>E e k) 1 (p:=i - n) (by omega)];refine bK (fun e _=> ?_);unfold bl;rw[if_neg (by omega),if_neg (by omega),Nat.add_sub_cancel_left,Int.mul_comm]
  rw[e2];unfold bl;rw[if_neg (by omega),if_pos hk]
  omega

/-- x times the right columns less those to the left: above all is zero. -/
theorem OB (n q:Nat) (x:Int) (X E:Nat→Nat→Int):x ^ q*cl (n+q) (bl n x X E)=x ^ n*cl q (fun i k=>gK x i k - Sm n (fun v=>E i v*X v k)):=by
 have h:=DA (n+q) (fun c=>decide (n≤c)) x (fun c d=> -(X d (c - n))) (bl n x X E) (n+q) (Nat.le_refl _);rw[Oz,Nat.add_sub_cancel_left]at h;rw[← h];have cell: ∀i k,k<q→iN (n+q) (fun c=>decide (n≤c)) x (fun c d=> -(X d (c - n))) (bl n x X E) (n+q) i (n+k)=x*bl n x X E i (n+k) - Sm n (fun v=>bl n x X E i v*X v k):=by
  intro i k hk;unfold iN;rw[if_pos ⟨by omega,decide_eq_true (by omega)⟩,Dz];rw[bK (n:=q) (g:=fun _=>0) (fun d hd=>by rw[if_pos (decide_eq_true (by omega)),Int.zero_mul]),jR,Int.add_zero];rw[bK (n:=n) (g:=fun v=>(-1)*(bl n x X E i v*X v k)) (fun v hv=>by
   rw[if_neg (show ¬decide (n≤v)=true by simp;omega)]
   show -(X v (n+k - n))*_=_
   rw[Nat.add_sub_cancel_left]
   grind),e7]
  omega
 rw[HP n q _ (fun i k hi hk hk2=> ?_)]
 ·have e1:cl n (iN (n+q) (fun c=>decide (n≤c)) x (fun c d=> -(X d (c - n))) (bl n x X E) (n+q))=x ^ n:=by
   rw[← DB x n];refine gJ n _ _ (fun i k hi hk=> ?_);unfold iN;rw[if_neg (fun z=>by have:=of_decide_eq_true z.2;omega)];unfold bl;rw[if_pos hi,if_pos hk]
  rw[e1]
  congr 1
  refine gJ q _ _ (fun i k hi hk=> ?_);rw[cell (n+i) k hk]
  congr 1
  ·unfold bl gK
   rw[if_neg (by omega),if_neg (by omega),Nat.add_sub_cancel_left,Nat.add_sub_cancel_left]
   split
   ·omega
   ·omega
  ·refine bK (fun v hv=> ?_)
   unfold bl;rw[if_neg (by omega),if_pos hv,Nat.add_sub_cancel_left]
 ·obtain⟨k',rfl⟩: ∃k',k=n+k':=⟨k - n,by omega⟩
  rw[cell i k' (by omega)];have e2:Sm n (fun v=>bl n x X E i v*X v k')=X i k'*x:=by
   rw[← DC n (fun v=>X v k') x (p:=i) hi];refine bK (fun v hv=> ?_);unfold bl;rw[if_pos hi,if_pos hv,Int.mul_comm]
  rw[e2];unfold bl;rw[if_pos hi,if_neg (by omega),Nat.add_sub_cancel_left]
  grind

/-- The two orders of a product. -/
theorem HS (n q:Nat) (x:Int) (X E:Nat→Nat→Int):x ^ q*cl n (fun i k=>gK x i k - Sm q (fun e=>X i e*E e k))=x ^ n*cl q (fun i k=>gK x i k - Sm n (fun v=>E i v*X v k)):=by
 rw[← OA,OB]
/-- How many columns below c the set has. -/
def dn (t:Nat):Nat→Nat
 | 0=>0
 | c+1=>dn t c+if t.testBit c then 1 else 0

theorem DD (t:Nat) {c d:Nat} (h:c≤d):dn t c≤dn t d:=by
 induction d with
 | zero=>rw[show c=0 by omega];exact Nat.le_refl _
 | succ d ih=>
  by_cases e:c=d+1
  ·rw[e];exact Nat.le_refl _
  ·have:=ih (by omega)
   show dn t c≤dn t d+(if t.testBit d then 1 else 0)
   omega

theorem HT (t c:Nat):dn t c≤c:=by
 induction c with
 | zero=>exact Nat.le_refl _
 | succ c ih=>
  unfold dn
  split<;>omega

/-- How many columns above c the set has. -/
def iK (n t c:Nat):Nat:=dn t n - dn t (c+1)

/-- The set's columns in falling order. -/
def desc (t:Nat):Nat→List Nat
 | 0=>[]
 | c+1=>if t.testBit c then c :: desc t c else desc t c

theorem OC (n:Nat) (f:Nat→Int):Sm (n+1) f=Sm n f+f n:=rfl

theorem OD (t:Nat): ∀(n:Nat) (f:Nat→Nat→Int),Sm n (fun c=>if t.testBit c then f (iK n t c) c else 0)=Sm (dn t n) (fun j=>f j ((desc t n).getD j 0)):=by
 intro n
 induction n with
 | zero=>intro f;rfl
 | succ n ih=>
  intro f;rw[OC];unfold iK desc
  by_cases b:t.testBit n=true
  ·have hp:dn t (n+1)=dn t n+1:=by
    show dn t n+(if t.testBit n=true then 1 else 0)=_
    rw[if_pos b]
   rw[if_pos b,if_pos b,hp,Nat.sub_self,r9];have h1:=ih (fun j c=>f (j+1) c);rw[show Sm n (fun c=>if t.testBit c=true then f (dn t n+1 - dn t (c+1)) c else 0)=Sm n (fun c=>if t.testBit c=true then f (iK n t c+1) c else 0) from bK (fun c hc=>by
    have:=DD t (show c+1≤n by omega);rw[show dn t n+1 - dn t (c+1)=iK n t c+1 by unfold iK;omega]),h1]
   simp only[List.getD_cons_zero,List.getD_cons_succ]
   omega
  ·have hp:dn t (n+1)=dn t n:=by
    show dn t n+(if t.testBit n=true then 1 else 0)=_
    rw[if_neg b];rfl
   rw[if_neg b,if_neg b,hp,Int.add_zero];exact ih f

theorem OE {t s:Nat}: ∀n,(∀d,d<n→t.testBit d=s.testBit d)→desc t n=desc s n∧dn t n=dn s n:=by
 intro n
 induction n with
 | zero=>intro _;exact⟨rfl,rfl⟩
 | succ n ih=>
  intro h;obtain⟨h1,h2⟩:=ih (fun d hd=>h d (by omega));unfold desc dn;rw[h n (by omega),h1,h2];exact⟨rfl,rfl⟩

/-- One column left out. -/
theorem DE {t s c:Nat} (hc:t.testBit c=true) (h: ∀d,s.testBit d=(t.testBit d && d != c)): ∀n,c<n→desc s n=(desc t n).eraseIdx (iK n t c)∧dn s n+1=dn t n:=by
 intro n
 induction n with
 | zero=>intro hn;omega
 | succ n ih=>
  intro hn
  by_cases e:c=n
  ·subst e
   have h0:s.testBit c=false:=by rw[h c];simp
   obtain⟨h1,h2⟩:=OE (t:=s) (s:=t) c (fun d hd=>by rw[h d];simp;omega);unfold iK desc dn;rw[Nat.sub_self,hc,h0,h1,h2];exact⟨rfl,rfl⟩
  ·obtain⟨h1,h2⟩:=ih (by omega)
   have h3:s.testBit n=t.testBit n:=by rw[h n];simp;omega
   have hm:=DD t (show c+1≤n by omega);have hb:iK (n+1) t c=iK n t c+if t.testBit n=true then 1 else 0:=by
    unfold iK;rw[show dn t (n+1)=dn t n+if t.testBit n=true then 1 else 0 from rfl]
    omega
   rw[hb,show desc s (n+1)=if s.testBit n then n :: desc s n else desc s n from rfl,show desc t (n+1)=if t.testBit n then n :: desc t n else desc t n from rfl,show dn s (n+1)=dn s n+(if s.testBit n then 1 else 0) from rfl,show dn t (n+1)=dn t n+(if t.testBit n then 1 else 0) from rfl,h3,h1]
   by_cases b:t.testBit n=true
   ·rw[if_pos b,if_pos b,if_pos b]
    exact⟨rfl,by omega⟩
   ·rw[if_neg b,if_neg b,if_neg b]
    exact⟨rfl,by omega⟩

theorem OG (l:List Nat) (j k:Nat):(l.eraseIdx j).getD k 0=l.getD (if k<j then k else k+1) 0:=by
 rw[List.getD_eq_getElem?_getD,List.getD_eq_getElem?_getD,List.getElem?_eraseIdx]
 split<;>rfl

/-- The set without a column. -/
def er (t c:Nat):Nat:=t - 2 ^ c

section
variable (n:Nat) (b0 b1 b2:Nat→Nat→Int)

/-- A polynomial times another one with three coefficients. -/
def lY (x y z:Int) (a:Nat→Int) (i:Nat):Int:=lI x y a i+lI 0 1 (lI 0 z a) i

/-- The coefficients of the determinant of the r first rows over a set. -/
def lF:Nat→Nat→Nat→Int
 | 0,_=>fun i=>if i=0 then 1 else 0
 | r+1,t=>fun i=>Sm n (fun c=>if t.testBit c then sg (iK n t c)*lY (b0 r c) (b1 r c) (b2 r c) (lF r (er t c)) i else 0)

def vu (u:Int) (r c:Nat):Int:=b0 r c+u*b1 r c+u*u*b2 r c

def tK (u:Int):Nat→Nat→Int
 | 0,_=>1
 | r+1,t=>Sm n (fun c=>if t.testBit c then sg (iK n t c)*(vu b0 b1 b2 u r c*tK u r (er t c)) else 0)

/-- Coefficients without a bound. -/
def Cf (d:Nat) (c:Nat→Int) (f:Int→Int):Prop:=iB d (Sm d (fun i=>ab (c i))) c f

theorem Cf.of {d:Nat} {B:Int} {c:Nat→Int} {f:Int→Int} (h:iB d B c f):Cf d c f:=⟨h.1,h.2.1,Int.le_refl _⟩

theorem Cf.scale {d:Nat} {c:Nat→Int} {f:Int→Int} (h:Cf d c f) (s:Int):Cf d (fun i=>s*c i) (fun u=>s*f u):=by
 refine⟨fun i hi=> ?_,fun u=> ?_,Int.le_refl _⟩
 ·show s*c i=0
  rw[h.1 i hi,Int.mul_zero]
 ·show s*f u=_
  rw[h.2.1 u,← e7];exact bK (fun i _=>(Int.mul_assoc _ _ _).symm)

theorem Cf.lY {d:Nat} {c:Nat→Int} {f:Int→Int} (h:Cf d c f) (x y z:Int):Cf (d+2) (lY x y z c) (fun u=>(x+u*y+u*u*z)*f u):=by
 have h1:=Cf.of ((iB.AP h x y).more (show d+1≤d+2 by omega));have h2:=Cf.of (iB.AP (iB.AP h 0 z) 0 1);have h3:=Cf.of (iB.add h1 h2);refine⟨h3.1,fun u=> ?_,Int.le_refl _⟩;have h4:=h3.2.1 u
 show(x+u*y+u*u*z)*f u=_
 rw[show(x+u*y+u*u*z)*f u=(x+u*y)*f u+(0+u*1)*((0+u*z)*f u) by grind];exact h4

theorem L8: ∀r t,Cf (2*r+1) (lF n b0 b1 b2 r t) (fun u=>tK n b0 b1 b2 u r t):=by
 intro r
 induction r with
 | zero=>intro t;exact Cf.of iB.one
 | succ r ih=>
  intro t;refine Cf.of (iB.sum n (fun c=>Sm (2*(r+1)+1) (fun i=>ab (if t.testBit c then sg (iK n t c)*lY (b0 r c) (b1 r c) (b2 r c) (lF n b0 b1 b2 r (er t c)) i else 0))) (fun c i=>if t.testBit c then sg (iK n t c)*lY (b0 r c) (b1 r c) (b2 r c) (lF n b0 b1 b2 r (er t c)) i else 0) (fun c u=>if t.testBit c then sg (iK n t c)*(vu b0 b1 b2 u r c*tK n b0 b1 b2 u r (er t c)) else 0) (fun c _=> ?_))
  by_cases b:t.testBit c=true
  ·simp only[if_pos b]
   exact Cf.scale (Cf.lY (ih (er t c)) _ _ _) _
  ·simp only[if_neg b]
   exact Cf.of (iB.zero _)

/-- The value is a determinant: rows and columns in falling order. -/
theorem L9 (u:Int) (U7: ∀t c d,t<2 ^ n→c<n→t.testBit c=true→(er t c).testBit d=(t.testBit d && d != c)): ∀(r t:Nat),t<2 ^ n→dn t n=r→tK n b0 b1 b2 u r t=cl r (fun i k=>vu b0 b1 b2 u (r - 1 - i) ((desc t n).getD k 0)):=by
 intro r
 induction r with
 | zero=>intro t _ _;rfl
 | succ r ih=>
  intro t ht hp
  show Sm n (fun c=>if t.testBit c then sg (iK n t c)*(vu b0 b1 b2 u r c*tK n b0 b1 b2 u r (er t c)) else 0)=_
  have e: ∀c,c<n→(if t.testBit c then sg (iK n t c)*(vu b0 b1 b2 u r c*tK n b0 b1 b2 u r (er t c)) else 0)=(if t.testBit c then (fun j c=>sg j*vu b0 b1 b2 u r c*cl r (fun i k=>vu b0 b1 b2 u (r - 1 - i) (((desc t n).eraseIdx j).getD k 0))) (iK n t c) c else 0):=by
   intro c hc
   by_cases b:t.testBit c=true
   ·rw[if_pos b,if_pos b]
    obtain⟨h1,h2⟩:=DE b (fun d=>U7 t c d ht hc b) n hc;rw[ih (er t c) (Nat.lt_of_le_of_lt (Nat.sub_le t (2 ^ c)) ht) (by omega),h1];exact(Int.mul_assoc _ _ _).symm
   ·rw[if_neg b,if_neg b]
  rw[bK e,OD t n (fun j c=>sg j*vu b0 b1 b2 u r c*cl r (fun i k=>vu b0 b1 b2 u (r - 1 - i) (((desc t n).eraseIdx j).getD k 0))),hp]
  show _=Sm (r+1) (fun j=>_)
  refine bK (fun j _=> ?_)
  congr 1
  refine gJ r _ _ (fun i k hi hk=> ?_);unfold minor
  show vu b0 b1 b2 u (r - 1 - i) _=vu b0 b1 b2 u (r+1 - 1 - (i+1)) _
  rw[OG,show r+1 - 1 - (i+1)=r - 1 - i by omega]

theorem G0 (t:Nat): ∀m,(∀d,d<m→t.testBit d=true)→dn t m=m∧∀k,k<m→(desc t m).getD k 0=m - 1 - k:=by
 intro m
 induction m with
 | zero=>intro _;exact⟨rfl,fun k hk=>by omega⟩
 | succ m ih=>
  intro h;obtain⟨h1,h2⟩:=ih (fun d hd=>h d (by omega));have hm:=h m (by omega);unfold desc dn;rw[if_pos hm,if_pos hm,h1];refine⟨rfl,fun k hk=> ?_⟩;cases k with
  | zero=>rw[List.getD_cons_zero];omega
  | succ k=>rw[List.getD_cons_succ,h2 k (by omega)];omega

end

/-- Rows and columns in falling order leave the determinant. -/
theorem Mc (n:Nat) (m:Nat→Nat→Int):cl n (fun i k=>m (n - 1 - i) (n - 1 - k))=cl n m:=by
 have h:=HS n n 1 (fun i e=>gK 1 (n - 1 - i) e - m (n - 1 - i) e) (fun e k=>gK 1 (n - 1 - e) k);rw[Int.one_pow,Int.one_mul,Int.one_mul]at h;rw[gJ n (fun i k=>m (n - 1 - i) (n - 1 - k)) (fun i k=>gK 1 i k - Sm n (fun e=>(gK 1 (n - 1 - i) e - m (n - 1 - i) e)*gK 1 (n - 1 - e) k)) (fun i k hi hk=> ?_),h]
 ·refine gJ n _ _ (fun i k hi hk=> ?_)
  rw[bK (n:=n) (g:=fun v=>(gK 1 (n - 1 - v) k - m (n - 1 - v) k)*gK 1 v (n - 1 - i)) (fun v hv=>by
   rw[Int.mul_comm]
   congr 1
   unfold gK
   by_cases c:v=n - 1 - i
   ·rw[if_pos c,if_pos (by omega)]
   ·rw[if_neg c,if_neg (by omega)]),Ax n _ 1 (by omega),show n - 1 - (n - 1 - i)=i by omega]
  omega
 ·rw[bK (n:=n) (g:=fun e=>(gK 1 (n - 1 - i) e - m (n - 1 - i) e)*gK 1 e (n - 1 - k)) (fun v hv=>by
   congr 1
   unfold gK
   by_cases c:v=n - 1 - k
   ·rw[if_pos c,if_pos (by omega)]
   ·rw[if_neg c,if_neg (by omega)]),Ax n _ 1 (by omega)]
  have e:gK 1 (n - 1 - i) (n - 1 - k)=gK 1 i k:=by
   unfold gK
   by_cases c:i=k
   ·rw[if_pos c,if_pos (by omega)]
   ·rw[if_neg c,if_neg (by omega)]
  rw[e]
  omega

/-- P beside X above, E beside 1 below. -/
def bq (n:Nat) (P X E:Nat→Nat→Int) (i k:Nat):Int:=
 if i<n then (if k<n then P i k else X i (k - n)) else (if k<n then E (i - n) k else gK 1 (i - n) (k - n))

/-- The left columns less those to the right: below all is zero. -/
theorem L7 (n q:Nat) (P X E:Nat→Nat→Int):cl (n+q) (bq n P X E)=cl n (fun i k=>P i k - Sm q (fun e=>X i e*E e k)):=by
 have h:=DA (n+q) (fun c=>decide (c<n)) 1 (fun c d=> -(E (d - n) c)) (bq n P X E) (n+q) (Nat.le_refl _);rw[Int.one_pow,Int.one_mul]at h;rw[← h];have cell: ∀i k,k<n→iN (n+q) (fun c=>decide (c<n)) 1 (fun c d=> -(E (d - n) c)) (bq n P X E) (n+q) i k=bq n P X E i k - Sm q (fun e=>bq n P X E i (n+e)*E e k):=by
  intro i k hk;unfold iN;rw[if_pos ⟨by omega,decide_eq_true hk⟩,Int.one_mul,Dz];rw[bK (n:=n) (g:=fun _=>0) (fun d hd=>by rw[if_pos (decide_eq_true hd),Int.zero_mul]),jR,Int.zero_add];rw[bK (n:=q) (g:=fun e=>(-1)*(bq n P X E i (n+e)*E e k)) (fun e _=>by
   rw[if_neg (show ¬decide (n+e<n)=true by simp)]
   show -(E (n+e - n) k)*_=_
   rw[Nat.add_sub_cancel_left]
   grind),e7]
  omega
 rw[HQ n q _ (fun i k hi hi2 hk=> ?_)]
 ·have e1:cl q (fun i k=>iN (n+q) (fun c=>decide (c<n)) 1 (fun c d=> -(E (d - n) c)) (bq n P X E) (n+q) (n+i) (n+k))=1:=by
   rw[← Int.one_pow (n:=q),← DB 1 q];refine gJ q _ _ (fun i k _ _=> ?_);unfold iN;rw[if_neg (fun z=>by have:=of_decide_eq_true z.2;omega)];unfold bq;rw[if_neg (by omega),if_neg (by omega),Nat.add_sub_cancel_left,Nat.add_sub_cancel_left]
  rw[e1,Int.mul_one];refine gJ n _ _ (fun i k hi hk=> ?_);rw[cell i k hk]
  congr 1
  ·unfold bq;rw[if_pos hi,if_pos hk]
  ·refine bK (fun e _=> ?_)
   unfold bq;rw[if_pos hi,if_neg (by omega),Nat.add_sub_cancel_left]
 ·rw[cell i k hk]
  have e2:Sm q (fun e=>bq n P X E i (n+e)*E e k)=E (i - n) k*1:=by
   rw[← DC q (fun e=>E e k) 1 (p:=i - n) (by omega)];refine bK (fun e _=> ?_);unfold bq;rw[if_neg (by omega),if_neg (by omega),Nat.add_sub_cancel_left,Int.mul_comm]
  rw[e2];unfold bq;rw[if_neg (by omega),if_pos hk]
  omega
theorem DF (t c:Nat) (ht:t<256) (hc:c<8):Go.bits .and .i64 (shr .i64 (t:Int) (c:Int)) 1=if t.testBit c then 1 else 0:=by
 have: ∀(t:Fin 256) (c:Fin 8),Go.bits .and .i64 (shr .i64 ((t.val:Nat):Int) ((c.val:Nat):Int)) 1=if t.val.testBit c.val then 1 else 0:=by decide+kernel
 exact this ⟨t,ht⟩ ⟨c,hc⟩

theorem HU (t c:Nat) (ht:t<256) (hc:c<8) (hb:t.testBit c=false):Go.bits .or .i64 (t:Int) (shl .i64 1 (c:Int))=((t+2 ^ c:Nat):Int)∧(t+2 ^ c).testBit c=true:=by
 have: ∀(t:Fin 256) (c:Fin 8),t.val.testBit c.val=false→Go.bits .or .i64 ((t.val:Nat):Int) (shl .i64 1 ((c.val:Nat):Int))=((t.val+2 ^ c.val:Nat):Int)∧(t.val+2 ^ c.val).testBit c.val=true:=by decide+kernel
 exact this ⟨t,ht⟩ ⟨c,hc⟩ hb

theorem HV (n:Nat) (hn:n≤8):shl .i64 1 (n:Int)=((2 ^ n:Nat):Int):=by
 have: ∀(n:Fin 9),shl .i64 1 ((n.val:Nat):Int)=((2 ^ n.val:Nat):Int):=by decide+kernel
 exact this ⟨n,by omega⟩

theorem sn (n:Nat) (hn:n≤8):1≤2 ^ n∧2 ^ n≤256:=by
 have: ∀(n:Fin 9),1≤2 ^ n.val∧2 ^ n.val≤256:=by decide
 exact this ⟨n,by omega⟩

theorem CX (n t c d:Nat) (hn:n≤8) (ht:t<2 ^ n) (hc:c<n) (hb:t.testBit c=true):(er t c).testBit d=(t.testBit d && d != c):=by
 have h1: ∀(t:Fin 256) (c:Fin 8),t.val.testBit c.val=true→er t.val c.val=t.val ^^^ 2 ^ c.val:=by decide+kernel
 have h2:=(sn n hn).2;rw[h1 ⟨t,by omega⟩ ⟨c,by omega⟩ hb]
 show(t ^^^ 2 ^ c).testBit d=_
 rw[Nat.testBit_xor,Nat.testBit_two_pow]
 by_cases e:c=d
 ·subst e
  simp[hb]
 ·simp[e]
  omega

theorem HW (t c:Nat) (hb:t.testBit c=true):2 ^ c≤t:=Nat.ge_two_pow_of_testBit hb

theorem OH (n t c:Nat) (hn:n≤8) (ht:t<2 ^ n) (hc:c<n) (hb:t.testBit c=false):t+2 ^ c<2 ^ n:=by
 have: ∀(n:Fin 9) (c:Fin 8) (t:Fin 256),t.val<2 ^ n.val→c.val<n.val→t.val.testBit c.val=false→t.val+2 ^ c.val<2 ^ n.val:=by decide+kernel
 have h2:=(sn n hn).2;exact this ⟨n,by omega⟩ ⟨c,by omega⟩ ⟨t,by omega⟩ ht hc hb
/-- The first i numbers without zeros at the end. -/
def dx (l:List Int):Nat→List Int
 | 0=>[]
 | i+1=>if rd l (i:Int)=0 then dx l i else l.take (i+1)

theorem Aq (l:List Int) (i:Nat):(dx l i).length≤l.length:=by
 induction i with
 | zero=>simp[dx]
 | succ i ih=>
  unfold dx
  split
  ·exact ih
  ·simp only[List.length_take];omega

theorem we (l:List Int) (hl:l.length≤1048576):mL.f l=some l:=by
 unfold mL.f;simp only[Option.bind_some,List.length_nil,List.nil_append];exact if_pos (by omega)

theorem OI (l:List Int) (hl:l.length≤1048576): ∀(i:Nat),i≤l.length→Ev (fun k=>jc.l0 k l (i:Int)) (dx l i):=by
 intro i
 induction i with
 | zero=>
  intro hi;refine Ev.succ ?_;simp only[jc.l0]
  repeat (first | with_reducible exact Ev.now _ | dsimp only | with_reducible refine Ev.bind (Ev.eq (we _ (by simp))) ?_ | refine Ev.bZ ?_ | refine Ev.cj ?_ | simp only[bne_self_eq_false,Bool.not_true,Bool.not_false,List.length_cons,List.length_nil] | rw[aX (by omega) (by omega)] | with_reducible exact(Ev.eq (we _ (by simp))) | ((with_reducible refine Ev.eq (congrArg some ?_));rfl))
 | succ i ih=>
  intro hi;refine Ev.succ ?_;simp only[jc.l0];rw[aX (by omega) (by omega),show((i+1:Nat):Int) - 1=i by omega];unfold dx
  by_cases h:rd l (i:Int)=0
  ·rw[if_pos h]
   repeat (first | with_reducible exact Ev.now _ | dsimp only | refine Ev.bZ ?_ | refine Ev.cj ?_ | simp only[bne_self_eq_false,Bool.not_true,Bool.not_false,List.length_cons,List.length_nil] | rw[aX (by omega) (by omega)] | ((with_reducible refine Ev.eq (congrArg some ?_));rfl))
   exact ih (by omega)
  ·rw[if_neg h,Int.toNat_natCast]
   repeat (first | with_reducible exact Ev.now _ | dsimp only | (with_reducible refine Ev.bind (Ev.eq (we (l.take (i+1)) (by simp only[List.length_take];omega))) ?_) | refine Ev.bZ ?_ | refine Ev.cj ?_ | simp only[bne_self_eq_false,Bool.not_true,Bool.not_false,List.length_cons,List.length_nil] | rw[aX (by omega) (by omega)] | (with_reducible exact(Ev.eq (we (l.take (i+1)) (by simp only[List.length_take];omega)))) | ((with_reducible refine Ev.eq (congrArg some ?_));rfl))

theorem C8 (l:List Int) (hl:l.length≤1048576):Ev (fun k=>jc.f k l) (dx l l.length):=by
 unfold jc.f;exact OI l hl _ (Nat.le_refl _)
theorem OJ (l:List Int) (hl:l.length≤1048576): ∀(i:Nat),i≤l.length→Ev (fun k=>jl.l0 k (l.take i)) (dx l i):=by
 intro i;have hc: ∀x:List Int,x.length≤1048576→qp.f x=some x:=fun x hx=>if_pos (by omega)
 induction i with
 | zero=>
  intro hi;refine Ev.succ ?_;simp only[jl.l0];rw[List.take_zero]
  repeat (first | with_reducible exact Ev.now _ | dsimp only | with_reducible refine Ev.bind (Ev.eq (hc _ (by simp))) ?_ | refine Ev.bZ ?_ | refine Ev.cj ?_ | simp only[bne_self_eq_false,Bool.not_true,Bool.not_false,List.length_cons,List.length_nil] | rw[aX (by omega) (by omega)] | with_reducible exact(Ev.eq (hc _ (by simp))) | ((with_reducible refine Ev.eq (congrArg some ?_));rfl))
 | succ i ih=>
  intro hi;refine Ev.succ ?_;simp only[jl.l0];have e:(l.take (i+1)).length=i+1:=by simp only[List.length_take];omega
  rw[e,aX (by omega) (by omega),show((i+1:Nat):Int) - 1=i by omega];have e2:rd (l.take (i+1)) (i:Int)=rd l (i:Int):=by rw[iw (by omega),iw (by omega),List.getElem_take]
  have e3:(l.take (i+1)).take i=l.take i:=by rw[List.take_take,Nat.min_eq_left (by omega)]
  rw[e2,show((i:Int)).toNat=i from rfl,e3];unfold dx
  by_cases h:rd l (i:Int)=0
  ·rw[if_pos h]
   repeat (first | with_reducible exact Ev.now _ | dsimp only | refine Ev.bZ ?_ | refine Ev.cj ?_ | simp only[bne_self_eq_false,Bool.not_true,Bool.not_false,List.length_cons,List.length_nil] | rw[aX (by omega) (by omega)] | ((with_reducible refine Ev.eq (congrArg some ?_));rfl))
   exact ih (by omega)
  ·rw[if_neg h]
   repeat (first | with_reducible exact Ev.now _ | dsimp only | with_reducible refine Ev.bind (Ev.eq (hc (l.take (i+1)) (by omega))) ?_ | refine Ev.bZ ?_ | refine Ev.cj ?_ | simp only[bne_self_eq_false,Bool.not_true,Bool.not_false,List.length_cons,List.length_nil] | rw[aX (by omega) (by omega)] | with_reducible exact(Ev.eq (hc (l.take (i+1)) (by omega))) | ((with_reducible refine Ev.eq (congrArg some ?_));rfl))

theorem CN (l:List Int) (hl:l.length≤1048576):Ev (fun k=>jl.f k l) (dx l l.length):=by
 unfold jl.f;have:=OJ l hl _ (Nat.le_refl _);rw[List.take_length]at this;exact this
theorem MV (a b:List Int) (ha:a.length≤500000) (hb:b.length≤500000): ∃r:List Int,r.length≤a.length+b.length∧Ev (fun k=>eZ.f k a b) r:=by
 have inner: ∀(i:Nat),i<a.length→∀(d j:Nat) (x5:List Int),j+d=b.length→x5.length=a.length+b.length - 1→(∃y:List Int,y.length=a.length+b.length - 1∧∀r,Ev (fun k=>eZ.l0 k a b y ((i+1:Nat):Int)) r→Ev (fun k=>eZ.l1 k a b x5 (i:Int) (j:Int)) r):=by
  intro i hi d
  induction d with
  | zero=>
   intro j x5 hj hx;refine⟨x5,hx,fun r hr=> ?_⟩;refine Ev.succ ?_;simp only[eZ.l1];rw[dI (i:=i) (by omega)];exact Ev.neg (by omega) hr
  | succ d ih=>
   intro j x5 hj hx;obtain⟨y,hy,h1⟩:=ih (j+1) (x5.set (i+j) (wrap64 (rd x5 ((i+j:Nat):Int)+wrap64 (rd a (i:Int)*rd b (j:Int))))) (by omega) (by simpa using hx);refine⟨y,hy,fun r hr=> ?_⟩;have h2:=h1 r hr;refine Ev.succ ?_;simp only[eZ.l1];rw[aX (x:=(i:Int)+j) (by omega) (by omega),show(i:Int)+j=((i+j:Nat):Int) by omega,Int.toNat_natCast,dI (i:=j) (by omega)]
   repeat (first | with_reducible exact Ev.now _ | dsimp only | refine Ev.bZ ?_ | refine Ev.cj ?_ | simp only[bne_self_eq_false,Bool.not_true,Bool.not_false,List.length_cons,List.length_nil] | rw[aX (by omega) (by omega)] | ((with_reducible refine Ev.eq (congrArg some ?_));rfl))
   exact h2
 have outer: ∀(d i:Nat) (x5:List Int),i+d=a.length→x5.length=a.length+b.length - 1→∃r:List Int,r.length≤a.length+b.length∧Ev (fun k=>eZ.l0 k a b x5 (i:Int)) r:=by
  intro d
  induction d with
  | zero=>
   intro i x5 hi hx;have ht:=C8 x5 (by omega);refine⟨dx x5 x5.length,by have:=Aq x5 x5.length;omega, ?_⟩;refine Ev.succ ?_;simp only[eZ.l0];exact Ev.neg (by omega) (Ev.bind ht (Ev.now _))
  | succ d ih=>
   intro i x5 hi hx;obtain⟨y,hy,h1⟩:=inner i (by omega) b.length 0 x5 (by omega) hx;obtain⟨r,hr,h2⟩:=ih (i+1) y (by omega) hy;refine⟨r,hr, ?_⟩;refine Ev.succ ?_;simp only[eZ.l0];exact Ev.pos (by omega) (h1 r h2)
 unfold eZ.f
 by_cases c:a.length=0
 ·refine⟨[],by simp,Ev.pos (by omega) ?_⟩
  refine Ev.succ ?_;simp only[eZ.j0];exact Ev.now _
 ·by_cases c2:b.length=0
  ·refine⟨[],by simp,Ev.neg (by omega) ?_⟩
   rw[show((b.length:Int) == 0)=true from beq_iff_eq.2 (by omega)];refine Ev.succ ?_;simp only[eZ.j0];exact Ev.now _
  ·obtain⟨r,hr,h1⟩:=outer a.length 0 (List.replicate (a.length+b.length - 1) 0) (by omega) (by simp)
   refine⟨r,hr,Ev.neg (by omega) ?_⟩;rw[show((b.length:Int) == 0)=false from beq_eq_false_iff_ne.2 (by omega)];refine Ev.succ ?_;simp only[eZ.j0];rw[aX (x:=(a.length:Int)+b.length) (by omega) (by omega),aX (x:=(a.length:Int)+b.length - 1) (by omega) (by omega),show((a.length:Int)+b.length - 1).toNat=a.length+b.length - 1 by omega];exact Ev.neg (by decide) (Ev.pos (by omega) (Ev.pos (by omega) h1))
theorem OK (x:Int): ∃q:Int,wrap64 x=x+18446744073709551616*q:=⟨-((x+9223372036854775808) / 18446744073709551616),by unfold wrap64;omega⟩

theorem OL (x q:Int):wrap64 (x+18446744073709551616*q)=wrap64 x:=by unfold wrap64;omega

theorem wrap_wrap (x:Int):wrap64 (wrap64 x)=wrap64 x:=by unfold wrap64;omega

theorem yx (x y:Int):wrap64 (x*wrap64 y)=wrap64 (x*y):=by
 obtain⟨q,hq⟩:=OK y;rw[hq,Int.mul_add,Int.mul_left_comm,OL]

theorem HX (x y:Int):wrap64 (wrap64 x*y)=wrap64 (x*y):=by
 rw[Int.mul_comm,yx,Int.mul_comm]

theorem DG (x y:Int):wrap64 (wrap64 x*wrap64 y)=wrap64 (x*y):=by
 rw[HX,yx]

theorem Gz (a:Int):wrap64 (-wrap64 a)=wrap64 (-a):=by
 unfold wrap64
 omega

theorem yy {a a' b b':Int} (h:wrap64 a=wrap64 a') (h':wrap64 b=wrap64 b'):wrap64 (a+b)=wrap64 (a'+b'):=by
 rw[← r7,h,h',r7]

theorem AQ {a a' b b':Int} (h:wrap64 a=wrap64 a') (h':wrap64 b=wrap64 b'):wrap64 (a*b)=wrap64 (a'*b'):=by
 rw[← DG,h,h',DG]

theorem Gx {n:Nat} {f g:Nat→Int} (h: ∀i,i<n→wrap64 (f i)=wrap64 (g i)):wrap64 (Sm n f)=wrap64 (Sm n g):=by
 induction n with
 | zero=>rfl
 | succ n ih=>
  unfold Sm;exact yy (ih (fun i hi=>h i (by omega))) (h n (by omega))

theorem CP (n:Nat) (a:Nat→Nat→Int): ∀(m k j:Nat),k<n→j<n→mul n a (nc n a m) k j=mul n (nc n a m) a k j:=by
 have base: ∀(f:Nat→Nat→Int) (d:Int) (N:Nat→Nat→Int),(∀k j,k<n→j<n→N k j=f k j+(if k=j then d else 0))→(∀k j,k<n→j<n→mul n a f k j=mul n f a k j)→∀k j,k<n→j<n→mul n a N k j=mul n N a k j:=by
  intro f d N hN hf k j hk hj;unfold mul;rw[bK (g:=fun i=>a k i*f i j+(if i=j then 1 else 0)*(a k i*d)) (fun i hi=>by
   rw[hN i j hi hj,Int.mul_add]
   congr 1
   by_cases e:i=j
   ·rw[if_pos e,if_pos e,Int.one_mul]
   ·rw[if_neg e,if_neg e,Int.zero_mul,Int.mul_zero])]
  rw[bK (f:=fun i=>N k i*a i j) (g:=fun i=>f k i*a i j+(if i=k then 1 else 0)*(d*a i j)) (fun i hi=>by
   rw[hN k i hk hi,Int.add_mul]
   congr 1
   by_cases e:k=i
   ·rw[if_pos e,if_pos e.symm,Int.one_mul]
   ·rw[if_neg e,if_neg (fun z=>e z.symm),Int.zero_mul,Int.zero_mul])]
  rw[gz,gz,mH n (fun i=>a k i*d) hj,mH n (fun i=>d*a i j) hk,Int.mul_comm d]
  congr 1
  exact hf k j hk hj
 intro m
 induction m with
 | zero=>
  refine base (fun _ _=>0) (ch n a 0) _ (fun k j hk hj=> ?_) (fun k j hk hj=> ?_)
  ·rw[yw n a 0 k j hk hj,if_pos rfl]
  ·unfold mul
   rw[bK (g:=fun _=>0) (fun i _=>Int.mul_zero _),bK (f:=fun i=>0*a i j) (g:=fun _=>0) (fun i _=>Int.zero_mul _)]
 | succ m ih=>
  refine base (fun k j=>mul n (nc n a m) a k j) (ch n a (m+1)) _ (fun k j hk hj=> ?_) (fun k j hk hj=> ?_)
  ·rw[yw n a (m+1) k j hk hj,if_neg (by omega),Nat.add_sub_cancel]
   rfl
  ·have h1:=mul_assoc' n a (nc n a m) a k j
   have h2:mul n (mul n a (nc n a m)) a k j=mul n (mul n (nc n a m) a) a k j:=mul_congr (fun i hi=>ih k i hk hi) (fun i _=>rfl);rw[h2]at h1;exact h1.symm
/-- The last column is zero above its foot. -/
theorem HY: ∀(n:Nat) (m:Nat→Nat→Int) (s:Int),(∀i,i<n→m i n=0)→m n n=s→cl (n+1) m=s*cl n m:=by
 intro n
 induction n with
 | zero=>
  intro m s _ hs
  show 0+sg 0*m 0 0*1=s*1
  rw[hs]
  show 0+1*s*1=s*1
  omega
 | succ n ih=>
  intro m s h hs
  show Sm (n+1) (fun j=>sg j*m 0 j*cl (n+1) (minor m j))+sg (n+1)*m 0 (n+1)*cl (n+1) (minor m (n+1))=s*Sm (n+1) (fun j=>sg j*m 0 j*cl n (minor m j))
  rw[h 0 (by omega),Int.mul_zero,Int.zero_mul,Int.add_zero,← e7];refine bK (fun j hj=> ?_);rw[ih (minor m j) s ?_ ?_]
  ·rw[← Int.mul_assoc,← Int.mul_assoc,Int.mul_comm s,Int.mul_assoc (sg j*m 0 j)]
  ·intro i hi
   unfold minor;rw[if_neg (by omega)];exact h (i+1) (by omega)
  ·unfold minor
   rw[if_neg (by omega)];exact hs

theorem OM (n:Nat) (x:Nat→Nat→Int) (hr: ∀r i,r<n→i<n→mul n x (adj n x) r i=if r=i then cl n x else 0):cl n x*cl (n+1) x=cl n x*(x n n*cl n x - Sm n (fun k=>x n k*Sm n (fun i=>adj n x k i*x i n))):=by
 obtain⟨w,hw⟩: ∃w:Nat→Int,w=fun k=>Sm n (fun i=>adj n x k i*x i n):=⟨_,rfl⟩
 obtain⟨s,hs⟩: ∃s:Int,s=x n n*cl n x - Sm n (fun k=>x n k*w k):=⟨_,rfl⟩
 -- the last column times the determinant, less the others
 have h1:=sx (n+1) x n (cl n x) (-1) (fun i=>x i n) (fun r=>Sm n (fun k=>w k*x r k)) (by omega);rw[sw,Dv (n+1) x n (by omega) w (fun k r=>x r k) n]at h1;have hz:Sm n (fun k=>w k*cl (n+1) (cQ x n (fun r=>x r k)))=0:=by
  rw[bK (g:=fun _=>0) (fun k hk=> ?_),jR];rw[AL (n:=n+1) (p:=n) (q:=k) (by omega) (by omega) (by omega) (fun i=> ?_),Int.mul_zero];unfold cQ;rw[if_pos rfl,if_neg (by omega)]
 rw[hz,Int.mul_zero,Int.add_zero]at h1
 -- X adj X = det X, row by row
 have hx: ∀r,r<n→Sm n (fun k=>w k*x r k)=cl n x*x r n:=by
  intro r U7;rw[hw];rw[bK (g:=fun k=>Sm n (fun i=>x r k*adj n x k i*x i n)) (fun k _=>by
   rw[Int.mul_comm,← e7];exact bK (fun i _=>(Int.mul_assoc _ _ _).symm)),lE]
  rw[bK (g:=fun i=>(if i=r then 1 else 0)*(cl n x*x i n)) (fun i hi=>by
   rw[jL];have:=hr r i U7 hi;unfold mul at this;rw[this]
   by_cases e:r=i
   ·rw[if_pos e,if_pos e.symm,Int.one_mul]
   ·rw[if_neg e,if_neg (fun z=>e z.symm),Int.zero_mul,Int.zero_mul])]
  exact mH n (fun i=>cl n x*x i n) U7
 have h2:=HY n (cQ x n (fun i=>cl n x*x i n+ -1*Sm n (fun k=>w k*x i k))) s (fun i hi=>by
  unfold cQ;rw[if_pos rfl]
  show cl n x*x i n+ -1*Sm n (fun k=>w k*x i k)=0
  rw[hx i hi]
  omega) (by
  unfold cQ;rw[if_pos rfl,hs,Int.mul_comm (x n n)]
  show cl n x*x n n+ -1*Sm n (fun k=>w k*x n k)=_
  rw[bK (f:=fun k=>w k*x n k) (g:=fun k=>x n k*w k) (fun k _=>Int.mul_comm _ _)]
  omega)
 rw[← h1,h2,hs,hw,Int.mul_comm]
 congr 1
 refine gJ n _ _ (fun i k _ hk=> ?_);unfold cQ;rw[if_neg (by omega)]
/-- 1 - u a times its adjoint. -/
theorem OO (n:Nat) (a:Nat→Nat→Int) (u:Int) (k j:Nat) (hk:k<n) (hj:j<n):mul n (xu a u) (adj n (xu a u)) k j=if k=j then cl n (xu a u) else 0:=by
 rw[← HI n (xu a u) k j hk hj];have e1: ∀k j,k<n→j<n→mul n (xu a u) (adj n (xu a u)) k j=adj n (xu a u) k j+(-u)*mul n a (adj n (xu a u)) k j:=by
  intro k j hk hj;unfold mul;rw[← e7];have:Sm n (fun i=>xu a u k i*adj n (xu a u) i j)=Sm n (fun i=>(if i=k then 1 else 0)*adj n (xu a u) i j+(-u)*(a k i*adj n (xu a u) i j)):=bK (fun i _=>by
   unfold xu eM ng;generalize adj n _ i j=g;rw[Int.add_mul]
   congr 1
   ·by_cases e:k=i
    ·rw[if_pos e,if_pos e.symm]
    ·rw[if_neg e,if_neg (fun z=>e z.symm)]
   ·grind)
  rw[this,gz,mH n (fun i=>adj n (xu a u) i j) hk]
 have e2: ∀k j,k<n→j<n→mul n (adj n (xu a u)) (xu a u) k j=adj n (xu a u) k j+(-u)*mul n (adj n (xu a u)) a k j:=by
  intro k j hk hj;unfold mul;rw[← e7];have:Sm n (fun i=>adj n (xu a u) k i*xu a u i j)=Sm n (fun i=>(if i=j then 1 else 0)*adj n (xu a u) k i+(-u)*(adj n (xu a u) k i*a i j)):=bK (fun i _=>by
   unfold xu eM ng;generalize adj n _ k i=g;rw[Int.mul_add]
   congr 1
   ·exact Int.mul_comm _ _
   ·grind)
  rw[this,gz,mH n (fun i=>adj n (xu a u) k i) hj]
 rw[e1 k j hk hj,e2 k j hk hj]
 congr 1
 congr 1
 have e3:mul n a (adj n (xu a u)) k j=Sm (n+1) (fun m=>mul n a (nc n a m) k j*u ^ m):=by
  unfold mul;rw[bK (g:=fun i=>Sm (n+1) (fun m=>a k i*nc n a m i j*u ^ m)) (fun i _=>by
   rw[wz,← e7];exact bK (fun m _=>(Int.mul_assoc _ _ _).symm)),lE]
  exact bK (fun m _=>jL n _ _)
 have e4:mul n (adj n (xu a u)) a k j=Sm (n+1) (fun m=>mul n (nc n a m) a k j*u ^ m):=by
  unfold mul;rw[bK (g:=fun i=>Sm (n+1) (fun m=>nc n a m k i*a i j*u ^ m)) (fun i _=>by
   rw[wz,← jL];exact bK (fun m _=>by rw[Int.mul_assoc,Int.mul_comm (u ^ m),← Int.mul_assoc])),lE]
  exact bK (fun m _=>jL n _ _)
 rw[e3,e4];exact bK (fun m _=>by rw[CP n a m k j hk hj])

theorem CQ: ∀n,cl n eM=1:=by
 intro n
 induction n with
 | zero=>rfl
 | succ n ih=>
  rw[HY n eM 1 (fun i hi=>if_neg (by omega)) (if_pos rfl),ih]
  rfl

theorem OP (n:Nat) (a:Nat→Nat→Int) (u:Int) (hu:2≤u):cl n (xu a u)≠0:=by
 intro h;rw[su,r9,show ch n a 0=1 from(xW n eM (ng a)).trans (CQ n),Int.pow_zero]at h;have e:Sm n (fun i=>ch n a (i+1)*u ^ (i+1))=u*Sm n (fun i=>ch n a (i+1)*u ^ i):=by
  rw[← e7];refine bK (fun i _=> ?_);rw[Int.pow_succ]
  grind
 rw[e]at h;generalize Sm n _=s at h;have hd:u∣1:=⟨-s,by rw[Int.mul_neg];omega⟩;have:=Int.le_of_dvd (by decide) hd
 omega

/-- The foot, the row and the column, for one number u. -/
theorem OQ (n:Nat) (a:Nat→Nat→Int) (u:Int) (hu:2≤u):cl (n+1) (xu a u)=(1 - u*a n n)*cl n (xu a u) - u*u*Sm n (fun k=>a n k*Sm n (fun i=>adj n (xu a u) k i*a i n)):=by
 have h:=OM n (xu a u) (fun r i hr hi=>OO n a u r i hr hi);have h1:=Int.eq_of_mul_eq_mul_left (OP n a u hu) h;rw[h1];have e1:xu a u n n=1 - u*a n n:=by
  unfold xu eM ng;rw[if_pos rfl,Int.mul_neg]
  omega
 have e2:Sm n (fun k=>xu a u n k*Sm n (fun i=>adj n (xu a u) k i*xu a u i n))=u*u*Sm n (fun k=>a n k*Sm n (fun i=>adj n (xu a u) k i*a i n)):=by
  rw[← e7];refine bK (fun k hk=> ?_);have e3:xu a u n k= -(u*a n k):=by
   unfold xu eM ng;rw[if_neg (by omega),Int.mul_neg]
   omega
  have e4:Sm n (fun i=>adj n (xu a u) k i*xu a u i n)= -u*Sm n (fun i=>adj n (xu a u) k i*a i n):=by
   rw[← e7];refine bK (fun i hi=> ?_);unfold xu eM ng;rw[if_neg (by omega)];generalize adj n _ k i=g
   grind
  rw[e3,e4];generalize Sm n _=s
  grind
 rw[e1,e2]

/-- What the last row and column add to the coefficient m. -/
def n8 (n:Nat) (a:Nat→Nat→Int) (m:Nat):Int:=Sm n (fun k=>a n k*Sm n (fun i=>nc n a m k i*a i n))

/-- One row and one column more, by coefficients. -/
theorem OT (n:Nat) (a:Nat→Nat→Int) (m:Nat) (hm:m<n+3):ch (n+1) a m=ch n a m+(if m=0 then 0 else -(a n n)*ch n a (m - 1))+(if m<2 then 0 else - n8 n a (m - 2)):=by
 have key: ∀u:Int,2≤u→Sm (n+3) (fun m=>(ch (n+1) a m - (ch n a m+(if m=0 then 0 else -(a n n)*ch n a (m - 1))+(if m<2 then 0 else - n8 n a (m - 2))))*u ^ m)=0:=by
  intro u hu;have h:=OQ n a u hu;rw[su,su]at h;have e0:Sm n (fun k=>a n k*Sm n (fun i=>adj n (xu a u) k i*a i n))=Sm (n+1) (fun m=>n8 n a m*u ^ m):=by
   unfold n8;rw[bK (g:=fun k=>Sm (n+1) (fun m=>a n k*Sm n (fun i=>nc n a m k i*a i n)*u ^ m)) (fun k _=>by
    rw[bK (g:=fun i=>Sm (n+1) (fun m=>nc n a m k i*a i n*u ^ m)) (fun i _=>by
     rw[wz,← jL];exact bK (fun m _=>by rw[Int.mul_assoc,Int.mul_comm (u ^ m),← Int.mul_assoc])),lE,← e7]
    refine bK (fun m _=> ?_);rw[jL,Int.mul_assoc]),lE]
   exact bK (fun m _=>jL n _ _)
  have e1:Sm (n+1+1) (fun m=>ch (n+1) a m*u ^ m)=Sm (n+3) (fun m=>ch (n+1) a m*u ^ m):=(nX _ (by omega) (fun i hi=>by rw[show ch (n+1) a i=0 from mG _ _ _ (by omega),Int.zero_mul])).symm;have e2:Sm (n+1) (fun m=>ch n a m*u ^ m)=Sm (n+3) (fun m=>ch n a m*u ^ m):=(nX _ (by omega) (fun i hi=>by rw[show ch n a i=0 from mG _ _ _ (by omega),Int.zero_mul])).symm;have e3:u*Sm (n+1) (fun m=>ch n a m*u ^ m)=Sm (n+3) (fun m=>(if m=0 then 0 else ch n a (m - 1))*u ^ m):=by
   rw[← nX (d:=n+1) (e:=n+2) (fun m=>ch n a m*u ^ m) (by omega) (fun i hi=>by rw[show ch n a i=0 from mG _ _ _ (by omega),Int.zero_mul]),← e7,← AO];refine bK (fun m _=> ?_)
   by_cases e:m=0
   ·rw[if_pos e,if_pos e,Int.zero_mul]
   ·rw[if_neg e,if_neg e]
    obtain⟨q,rfl⟩: ∃q,m=q+1:=⟨m - 1,by omega⟩;rw[Nat.add_sub_cancel,Int.pow_succ]
    grind
  have e4:u*u*Sm (n+1) (fun m=>n8 n a m*u ^ m)=Sm (n+3) (fun m=>(if m<2 then 0 else n8 n a (m - 2))*u ^ m):=by
   have s2:Sm (n+3) (fun m=>(if m<2 then 0 else n8 n a (m - 2))*u ^ m)=Sm (n+1) (fun m=>n8 n a m*u ^ (m+2)):=by
    rw[r9,r9];rw[if_pos (by omega),if_pos (by omega),Int.zero_mul,Int.zero_mul,Int.zero_add,Int.zero_add];exact bK (fun m _=>by rw[if_neg (by omega)];rfl)
   rw[s2,← e7];refine bK (fun m _=> ?_);rw[Int.pow_succ,Int.pow_succ]
   grind
  rw[e0,e1]at h;have e5:Sm (n+3) (fun m=>(ch (n+1) a m - (ch n a m+(if m=0 then 0 else -(a n n)*ch n a (m - 1))+(if m<2 then 0 else - n8 n a (m - 2))))*u ^ m)=Sm (n+3) (fun m=>ch (n+1) a m*u ^ m)+((-1)*Sm (n+3) (fun m=>ch n a m*u ^ m)+(a n n*Sm (n+3) (fun m=>(if m=0 then 0 else ch n a (m - 1))*u ^ m)+Sm (n+3) (fun m=>(if m<2 then 0 else n8 n a (m - 2))*u ^ m))):=by
   rw[← e7,← e7,← gz,← gz,← gz];refine bK (fun m _=> ?_)
   by_cases c0:m=0
   ·rw[if_pos c0,if_pos c0,if_pos (by omega),if_pos (by omega)]
    grind
   ·rw[if_neg c0,if_neg c0]
    by_cases c2:m<2
    ·rw[if_pos c2,if_pos c2]
     grind
    ·rw[if_neg c2,if_neg c2]
     grind
  rw[e5,← e3,← e4,h,← e2];generalize Sm (n+1) (fun m=>ch n a m*u ^ m)=s1;generalize Sm (n+1) (fun m=>n8 n a m*u ^ m)=s2
  grind
 have:=C3 (n+3) _ (fun u hu=>key u hu) m hm
 omega
/-- a to the power p. -/
def mp (n:Nat) (a:Nat→Nat→Int):Nat→Nat→Nat→Int
 | 0=>eM
 | p+1=>mul n (mp n a p) a

theorem OU (n:Nat) (a:Nat→Nat→Int): ∀(m k j:Nat),k<n→j<n→nc n a m k j=Sm (m+1) (fun t=>ch n a t*mp n a (m - t) k j):=by
 intro m
 induction m with
 | zero=>
  intro k j hk hj;rw[yw n a 0 k j hk hj,if_pos rfl,Int.zero_add]
  show _=0+ch n a 0*eM k j
  unfold eM
  split
  ·omega
  ·omega
 | succ m ih=>
  intro k j hk hj;rw[yw n a (m+1) k j hk hj,if_neg (by omega),Nat.add_sub_cancel]
  show _=Sm (m+1) (fun t=>ch n a t*mp n a (m+1 - t) k j)+ch n a (m+1)*mp n a (m+1 - (m+1)) k j
  rw[Nat.sub_self]
  congr 1
  ·rw[bK (g:=fun i=>Sm (m+1) (fun t=>ch n a t*mp n a (m - t) k i*a i j)) (fun i hi=>by
    rw[ih k i hk hi,← jL]),lE]
   refine bK (fun t ht=> ?_);rw[show m+1 - t=(m - t)+1 by omega]
   show _=ch n a t*Sm n (fun i=>mp n a (m - t) k i*a i j)
   rw[← e7];exact bK (fun i _=>Int.mul_assoc _ _ _)
  ·show _=ch n a (m+1)*eM k j
   unfold eM
   split
   ·omega
   ·omega
/-- The matrix's powers at a column. -/
def cg (r:Nat) (a:Nat→Nat→Int) (v:Nat→Int):Nat→Nat→Int
 | 0=>v
 | p+1=>fun i=>Sm r (fun q=>a i q*cg r a v p q)

theorem OV (r:Nat) (a:Nat→Nat→Int): ∀(p:Nat) (v:Nat→Int),cg r a (fun i=>Sm r (fun q=>a i q*v q)) p=cg r a v (p+1):=by
 intro p
 induction p with
 | zero=>intro v;rfl
 | succ p ih=>
  intro v
  funext i
  show Sm r (fun q=>a i q*cg r a (fun i=>Sm r (fun q=>a i q*v q)) p q)=Sm r (fun q=>a i q*cg r a v (p+1) q)
  rw[ih v]

theorem OW (r:Nat) (a:Nat→Nat→Int): ∀(p:Nat) (v:Nat→Int) (i:Nat),i<r→Sm r (fun q=>mp r a p i q*v q)=cg r a v p i:=by
 intro p
 induction p with
 | zero=>
  intro v i hi
  show Sm r (fun q=>eM i q*v q)=v i
  rw[bK (g:=fun q=>(if q=i then 1 else 0)*v q) (fun q _=> ?_)]
  ·exact mH r v hi
  ·unfold eM
   by_cases c:i=q
   ·rw[if_pos c,if_pos c.symm]
   ·rw[if_neg c,if_neg (fun z=>c z.symm)]
 | succ p ih=>
  intro v i hi;rw[← OV,← ih _ i hi]
  show Sm r (fun q=>Sm r (fun k=>mp r a p i k*a k q)*v q)=_
  rw[bK (g:=fun q=>Sm r (fun k=>mp r a p i k*(a k q*v q))) (fun q _=>by
   rw[← jL];exact bK (fun k _=>Int.mul_assoc _ _ _)),lE]
  exact bK (fun k _=>e7 r _ _)

/-- The row, a power, and the column. -/
def rp (r:Nat) (a:Nat→Nat→Int) (p:Nat):Int:=Sm r (fun q=>a r q*cg r a (fun i=>a i r) p q)

/-- The numbers by which those of r rows are multiplied. -/
def tu (r:Nat) (a:Nat→Nat→Int):Nat→Int
 | 0=>1
 | 1=> -(a r r)
 | p+2=> -rp r a p

theorem OX (r:Nat) (a:Nat→Nat→Int) (m:Nat):n8 r a m=Sm (m+1) (fun t=>ch r a t*rp r a (m - t)):=by
 unfold n8;rw[bK (g:=fun k=>Sm (m+1) (fun t=>ch r a t*(a r k*cg r a (fun i=>a i r) (m - t) k))) (fun k hk=> ?_),lE]
 ·exact bK (fun t _=>e7 r _ _)
 ·rw[bK (g:=fun i=>Sm (m+1) (fun t=>ch r a t*(mp r a (m - t) k i*a i r))) (fun i hi=>by
   rw[OU r a m k i hk hi,← jL];exact bK (fun t _=>Int.mul_assoc _ _ _)),lE,← e7]
  refine bK (fun t _=> ?_);rw[e7,OW r a (m - t) (fun i=>a i r) k hk];exact Int.mul_left_comm _ _ _

theorem OY (r:Nat) (a:Nat→Nat→Int) (i:Nat) (hi:i<r+3):Sm (i+1) (fun t=>tu r a (i - t)*ch r a t)=ch (r+1) a i:=by
 rw[OT r a i hi]
 match i with
 | 0=>
  show 0+1*ch r a 0=ch r a 0+0+0
  omega
 | 1=>
  show 0+ -(a r r)*ch r a 0+1*ch r a 1=ch r a 1+ -(a r r)*ch r a 0+0
  omega
 | m+2=>
  rw[if_neg (by omega),if_neg (by omega),show m+2 - 1=m+1 from rfl,Nat.add_sub_cancel,OX]
  show Sm (m+1) (fun t=>tu r a (m+2 - t)*ch r a t)+tu r a (m+2 - (m+1))*ch r a (m+1)+tu r a (m+2 - (m+2))*ch r a (m+2)=_
  rw[show m+2 - (m+1)=1 by omega,show m+2 - (m+2)=0 by omega];have e:Sm (m+1) (fun t=>tu r a (m+2 - t)*ch r a t)=(-1)*Sm (m+1) (fun t=>ch r a t*rp r a (m - t)):=by
   rw[← e7];refine bK (fun t ht=> ?_);rw[show m+2 - t=(m - t)+2 by omega]
   show -rp r a (m - t)*ch r a t=_
   grind
  rw[e]
  show _+ -(a r r)*ch r a (m+1)+1*ch r a (m+2)=_
  omega

theorem OZ (r:Nat) (a:Nat→Nat→Int) (i:Nat) (hi:i<r+2):Sm (if i+1≤r+1 then i+1 else r+1) (fun t=>tu r a (i - t)*ch r a t)=ch (r+1) a i:=by
 rw[← OY r a i (by omega)]
 by_cases c:i+1≤r+1
 ·rw[if_pos c]
 ·rw[if_neg c]
  obtain rfl:i=r+1:=by omega
  show _=Sm (r+1) (fun t=>tu r a (r+1 - t)*ch r a t)+tu r a (r+1 - (r+1))*ch r a (r+1)
  rw[show ch r a (r+1)=0 from mG _ _ _ (Nat.le_refl _),Int.mul_zero,Int.add_zero]
/-- The wrapped coefficients, k of them. -/
def dS (n:Nat) (a:Nat→Nat→Int) (k:Nat):List Int:=rowOf k (fun m=>wrap64 (ch n a m))

theorem vV (k:Nat) (f:Nat→Int):rowOf k f++[f k]=rowOf (k+1) f:=(tM f k).symm

section
variable (n:Nat) (hn:n≤1000) (a:List (List Int)) (ha:Sq n a) (hw: ∀i j,i<n→j<n→wrap64 (bE a i j)=bE a i j)

/-- The column behind p steps, wrapped. -/
def jM (r p:Nat) (k:Nat):List Int:=rowOf k (fun i=>wrap64 (cg r (bE a) (fun i=>bE a i r) p i))

def ny (r k:Nat):List Int:=rowOf k (fun p=>wrap64 (tu r (bE a) p))

include hn ha hw

theorem O0 (r:Nat) (hr:r<n) (x3:List Int) (x5:List Int) (res:List Int) (h:Ev (fun f=>cy.l2 f a x3 (r:Int) x5 (jM a r 0 r) 0) res):
  ∀(d i:Nat),i+d=r→Ev (fun f=>cy.l1 f a x3 (r:Int) x5 (jM a r 0 i) (i:Int)) res:=by
 have hal:=ha.1;intro d
 induction d with
 | zero=>
  intro i hi;obtain rfl:i=r:=by omega
  refine Ev.succ ?_;simp only[cy.l1]
  repeat (first | with_reducible exact Ev.now _ | dsimp only | refine Ev.bZ ?_ | refine Ev.cj ?_ | simp only[bne_self_eq_false,Bool.not_true,Bool.not_false,List.length_cons,List.length_nil] | rw[aX (by omega) (by omega)] | ((with_reducible refine Ev.eq (congrArg some ?_));rfl))
  exact h
 | succ d ih=>
  intro i hi;have h1:=ih (i+1) (by omega);have hrow:=ha.2 i (by omega);have hlen:(jM a r 0 i).length=i:=gm _ _;have e:jM a r 0 i++[rd (af a (i:Int)) (r:Int)]=jM a r 0 (i+1):=by
   rw[show rd (af a (i:Int)) (r:Int)=bE a i r from rfl,← hw i r (by omega) hr];exact vV i _
  refine Ev.succ ?_;simp only[cy.l1];rw[e,dI (i:=i) (by omega)]
  repeat (first | with_reducible exact Ev.now _ | dsimp only | refine Ev.bZ ?_ | refine Ev.cj ?_ | simp only[bne_self_eq_false,Bool.not_true,Bool.not_false,List.length_cons,List.length_nil] | rw[aX (by omega) (by omega)] | ((with_reducible refine Ev.eq (congrArg some ?_));rfl))
  exact h1

omit hw in
/-- The sum of one place of the next column. -/
theorem O1 (r k i:Nat) (hr:r<n) (hi:i<r) (x3 x5 cR:List Int) (x9:Int) (hx:cR.length≤1000) (res:List Int) (h:Ev (fun f=>cy.l3 f a x3 (r:Int) x5 (jM a r k r) (k:Int) x9 (cR++[wrap64 (cg r (bE a) (fun i=>bE a i r) (k+1) i)]) ((i+1:Nat):Int)) res):
  ∀(d j:Nat),j+d=r→Ev (fun f=>cy.l4 f a x3 (r:Int) x5 (jM a r k r) (k:Int) x9 cR (i:Int) (wrap64 (Sm j (fun q=>bE a i q*cg r (bE a) (fun i=>bE a i r) k q))) (j:Int)) res:=by
 have hal:=ha.1;have hrow:=ha.2 i (by omega);have hlen:(jM a r k r).length=r:=gm _ _;intro d
 induction d with
 | zero=>
  intro j hj;obtain rfl:j=r:=by omega
  refine Ev.succ ?_;simp only[cy.l4];rw[dI (i:=i) (by omega)]
  repeat (first | with_reducible exact Ev.now _ | dsimp only | refine Ev.bZ ?_ | refine Ev.cj ?_ | simp only[bne_self_eq_false,Bool.not_true,Bool.not_false,List.length_cons,List.length_nil] | rw[aX (by omega) (by omega)] | ((with_reducible refine Ev.eq (congrArg some ?_));rfl))
  exact h
 | succ d ih=>
  intro j hj;have h1:=ih (j+1) (by omega);have e:wrap64 (wrap64 (Sm j (fun q=>bE a i q*cg r (bE a) (fun i=>bE a i r) k q))+wrap64 (rd (af a (i:Int)) (j:Int)*rd (jM a r k r) (j:Int)))=wrap64 (Sm (j+1) (fun q=>bE a i q*cg r (bE a) (fun i=>bE a i r) k q)):=by
   unfold jM;rw[jK _ (by omega),show rd (af a (i:Int)) (j:Int)=bE a i j from rfl,yx,r7]
   rfl
  refine Ev.succ ?_;simp only[cy.l4];rw[e,dI (i:=j) (by omega)]
  repeat (first | with_reducible exact Ev.now _ | dsimp only | refine Ev.bZ ?_ | refine Ev.cj ?_ | simp only[bne_self_eq_false,Bool.not_true,Bool.not_false,List.length_cons,List.length_nil] | rw[aX (by omega) (by omega)] | ((with_reducible refine Ev.eq (congrArg some ?_));rfl))
  exact h1

omit hw in
/-- One more number, and the next column. -/
theorem O2 (r k:Nat) (hr:r<n) (hk:k<r) (x3:List Int) (res:List Int) (h:Ev (fun f=>cy.l2 f a x3 (r:Int) (ny a r (k+3)) (jM a r (k+1) r) ((k+1:Nat):Int)) res):
  ∀(d i:Nat),i+d=r→Ev (fun f=>cy.l3 f a x3 (r:Int) (ny a r (k+2)) (jM a r k r) (k:Int) (wrap64 (Sm i (fun q=>bE a r q*cg r (bE a) (fun i=>bE a i r) k q))) (jM a r (k+1) i) (i:Int)) res:=by
 have hal:=ha.1;have hrow:=ha.2 r (by omega);have hlen:(jM a r k r).length=r:=gm _ _;intro d
 induction d with
 | zero=>
  intro i hi;obtain rfl:i=r:=by omega
  have hl2:(ny a i (k+2)).length=k+2:=gm _ _;have e:ny a i (k+2)++[wrap64 (-wrap64 (Sm i (fun q=>bE a i q*cg i (bE a) (fun j=>bE a j i) k q)))]=ny a i (k+3):=by
   rw[Gz];exact vV (k+2) (fun p=>wrap64 (tu i (bE a) p))
  refine Ev.succ ?_;simp only[cy.l3];rw[e,dI (i:=k) (by omega)]
  repeat (first | with_reducible exact Ev.now _ | dsimp only | refine Ev.bZ ?_ | refine Ev.cj ?_ | simp only[bne_self_eq_false,Bool.not_true,Bool.not_false,List.length_cons,List.length_nil] | rw[aX (by omega) (by omega)] | ((with_reducible refine Ev.eq (congrArg some ?_));rfl))
  exact h
 | succ d ih=>
  intro i hi;have h1:=ih (i+1) (by omega);have O3:(jM a r (k+1) i).length=i:=gm _ _;have e:wrap64 (wrap64 (Sm i (fun q=>bE a r q*cg r (bE a) (fun i=>bE a i r) k q))+wrap64 (rd (af a (r:Int)) (i:Int)*rd (jM a r k r) (i:Int)))=wrap64 (Sm (i+1) (fun q=>bE a r q*cg r (bE a) (fun i=>bE a i r) k q)):=by
   unfold jM;rw[jK _ (by omega),show rd (af a (r:Int)) (i:Int)=bE a r i from rfl,yx,r7]
   rfl
  have e2:jM a r (k+1) i++[wrap64 (cg r (bE a) (fun i=>bE a i r) (k+1) i)]=jM a r (k+1) (i+1):=vV i _;rw[← e2,← e]at h1;have h2:=O1 n hn a ha r k i hr (by omega) x3 (ny a r (k+2)) (jM a r (k+1) i) _ (by omega) res h1 r 0 (by omega);rw[show wrap64 (Sm 0 (fun q=>bE a i q*cg r (bE a) (fun i=>bE a i r) k q))=0 from aX (x:=0) (by decide) (by decide)]at h2;refine Ev.succ ?_;simp only[cy.l3]
  repeat (first | with_reducible exact Ev.now _ | dsimp only | refine Ev.bZ ?_ | refine Ev.cj ?_ | simp only[bne_self_eq_false,Bool.not_true,Bool.not_false,List.length_cons,List.length_nil] | rw[aX (by omega) (by omega)] | ((with_reducible refine Ev.eq (congrArg some ?_));rfl))
  exact h2

omit hw in
/-- All numbers. -/
theorem O4 (r:Nat) (hr:r<n) (x3:List Int) (res:List Int) (h:Ev (fun f=>cy.l5 f a x3 (r:Int) (ny a r (r+2)) (List.replicate (r+2) 0) 0) res):
  ∀(d k:Nat),k+d=r→Ev (fun f=>cy.l2 f a x3 (r:Int) (ny a r (k+2)) (jM a r k r) (k:Int)) res:=by
 intro d
 induction d with
 | zero=>
  intro k hk;obtain rfl:k=r:=by omega
  refine Ev.succ ?_;simp only[cy.l2];rw[aX (x:=(k:Int)+2) (by omega) (by omega),show((k:Int)+2).toNat=k+2 by omega]
  repeat (first | with_reducible exact Ev.now _ | dsimp only | refine Ev.bZ ?_ | refine Ev.cj ?_ | simp only[bne_self_eq_false,Bool.not_true,Bool.not_false,List.length_cons,List.length_nil] | rw[aX (by omega) (by omega)] | ((with_reducible refine Ev.eq (congrArg some ?_));rfl))
  exact h
 | succ d ih=>
  intro k hk;have h1:=ih (k+1) (by omega);have h2:=O2 n hn a ha r k hr (by omega) x3 res h1 r 0 (by omega);rw[show wrap64 (Sm 0 (fun q=>bE a r q*cg r (bE a) (fun i=>bE a i r) k q))=0 from aX (x:=0) (by decide) (by decide)]at h2;refine Ev.succ ?_;simp only[cy.l2]
  repeat (first | with_reducible exact Ev.now _ | dsimp only | refine Ev.bZ ?_ | refine Ev.cj ?_ | simp only[bne_self_eq_false,Bool.not_true,Bool.not_false,List.length_cons,List.length_nil] | rw[aX (by omega) (by omega)] | ((with_reducible refine Ev.eq (congrArg some ?_));rfl))
  exact h2

/-- The made numbers while those before i are told, and at i the products before j. -/
def n9 (r i j:Nat):List Int:=rowOf (r+2) (fun q=>if q<i then wrap64 (ch (r+1) (bE a) q) else if q=i then wrap64 (Sm j (fun t=>tu r (bE a) (i - t)*ch r (bE a) t)) else 0)

omit hn ha hw in
theorem O5 (r:Nat):n9 a r 0 0=List.replicate (r+2) 0:=by
 rw[← yg];refine nW (fun q hq=> ?_);rw[if_neg (by omega)]
 split
 ·exact aX (x:=0) (by decide) (by decide)
 ·rfl

omit hn ha hw in
theorem O6 (r i:Nat) (hi:i<r+2):n9 a r i (if i+1≤r+1 then i+1 else r+1)=n9 a r (i+1) 0:=by
 refine nW (fun q hq=> ?_)
 by_cases c:q<i
 ·rw[if_pos c,if_pos (by omega)]
 ·by_cases e:q=i
  ·rw[if_neg c,if_pos e,OZ r (bE a) i hi,if_pos (show q<i+1 by omega),e]
  ·rw[if_neg c,if_neg e,if_neg (by omega)]
   by_cases e2:q=i+1
   ·rw[if_pos e2]
    exact(aX (x:=0) (by decide) (by decide)).symm
   ·rw[if_neg e2]

omit hn ha hw in
theorem O7 (r i j:Nat) (hi:i<r+2):(n9 a r i j).set i (wrap64 (rd (n9 a r i j) (i:Int)+wrap64 (wrap64 (tu r (bE a) (i - j))*wrap64 (ch r (bE a) j))))=n9 a r i (j+1):=by
 unfold n9;rw[jK _ hi,if_neg (by omega),if_pos rfl,DG,r7,Ak _ _ hi];refine nW (fun q hq=> ?_)
 by_cases e:q=i
 ·rw[if_pos e,if_neg (by omega),if_pos e]
  rfl
 ·rw[if_neg e]
  by_cases c:q<i
  ·rw[if_pos c,if_pos c]
  ·rw[if_neg c,if_neg c,if_neg e,if_neg e]

omit ha hw in
/-- One number of those of one row more. -/
theorem O8 (r i:Nat) (hr:r<n) (hi:i<r+2) (res:List Int) (h:Ev (fun f=>cy.l5 f a (dS r (bE a) (r+1)) (r:Int) (ny a r (r+2)) (n9 a r (i+1) 0) ((i+1:Nat):Int)) res):
  ∀(d j:Nat),j+d=(if i+1≤r+1 then i+1 else r+1)→Ev (fun f=>cy.l6 f a (dS r (bE a) (r+1)) (r:Int) (ny a r (r+2)) (n9 a r i j) (i:Int) (j:Int)) res:=by
 have O3:(dS r (bE a) (r+1)).length=r+1:=gm _ _;have U7:(ny a r (r+2)).length=r+2:=gm _ _;intro d
 induction d with
 | zero=>
  intro j hj;rw[← O6 a r i hi]at h;have e:j=(if i+1≤r+1 then i+1 else r+1):=by omega
  rw[← e]at h;refine Ev.succ ?_;simp only[cy.l6];rw[dI (i:=i) (by omega)]
  by_cases c:(j:Int)<((r+1:Nat):Int)
  ·have c2: ¬(j:Int)≤(i:Int):=by
    split at e<;>omega
   repeat (first | with_reducible exact Ev.now _ | dsimp only | refine Ev.bZ ?_ | refine Ev.cj ?_ | simp only[bne_self_eq_false,Bool.not_true,Bool.not_false,List.length_cons,List.length_nil] | rw[aX (by omega) (by omega)] | ((with_reducible refine Ev.eq (congrArg some ?_));rfl))
   exact h
  ·repeat (first | with_reducible exact Ev.now _ | dsimp only | refine Ev.bZ ?_ | refine Ev.cj ?_ | simp only[bne_self_eq_false,Bool.not_true,Bool.not_false,List.length_cons,List.length_nil] | rw[aX (by omega) (by omega)] | ((with_reducible refine Ev.eq (congrArg some ?_));rfl))
   exact h
 | succ d ih=>
  intro j hj;have h1:=ih (j+1) (by omega);have U8:j<r+1∧j≤i:=by split at hj<;>omega
  have U9:(n9 a r i j).length=r+2:=gm _ _;have e1:rd (ny a r (r+2)) (((i - j:Nat)):Int)=wrap64 (tu r (bE a) (i - j)):=jK _ (by omega);have e2:rd (dS r (bE a) (r+1)) (j:Int)=wrap64 (ch r (bE a) j):=jK _ (by omega);rw[← O7 a r i j hi]at h1;refine Ev.succ ?_;simp only[cy.l6];rw[aX (x:=(i:Int) - j) (by omega) (by omega),show(i:Int) - j=((i - j:Nat):Int) by omega,e1,e2,dI (i:=j) (by omega),Int.toNat_natCast]
  repeat (first | with_reducible exact Ev.now _ | dsimp only | refine Ev.bZ ?_ | refine Ev.cj ?_ | simp only[bne_self_eq_false,Bool.not_true,Bool.not_false,List.length_cons,List.length_nil] | rw[aX (by omega) (by omega)] | ((with_reducible refine Ev.eq (congrArg some ?_));rfl))
  exact h1

omit ha hw in
theorem O9 (r:Nat) (hr:r<n) (res:List Int) (h:Ev (fun f=>cy.l0 f a (dS (r+1) (bE a) (r+2)) ((r+1:Nat):Int)) res):
  ∀(d i:Nat),i+d=r+2→Ev (fun f=>cy.l5 f a (dS r (bE a) (r+1)) (r:Int) (ny a r (r+2)) (n9 a r i 0) (i:Int)) res:=by
 intro d
 induction d with
 | zero=>
  intro i hi;obtain rfl:i=r+2:=by omega
  have e:n9 a r (r+2) 0=dS (r+1) (bE a) (r+2):=nW (fun q hq=>if_pos hq);have hl:(dS (r+1) (bE a) (r+2)).length=r+2:=gm _ _;rw[e];refine Ev.succ ?_;simp only[cy.l5];rw[dI (i:=r) (by omega)]
  repeat (first | with_reducible exact Ev.now _ | dsimp only | refine Ev.bZ ?_ | refine Ev.cj ?_ | simp only[bne_self_eq_false,Bool.not_true,Bool.not_false,List.length_cons,List.length_nil] | rw[aX (by omega) (by omega)] | ((with_reducible refine Ev.eq (congrArg some ?_));rfl))
  exact h
 | succ d ih=>
  intro i hi;have h1:=ih (i+1) (by omega);have hl:(n9 a r i 0).length=r+2:=gm _ _;have h2:=O8 n hn a r i hr (by omega) res h1 _ 0 (Nat.zero_add _);refine Ev.succ ?_;simp only[cy.l5]
  repeat (first | with_reducible exact Ev.now _ | dsimp only | refine Ev.bZ ?_ | refine Ev.cj ?_ | simp only[bne_self_eq_false,Bool.not_true,Bool.not_false,List.length_cons,List.length_nil] | rw[aX (by omega) (by omega)] | ((with_reducible refine Ev.eq (congrArg some ?_));rfl))
  exact h2

theorem Pa: ∀(d r:Nat),r+d=n→Ev (fun f=>cy.l0 f a (dS r (bE a) (r+1)) (r:Int)) (dx (dS n (bE a) (n+1)) (n+1)):=by
 have hal:=ha.1;intro d
 induction d with
 | zero=>
  intro r hr;obtain rfl:r=n:=by omega
  have hl:(dS r (bE a) (r+1)).length=r+1:=gm _ _;have h1:=C8 (dS r (bE a) (r+1)) (by omega);rw[hl]at h1;refine Ev.succ ?_;simp only[cy.l0]
  repeat (first | with_reducible exact Ev.now _ | dsimp only | with_reducible refine Ev.bind (h1) ?_ | refine Ev.bZ ?_ | refine Ev.cj ?_ | simp only[bne_self_eq_false,Bool.not_true,Bool.not_false,List.length_cons,List.length_nil] | rw[aX (by omega) (by omega)] | with_reducible exact(h1) | ((with_reducible refine Ev.eq (congrArg some ?_));rfl))
 | succ d ih=>
  intro r hr;have h1:=ih (r+1) (by omega);have hrow:=ha.2 r (by omega);have h2:=O9 n hn a r (by omega) _ h1 (r+2) 0 (by omega);rw[O5]at h2;have h3:=O4 n hn a ha r (by omega) _ _ h2 r 0 (by omega);have h4:=O0 n hn a ha hw r (by omega) _ _ _ h3 r 0 (by omega);have e1:ny a r (0+2)= [1,wrap64 (-(rd (af a (r:Int)) (r:Int)))]:=by
   show[wrap64 1,wrap64 (-(bE a r r))]=_
   rw[show wrap64 1=1 from aX (by decide) (by decide)]
   rfl
  have e2:jM a r 0 0= []:=rfl;rw[e1,e2]at h4;refine Ev.succ ?_;simp only[cy.l0]
  repeat (first | with_reducible exact Ev.now _ | dsimp only | refine Ev.bZ ?_ | refine Ev.cj ?_ | simp only[bne_self_eq_false,Bool.not_true,Bool.not_false,List.length_cons,List.length_nil] | rw[aX (by omega) (by omega)] | ((with_reducible refine Ev.eq (congrArg some ?_));rfl))
  exact h4

theorem GJ:Ev (fun f=>cy.f f a) (dx (dS n (bE a) (n+1)) (n+1)):=by
 have h:=Pa n hn a ha hw n 0 (by omega);have e:dS 0 (bE a) (0+1)= [1]:=by
  show[wrap64 1]= [1]
  rw[aX (by decide) (by decide)]
 unfold cy.f;rw[e]at h;exact h

end
/-- All the list's numbers are these behind wrapping, and none beyond it. -/
def mP (xs:List Int) (q:Nat→Int):Prop:=∀j:Nat,rd xs (j:Int)=wrap64 (q j)

theorem Pc (ys:List Int) (j:Nat):rd (ys++[0]) (j:Int)=rd ys (j:Int):=by
 by_cases h:j<ys.length
 ·rw[iw (by simp;omega),iw h,List.getElem_append_left h]
 ·by_cases e:j=ys.length
  ·subst e
   rw[iw (by simp),lX (Nat.le_refl _)];simp
  ·rw[lX (by simp;omega),lX (by omega)]

theorem mP.snoc {ys:List Int} {q:Nat→Int} (h:mP ys q):mP (ys++[0]) q:=fun j=>by rw[Pc];exact h j

theorem mP.put {ys:List Int} {q:Nat→Int} (h:mP ys q) {m:Nat} (hm:m<ys.length) (s a b:Int):mP (ys.set m (wrap64 (rd ys (m:Int)+wrap64 (wrap64 (s*a)*b)))) (fun j=>q j+if j=m then s*a*b else 0):=by
 intro j;rw[qV hm]
 show _=wrap64 (q j+if j=m then s*a*b else 0)
 by_cases e:j=m
 ·rw[if_pos e,if_pos e,e,h m,r7,HX (s*a) b |> fun z=>yy (a:=q m) rfl z]
 ·rw[if_neg e,if_neg e,h j,Int.add_zero]

theorem HZ {xs:List (List Int)} {t:Nat} (v:List Int) (h:t<xs.length):af (xs.set t v) (t:Int)=v:=by rw[vZ h,if_pos rfl]

theorem Pg {xs:List (List Int)} {t:Nat} (h:t<xs.length):xs.set t (af xs (t:Int))=xs:=by
 rw[jH h];exact List.set_getElem_self h

section
variable (n:Nat) (X:List (List (List Int))) (b0 b1 b2:Nat→Nat→Int)

/-- The numbers that the list for a set stands for when columns below c of the set s are done. -/
def qq (s c t j:Nat):Int:=
 match dn t n with
 | 0=>if j=0 then 1 else 0
 | r+1=>Sm n (fun d=>if t.testBit d=true∧(er t d<s∨(er t d=s∧d<c)) then sg (iK n t d)*lY (b0 r d) (b1 r d) (b2 r d) (lF n b0 b1 b2 r (er t d)) j else 0)

theorem H6 {t d:Nat} (h:t.testBit d=true):er t d<t:=by
 have h1:=HW t d h;have h2:0<2 ^ d:=Nat.two_pow_pos d;unfold er
 omega

theorem H7 (s t r:Nat) (hs:t≤s) (hr:dn t n=r):qq n b0 b1 b2 s 0 t=lF n b0 b1 b2 r t:=by
 funext j
 unfold qq;cases r with
 | zero=>rw[hr];rfl
 | succ r=>
  rw[hr];refine bK (fun d _=> ?_)
  by_cases e:t.testBit d=true
  ·rw[if_pos ⟨e,Or.inl (by have:=H6 e;omega)⟩,if_pos e]
  ·rw[if_neg (fun z=>e z.1),if_neg e]

theorem Ph (s t:Nat):qq n b0 b1 b2 s n t=qq n b0 b1 b2 (s+1) 0 t:=by
 funext j
 unfold qq;cases dn t n with
 | zero=>rfl
 | succ r=>
  refine bK (fun d hd=> ?_)
  by_cases e:t.testBit d=true∧(er t d<s∨(er t d=s∧d<n))
  ·rw[if_pos e,if_pos ⟨e.1,by have:=e.2;omega⟩]
  ·rw[if_neg e,if_neg (fun z=>e ⟨z.1,by have:=z.2;omega⟩)]

theorem H8 (s c t:Nat) (h:t.testBit c=true→er t c≠s):qq n b0 b1 b2 s (c+1) t=qq n b0 b1 b2 s c t:=by
 funext j
 unfold qq;cases dn t n with
 | zero=>rfl
 | succ r=>
  refine bK (fun d hd=> ?_)
  by_cases e:t.testBit d=true∧(er t d<s∨(er t d=s∧d<c))
  ·rw[if_pos e,if_pos ⟨e.1,by have:=e.2;omega⟩]
  ·rw[if_neg e,if_neg (fun z=> ?_)]
   by_cases ed:d=c
   ·subst ed
    have h1:=h z.1;exact e ⟨z.1,by have:=z.2;omega⟩
   ·exact e ⟨z.1,by have:=z.2;omega⟩

theorem Pj (s c t r:Nat) (hc:c<n) (hb:t.testBit c=true) (he:er t c=s) (hr:dn t n=r+1) (j:Nat):qq n b0 b1 b2 s (c+1) t j=qq n b0 b1 b2 s c t j+sg (iK n t c)*lY (b0 r c) (b1 r c) (b2 r c) (lF n b0 b1 b2 r s) j:=by
 unfold qq;rw[hr]
 show Sm n _=Sm n _+_
 rw[← mH n (fun d=>sg (iK n t d)*lY (b0 r d) (b1 r d) (b2 r d) (lF n b0 b1 b2 r s) j) hc,← gz];refine bK (fun d hd=> ?_)
 by_cases ed:d=c
 ·subst ed
  rw[if_pos ⟨hb,Or.inr ⟨he,by omega⟩⟩,if_neg (fun z=>by have:=z.2;omega),if_pos rfl,he,Int.one_mul,Int.zero_add]
 ·rw[if_neg ed,Int.zero_mul,Int.add_zero]
  by_cases e:t.testBit d=true∧(er t d<s∨(er t d=s∧d<c))
  ·rw[if_pos e,if_pos ⟨e.1,by have:=e.2;omega⟩]
  ·rw[if_neg e,if_neg (fun z=>e ⟨z.1,by have:=z.2;omega⟩)]

theorem AB (x y z:Int) (a:Nat→Int) (j:Nat):lY x y z a j=x*a j+(if 1≤j then y*a (j - 1) else 0)+(if 2≤j then z*a (j - 2) else 0):=by
 unfold lY lI
 by_cases c0:j=0
 ·subst c0
  simp
 ·rw[if_neg c0,if_neg c0,if_pos (show 1≤j by omega),Int.zero_mul,Int.zero_add,Int.one_mul,Int.zero_mul,Int.zero_add]
  by_cases c1:j=1
  ·subst c1
   simp
  ·rw[if_neg (show ¬j - 1=0 by omega),if_neg c0,if_pos (show 2≤j by omega),show j - 1 - 1=j - 2 by omega]

theorem Pk (x y z:Int) (a b:Nat→Int) (h: ∀j,wrap64 (a j)=wrap64 (b j)) (j:Nat):wrap64 (lY x y z a j)=wrap64 (lY x y z b j):=by
 rw[AB,AB];refine yy (yy (AQ rfl (h j)) ?_) ?_
 ·split
  ·exact AQ rfl (h _)
  ·rfl
 ·split
  ·exact AQ rfl (h _)
  ·rfl

/-- What the i first numbers add. -/
def gg (A:List Int) (y0 y1 y2:Int) (i j:Nat):Int:=Sm i (fun p=>rd A (p:Int)*((if j=p then y0 else 0)+(if j=p+1 then y1 else 0)+(if j=p+2 then y2 else 0)))

theorem DH (A:List Int) (y:Int) (m j:Nat):Sm A.length (fun p=>rd A (p:Int)*(if j=p+m then y else 0))=if m≤j then y*rd A ((j - m:Nat):Int) else 0:=by
 by_cases c:m≤j
 ·rw[if_pos c]
  by_cases d:j - m<A.length
  ·rw[bK (g:=fun p=>(if p=j - m then 1 else 0)*(y*rd A (p:Int))) (fun p _=>by
    by_cases e:j=p+m
    ·rw[if_pos e,if_pos (by omega),Int.one_mul,Int.mul_comm]
    ·rw[if_neg e,if_neg (by omega),Int.zero_mul,Int.mul_zero]),mH A.length (fun p=>y*rd A (p:Int)) d]
  ·rw[bK (g:=fun _=>0) (fun p hp=>by rw[if_neg (by omega),Int.mul_zero]),jR,lX (by omega),Int.mul_zero]
 ·rw[if_neg c,bK (g:=fun _=>0) (fun p hp=>by rw[if_neg (by omega),Int.mul_zero]),jR]

theorem Pm (A:List Int) (y0 y1 y2:Int) (j:Nat):gg A y0 y1 y2 A.length j=lY y0 y1 y2 (fun p=>rd A (p:Int)) j:=by
 unfold gg;rw[bK (g:=fun p=>(rd A (p:Int)*(if j=p+0 then y0 else 0)+rd A (p:Int)*(if j=p+1 then y1 else 0))+rd A (p:Int)*(if j=p+2 then y2 else 0)) (fun p _=>by rw[Int.mul_add,Int.mul_add];rfl),gz,gz,DH,DH,DH,AB,if_pos (Nat.zero_le j),Nat.sub_zero]

/-- One number more: the row grows and gets a sum. -/
theorem Pn (xs:List (List Int)) (tt:Nat) (hto:tt<xs.length) (hx:xs.length≤256) (i m L:Nat) (hm:i+m<L) (hL:L≤1000) (x5 x7 x8 cR s a b gC fP iF x43:Int) (A:List Int) (mQ:Int) (qZ:List Int) (sy:Int) (q:Nat→Int) (R:List Int)
  (hk: ∀zs:List Int,zs.length≤L→mP zs (fun j=>q j+if j=i+m then s*a*b else 0)→Ev (fun k=>cA.l5 k X x5 (xs.set tt zs) x7 x8 cR s (tt:Int) (i:Int) a gC fP iF x43 A mQ (i:Int) qZ sy ((m+1:Nat):Int)) R):
  ∀(d:Nat) (ys:List Int),d=i+m+1 - ys.length→ys.length≤L→mP ys q→Ev (fun k=>cA.l6 k X x5 (xs.set tt ys) x7 x8 cR s (tt:Int) (i:Int) a (m:Int) b gC fP iF x43 A mQ (i:Int) qZ sy (m:Int)) R:=by
 intro d
 induction d with
 | zero=>
  intro ys hd hy hr;have h1:=hk (ys.set (i+m) (wrap64 (rd ys ((i+m:Nat):Int)+wrap64 (wrap64 (s*a)*b)))) (by rw[List.length_set];exact hy) (hr.put (by omega) s a b);have hl:(xs.set tt ys).length=xs.length:=List.length_set;refine Ev.succ ?_;simp only[cA.l6];rw[HZ ys hto,aX (x:=(i:Int)+(m:Int)) (by omega) (by omega),show(i:Int)+(m:Int)=((i+m:Nat):Int) by omega,dI (i:=m) (by omega),Int.toNat_natCast,Int.toNat_natCast];have e9: ∀v:List Int,(xs.set tt ys).set tt v=xs.set tt v:=fun v=>List.set_set ..
  rw[← e9]at h1;refine Ev.pos (by omega) (Ev.pos (by omega) (Ev.neg (by omega) (Ev.pos (by omega) (Ev.pos (by omega) ?_))));exact Ev.bind (Ev.eq (show uc.f _=some _ from rfl)) h1
 | succ d ih=>
  intro ys hd hy hr;have h1:=ih (ys++[0]) (by simp;omega) (by simp;omega) hr.snoc;have hl:(xs.set tt ys).length=xs.length:=List.length_set;refine Ev.succ ?_;simp only[cA.l6];rw[HZ ys hto,aX (x:=(i:Int)+(m:Int)) (by omega) (by omega),Int.toNat_natCast,List.set_set];exact Ev.pos (by omega) (Ev.pos (by omega) (Ev.pos (by omega) (Ev.pos (by omega) h1)))

/-- One number times a row's cell. -/
theorem Po (xs:List (List Int)) (tt:Nat) (hto:tt<xs.length) (hx:xs.length≤256) (i L:Nat) (hm:i+3≤L) (hL:L≤1000) (x5 x7 x8 cR s a gC fP iF x43:Int) (A:List Int) (mQ:Int) (B:List Int) (hB:B.length=3) (q:Nat→Int) (R:List Int)
  (hk: ∀zs:List Int,zs.length≤L→mP zs (fun j=>q j+Sm 3 (fun m=>if j=i+m then s*a*rd B (m:Int) else 0))→Ev (fun k=>cA.l4 k X x5 (xs.set tt zs) x7 x8 cR s (tt:Int) gC fP iF x43 A mQ ((i+1:Nat):Int)) R):
  ∀(d m:Nat) (ys:List Int),m+d=3→ys.length≤L→mP ys (fun j=>q j+Sm m (fun m=>if j=i+m then s*a*rd B (m:Int) else 0))→Ev (fun k=>cA.l5 k X x5 (xs.set tt ys) x7 x8 cR s (tt:Int) (i:Int) a gC fP iF x43 A mQ (i:Int) B (B.length:Int) (m:Int)) R:=by
 intro d
 induction d with
 | zero=>
  intro m ys hd hy hr;obtain rfl:m=3:=by omega
  have h1:=hk ys hy hr;refine Ev.succ ?_;simp only[cA.l5];rw[dI (i:=i) (by omega)];exact Ev.neg (by omega) h1
 | succ d ih=>
  intro m ys hd hy hr;have h1:=Pn X xs tt hto hx i m L (by omega) hL x5 x7 x8 cR s a (rd B (m:Int)) gC fP iF x43 A mQ B (B.length:Int) _ R (fun zs hz sA=>ih (m+1) zs (by omega) hz (fun j=>by rw[sA j];congr 1;exact Int.add_assoc _ _ _)) (i+m+1 - ys.length) ys rfl hy hr;refine Ev.succ ?_;simp only[cA.l5];exact Ev.pos (by omega) (Ev.pos (by omega) (Ev.pos (by omega) h1))

/-- One row times a cell. -/
theorem Pq (xs:List (List Int)) (tt:Nat) (hto:tt<xs.length) (hx:xs.length≤256) (r c L:Nat) (hL:L≤1000) (x5 x7 s gC fP iF:Int) (hc:c<8) (A:List Int) (hA:A.length+2≤L) (y0 y1 y2:Int) (hr:r<X.length) (hcr:c<(gA X (r:Int)).length) (hB:af (gA X (r:Int)) (c:Int)= [y0,y1,y2]) (q:Nat→Int) (R:List Int)
  (hk: ∀zs:List Int,zs.length≤L→mP zs (fun j=>q j+s*gg A y0 y1 y2 A.length j)→Ev (fun k=>cA.l2 k X x5 (xs.set tt zs) x7 (r:Int) gC fP iF ((c+1:Nat):Int)) R):
  ∀(d i:Nat) (ys:List Int),i+d=A.length→ys.length≤L→mP ys (fun j=>q j+s*gg A y0 y1 y2 i j)→Ev (fun k=>cA.l4 k X x5 (xs.set tt ys) x7 (r:Int) (c:Int) s (tt:Int) gC fP iF (c:Int) A (A.length:Int) (i:Int)) R:=by
 intro d
 induction d with
 | zero=>
  intro i ys hd hy sA;obtain rfl:i=A.length:=by omega
  have h1:=hk ys hy sA;refine Ev.succ ?_;simp only[cA.l4];rw[dI (i:=c) (by omega)];exact Ev.neg (by omega) h1
 | succ d ih=>
  intro i ys hd hy sA;have h1:=Po X xs tt hto hx i L (by omega) hL x5 x7 (r:Int) (c:Int) s (rd A (i:Int)) gC fP iF (c:Int) A (A.length:Int) [y0,y1,y2] rfl (fun j=>q j+s*gg A y0 y1 y2 i j) R (fun zs hz U7=>ih (i+1) zs (by omega) hz (fun j=>by
   rw[U7 j]
   congr 1
   show q j+s*gg A y0 y1 y2 i j+(0+(if j=i+0 then s*rd A (i:Int)*y0 else 0)+(if j=i+1 then s*rd A (i:Int)*y1 else 0)+(if j=i+2 then s*rd A (i:Int)*y2 else 0))=q j+s*(gg A y0 y1 y2 i j+rd A (i:Int)*((if j=i then y0 else 0)+(if j=i+1 then y1 else 0)+(if j=i+2 then y2 else 0)))
   rw[Nat.add_zero]
   split<;>split<;>split<;>grind)) 3 0 ys rfl hy (fun j=>by rw[sA j];congr 1;exact(Int.add_zero _).symm)
  refine Ev.succ ?_;simp only[cA.l4];rw[hB];exact Ev.pos (by omega) (Ev.pos (by omega) (Ev.pos (by omega) (Ev.pos (by omega) (Ev.pos (by omega) (Ev.pos (by omega) (Ev.pos (by omega) h1))))))

/-- All lists stand for their sums. -/
def Inv (s c:Nat) (xs:List (List Int)):Prop:=xs.length=2 ^ n∧∀t:Nat,t<2 ^ n→(af xs (t:Int)).length≤2*dn t n+1∧mP (af xs (t:Int)) (qq n b0 b1 b2 s c t)

/-- Rows of cells of three numbers. -/
def G1:Prop:=X.length=n∧∀r:Nat,r<n→(gA X (r:Int)).length=n∧∀c:Nat,c<n→af (gA X (r:Int)) (c:Int)= [b0 r c,b1 r c,b2 r c]

variable (hn:n≤8) (hX:G1 n X b0 b1 b2)
include hn hX

theorem Pv (xs:List (List Int)) (hxl:xs.length=2 ^ n) (s c:Nat) (hs:s<2 ^ n) (hc:c<n) (hb:s.testBit c=false) (r gC fP iF x43:Int) (R:List Int)
  (hk:Ev (fun k=>cA.l4 k X (n:Int) xs (s:Int) r (c:Int) (sg (iK n s c)) ((s+2 ^ c:Nat):Int) gC fP iF x43 (af xs (s:Int)) ((af xs (s:Int)).length:Int) 0) R):
  ∀(d e:Nat),e+d=n→c+1≤e→Ev (fun k=>cA.l3 k X (n:Int) xs (s:Int) r (c:Int) (sg (dn s e - dn s (c+1))) (e:Int) gC fP iF x43) R:=by
 have hp:=(sn n hn).2;intro d
 induction d with
 | zero=>
  intro e hd he;obtain rfl:e=n:=by omega
  have h2:0<2 ^ c:=Nat.two_pow_pos c;refine Ev.succ ?_;simp only[cA.l3];rw[(HU s c (by omega) (by omega) hb).1,Int.toNat_natCast,Int.toNat_natCast];exact Ev.neg (by omega) (Ev.pos (by omega) (Ev.pos (by omega) (Ev.pos (by omega) (Ev.neg (by omega) hk))))
 | succ d ih=>
  intro e hd he;have h1:=ih (e+1) (by omega) (by omega);have hm:=DD s he;rw[show dn s (e+1)=dn s e+(if s.testBit e then 1 else 0) from rfl]at h1;refine Ev.succ ?_;simp only[cA.l3];rw[DF s e (by omega) (by omega),dI (i:=e) (by omega)];refine Ev.pos (by omega) (Ev.pos (by omega) ?_)
  by_cases b:s.testBit e=true
  ·rw[if_pos b]at h1
   rw[if_pos b];refine Ev.pos rfl ?_;rw[show wrap64 (-(sg (dn s e - dn s (c+1))))=sg (dn s e+1 - dn s (c+1)) from by
    rw[show dn s e+1 - dn s (c+1)=dn s e - dn s (c+1)+1 by omega,HE];unfold sg
    split
    ·exact aX (by decide) (by decide)
    ·exact aX (by decide) (by decide)]
   exact h1
  ·rw[if_neg b,Nat.add_zero]at h1
   rw[if_neg b];exact Ev.neg (by decide) h1

theorem Px (s:Nat) (hs:s<2 ^ n) (R:List Int) (hk: ∀xs:List (List Int),Inv n b0 b1 b2 (s+1) 0 xs→Ev (fun k=>cA.l0 k X (n:Int) xs ((2 ^ n:Nat):Int) ((s+1:Nat):Int)) R):
  ∀(d c:Nat) (xs:List (List Int)),c+d=n→Inv n b0 b1 b2 s c xs→Ev (fun k=>cA.l2 k X (n:Int) xs (s:Int) ((dn s n:Nat):Int) ((2 ^ n:Nat):Int) (s:Int) (n:Int) (c:Int)) R:=by
 have hp:=(sn n hn).2;intro d
 induction d with
 | zero=>
  intro c xs hd hi;obtain rfl:c=n:=by omega
  have h1:=hk xs ⟨hi.1,fun t ht=>⟨(hi.2 t ht).1,by rw[← Ph];exact(hi.2 t ht).2⟩⟩;refine Ev.succ ?_;simp only[cA.l2];rw[dI (i:=s) (by omega)];exact Ev.neg (by omega) h1
 | succ d ih=>
  intro c xs hd hi;refine Ev.succ ?_;simp only[cA.l2];rw[DF s c (by omega) (by omega),dI (i:=c) (by omega)];refine Ev.pos (by omega) (Ev.pos (by omega) ?_)
  by_cases b:s.testBit c=true
  ·rw[if_pos b]
   refine Ev.pos rfl (ih (c+1) xs (by omega) ⟨hi.1,fun t ht=>⟨(hi.2 t ht).1, ?_⟩⟩);rw[H8]
   ·exact(hi.2 t ht).2
   ·intro hb he
    have:=CX n t c c hn ht (by omega) hb;rw[he,b]at this;simp at this
  ·rw[if_neg b]
   refine Ev.neg (by decide) ?_;have b':s.testBit c=false:=by simpa using b
   have hto:=OH n s c hn hs (by omega) b';have htb:=(HU s c (by omega) (by omega) b').2;have hte:er (s+2 ^ c) c=s:=by unfold er;omega
   have ho: ∀d,s.testBit d=((s+2 ^ c).testBit d && d != c):=fun d=>by
    have:=CX n (s+2 ^ c) c d hn hto (by omega) htb;rw[hte]at this;exact this
   obtain⟨_,o1⟩:=DE htb ho n (by omega);obtain⟨_,o2⟩:=DE htb ho (c+1) (by omega);have hab:iK n (s+2 ^ c) c=iK n s c:=by unfold iK;omega
   have hpt:=HT (s+2 ^ c) n;have hrl:=hX.2 (dn s n) (by omega);have hsl:=(hi.2 s hs);have htl:=(hi.2 _ hto);have h4:=Pq X xs (s+2 ^ c) (by rw[hi.1];exact hto) (by rw[hi.1];exact hp) (dn s n) c (2*dn (s+2 ^ c) n+1) (by omega) (n:Int) (s:Int) (sg (iK n s c)) ((2 ^ n:Nat):Int) (s:Int) (n:Int) (by omega) (af xs (s:Int)) (by omega) (b0 (dn s n) c) (b1 (dn s n) c) (b2 (dn s n) c) (by rw[hX.1];omega) (by rw[hrl.1];omega) (hrl.2 c (by omega)) (qq n b0 b1 b2 s c (s+2 ^ c)) R (fun zs hz hr=>ih (c+1) (xs.set (s+2 ^ c) zs) (by omega) ⟨by rw[List.length_set];exact hi.1,fun t ht=>by
    rw[vZ (by rw[hi.1];exact hto)]
    by_cases et:t=s+2 ^ c
    ·rw[if_pos et,et]
     refine⟨hz,fun j=> ?_⟩;rw[hr j]
     show wrap64 (qq n b0 b1 b2 s c (s+2 ^ c) j+sg (iK n s c)*gg (af xs (s:Int)) (b0 (dn s n) c) (b1 (dn s n) c) (b2 (dn s n) c) (af xs (s:Int)).length j)=_
     rw[Pj n b0 b1 b2 s c (s+2 ^ c) (dn s n) (by omega) htb hte (by omega) j,hab,Pm];refine yy rfl (AQ rfl (Pk _ _ _ _ _ (fun p=> ?_) j));rw[hsl.2 p,wrap_wrap];have hq:qq n b0 b1 b2 s c s=qq n b0 b1 b2 s 0 s:=by
      funext j
      unfold qq;cases dn s n with
      | zero=>rfl
      | succ r=>
       refine bK (fun d hd=> ?_)
       by_cases e:s.testBit d=true
       ·have:=H6 e
        rw[if_pos ⟨e,by omega⟩,if_pos ⟨e,by omega⟩]
       ·rw[if_neg (fun z=>e z.1),if_neg (fun z=>e z.1)]
     rw[hq,H7 n b0 b1 b2 s s (dn s n) (Nat.le_refl _) rfl]
    ·rw[if_neg et,H8]
     ·exact hi.2 t ht
     ·intro hb he
      have:=HW t c hb;unfold er at he
      omega⟩) (af xs (s:Int)).length 0 (af xs ((s+2 ^ c:Nat):Int)) (by omega) htl.1 (fun j=>by rw[htl.2 j];congr 1;show _=_+_*0;omega)
   rw[Pg (by rw[hi.1];exact hto)]at h4;have h3:=Pv n X b0 b1 b2 hn hX xs hi.1 s c hs (by omega) b' ((dn s n:Nat):Int) ((2 ^ n:Nat):Int) (s:Int) (n:Int) (c:Int) R h4 (n - (c+1)) (c+1) (by omega) (Nat.le_refl _);rw[Nat.sub_self]at h3;exact h3

omit hX in
theorem Py (s:Nat) (hs:s<2 ^ n) (xs:List (List Int)) (R:List Int) (hk:Ev (fun k=>cA.l2 k X (n:Int) xs (s:Int) ((dn s n:Nat):Int) ((2 ^ n:Nat):Int) (s:Int) (n:Int) 0) R):
  ∀(d c:Nat),c+d=n→Ev (fun k=>cA.l1 k X (n:Int) xs (s:Int) ((dn s c:Nat):Int) ((2 ^ n:Nat):Int) (s:Int) (n:Int) (c:Int)) R:=by
 have hp:=(sn n hn).2;intro d
 induction d with
 | zero=>
  intro c hd;obtain rfl:c=n:=by omega
  refine Ev.succ ?_;simp only[cA.l1];exact Ev.neg (by omega) hk
 | succ d ih=>
  intro c hd;have h1:=ih (c+1) (by omega);have:=HT s c;rw[show dn s (c+1)=dn s c+(if s.testBit c then 1 else 0) from rfl]at h1;refine Ev.succ ?_;simp only[cA.l1];rw[DF s c (by omega) (by omega),dI (i:=c) (by omega)];refine Ev.pos (by omega) (Ev.pos (by omega) ?_)
  by_cases b:s.testBit c=true
  ·rw[if_pos b]at h1
   rw[if_pos b,dI (by omega)];exact h1
  ·rw[if_neg b]at h1
   rw[if_neg b,Int.add_zero,aX (by omega) (by omega)];exact h1

theorem Pz (R:List Int) (hR: ∀ys:List Int,ys.length≤2*n+1→mP ys (lF n b0 b1 b2 n (2 ^ n - 1))→Ev (fun k=>jl.f k ys) R):
  ∀(d s:Nat) (xs:List (List Int)),s+d=2 ^ n→Inv n b0 b1 b2 s 0 xs→Ev (fun k=>cA.l0 k X (n:Int) xs ((2 ^ n:Nat):Int) (s:Int)) R:=by
 have hp:=sn n hn;intro d
 induction d with
 | zero=>
  intro s xs hd hi;obtain⟨i1,i2⟩:=hi.2 (2 ^ n - 1) (by omega);have hf:=(G0 (2 ^ n - 1) n (fun d hd=>by rw[Nat.testBit_two_pow_sub_one];exact decide_eq_true hd)).1;rw[H7 n b0 b1 b2 s (2 ^ n - 1) n (by omega) hf]at i2;rw[hf]at i1;have h1:=hR _ i1 i2;refine Ev.succ ?_;simp only[cA.l0];rw[HV n hn,aX (x:=((2 ^ n:Nat):Int) - 1) (by omega) (by omega),show((2 ^ n:Nat):Int) - 1=((2 ^ n - 1:Nat):Int) by omega];have:=hi.1;exact Ev.neg (by omega) (Ev.pos (by omega) (Ev.pos (by omega) (Ev.pos (by omega) (Ev.bind h1 (Ev.now _)))))
 | succ d ih=>
  intro s xs hd hi;have h2:=Px n X b0 b1 b2 hn hX s (by omega) R (fun xs hi=>ih (s+1) xs (by omega) hi) n 0 xs (by omega) hi;have h1:=Py n X hn s (by omega) xs R h2 n 0 (by omega);refine Ev.succ ?_;simp only[cA.l0];exact Ev.pos (by omega) h1

theorem polynomials (R:List Int) (hR: ∀ys:List Int,ys.length≤2*n+1→mP ys (lF n b0 b1 b2 n (2 ^ n - 1))→Ev (fun k=>jl.f k ys) R):Ev (fun k=>cA.f k X) R:=by
 have hp:=sn n hn;have h0:=Pz n X b0 b1 b2 hn hX R hR (2 ^ n) 0 ((List.replicate (2 ^ n) ([]:List Int)).set 0 [1]) (by omega) ⟨by simp,fun t ht=>by
  rw[vZ (by simp;omega)]
  by_cases e:t=0
  ·subst e
   rw[if_pos rfl];have:dn 0 n=0:=by
    have: ∀n:Fin 9,dn 0 n.val=0:=by decide
    exact this ⟨n,by omega⟩
   refine⟨by simp,fun j=> ?_⟩;unfold qq;rw[this]
   show rd [1] (j:Int)=wrap64 (if j=0 then 1 else 0)
   by_cases c:j=0
   ·subst c
    rw[if_pos rfl,aX (by decide) (by decide)]
    rfl
   ·rw[if_neg c,lX (by simp;omega),aX (by decide) (by decide)]
  ·rw[if_neg e,jH (by simp;exact ht),List.getElem_replicate]
   refine⟨by simp,fun j=> ?_⟩;have hpt: ∀(n:Fin 9) (t:Fin 256),t.val<2 ^ n.val→dn t.val n.val=0→t.val=0:=by decide+kernel
   have h9:=hpt ⟨n,by omega⟩ ⟨t,by omega⟩ ht;rw[lX (by simp)];unfold qq;cases hq:dn t n with
   | zero=>exact absurd (h9 hq) e
   | succ r=>
    show 0=wrap64 (Sm n _)
    rw[bK (g:=fun _=>0) (fun d hd=>if_neg (fun z=>by have:=z.2;omega)),jR,aX (by decide) (by decide)]⟩
 unfold cA.f;rw[hX.1,HV n hn,Int.toNat_natCast];refine Ev.pos (by omega) (Ev.pos (by omega) (Ev.bind (Ev.now _) (Ev.pos (by rw[List.length_replicate];omega) ?_)));rw[List.length_replicate];exact h0

end
def flip (e:Nat):Nat:=if e % 2=0 then e+1 else e - 1

theorem flip_flip (e:Nat):flip (flip e)=e:=by
 unfold flip
 split<;>split<;>omega

theorem si {e m:Nat} (h:e<2*m):flip e<2*m:=by
 unfold flip
 split<;>omega

theorem PA (e:Nat):flip e≠e:=by
 unfold flip
 split<;>omega

/-- Of each pair before k: each column less u times the other one. -/
def jT (u:Int) (m:Nat→Nat→Int) (k i c:Nat):Int:=if c / 2<k then m i c - u*m i (flip c) else m i c

theorem PB (N c:Nat) (m:Nat→Nat→Int) (hc:c+1<N) (u:Int) (x y:Nat→Int):cl N (cQ (cQ m c (fun i=>1*x i+ -u*y i)) (c+1) (fun i=>1*y i+ -u*x i))=(1 - u*u)*cl N (cQ (cQ m c x) (c+1) y):=by
 have two: ∀x,cl N (cQ (cQ m c x) (c+1) x)=0:=fun x=>Du N _ c hc (fun i=>by
  unfold cQ;rw[if_neg (by omega),if_pos rfl,if_pos rfl])
 have left: ∀z,cl N (cQ (cQ m c (fun i=>1*x i+ -u*y i)) (c+1) z)=1*cl N (cQ (cQ m c x) (c+1) z)+ -u*cl N (cQ (cQ m c y) (c+1) z):=fun z=>by
  rw[qY m (show c≠c+1 by omega),sx N _ c 1 (-u) x y (by omega),qY m (show c+1≠c by omega),qY m (show c+1≠c by omega)]
 rw[sx N _ (c+1) 1 (-u) y x hc,left,left,two,two,HF N m c hc y x];generalize cl N (cQ (cQ m c x) (c+1) y)=d
 grind

theorem PD (m:Nat) (u:Int) (x:Nat→Nat→Int): ∀k,k≤m→cl (2*m) (jT u x k)=(1 - u*u) ^ k*cl (2*m) x:=by
 intro k
 induction k with
 | zero=>
  intro _;rw[Int.pow_zero,Int.one_mul];refine gJ _ _ _ (fun i c _ _=> ?_);unfold jT;rw[if_neg (by omega)]
 | succ k ih=>
  intro hk;have h:=PB (2*m) (2*k) (jT u x k) (by omega) u (fun i=>jT u x k i (2*k)) (fun i=>jT u x k i (2*k+1));have e1:cQ (cQ (jT u x k) (2*k) (fun i=>jT u x k i (2*k))) (2*k+1) (fun i=>jT u x k i (2*k+1))=jT u x k:=by rw[sw,sw]
  rw[e1,ih (by omega)]at h;rw[Int.pow_succ,Int.mul_comm ((1 - u*u) ^ k),Int.mul_assoc,← h];refine gJ _ _ _ (fun i c _ _=> ?_);have f1:flip (2*k+1)=2*k:=by unfold flip;split<;>omega
  have f2:flip (2*k)=2*k+1:=by unfold flip;split<;>omega
  have a1:jT u x k i (2*k)=x i (2*k):=if_neg (by omega);have a2:jT u x k i (2*k+1)=x i (2*k+1):=if_neg (by omega)
  by_cases c1:c=2*k+1
  ·subst c1
   unfold cQ;rw[if_pos rfl]
   show jT u x (k+1) i (2*k+1)=1*jT u x k i (2*k+1)+ -u*jT u x k i (2*k)
   rw[a1,a2];unfold jT;rw[if_pos (by omega),f1,Int.neg_mul]
   omega
  ·by_cases c2:c=2*k
   ·subst c2
    unfold cQ;rw[if_neg c1,if_pos rfl]
    show jT u x (k+1) i (2*k)=1*jT u x k i (2*k)+ -u*jT u x k i (2*k+1)
    rw[a1,a2];unfold jT;rw[if_pos (by omega),f2,Int.neg_mul]
    omega
   ·unfold cQ
    rw[if_neg c1,if_neg c2];unfold jT
    by_cases c3:c / 2<k
    ·rw[if_pos c3,if_pos (by omega)]
    ·rw[if_neg c3,if_neg (by omega)]

/-- The edge matrix. -/
def tm (b:Nat→Nat) (e f:Nat):Int:=if b f=b (flip e)∧f≠flip e then 1 else 0

section
variable (n m:Nat) (b:Nat→Nat) (hb: ∀e,e<2*m→b e<n)

/-- The edges from v to w, and those to v. -/
def av (v w:Nat):Int:=Sm (2*m) (fun f=>if b f=v∧b (flip f)=w then 1 else 0)
def yl (v:Nat):Int:=Sm (2*m) (fun f=>if b f=v then 1 else 0)

/-- The matrix by vertices: 1 - u A + u u (D - 1). -/
def vm (u:Int) (v w:Nat):Int:=eM v w - u*av m b v w+u*u*(if v=w then yl m b v - 1 else 0)

theorem PE (f:Nat→Int): ∀m,Sm (2*m) (fun e=>f (flip e))=Sm (2*m) f:=by
 intro m
 induction m with
 | zero=>rfl
 | succ m ih=>
  show Sm (2*m) (fun e=>f (flip e))+f (flip (2*m))+f (flip (2*m+1))=Sm (2*m) f+f (2*m)+f (2*m+1)
  have f1:flip (2*m+1)=2*m:=by unfold flip;split<;>omega
  have f2:flip (2*m)=2*m+1:=by unfold flip;split<;>omega
  rw[ih,f1,f2]
  omega

include hb

theorem MO (u:Int):(1 - u*u) ^ (2*m)*cl n (vm m b u)=(1 - u*u) ^ n*((1 - u*u) ^ m*cl (2*m) (xu (tm b) u)):=by
 rw[← PD m u (xu (tm b) u) m (Nat.le_refl _)];have h:=HS n (2*m) (1 - u*u) (fun v f=>u*((if b f=v then 1 else 0) - u*(if b (flip f)=v then 1 else 0))) (fun e v=>if b (flip e)=v then 1 else 0);rw[show cl n (vm m b u)=cl n (fun i k=>gK (1 - u*u) i k - Sm (2*m) (fun e=>u*((if b e=i then 1 else 0) - u*(if b (flip e)=i then 1 else 0))*(if b (flip e)=k then 1 else 0))) from ?_,h]
 ·congr 1
  refine gJ _ _ _ (fun e f he hf=> ?_);have e1:Sm n (fun v=>(if b (flip e)=v then (1:Int) else 0)*(u*((if b f=v then 1 else 0) - u*(if b (flip f)=v then 1 else 0))))=u*((if b f=b (flip e) then 1 else 0) - u*(if b (flip f)=b (flip e) then 1 else 0)):=by
   have:=mH n (fun v=>u*((if b f=v then (1:Int) else 0) - u*(if b (flip f)=v then 1 else 0))) (hb (flip e) (si he));rw[← this];refine bK (fun v _=> ?_);have e0:(if b (flip e)=v then (1:Int) else 0)=if v=b (flip e) then 1 else 0:=by
    by_cases c:b (flip e)=v
    ·rw[if_pos c,if_pos c.symm]
    ·rw[if_neg c,if_neg (fun z=>c z.symm)]
   rw[e0]
  rw[e1];have e2:f / 2<m:=by omega
  have e3:jT u (xu (tm b) u) m e f=xu (tm b) u e f - u*xu (tm b) u e (flip f):=if_pos e2;rw[e3];have g1:(e=flip f)=(f=flip e):=propext ⟨fun z=>by rw[z,flip_flip],fun z=>by rw[z,flip_flip]⟩;have g2:(flip f=flip e)=(e=f):=propext ⟨fun z=>by have:=congrArg flip z;rw[flip_flip,flip_flip]at this;exact this.symm,fun z=>by rw[z]⟩;have g3:e=f→f≠flip e:=fun z y=>PA e (by rw[← y,z])
  have g4:f=flip e→b f=b (flip e):=fun z=>by rw[z]
  have g5:e=f→b (flip f)=b (flip e):=fun z=>by rw[z]
  unfold xu gK eM ng tm;simp only[g1,g2,ne_eq];generalize b (flip f)=x1 at*;generalize b (flip e)=x2 at*;generalize b f=x3 at*
  by_cases c1:e=f
  ·have:=g3 c1
   have:=g5 c1;simp only[c1,if_true,this]
   grind
  ·by_cases c2:f=flip e
   ·have:=g4 c2
    grind
   ·grind
 ·refine gJ _ _ _ (fun v w _ _=> ?_)
  have e1:Sm (2*m) (fun e=>u*((if b e=v then (1:Int) else 0) - u*(if b (flip e)=v then 1 else 0))*(if b (flip e)=w then 1 else 0))=u*av m b v w+(-(u*u))*(if v=w then yl m b v else 0):=by
   have e2:(if v=w then yl m b v else 0)=Sm (2*m) (fun e=>(if b (flip e)=v then 1 else 0)*(if b (flip e)=w then 1 else 0)):=by
    by_cases c:v=w
    ·subst c
     rw[if_pos rfl];unfold yl;rw[← PE];refine bK (fun e _=> ?_)
     split<;>rfl
    ·rw[if_neg c,bK (g:=fun _=>0) (fun e _=> ?_),jR]
     by_cases c1:b (flip e)=v
     ·rw[if_neg (fun z=>c (c1.symm.trans z)),Int.mul_zero]
     ·rw[if_neg c1,Int.zero_mul]
   rw[e2];unfold av;rw[← e7,← e7,← gz];refine bK (fun e _=> ?_);generalize b e=x1;generalize b (flip e)=x2
   grind
  rw[e1];unfold vm gK eM
  by_cases c:v=w
  ·rw[if_pos c,if_pos c,if_pos c,if_pos c];grind
  ·rw[if_neg c,if_neg c,if_neg c,if_neg c];grind

end
theorem Ar (P:Nat→Prop) [DecidablePred P] (n:Nat) (h: ∀f g,f<n→g<n→P f→P g→f=g):Sm n (fun f=>if P f then 1 else 0)≤1:=by
 induction n with
 | zero=>exact(by decide:(0:Int)≤1)
 | succ n ih=>
  have h1:=ih (fun f g hf hg=>h f g (by omega) (by omega))
  show Sm n (fun f=>if P f then 1 else 0)+(if P n then 1 else 0)≤1
  by_cases c:P n
  ·have e:Sm n (fun f=>if P f then (1:Int) else 0)=0:=by
    rw[bK (g:=fun _=>0) (fun f hf=>if_neg (fun z=> ?_)),jR];have:=h f n (by omega) (by omega) z c
    omega
   rw[e,if_pos c]
   omega
  ·rw[if_neg c]
   omega

/-- The first place with the same number. -/
def rep (t:Nat→Nat) (q:Nat):Nat:=(List.range (q+1)).findIdx (fun j=>t j == t q)

theorem qR (t:Nat→Nat) (q:Nat):rep t q≤q∧t (rep t q)=t q∧∀j,j<rep t q→t j≠t q:=by
 have hx: ∃x∈List.range (q+1),(fun j=>t j == t q) x=true:=⟨q,List.mem_range.2 (by omega),by simp⟩;have h1:=List.findIdx_lt_length_of_exists hx;rw[List.length_range]at h1;refine⟨by unfold rep;omega, ?_,fun j hj e=> ?_⟩
 ·have:=List.findIdx_getElem (xs:=List.range (q+1)) (p:=fun j=>t j == t q) (w:=by rw[List.length_range];exact h1)
  rw[List.getElem_range]at this;exact eq_of_beq this
 ·have h2:=List.not_of_lt_findIdx (p:=fun j=>t j == t q) (xs:=List.range (q+1)) (i:=j) hj
  rw[List.getElem_range,e]at h2;simp at h2

theorem GP (t:Nat→Nat) (q:Nat):rep t (rep t q)=rep t q:=by
 obtain⟨h1,h2,h3⟩:=qR t q;obtain⟨g1,g2,g3⟩:=qR t (rep t q);rcases Nat.lt_or_ge (rep t (rep t q)) (rep t q) with c | c
 ·exact absurd (g2.trans h2) (h3 _ c)
 ·omega

/-- As many first places as numbers, at most. -/
theorem PF (t:Nat→Nat) (V n:Nat) (ht: ∀e,e<n→t e<V):Sm n (fun f=>if rep t f=f then 1 else 0)≤V:=by
 have e:Sm n (fun f=>if rep t f=f then (1:Int) else 0)=Sm V (fun v=>Sm n (fun f=>if rep t f=f∧t f=v then 1 else 0)):=by
  rw[lE];refine bK (fun f hf=> ?_)
  by_cases c:rep t f=f
  ·rw[if_pos c,bK (g:=fun v=>(if v=t f then 1 else 0)*1) (fun v _=> ?_),mH V (fun _=>1) (ht f hf)]
   by_cases c2:t f=v
   ·rw[if_pos ⟨c,c2⟩,if_pos c2.symm];rfl
   ·rw[if_neg (fun z=>c2 z.2),if_neg (fun z=>c2 z.symm)];rfl
  ·rw[if_neg c,bK (g:=fun _=>0) (fun v _=>if_neg (fun z=>c z.1)),jR]
 rw[e];have:=ye (n:=V) (f:=fun v=>Sm n (fun f=>if rep t f=f∧t f=v then (1:Int) else 0)) (b:=1) (fun v _=>Ar _ n (fun f g _ _ hf hg=>by
  obtain⟨f1,f2,f3⟩:=qR t f;obtain⟨g1,g2,g3⟩:=qR t g;rw[hf.1]at f3;rw[hg.1]at g3;rcases Nat.lt_trichotomy f g with c | c | c
  ·exact absurd (hf.2.trans hg.2.symm) (g3 f c)
  ·exact c
  ·exact absurd (hg.2.trans hf.2.symm) (f3 g c)))
 omega

section
variable (m:Nat) (hm:m≤10) (t:Nat→Nat) (s:Nat→Int) (hs: ∀f,s f=1∨s f= -1)

/-- The edge matrix with signs. -/
def sm (e f:Nat):Int:=s f*tm t e f

theorem GM (e f:Nat):tm t e f=0∨tm t e f=1:=by
 unfold tm
 split
 ·exact .inr rfl
 ·exact .inl rfl

def is (a b:Nat):Int:=if a=b then 1 else 0

theorem sj (n a:Nat) (h:a<n):Sm n (fun i=>is i a)=1:=by
 rw[← mH n (fun _=>1) h];exact bK (fun i _=>(Int.mul_one _).symm)

theorem Au (e f:Nat):tm t e f=(if t f=t (flip e) then 1 else 0) - is e (flip f):=by
 unfold tm is;have g1:(f=flip e)=(e=flip f):=propext ⟨fun z=>by rw[z,flip_flip],fun z=>by rw[z,flip_flip]⟩
 by_cases c:e=flip f
 ·rw[if_pos c,if_neg (fun z=>z.2 (by rw[g1];exact c)),if_pos (by rw[c,flip_flip])]
  rfl
 ·rw[if_neg c]
  by_cases c2:t f=t (flip e)
  ·rw[if_pos c2,if_pos ⟨c2,by rw[ne_eq,g1];exact c⟩];rfl
  ·rw[if_neg c2,if_neg (fun z=>c2 z.1)];rfl

include hs

theorem GQ (f:Nat) (hf:f<2*m) (hm:m≤10):cs (2*m) (fV (rep t) (fun f=>s f*s (rep t f)) eM (2*m)) (fV (rep t) (fun f=>s f*s (rep t f)) (ng (sm t s)) (2*m)) f≤if rep t f=f then 20 else 4:=by
 obtain⟨r1,r2,r3⟩:=qR t f
 by_cases c:rep t f=f
 ·rw[if_pos c]
  have e: ∀i,i<2*m→ab (fV (rep t) (fun f=>s f*s (rep t f)) eM (2*m) i f)+ab (fV (rep t) (fun f=>s f*s (rep t f)) (ng (sm t s)) (2*m) i f)≤1+is i f+ -1*is i (flip f):=by
   intro i hi;unfold fV;rw[if_neg (fun z=>z.2 c),if_neg (fun z=>z.2 c)];have hx:ab (ng (sm t s) i f)=tm t i f:=by
    unfold ng sm;have:=GM t i f;rcases hs f with e1 | e1<;>rcases this with e2 | e2<;>rw[e1,e2]<;>rfl
   rw[hx,Au];unfold eM is ab
   split<;>split<;>split<;>omega
  refine Int.le_trans (yj e) ?_;rw[gz,gz,e7,sj _ _ hf,sj _ _ (si hf)];have h2:Sm (2*m) (fun _=>(1:Int))≤((2*m:Nat):Int)*1:=ye (fun _ _=>Int.le_refl _)
  omega
 ·rw[if_neg c]
  have e: ∀i,i<2*m→ab (fV (rep t) (fun f=>s f*s (rep t f)) eM (2*m) i f)+ab (fV (rep t) (fun f=>s f*s (rep t f)) (ng (sm t s)) (2*m) i f)≤(is i f+is i (rep t f))+(is i (flip f)+is i (flip (rep t f))):=by
   intro i hi;unfold fV;rw[if_pos ⟨hf,c⟩,if_pos ⟨hf,c⟩];have hx:ab (ng (sm t s) i f - s f*s (rep t f)*ng (sm t s) i (rep t f))≤is i (flip f)+is i (flip (rep t f)):=by
    unfold ng sm;rw[Au,Au,r2];generalize (if t f=t (flip i) then (1:Int) else 0)=z;have a1:is i (flip f)=0∨is i (flip f)=1:=by unfold is;split<;>simp
    have a2:is i (flip (rep t f))=0∨is i (flip (rep t f))=1:=by unfold is;split<;>simp
    unfold ab;rcases hs f with e1 | e1<;>rcases hs (rep t f) with e2 | e2<;>rcases a1 with e3 | e3<;>rcases a2 with e4 | e4<;>rw[e1,e2,e3,e4]<;>omega
   show ab (eM i f - s f*s (rep t f)*eM i (rep t f))+ab (ng (sm t s) i f - s f*s (rep t f)*ng (sm t s) i (rep t f))≤_
   have hy:ab (eM i f - s f*s (rep t f)*eM i (rep t f))≤is i f+is i (rep t f):=by
    unfold eM is ab;rcases hs f with e1 | e1<;>rcases hs (rep t f) with e2 | e2<;>rw[e1,e2]<;>split<;>split<;>omega
   omega
  refine Int.le_trans (yj e) ?_;rw[gz,gz,gz,sj _ _ hf,sj _ _ (by omega),sj _ _ (si hf),sj _ _ (si (by omega))]
  decide

theorem LQ (hm:m≤10) (ht: ∀e,e<2*m→t e<8) (k:Nat) (hk:k≤2*m):ab ((k:Int)*ch (2*m) (sm t s) k)≤9223372036854775807:=by
 have h1:=GN (2*m) (rep t) (fun f=>s f*s (rep t f)) (sm t s) (fun f hf=>by have:=(qR t f).1;omega) (fun f _=>GP t f) k;have h2:Pr (2*m) (cs (2*m) (fV (rep t) (fun f=>s f*s (rep t f)) eM (2*m)) (fV (rep t) (fun f=>s f*s (rep t f)) (ng (sm t s)) (2*m)))≤Pr (2*m) (fun i=>if decide (rep t i=i) then 20 else 4):=Av (fun i _=>Aw _ _ _ _) (fun i hi=>by
  have:=GQ m t s hs i hi hm
  by_cases c:rep t i=i
  ·rw[if_pos c]at this
   rw[if_pos (decide_eq_true c)];exact this
  ·rw[if_neg c]at this
   rw[if_neg (by simpa using c)];exact this)
 obtain⟨p1,p2⟩:=GR (2*m) (fun i=>decide (rep t i=i));rw[p1]at h2;have h3:=PF t 8 (2*m) ht;have h3':Sm (2*m) (fun i=>if decide (rep t i=i)=true then (1:Int) else 0)≤8:=by
  rw[bK (g:=fun f=>if rep t f=f then (1:Int) else 0) (fun i _=>by simp)];exact h3
 generalize Sm (2*m) (fun i=>if decide (rep t i=i)=true then (1:Int) else 0)=x at*;have h4:(5:Int) ^ x.toNat≤390625:=by
  have: ∀i:Fin 9,(5:Int) ^ i.val≤390625:=by decide
  exact this ⟨x.toNat,by omega⟩
 have h5:(4:Int) ^ (2*m)≤1099511627776:=by
  have: ∀i:Fin 21,(4:Int) ^ i.val≤1099511627776:=by decide
  exact this ⟨2*m,by omega⟩
 have h6:(4:Int) ^ (2*m)*5 ^ x.toNat≤1099511627776*5 ^ x.toNat:=Int.mul_le_mul_of_nonneg_right h5 (Int.pow_nonneg (by decide));rw[wk];have h7:ab (k:Int)≤20:=by unfold ab;omega
 have h8:ab (k:Int)*ab (ch (2*m) (sm t s) k)≤20*ab (ch (2*m) (sm t s) k):=Int.mul_le_mul_of_nonneg_right h7 (kU _)
 omega

end
def small (x:Int):Bool:=decide (-1000000000000000≤x∧x≤1000000000000000)

def whole (l:List Int):Bool:=l.all small && decide (l.length≤40) && (l.getLast? != some 0)

theorem H9 (x:Int):qt.f x=some (small x):=by
 unfold qt.f;rw[mN]
 rfl

theorem Ia (l:List Int) (h:l≠[]):rd l ((l.length:Int) - 1)=l.getLast h:=by
 have hp:=List.length_pos_iff.2 h;have:(l.length:Int) - 1=((l.length - 1:Nat):Int):=by omega
 rw[this,iw (by omega),List.getLast_eq_getElem]

theorem PG (l:List Int) (hl:l.length≤1048576):Ev (fun _=>(if (l.length:Int)≤40 then (if (l.length:Int)=0 then (some true) else (if 0≤(wrap64 ((l.length:Int) - 1)) then (if (wrap64 ((l.length:Int) - 1))<(l.length:Int) then (some ((rd l (wrap64 ((l.length:Int) - 1))) != 0)) else (none)) else (none))) else (some false)))
  (decide (l.length≤40) && (l.getLast? != some 0)):=by
 by_cases h40:(l.length:Int)≤40
 ·rw[decide_eq_true (show l.length≤40 by omega),Bool.true_and]
  by_cases h0:(l.length:Int)=0
  ·have:l= []:=List.length_eq_zero_iff.1 (by omega)
   subst this;exact Ev.now _
  ·have hne:l≠[]:=fun e=>h0 (by rw[e];rfl)
   rw[aX (by omega) (by omega),Ia l hne,List.getLast?_eq_some_getLast hne];have:(some (l.getLast hne) != some 0)=(l.getLast hne != 0):=rfl;rw[this]
   repeat (first | with_reducible exact Ev.now _ | dsimp only | refine Ev.bZ ?_ | refine Ev.cj ?_ | simp only[bne_self_eq_false,Bool.not_true,Bool.not_false,List.length_cons,List.length_nil] | rw[aX (by omega) (by omega)] | ((with_reducible refine Ev.eq (congrArg some ?_));rfl))
 ·rw[decide_eq_false (show ¬l.length≤40 by omega),Bool.false_and]
  repeat (first | with_reducible exact Ev.now _ | dsimp only | refine Ev.bZ ?_ | refine Ev.cj ?_ | simp only[bne_self_eq_false,Bool.not_true,Bool.not_false,List.length_cons,List.length_nil] | rw[aX (by omega) (by omega)] | ((with_reducible refine Ev.eq (congrArg some ?_));rfl))

theorem PI (l:List Int) (hl:l.length≤1048576): ∀(d i:Nat),i+d=l.length→
  Ev (fun k=>mg.l0 k l l (l.length:Int) (i:Int)) ((l.drop i).all small && (decide (l.length≤40) && (l.getLast? != some 0))):=by
 intro d
 induction d with
 | zero=>
  intro i hi;refine Ev.succ ?_;simp only[mg.l0];rw[List.drop_eq_nil_of_le (by omega),List.all_nil,Bool.true_and];refine Ev.neg (by omega) ?_;exact PG l hl
 | succ d ih=>
  intro i hi;refine Ev.succ ?_;simp only[mg.l0];rw[List.drop_eq_getElem_cons (by omega:i<l.length),List.all_cons,iw (by omega),dI (by omega),H9];have:=ih (i+1) (by omega)
  by_cases h:small l[i]=true
  ·rw[h,Bool.true_and]
   repeat (first | with_reducible exact Ev.now _ | dsimp only | with_reducible refine Ev.bind (Ev.now _) ?_ | refine Ev.bZ ?_ | refine Ev.cj ?_ | simp only[bne_self_eq_false,Bool.not_true,Bool.not_false,List.length_cons,List.length_nil] | rw[aX (by omega) (by omega)] | with_reducible exact(Ev.now _) | ((with_reducible refine Ev.eq (congrArg some ?_));rfl))
   exact this
  ·rw[Bool.not_eq_true]at h
   rw[h,Bool.false_and,Bool.false_and]
   repeat (first | with_reducible exact Ev.now _ | dsimp only | with_reducible refine Ev.bind (Ev.now _) ?_ | refine Ev.bZ ?_ | refine Ev.cj ?_ | simp only[bne_self_eq_false,Bool.not_true,Bool.not_false,List.length_cons,List.length_nil] | rw[aX (by omega) (by omega)] | with_reducible exact(Ev.now _) | ((with_reducible refine Ev.eq (congrArg some ?_));rfl))

theorem Ib (l:List Int) (hl:l.length≤1048576):Ev (fun k=>mg.f k l) (whole l):=by
 unfold mg.f whole;rw[Bool.and_assoc];exact PI l hl l.length 0 (by omega)

theorem Ic {l:List Int} (h:whole l=true): ∀x∈l, -1000000000000000≤x∧x≤1000000000000000:=by
 unfold whole at h;rw[Bool.and_eq_true,Bool.and_eq_true,List.all_eq_true]at h;intro x hx;exact decide_eq_true_iff.1 (h.1.1 x hx)

theorem yt {l:List Int} (h:whole l=true):l.length≤40:=by
 unfold whole at h;rw[Bool.and_eq_true,Bool.and_eq_true]at h;exact decide_eq_true_iff.1 h.1.2

theorem PJ {l:List Int} (h:whole l=true):l.getLast?≠some 0:=by
 unfold whole at h;rw[Bool.and_eq_true]at h;exact bne_iff_ne.1 h.2
def big:Int:=1000000000000000

/-- a + b * c, and whether product and sum are small. -/
def more (a b c:Int):Int×Bool:=if -big≤b*c∧b*c≤big then (a+b*c,small (a+b*c)) else (0,false)

theorem Ie {a:Int} (h: -big≤a∧a≤big):mx a (wrap64 (-a))=a.natAbs:=by
 unfold big at h;rw[aX (by omega) (by omega)];unfold mx
 split<;>omega

theorem Ig {b c:Int} (hb:b≠0): ¬((c.natAbs:Int)>big.tdiv (b.natAbs:Int))↔(-big≤b*c∧b*c≤big):=by
 have hp:(0:Int)<(b.natAbs:Int):=by omega
 rw[Int.tdiv_eq_ediv_of_nonneg (by decide),Int.not_lt,Int.le_ediv_iff_mul_le hp];have:(c.natAbs:Int)*(b.natAbs:Int)=((b*c).natAbs:Int):=by
  rw[Int.natAbs_mul]
  push_cast
  exact Int.mul_comm _ _
 rw[this]
 omega

theorem PK {b:Int}:wrap64 (big.tdiv (b.natAbs:Int))=big.tdiv (b.natAbs:Int):=by
 have h1:big.tdiv (b.natAbs:Int)=big / (b.natAbs:Int):=Int.tdiv_eq_ediv_of_nonneg (by decide);have h2:big / (b.natAbs:Int)≤big:=Int.ediv_le_self _ (by decide);have h3:0≤big / (b.natAbs:Int):=Int.ediv_nonneg (by decide) (by omega);rw[h1];unfold big at*;exact aX (by omega) (by omega)

theorem PL {a p:Int} (ha: -big≤a∧a≤big) (hp: -big≤p∧p≤big):wrap64 (a+wrap64 p)=a+p:=by
 unfold big at*;rw[aX (x:=p) (by omega) (by omega),aX (by omega) (by omega)]

theorem PM {a b c:Int} (ha: -big≤a∧a≤big) (hb: -big≤b∧b≤big) (hc: -big≤c∧c≤big):Ev (fun k=>kV.f k a b c) (more a b c):=by
 have hs:small a=true:=decide_eq_true ha;unfold kV.f
 by_cases h0:b=0
 ·refine Ev.pos h0 ?_
  refine Ev.succ ?_;simp only[kV.j0];subst h0;unfold more;rw[Int.zero_mul,if_pos (by decide),Int.add_zero,hs]
  repeat (first | with_reducible exact Ev.now _ | dsimp only | refine Ev.bZ ?_ | refine Ev.cj ?_ | simp only[bne_self_eq_false,Bool.not_true,Bool.not_false,List.length_cons,List.length_nil] | rw[aX (by omega) (by omega)] | ((with_reducible refine Ev.eq (congrArg some ?_));rfl))
 ·refine Ev.neg h0 ?_
  refine Ev.succ ?_;simp only[kV.j0]
  by_cases h1:c=0
  ·subst h1
   unfold more;rw[Int.mul_zero,if_pos (by decide),Int.add_zero,hs]
   repeat (first | with_reducible exact Ev.now _ | dsimp only | refine Ev.bZ ?_ | refine Ev.cj ?_ | simp only[bne_self_eq_false,Bool.not_true,Bool.not_false,List.length_cons,List.length_nil] | rw[aX (by omega) (by omega)] | ((with_reducible refine Ev.eq (congrArg some ?_));rfl))
  ·rw[show(c == 0)=false from beq_eq_false_iff_ne.2 h1]
   refine Ev.neg (by decide) ?_;unfold qu.f;rw[Ie hb,Ie hc]
   repeat (first | with_reducible exact Ev.now _ | dsimp only | with_reducible refine Ev.bind (Ev.now _) ?_ | refine Ev.bZ ?_ | refine Ev.cj ?_ | simp only[bne_self_eq_false,Bool.not_true,Bool.not_false,List.length_cons,List.length_nil] | rw[aX (by omega) (by omega)] | with_reducible exact(Ev.now _) | ((with_reducible refine Ev.eq (congrArg some ?_));rfl))
   rw[show(1000000000000000:Int)=big from rfl,PK (b:=c)];unfold more
   by_cases h: -big≤b*c∧b*c≤big
   ·rw[if_pos h,PL ha h]
    refine Ev.neg ((Ig h1).2 (by rw[Int.mul_comm];exact h)) ?_;rw[H9]
    repeat (first | with_reducible exact Ev.now _ | dsimp only | with_reducible refine Ev.bind (Ev.now _) ?_ | refine Ev.bZ ?_ | refine Ev.cj ?_ | simp only[bne_self_eq_false,Bool.not_true,Bool.not_false,List.length_cons,List.length_nil] | rw[aX (by omega) (by omega)] | with_reducible exact(Ev.now _) | ((with_reducible refine Ev.eq (congrArg some ?_));rfl))
   ·rw[if_neg h]
    refine Ev.pos (Decidable.not_not.1 (fun g=>h (by rw[Int.mul_comm];exact(Ig h1).1 g))) ?_
    repeat (first | with_reducible exact Ev.now _ | dsimp only | refine Ev.bZ ?_ | refine Ev.cj ?_ | simp only[bne_self_eq_false,Bool.not_true,Bool.not_false,List.length_cons,List.length_nil] | rw[aX (by omega) (by omega)] | ((with_reducible refine Ev.eq (congrArg some ?_));rfl))
theorem PN (L:List (List Int)) (hL:Mod L): ∀(d i:Nat),i+d=L.length→
  Ev (fun k=>mR.l0 k L (L.length:Int) (i:Int)) (if (L.drop i).all whole=true then -1 else ((L.length:Int) - d+((L.drop i).findIdx (fun x=> !whole x):Nat))):=by
 have hl1:=hL.1;intro d
 induction d with
 | zero=>
  intro i hi;refine Ev.succ ?_;simp only[mR.l0];rw[List.drop_eq_nil_of_le (by omega),List.all_nil,if_pos rfl]
  repeat (first | with_reducible exact Ev.now _ | dsimp only | refine Ev.bZ ?_ | refine Ev.cj ?_ | simp only[bne_self_eq_false,Bool.not_true,Bool.not_false,List.length_cons,List.length_nil] | rw[aX (by omega) (by omega)] | ((with_reducible refine Ev.eq (congrArg some ?_));rfl))
 | succ d ih=>
  intro i hi;refine Ev.succ ?_;simp only[mR.l0];rw[List.drop_eq_getElem_cons (by omega:i<L.length),List.all_cons,jH (by omega),dI (by omega),List.findIdx_cons];have h1:Ev (fun k=>sB.f k L[i]) (!whole L[i]):=by
   unfold sB.f
   repeat (first | with_reducible exact Ev.now _ | dsimp only | with_reducible refine Ev.bind (Ib L[i] (hL.row (by omega))) ?_ | refine Ev.bZ ?_ | refine Ev.cj ?_ | simp only[bne_self_eq_false,Bool.not_true,Bool.not_false,List.length_cons,List.length_nil] | rw[aX (by omega) (by omega)] | with_reducible exact(Ib L[i] (hL.row (by omega))) | ((with_reducible refine Ev.eq (congrArg some ?_));rfl))
  by_cases h:whole L[i]=true
  ·rw[h,Bool.not_true]at h1
   rw[h,Bool.true_and,Bool.not_true,cond_false];have:=ih (i+1) (by omega);rw[show((L.length:Int) - (d+1:Nat)+((L.drop (i+1)).findIdx (fun x=> !whole x)+1:Nat))=(L.length:Int) - d+((L.drop (i+1)).findIdx (fun x=> !whole x):Nat) by omega]
   repeat (first | with_reducible exact Ev.now _ | dsimp only | with_reducible refine Ev.bind (h1) ?_ | refine Ev.bZ ?_ | refine Ev.cj ?_ | simp only[bne_self_eq_false,Bool.not_true,Bool.not_false,List.length_cons,List.length_nil] | rw[aX (by omega) (by omega)] | with_reducible exact(h1) | ((with_reducible refine Ev.eq (congrArg some ?_));rfl))
   exact this
  ·rw[Bool.not_eq_true]at h
   rw[h,Bool.not_false]at h1;rw[h,Bool.false_and,Bool.not_false,cond_true,if_neg (by decide),show(L.length:Int) - (d+1:Nat)+(0:Nat)=i by omega]
   repeat (first | with_reducible exact Ev.now _ | dsimp only | with_reducible refine Ev.bind (h1) ?_ | refine Ev.bZ ?_ | refine Ev.cj ?_ | simp only[bne_self_eq_false,Bool.not_true,Bool.not_false,List.length_cons,List.length_nil] | rw[aX (by omega) (by omega)] | with_reducible exact(h1) | ((with_reducible refine Ev.eq (congrArg some ?_));rfl))

theorem PO (L:List (List Int)) (hL:Mod L):Ev (fun k=>qv.f k L) (L.all whole):=by
 have hl1:=hL.1;have h2:Ev (fun k=>mR.f k L) _:=PN L hL L.length 0 (by omega);rw[List.drop_zero]at h2;unfold qv.f wA.f
 by_cases h:L.all whole=true
 ·rw[if_pos h]at h2
  rw[h]
  repeat (first | with_reducible exact Ev.now _ | dsimp only | with_reducible refine Ev.bind (Ev.bind h2 (Ev.now _)) ?_ | refine Ev.bZ ?_ | refine Ev.cj ?_ | simp only[bne_self_eq_false,Bool.not_true,Bool.not_false,List.length_cons,List.length_nil] | rw[aX (by omega) (by omega)] | with_reducible exact(Ev.bind h2 (Ev.now _)) | ((with_reducible refine Ev.eq (congrArg some ?_));rfl))
 ·rw[if_neg h]at h2
  rw[Bool.not_eq_true]at h;rw[h];refine Ev.bind (Ev.bind h2 (Ev.now _)) ?_;rw[decide_eq_true (by omega)];exact Ev.now _

theorem PR (l m:List Int) (hl:l.length≤1048576) (hm:m.length≤1048576):Ev (fun k=>qv.f k [l,m]) (whole l && whole m):=by
 have:=PO [l,m] ⟨by simp,fun r h=>by
  rcases List.mem_cons.1 h with h | h
  ·rw[h];exact hl
  ·rw[List.mem_singleton.1 h];exact hm⟩
 rw[List.all_cons,List.all_cons,List.all_nil,Bool.and_true]at this;exact this
theorem GA {a b c:Int} (h:(more a b c).2=true): -big≤(more a b c).1∧(more a b c).1≤big:=by
 unfold more at h ⊢
 by_cases g: -big≤b*c∧b*c≤big
 ·rw[if_pos g]at h ⊢
  exact decide_eq_true_iff.1 h
 ·rw[if_neg g]at h
  cases h

section
variable (l m:List Int)

/-- The product's number k: d rounds from the place i on. -/
def cv (k:Nat):Nat→Nat→Int→Int×Bool
 | 0,_,acc=>(acc,true)
 | d+1,i,acc=>if i+m.length≤k then cv k d (i+1) acc else if (more acc (rd l (i:Int)) (rd m ((k - i:Nat):Int))).2=true then cv k d (i+1) (more acc (rd l (i:Int)) (rd m ((k - i:Nat):Int))).1 else (0,false)

def j8 (k:Nat):Int×Bool:=cv l m k (min (k+1) l.length) 0 0

def prod (n:Nat):List Int:=(List.range n).map (fun k=>(j8 l m k).1)

theorem vX (n:Nat):(prod l m n).length=n:=by simp[prod]

theorem Ih (k:Nat) (acc:Int): ∀(e d i:Nat),i+e=k+1 - m.length→e≤d→cv l m k d i acc=cv l m k (d - e) (i+e) acc:=by
 intro e
 induction e with
 | zero=>intro d i h h2;rfl
 | succ e ih=>
  intro d i h h2
  match d,h2 with
  | d+1,h2=>
   show(if i+m.length≤k then cv l m k d (i+1) acc else _)=_
   rw[if_pos (by omega),ih d (i+1) (by omega) (by omega),Nat.add_sub_add_right,show i+1+e=i+(e+1) by omega]

theorem PS (n:Nat) (h:n+1=l.length+m.length - 1) (hl:0<l.length) (hm:0<m.length) (ok:(j8 l m n).2=true):(j8 l m n).1=rd l ((l.length - 1:Nat):Int)*rd m ((m.length - 1:Nat):Int):=by
 have e:j8 l m n=cv l m n 1 (l.length - 1) 0:=by
  unfold j8;rw[Ih l m n 0 (l.length - 1) _ 0 (by omega) (by omega),Nat.zero_add]
  congr 1
  omega
 rw[e]at ok ⊢;unfold cv at ok ⊢;rw[if_neg (by omega)]at ok ⊢;rw[show n - (l.length - 1)=m.length - 1 by omega]at ok ⊢
 by_cases g:(more 0 (rd l ((l.length - 1:Nat):Int)) (rd m ((m.length - 1:Nat):Int))).2=true
 ·rw[if_pos g]
  unfold cv;unfold more at g ⊢
  by_cases g2: -big≤rd l ((l.length - 1:Nat):Int)*rd m ((m.length - 1:Nat):Int)∧rd l ((l.length - 1:Nat):Int)*rd m ((m.length - 1:Nat):Int)≤big
  ·rw[if_pos g2]
   exact Int.zero_add _
  ·rw[if_neg g2]at g
   cases g
 ·rw[if_neg g]at ok
  cases ok

variable (hl:l.length≤40) (hs: ∀y∈l, -big≤y∧y≤big) (hm:m.length≤40) (hn: ∀y∈m, -big≤y∧y≤big)
include hl hs hm hn

theorem PT (n:Int) (k:Nat) (hk:k<80) (x6:List Int) (h6:x6.length≤80) (pI:0<l.length) (r:List Int×Bool): ∀(d i:Nat) (acc:Int),i+d=min (k+1) l.length→k+1 - m.length≤i→(-big≤acc∧acc≤big)→
  ((cv l m k d i acc).2=true→Ev (fun f=>ep.l0 f l m (x6++[(cv l m k d i acc).1]) n ((k+1:Nat):Int)) r)→(¬(cv l m k d i acc).2=true→r=([],false))→
  Ev (fun f=>ep.l1 f l m x6 (k:Int) acc (i:Int) n (k:Int)) r:=by
 have U7:mn (k:Int) (wrap64 ((l.length:Int) - 1))=((min (k+1) l.length:Nat):Int) - 1:=by
  rw[aX (by omega) (by omega)];unfold mn
  split<;>omega
 intro d
 induction d with
 | zero=>
  intro i acc hi hi2 ha h1 h2;have h1':=h1 rfl;refine Ev.succ ?_;simp only[ep.l1];rw[U7,dI (i:=k) (by omega)]
  repeat (first | with_reducible exact Ev.now _ | dsimp only | refine Ev.bZ ?_ | refine Ev.cj ?_ | simp only[bne_self_eq_false,Bool.not_true,Bool.not_false,List.length_cons,List.length_nil] | rw[aX (by omega) (by omega)] | ((with_reducible refine Ev.eq (congrArg some ?_));rfl))
  exact h1'
 | succ d ih=>
  intro i acc hi hi2 ha h1 h2;refine Ev.succ ?_;simp only[ep.l1];rw[U7,aX (x:=(k:Int) - i) (by omega) (by omega),dI (i:=i) (by omega),show(k:Int) - i=((k - i:Nat):Int) by omega];unfold cv at h1 h2;rw[if_neg (by omega)]at h1 h2;have ht:=PM ha (hs _ (AG (show i<l.length by omega))) (hn _ (AG (show k - i<m.length by omega)))
  by_cases g:(more acc (rd l (i:Int)) (rd m ((k - i:Nat):Int))).2=true
  ·rw[if_pos g]at h1 h2
   repeat (first | with_reducible exact Ev.now _ | dsimp only | with_reducible refine Ev.bind (ht) ?_ | refine Ev.bZ ?_ | refine Ev.cj ?_ | simp only[bne_self_eq_false,Bool.not_true,Bool.not_false,List.length_cons,List.length_nil] | rw[aX (by omega) (by omega)] | with_reducible exact(ht) | ((with_reducible refine Ev.eq (congrArg some ?_));rfl))
   exact ih (i+1) _ (by omega) (by omega) (GA g) h1 h2
  ·rw[if_neg g]at h1 h2
   rw[h2 (by decide)]
   repeat (first | with_reducible exact Ev.now _ | dsimp only | with_reducible refine Ev.bind (ht) ?_ | refine Ev.bZ ?_ | refine Ev.cj ?_ | simp only[bne_self_eq_false,Bool.not_true,Bool.not_false,List.length_cons,List.length_nil] | rw[aX (by omega) (by omega)] | with_reducible exact(ht) | ((with_reducible refine Ev.eq (congrArg some ?_));rfl))

theorem Ii (n:Nat) (pI:0<l.length) (k:Nat) (hk:k<80) (x6:List Int) (h6:x6.length≤80) (hkn:k<n) (U9:n≤80) (U8:n+1=l.length+m.length) (hm0:0<m.length) (r:List Int×Bool) (h1:(j8 l m k).2=true→Ev (fun f=>ep.l0 f l m (x6++[(j8 l m k).1]) (n:Int) ((k+1:Nat):Int)) r) (h2: ¬(j8 l m k).2=true→r=([],false)):
  Ev (fun f=>ep.l0 f l m x6 (n:Int) (k:Int)) r:=by
 refine Ev.succ ?_;simp only[ep.l0];have U7:mx 0 (wrap64 ((wrap64 ((k:Int) - (m.length:Int)))+1))=((k+1 - m.length:Nat):Int):=by
  rw[aX (x:=(k:Int) - (m.length:Int)) (by omega) (by omega),aX (by omega) (by omega)];unfold mx
  split<;>omega
 rw[U7]
 repeat (first | with_reducible exact Ev.now _ | dsimp only | refine Ev.bZ ?_ | refine Ev.cj ?_ | simp only[bne_self_eq_false,Bool.not_true,Bool.not_false,List.length_cons,List.length_nil] | rw[aX (by omega) (by omega)] | ((with_reducible refine Ev.eq (congrArg some ?_));rfl))
 have e:j8 l m k=cv l m k (min (k+1) l.length - (k+1 - m.length)) (k+1 - m.length) 0:=by
  unfold j8;rw[Ih l m k 0 (k+1 - m.length) _ 0 (by omega) (by omega),Nat.zero_add]
 rw[e]at h1 h2;exact PT l m hl hs hm hn n k hk x6 h6 pI r _ _ 0 (by omega) (Nat.le_refl _) (by decide) h1 h2

theorem PU (n:Nat) (h:n+1=l.length+m.length) (pI:0<l.length) (hm0:0<m.length) (hok: ∀k,k<n→(j8 l m k).2=true):
  ∀(d k:Nat),k+d=n→Ev (fun f=>ep.l0 f l m (prod l m k) (n:Int) (k:Int)) (prod l m n,true):=by
 intro d
 induction d with
 | zero=>
  intro k hk;have e:k=n:=by omega
  subst e;refine Ev.succ ?_;simp only[ep.l0]
  repeat (first | with_reducible exact Ev.now _ | dsimp only | refine Ev.bZ ?_ | refine Ev.cj ?_ | simp only[bne_self_eq_false,Bool.not_true,Bool.not_false,List.length_cons,List.length_nil] | rw[aX (by omega) (by omega)] | ((with_reducible refine Ev.eq (congrArg some ?_));rfl))
 | succ d ih=>
  intro k hk;refine Ii l m hl hs hm hn n pI k (by omega) _ (by rw[vX];omega) (by omega) (by omega) h hm0 _ (fun _=> ?_) (fun e=>absurd (hok k (by omega)) e);have:=ih (k+1) (by omega);rw[prod,tM]at this;exact this

theorem PV (n:Nat) (h:n+1=l.length+m.length) (pI:0<l.length) (hm0:0<m.length):
  ∀(d k:Nat) (xs:List Int),k+d=n→xs.length≤k→(∃j,k≤j∧j<n∧¬(j8 l m j).2=true)→Ev (fun f=>ep.l0 f l m xs (n:Int) (k:Int)) ([],false):=by
 intro d
 induction d with
 | zero=>
  intro k xs hk hx h;obtain⟨j,h1,h2,h3⟩:=h
  omega
 | succ d ih=>
  intro k xs hk hx hb;refine Ii l m hl hs hm hn n pI k (by omega) _ (by omega) (by omega) (by omega) h hm0 _ (fun e=> ?_) (fun _=>rfl);refine ih (k+1) _ (by omega) (by simp;omega) ?_;obtain⟨j,h1,h2,h3⟩:=hb;refine⟨j, ?_,h2,h3⟩;rcases Nat.lt_or_eq_of_le h1 with h1 | h1
  ·exact h1
  ·subst h1;exact absurd e h3

end

theorem CR {l:List Int} (h:whole l=true) (h0:0<l.length):rd l ((l.length - 1:Nat):Int)≠0:=by
 have hne:l≠[]:=fun e=>by rw[e]at h0;simp at h0
 have hlast:=PJ h;rw[List.getLast?_eq_some_getLast hne,← Ia l hne,show(l.length:Int) - 1=((l.length - 1:Nat):Int) by omega]at hlast;exact fun e=>hlast (by rw[e])

theorem LL (l m:List Int) (hl:whole l=true) (hm:whole m=true) (pI:0<l.length) (hm0:0<m.length) (n:Nat) (h:n+1=l.length+m.length) (hok: ∀k,k<n→(j8 l m k).2=true):dx (prod l m n) n=prod l m n:=by
 obtain⟨n',e⟩: ∃n',n=n'+1:=⟨n - 1,by omega⟩;subst e;unfold dx;rw[if_neg,List.take_of_length_le (by rw[vX];omega)];rw[prod,xX _ (by omega),PS l m n' (by omega) pI hm0 (hok n' (by omega))];exact Int.mul_ne_zero (CR hl pI) (CR hm hm0)

/-- The product, and whether all stays small on the way. -/
def jQ (l m:List Int):List Int×Bool:=if l.length=0 then ([],true) else if m.length=0 then ([],true) else if l.length+m.length - 1≤40 then (if ∀k,k<l.length+m.length - 1→(j8 l m k).2=true then (prod l m (l.length+m.length - 1),true) else ([],false)) else ([],false)
def mulR (l m:List Int):List Int×Int:=if whole l=true∧whole m=true then (if (jQ l m).2=true then ((jQ l m).1,0) else ([],3)) else ([],1)
theorem PW (l m:List Int) (hw:whole l=true) (hw':whole m=true):Ev (fun k=>ep.f k l m) (jQ l m):=by
 unfold ep.f;have U8:=yt hw;have U7:=yt hw';have hs:=Ic hw;have hn:=Ic hw'
 by_cases h0:l.length=0
 ·rw[show jQ l m=([],true) by unfold jQ;rw[if_pos h0]]
  repeat (first | with_reducible exact Ev.now _ | dsimp only | refine Ev.bZ ?_ | refine Ev.cj ?_ | simp only[bne_self_eq_false,Bool.not_true,Bool.not_false,List.length_cons,List.length_nil] | rw[aX (by omega) (by omega)] | ((with_reducible refine Ev.eq (congrArg some ?_));rfl))
  refine Ev.succ ?_;simp only[ep.j0]
  repeat (first | with_reducible exact Ev.now _ | dsimp only | refine Ev.bZ ?_ | refine Ev.cj ?_ | simp only[bne_self_eq_false,Bool.not_true,Bool.not_false,List.length_cons,List.length_nil] | rw[aX (by omega) (by omega)] | ((with_reducible refine Ev.eq (congrArg some ?_));rfl))
 by_cases h0':m.length=0
 ·rw[show jQ l m=([],true) by unfold jQ;rw[if_neg h0,if_pos h0']]
  rw[show((m.length:Int) == 0)=true from by rw[h0'];rfl]
  repeat (first | with_reducible exact Ev.now _ | dsimp only | refine Ev.bZ ?_ | refine Ev.cj ?_ | simp only[bne_self_eq_false,Bool.not_true,Bool.not_false,List.length_cons,List.length_nil] | rw[aX (by omega) (by omega)] | ((with_reducible refine Ev.eq (congrArg some ?_));rfl))
  refine Ev.succ ?_;simp only[ep.j0]
  repeat (first | with_reducible exact Ev.now _ | dsimp only | refine Ev.bZ ?_ | refine Ev.cj ?_ | simp only[bne_self_eq_false,Bool.not_true,Bool.not_false,List.length_cons,List.length_nil] | rw[aX (by omega) (by omega)] | ((with_reducible refine Ev.eq (congrArg some ?_));rfl))
 have hm0:((m.length:Int) == 0)=false:=beq_eq_false_iff_ne.2 (by omega);obtain⟨n,hN⟩: ∃n,n+1=l.length+m.length:=⟨l.length+m.length - 1,by omega⟩;have en:l.length+m.length - 1=n:=by omega
 by_cases h40:n≤40
 ·by_cases hok: ∀k,k<n→(j8 l m k).2=true
  ·rw[show jQ l m=(prod l m n,true) by unfold jQ;rw[if_neg h0,if_neg h0',en,if_pos h40,if_pos hok]]
   rw[hm0]
   repeat (first | with_reducible exact Ev.now _ | dsimp only | refine Ev.bZ ?_ | refine Ev.cj ?_ | simp only[bne_self_eq_false,Bool.not_true,Bool.not_false,List.length_cons,List.length_nil] | rw[aX (by omega) (by omega)] | ((with_reducible refine Ev.eq (congrArg some ?_));rfl))
   refine Ev.succ ?_;simp only[ep.j0];rw[aX (x:=(l.length:Int)+m.length) (by omega) (by omega),aX (x:=(l.length:Int)+m.length - 1) (by omega) (by omega),show(l.length:Int)+m.length - 1=n by omega]
   repeat (first | with_reducible exact Ev.now _ | dsimp only | refine Ev.bZ ?_ | refine Ev.cj ?_ | simp only[bne_self_eq_false,Bool.not_true,Bool.not_false,List.length_cons,List.length_nil] | rw[aX (by omega) (by omega)] | ((with_reducible refine Ev.eq (congrArg some ?_));rfl))
   exact PU l m U8 hs U7 hn n hN (by omega) (by omega) hok n 0 (by omega)
  ·have hbad: ∃i:Nat,i<n∧¬(j8 l m i).2=true:=by
    apply Classical.byContradiction;intro hc;exact hok (fun i hi=>Classical.byContradiction (fun e=>hc ⟨i,hi,e⟩))
   obtain⟨i,hi,hb⟩:=hbad;rw[show jQ l m=([],false) by unfold jQ;rw[if_neg h0,if_neg h0',en,if_pos h40,if_neg hok]];rw[hm0]
   repeat (first | with_reducible exact Ev.now _ | dsimp only | refine Ev.bZ ?_ | refine Ev.cj ?_ | simp only[bne_self_eq_false,Bool.not_true,Bool.not_false,List.length_cons,List.length_nil] | rw[aX (by omega) (by omega)] | ((with_reducible refine Ev.eq (congrArg some ?_));rfl))
   refine Ev.succ ?_;simp only[ep.j0];rw[aX (x:=(l.length:Int)+m.length) (by omega) (by omega),aX (x:=(l.length:Int)+m.length - 1) (by omega) (by omega),show(l.length:Int)+m.length - 1=n by omega]
   repeat (first | with_reducible exact Ev.now _ | dsimp only | refine Ev.bZ ?_ | refine Ev.cj ?_ | simp only[bne_self_eq_false,Bool.not_true,Bool.not_false,List.length_cons,List.length_nil] | rw[aX (by omega) (by omega)] | ((with_reducible refine Ev.eq (congrArg some ?_));rfl))
   exact PV l m U8 hs U7 hn n hN (by omega) (by omega) n 0 [] (by omega) (by simp) ⟨i,by omega,hi,hb⟩
 ·rw[show jQ l m=([],false) by unfold jQ;rw[if_neg h0,if_neg h0',en,if_neg h40]]
  rw[hm0]
  repeat (first | with_reducible exact Ev.now _ | dsimp only | refine Ev.bZ ?_ | refine Ev.cj ?_ | simp only[bne_self_eq_false,Bool.not_true,Bool.not_false,List.length_cons,List.length_nil] | rw[aX (by omega) (by omega)] | ((with_reducible refine Ev.eq (congrArg some ?_));rfl))
  refine Ev.succ ?_;simp only[ep.j0];rw[aX (x:=(l.length:Int)+m.length) (by omega) (by omega),aX (x:=(l.length:Int)+m.length - 1) (by omega) (by omega)]
  repeat (first | with_reducible exact Ev.now _ | dsimp only | refine Ev.bZ ?_ | refine Ev.cj ?_ | simp only[bne_self_eq_false,Bool.not_true,Bool.not_false,List.length_cons,List.length_nil] | rw[aX (by omega) (by omega)] | ((with_reducible refine Ev.eq (congrArg some ?_));rfl))

theorem Hu (l m:List Int) (hw:whole l=true) (hw':whole m=true):Ev (fun k=>pN.f k l m) (mulR l m):=by
 unfold pN.f;have h40:=yt hw;have U8:=yt hw';have h2:=PR l m (by omega) (by omega);rw[hw,hw',Bool.and_true]at h2;have U7:=PW l m hw hw';have e:mulR l m=if (jQ l m).2=true then ((jQ l m).1,0) else ([],3):=if_pos ⟨hw,hw'⟩
 generalize jQ l m=p at U7 e
 by_cases hb:p.2=true
 ·rw[e,if_pos hb]
  repeat (first | with_reducible exact Ev.now _ | dsimp only | with_reducible refine Ev.bind (h2) ?_ | with_reducible refine Ev.bind (U7) ?_ | refine Ev.bZ ?_ | refine Ev.cj ?_ | simp only[bne_self_eq_false,Bool.not_true,Bool.not_false,List.length_cons,List.length_nil] | rw[aX (by omega) (by omega)] | with_reducible exact(h2) | with_reducible exact(U7) | ((with_reducible refine Ev.eq (congrArg some ?_));rfl))
 ·rw[e,if_neg hb]
  repeat (first | with_reducible exact Ev.now _ | dsimp only | with_reducible refine Ev.bind (h2) ?_ | with_reducible refine Ev.bind (U7) ?_ | refine Ev.bZ ?_ | refine Ev.cj ?_ | simp only[bne_self_eq_false,Bool.not_true,Bool.not_false,List.length_cons,List.length_nil] | rw[aX (by omega) (by omega)] | with_reducible exact(h2) | with_reducible exact(U7) | ((with_reducible refine Ev.eq (congrArg some ?_));rfl))
theorem PX (f:Nat→Int): ∀(n j:Nat),j≤n→Sm (n+1) f=f j+Sm n (fun k=>f (skip j k)):=by
 intro n
 induction n with
 | zero=>
  intro j hj;rw[show j=0 by omega]
  show 0+f 0=f 0+0
  omega
 | succ n ih=>
  intro j hj
  by_cases e:j=n+1
  ·subst e
   show Sm (n+1) f+f (n+1)=_
   rw[bK (g:=fun k=>f (skip (n+1) k)) (fun k hk=>by rw[show skip (n+1) k=k from if_pos hk])]
   omega
  ·show Sm (n+1) f+f (n+1)=f j+(Sm n (fun k=>f (skip j k))+f (skip j n))
   rw[ih j (by omega),show skip j n=n+1 from if_neg (by omega)]
   omega

/-- The first coefficient: one column after the other is exchanged. -/
theorem PY: ∀(n:Nat) (a b:Nat→Nat→Int),dc n a b 1=Sm n (fun k=>cl n (cQ a k (fun i=>b i k))):=by
 intro n
 induction n with
 | zero=>intro a b;rfl
 | succ n ih=>
  intro a b;have e1: ∀k,k<n+1→cl (n+1) (cQ a k (fun i=>b i k))=Sm (n+1) (fun j=>sg j*cQ a k (fun i=>b i k) 0 j*cl n (minor (cQ a k (fun i=>b i k)) j)):=fun k _=>rfl
  rw[bK e1,lE]
  show Sm (n+1) (fun j=>lI (sg j*a 0 j) (sg j*b 0 j) (dc n (minor a j) (minor b j)) 1)=_
  refine bK (fun j hj=> ?_);rw[PX _ n j (by omega)];unfold lI;rw[if_neg (by omega),ih,xW,AJ,Int.add_comm]
  congr 1
  ·show _=sg j*(if j=j then b 0 j else a 0 j)*_
   rw[if_pos rfl]
  ·rw[← e7]
   refine bK (fun k hk=> ?_);have hne:j≠skip j k:=by unfold skip;split<;>omega
   rw[AK a hne];have e2:cQ a (skip j k) (fun i=>b i (skip j k)) 0 j=a 0 j:=if_neg hne;have e3:(if skip j k<j then skip j k else skip j k - 1)=k:=by
    unfold skip
    by_cases c:k<j
    ·rw[if_pos c,if_pos c]
    ·rw[if_neg c,if_neg (by omega)]
     omega
   rw[e2,e3]
   rfl

theorem PZ (u h:Int): ∀m:Nat,∃e,(u+h) ^ m=u ^ m+h*((m:Int)*u ^ (m - 1))+h*h*e:=by
 intro m
 induction m with
 | zero=>exact⟨0,by rw[Int.pow_zero,Int.pow_zero];simp⟩
 | succ m ih=>
  obtain⟨e,he⟩:=ih;have e1:(m:Int)*u ^ (m - 1)*u=(m:Int)*u ^ m:=by
   match m with
   | 0=>simp
   | q+1=>rw[Nat.add_sub_cancel,Int.mul_assoc,← Int.pow_succ]
  refine⟨(m:Int)*u ^ (m - 1)+e*(u+h), ?_⟩;rw[Int.pow_succ,he,Int.pow_succ,Nat.add_sub_cancel];generalize (m:Int)*u ^ (m - 1)=p at*;rw[show((m+1:Nat):Int)=m+1 from rfl,Int.add_mul (m:Int) 1,← e1];generalize u ^ m=q
  grind

theorem P0 (d:Nat) (c:Nat→Int) (u h:Int): ∃e,Sm d (fun m=>c m*(u+h) ^ m)=Sm d (fun m=>c m*u ^ m)+h*Sm d (fun m=>c m*((m:Int)*u ^ (m - 1)))+h*h*e:=by
 induction d with
 | zero=>exact⟨0,by simp[Sm]⟩
 | succ d ih=>
  obtain⟨e,he⟩:=ih;obtain⟨e',he'⟩:=PZ u h d;refine⟨e+c d*e', ?_⟩
  show Sm d (fun m=>c m*(u+h) ^ m)+c d*(u+h) ^ d=Sm d (fun m=>c m*u ^ m)+c d*u ^ d+h*(Sm d (fun m=>c m*((m:Int)*u ^ (m - 1)))+c d*((d:Int)*u ^ (d - 1)))+h*h*(e+c d*e')
  rw[he,he'];generalize Sm d _=s1;generalize Sm d _=s2;generalize (d:Int)*u ^ (d - 1)=s3;generalize u ^ d=s4;generalize c d=s5
  grind

theorem P1 (d:Nat) (c:Nat→Int) (h:Int): ∃e,Sm (d+2) (fun m=>c m*h ^ m)=c 0+h*c 1+h*h*e:=by
 induction d with
 | zero=>
  refine⟨0, ?_⟩
  show 0+c 0*h ^ 0+c 1*h ^ 1=_
  rw[Int.pow_zero,Int.pow_succ,Int.pow_zero]
  grind
 | succ d ih=>
  obtain⟨e,he⟩:=ih;refine⟨e+c (d+2)*h ^ d, ?_⟩
  show Sm (d+2) (fun m=>c m*h ^ m)+c (d+2)*h ^ (d+2)=_
  rw[he,Int.pow_succ,Int.pow_succ];generalize h ^ d=p
  grind

/-- The trace of N_m A. -/
def tn (n:Nat) (a:Nat→Nat→Int) (m:Nat):Int:=Sm n (fun k=>Sm n (fun i=>nc n a m k i*a i k))

theorem LB (n:Nat) (a:Nat→Nat→Int) (m:Nat) (hm:m<n+1):((m+1:Nat):Int)*ch n a (m+1)= - tn n a m:=by
 have key: ∀u:Int,Sm (n+1) (fun m=>ch n a m*((m:Int)*u ^ (m - 1)))= - Sm (n+1) (fun m=>tn n a m*u ^ m):=by
  intro u;apply Classical.byContradiction;intro hc;obtain⟨x,hx⟩: ∃x,x=Sm (n+1) (fun m=>ch n a m*((m:Int)*u ^ (m - 1)))+Sm (n+1) (fun m=>tn n a m*u ^ m):=⟨_,rfl⟩;obtain⟨h,hh⟩: ∃h:Int,h=ab x+1:=⟨_,rfl⟩;have hpos:1≤h:=by have:=kU x;omega
  obtain⟨e1,U7⟩:=P0 (n+1) (ch n a) u h;have d1:=su n a (u+h);have d0:=su n a u;have dd:=(tO n (xu a u) (ng a)).2.1 h;simp only at dd;have ex:(fun i k=>xu a u i k+h*ng a i k)=xu a (u+h):=by
   funext i k
   unfold xu;rw[Int.add_mul]
   omega
  rw[ex]at dd;obtain⟨e2,he2⟩:=P1 n (dc n (xu a u) (ng a)) h;rw[nX (d:=n+1) (fun m=>dc n (xu a u) (ng a) m*h ^ m) (by omega) (fun i hi=>by rw[mG n _ _ hi,Int.zero_mul]),← dd,xW]at he2;have ej:dc n (xu a u) (ng a) 1= - Sm (n+1) (fun m=>tn n a m*u ^ m):=by
   rw[PY];have e3:Sm n (fun k=>cl n (cQ (xu a u) k (fun i=>ng a i k)))=Sm n (fun k=>Sm n (fun i=>adj n (xu a u) k i*ng a i k)):=bK (fun k hk=>(HH n (xu a u) k hk (fun i=>ng a i k)).symm);rw[e3];have e4:Sm n (fun k=>Sm n (fun i=>adj n (xu a u) k i*ng a i k))=Sm n (fun k=>Sm n (fun i=>Sm (n+1) (fun m=>(-1)*(nc n a m k i*a i k*u ^ m)))):=bK (fun k _=>bK (fun i _=>by
    rw[wz,e7,← jL];unfold ng;rw[← e7];refine bK (fun m _=> ?_)
    grind))
   rw[e4];have e5:Sm n (fun k=>Sm n (fun i=>Sm (n+1) (fun m=>(-1)*(nc n a m k i*a i k*u ^ m))))=Sm (n+1) (fun m=>(-1)*(tn n a m*u ^ m)):=by
    rw[bK (g:=fun k=>Sm (n+1) (fun m=>Sm n (fun i=>(-1)*(nc n a m k i*a i k*u ^ m)))) (fun k _=>lE _ _ _),lE];refine bK (fun m _=> ?_);unfold tn;rw[← jL,← e7];refine bK (fun k _=> ?_);rw[← jL,← e7]
   rw[e5,e7]
   omega
  rw[ej,d1,U7,← d0]at he2;have hdiv:h*x=h*(h*(e2 - e1)):=by
   rw[hx];generalize Sm (n+1) (fun m=>ch n a m*((m:Int)*u ^ (m - 1)))=s1 at*;generalize Sm (n+1) (fun m=>tn n a m*u ^ m)=s2 at*
   grind
  have hx2:x=h*(e2 - e1):=Int.eq_of_mul_eq_mul_left (by omega) hdiv;have hx0:x≠0:=by omega
  have hd:h∣x:=⟨_,hx2⟩;have h3:=Nat.le_of_dvd (by omega) (Int.natAbs_dvd_natAbs.2 hd);have h4:ab x=x.natAbs:=rfl
  omega
 have shift: ∀u:Int,Sm (n+1) (fun m=>ch n a m*((m:Int)*u ^ (m - 1)))=Sm (n+1) (fun m=>((m+1:Nat):Int)*ch n a (m+1)*u ^ m):=by
  intro u;have e1:Sm (n+2) (fun m=>ch n a m*((m:Int)*u ^ (m - 1)))=Sm (n+1) (fun m=>ch n a m*((m:Int)*u ^ (m - 1))):=nX _ (by omega) (fun i hi=>by rw[show ch n a i=0 from mG n _ _ hi,Int.zero_mul]);rw[← e1,r9];simp only[Nat.add_sub_cancel];rw[show((0:Nat):Int)=0 from rfl,Int.zero_mul,Int.mul_zero,Int.zero_add];refine bK (fun m _=> ?_)
  grind
 have:=Az (n+1) (fun m=>((m+1:Nat):Int)*ch n a (m+1)+tn n a m) (fun u _=>by
  have h1:=key u;rw[shift]at h1;rw[bK (g:=fun m=>((m+1:Nat):Int)*ch n a (m+1)*u ^ m+tn n a m*u ^ m) (fun m _=>Int.add_mul _ _ _),gz]
  omega) m hm
 omega
/-- The product of two series. -/
def cw (f g:Nat→Int) (n:Nat):Int:=Sm (n+1) (fun i=>f i*g (n - i))

theorem LO (a:Nat→Nat→Int): ∀n,Sm (n+1) (fun k=>Sm (k+1) (fun i=>a i (k - i)))=Sm (n+1) (fun i=>Sm (n - i+1) (fun j=>a i j)):=by
 intro n
 induction n with
 | zero=>rfl
 | succ n ih=>
  show Sm (n+1) (fun k=>Sm (k+1) (fun i=>a i (k - i)))+(Sm (n+1) (fun i=>a i (n+1 - i))+a (n+1) (n+1 - (n+1)))=Sm (n+1) (fun i=>Sm (n+1 - i+1) (fun j=>a i j))+Sm (n+1 - (n+1)+1) (fun j=>a (n+1) j)
  rw[ih,Nat.sub_self];have e:Sm (n+1) (fun i=>Sm (n+1 - i+1) (fun j=>a i j))=Sm (n+1) (fun i=>Sm (n - i+1) (fun j=>a i j))+Sm (n+1) (fun i=>a i (n+1 - i)):=by
   rw[← gz];refine bK (fun i hi=> ?_);rw[show n+1 - i=n - i+1 by omega]
   rfl
  rw[e]
  show _=_+(0+a (n+1) 0)
  omega

/-- One. -/
def c1 (n:Nat):Int:=if n=0 then 1 else 0

/-- u times the derivative. -/
def dd (f:Nat→Int) (n:Nat):Int:=(n:Int)*f n

/-- A cut list of small numbers is a polynomial. -/
theorem LK {q:List Int} (hq:q.length≤40) (hs: ∀y∈q, -big≤y∧y≤big): ∀i,i≤q.length→whole (dx q i)=true:=by
 intro i
 induction i with
 | zero=>intro _;rfl
 | succ i ih=>
  intro hi;unfold dx
  by_cases c:rd q (i:Int)=0
  ·rw[if_pos c];exact ih (by omega)
  ·rw[if_neg c]
   unfold whole;rw[Bool.and_eq_true,Bool.and_eq_true,List.all_eq_true,decide_eq_true_iff];refine⟨⟨fun x hx=>decide_eq_true (hs x (List.mem_of_mem_take hx)),by simp only[List.length_take];omega⟩, ?_⟩;rw[bne_iff_ne,List.getLast?_eq_getElem?];have e:(q.take (i+1)).length=i+1:=by simp only[List.length_take];omega
   rw[e,Nat.add_sub_cancel,List.getElem?_take,if_pos (by omega),List.getElem?_eq_getElem (by omega)];rw[iw (by omega)]at c;intro x;exact c (Option.some.inj x)

/-- The scheme, from the j first numbers on. -/
def val (l:List Int) (x:Int):Nat→Int→Int×Int
 | 0,acc=>(acc,0)
 | j+1,acc=>if (more (l.getD j 0) acc x).2=true then val l x j (more (l.getD j 0) acc x).1 else (0,3)

section
variable (n:Nat) (hn:n≤1000) (a b:List (List Int)) (ha:Sq n a) (hb:Sq n b)

/-- The product's entry, of the k first places. -/
def part (k i j:Nat):Int:=wrap64 (Sm k (fun m=>bE a i m*bE b m j))

/-- The result while row i is told from the places before k, and up to j from place k. -/
def rt (i k j:Nat):List (List Int):=ofFn n (fun p q=>if p<i then part a b n p q else if p=i then (if q<j then part a b (k+1) p q else part a b k p q) else 0)

theorem P2 (i k:Nat):rt n a b i k n=rt n a b i (k+1) 0:=by
 refine qQ (fun p q hp hq=> ?_)
 by_cases c:p<i
 ·simp only[if_pos c]
 ·by_cases e:p=i
  ·simp only[if_neg c,if_pos e,if_pos hq,if_neg (Nat.not_lt_zero q)]
  ·simp only[if_neg c,if_neg e]

theorem Ij (i j:Nat):part a b 0 i j=0:=by
 unfold part Sm;exact aX (by decide) (by decide)

theorem P3 (i:Nat):rt n a b i n 0=rt n a b (i+1) 0 0:=by
 refine qQ (fun p q hp hq=> ?_)
 by_cases c:p<i
 ·rw[if_pos c,if_pos (by omega)]
 ·by_cases e:p=i
  ·rw[if_neg c,if_pos e,if_neg (by omega),if_pos (by omega)]
  ·rw[if_neg c,if_neg e,if_neg (by omega)]
   by_cases e2:p=i+1
   ·rw[if_pos e2,if_neg (by omega),Ij]
   ·rw[if_neg e2]

theorem P4 (k i j:Nat) (h:bE a i k=0):part a b (k+1) i j=part a b k i j:=by
 unfold part;rw[show Sm (k+1) (fun m=>bE a i m*bE b m j)=Sm k (fun m=>bE a i m*bE b m j)+bE a i k*bE b k j from rfl,h,Int.zero_mul,Int.add_zero]

theorem P5 (i k:Nat) (h:bE a i k=0):rt n a b i k 0=rt n a b i (k+1) 0:=by
 refine qQ (fun p q hp hq=> ?_)
 by_cases c:p<i
 ·simp only[if_pos c]
 ·by_cases e:p=i
  ·subst e
   simp only[if_neg c,if_pos,if_neg (Nat.not_lt_zero q),P4 a b k p q h]
  ·simp only[if_neg c,if_neg e]

theorem P6 (k i j:Nat):wrap64 (part a b k i j+wrap64 (bE a i k*bE b k j))=part a b (k+1) i j:=by
 unfold part;rw[r7]
 rfl

theorem DI (i k j:Nat):(rt n a b i k j).length=n:=r8 _ _

theorem DJ {i:Nat} (k j:Nat) (hi:i<n):af (rt n a b i k j) (i:Int)=rowOf n (fun q=>if q<j then part a b (k+1) i q else part a b k i q):=by
 unfold rt;rw[xV _ hi];refine nW (fun q hq=> ?_);rw[if_neg (Nat.lt_irrefl i),if_pos rfl]

theorem P7 {i j:Nat} (k:Nat) (hi:i<n) (hj:j<n):(rt n a b i k j).set i ((af (rt n a b i k j) (i:Int)).set j (wrap64 (rd (af (rt n a b i k j) (i:Int)) (j:Int)+wrap64 (bE a i k*bE b k j))))=rt n a b i k (j+1):=by
 rw[DJ n a b k j hi,jK _ hj,if_neg (Nat.lt_irrefl j),P6,Ak _ _ hj];unfold rt;rw[Gu _ _ hi];refine qQ (fun p q hp hq=> ?_)
 by_cases e:p=i
 ·subst e
  rw[if_pos rfl,if_neg (Nat.lt_irrefl p),if_pos rfl]
  by_cases e2:q=j
  ·subst e2
   rw[if_pos rfl,if_pos (by omega)]
  ·rw[if_neg e2]
   by_cases c:q<j
   ·rw[if_pos c,if_pos (by omega)]
   ·rw[if_neg c,if_neg (by omega)]
 ·rw[if_neg e]
  by_cases c:p<i
  ·rw[if_pos c,if_pos c]
  ·rw[if_neg c,if_neg c,if_neg e,if_neg e]

include hn ha hb

theorem P8 (i k:Nat) (hi:i<n) (hk:k<n) (r:List (List Int)) (hr:Ev (fun f=>fO.l1 f b (rt n a b i k n) (i:Int) a (n:Int) (i:Int) (af a (i:Int)) (n:Int) ((k+1:Nat):Int)) r):
  ∀(d j:Nat),j+d=n→Ev (fun f=>fO.l2 f b (rt n a b i k j) (i:Int) (bE a i k) a (n:Int) (i:Int) (af a (i:Int)) (n:Int) (k:Int) (af b (k:Int)) (n:Int) (j:Int)) r:=by
 have hbl:=hb.2 k hk;intro d
 induction d with
 | zero=>
  intro j hj;have e:j=n:=by omega
  subst e;refine Ev.succ ?_;simp only[fO.l2];rw[dI (i:=k) (by omega)]
  repeat (first | with_reducible exact Ev.now _ | dsimp only | refine Ev.bZ ?_ | refine Ev.cj ?_ | simp only[bne_self_eq_false,Bool.not_true,Bool.not_false,List.length_cons,List.length_nil] | rw[aX (by omega) (by omega)] | ((with_reducible refine Ev.eq (congrArg some ?_));rfl))
  exact hr
 | succ d ih=>
  intro j hj;have h1:=ih (j+1) (by omega);have hl:=DI n a b i k j;have hrow:(af (rt n a b i k j) (i:Int)).length=n:=by rw[DJ n a b k j hi,gm]
  have hset:=P7 n a b (i:=i) (j:=j) k hi (by omega);refine Ev.succ ?_;simp only[fO.l2];rw[show rd (af b (k:Int)) (j:Int)=bE b k j from rfl,Int.toNat_natCast,Int.toNat_natCast,hset,dI (i:=j) (by omega)]
  repeat (first | with_reducible exact Ev.now _ | dsimp only | refine Ev.bZ ?_ | refine Ev.cj ?_ | simp only[bne_self_eq_false,Bool.not_true,Bool.not_false,List.length_cons,List.length_nil] | rw[aX (by omega) (by omega)] | ((with_reducible refine Ev.eq (congrArg some ?_));rfl))
  exact h1

theorem P9 (i:Nat) (hi:i<n) (r:List (List Int)) (hr:Ev (fun f=>fO.l0 f b (rt n a b (i+1) 0 0) a (n:Int) ((i+1:Nat):Int)) r):
  ∀(d k:Nat),k+d=n→Ev (fun f=>fO.l1 f b (rt n a b i k 0) (i:Int) a (n:Int) (i:Int) (af a (i:Int)) (n:Int) (k:Int)) r:=by
 have hal:=ha.2 i hi;have hbl:=hb.1;intro d
 induction d with
 | zero=>
  intro k hk;have e:k=n:=by omega
  refine Ev.succ ?_;simp only[fO.l1];rw[e,P3,dI (i:=i) (by omega)]
  repeat (first | with_reducible exact Ev.now _ | dsimp only | refine Ev.bZ ?_ | refine Ev.cj ?_ | simp only[bne_self_eq_false,Bool.not_true,Bool.not_false,List.length_cons,List.length_nil] | rw[aX (by omega) (by omega)] | ((with_reducible refine Ev.eq (congrArg some ?_));rfl))
  exact hr
 | succ d ih=>
  intro k hk;have h1:=ih (k+1) (by omega);have hbk:=hb.2 k (by omega);refine Ev.succ ?_;simp only[fO.l1];rw[show rd (af a (i:Int)) (k:Int)=bE a i k from rfl,dI (i:=k) (by omega)]
  by_cases c:bE a i k=0
  ·rw[← P5 n a b i k c]at h1
   repeat (first | with_reducible exact Ev.now _ | dsimp only | refine Ev.bZ ?_ | refine Ev.cj ?_ | simp only[bne_self_eq_false,Bool.not_true,Bool.not_false,List.length_cons,List.length_nil] | rw[aX (by omega) (by omega)] | ((with_reducible refine Ev.eq (congrArg some ?_));rfl))
   exact h1
  ·rw[← P2]at h1
   repeat (first | with_reducible exact Ev.now _ | dsimp only | refine Ev.bZ ?_ | refine Ev.cj ?_ | simp only[bne_self_eq_false,Bool.not_true,Bool.not_false,List.length_cons,List.length_nil] | rw[aX (by omega) (by omega)] | ((with_reducible refine Ev.eq (congrArg some ?_));rfl))
   rw[hbk];exact P8 n hn a b ha hb i k hi (by omega) r h1 n 0 (by omega)

theorem Qa: ∀(d i:Nat),i+d=n→Ev (fun f=>fO.l0 f b (rt n a b i 0 0) a (n:Int) (i:Int)) (ofFn n (part a b n)):=by
 have hal:=ha.1;intro d
 induction d with
 | zero=>
  intro i hi;refine Ev.succ ?_;simp only[fO.l0];have e:rt n a b i 0 0=ofFn n (part a b n):=qQ (fun p q hp hq=>if_pos (by omega));rw[e]
  repeat (first | with_reducible exact Ev.now _ | dsimp only | refine Ev.bZ ?_ | refine Ev.cj ?_ | simp only[bne_self_eq_false,Bool.not_true,Bool.not_false,List.length_cons,List.length_nil] | rw[aX (by omega) (by omega)] | ((with_reducible refine Ev.eq (congrArg some ?_));rfl))
 | succ d ih=>
  intro i hi;have h1:=ih (i+1) (by omega);have hai:=ha.2 i (by omega);refine Ev.succ ?_;simp only[fO.l0]
  repeat (first | with_reducible exact Ev.now _ | dsimp only | refine Ev.bZ ?_ | refine Ev.cj ?_ | simp only[bne_self_eq_false,Bool.not_true,Bool.not_false,List.length_cons,List.length_nil] | rw[aX (by omega) (by omega)] | ((with_reducible refine Ev.eq (congrArg some ?_));rfl))
  rw[hai];exact P9 n hn a b ha hb i (by omega) _ h1 n 0 (by omega)

theorem Gv:Ev (fun f=>fO.f f a b) (ofFn n (part a b n)):=by
 unfold fO.f;rw[ha.1];refine Ev.bind (Al (n:Int) (by omega) (by omega)) ?_;have e:zeros (n:Int).toNat=rt n a b 0 0 0:=by
  rw[Int.toNat_natCast];apply List.ext_getElem
  ·rw[DI];simp[zeros]
  ·intro k h1 h2
   rw[DI]at h2;rw[← jH,← jH]
   ·by_cases e:k=0
    ·subst e
     rw[DJ n a b 0 0 h2,jH h1];simp only[zeros,List.getElem_replicate];rw[← yg];refine nW (fun q hq=> ?_);rw[if_neg (by omega),Ij]
    ·unfold rt
     rw[xV _ h2,jH h1];simp only[zeros,List.getElem_replicate];rw[← yg];refine nW (fun q hq=> ?_);rw[if_neg (by omega),if_neg e]
 rw[e];exact Qa n hn a b ha hb n 0 (by omega)

omit hb in
theorem trace:Ev (fun f=>lD.f f a) (wrap64 (tr n (bE a))):=by
 have hal:=ha.1;have: ∀(d i:Nat),i+d=n→Ev (fun f=>lD.l0 f (wrap64 (Sm i (fun i=>bE a i i))) a (n:Int) (i:Int)) (wrap64 (tr n (bE a))):=by
  intro d
  induction d with
  | zero=>
   intro i hi;have e:i=n:=by omega
   subst e;refine Ev.succ ?_;simp only[lD.l0]
   repeat (first | with_reducible exact Ev.now _ | dsimp only | refine Ev.bZ ?_ | refine Ev.cj ?_ | simp only[bne_self_eq_false,Bool.not_true,Bool.not_false,List.length_cons,List.length_nil] | rw[aX (by omega) (by omega)] | ((with_reducible refine Ev.eq (congrArg some ?_));rfl))
  | succ d ih=>
   intro i hi;have h1:=ih (i+1) (by omega);have hai:=ha.2 i (by omega);refine Ev.succ ?_;simp only[lD.l0];rw[dI (by omega),C6]
   repeat (first | with_reducible exact Ev.now _ | dsimp only | refine Ev.bZ ?_ | refine Ev.cj ?_ | simp only[bne_self_eq_false,Bool.not_true,Bool.not_false,List.length_cons,List.length_nil] | rw[aX (by omega) (by omega)] | ((with_reducible refine Ev.eq (congrArg some ?_));rfl))
   exact h1
 unfold lD.f;rw[hal];have h0:=this n 0 (by omega);rw[show wrap64 (Sm 0 (fun i=>bE a i i))=0 from aX (x:=0) (by decide) (by decide)]at h0;exact h0

end
/-- What is multiplied by the rows, ahead of step k. -/
def pre (n:Nat) (a:Nat→Nat→Int):Nat→Nat→Nat→Int
 | 0=>fun _ _=>0
 | k+1=>nc n a k

def wm (n:Nat) (x:Nat→Nat→Int):List (List Int):=ofFn n (fun i j=>wrap64 (x i j))

theorem Gy {n i j:Nat} (x:Nat→Nat→Int) (hi:i<n) (hj:j<n):bE (wm n x) i j=wrap64 (x i j):=tJ _ hi hj

theorem Gw (n:Nat) (a:List (List Int)) (x:Nat→Nat→Int):ofFn n (part a (wm n x) n)=wm n (mul n (bE a) x):=by
 refine qQ (fun i j hi hj=> ?_);unfold part;exact Gx (fun k hk=>by rw[Gy x hk hj,yx])

theorem LD (n:Nat) (a:Nat→Nat→Int):zeros n=wm n (pre n a 0):=by
 unfold wm ofFn zeros;apply List.ext_getElem
 ·simp
 ·intro i h1 h2
  simp only[List.getElem_replicate,List.getElem_map,List.getElem_range];rw[← yg];exact nW (fun j _=>(aX (x:=0) (by decide) (by decide)).symm)

/-- The next ones: the product, and the last coefficient in the diagonal. -/
theorem Lw (n:Nat) (a:Nat→Nat→Int) (k i j:Nat) (hi:i<n) (hj:j<n):nc n a k i j=mul n a (pre n a k) i j+if i=j then ch n a k else 0:=by
 rw[yw n a k i j hi hj]
 congr 1
 match k with
 | 0=>
  rw[if_pos rfl];unfold mul pre;rw[bK (g:=fun _=>0) (fun q _=>Int.mul_zero _),jR]
 | k+1=>
  rw[if_neg (by omega),Nat.add_sub_cancel];exact(CP n a k i j hi hj).symm
end Go.Proofs.Ytkadhadceongiaa.Pure
