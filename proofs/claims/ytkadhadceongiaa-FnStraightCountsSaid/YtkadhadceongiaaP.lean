/- The plain proofs for this law. -/
import Derived.Test.YtkadhadceongiaaC4
import Derived.Test.YtkadhadceongiaaAux
namespace Go.Proofs.Ytkadhadceongiaa.Pure
open Go.RowKit Go.Proofs.Ytkadhadceongiaa.G Go.Proofs.YtkadhadceongiaaW.PrintWords Go.Proofs.YtkadhadceongiaaW.PrintLast Go.Proofs.YtkadhadceongiaaW.PrintMore Go.Proofs.Ytkadhadceongiaa.Aux
set_option linter.unusedVariables false
set_option linter.unusedSimpArgs false

theorem mW {xs:List (List Int)} {i:Nat} (h:i<xs.length):aG xs (i:Int)=xs[i]:=by
 simp[aG,List.getD_eq_getElem?_getD,h]

/-- Rows of which each, and their number, is of a moderate size. -/
def Mod (l:List (List Int)):Prop:=l.length≤1048576∧∀r∈l,r.length≤1048576

theorem kH (a b c:Int):iw.f a b c=some (decide (b≤a∧a≤c)):=by
 unfold iw.f
 by_cases h:b≤a
 ·rw[if_pos h];simp[h]
 ·rw[if_neg h];simp[h]

theorem jP (a b c:Int):fk.f a b c=some (decide (b≤a∧a≤c)):=by
 unfold fk.f
 by_cases h:b≤a
 ·rw[if_pos h];simp[h]
 ·rw[if_neg h];simp[h]

/-- One edge's test. -/
def rS (n:Int) (e:List Int):Bool:=decide (e.length=2) && (decide (0≤rd e 0∧rd e 0≤wrap64 (n - 1)) && decide (0≤rd e 1∧rd e 1≤wrap64 (n - 1)))

def eN (n:Int) (l:List (List Int)):Bool:=l.all (rS n) && (decide (1≤n∧n≤8) && decide ((l.length:Int)≤10))

theorem JC (n:Int) (l:List (List Int)) (hl:Mod l): ∀(d i:Nat),i+d=l.length→
  Ev (fun k=>dw.l0 k (i:Int) n l) ((l.drop i).all (rS n)):=by
 have hl1:=hl.1;intro d
 induction d with
 | zero=>
  intro i hi;refine Ev.succ ?_;simp only[dw.l0];rw[List.drop_eq_nil_of_le (by omega)]
  repeat (first | with_reducible exact Ev.now _ | dsimp only | refine Ev.cr ?_ | refine Ev.cu ?_ | simp only[bne_self_eq_false,Bool.not_true,Bool.not_false,List.length_cons,List.length_nil] | rw[bg (by omega) (by omega)] | ((with_reducible refine Ev.eq (congrArg some ?_));rfl))
 | succ d ih=>
  intro i hi;refine Ev.succ ?_;simp only[dw.l0];rw[List.drop_eq_getElem_cons (by omega:i<l.length),List.all_cons,mW (by omega),dD (by omega)];generalize l[i]=e;have:=ih (i+1) (by omega);unfold rS
  by_cases h2:(e.length:Int)=2
  ·rw[decide_eq_true (show e.length=2 by omega),Bool.true_and]
   by_cases ha:0≤rd e 0∧rd e 0≤wrap64 (n - 1)
   ·by_cases hb:0≤rd e 1∧rd e 1≤wrap64 (n - 1)
    ·rw[decide_eq_true ha,decide_eq_true hb,Bool.true_and,Bool.true_and]
     repeat (first | with_reducible exact Ev.now _ | dsimp only | with_reducible refine Ev.bind (Ev.eq ((kH _ _ _).trans (congrArg some (decide_eq_true ha)))) ?_ | with_reducible refine Ev.bind (Ev.eq ((kH _ _ _).trans (congrArg some (decide_eq_true hb)))) ?_ | refine Ev.cr ?_ | refine Ev.cu ?_ | simp only[bne_self_eq_false,Bool.not_true,Bool.not_false,List.length_cons,List.length_nil] | rw[bg (by omega) (by omega)] | with_reducible exact(Ev.eq ((kH _ _ _).trans (congrArg some (decide_eq_true ha)))) | with_reducible exact(Ev.eq ((kH _ _ _).trans (congrArg some (decide_eq_true hb)))) | ((with_reducible refine Ev.eq (congrArg some ?_));rfl))
     exact this
    ·rw[decide_eq_false hb,Bool.and_false,Bool.false_and]
     repeat (first | with_reducible exact Ev.now _ | dsimp only | with_reducible refine Ev.bind (Ev.eq ((kH _ _ _).trans (congrArg some (decide_eq_true ha)))) ?_ | with_reducible refine Ev.bind (Ev.eq ((kH _ _ _).trans (congrArg some (decide_eq_false hb)))) ?_ | refine Ev.cr ?_ | refine Ev.cu ?_ | simp only[bne_self_eq_false,Bool.not_true,Bool.not_false,List.length_cons,List.length_nil] | rw[bg (by omega) (by omega)] | with_reducible exact(Ev.eq ((kH _ _ _).trans (congrArg some (decide_eq_true ha)))) | with_reducible exact(Ev.eq ((kH _ _ _).trans (congrArg some (decide_eq_false hb)))) | ((with_reducible refine Ev.eq (congrArg some ?_));rfl))
   ·rw[decide_eq_false ha,Bool.false_and,Bool.false_and]
    repeat (first | with_reducible exact Ev.now _ | dsimp only | with_reducible refine Ev.bind (Ev.eq ((kH _ _ _).trans (congrArg some (decide_eq_false ha)))) ?_ | refine Ev.cr ?_ | refine Ev.cu ?_ | simp only[bne_self_eq_false,Bool.not_true,Bool.not_false,List.length_cons,List.length_nil] | rw[bg (by omega) (by omega)] | with_reducible exact(Ev.eq ((kH _ _ _).trans (congrArg some (decide_eq_false ha)))) | ((with_reducible refine Ev.eq (congrArg some ?_));rfl))
  ·rw[decide_eq_false (show ¬e.length=2 by omega),Bool.false_and,Bool.false_and]
   repeat (first | with_reducible exact Ev.now _ | dsimp only | refine Ev.cr ?_ | refine Ev.cu ?_ | simp only[bne_self_eq_false,Bool.not_true,Bool.not_false,List.length_cons,List.length_nil] | rw[bg (by omega) (by omega)] | ((with_reducible refine Ev.eq (congrArg some ?_));rfl))

theorem vZ (n:Int) (l:List (List Int)) (hl:Mod l):Ev (fun k=>dw.f k n l) (eN n l):=by
 unfold dw.f eN
 by_cases h1:1≤n∧n≤8
 ·rw[decide_eq_true h1,Bool.true_and]
  repeat (first | with_reducible exact Ev.now _ | dsimp only | with_reducible refine Ev.bind (Ev.eq ((kH n 1 8).trans (congrArg some (decide_eq_true h1)))) ?_ | refine Ev.cr ?_ | refine Ev.cu ?_ | simp only[bne_self_eq_false,Bool.not_true,Bool.not_false,List.length_cons,List.length_nil] | rw[bg (by omega) (by omega)] | with_reducible exact(Ev.eq ((kH n 1 8).trans (congrArg some (decide_eq_true h1)))) | ((with_reducible refine Ev.eq (congrArg some ?_));rfl))
  refine Ev.succ ?_;simp only[dw.j0]
  by_cases h2:(l.length:Int)≤10
  ·rw[decide_eq_true h2,decide_eq_false (show ¬(l.length:Int)>10 by omega),Bool.and_true]
   repeat (first | with_reducible exact Ev.now _ | dsimp only | refine Ev.cr ?_ | refine Ev.cu ?_ | simp only[bne_self_eq_false,Bool.not_true,Bool.not_false,List.length_cons,List.length_nil] | rw[bg (by omega) (by omega)] | ((with_reducible refine Ev.eq (congrArg some ?_));rfl))
   exact JC n l hl l.length 0 (by omega)
  ·rw[decide_eq_false h2,decide_eq_true (show(l.length:Int)>10 by omega),Bool.and_false]
   repeat (first | with_reducible exact Ev.now _ | dsimp only | refine Ev.cr ?_ | refine Ev.cu ?_ | simp only[bne_self_eq_false,Bool.not_true,Bool.not_false,List.length_cons,List.length_nil] | rw[bg (by omega) (by omega)] | ((with_reducible refine Ev.eq (congrArg some ?_));rfl))
 ·rw[decide_eq_false h1,Bool.false_and,Bool.and_false]
  repeat (first | with_reducible exact Ev.now _ | dsimp only | with_reducible refine Ev.bind (Ev.eq ((kH n 1 8).trans (congrArg some (decide_eq_false h1)))) ?_ | refine Ev.cr ?_ | refine Ev.cu ?_ | simp only[bne_self_eq_false,Bool.not_true,Bool.not_false,List.length_cons,List.length_nil] | rw[bg (by omega) (by omega)] | with_reducible exact(Ev.eq ((kH n 1 8).trans (congrArg some (decide_eq_false h1)))) | ((with_reducible refine Ev.eq (congrArg some ?_));rfl))
  refine Ev.succ ?_;simp only[dw.j0]
  repeat (first | with_reducible exact Ev.now _ | dsimp only | refine Ev.cr ?_ | refine Ev.cu ?_ | simp only[bne_self_eq_false,Bool.not_true,Bool.not_false,List.length_cons,List.length_nil] | rw[bg (by omega) (by omega)] | ((with_reducible refine Ev.eq (congrArg some ?_));rfl))

theorem JD (n:Int) (l:List (List Int)) (hl:Mod l): ∀(d i:Nat),i+d=l.length→
  Ev (fun k=>gr.l0 k l (l.length:Int) (i:Int) n l) ((l.drop i).all (rS n) && (decide (1≤n∧n≤8) && decide ((l.length:Int)≤10))):=by
 have hl1:=hl.1;intro d
 induction d with
 | zero=>
  intro i hi;refine Ev.succ ?_;simp only[gr.l0];rw[List.drop_eq_nil_of_le (by omega),List.all_nil,Bool.true_and]
  by_cases h1:1≤n∧n≤8
  ·rw[decide_eq_true h1,Bool.true_and]
   repeat (first | with_reducible exact Ev.now _ | dsimp only | with_reducible refine Ev.bind (Ev.eq ((jP n 1 8).trans (congrArg some (decide_eq_true h1)))) ?_ | refine Ev.cr ?_ | refine Ev.cu ?_ | simp only[bne_self_eq_false,Bool.not_true,Bool.not_false,List.length_cons,List.length_nil] | rw[bg (by omega) (by omega)] | with_reducible exact(Ev.eq ((jP n 1 8).trans (congrArg some (decide_eq_true h1)))) | ((with_reducible refine Ev.eq (congrArg some ?_));rfl))
  ·rw[decide_eq_false h1,Bool.false_and]
   repeat (first | with_reducible exact Ev.now _ | dsimp only | with_reducible refine Ev.bind (Ev.eq ((jP n 1 8).trans (congrArg some (decide_eq_false h1)))) ?_ | refine Ev.cr ?_ | refine Ev.cu ?_ | simp only[bne_self_eq_false,Bool.not_true,Bool.not_false,List.length_cons,List.length_nil] | rw[bg (by omega) (by omega)] | with_reducible exact(Ev.eq ((jP n 1 8).trans (congrArg some (decide_eq_false h1)))) | ((with_reducible refine Ev.eq (congrArg some ?_));rfl))
 | succ d ih=>
  intro i hi;refine Ev.succ ?_;simp only[gr.l0];rw[List.drop_eq_getElem_cons (by omega:i<l.length),List.all_cons,mW (by omega),dD (by omega)];generalize l[i]=e;have:=ih (i+1) (by omega);unfold rS at this ⊢
  by_cases h2:(e.length:Int)=2
  ·rw[decide_eq_true (show e.length=2 by omega),Bool.true_and]
   by_cases ha:0≤rd e 0∧rd e 0≤wrap64 (n - 1)
   ·by_cases hb:0≤rd e 1∧rd e 1≤wrap64 (n - 1)
    ·rw[decide_eq_true ha,decide_eq_true hb,Bool.true_and,Bool.true_and]
     repeat (first | with_reducible exact Ev.now _ | dsimp only | with_reducible refine Ev.bind (Ev.eq ((jP _ _ _).trans (congrArg some (decide_eq_true ha)))) ?_ | with_reducible refine Ev.bind (Ev.eq ((jP _ _ _).trans (congrArg some (decide_eq_true hb)))) ?_ | refine Ev.cr ?_ | refine Ev.cu ?_ | simp only[bne_self_eq_false,Bool.not_true,Bool.not_false,List.length_cons,List.length_nil] | rw[bg (by omega) (by omega)] | with_reducible exact(Ev.eq ((jP _ _ _).trans (congrArg some (decide_eq_true ha)))) | with_reducible exact(Ev.eq ((jP _ _ _).trans (congrArg some (decide_eq_true hb)))) | ((with_reducible refine Ev.eq (congrArg some ?_));rfl))
     exact this
    ·rw[decide_eq_false hb,Bool.and_false,Bool.false_and,Bool.false_and]
     repeat (first | with_reducible exact Ev.now _ | dsimp only | with_reducible refine Ev.bind (Ev.eq ((jP _ _ _).trans (congrArg some (decide_eq_true ha)))) ?_ | with_reducible refine Ev.bind (Ev.eq ((jP _ _ _).trans (congrArg some (decide_eq_false hb)))) ?_ | refine Ev.cr ?_ | refine Ev.cu ?_ | simp only[bne_self_eq_false,Bool.not_true,Bool.not_false,List.length_cons,List.length_nil] | rw[bg (by omega) (by omega)] | with_reducible exact(Ev.eq ((jP _ _ _).trans (congrArg some (decide_eq_true ha)))) | with_reducible exact(Ev.eq ((jP _ _ _).trans (congrArg some (decide_eq_false hb)))) | ((with_reducible refine Ev.eq (congrArg some ?_));rfl))
   ·rw[decide_eq_false ha,Bool.false_and,Bool.false_and,Bool.false_and]
    repeat (first | with_reducible exact Ev.now _ | dsimp only | with_reducible refine Ev.bind (Ev.eq ((jP _ _ _).trans (congrArg some (decide_eq_false ha)))) ?_ | refine Ev.cr ?_ | refine Ev.cu ?_ | simp only[bne_self_eq_false,Bool.not_true,Bool.not_false,List.length_cons,List.length_nil] | rw[bg (by omega) (by omega)] | with_reducible exact(Ev.eq ((jP _ _ _).trans (congrArg some (decide_eq_false ha)))) | ((with_reducible refine Ev.eq (congrArg some ?_));rfl))
  ·rw[decide_eq_false (show ¬e.length=2 by omega),Bool.false_and,Bool.false_and,Bool.false_and]
   repeat (first | with_reducible exact Ev.now _ | dsimp only | refine Ev.cr ?_ | refine Ev.cu ?_ | simp only[bne_self_eq_false,Bool.not_true,Bool.not_false,List.length_cons,List.length_nil] | rw[bg (by omega) (by omega)] | ((with_reducible refine Ev.eq (congrArg some ?_));rfl))

theorem yA (n:Int) (l:List (List Int)) (hl:Mod l):Ev (fun k=>gr.f k n l) (eN n l):=by
 unfold gr.f;exact JD n l hl l.length 0 (by omega)

theorem Ap {α:Type} {e:List α} (h:e.length=2): ∃a b,e= [a,b]:=by
 match e,h with
 | [a,b],_=>exact⟨a,b,rfl⟩

theorem vW (n:Int) (l:List (List Int)):eN n l=true↔1≤n∧n≤8∧l.length≤10∧∀e∈l,∃a b:Int,e= [a,b]∧0≤a∧a<n∧0≤b∧b<n:=by
 unfold eN;rw[Bool.and_eq_true,Bool.and_eq_true,decide_eq_true_iff,decide_eq_true_iff,List.all_eq_true]
 constructor
 ·rintro⟨h,⟨h1,h2⟩,h3⟩
  refine⟨h1,h2,by omega,fun e he=> ?_⟩;have:=h e he;unfold rS at this;rw[Bool.and_eq_true,Bool.and_eq_true,decide_eq_true_iff,decide_eq_true_iff,decide_eq_true_iff,bg (by omega) (by omega)]at this;obtain⟨he2,ha,hb⟩:=this;obtain⟨a,b,rfl⟩:=Ap he2;simp only[show rd [a,b] 0=a from rfl,show rd [a,b] 1=b from rfl]at ha hb;exact⟨a,b,rfl,by omega,by omega,by omega,by omega⟩
 ·rintro⟨h1,h2,h3,h⟩
  refine⟨fun e he=> ?_,⟨h1,h2⟩,by omega⟩;obtain⟨a,b,rfl,h4,h5,h6,h7⟩:=h e he;unfold rS;rw[Bool.and_eq_true,Bool.and_eq_true,decide_eq_true_iff,decide_eq_true_iff,decide_eq_true_iff,bg (by omega) (by omega)];simp only[show rd [a,b] 0=a from rfl,show rd [a,b] 1=b from rfl];exact⟨rfl,by omega,by omega⟩
theorem AF {n:Int} {l:List (List Int)} (h:eN n l=true) {i:Nat} (hi:i<l.length):
  (aG l (i:Int)).length=2∧∃a b:Nat,rd (aG l (i:Int)) 0=a∧rd (aG l (i:Int)) 1=b∧(a:Int)<n∧(b:Int)<n:=by
 rw[mW hi];obtain⟨h1,h2,h3,h4⟩:=(vW n l).1 h;obtain⟨a,b,e,ha,ha',hb,hb'⟩:=h4 _ (List.getElem_mem hi);rw[e];refine⟨rfl,a.toNat,b.toNat, ?_, ?_,by omega,by omega⟩
 ·show a=_
  omega
 ·show b=_
  omega

theorem iD {n:Int} {l:List (List Int)} (h:eN n l=true):1≤n∧n≤8∧l.length≤10:=by
 obtain⟨h1,h2,h3,h4⟩:=(vW n l).1 h;exact⟨h1,h2,h3⟩
/-- The directed edge's start, its end, and its reverse. -/
def tl (l:List (List Int)) (p:Nat):Int:=if p % 2=1 then rd (aG l ((p / 2:Nat):Int)) 1 else rd (aG l ((p / 2:Nat):Int)) 0
def hd (l:List (List Int)) (p:Nat):Int:=if p % 2=1 then rd (aG l ((p / 2:Nat):Int)) 0 else rd (aG l ((p / 2:Nat):Int)) 1
def inv (p:Nat):Nat:=if p % 2=0 then p+1 else p - 1
def next (l:List (List Int)) (p q:Nat):Bool:=decide (hd l p=tl l q) && decide (q≠inv p)

theorem half (p:Nat) (h:p<1000):wrap64 (Int.tdiv (p:Int) 2)=((p / 2:Nat):Int):=by
 rw[Int.tdiv_eq_ediv_of_nonneg (by omega),bg (by omega) (by omega)]
 omega

theorem Ew (p:Nat):Int.tmod (p:Int) 2=((p % 2:Nat):Int):=by
 rw[Int.tmod_eq_emod_of_nonneg (by omega)]
 omega

theorem yB (p:Nat) (h:p<20):Go.bits .xor .i64 (p:Int) 1=((inv p:Nat):Int):=by
 have: ∀q:Fin 20,Go.bits .xor .i64 (q.val:Int) 1=((inv q.val:Nat):Int):=by decide
 exact this ⟨p,h⟩

section
variable {n:Int} {l:List (List Int)} (h:eN n l=true)
include h

theorem tU {p:Nat} (hp:p<2*l.length):hO.f n l (p:Int)=some (tl l p,hd l p):=by
 obtain⟨g1,g2,g3⟩:=iD h;obtain⟨e2,a,b,ea,eb,ha,hb⟩:=AF h (show p / 2<l.length by omega);unfold hO.f tl hd;rw[half p (by omega),Ew,if_pos (by omega),if_pos (by omega)]
 by_cases c:p % 2=1
 ·rw[if_pos (show((p % 2:Nat):Int)=1 by omega),if_pos (by omega),if_pos (by omega),if_pos c,if_pos c]
 ·rw[if_neg (show ¬((p % 2:Nat):Int)=1 by omega),if_pos (by omega),if_pos (by omega),if_neg c,if_neg c]

theorem wh {p:Nat} (hp:p<2*l.length):jg.f n l (p:Int)=some (tl l p,hd l p):=by
 obtain⟨g1,g2,g3⟩:=iD h;obtain⟨e2,a,b,ea,eb,ha,hb⟩:=AF h (show p / 2<l.length by omega);unfold jg.f tl hd;rw[half p (by omega),Ew,bg (x:=1 - ((p % 2:Nat):Int)) (by omega) (by omega),if_pos (by omega),if_pos (by omega),if_pos (by omega),if_pos (by omega),if_pos (by omega),if_pos (by omega)]
 by_cases c:p % 2=1
 ·rw[if_pos c,if_pos c,c]
  rfl
 ·rw[if_neg c,if_neg c,show p % 2=0 by omega]
  rfl

end
def zeros (n:Nat):List (List Int):=List.replicate n (List.replicate n 0)

theorem JE {α:Type} (n:Nat) (x:α):List.replicate n x++[x]=List.replicate (n+1) x:=List.replicate_succ'.symm

theorem AG (n:Int) (h0:0≤n) (h1:n≤1000):Ev (fun k=>iT.f k n) (zeros n.toNat):=by
 have: ∀(d v:Nat),(v:Int)+d=n→Ev (fun k=>iT.l0 k n (List.replicate v (List.replicate n.toNat 0)) n (v:Int)) (zeros n.toNat):=by
  intro d
  induction d with
  | zero=>
   intro v hv;refine Ev.succ ?_;simp only[iT.l0];rw[show v=n.toNat by omega]
   repeat (first | with_reducible exact Ev.now _ | dsimp only | refine Ev.cr ?_ | refine Ev.cu ?_ | simp only[bne_self_eq_false,Bool.not_true,Bool.not_false,List.length_cons,List.length_nil] | rw[bg (by omega) (by omega)] | ((with_reducible refine Ev.eq (congrArg some ?_));rfl))
  | succ d ih=>
   intro v hv;have:=ih (v+1) (by omega);rw[← JE]at this;refine Ev.succ ?_;simp only[iT.l0];rw[dD (by omega)];refine Ev.pos (by omega) ?_;refine Ev.pos (by omega) ?_;refine Ev.pos (by omega) ?_;refine Ev.pos (by simp;omega) ?_;exact this
 exact this n.toNat 0 (by omega)
/-- f 0 + .. + f (n - 1). -/
def Sm:Nat→(Nat→Int)→Int
 | 0,_=>0
 | n+1,f=>Sm n f+f n

theorem bJ {n:Nat} {f g:Nat→Int} (h: ∀i,i<n→f i=g i):Sm n f=Sm n g:=by
 induction n with
 | zero=>rfl
 | succ n ih=>unfold Sm;rw[ih (fun i hi=>h i (by omega)),h n (by omega)]

theorem gu (n:Nat) (f g:Nat→Int):Sm n (fun i=>f i+g i)=Sm n f+Sm n g:=by
 induction n with
 | zero=>rfl
 | succ n ih=>
  show Sm n (fun i=>f i+g i)+(f n+g n)=Sm n f+f n+(Sm n g+g n)
  rw[ih];omega

theorem eA (n:Nat) (c:Int) (f:Nat→Int):Sm n (fun i=>c*f i)=c*Sm n f:=by
 induction n with
 | zero=>simp[Sm]
 | succ n ih=>unfold Sm;rw[ih,Int.mul_add]

theorem jE (n:Nat) (c:Int) (f:Nat→Int):Sm n (fun i=>f i*c)=Sm n f*c:=by
 induction n with
 | zero=>simp[Sm]
 | succ n ih=>unfold Sm;rw[ih,Int.add_mul]

theorem j9 (n:Nat):Sm n (fun _=>0)=0:=by
 induction n with
 | zero=>rfl
 | succ n ih=>unfold Sm;rw[ih];rfl

theorem ke (n m:Nat) (f:Nat→Nat→Int):Sm n (fun i=>Sm m (fun j=>f i j))=Sm m (fun j=>Sm n (fun i=>f i j)):=by
 induction n with
 | zero=>exact(j9 m).symm
 | succ n ih=>
  show Sm n (fun i=>Sm m (fun j=>f i j))+Sm m (fun j=>f n j)=_
  rw[ih,← gu]
  rfl

theorem rT {n:Nat} {f:Nat→Int} {b:Int} (h: ∀i,i<n→f i≤b):Sm n f≤n*b:=by
 induction n with
 | zero=>simp[Sm]
 | succ n ih=>
  have h1:=ih (fun i hi=>h i (by omega));have h2:=h n (by omega);unfold Sm;rw[Int.natCast_add,Int.add_mul]
  omega

theorem mY {n:Nat} {f:Nat→Int} (h: ∀i,i<n→0≤f i):0≤Sm n f:=by
 induction n with
 | zero=>simp[Sm]
 | succ n ih=>
  have h1:=ih (fun i hi=>h i (by omega));have h2:=h n (by omega);unfold Sm
  omega

/-- The product of two square matrices. -/
def mul (n:Nat) (a b:Nat→Nat→Int):Nat→Nat→Int:=fun i j=>Sm n (fun k=>a i k*b k j)

theorem mul_assoc' (n:Nat) (a b c:Nat→Nat→Int) (i j:Nat):mul n (mul n a b) c i j=mul n a (mul n b c) i j:=by
 unfold mul;rw[bJ (g:=fun k=>Sm n (fun m=>a i m*b m k*c k j)) (fun k _=>(jE n _ _).symm)];rw[ke];refine bJ (fun m _=> ?_);rw[← eA];exact bJ (fun k _=>Int.mul_assoc _ _ _)

def tr (n:Nat) (a:Nat→Nat→Int):Int:=Sm n (fun i=>a i i)

/-- a to the power p + 1, multiplied from the right. -/
def pw (n:Nat) (a:Nat→Nat→Int):Nat→Nat→Nat→Int
 | 0=>a
 | p+1=>mul n (pw n a p) a

theorem mul_congr {n:Nat} {a b a' b':Nat→Nat→Int} {i j:Nat} (ha: ∀k,k<n→a i k=a' i k) (hb: ∀k,k<n→b k j=b' k j):mul n a b i j=mul n a' b' i j:=
 bJ (fun k hk=>by rw[ha k hk,hb k hk])

/-- A list's matrix, and a matrix's list. -/
def bw (m:List (List Int)) (i j:Nat):Int:=rd (aG m (i:Int)) (j:Int)

def rowOf (n:Nat) (f:Nat→Int):List Int:=(List.range n).map f

def ofFn (n:Nat) (f:Nat→Nat→Int):List (List Int):=(List.range n).map (fun i=>rowOf n (f i))

theorem gh (n:Nat) (f:Nat→Int):(rowOf n f).length=n:=by simp[rowOf]

theorem jO {n i:Nat} (f:Nat→Int) (h:i<n):rd (rowOf n f) (i:Int)=f i:=tW f h

theorem kI {n:Nat} {f g:Nat→Int} (h: ∀i,i<n→f i=g i):rowOf n f=rowOf n g:=by
 unfold rowOf;exact List.map_congr_left (fun i hi=>h i (List.mem_range.1 hi))

theorem yC {n i:Nat} (f:Nat→Int) (v:Int) (h:i<n):(rowOf n f).set i v=rowOf n (fun j=>if j=i then v else f j):=by
 refine AH (by rw[List.length_set,gh,gh]) (fun j hj=> ?_);rw[List.length_set,gh]at hj;rw[Ey (by rw[gh];exact h),jO _ hj,jO _ hj]

theorem wj (n:Nat):rowOf n (fun _=>0)=List.replicate n 0:=by
 refine AH (by rw[gh,List.length_replicate]) (fun j hj=> ?_);rw[gh]at hj;rw[jO _ hj,Ez]

theorem ql (n:Nat) (f:Nat→Nat→Int):(ofFn n f).length=n:=by simp[ofFn]

theorem wk {n i:Nat} (f:Nat→Nat→Int) (h:i<n):aG (ofFn n f) (i:Int)=rowOf n (f i):=by
 rw[mW (by rw[ql];exact h)];simp[ofFn]

theorem nF {n i j:Nat} (f:Nat→Nat→Int) (hi:i<n) (hj:j<n):bw (ofFn n f) i j=f i j:=by
 unfold bw;rw[wk f hi,jO _ hj]

theorem nG {n:Nat} {f g:Nat→Nat→Int} (h: ∀i j,i<n→j<n→f i j=g i j):ofFn n f=ofFn n g:=by
 unfold ofFn;exact List.map_congr_left (fun i hi=>kI (fun j hj=>h i j (List.mem_range.1 hi) hj))

theorem EA {n i:Nat} (f:Nat→Nat→Int) (r:Nat→Int) (h:i<n):(ofFn n f).set i (rowOf n r)=ofFn n (fun k=>if k=i then r else f k):=by
 apply List.ext_getElem
 ·rw[List.length_set,ql,ql]
 ·intro k h1 h2
  rw[ql]at h2;simp only[List.getElem_set,ofFn,List.getElem_map,List.getElem_range]
  by_cases e:k=i
  ·subst e;simp
  ·rw[if_neg (fun x=>e x.symm),if_neg e]

/-- A square list of rows. -/
def Sq (n:Nat) (m:List (List Int)):Prop:=m.length=n∧∀i:Nat,i<n→(aG m (i:Int)).length=n

theorem o9 (n:Nat) (f:Nat→Nat→Int):Sq n (ofFn n f):=⟨ql n f,fun i hi=>by rw[wk f hi,gh]⟩

theorem nY (a b:Int):wrap64 (wrap64 a+wrap64 b)=wrap64 (a+b):=by
 unfold wrap64
 omega

theorem EB (a b:Int):wrap64 (wrap64 a+b)=wrap64 (a+b):=by
 unfold wrap64
 omega

/-- Row p, told up to the place q. -/
def iF (l:List (List Int)) (p:Nat):Nat→List Int
 | 0=>List.replicate (2*l.length) 0
 | q+1=>if next l p q=true then (iF l p q).set q 1 else iF l p q

def kf (l:List (List Int)) (n:Nat):List (List Int):=(List.range n).map (fun p=>iF l p (2*l.length))

theorem wo (l:List (List Int)) (p q:Nat):(iF l p q).length=2*l.length:=by
 induction q with
 | zero=>simp[iF]
 | succ q ih=>unfold iF;split<;>simp[ih]

theorem rU (l:List (List Int)) (n:Nat):(kf l n).length=n:=by simp[kf]

theorem AJ (l:List (List Int)) (n:Nat):kf l (n+1)=kf l n++[iF l n (2*l.length)]:=qm _ _

theorem JF (l:List (List Int)) (p:Nat): ∀(q j:Nat),q≤2*l.length→rd (iF l p q) (j:Int)=if j<q∧next l p j=true then 1 else 0:=by
 intro q
 induction q with
 | zero=>
  intro j _;rw[if_neg (by omega)];exact Ez _ _
 | succ q ih=>
  intro j hq;have hl:=wo l p q;unfold iF
  by_cases c:next l p q=true
  ·rw[if_pos c,Ey (by omega)]
   by_cases e:j=q
   ·subst e
    rw[if_pos rfl,if_pos ⟨by omega,c⟩]
   ·rw[if_neg e,ih j (by omega)]
    by_cases c2:j<q∧next l p j=true
    ·rw[if_pos c2,if_pos ⟨by omega,c2.2⟩]
    ·rw[if_neg c2,if_neg (fun x=>c2 ⟨by omega,x.2⟩)]
  ·rw[if_neg c,ih j (by omega)]
   by_cases c2:j<q∧next l p j=true
   ·rw[if_pos c2,if_pos ⟨by omega,c2.2⟩]
   ·rw[if_neg c2,if_neg (fun x=> ?_)]
    by_cases e:j=q
    ·subst e;exact c x.2
    ·exact c2 ⟨by omega,x.2⟩

theorem tV {l:List (List Int)} {p q:Nat}:next l p q=true↔hd l p=tl l q∧q≠inv p:=by
 unfold next;rw[Bool.and_eq_true,decide_eq_true_iff,decide_eq_true_iff]
section
variable {n:Int} {l:List (List Int)} (h:eN n l=true)
include h

theorem JG (p:Nat) (hp:p<2*l.length) (m:List (List Int)) (hm:m.length≤20) (r:List (List Int)) (hr:Ev (fun k=>fD.l0 k (m++[iF l p (2*l.length)]) (2*(l.length:Int)) ((p+1:Nat):Int) n l) r):
  ∀(d q:Nat),q+d=2*l.length→Ev (fun k=>fD.l1 k m (2*(l.length:Int)) (p:Int) (iF l p q) (hd l p) (q:Int) n l) r:=by
 obtain⟨g1,g2,g3⟩:=iD h;intro d
 induction d with
 | zero=>
  intro q hq;have e:q=2*l.length:=by omega
  refine Ev.succ ?_;simp only[fD.l1];rw[dD (by omega),e]
  repeat (first | with_reducible exact Ev.now _ | dsimp only | refine Ev.cr ?_ | refine Ev.cu ?_ | simp only[bne_self_eq_false,Bool.not_true,Bool.not_false,List.length_cons,List.length_nil] | rw[bg (by omega) (by omega)] | ((with_reducible refine Ev.eq (congrArg some ?_));rfl))
  exact hr
 | succ d ih=>
  intro q hq;have hi:=ih (q+1) (by omega);rw[show iF l p (q+1)=(if next l p q=true then (iF l p q).set q 1 else iF l p q) from rfl]at hi;have he:=tU h (show q<2*l.length by omega);have hx:=yB p (by omega);have hlen:=wo l p q;refine Ev.succ ?_;simp only[fD.l1];rw[dD (i:=q) (by omega),hx]
  by_cases c:next l p q=true
  ·rw[if_pos c]at hi
   obtain⟨c1,c2⟩:=tV.1 c
   repeat (first | with_reducible exact Ev.now _ | dsimp only | with_reducible refine Ev.bind (Ev.eq he) ?_ | refine Ev.cr ?_ | refine Ev.cu ?_ | simp only[bne_self_eq_false,Bool.not_true,Bool.not_false,List.length_cons,List.length_nil] | rw[bg (by omega) (by omega)] | with_reducible exact(Ev.eq he) | ((with_reducible refine Ev.eq (congrArg some ?_));rfl))
   exact hi
  ·rw[if_neg c]at hi
   by_cases c1:hd l p=tl l q
   ·have c2:q=inv p:=by
     apply Classical.byContradiction;intro e;exact c (tV.2 ⟨c1,e⟩)
    repeat (first | with_reducible exact Ev.now _ | dsimp only | with_reducible refine Ev.bind (Ev.eq he) ?_ | refine Ev.cr ?_ | refine Ev.cu ?_ | simp only[bne_self_eq_false,Bool.not_true,Bool.not_false,List.length_cons,List.length_nil] | rw[bg (by omega) (by omega)] | with_reducible exact(Ev.eq he) | ((with_reducible refine Ev.eq (congrArg some ?_));rfl))
    exact hi
   ·repeat (first | with_reducible exact Ev.now _ | dsimp only | with_reducible refine Ev.bind (Ev.eq he) ?_ | refine Ev.cr ?_ | refine Ev.cu ?_ | simp only[bne_self_eq_false,Bool.not_true,Bool.not_false,List.length_cons,List.length_nil] | rw[bg (by omega) (by omega)] | with_reducible exact(Ev.eq he) | ((with_reducible refine Ev.eq (congrArg some ?_));rfl))
    exact hi

theorem EC:Ev (fun k=>fD.f k n l) (kf l (2*l.length)):=by
 obtain⟨g1,g2,g3⟩:=iD h;have: ∀(d p:Nat),p+d=2*l.length→Ev (fun k=>fD.l0 k (kf l p) (2*(l.length:Int)) (p:Int) n l) (kf l (2*l.length)):=by
  intro d
  induction d with
  | zero=>
   intro p hp;have e:p=2*l.length:=by omega
   refine Ev.succ ?_;simp only[fD.l0];rw[e]
   repeat (first | with_reducible exact Ev.now _ | dsimp only | refine Ev.cr ?_ | refine Ev.cu ?_ | simp only[bne_self_eq_false,Bool.not_true,Bool.not_false,List.length_cons,List.length_nil] | rw[bg (by omega) (by omega)] | ((with_reducible refine Ev.eq (congrArg some ?_));rfl))
  | succ d ih=>
   intro p hp;have hi:=ih (p+1) (by omega);rw[AJ]at hi;have he:=tU h (show p<2*l.length by omega);have hl:=rU l p;refine Ev.succ ?_;simp only[fD.l0];rw[show(2*(l.length:Int)).toNat=2*l.length by omega]
   repeat (first | with_reducible exact Ev.now _ | dsimp only | with_reducible refine Ev.bind (Ev.eq he) ?_ | refine Ev.cr ?_ | refine Ev.cu ?_ | simp only[bne_self_eq_false,Bool.not_true,Bool.not_false,List.length_cons,List.length_nil] | rw[bg (by omega) (by omega)] | with_reducible exact(Ev.eq he) | ((with_reducible refine Ev.eq (congrArg some ?_));rfl))
   exact JG h p (by omega) (kf l p) (by omega) _ hi (2*l.length) 0 (by omega)
 unfold fD.f;rw[bg (x:=2*(l.length:Int)) (by omega) (by omega)];exact this (2*l.length) 0 (by omega)

end
/-- The matrix while row p is told up to the place q. -/
def stage (l:List (List Int)) (p q:Nat):List (List Int):=kf l p++iF l p q :: List.replicate (2*l.length - (p+1)) (List.replicate (2*l.length) 0)

theorem JH (l:List (List Int)) (p q:Nat) (h:p<2*l.length):(stage l p q).length=2*l.length:=by
 simp[stage,rU];omega

theorem JI (l:List (List Int)) (p q:Nat):aG (stage l p q) (p:Int)=iF l p q:=by
 unfold stage;rw[mW (by simp[rU])];rw[List.getElem_append_right (by rw[rU];omega)];simp[rU]

theorem JJ (l:List (List Int)) (p q:Nat) (r:List Int):(stage l p q).set p r=kf l p++r :: List.replicate (2*l.length - (p+1)) (List.replicate (2*l.length) 0):=by
 unfold stage;rw[List.set_append_right _ _ (by rw[rU];omega),rU,Nat.sub_self,List.set_cons_zero]

theorem JK (l:List (List Int)):0<2*l.length→stage l 0 0=zeros (2*l.length):=by
 intro h;unfold stage kf zeros iF;rw[show 2*l.length - (0+1)=2*l.length - 1 by omega];simp only[List.range_zero,List.map_nil,List.nil_append];rw[← List.replicate_succ,Nat.sub_add_cancel (by omega)]

theorem JL (l:List (List Int)) (p:Nat) (h:p+1<2*l.length):stage l p (2*l.length)=stage l (p+1) 0:=by
 unfold stage;rw[AJ,show 2*l.length - (p+1)=(2*l.length - (p+1+1))+1 by omega,List.replicate_succ,List.append_assoc]
 rfl

theorem JM (l:List (List Int)) (p:Nat) (h:p+1=2*l.length):stage l p (2*l.length)=kf l (2*l.length):=by
 unfold stage;rw[show 2*l.length - (p+1)=0 by omega,List.replicate_zero,← AJ,h]

section
variable {n:Int} {l:List (List Int)} (h:eN n l=true)
include h

theorem ED (p:Nat) (hp:p<2*l.length) (r:List (List Int)) (hr:Ev (fun k=>fP.l0 k (stage l p (2*l.length)) (2*(l.length:Int)) ((p+1:Nat):Int) n l) r):
  ∀(d q:Nat),q+d=2*l.length→Ev (fun k=>fP.l1 k (stage l p q) (p:Int) (hd l p) (2*(l.length:Int)) (p:Int) (2*(l.length:Int)) (q:Int) n l) r:=by
 obtain⟨g1,g2,g3⟩:=iD h;intro d
 induction d with
 | zero=>
  intro q hq;have e:q=2*l.length:=by omega
  refine Ev.succ ?_;simp only[fP.l1];rw[dD (i:=p) (by omega),e]
  repeat (first | with_reducible exact Ev.now _ | dsimp only | refine Ev.cr ?_ | refine Ev.cu ?_ | simp only[bne_self_eq_false,Bool.not_true,Bool.not_false,List.length_cons,List.length_nil] | rw[bg (by omega) (by omega)] | ((with_reducible refine Ev.eq (congrArg some ?_));rfl))
  exact hr
 | succ d ih=>
  intro q hq;have hi:=ih (q+1) (by omega);have he:=wh h (show q<2*l.length by omega);have hx:=yB p (by omega);have hlen:=wo l p q;have hs:=JH l p q hp;refine Ev.succ ?_;simp only[fP.l1];rw[dD (i:=q) (by omega),hx,JI]
  by_cases c:next l p q=true
  ·have e2:(stage l p q).set p ((iF l p q).set q 1)=stage l p (q+1):=by
    rw[JJ];unfold stage;rw[show iF l p (q+1)=(if next l p q=true then (iF l p q).set q 1 else iF l p q) from rfl,if_pos c]
   obtain⟨c1,c2⟩:=tV.1 c;rw[Int.toNat_natCast,Int.toNat_natCast,e2]
   repeat (first | with_reducible exact Ev.now _ | dsimp only | with_reducible refine Ev.bind (Ev.eq he) ?_ | refine Ev.cr ?_ | refine Ev.cu ?_ | simp only[bne_self_eq_false,Bool.not_true,Bool.not_false,List.length_cons,List.length_nil] | rw[bg (by omega) (by omega)] | with_reducible exact(Ev.eq he) | ((with_reducible refine Ev.eq (congrArg some ?_));rfl))
   exact hi
  ·have e2:stage l p q=stage l p (q+1):=by
    unfold stage;rw[show iF l p (q+1)=(if next l p q=true then (iF l p q).set q 1 else iF l p q) from rfl,if_neg c]
   rw[← e2]at hi
   by_cases c1:hd l p=tl l q
   ·have c2:q=inv p:=by
     apply Classical.byContradiction;intro e;exact c (tV.2 ⟨c1,e⟩)
    repeat (first | with_reducible exact Ev.now _ | dsimp only | with_reducible refine Ev.bind (Ev.eq he) ?_ | refine Ev.cr ?_ | refine Ev.cu ?_ | simp only[bne_self_eq_false,Bool.not_true,Bool.not_false,List.length_cons,List.length_nil] | rw[bg (by omega) (by omega)] | with_reducible exact(Ev.eq he) | ((with_reducible refine Ev.eq (congrArg some ?_));rfl))
    exact hi
   ·repeat (first | with_reducible exact Ev.now _ | dsimp only | with_reducible refine Ev.bind (Ev.eq he) ?_ | refine Ev.cr ?_ | refine Ev.cu ?_ | simp only[bne_self_eq_false,Bool.not_true,Bool.not_false,List.length_cons,List.length_nil] | rw[bg (by omega) (by omega)] | with_reducible exact(Ev.eq he) | ((with_reducible refine Ev.eq (congrArg some ?_));rfl))
    exact hi

theorem EE:Ev (fun k=>fP.f k n l) (kf l (2*l.length)):=by
 obtain⟨g1,g2,g3⟩:=iD h;have main: ∀(d p:Nat),p+1+d=2*l.length→Ev (fun k=>fP.l0 k (stage l p 0) (2*(l.length:Int)) (p:Int) n l) (kf l (2*l.length)):=by
  intro d
  induction d with
  | zero=>
   intro p hp;have he:=wh h (show p<2*l.length by omega);refine Ev.succ ?_;simp only[fP.l0];unfold kY.f
   repeat (first | with_reducible exact Ev.now _ | dsimp only | with_reducible refine Ev.bind (Ev.eq he) ?_ | with_reducible refine Ev.bind (Ev.now _) ?_ | refine Ev.cr ?_ | refine Ev.cu ?_ | simp only[bne_self_eq_false,Bool.not_true,Bool.not_false,List.length_cons,List.length_nil] | rw[bg (by omega) (by omega)] | with_reducible exact(Ev.eq he) | with_reducible exact(Ev.now _) | ((with_reducible refine Ev.eq (congrArg some ?_));rfl))
   refine ED h p (by omega) _ ?_ (2*l.length) 0 (by omega);rw[JM l p (by omega)];refine Ev.succ ?_;simp only[fP.l0]
   repeat (first | with_reducible exact Ev.now _ | dsimp only | refine Ev.cr ?_ | refine Ev.cu ?_ | simp only[bne_self_eq_false,Bool.not_true,Bool.not_false,List.length_cons,List.length_nil] | rw[bg (by omega) (by omega)] | ((with_reducible refine Ev.eq (congrArg some ?_));rfl))
  | succ d ih=>
   intro p hp;have hi:=ih (p+1) (by omega);have he:=wh h (show p<2*l.length by omega);refine Ev.succ ?_;simp only[fP.l0];unfold kY.f
   repeat (first | with_reducible exact Ev.now _ | dsimp only | with_reducible refine Ev.bind (Ev.eq he) ?_ | with_reducible refine Ev.bind (Ev.now _) ?_ | refine Ev.cr ?_ | refine Ev.cu ?_ | simp only[bne_self_eq_false,Bool.not_true,Bool.not_false,List.length_cons,List.length_nil] | rw[bg (by omega) (by omega)] | with_reducible exact(Ev.eq he) | with_reducible exact(Ev.now _) | ((with_reducible refine Ev.eq (congrArg some ?_));rfl))
   refine ED h p (by omega) _ ?_ (2*l.length) 0 (by omega);rw[JL l p (by omega)];exact hi
 unfold fP.f kY.f;refine Ev.bind (Ev.now _) ?_;rw[bg (x:=2*(l.length:Int)) (by omega) (by omega)];refine Ev.bind (AG (2*(l.length:Int)) (by omega) (by omega)) ?_;refine Ev.bind (Ev.now _) ?_;rw[bg (x:=2*(l.length:Int)) (by omega) (by omega)];rw[show(2*(l.length:Int)).toNat=2*l.length by omega]
 by_cases e:l.length=0
 ·refine Ev.succ ?_;simp only[fP.l0]
  refine Ev.neg (by omega) ?_;refine Ev.eq (congrArg some ?_);rw[e]
  rfl
 ·rw[← JK l (by omega)]
  exact main (2*l.length - 1) 0 (by omega)

end
section
variable (n:Nat) (hn:n≤1000) (a b:List (List Int)) (ha:Sq n a) (hb:Sq n b)

/-- The product's entry, of the k first places. -/
def part (k i j:Nat):Int:=wrap64 (Sm k (fun m=>bw a i m*bw b m j))

/-- The result while row i is told from the places before k, and up to j from place k. -/
def rt (i k j:Nat):List (List Int):=ofFn n (fun p q=>if p<i then part a b n p q else if p=i then (if q<j then part a b (k+1) p q else part a b k p q) else 0)

theorem JN (i k:Nat):rt n a b i k n=rt n a b i (k+1) 0:=by
 refine nG (fun p q hp hq=> ?_)
 by_cases c:p<i
 ·simp only[if_pos c]
 ·by_cases e:p=i
  ·simp only[if_neg c,if_pos e,if_pos hq,if_neg (Nat.not_lt_zero q)]
  ·simp only[if_neg c,if_neg e]

theorem AK (i j:Nat):part a b 0 i j=0:=by
 unfold part Sm;exact bg (by decide) (by decide)

theorem JO (i:Nat):rt n a b i n 0=rt n a b (i+1) 0 0:=by
 refine nG (fun p q hp hq=> ?_)
 by_cases c:p<i
 ·rw[if_pos c,if_pos (by omega)]
 ·by_cases e:p=i
  ·rw[if_neg c,if_pos e,if_neg (by omega),if_pos (by omega)]
  ·rw[if_neg c,if_neg e,if_neg (by omega)]
   by_cases e2:p=i+1
   ·rw[if_pos e2,if_neg (by omega),AK]
   ·rw[if_neg e2]

theorem EF (k i j:Nat) (h:bw a i k=0):part a b (k+1) i j=part a b k i j:=by
 unfold part;rw[show Sm (k+1) (fun m=>bw a i m*bw b m j)=Sm k (fun m=>bw a i m*bw b m j)+bw a i k*bw b k j from rfl,h,Int.zero_mul,Int.add_zero]

theorem JP (i k:Nat) (h:bw a i k=0):rt n a b i k 0=rt n a b i (k+1) 0:=by
 refine nG (fun p q hp hq=> ?_)
 by_cases c:p<i
 ·simp only[if_pos c]
 ·by_cases e:p=i
  ·subst e
   simp only[if_neg c,if_pos,if_neg (Nat.not_lt_zero q),EF a b k p q h]
  ·simp only[if_neg c,if_neg e]

theorem EG (k i j:Nat):wrap64 (part a b k i j+wrap64 (bw a i k*bw b k j))=part a b (k+1) i j:=by
 unfold part;rw[nY]
 rfl

theorem AL (i k j:Nat):(rt n a b i k j).length=n:=ql _ _

theorem AO {i:Nat} (k j:Nat) (hi:i<n):aG (rt n a b i k j) (i:Int)=rowOf n (fun q=>if q<j then part a b (k+1) i q else part a b k i q):=by
 unfold rt;rw[wk _ hi];refine kI (fun q hq=> ?_);rw[if_neg (Nat.lt_irrefl i),if_pos rfl]

theorem JQ {i j:Nat} (k:Nat) (hi:i<n) (hj:j<n):(rt n a b i k j).set i ((aG (rt n a b i k j) (i:Int)).set j (wrap64 (rd (aG (rt n a b i k j) (i:Int)) (j:Int)+wrap64 (bw a i k*bw b k j))))=rt n a b i k (j+1):=by
 rw[AO n a b k j hi,jO _ hj,if_neg (Nat.lt_irrefl j),EG,yC _ _ hj];unfold rt;rw[EA _ _ hi];refine nG (fun p q hp hq=> ?_)
 by_cases e:p=i
 ·subst e
  rw[if_pos rfl,if_neg (Nat.lt_irrefl p),if_pos rfl]
  by_cases e2:q=j
  ·subst e2
   rw[if_pos rfl,if_pos (by omega)]
  ·rw[if_neg e2]
   by_cases c:q<j
   ·rw[if_pos c,if_pos (by omega)]
   ·rw[if_neg c,if_neg (by omega)]
 ·rw[if_neg e]
  by_cases c:p<i
  ·rw[if_pos c,if_pos c]
  ·rw[if_neg c,if_neg c,if_neg e,if_neg e]

include hn ha hb

theorem JR (i k:Nat) (hi:i<n) (hk:k<n) (r:List (List Int)) (hr:Ev (fun f=>ek.l1 f b (rt n a b i k n) (i:Int) a (n:Int) (i:Int) (aG a (i:Int)) (n:Int) ((k+1:Nat):Int)) r):
  ∀(d j:Nat),j+d=n→Ev (fun f=>ek.l2 f b (rt n a b i k j) (i:Int) (bw a i k) a (n:Int) (i:Int) (aG a (i:Int)) (n:Int) (k:Int) (aG b (k:Int)) (n:Int) (j:Int)) r:=by
 have hbl:=hb.2 k hk;intro d
 induction d with
 | zero=>
  intro j hj;have e:j=n:=by omega
  subst e;refine Ev.succ ?_;simp only[ek.l2];rw[dD (i:=k) (by omega)]
  repeat (first | with_reducible exact Ev.now _ | dsimp only | refine Ev.cr ?_ | refine Ev.cu ?_ | simp only[bne_self_eq_false,Bool.not_true,Bool.not_false,List.length_cons,List.length_nil] | rw[bg (by omega) (by omega)] | ((with_reducible refine Ev.eq (congrArg some ?_));rfl))
  exact hr
 | succ d ih=>
  intro j hj;have h1:=ih (j+1) (by omega);have hl:=AL n a b i k j;have hrow:(aG (rt n a b i k j) (i:Int)).length=n:=by rw[AO n a b k j hi,gh]
  have hset:=JQ n a b (i:=i) (j:=j) k hi (by omega);refine Ev.succ ?_;simp only[ek.l2];rw[show rd (aG b (k:Int)) (j:Int)=bw b k j from rfl,Int.toNat_natCast,Int.toNat_natCast,hset,dD (i:=j) (by omega)]
  repeat (first | with_reducible exact Ev.now _ | dsimp only | refine Ev.cr ?_ | refine Ev.cu ?_ | simp only[bne_self_eq_false,Bool.not_true,Bool.not_false,List.length_cons,List.length_nil] | rw[bg (by omega) (by omega)] | ((with_reducible refine Ev.eq (congrArg some ?_));rfl))
  exact h1

theorem JS (i:Nat) (hi:i<n) (r:List (List Int)) (hr:Ev (fun f=>ek.l0 f b (rt n a b (i+1) 0 0) a (n:Int) ((i+1:Nat):Int)) r):
  ∀(d k:Nat),k+d=n→Ev (fun f=>ek.l1 f b (rt n a b i k 0) (i:Int) a (n:Int) (i:Int) (aG a (i:Int)) (n:Int) (k:Int)) r:=by
 have hal:=ha.2 i hi;have hbl:=hb.1;intro d
 induction d with
 | zero=>
  intro k hk;have e:k=n:=by omega
  refine Ev.succ ?_;simp only[ek.l1];rw[e,JO,dD (i:=i) (by omega)]
  repeat (first | with_reducible exact Ev.now _ | dsimp only | refine Ev.cr ?_ | refine Ev.cu ?_ | simp only[bne_self_eq_false,Bool.not_true,Bool.not_false,List.length_cons,List.length_nil] | rw[bg (by omega) (by omega)] | ((with_reducible refine Ev.eq (congrArg some ?_));rfl))
  exact hr
 | succ d ih=>
  intro k hk;have h1:=ih (k+1) (by omega);have hbk:=hb.2 k (by omega);refine Ev.succ ?_;simp only[ek.l1];rw[show rd (aG a (i:Int)) (k:Int)=bw a i k from rfl,dD (i:=k) (by omega)]
  by_cases c:bw a i k=0
  ·rw[← JP n a b i k c]at h1
   repeat (first | with_reducible exact Ev.now _ | dsimp only | refine Ev.cr ?_ | refine Ev.cu ?_ | simp only[bne_self_eq_false,Bool.not_true,Bool.not_false,List.length_cons,List.length_nil] | rw[bg (by omega) (by omega)] | ((with_reducible refine Ev.eq (congrArg some ?_));rfl))
   exact h1
  ·rw[← JN]at h1
   repeat (first | with_reducible exact Ev.now _ | dsimp only | refine Ev.cr ?_ | refine Ev.cu ?_ | simp only[bne_self_eq_false,Bool.not_true,Bool.not_false,List.length_cons,List.length_nil] | rw[bg (by omega) (by omega)] | ((with_reducible refine Ev.eq (congrArg some ?_));rfl))
   rw[hbk];exact JR n hn a b ha hb i k hi (by omega) r h1 n 0 (by omega)

theorem JT: ∀(d i:Nat),i+d=n→Ev (fun f=>ek.l0 f b (rt n a b i 0 0) a (n:Int) (i:Int)) (ofFn n (part a b n)):=by
 have hal:=ha.1;intro d
 induction d with
 | zero=>
  intro i hi;refine Ev.succ ?_;simp only[ek.l0];have e:rt n a b i 0 0=ofFn n (part a b n):=nG (fun p q hp hq=>if_pos (by omega));rw[e]
  repeat (first | with_reducible exact Ev.now _ | dsimp only | refine Ev.cr ?_ | refine Ev.cu ?_ | simp only[bne_self_eq_false,Bool.not_true,Bool.not_false,List.length_cons,List.length_nil] | rw[bg (by omega) (by omega)] | ((with_reducible refine Ev.eq (congrArg some ?_));rfl))
 | succ d ih=>
  intro i hi;have h1:=ih (i+1) (by omega);have hai:=ha.2 i (by omega);refine Ev.succ ?_;simp only[ek.l0]
  repeat (first | with_reducible exact Ev.now _ | dsimp only | refine Ev.cr ?_ | refine Ev.cu ?_ | simp only[bne_self_eq_false,Bool.not_true,Bool.not_false,List.length_cons,List.length_nil] | rw[bg (by omega) (by omega)] | ((with_reducible refine Ev.eq (congrArg some ?_));rfl))
  rw[hai];exact JS n hn a b ha hb i (by omega) _ h1 n 0 (by omega)

theorem AP:Ev (fun f=>ek.f f a b) (ofFn n (part a b n)):=by
 unfold ek.f;rw[ha.1];refine Ev.bind (AG (n:Int) (by omega) (by omega)) ?_;have e:zeros (n:Int).toNat=rt n a b 0 0 0:=by
  rw[Int.toNat_natCast];apply List.ext_getElem
  ·rw[AL];simp[zeros]
  ·intro k h1 h2
   rw[AL]at h2;rw[← mW,← mW]
   ·by_cases e:k=0
    ·subst e
     rw[AO n a b 0 0 h2,mW h1];simp only[zeros,List.getElem_replicate];rw[← wj];refine kI (fun q hq=> ?_);rw[if_neg (by omega),AK]
    ·unfold rt
     rw[wk _ h2,mW h1];simp only[zeros,List.getElem_replicate];rw[← wj];refine kI (fun q hq=> ?_);rw[if_neg (by omega),if_neg e]
 rw[e];exact JT n hn a b ha hb n 0 (by omega)

omit hb in
theorem trace:Ev (fun f=>jF.f f a) (wrap64 (tr n (bw a))):=by
 have hal:=ha.1;have: ∀(d i:Nat),i+d=n→Ev (fun f=>jF.l0 f (wrap64 (Sm i (fun i=>bw a i i))) a (n:Int) (i:Int)) (wrap64 (tr n (bw a))):=by
  intro d
  induction d with
  | zero=>
   intro i hi;have e:i=n:=by omega
   subst e;refine Ev.succ ?_;simp only[jF.l0]
   repeat (first | with_reducible exact Ev.now _ | dsimp only | refine Ev.cr ?_ | refine Ev.cu ?_ | simp only[bne_self_eq_false,Bool.not_true,Bool.not_false,List.length_cons,List.length_nil] | rw[bg (by omega) (by omega)] | ((with_reducible refine Ev.eq (congrArg some ?_));rfl))
  | succ d ih=>
   intro i hi;have h1:=ih (i+1) (by omega);have hai:=ha.2 i (by omega);refine Ev.succ ?_;simp only[jF.l0];rw[dD (by omega),EB]
   repeat (first | with_reducible exact Ev.now _ | dsimp only | refine Ev.cr ?_ | refine Ev.cu ?_ | simp only[bne_self_eq_false,Bool.not_true,Bool.not_false,List.length_cons,List.length_nil] | rw[bg (by omega) (by omega)] | ((with_reducible refine Ev.eq (congrArg some ?_));rfl))
   exact h1
 unfold jF.f;rw[hal];have h0:=this n 0 (by omega);rw[show wrap64 (Sm 0 (fun i=>bw a i i))=0 from bg (x:=0) (by decide) (by decide)]at h0;exact h0

end
/-- One where q may follow p. -/
def W (l:List (List Int)) (p q:Nat):Int:=if next l p q=true then 1 else 0

theorem rV (l:List (List Int)) (p q:Nat):0≤W l p q∧W l p q≤1:=by
 unfold W
 split<;>decide

theorem yD (l:List (List Int)):kf l (2*l.length)=ofFn (2*l.length) (W l):=by
 unfold kf ofFn;refine List.map_congr_left (fun p hp=> ?_);refine AH (by rw[wo,gh]) (fun j hj=> ?_);rw[wo]at hj;rw[JF l p _ j (Nat.le_refl _),jO _ hj];unfold W
 by_cases c:next l p j=true
 ·rw[if_pos c,if_pos ⟨hj,c⟩]
 ·rw[if_neg c,if_neg (fun e=>c e.2)]

/-- The row of the j-th power that belongs to p. -/
def vec (l:List (List Int)) (N p:Nat):Nat→Nat→Int
 | 0,q=>if q=p then 1 else 0
 | j+1,q=>Sm N (fun r=>vec l N p j r*W l r q)

theorem JU (l:List (List Int)) (N p:Nat) (hN:N≤20): ∀j q,0≤vec l N p j q∧vec l N p j q≤20 ^ j:=by
 intro j
 induction j with
 | zero=>
  intro q;unfold vec
  split<;>decide
 | succ j ih=>
  intro q;unfold vec;have hle: ∀r,r<N→vec l N p j r*W l r q≤20 ^ j:=fun r _=>by
   have h1:=ih r;have h2:=rV l r q;have:vec l N p j r*W l r q≤vec l N p j r*1:=Int.mul_le_mul_of_nonneg_left h2.2 h1.1
   omega
  refine⟨mY (fun r _=>Int.mul_nonneg (ih r).1 (rV l r q).1), ?_⟩;have h3:=rT hle;have h4:(N:Int)*20 ^ j≤20*20 ^ j:=Int.mul_le_mul_of_nonneg_right (by omega) (Int.pow_nonneg (by decide));rw[Int.pow_succ,Int.mul_comm (20 ^ j) 20]
  omega

theorem JV (N:Nat) (f:Nat→Int) {p:Nat} (hp:p<N):Sm N (fun r=>(if r=p then 1 else 0)*f r)=f p:=by
 induction N with
 | zero=>omega
 | succ N ih=>
  show Sm N (fun r=>(if r=p then 1 else 0)*f r)+(if N=p then 1 else 0)*f N=f p
  by_cases e:p=N
  ·subst e
   rw[if_pos rfl,Int.one_mul];have:Sm p (fun r=>(if r=p then 1 else 0)*f r)=Sm p (fun _=>0):=bJ (fun i hi=>by rw[if_neg (by omega),Int.zero_mul]);rw[this,j9,Int.zero_add]
  ·rw[ih (by omega),if_neg (by omega),Int.zero_mul,Int.add_zero]

theorem JW (l:List (List Int)) (N:Nat) {p:Nat} (hp:p<N): ∀j q,vec l N p (j+1) q=pw N (W l) j p q:=by
 intro j
 induction j with
 | zero=>
  intro q
  show Sm N (fun r=>(if r=p then 1 else 0)*W l r q)=W l p q
  exact JV N (fun r=>W l r q) hp
 | succ j ih=>
  intro q
  show Sm N (fun r=>vec l N p (j+1) r*W l r q)=Sm N (fun r=>pw N (W l) j p r*W l r q)
  exact bJ (fun r _=>by rw[ih r])

theorem yE (l:List (List Int)) (N:Nat) (hN:N≤20) {p:Nat} (hp:p<N) (j q:Nat):0≤pw N (W l) j p q∧pw N (W l) j p q≤20 ^ (j+1):=by
 rw[← JW l N hp];exact JU l N p hN (j+1) q

/-- How many closed walks of j + 1 steps there are. -/
def eT (l:List (List Int)) (j:Nat):Int:=tr (2*l.length) (pw (2*l.length) (W l) j)

theorem AQ {j:Nat} (h:j≤13):(20:Int) ^ j≤81920000000000000:=by
 have: ∀i:Fin 14,(20:Int) ^ i.val≤81920000000000000:=by decide
 exact this ⟨j,by omega⟩

theorem yz (l:List (List Int)) (h:l.length≤10) {j:Nat} (hj:j≤12):0≤eT l j∧eT l j≤1638400000000000000:=by
 unfold eT tr;refine⟨mY (fun i hi=>(yE l _ (by omega) hi j i).1), ?_⟩;have h1:Sm (2*l.length) (fun i=>pw (2*l.length) (W l) j i i)≤(2*l.length:Nat)*81920000000000000:=rT (fun i hi=>by
  have:=(yE l _ (by omega) hi j i).2;have:=AQ (show j+1≤13 by omega)
  omega)
 omega
def traces (l:List (List Int)) (k:Nat):List Int:=(List.range k).map (eT l)

theorem rN (l:List (List Int)) (k:Nat):(traces l k).length=k:=by simp[traces]

theorem JX {l:List (List Int)} (h10:l.length≤10) (k:Nat) (hk:k≤12):Ev (fun f=>jQ.f f (kf l (2*l.length)) (k:Int)) (traces l k):=by
 have hN:2*l.length≤20:=by omega
 have AR:Sq (2*l.length) (ofFn (2*l.length) (W l)):=o9 _ _;have main: ∀(d i:Nat),i+d=k→Ev (fun f=>jQ.l0 f (ofFn (2*l.length) (W l)) (traces l i) (ofFn (2*l.length) (pw (2*l.length) (W l) i)) (k:Int) (i:Int)) (traces l k):=by
  intro d
  induction d with
  | zero=>
   intro i hi;have e:i=k:=by omega
   subst e;refine Ev.succ ?_;simp only[jQ.l0]
   repeat (first | with_reducible exact Ev.now _ | dsimp only | refine Ev.cr ?_ | refine Ev.cu ?_ | simp only[bne_self_eq_false,Bool.not_true,Bool.not_false,List.length_cons,List.length_nil] | rw[bg (by omega) (by omega)] | ((with_reducible refine Ev.eq (congrArg some ?_));rfl))
  | succ d ih=>
   intro i hi;have h1:=ih (i+1) (by omega);have hP:Sq (2*l.length) (ofFn (2*l.length) (pw (2*l.length) (W l) i)):=o9 _ _;have ht:=trace (2*l.length) (by omega) _ hP;have et:tr (2*l.length) (bw (ofFn (2*l.length) (pw (2*l.length) (W l) i)))=eT l i:=bJ (fun j hj=>nF _ hj hj);have hr:=yz l h10 (show i≤12 by omega);rw[et,bg (by omega) (by omega)]at ht;have hm:=AP (2*l.length) (by omega) _ _ hP AR;have em:ofFn (2*l.length) (part (ofFn (2*l.length) (pw (2*l.length) (W l) i)) (ofFn (2*l.length) (W l)) (2*l.length))=ofFn (2*l.length) (pw (2*l.length) (W l) (i+1)):=by
    refine nG (fun p q hp hq=> ?_);unfold part;have e1:Sm (2*l.length) (fun m=>bw (ofFn (2*l.length) (pw (2*l.length) (W l) i)) p m*bw (ofFn (2*l.length) (W l)) m q)=pw (2*l.length) (W l) (i+1) p q:=bJ (fun m hm=>by rw[nF _ hp hm,nF _ hm hq]);have hb:=yE l _ hN hp (i+1) q;have:=AQ (show i+1+1≤13 by omega);rw[e1,bg (by omega) (by omega)]
   rw[em]at hm;have hl:=rN l i;rw[traces,qm]at h1;refine Ev.succ ?_;simp only[jQ.l0];rw[dD (by omega)]
   repeat (first | with_reducible exact Ev.now _ | dsimp only | with_reducible refine Ev.bind (ht) ?_ | with_reducible refine Ev.bind (hm) ?_ | refine Ev.cr ?_ | refine Ev.cu ?_ | simp only[bne_self_eq_false,Bool.not_true,Bool.not_false,List.length_cons,List.length_nil] | rw[bg (by omega) (by omega)] | with_reducible exact(ht) | with_reducible exact(hm) | ((with_reducible refine Ev.eq (congrArg some ?_));rfl))
   exact h1
 rw[yD];unfold jQ.f;exact main k 0 (by omega)
theorem JY (x:Int): ∃q:Int,wrap64 x=x+18446744073709551616*q:=⟨-((x+9223372036854775808) / 18446744073709551616),by unfold wrap64;omega⟩

theorem JZ (x q:Int):wrap64 (x+18446744073709551616*q)=wrap64 x:=by unfold wrap64;omega

theorem wrap_wrap (x:Int):wrap64 (wrap64 x)=wrap64 x:=by unfold wrap64;omega

theorem wq (x y:Int):wrap64 (x*wrap64 y)=wrap64 (x*y):=by
 obtain⟨q,hq⟩:=JY y;rw[hq,Int.mul_add,Int.mul_left_comm,JZ]

theorem J0 (x y:Int):wrap64 (wrap64 x*y)=wrap64 (x*y):=by
 rw[Int.mul_comm,wq,Int.mul_comm]

theorem J1 (x y:Int):wrap64 (wrap64 x*wrap64 y)=wrap64 (x*y):=by
 rw[J0,wq]

theorem EH (a:Int):wrap64 (-wrap64 a)=wrap64 (-a):=by
 unfold wrap64
 omega

theorem J2 {a a' b b':Int} (h:wrap64 a=wrap64 a') (h':wrap64 b=wrap64 b'):wrap64 (a+b)=wrap64 (a'+b'):=by
 rw[← nY,h,h',nY]

theorem EI {n:Nat} {f g:Nat→Int} (h: ∀i,i<n→wrap64 (f i)=wrap64 (g i)):wrap64 (Sm n f)=wrap64 (Sm n g):=by
 induction n with
 | zero=>rfl
 | succ n ih=>
  unfold Sm;exact J2 (ih (fun i hi=>h i (by omega))) (h n (by omega))

def mu:Nat→Int
 | 1=>1 | 2=> -1 | 3=> -1 | 4=>0 | 5=> -1 | 6=>1 | 7=> -1 | 8=>0 | 9=>0 | 10=>1 | 11=> -1 | _=>0

theorem J3 (n:Nat) (h:1≤n∧n≤12):Ev (fun k=>jR.f k (n:Int)) (mu n):=by
 refine⟨20,fun k hk=> ?_⟩;obtain⟨d,rfl⟩: ∃d,k=d+20:=⟨k - 20,by omega⟩
 show jR.f (d+20) (n:Int)=some (mu n)
 have:n=1∨n=2∨n=3∨n=4∨n=5∨n=6∨n=7∨n=8∨n=9∨n=10∨n=11∨n=12:=by omega
 rcases this with rfl | rfl | rfl | rfl | rfl | rfl | rfl | rfl | rfl | rfl | rfl | rfl<;>simp[jR.f,jR.l0,wrap64,mu]

/-- The sum over the divisors up to j. -/
def mb (l:List (List Int)) (m j:Nat):Int:=Sm j (fun t=>if m % (t+1)=0 then mu (m / (t+1))*eT l t else 0)

def ju (l:List (List Int)) (m:Nat):Int:=wrap64 (Int.tdiv (wrap64 (mb l m m)) m)

theorem EJ (m d:Nat) (hd:0<d) (hm:m≤1000):wrap64 (Int.tdiv (m:Int) (d:Int))=((m / d:Nat):Int):=by
 rw[Int.tdiv_eq_ediv_of_nonneg (by omega),← Int.natCast_ediv];have:=Nat.div_le_self m d;generalize m / d=q at*;exact bg (by omega) (by omega)

theorem AB (m d:Nat):Int.tmod (m:Int) (d:Int)=((m % d:Nat):Int):=by
 rw[Int.tmod_eq_emod_of_nonneg (by omega)]
 rfl

theorem EK (l:List (List Int)) (m j:Nat) (h:m % (j+1)=0):wrap64 (wrap64 (mb l m j)+wrap64 (mu (m / (j+1))*eT l j))=wrap64 (mb l m (j+1)):=by
 rw[nY]
 show _=wrap64 (mb l m j+if m % (j+1)=0 then _ else 0)
 rw[if_pos h]

theorem EL (l:List (List Int)) (m j:Nat) (h: ¬m % (j+1)=0):mb l m (j+1)=mb l m j:=by
 show mb l m j+(if m % (j+1)=0 then _ else 0)=_
 rw[if_neg h,Int.add_zero]

theorem EM (m j:Nat) (hm:1≤m∧m≤12) (hj:j<m):1≤m / (j+1)∧m / (j+1)≤12:=by
 refine⟨(Nat.le_div_iff_mul_le (by omega)).2 (by omega),Nat.le_trans (Nat.div_le_self _ _) hm.2⟩

theorem J4 (l:List (List Int)) (k:Nat) (hk:k≤12):Ev (fun f=>gz.f f (traces l k)) ((List.range k).map (fun i=>ju l (i+1))):=by
 have hl:=rN l k;have outer: ∀(d i:Nat),i+d=k→Ev (fun f=>gz.l0 f (traces l k) ((List.range i).map (fun i=>ju l (i+1))) (k:Int) (i:Int)) ((List.range k).map (fun i=>ju l (i+1))):=by
  intro d
  induction d with
  | zero=>
   intro i hi;obtain rfl:i=k:=by omega
   refine Ev.succ ?_;simp only[gz.l0];exact Ev.neg (by omega) (Ev.now _)
  | succ d ih=>
   intro i hi;have h1:=ih (i+1) (by omega);rw[qm]at h1;have inner: ∀(e j:Nat),j+e=i+1→Ev (fun f=>gz.l1 f (traces l k) ((List.range i).map (fun i=>ju l (i+1))) ((i+1:Nat):Int) (wrap64 (mb l (i+1) j)) ((j+1:Nat):Int) (k:Int) (i:Int)) ((List.range k).map (fun i=>ju l (i+1))):=by
    intro e
    induction e with
    | zero=>
     intro j hj;obtain rfl:j=i+1:=by omega
     refine Ev.succ ?_;simp only[gz.l1];rw[dD (i:=i) (by omega)];refine Ev.neg (by omega) (Ev.neg (by omega) (Ev.pos (by simp;omega) ?_));exact h1
    | succ e ih2=>
     intro j hj;have h2:=ih2 (j+1) (by omega);have hq:=EM (i+1) j ⟨by omega,by omega⟩ (by omega);refine Ev.succ ?_;simp only[gz.l1];rw[EJ (i+1) (j+1) (by omega) (by omega),AB,dD (i:=j+1) (by omega)];refine Ev.pos (by omega) (Ev.neg (by omega) ?_)
     by_cases c:(i+1) % (j+1)=0
     ·have e1:rd (traces l k) (j:Int)=eT l j:=tW _ (by omega)
      rw[← EK l (i+1) j c]at h2;refine Ev.pos (by omega) (Ev.bind (J3 _ hq) ?_);rw[bg (x:=((j+1:Nat):Int) - 1) (by omega) (by omega),show((j+1:Nat):Int) - 1=(j:Int) by omega,e1];exact Ev.pos (by omega) (Ev.pos (by omega) h2)
     ·rw[EL l (i+1) j c]at h2
      exact Ev.neg (by omega) h2
   have h0:=inner (i+1) 0 (by omega);rw[show wrap64 (mb l (i+1) 0)=0 from bg (x:=0) (by decide) (by decide)]at h0;refine Ev.succ ?_;simp only[gz.l0];rw[dD (i:=i) (by omega)];exact Ev.pos (by omega) h0
 unfold gz.f;rw[hl];exact outer k 0 (by omega)
/-- 1: no graph; 2: no number from lo to 10; 0: both are well. -/
def iE (n:Int) (l:List (List Int)) (a lo:Int):Int:=if eN n l=true then (if lo≤a∧a≤10 then 0 else 2) else 1

theorem AU (n:Int) (l:List (List Int)) (a lo:Int) (hl:Mod l):Ev (fun k=>iU.f k n l a lo) (iE n l a lo):=by
 have h1:=vZ n l hl;have hc:=kH a lo 10;unfold iU.f iE
 by_cases hg:eN n l=true
 ·rw[hg]at h1
  rw[if_pos hg]
  by_cases c:lo≤a∧a≤10
  ·rw[decide_eq_true c]at hc
   rw[if_pos c]
   repeat (first | with_reducible exact Ev.now _ | dsimp only | with_reducible refine Ev.bind (h1) ?_ | with_reducible refine Ev.bind (Ev.eq hc) ?_ | refine Ev.cr ?_ | refine Ev.cu ?_ | simp only[bne_self_eq_false,Bool.not_true,Bool.not_false,List.length_cons,List.length_nil] | rw[bg (by omega) (by omega)] | with_reducible exact(h1) | with_reducible exact(Ev.eq hc) | ((with_reducible refine Ev.eq (congrArg some ?_));rfl))
  ·rw[decide_eq_false c]at hc
   rw[if_neg c]
   repeat (first | with_reducible exact Ev.now _ | dsimp only | with_reducible refine Ev.bind (h1) ?_ | with_reducible refine Ev.bind (Ev.eq hc) ?_ | refine Ev.cr ?_ | refine Ev.cu ?_ | simp only[bne_self_eq_false,Bool.not_true,Bool.not_false,List.length_cons,List.length_nil] | rw[bg (by omega) (by omega)] | with_reducible exact(h1) | with_reducible exact(Ev.eq hc) | ((with_reducible refine Ev.eq (congrArg some ?_));rfl))
 ·rw[Bool.not_eq_true]at hg
  rw[hg]at h1;rw[if_neg (by rw[hg];decide)]
  repeat (first | with_reducible exact Ev.now _ | dsimp only | with_reducible refine Ev.bind (h1) ?_ | refine Ev.cr ?_ | refine Ev.cu ?_ | simp only[bne_self_eq_false,Bool.not_true,Bool.not_false,List.length_cons,List.length_nil] | rw[bg (by omega) (by omega)] | with_reducible exact(h1) | ((with_reducible refine Ev.eq (congrArg some ?_));rfl))

theorem qj {n:Int} {l:List (List Int)} {a lo:Int} (h:iE n l a lo=0):eN n l=true∧lo≤a∧a≤10:=by
 unfold iE at h
 by_cases hg:eN n l=true
 ·rw[if_pos hg]at h
  by_cases c:lo≤a∧a≤10
  ·exact⟨hg,c⟩
  ·rw[if_neg c]at h
   cases h
 ·rw[if_neg hg]at h
  cases h
section
variable (n:Nat) (hn:n≤1000) (a b:List (List Int)) (ha:Sq n a) (hb:Sq n b)

/-- The rows that are told. -/
def wu (i:Nat):List (List Int):=(List.range i).map (fun p=>rowOf n (part a b n p))

/-- Row i, told from the places before k, and up to j from place k. -/
def lB (i k j:Nat):List Int:=rowOf n (fun q=>if q<j then part a b (k+1) i q else part a b k i q)

theorem J5 (i k j:Nat):(lB n a b i k j).length=n:=gh _ _

theorem J6 (i k:Nat):lB n a b i k n=lB n a b i (k+1) 0:=
 kI (fun q hq=>by simp only[if_pos hq,if_neg (Nat.not_lt_zero q)])

theorem J7 (i k:Nat) (h:bw a i k=0):lB n a b i k 0=lB n a b i (k+1) 0:=
 kI (fun q hq=>by simp only[if_neg (Nat.not_lt_zero q),EF a b k i q h])

theorem J8 (i:Nat):lB n a b i 0 0=List.replicate n 0:=by
 rw[← wj];exact kI (fun q hq=>by rw[if_neg (Nat.not_lt_zero q),AK])

theorem J9 (i:Nat):lB n a b i n 0=rowOf n (part a b n i):=
 kI (fun q hq=>by rw[if_neg (Nat.not_lt_zero q)])

theorem Ka (i k j:Nat) (hj:j<n):(lB n a b i k j).set j (wrap64 (rd (lB n a b i k j) (j:Int)+wrap64 (bw a i k*bw b k j)))=lB n a b i k (j+1):=by
 unfold lB;rw[jO _ hj,if_neg (Nat.lt_irrefl j),EG,yC _ _ hj];refine kI (fun q hq=> ?_)
 by_cases e2:q=j
 ·subst e2
  rw[if_pos rfl,if_pos (by omega)]
 ·rw[if_neg e2]
  by_cases c:q<j
  ·rw[if_pos c,if_pos (by omega)]
  ·rw[if_neg c,if_neg (by omega)]

include hn ha hb

theorem Kb (i k:Nat) (hi:i<n) (hk:k<n) (R:List (List Int)) (r:List (List Int)) (hr:Ev (fun f=>dR.l1 f a b R (i:Int) (lB n a b i (k+1) 0) ((k+1:Nat):Int)) r):
  ∀(d j:Nat),j+d=n→Ev (fun f=>dR.l2 f a b R (i:Int) (lB n a b i k j) (k:Int) (j:Int)) r:=by
 have hbl:=hb.2 k hk;have hal:=ha.2 i hi;have ha1:=ha.1;have hb1:=hb.1;intro d
 induction d with
 | zero=>
  intro j hj;obtain rfl:j=n:=by omega
  refine Ev.succ ?_;simp only[dR.l2];rw[dD (i:=k) (by omega),J6];exact Ev.neg (by omega) hr
 | succ d ih=>
  intro j hj;have h1:=ih (j+1) (by omega);have hl:=J5 n a b i k j;have hset:=Ka n a b i k j (by omega);refine Ev.succ ?_;simp only[dR.l2];rw[show rd (aG b (k:Int)) (j:Int)=bw b k j from rfl,show rd (aG a (i:Int)) (k:Int)=bw a i k from rfl,Int.toNat_natCast,hset,dD (i:=j) (by omega)];exact Ev.pos (by omega) (Ev.pos (by omega) (Ev.pos (by omega) (Ev.pos (by omega) (Ev.pos (by omega) (Ev.pos (by omega) (Ev.pos (by omega) (Ev.pos (by omega) (Ev.pos (by omega) h1))))))))

theorem Ke (i:Nat) (hi:i<n) (R:List (List Int)) (hR:R.length≤1000) (r:List (List Int)) (hr:Ev (fun f=>dR.l0 f a b (R++[rowOf n (part a b n i)]) ((i+1:Nat):Int)) r):
  ∀(d k:Nat),k+d=n→Ev (fun f=>dR.l1 f a b R (i:Int) (lB n a b i k 0) (k:Int)) r:=by
 have hal:=ha.2 i hi;have ha1:=ha.1;have hb1:=hb.1;intro d
 induction d with
 | zero=>
  intro k hk;obtain rfl:k=n:=by omega
  refine Ev.succ ?_;simp only[dR.l1];rw[J9,dD (i:=i) (by omega)];exact Ev.neg (by omega) (Ev.pos (by omega) hr)
 | succ d ih=>
  intro k hk;have h1:=ih (k+1) (by omega);refine Ev.succ ?_;simp only[dR.l1];rw[show rd (aG a (i:Int)) (k:Int)=bw a i k from rfl,dD (i:=k) (by omega)];refine Ev.pos (by omega) (Ev.pos (by omega) (Ev.pos (by omega) (Ev.pos (by omega) (Ev.pos (by omega) ?_))))
  by_cases c:bw a i k=0
  ·rw[← J7 n a b i k c]at h1
   exact Ev.pos c h1
  ·exact Ev.neg c (Kb n hn a b ha hb i k hi (by omega) R r h1 n 0 (by omega))

theorem Kf:Ev (fun f=>dR.f f a b) (ofFn n (part a b n)):=by
 have ha1:=ha.1;have hb1:=hb.1;have main: ∀(d i:Nat),i+d=n→Ev (fun f=>dR.l0 f a b (wu n a b i) (i:Int)) (ofFn n (part a b n)):=by
  intro d
  induction d with
  | zero=>
   intro i hi;obtain rfl:i=n:=by omega
   refine Ev.succ ?_;simp only[dR.l0];exact Ev.neg (by omega) (Ev.now _)
  | succ d ih=>
   intro i hi;have h1:=ih (i+1) (by omega);have hl:(wu n a b i).length=i:=by simp[wu]
   rw[show wu n a b (i+1)=wu n a b i++[rowOf n (part a b n i)] from qm _ _]at h1;refine Ev.succ ?_;simp only[dR.l0];rw[hb1,Int.toNat_natCast,← J8 n a b i];exact Ev.pos (by omega) (Ev.pos (by omega) (Ev.pos (by omega) (Ke n hn a b ha hb i (by omega) _ (by omega) _ h1 n 0 (by omega))))
 exact main n 0 (by omega)

end

section
variable {n:Int} {l:List (List Int)} (h:eN n l=true)
include h

theorem EN (k:Nat) (hk:k≤10):Ev (fun f=>fQ.f f n l (k:Int)) (traces l k):=by
 obtain⟨g1,g2,h10⟩:=iD h;have hN:2*l.length≤20:=by omega
 have AR:Sq (2*l.length) (ofFn (2*l.length) (W l)):=o9 _ _;have main: ∀(d i:Nat),i+d=k→Ev (fun f=>fQ.l0 f (d:Int) (ofFn (2*l.length) (W l)) (traces l i) (ofFn (2*l.length) (pw (2*l.length) (W l) i))) (traces l k):=by
  intro d
  induction d with
  | zero=>
   intro i hi;obtain rfl:i=k:=by omega
   refine Ev.succ ?_;simp only[fQ.l0];exact Ev.neg (by omega) (Ev.now _)
  | succ d ih=>
   intro i hi;have h1:=ih (i+1) (by omega);have hP:Sq (2*l.length) (ofFn (2*l.length) (pw (2*l.length) (W l) i)):=o9 _ _;have hr:=yz l h10 (show i≤12 by omega);have hm:=Kf (2*l.length) (by omega) _ _ hP AR;have em:ofFn (2*l.length) (part (ofFn (2*l.length) (pw (2*l.length) (W l) i)) (ofFn (2*l.length) (W l)) (2*l.length))=ofFn (2*l.length) (pw (2*l.length) (W l) (i+1)):=by
    refine nG (fun p q hp hq=> ?_);unfold part;have e1:Sm (2*l.length) (fun m=>bw (ofFn (2*l.length) (pw (2*l.length) (W l) i)) p m*bw (ofFn (2*l.length) (W l)) m q)=pw (2*l.length) (W l) (i+1) p q:=bJ (fun m hm=>by rw[nF _ hp hm,nF _ hm hq]);have hb:=yE l _ hN hp (i+1) q;have:=AQ (show i+1+1≤13 by omega);rw[e1,bg (by omega) (by omega)]
   rw[em]at hm;have hl:=rN l i;rw[traces,qm]at h1;have inner: ∀(e j:Nat),j+e=2*l.length→Ev (fun f=>fQ.l1 f ((d+1:Nat):Int) (ofFn (2*l.length) (W l)) (traces l i) (ofFn (2*l.length) (pw (2*l.length) (W l) i)) (wrap64 (Sm j (fun p=>pw (2*l.length) (W l) i p p))) (j:Int)) (traces l k):=by
    intro e
    induction e with
    | zero=>
     intro j hj;obtain rfl:j=2*l.length:=by omega
     have et:wrap64 (Sm (2*l.length) (fun p=>pw (2*l.length) (W l) i p p))=eT l i:=bg (by show _≤eT l i;omega) (by show eT l i≤_;omega);have hpl:=hP.1;refine Ev.succ ?_;simp only[fQ.l1];rw[et,show wrap64 (((d+1:Nat):Int) - 1)=(d:Int) by rw[bg (by omega) (by omega)];omega];refine Ev.neg (by omega) (Ev.pos (by omega) (Ev.bind (Ev.now _) ?_))
     by_cases c:d=0
     ·subst c
      refine Ev.neg (by omega) ?_
      -- the last round: the power is not told anew
      refine Ev.succ ?_;simp only[fQ.l0];obtain rfl:k=i+1:=by omega
      rw[traces,traces,qm];exact Ev.neg (by omega) (Ev.now _)
     ·exact Ev.pos (by omega) (Ev.bind hm h1)
    | succ e ih2=>
     intro j hj;have h2:=ih2 (j+1) (by omega);have hpl:=hP.1;have U7:=hP.2 j (by omega);have ej:rd (aG (ofFn (2*l.length) (pw (2*l.length) (W l) i)) (j:Int)) (j:Int)=pw (2*l.length) (W l) i j j:=nF _ (by omega) (by omega);refine Ev.succ ?_;simp only[fQ.l1];rw[ej,EB,dD (i:=j) (by omega)];exact Ev.pos (by omega) (Ev.pos (by omega) (Ev.pos (by omega) h2))
   have h0:=inner (2*l.length) 0 (by omega);rw[show wrap64 (Sm 0 (fun p=>pw (2*l.length) (W l) i p p))=0 from bg (x:=0) (by decide) (by decide)]at h0;refine Ev.succ ?_;simp only[fQ.l0];exact Ev.pos (by omega) h0
 have hE:=EC h;rw[yD]at hE;unfold fQ.f;exact Ev.bind hE (main k 0 (by omega))

end

theorem Kg (n:Nat) (h:1≤n∧n≤12):Ev (fun k=>jS.f k (n:Int)) (mu n):=by
 refine⟨20,fun k hk=> ?_⟩;obtain⟨d,rfl⟩: ∃d,k=d+20:=⟨k - 20,by omega⟩
 show jS.f (d+20) (n:Int)=some (mu n)
 have:n=1∨n=2∨n=3∨n=4∨n=5∨n=6∨n=7∨n=8∨n=9∨n=10∨n=11∨n=12:=by omega
 rcases this with rfl | rfl | rfl | rfl | rfl | rfl | rfl | rfl | rfl | rfl | rfl | rfl<;>simp[jS.f,jS.l0,wrap64,mu]

theorem Kh (l:List (List Int)) (k:Nat) (hk:k≤12):Ev (fun f=>gx.l0 f (k:Int) (traces l k) [] 1) ((List.range k).map (fun i=>ju l (i+1)),0):=by
 have hl:=rN l k;have outer: ∀(d i:Nat),i+d=k→Ev (fun f=>gx.l0 f (k:Int) (traces l k) ((List.range i).map (fun i=>ju l (i+1))) ((i+1:Nat):Int)) ((List.range k).map (fun i=>ju l (i+1)),0):=by
  intro d
  induction d with
  | zero=>
   intro i hi;obtain rfl:i=k:=by omega
   refine Ev.succ ?_;simp only[gx.l0];exact Ev.neg (by omega) (Ev.now _)
  | succ d ih=>
   intro i hi;have h1:=ih (i+1) (by omega);rw[qm]at h1;have inner: ∀(e j:Nat),j+e=i+1→Ev (fun f=>gx.l1 f (k:Int) (traces l k) ((List.range i).map (fun i=>ju l (i+1))) ((i+1:Nat):Int) (wrap64 (mb l (i+1) j)) ((j+1:Nat):Int)) ((List.range k).map (fun i=>ju l (i+1)),0):=by
    intro e
    induction e with
    | zero=>
     intro j hj;obtain rfl:j=i+1:=by omega
     refine Ev.succ ?_;simp only[gx.l1];rw[dD (i:=i+1) (by omega)];refine Ev.neg (by omega) (Ev.neg (by omega) (Ev.pos (by simp;omega) ?_));exact h1
    | succ e ih2=>
     intro j hj;have h2:=ih2 (j+1) (by omega);have hq:=EM (i+1) j ⟨by omega,by omega⟩ (by omega);refine Ev.succ ?_;simp only[gx.l1];rw[EJ (i+1) (j+1) (by omega) (by omega),AB,dD (i:=j+1) (by omega)];refine Ev.pos (by omega) (Ev.neg (by omega) ?_)
     by_cases c:(i+1) % (j+1)=0
     ·have e1:rd (traces l k) (j:Int)=eT l j:=tW _ (by omega)
      rw[← EK l (i+1) j c]at h2;refine Ev.pos (by omega) (Ev.bind (Kg _ hq) ?_);rw[bg (x:=((j+1:Nat):Int) - 1) (by omega) (by omega),show((j+1:Nat):Int) - 1=(j:Int) by omega,e1];exact Ev.pos (by omega) (Ev.pos (by omega) h2)
     ·rw[EL l (i+1) j c]at h2
      exact Ev.neg (by omega) h2
   have h0:=inner (i+1) 0 (by omega);rw[show wrap64 (mb l (i+1) 0)=0 from bg (x:=0) (by decide) (by decide)]at h0;refine Ev.succ ?_;simp only[gx.l0];exact Ev.pos (by omega) h0
 exact outer k 0 (by omega)

theorem Ki (n:Int) (l:List (List Int)) (a:Int) (hl:Mod l):Ev (fun k=>qn.f k n l a) (iE n l a 1):=by
 have h1:=yA n l hl;unfold qn.f rW.f iE;rw[jP]
 by_cases hg:eN n l=true
 ·rw[hg]at h1
  rw[if_pos hg]
  by_cases c:1≤a∧a≤10
  ·rw[decide_eq_true c,if_pos c]
   exact Ev.bind h1 (Ev.pos rfl (Ev.bind (Ev.now _) (Ev.pos rfl (Ev.now _))))
  ·rw[decide_eq_false c,if_neg c]
   exact Ev.bind h1 (Ev.pos rfl (Ev.bind (Ev.now _) (Ev.neg (by decide) (Ev.now _))))
 ·rw[Bool.not_eq_true]at hg
  rw[hg]at h1;rw[if_neg (by rw[hg];decide)];exact Ev.bind h1 (Ev.neg (by decide) (Ev.now _))

/-- What both sides answer. -/
def kG (n:Int) (l:List (List Int)) (a:Int):List Int×Int:=if iE n l a 1=0 then (traces l a.toNat,0) else ([],iE n l a 1)

theorem JB (n:Int) (l:List (List Int)) (a:Int):(kG n l a).1.length≤10:=by
 unfold kG
 by_cases c:iE n l a 1=0
 ·obtain⟨hg,h1,h2⟩:=qj c
  rw[if_pos c]
  show(traces l a.toNat).length≤10
  rw[rN]
  omega
 ·rw[if_neg c]
  show([]:List Int).length≤10
  simp

theorem JA (n:Int) (l:List (List Int)) (a:Int) (hl:Mod l):Ev (fun k=>rX.f k n l a) (kG n l a):=by
 unfold rX.f kG;have h1:=AU n l a 1 hl
 by_cases c:iE n l a 1=0
 ·obtain⟨hg,ha,hb⟩:=qj c
  obtain⟨k,rfl⟩:=Int.eq_ofNat_of_zero_le (show 0≤a by omega);rw[if_pos c];exact Ev.bind h1 (Ev.pos c (Ev.bind (EN hg k (by omega)) (Ev.now _)))
 ·rw[if_neg c]
  exact Ev.bind h1 (Ev.neg c (Ev.now _))

theorem AE (n:Int) (l:List (List Int)) (a:Int) (hl:Mod l):Ev (fun k=>mZ.f k n l a) (kG n l a):=by
 unfold mZ.f kG;have h1:=Ki n l a hl
 by_cases c:iE n l a 1=0
 ·obtain⟨hg,ha,hb⟩:=qj c
  obtain⟨g1,g2,g3⟩:=iD hg;obtain⟨k,rfl⟩:=Int.eq_ofNat_of_zero_le (show 0≤a by omega);rw[if_pos c];exact Ev.bind h1 (Ev.pos c (Ev.bind (EE hg) (Ev.bind (JX g3 k (by omega)) (Ev.now _))))
 ·rw[if_neg c]
  exact Ev.bind h1 (Ev.neg c (Ev.now _))
def small (x:Int):Bool:=decide (-1000000000000000≤x∧x≤1000000000000000)

theorem Kj (x:Int):rY.f x=some (small x):=by
 unfold rY.f;rw[jP]
 rfl

def big:Int:=1000000000000000

/-- a + b * c, and whether product and sum are small. -/
def more (a b c:Int):Int×Bool:=if -big≤b*c∧b*c≤big then (a+b*c,small (a+b*c)) else (0,false)

theorem EO {a:Int} (h: -big≤a∧a≤big):mx a (wrap64 (-a))=a.natAbs:=by
 unfold big at h;rw[bg (by omega) (by omega)];unfold mx
 split<;>omega

theorem EP {b c:Int} (hb:b≠0): ¬((c.natAbs:Int)>big.tdiv (b.natAbs:Int))↔(-big≤b*c∧b*c≤big):=by
 have hp:(0:Int)<(b.natAbs:Int):=by omega
 rw[Int.tdiv_eq_ediv_of_nonneg (by decide),Int.not_lt,Int.le_ediv_iff_mul_le hp];have:(c.natAbs:Int)*(b.natAbs:Int)=((b*c).natAbs:Int):=by
  rw[Int.natAbs_mul]
  push_cast
  exact Int.mul_comm _ _
 rw[this]
 omega

theorem Kk {b:Int}:wrap64 (big.tdiv (b.natAbs:Int))=big.tdiv (b.natAbs:Int):=by
 have h1:big.tdiv (b.natAbs:Int)=big / (b.natAbs:Int):=Int.tdiv_eq_ediv_of_nonneg (by decide);have h2:big / (b.natAbs:Int)≤big:=Int.ediv_le_self _ (by decide);have h3:0≤big / (b.natAbs:Int):=Int.ediv_nonneg (by decide) (by omega);rw[h1];unfold big at*;exact bg (by omega) (by omega)

theorem Km {a p:Int} (ha: -big≤a∧a≤big) (hp: -big≤p∧p≤big):wrap64 (a+wrap64 p)=a+p:=by
 unfold big at*;rw[bg (x:=p) (by omega) (by omega),bg (by omega) (by omega)]

theorem Kn {a b c:Int} (ha: -big≤a∧a≤big) (hb: -big≤b∧b≤big) (hc: -big≤c∧c≤big):Ev (fun k=>kg.f k a b c) (more a b c):=by
 have hs:small a=true:=decide_eq_true ha;unfold kg.f
 by_cases h0:b=0
 ·refine Ev.pos h0 ?_
  refine Ev.succ ?_;simp only[kg.j0];subst h0;unfold more;rw[Int.zero_mul,if_pos (by decide),Int.add_zero,hs]
  repeat (first | with_reducible exact Ev.now _ | dsimp only | refine Ev.cr ?_ | refine Ev.cu ?_ | simp only[bne_self_eq_false,Bool.not_true,Bool.not_false,List.length_cons,List.length_nil] | rw[bg (by omega) (by omega)] | ((with_reducible refine Ev.eq (congrArg some ?_));rfl))
 ·refine Ev.neg h0 ?_
  refine Ev.succ ?_;simp only[kg.j0]
  by_cases h1:c=0
  ·subst h1
   unfold more;rw[Int.mul_zero,if_pos (by decide),Int.add_zero,hs]
   repeat (first | with_reducible exact Ev.now _ | dsimp only | refine Ev.cr ?_ | refine Ev.cu ?_ | simp only[bne_self_eq_false,Bool.not_true,Bool.not_false,List.length_cons,List.length_nil] | rw[bg (by omega) (by omega)] | ((with_reducible refine Ev.eq (congrArg some ?_));rfl))
  ·rw[show(c == 0)=false from beq_eq_false_iff_ne.2 h1]
   refine Ev.neg (by decide) ?_;unfold nZ.f;rw[EO hb,EO hc]
   repeat (first | with_reducible exact Ev.now _ | dsimp only | with_reducible refine Ev.bind (Ev.now _) ?_ | refine Ev.cr ?_ | refine Ev.cu ?_ | simp only[bne_self_eq_false,Bool.not_true,Bool.not_false,List.length_cons,List.length_nil] | rw[bg (by omega) (by omega)] | with_reducible exact(Ev.now _) | ((with_reducible refine Ev.eq (congrArg some ?_));rfl))
   rw[show(1000000000000000:Int)=big from rfl,Kk (b:=c)];unfold more
   by_cases h: -big≤b*c∧b*c≤big
   ·rw[if_pos h,Km ha h]
    refine Ev.neg ((EP h1).2 (by rw[Int.mul_comm];exact h)) ?_;rw[Kj]
    repeat (first | with_reducible exact Ev.now _ | dsimp only | with_reducible refine Ev.bind (Ev.now _) ?_ | refine Ev.cr ?_ | refine Ev.cu ?_ | simp only[bne_self_eq_false,Bool.not_true,Bool.not_false,List.length_cons,List.length_nil] | rw[bg (by omega) (by omega)] | with_reducible exact(Ev.now _) | ((with_reducible refine Ev.eq (congrArg some ?_));rfl))
   ·rw[if_neg h]
    refine Ev.pos (Decidable.not_not.1 (fun g=>h (by rw[Int.mul_comm];exact(EP h1).1 g))) ?_
    repeat (first | with_reducible exact Ev.now _ | dsimp only | refine Ev.cr ?_ | refine Ev.cu ?_ | simp only[bne_self_eq_false,Bool.not_true,Bool.not_false,List.length_cons,List.length_nil] | rw[bg (by omega) (by omega)] | ((with_reducible refine Ev.eq (congrArg some ?_));rfl))
/-- The first i numbers without zeros at the end. -/
def jT (l:List Int):Nat→List Int
 | 0=>[]
 | i+1=>if rd l (i:Int)=0 then jT l i else l.take (i+1)

theorem Ko (l:List Int) (i:Nat):(jT l i).length≤l.length:=by
 induction i with
 | zero=>simp[jT]
 | succ i ih=>
  unfold jT
  split
  ·exact ih
  ·simp only[List.length_take];omega

theorem vY (l:List Int) (hl:l.length≤1048576):l8.f l=some l:=by
 unfold l8.f;simp only[Option.bind_some,List.length_nil,List.nil_append];exact if_pos (by omega)

theorem Kp (l:List Int) (hl:l.length≤1048576): ∀(i:Nat),i≤l.length→Ev (fun k=>kn.l0 k l (i:Int)) (jT l i):=by
 intro i
 induction i with
 | zero=>
  intro hi;refine Ev.succ ?_;simp only[kn.l0]
  repeat (first | with_reducible exact Ev.now _ | dsimp only | with_reducible refine Ev.bind (Ev.eq (vY _ (by simp))) ?_ | refine Ev.cr ?_ | refine Ev.cu ?_ | simp only[bne_self_eq_false,Bool.not_true,Bool.not_false,List.length_cons,List.length_nil] | rw[bg (by omega) (by omega)] | with_reducible exact(Ev.eq (vY _ (by simp))) | ((with_reducible refine Ev.eq (congrArg some ?_));rfl))
 | succ i ih=>
  intro hi;refine Ev.succ ?_;simp only[kn.l0];rw[bg (by omega) (by omega),show((i+1:Nat):Int) - 1=i by omega];unfold jT
  by_cases h:rd l (i:Int)=0
  ·rw[if_pos h]
   repeat (first | with_reducible exact Ev.now _ | dsimp only | refine Ev.cr ?_ | refine Ev.cu ?_ | simp only[bne_self_eq_false,Bool.not_true,Bool.not_false,List.length_cons,List.length_nil] | rw[bg (by omega) (by omega)] | ((with_reducible refine Ev.eq (congrArg some ?_));rfl))
   exact ih (by omega)
  ·rw[if_neg h,Int.toNat_natCast]
   repeat (first | with_reducible exact Ev.now _ | dsimp only | (with_reducible refine Ev.bind (Ev.eq (vY (l.take (i+1)) (by simp only[List.length_take];omega))) ?_) | refine Ev.cr ?_ | refine Ev.cu ?_ | simp only[bne_self_eq_false,Bool.not_true,Bool.not_false,List.length_cons,List.length_nil] | rw[bg (by omega) (by omega)] | (with_reducible exact(Ev.eq (vY (l.take (i+1)) (by simp only[List.length_take];omega)))) | ((with_reducible refine Ev.eq (congrArg some ?_));rfl))

theorem Kq (l:List Int) (hl:l.length≤1048576):Ev (fun k=>kn.f k l) (jT l l.length):=by
 unfold kn.f;exact Kp l hl _ (Nat.le_refl _)
def sg (j:Nat):Int:=if j % 2=0 then 1 else -1

theorem Kr (j:Nat):sg (j+1)= - sg j:=by
 unfold sg
 split<;>split<;>omega

def minor (m:Nat→Nat→Int) (j:Nat):Nat→Nat→Int:=fun i k=>m (i+1) (if k<j then k else k+1)

def cR:Nat→(Nat→Nat→Int)→Int
 | 0,_=>1
 | n+1,m=>Sm (n+1) (fun j=>sg j*m 0 j*cR n (minor m j))

theorem qo: ∀(n:Nat) (m m':Nat→Nat→Int),(∀i k,i<n→k<n→m i k=m' i k)→cR n m=cR n m':=by
 intro n
 induction n with
 | zero=>intro m m' _;rfl
 | succ n ih=>
  intro m m' h;unfold cR;refine bJ (fun j hj=> ?_);rw[h 0 j (by omega) hj,ih (minor m j) (minor m' j) (fun i k hi hk=> ?_)];unfold minor
  split
  ·exact h _ _ (by omega) (by omega)
  ·exact h _ _ (by omega) (by omega)

/-- Column c becomes v. -/
def dx (m:Nat→Nat→Int) (c:Nat) (v:Nat→Int):Nat→Nat→Int:=fun i k=>if k=c then v i else m i k

theorem wv (m:Nat→Nat→Int) (c:Nat):dx m c (fun i=>m i c)=m:=by
 funext i k
 unfold dx
 split
 ·next h=>rw[h]
 ·rfl

theorem tX (m:Nat→Nat→Int) {c d:Nat} (h:c≠d) (v v':Nat→Int):dx (dx m c v) d v'=dx (dx m d v') c v:=by
 funext i k
 unfold dx
 by_cases e:k=d
 ·rw[if_pos e,if_neg (by omega),if_pos e]
 ·rw[if_neg e]
  by_cases e2:k=c
  ·rw[if_pos e2,if_pos e2]
  ·rw[if_neg e2,if_neg e2,if_neg e]

theorem yF (m:Nat→Nat→Int) (c:Nat) (v:Nat→Int):minor (dx m c v) c=minor m c:=by
 funext i k
 unfold minor dx;rw[if_neg]
 split<;>omega

theorem yG (m:Nat→Nat→Int) {c j:Nat} (h:j≠c) (v:Nat→Int):minor (dx m c v) j=dx (minor m j) (if c<j then c else c - 1) (fun i=>v (i+1)):=by
 funext i k
 unfold minor dx
 by_cases e:(if k<j then k else k+1)=c
 ·rw[if_pos e,if_pos (show k=(if c<j then c else c - 1) by split at e<;>split<;>omega)]
 ·rw[if_neg e,if_neg (show ¬k=(if c<j then c else c - 1) by split at e<;>split<;>omega)]

/-- Linear in a column. -/
theorem wz: ∀(n:Nat) (m:Nat→Nat→Int) (c:Nat) (s t:Int) (x y:Nat→Int),c<n→cR n (dx m c (fun i=>s*x i+t*y i))=s*cR n (dx m c x)+t*cR n (dx m c y):=by
 intro n
 induction n with
 | zero=>intro m c s t x y h;omega
 | succ n ih=>
  intro m c s t x y hc;unfold cR;rw[← eA,← eA,← gu];refine bJ (fun j hj=> ?_)
  by_cases e:j=c
  ·subst e
   rw[yF,yF,yF];simp only[dx,if_pos];generalize cR n (minor m j)=d;generalize sg j=g;rw[Int.mul_add,Int.add_mul]
   congr 1
   ·rw[← Int.mul_assoc,Int.mul_comm g s,Int.mul_assoc s g,Int.mul_assoc]
   ·rw[← Int.mul_assoc,Int.mul_comm g t,Int.mul_assoc t g,Int.mul_assoc]
  ·rw[yG m e,yG m e,yG m e,ih _ _ s t _ _ (by split<;>omega)]
   simp only[dx,if_neg e];generalize cR n _=d1;generalize cR n _=d2;generalize sg j*m 0 j=g;rw[Int.mul_add,← Int.mul_assoc,← Int.mul_assoc,Int.mul_comm g s,Int.mul_comm g t,Int.mul_assoc,Int.mul_assoc]

theorem AV (n:Nat) (m:Nat→Nat→Int) (c:Nat) (x y:Nat→Int) (hc:c<n):cR n (dx m c (fun i=>x i+y i))=cR n (dx m c x)+cR n (dx m c y):=by
 have:=wz n m c 1 1 x y hc;simp only[Int.one_mul]at this;exact this

theorem ER (n:Nat) (m:Nat→Nat→Int) (c:Nat) (hc:c<n):cR n (dx m c (fun _=>0))=0:=by
 have:=wz n m c 0 0 (fun _=>0) (fun _=>0) hc;simp only[Int.zero_mul,Int.add_zero]at this;exact this

theorem Ks {n c:Nat} {f:Nat→Int} (hc:c+1<n) (h: ∀i,i<n→i≠c→i≠c+1→f i=0):Sm n f=f c+f (c+1):=by
 have z: ∀k,k≤n→Sm k f=(if c<k then f c else 0)+(if c+1<k then f (c+1) else 0):=by
  intro k
  induction k with
  | zero=>intro _;rfl
  | succ k ih=>
   intro hk;unfold Sm;rw[ih (by omega)]
   by_cases e:k=c
   ·subst e
    rw[if_neg (by omega),if_neg (by omega),if_pos (by omega),if_neg (by omega)]
    omega
   ·by_cases e2:k=c+1
    ·subst e2
     rw[if_pos (by omega),if_neg (by omega),if_pos (by omega),if_pos (by omega)]
     omega
    ·rw[h k (by omega) e e2]
     by_cases c1:c<k
     ·rw[if_pos c1,if_pos (show c<k+1 by omega)]
      by_cases c2:c+1<k
      ·rw[if_pos c2,if_pos (by omega)];omega
      ·rw[if_neg c2,if_neg (by omega)];omega
     ·rw[if_neg c1,if_neg (show ¬c+1<k by omega),if_neg (show ¬c<k+1 by omega),if_neg (by omega)];omega
 rw[z n (Nat.le_refl _),if_pos (by omega),if_pos (by omega)]

/-- Two like columns side by side. -/
theorem ES: ∀(n:Nat) (m:Nat→Nat→Int) (c:Nat),c+1<n→(∀i,m i c=m i (c+1))→cR n m=0:=by
 intro n
 induction n with
 | zero=>intro m c h;omega
 | succ n ih=>
  intro m c hc h;unfold cR;rw[Ks hc]
  ·have e:minor m c=minor m (c+1):=by
    funext i k
    unfold minor
    by_cases e1:k<c
    ·rw[if_pos e1,if_pos (by omega)]
    ·rw[if_neg e1]
     by_cases e2:k=c
     ·subst e2
      rw[if_pos (by omega)];exact(h (i+1)).symm
     ·rw[if_neg (by omega)]
   rw[e,← h 0,Kr,Int.neg_mul,Int.neg_mul]
   omega
  ·intro j hj h1 h2
   rw[ih (minor m j) (if c+1<j then c else c - 1),Int.mul_zero]
   ·split<;>omega
   ·intro i
    unfold minor
    by_cases c1:c+1<j
    ·rw[if_pos c1,if_pos (by omega),if_pos (by omega)]
     exact h (i+1)
    ·rw[if_neg c1,if_neg (by omega),if_neg (by omega),show c - 1+1=c by omega]
     exact h (i+1)

/-- Two neighbours change places: the sign changes. -/
theorem Kt (n:Nat) (m:Nat→Nat→Int) (c:Nat) (hc:c+1<n) (x y:Nat→Int):cR n (dx (dx m c x) (c+1) y)= - cR n (dx (dx m c y) (c+1) x):=by
 have two: ∀x,cR n (dx (dx m c x) (c+1) x)=0:=fun x=>ES n _ c hc (fun i=>by
  unfold dx;rw[if_neg (by omega),if_pos rfl,if_pos rfl])
 have h:=two (fun i=>x i+y i);rw[AV n _ (c+1) x y hc,tX m (show c≠c+1 by omega),tX m (show c≠c+1 by omega),AV n _ c x y (by omega),AV n _ c x y (by omega)]at h;rw[tX m (show c+1≠c by omega),tX m (show c+1≠c by omega),tX m (show c+1≠c by omega),tX m (show c+1≠c by omega),two x,two y]at h
 omega

/-- Two like columns anywhere. -/
theorem ET (n:Nat): ∀(d:Nat) (m:Nat→Nat→Int) (p:Nat),p+1+d<n→(∀i,m i p=m i (p+1+d))→cR n m=0:=by
 intro d
 induction d with
 | zero=>intro m p hp h;exact ES n m p hp h
 | succ d ih=>
  intro m p hp h;have hs:=Kt n m (p+1+d) (by omega) (fun i=>m i (p+1+d)) (fun i=>m i (p+1+d+1));have e1:dx (dx m (p+1+d) (fun i=>m i (p+1+d))) (p+1+d+1) (fun i=>m i (p+1+d+1))=m:=by
   rw[wv,wv]
  rw[e1]at hs;rw[hs,ih _ p (by omega)]
  ·rfl
  ·intro i
   unfold dx;rw[if_neg (by omega),if_neg (by omega),if_neg (by omega),if_pos rfl];exact h i

theorem AW {n:Nat} {m:Nat→Nat→Int} {p q:Nat} (hp:p<n) (hq:q<n) (hne:p≠q) (h: ∀i,m i p=m i q):cR n m=0:=by
 rcases Nat.lt_or_gt_of_ne hne with c | c
 ·exact ET n (q - p - 1) m p (by omega) (fun i=>by rw[show p+1+(q - p - 1)=q by omega];exact h i)
 ·exact ET n (p - q - 1) m q (by omega) (fun i=>by rw[show q+1+(p - q - 1)=p by omega];exact(h i).symm)

/-- A column that is a sum. -/
theorem EU (n:Nat) (m:Nat→Nat→Int) (c:Nat) (hc:c<n) (t:Nat→Int) (w:Nat→Nat→Int): ∀k,cR n (dx m c (fun r=>Sm k (fun i=>t i*w i r)))=Sm k (fun i=>t i*cR n (dx m c (w i))):=by
 intro k
 induction k with
 | zero=>exact ER n m c hc
 | succ k ih=>
  have h:=wz n m c 1 (t k) (fun r=>Sm k (fun i=>t i*w i r)) (w k) hc;simp only[Int.one_mul]at h
  show cR n (dx m c (fun r=>Sm k (fun i=>t i*w i r)+t k*w k r))=_
  rw[h,ih]
  rfl

theorem mc (N:Nat) (f:Nat→Int) {p:Nat} (hp:p<N):Sm N (fun r=>(if r=p then 1 else 0)*f r)=f p:=by
 induction N with
 | zero=>omega
 | succ N ih=>
  show Sm N (fun r=>(if r=p then 1 else 0)*f r)+(if N=p then 1 else 0)*f N=f p
  by_cases e:p=N
  ·subst e
   rw[if_pos rfl,Int.one_mul];have:Sm p (fun r=>(if r=p then 1 else 0)*f r)=Sm p (fun _=>0):=bJ (fun i hi=>by rw[if_neg (by omega),Int.zero_mul]);rw[this,j9,Int.zero_add]
  ·rw[ih (by omega),if_neg (by omega),Int.zero_mul,Int.add_zero]

def unit (i:Nat):Nat→Int:=fun r=>if r=i then 1 else 0

def adj (n:Nat) (x:Nat→Nat→Int) (k i:Nat):Int:=cR n (dx x k (unit i))

/-- Cramer: what the k-th row of the adjoint does to a column. -/
theorem EV (n:Nat) (x:Nat→Nat→Int) (k:Nat) (hk:k<n) (v:Nat→Int):Sm n (fun i=>adj n x k i*v i)=cR n (dx x k v):=by
 have h:=EU n x k hk v unit n;have e:cR n (dx x k (fun r=>Sm n (fun i=>v i*unit i r)))=cR n (dx x k v):=by
  refine qo n _ _ (fun i j hi hj=> ?_);unfold dx
  split
  ·have:Sm n (fun a=>v a*unit a i)=Sm n (fun a=>(if a=i then 1 else 0)*v a):=bJ (fun a _=>by
    unfold unit;rw[Int.mul_comm]
    by_cases c:i=a
    ·rw[if_pos c,if_pos c.symm]
    ·rw[if_neg c,if_neg (fun z=>c z.symm)])
   exact this.trans (mc n v hi)
  ·rfl
 rw[e]at h;rw[h];exact bJ (fun i _=>Int.mul_comm _ _)

theorem EW (n:Nat) (x:Nat→Nat→Int) (k j:Nat) (hk:k<n) (hj:j<n):mul n (adj n x) x k j=if k=j then cR n x else 0:=by
 unfold mul;rw[EV n x k hk (fun i=>x i j)]
 by_cases e:k=j
 ·subst e
  rw[if_pos rfl,wv]
 ·rw[if_neg e]
  refine AW hk hj e (fun i=> ?_);unfold dx;rw[if_pos rfl,if_neg (fun z=>e z.symm)]
def ab (x:Int):Int:=(x.natAbs:Int)

theorem ko (x:Int):0≤ab x:=by unfold ab;omega
theorem yH (x y:Int):ab (x+y)≤ab x+ab y:=by unfold ab;omega
theorem pg (x y:Int):ab (x*y)=ab x*ab y:=by
 unfold ab;rw[Int.natAbs_mul]
 push_cast
 rfl

/-- The coefficients c, d of them, make f; their sizes sum up to at most B. -/
def jG (d:Nat) (B:Int) (c:Nat→Int) (f:Int→Int):Prop:=(∀i,d≤i→c i=0)∧(∀u,f u=Sm d (fun i=>c i*u ^ i))∧Sm d (fun i=>ab (c i))≤B

theorem pq {d e:Nat} (f:Nat→Int) (EX:d≤e) (h: ∀i,d≤i→f i=0):Sm e f=Sm d f:=by
 induction e with
 | zero=>rw[show d=0 by omega]
 | succ e ih=>
  by_cases c:d=e+1
  ·rw[c]
  ·show Sm e f+f e=_
   rw[ih (by omega),h e (by omega),Int.add_zero]

theorem tY {n:Nat} {f g:Nat→Int} (h: ∀i,i<n→f i≤g i):Sm n f≤Sm n g:=by
 induction n with
 | zero=>exact Int.le_refl _
 | succ n ih=>
  have h1:=ih (fun i hi=>h i (by omega));have h2:=h n (by omega);unfold Sm
  omega

theorem jG.add {d:Nat} {B B':Int} {c c':Nat→Int} {f g:Int→Int} (h:jG d B c f) (h':jG d B' c' g):jG d (B+B') (fun i=>c i+c' i) (fun u=>f u+g u):=by
 refine⟨fun i hi=>by show c i+c' i=0;rw[h.1 i hi,h'.1 i hi];rfl,fun u=> ?_, ?_⟩
 ·show f u+g u=Sm d (fun i=>(c i+c' i)*u ^ i)
  rw[h.2.1 u,h'.2.1 u,← gu];exact bJ (fun i _=>(Int.add_mul _ _ _).symm)
 ·have:=h.2.2
  have:=h'.2.2;have h3:Sm d (fun i=>ab (c i+c' i))≤Sm d (fun i=>ab (c i)+ab (c' i)):=tY (fun i _=>yH _ _);rw[gu]at h3
  show Sm d (fun i=>ab (c i+c' i))≤B+B'
  omega

theorem jG.zero (d:Nat):jG d 0 (fun _=>0) (fun _=>0):=by
 refine⟨fun _ _=>rfl,fun u=> ?_, ?_⟩
 ·rw[bJ (g:=fun _=>0) (fun i _=>Int.zero_mul _),j9]
 ·show Sm d (fun _=>(0:Int))≤0
  rw[j9];exact Int.le_refl _

theorem jG.one:jG 1 1 (fun i=>if i=0 then 1 else 0) (fun _=>1):=by
 refine⟨fun i hi=>if_neg (by omega),fun u=> ?_, ?_⟩
 ·show(1:Int)=0+(if 0=0 then 1 else 0)*u ^ 0
  rw[if_pos rfl,Int.pow_zero]
  rfl
 ·exact Int.le_refl _

/-- The coefficients behind a linear factor. -/
def mg (a b:Int) (c:Nat→Int) (i:Nat):Int:=a*c i+(if i=0 then 0 else b*c (i - 1))

theorem yI (d:Nat) (f:Nat→Int):Sm (d+1) (fun i=>if i=0 then 0 else f (i - 1))=Sm d f:=by
 induction d with
 | zero=>rfl
 | succ d ih=>
  show Sm (d+1) (fun i=>if i=0 then 0 else f (i - 1))+(if d+1=0 then 0 else f (d+1 - 1))=Sm d f+f d
  rw[ih,if_neg (by omega),Nat.add_sub_cancel]

theorem jG.Ku {d:Nat} {B:Int} {c:Nat→Int} {f:Int→Int} (h:jG d B c f) (a b:Int):jG (d+1) ((ab a+ab b)*B) (mg a b c) (fun u=>(a+u*b)*f u):=by
 refine⟨fun i hi=> ?_,fun u=> ?_, ?_⟩
 ·unfold mg
  rw[h.1 i (by omega),if_neg (by omega),h.1 (i - 1) (by omega),Int.mul_zero,Int.mul_zero]
  rfl
 ·unfold mg
  have e1:Sm (d+1) (fun i=>(a*c i+(if i=0 then 0 else b*c (i - 1)))*u ^ i)=Sm (d+1) (fun i=>a*(c i*u ^ i))+Sm (d+1) (fun i=>if i=0 then 0 else u*b*(c (i - 1)*u ^ (i - 1))):=by
   rw[← gu];refine bJ (fun i _=> ?_);rw[Int.add_mul,Int.mul_assoc]
   congr 1
   by_cases e:i=0
   ·rw[if_pos e,if_pos e,Int.zero_mul]
   ·rw[if_neg e,if_neg e]
    obtain⟨j,rfl⟩: ∃j,i=j+1:=⟨i - 1,by omega⟩;rw[Nat.add_sub_cancel,Int.pow_succ,Int.mul_comm (u ^ j) u,Int.mul_comm u b,Int.mul_assoc,Int.mul_assoc]
    congr 1
    rw[← Int.mul_assoc,Int.mul_comm (c j) u,Int.mul_assoc]
  rw[e1,eA,yI d (fun i=>u*b*(c i*u ^ i)),eA,pq (d:=d) (fun i=>c i*u ^ i) (by omega) (fun i hi=>by rw[h.1 i hi,Int.zero_mul]),← h.2.1 u];exact Int.add_mul _ _ _
 ·have h1:Sm (d+1) (fun i=>ab (mg a b c i))≤Sm (d+1) (fun i=>ab a*ab (c i)+(if i=0 then 0 else ab b*ab (c (i - 1)))):=tY (fun i _=>by
   unfold mg;have:=yH (a*c i) (if i=0 then 0 else b*c (i - 1));rw[pg]at this
   by_cases e:i=0
   ·rw[if_pos e]at this ⊢
    rw[if_pos e];exact this
   ·rw[if_neg e,pg]at this
    rw[if_neg e,if_neg e];exact this)
  rw[gu,eA,yI d (fun i=>ab b*ab (c i)),eA,pq (d:=d) (fun i=>ab (c i)) (by omega) (fun i hi=>by rw[h.1 i hi];rfl)]at h1;have h2:ab a*Sm d (fun i=>ab (c i))≤ab a*B:=Int.mul_le_mul_of_nonneg_left h.2.2 (ko a);have h3:ab b*Sm d (fun i=>ab (c i))≤ab b*B:=Int.mul_le_mul_of_nonneg_left h.2.2 (ko b);rw[Int.add_mul]
  omega

/-- A polynomial that is zero at all whole numbers from 2 on has no coefficients. -/
theorem EY: ∀(d:Nat) (c:Nat→Int),(∀u:Int,2≤u→Sm d (fun i=>c i*u ^ i)=0)→∀i,i<d→c i=0:=by
 intro d
 induction d with
 | zero=>intro c _ i hi;omega
 | succ d ih=>
  intro c h;have split: ∀u:Int,Sm (d+1) (fun i=>c i*u ^ i)=c 0+u*Sm d (fun i=>c (i+1)*u ^ i):=by
   intro u;have: ∀n,Sm (n+1) (fun i=>c i*u ^ i)=c 0+u*Sm n (fun i=>c (i+1)*u ^ i):=by
    intro n
    induction n with
    | zero=>
     show 0+c 0*u ^ 0=c 0+u*0
     rw[Int.pow_zero]
     omega
    | succ n ihn=>
     show Sm (n+1) (fun i=>c i*u ^ i)+c (n+1)*u ^ (n+1)=c 0+u*(Sm n (fun i=>c (i+1)*u ^ i)+c (n+1)*u ^ n)
     rw[ihn,Int.mul_add,Int.pow_succ,Int.mul_comm (u ^ n) u,← Int.mul_assoc (c (n+1)) u,Int.mul_comm (c (n+1)) u,Int.mul_assoc u]
     omega
   exact this d
  have h0:c 0=0:=by
   apply Classical.byContradiction;intro hc;have h1:=h (ab (c 0)+2) (by have:=ko (c 0);omega);rw[split]at h1;generalize Sm d _=s at h1;have hab:ab (c 0)=(c 0).natAbs:=rfl;have hdvd:(ab (c 0)+2)∣c 0:=⟨-s,by rw[Int.mul_neg];omega⟩;have:=Int.natAbs_dvd_natAbs.2 hdvd;have:=Nat.le_of_dvd (by omega) this;have e:(ab (c 0)+2).natAbs=(c 0).natAbs+2:=by rw[hab];omega
   omega
  intro i hi
  by_cases e:i=0
  ·rw[e];exact h0
  ·have:=ih (fun i=>c (i+1)) (fun u hu=>by
    have h1:=h u hu;rw[split,h0,Int.zero_add]at h1;rcases Int.mul_eq_zero.1 h1 with h2 | h2
    ·omega
    ·exact h2) (i - 1) (by omega)
   simp only[Nat.sub_add_cancel (show 1≤i by omega)]at this;exact this

theorem AX (d:Nat) (c:Nat→Int) (h: ∀u:Int,1≤u→Sm d (fun i=>c i*u ^ i)=0): ∀i,i<d→c i=0:=EY d c (fun u hu=>h u (by omega))
/-- A product of n numbers. -/
def Pr:Nat→(Nat→Int)→Int
 | 0,_=>1
 | n+1,f=>Pr n f*f n

theorem EZ {n:Nat} {f g:Nat→Int} (h: ∀i,i<n→f i=g i):Pr n f=Pr n g:=by
 induction n with
 | zero=>rfl
 | succ n ih=>unfold Pr;rw[ih (fun i hi=>h i (by omega)),h n (by omega)]

theorem AY {n:Nat} {f:Nat→Int} (h: ∀i,i<n→0≤f i):0≤Pr n f:=by
 induction n with
 | zero=>exact(by decide:(0:Int)≤1)
 | succ n ih=>
  unfold Pr;exact Int.mul_nonneg (ih (fun i hi=>h i (by omega))) (h n (by omega))

theorem E0 {n:Nat} {f g:Nat→Int} (h0: ∀i,i<n→0≤f i) (h: ∀i,i<n→f i≤g i):Pr n f≤Pr n g:=by
 induction n with
 | zero=>exact Int.le_refl _
 | succ n ih=>
  unfold Pr;have h1:=ih (fun i hi=>h0 i (by omega)) (fun i hi=>h i (by omega));have h2:Pr n f*f n≤Pr n g*f n:=Int.mul_le_mul_of_nonneg_right h1 (h0 n (by omega));have hg:0≤Pr n g:=AY (fun i hi=>Int.le_trans (h0 i (by omega)) (h i (by omega)));have h3:Pr n g*f n≤Pr n g*g n:=Int.mul_le_mul_of_nonneg_left (h n (by omega)) hg
  omega

/-- The number's place behind the one that is left out. -/
def skip (j k:Nat):Nat:=if k<j then k else k+1

theorem Kv (n j:Nat) (f:Nat→Int) (hj:j≤n):Pr (n+1) (fun k=>f (skip j k))=if j=n+1 then Pr (n+1) f else Pr n (fun k=>f (skip j k))*f (n+1):=by
 rw[if_neg (by omega)]
 show Pr n (fun k=>f (skip j k))*f (skip j n)=_
 rw[show skip j n=n+1 from if_neg (by omega)]

theorem Kw (a c:Nat→Int) (ha: ∀i,0≤a i) (hc: ∀i,0≤c i): ∀n,Sm (n+1) (fun j=>a j*Pr n (fun k=>c (skip j k)))+Pr (n+1) c≤Pr (n+1) (fun k=>a k+c k):=by
 intro n
 induction n with
 | zero=>
  show 0+a 0*1+1*c 0≤1*(a 0+c 0)
  omega
 | succ n ih=>
  have e1:Sm (n+1) (fun j=>a j*Pr (n+1) (fun k=>c (skip j k)))=Sm (n+1) (fun j=>a j*Pr n (fun k=>c (skip j k)))*c (n+1):=by
   rw[← jE];refine bJ (fun j hj=> ?_);rw[Kv n j c (by omega),if_neg (by omega),Int.mul_assoc]
  have e2:Pr (n+1) (fun k=>c (skip (n+1) k))=Pr (n+1) c:=EZ (fun k hk=>by rw[show skip (n+1) k=k from if_pos hk])
  show Sm (n+1) (fun j=>a j*Pr (n+1) (fun k=>c (skip j k)))+a (n+1)*Pr (n+1) (fun k=>c (skip (n+1) k))+Pr (n+1) c*c (n+1)≤Pr (n+1) (fun k=>a k+c k)*(a (n+1)+c (n+1))
  rw[e1,e2,Int.mul_add];have hP:Pr (n+1) c≤Pr (n+1) (fun k=>a k+c k):=E0 (fun i _=>hc i) (fun i _=>by have:=ha i;omega);have h1:(Sm (n+1) (fun j=>a j*Pr n (fun k=>c (skip j k)))+Pr (n+1) c)*c (n+1)≤Pr (n+1) (fun k=>a k+c k)*c (n+1):=Int.mul_le_mul_of_nonneg_right ih (hc _);have h2:Pr (n+1) c*a (n+1)≤Pr (n+1) (fun k=>a k+c k)*a (n+1):=Int.mul_le_mul_of_nonneg_right hP (ha _);rw[Int.add_mul]at h1;rw[Int.mul_comm (a (n+1))]
  omega

/-- The coefficients of the determinant of a + u b. -/
def dc:Nat→(Nat→Nat→Int)→(Nat→Nat→Int)→Nat→Int
 | 0,_,_=>fun i=>if i=0 then 1 else 0
 | n+1,a,b=>fun i=>Sm (n+1) (fun j=>mg (sg j*a 0 j) (sg j*b 0 j) (dc n (minor a j) (minor b j)) i)

theorem jG.sum {d:Nat} (n:Nat) (B:Nat→Int) (c:Nat→Nat→Int) (f:Nat→Int→Int) (h: ∀j,j<n→jG d (B j) (c j) (f j)):jG d (Sm n B) (fun i=>Sm n (fun j=>c j i)) (fun u=>Sm n (fun j=>f j u)):=by
 induction n with
 | zero=>exact jG.zero d
 | succ n ih=>exact jG.add (ih (fun j hj=>h j (by omega))) (h n (by omega))

/-- A column's size. -/
def cs (n:Nat) (a b:Nat→Nat→Int) (k:Nat):Int:=Sm n (fun i=>ab (a i k)+ab (b i k))

theorem E1 (n:Nat) (a b:Nat→Nat→Int) (k:Nat):0≤cs n a b k:=mY (fun i _=>by
 have:=ko (a i k);have:=ko (b i k)
 omega)

theorem lC (n:Nat) (f:Nat→Int):Sm (n+1) f=f 0+Sm n (fun i=>f (i+1)):=by
 induction n with
 | zero=>show 0+f 0=f 0+0;omega
 | succ n ih=>
  show Sm (n+1) f+f (n+1)=f 0+(Sm n (fun i=>f (i+1))+f (n+1))
  rw[ih];omega

theorem E2 (j:Nat) (x:Int):ab (sg j*x)=ab x:=by
 rw[pg];have:ab (sg j)=1:=by unfold sg ab;split<;>rfl
 rw[this,Int.one_mul]

theorem tZ: ∀(n:Nat) (a b:Nat→Nat→Int),jG (n+1) (Pr n (cs n a b)) (dc n a b) (fun u=>cR n (fun i k=>a i k+u*b i k)):=by
 intro n
 induction n with
 | zero=>intro a b;exact jG.one
 | succ n ih=>
  intro a b;have h:=jG.sum (d:=n+2) (n+1) (fun j=>(ab (sg j*a 0 j)+ab (sg j*b 0 j))*Pr n (cs n (minor a j) (minor b j))) (fun j=>mg (sg j*a 0 j) (sg j*b 0 j) (dc n (minor a j) (minor b j)))
   (fun j u=>(sg j*a 0 j+u*(sg j*b 0 j))*cR n (fun i k=>minor a j i k+u*minor b j i k)) (fun j _=>(ih (minor a j) (minor b j)).Ku _ _)
  have hB:Sm (n+1) (fun j=>(ab (sg j*a 0 j)+ab (sg j*b 0 j))*Pr n (cs n (minor a j) (minor b j)))≤Pr (n+1) (cs (n+1) a b):=by
   have h1:=Kw (fun k=>ab (a 0 k)+ab (b 0 k)) (fun k=>Sm n (fun i=>ab (a (i+1) k)+ab (b (i+1) k))) (fun k=>by have:=ko (a 0 k);have:=ko (b 0 k);omega) (fun k=>mY (fun i _=>by have:=ko (a (i+1) k);have:=ko (b (i+1) k);omega)) n;have h2:0≤Pr (n+1) (fun k=>Sm n (fun i=>ab (a (i+1) k)+ab (b (i+1) k))):=AY (fun k _=>mY (fun i _=>by have:=ko (a (i+1) k);have:=ko (b (i+1) k);omega));have e1:Pr (n+1) (cs (n+1) a b)=Pr (n+1) (fun k=>(ab (a 0 k)+ab (b 0 k))+Sm n (fun i=>ab (a (i+1) k)+ab (b (i+1) k))):=EZ (fun k _=>lC n (fun i=>ab (a i k)+ab (b i k)));have e2:Sm (n+1) (fun j=>(ab (sg j*a 0 j)+ab (sg j*b 0 j))*Pr n (cs n (minor a j) (minor b j)))=Sm (n+1) (fun j=>(ab (a 0 j)+ab (b 0 j))*Pr n (fun k=>Sm n (fun i=>ab (a (i+1) (skip j k))+ab (b (i+1) (skip j k))))):=bJ (fun j _=>by
    rw[E2,E2]
    rfl)
   rw[e1,e2]
   omega
  refine⟨h.1,fun u=> ?_,Int.le_trans h.2.2 hB⟩;refine Eq.trans ?_ (h.2.1 u);refine bJ (fun j _=> ?_)
  show sg j*(a 0 j+u*b 0 j)*cR n (minor (fun i k=>a i k+u*b i k) j)=(sg j*a 0 j+u*(sg j*b 0 j))*cR n (fun i k=>minor a j i k+u*minor b j i k)
  have e:minor (fun i k=>a i k+u*b i k) j=fun i k=>minor a j i k+u*minor b j i k:=rfl
  rw[e,Int.mul_add,← Int.mul_assoc (sg j) u,Int.mul_comm (sg j) u,Int.mul_assoc u]
theorem kJ (n:Nat) (a b:Nat→Nat→Int) {i:Nat} (h:n+1≤i):dc n a b i=0:=(tZ n a b).1 i h

theorem uc: ∀(n:Nat) (a b:Nat→Nat→Int),dc n a b 0=cR n a:=by
 intro n
 induction n with
 | zero=>intro a b;rfl
 | succ n ih=>
  intro a b
  show Sm (n+1) (fun j=>mg (sg j*a 0 j) (sg j*b 0 j) (dc n (minor a j) (minor b j)) 0)=Sm (n+1) (fun j=>sg j*a 0 j*cR n (minor a j))
  refine bJ (fun j _=> ?_);unfold mg;rw[if_pos rfl,ih,Int.add_zero]

theorem Kx: ∀(n:Nat) (a b:Nat→Nat→Int),dc n a b n=cR n b:=by
 intro n
 induction n with
 | zero=>intro a b;rfl
 | succ n ih=>
  intro a b
  show Sm (n+1) (fun j=>mg (sg j*a 0 j) (sg j*b 0 j) (dc n (minor a j) (minor b j)) (n+1))=Sm (n+1) (fun j=>sg j*b 0 j*cR n (minor b j))
  refine bJ (fun j _=> ?_);unfold mg;rw[if_neg (by omega),Nat.add_sub_cancel,ih,kJ n _ _ (Nat.le_refl _),Int.mul_zero,Int.zero_add]

def fc (i k:Nat):Int:=if i=k then 1 else 0
def ng (a:Nat→Nat→Int) (i k:Nat):Int:= - a i k

/-- The coefficients of det(1 - u a). -/
def ch (n:Nat) (a:Nat→Nat→Int):Nat→Int:=dc n fc (ng a)

/-- The coefficients of the adjoint's entries. -/
def nc (n:Nat) (a:Nat→Nat→Int) (m k i:Nat):Int:=dc n (dx fc k (unit i)) (dx (ng a) k (fun _=>0)) m

def xu (a:Nat→Nat→Int) (u:Int) (i k:Nat):Int:=fc i k+u*ng a i k

theorem ud (n:Nat) (a:Nat→Nat→Int) (u:Int) (k i:Nat):adj n (xu a u) k i=Sm (n+1) (fun m=>nc n a m k i*u ^ m):=by
 refine Eq.trans ?_ ((tZ n (dx fc k (unit i)) (dx (ng a) k (fun _=>0))).2.1 u);unfold adj;refine qo n _ _ (fun r c _ _=> ?_);unfold dx xu
 by_cases e:c=k
 ·rw[if_pos e,if_pos e,if_pos e,Int.mul_zero,Int.add_zero]
 ·rw[if_neg e,if_neg e,if_neg e]

theorem rZ (n:Nat) (a:Nat→Nat→Int) (u:Int):cR n (xu a u)=Sm (n+1) (fun m=>ch n a m*u ^ m):=(tZ n fc (ng a)).2.1 u

theorem yJ (n:Nat) (a:Nat→Nat→Int) (m k i:Nat) (hk:k<n) (hm:n≤m):nc n a m k i=0:=by
 by_cases e:m=n
 ·subst e
  unfold nc;rw[Kx];exact ER m (ng a) k hk
 ·exact kJ n _ _ (by omega)

/-- N_m = N_(m-1) A + d_m. -/
theorem wA (n:Nat) (a:Nat→Nat→Int) (m k j:Nat) (hk:k<n) (hj:j<n):nc n a m k j=(if m=0 then 0 else Sm n (fun i=>nc n a (m - 1) k i*a i j))+(if k=j then ch n a m else 0):=by
 by_cases hm:n+2≤m
 ·rw[yJ n a m k j hk (by omega),if_neg (by omega),show ch n a m=0 from kJ n _ _ (by omega)]
  rw[bJ (g:=fun _=>0) (fun i _=>by rw[yJ n a (m - 1) k i hk (by omega),Int.zero_mul]),j9]
  split<;>rfl
 have key: ∀u:Int,Sm (n+2) (fun m=>(nc n a m k j - ((if m=0 then 0 else Sm n (fun i=>nc n a (m - 1) k i*a i j))+(if k=j then ch n a m else 0)))*u ^ m)=0:=by
  intro u;have h:=EW n (xu a u) k j hk hj;unfold mul at h;have e1:Sm n (fun i=>adj n (xu a u) k i*xu a u i j)=adj n (xu a u) k j - u*Sm n (fun i=>adj n (xu a u) k i*a i j):=by
   have:Sm n (fun i=>adj n (xu a u) k i*xu a u i j)=Sm n (fun i=>(if i=j then 1 else 0)*adj n (xu a u) k i+(-u)*(adj n (xu a u) k i*a i j)):=bJ (fun i _=>by
    unfold xu fc ng;generalize adj n _ k i=g;rw[Int.mul_add]
    congr 1
    ·exact Int.mul_comm _ _
    ·rw[Int.mul_neg,Int.mul_neg,Int.neg_mul,Int.mul_comm g,Int.mul_assoc,Int.mul_comm (a i j) g])
   rw[this,gu,mc n _ hj,eA,Int.neg_mul]
   rfl
  rw[e1]at h;have e2:Sm n (fun i=>adj n (xu a u) k i*a i j)=Sm (n+1) (fun m=>Sm n (fun i=>nc n a m k i*a i j)*u ^ m):=by
   rw[bJ (g:=fun i=>Sm (n+1) (fun m=>nc n a m k i*a i j*u ^ m)) (fun i _=>by
    rw[ud,← jE];exact bJ (fun m _=>by rw[Int.mul_assoc,Int.mul_comm (u ^ m),← Int.mul_assoc])),ke]
   exact bJ (fun m _=>jE n _ _)
  have e3:u*Sm (n+1) (fun m=>Sm n (fun i=>nc n a m k i*a i j)*u ^ m)=Sm (n+2) (fun m=>(if m=0 then 0 else Sm n (fun i=>nc n a (m - 1) k i*a i j))*u ^ m):=by
   rw[← eA,← yI];refine bJ (fun m _=> ?_)
   by_cases e:m=0
   ·rw[if_pos e,if_pos e,Int.zero_mul]
   ·rw[if_neg e,if_neg e]
    obtain⟨q,rfl⟩: ∃q,m=q+1:=⟨m - 1,by omega⟩;rw[Nat.add_sub_cancel,Int.pow_succ,Int.mul_comm (u ^ q) u,← Int.mul_assoc,← Int.mul_assoc,Int.mul_comm u]
  have e4:Sm (n+1) (fun m=>nc n a m k j*u ^ m)=Sm (n+2) (fun m=>nc n a m k j*u ^ m):=(pq _ (by omega) (fun i hi=>by rw[yJ n a i k j hk (by omega),Int.zero_mul])).symm;have e5:(if k=j then cR n (xu a u) else 0)=Sm (n+2) (fun m=>(if k=j then ch n a m else 0)*u ^ m):=by
   by_cases c:k=j
   ·rw[if_pos c,rZ]
    rw[bJ (n:=n+2) (g:=fun m=>ch n a m*u ^ m) (fun m _=>by rw[if_pos c])];exact(pq _ (by omega) (fun i hi=>by rw[show ch n a i=0 from kJ n _ _ (by omega),Int.zero_mul])).symm
   ·rw[if_neg c,bJ (n:=n+2) (g:=fun _=>0) (fun m _=>by rw[if_neg c,Int.zero_mul]),j9]
  rw[ud,e2,e3,e4,e5]at h;have e6:Sm (n+2) (fun m=>(nc n a m k j - ((if m=0 then 0 else Sm n (fun i=>nc n a (m - 1) k i*a i j))+(if k=j then ch n a m else 0)))*u ^ m)=Sm (n+2) (fun m=>nc n a m k j*u ^ m)+((-1)*Sm (n+2) (fun m=>(if m=0 then 0 else Sm n (fun i=>nc n a (m - 1) k i*a i j))*u ^ m)+(-1)*Sm (n+2) (fun m=>(if k=j then ch n a m else 0)*u ^ m)):=by
   rw[← eA,← eA,← gu,← gu];refine bJ (fun m _=> ?_);generalize nc n a m k j=x1;generalize (if m=0 then (0:Int) else _)=x2;generalize (if k=j then _ else (0:Int))=x3;generalize u ^ m=x4;rw[Int.sub_mul,Int.add_mul]
   omega
  rw[e6]
  omega
 have:=AX (n+2) _ (fun u _=>key u) m (by omega)
 omega
theorem Ky (f:Nat→Int): ∀(n j:Nat),j≤n→Sm (n+1) f=f j+Sm n (fun k=>f (skip j k)):=by
 intro n
 induction n with
 | zero=>
  intro j hj;rw[show j=0 by omega]
  show 0+f 0=f 0+0
  omega
 | succ n ih=>
  intro j hj
  by_cases e:j=n+1
  ·subst e
   show Sm (n+1) f+f (n+1)=_
   rw[bJ (g:=fun k=>f (skip (n+1) k)) (fun k hk=>by rw[show skip (n+1) k=k from if_pos hk])]
   omega
  ·show Sm (n+1) f+f (n+1)=f j+(Sm n (fun k=>f (skip j k))+f (skip j n))
   rw[ih j (by omega),show skip j n=n+1 from if_neg (by omega)]
   omega

/-- The first coefficient: one column after the other is exchanged. -/
theorem Kz: ∀(n:Nat) (a b:Nat→Nat→Int),dc n a b 1=Sm n (fun k=>cR n (dx a k (fun i=>b i k))):=by
 intro n
 induction n with
 | zero=>intro a b;rfl
 | succ n ih=>
  intro a b;have e1: ∀k,k<n+1→cR (n+1) (dx a k (fun i=>b i k))=Sm (n+1) (fun j=>sg j*dx a k (fun i=>b i k) 0 j*cR n (minor (dx a k (fun i=>b i k)) j)):=fun k _=>rfl
  rw[bJ e1,ke]
  show Sm (n+1) (fun j=>mg (sg j*a 0 j) (sg j*b 0 j) (dc n (minor a j) (minor b j)) 1)=_
  refine bJ (fun j hj=> ?_);rw[Ky _ n j (by omega)];unfold mg;rw[if_neg (by omega),ih,uc,yF,Int.add_comm]
  congr 1
  ·show _=sg j*(if j=j then b 0 j else a 0 j)*_
   rw[if_pos rfl]
  ·rw[← eA]
   refine bJ (fun k hk=> ?_);have hne:j≠skip j k:=by unfold skip;split<;>omega
   rw[yG a hne];have e2:dx a (skip j k) (fun i=>b i (skip j k)) 0 j=a 0 j:=if_neg hne;have e3:(if skip j k<j then skip j k else skip j k - 1)=k:=by
    unfold skip
    by_cases c:k<j
    ·rw[if_pos c,if_pos c]
    ·rw[if_neg c,if_neg (by omega)]
     omega
   rw[e2,e3]
   rfl

theorem KA (u h:Int): ∀m:Nat,∃e,(u+h) ^ m=u ^ m+h*((m:Int)*u ^ (m - 1))+h*h*e:=by
 intro m
 induction m with
 | zero=>exact⟨0,by rw[Int.pow_zero,Int.pow_zero];simp⟩
 | succ m ih=>
  obtain⟨e,he⟩:=ih;have e1:(m:Int)*u ^ (m - 1)*u=(m:Int)*u ^ m:=by
   match m with
   | 0=>simp
   | q+1=>rw[Nat.add_sub_cancel,Int.mul_assoc,← Int.pow_succ]
  refine⟨(m:Int)*u ^ (m - 1)+e*(u+h), ?_⟩;rw[Int.pow_succ,he,Int.pow_succ,Nat.add_sub_cancel];generalize (m:Int)*u ^ (m - 1)=p at*;rw[show((m+1:Nat):Int)=m+1 from rfl,Int.add_mul (m:Int) 1,← e1];generalize u ^ m=q
  grind

theorem KC (d:Nat) (c:Nat→Int) (u h:Int): ∃e,Sm d (fun m=>c m*(u+h) ^ m)=Sm d (fun m=>c m*u ^ m)+h*Sm d (fun m=>c m*((m:Int)*u ^ (m - 1)))+h*h*e:=by
 induction d with
 | zero=>exact⟨0,by simp[Sm]⟩
 | succ d ih=>
  obtain⟨e,he⟩:=ih;obtain⟨e',he'⟩:=KA u h d;refine⟨e+c d*e', ?_⟩
  show Sm d (fun m=>c m*(u+h) ^ m)+c d*(u+h) ^ d=Sm d (fun m=>c m*u ^ m)+c d*u ^ d+h*(Sm d (fun m=>c m*((m:Int)*u ^ (m - 1)))+c d*((d:Int)*u ^ (d - 1)))+h*h*(e+c d*e')
  rw[he,he'];generalize Sm d _=s1;generalize Sm d _=s2;generalize (d:Int)*u ^ (d - 1)=s3;generalize u ^ d=s4;generalize c d=s5
  grind

theorem KD (d:Nat) (c:Nat→Int) (h:Int): ∃e,Sm (d+2) (fun m=>c m*h ^ m)=c 0+h*c 1+h*h*e:=by
 induction d with
 | zero=>
  refine⟨0, ?_⟩
  show 0+c 0*h ^ 0+c 1*h ^ 1=_
  rw[Int.pow_zero,Int.pow_succ,Int.pow_zero]
  grind
 | succ d ih=>
  obtain⟨e,he⟩:=ih;refine⟨e+c (d+2)*h ^ d, ?_⟩
  show Sm (d+2) (fun m=>c m*h ^ m)+c (d+2)*h ^ (d+2)=_
  rw[he,Int.pow_succ,Int.pow_succ];generalize h ^ d=p
  grind

/-- The trace of N_m A. -/
def tn (n:Nat) (a:Nat→Nat→Int) (m:Nat):Int:=Sm n (fun k=>Sm n (fun i=>nc n a m k i*a i k))

theorem E3 (n:Nat) (a:Nat→Nat→Int) (m:Nat) (hm:m<n+1):((m+1:Nat):Int)*ch n a (m+1)= - tn n a m:=by
 have key: ∀u:Int,Sm (n+1) (fun m=>ch n a m*((m:Int)*u ^ (m - 1)))= - Sm (n+1) (fun m=>tn n a m*u ^ m):=by
  intro u;apply Classical.byContradiction;intro hc;obtain⟨x,hx⟩: ∃x,x=Sm (n+1) (fun m=>ch n a m*((m:Int)*u ^ (m - 1)))+Sm (n+1) (fun m=>tn n a m*u ^ m):=⟨_,rfl⟩;obtain⟨h,hh⟩: ∃h:Int,h=ab x+1:=⟨_,rfl⟩;have hpos:1≤h:=by have:=ko x;omega
  obtain⟨e1,U7⟩:=KC (n+1) (ch n a) u h;have d1:=rZ n a (u+h);have d0:=rZ n a u;have dd:=(tZ n (xu a u) (ng a)).2.1 h;simp only at dd;have ex:(fun i k=>xu a u i k+h*ng a i k)=xu a (u+h):=by
   funext i k
   unfold xu;rw[Int.add_mul]
   omega
  rw[ex]at dd;obtain⟨e2,he2⟩:=KD n (dc n (xu a u) (ng a)) h;rw[pq (d:=n+1) (fun m=>dc n (xu a u) (ng a) m*h ^ m) (by omega) (fun i hi=>by rw[kJ n _ _ hi,Int.zero_mul]),← dd,uc]at he2;have ej:dc n (xu a u) (ng a) 1= - Sm (n+1) (fun m=>tn n a m*u ^ m):=by
   rw[Kz];have e3:Sm n (fun k=>cR n (dx (xu a u) k (fun i=>ng a i k)))=Sm n (fun k=>Sm n (fun i=>adj n (xu a u) k i*ng a i k)):=bJ (fun k hk=>(EV n (xu a u) k hk (fun i=>ng a i k)).symm);rw[e3];have e4:Sm n (fun k=>Sm n (fun i=>adj n (xu a u) k i*ng a i k))=Sm n (fun k=>Sm n (fun i=>Sm (n+1) (fun m=>(-1)*(nc n a m k i*a i k*u ^ m)))):=bJ (fun k _=>bJ (fun i _=>by
    rw[ud,eA,← jE];unfold ng;rw[← eA];refine bJ (fun m _=> ?_)
    grind))
   rw[e4];have e5:Sm n (fun k=>Sm n (fun i=>Sm (n+1) (fun m=>(-1)*(nc n a m k i*a i k*u ^ m))))=Sm (n+1) (fun m=>(-1)*(tn n a m*u ^ m)):=by
    rw[bJ (g:=fun k=>Sm (n+1) (fun m=>Sm n (fun i=>(-1)*(nc n a m k i*a i k*u ^ m)))) (fun k _=>ke _ _ _),ke];refine bJ (fun m _=> ?_);unfold tn;rw[← jE,← eA];refine bJ (fun k _=> ?_);rw[← jE,← eA]
   rw[e5,eA]
   omega
  rw[ej,d1,U7,← d0]at he2;have hdiv:h*x=h*(h*(e2 - e1)):=by
   rw[hx];generalize Sm (n+1) (fun m=>ch n a m*((m:Int)*u ^ (m - 1)))=s1 at*;generalize Sm (n+1) (fun m=>tn n a m*u ^ m)=s2 at*
   grind
  have hx2:x=h*(e2 - e1):=Int.eq_of_mul_eq_mul_left (by omega) hdiv;have hx0:x≠0:=by omega
  have hd:h∣x:=⟨_,hx2⟩;have h3:=Nat.le_of_dvd (by omega) (Int.natAbs_dvd_natAbs.2 hd);have h4:ab x=x.natAbs:=rfl
  omega
 have shift: ∀u:Int,Sm (n+1) (fun m=>ch n a m*((m:Int)*u ^ (m - 1)))=Sm (n+1) (fun m=>((m+1:Nat):Int)*ch n a (m+1)*u ^ m):=by
  intro u;have e1:Sm (n+2) (fun m=>ch n a m*((m:Int)*u ^ (m - 1)))=Sm (n+1) (fun m=>ch n a m*((m:Int)*u ^ (m - 1))):=pq _ (by omega) (fun i hi=>by rw[show ch n a i=0 from kJ n _ _ hi,Int.zero_mul]);rw[← e1,lC];simp only[Nat.add_sub_cancel];rw[show((0:Nat):Int)=0 from rfl,Int.zero_mul,Int.mul_zero,Int.zero_add];refine bJ (fun m _=> ?_)
  grind
 have:=AX (n+1) (fun m=>((m+1:Nat):Int)*ch n a (m+1)+tn n a m) (fun u _=>by
  have h1:=key u;rw[shift]at h1;rw[bJ (g:=fun m=>((m+1:Nat):Int)*ch n a (m+1)*u ^ m+tn n a m*u ^ m) (fun m _=>Int.add_mul _ _ _),gu]
  omega) m hm
 omega
theorem AZ (n:Nat) (a:Nat→Nat→Int): ∀(m k j:Nat),k<n→j<n→mul n a (nc n a m) k j=mul n (nc n a m) a k j:=by
 have base: ∀(f:Nat→Nat→Int) (d:Int) (N:Nat→Nat→Int),(∀k j,k<n→j<n→N k j=f k j+(if k=j then d else 0))→(∀k j,k<n→j<n→mul n a f k j=mul n f a k j)→∀k j,k<n→j<n→mul n a N k j=mul n N a k j:=by
  intro f d N hN hf k j hk hj;unfold mul;rw[bJ (g:=fun i=>a k i*f i j+(if i=j then 1 else 0)*(a k i*d)) (fun i hi=>by
   rw[hN i j hi hj,Int.mul_add]
   congr 1
   by_cases e:i=j
   ·rw[if_pos e,if_pos e,Int.one_mul]
   ·rw[if_neg e,if_neg e,Int.zero_mul,Int.mul_zero])]
  rw[bJ (f:=fun i=>N k i*a i j) (g:=fun i=>f k i*a i j+(if i=k then 1 else 0)*(d*a i j)) (fun i hi=>by
   rw[hN k i hk hi,Int.add_mul]
   congr 1
   by_cases e:k=i
   ·rw[if_pos e,if_pos e.symm,Int.one_mul]
   ·rw[if_neg e,if_neg (fun z=>e z.symm),Int.zero_mul,Int.zero_mul])]
  rw[gu,gu,mc n (fun i=>a k i*d) hj,mc n (fun i=>d*a i j) hk,Int.mul_comm d]
  congr 1
  exact hf k j hk hj
 intro m
 induction m with
 | zero=>
  refine base (fun _ _=>0) (ch n a 0) _ (fun k j hk hj=> ?_) (fun k j hk hj=> ?_)
  ·rw[wA n a 0 k j hk hj,if_pos rfl]
  ·unfold mul
   rw[bJ (g:=fun _=>0) (fun i _=>Int.mul_zero _),bJ (f:=fun i=>0*a i j) (g:=fun _=>0) (fun i _=>Int.zero_mul _)]
 | succ m ih=>
  refine base (fun k j=>mul n (nc n a m) a k j) (ch n a (m+1)) _ (fun k j hk hj=> ?_) (fun k j hk hj=> ?_)
  ·rw[wA n a (m+1) k j hk hj,if_neg (by omega),Nat.add_sub_cancel]
   rfl
  ·have h1:=mul_assoc' n a (nc n a m) a k j
   have h2:mul n (mul n a (nc n a m)) a k j=mul n (mul n (nc n a m) a) a k j:=mul_congr (fun i hi=>ih k i hk hi) (fun i _=>rfl);rw[h2]at h1;exact h1.symm
/-- The last column is zero above its foot. -/
theorem E4: ∀(n:Nat) (m:Nat→Nat→Int) (s:Int),(∀i,i<n→m i n=0)→m n n=s→cR (n+1) m=s*cR n m:=by
 intro n
 induction n with
 | zero=>
  intro m s _ hs
  show 0+sg 0*m 0 0*1=s*1
  rw[hs]
  show 0+1*s*1=s*1
  omega
 | succ n ih=>
  intro m s h hs
  show Sm (n+1) (fun j=>sg j*m 0 j*cR (n+1) (minor m j))+sg (n+1)*m 0 (n+1)*cR (n+1) (minor m (n+1))=s*Sm (n+1) (fun j=>sg j*m 0 j*cR n (minor m j))
  rw[h 0 (by omega),Int.mul_zero,Int.zero_mul,Int.add_zero,← eA];refine bJ (fun j hj=> ?_);rw[ih (minor m j) s ?_ ?_]
  ·rw[← Int.mul_assoc,← Int.mul_assoc,Int.mul_comm s,Int.mul_assoc (sg j*m 0 j)]
  ·intro i hi
   unfold minor;rw[if_neg (by omega)];exact h (i+1) (by omega)
  ·unfold minor
   rw[if_neg (by omega)];exact hs

theorem KE (n:Nat) (x:Nat→Nat→Int) (hr: ∀r i,r<n→i<n→mul n x (adj n x) r i=if r=i then cR n x else 0):cR n x*cR (n+1) x=cR n x*(x n n*cR n x - Sm n (fun k=>x n k*Sm n (fun i=>adj n x k i*x i n))):=by
 obtain⟨w,hw⟩: ∃w:Nat→Int,w=fun k=>Sm n (fun i=>adj n x k i*x i n):=⟨_,rfl⟩
 obtain⟨s,hs⟩: ∃s:Int,s=x n n*cR n x - Sm n (fun k=>x n k*w k):=⟨_,rfl⟩
 -- the last column times the determinant, less the others
 have h1:=wz (n+1) x n (cR n x) (-1) (fun i=>x i n) (fun r=>Sm n (fun k=>w k*x r k)) (by omega);rw[wv,EU (n+1) x n (by omega) w (fun k r=>x r k) n]at h1;have hz:Sm n (fun k=>w k*cR (n+1) (dx x n (fun r=>x r k)))=0:=by
  rw[bJ (g:=fun _=>0) (fun k hk=> ?_),j9];rw[AW (n:=n+1) (p:=n) (q:=k) (by omega) (by omega) (by omega) (fun i=> ?_),Int.mul_zero];unfold dx;rw[if_pos rfl,if_neg (by omega)]
 rw[hz,Int.mul_zero,Int.add_zero]at h1
 -- X adj X = det X, row by row
 have hx: ∀r,r<n→Sm n (fun k=>w k*x r k)=cR n x*x r n:=by
  intro r U7;rw[hw];rw[bJ (g:=fun k=>Sm n (fun i=>x r k*adj n x k i*x i n)) (fun k _=>by
   rw[Int.mul_comm,← eA];exact bJ (fun i _=>(Int.mul_assoc _ _ _).symm)),ke]
  rw[bJ (g:=fun i=>(if i=r then 1 else 0)*(cR n x*x i n)) (fun i hi=>by
   rw[jE];have:=hr r i U7 hi;unfold mul at this;rw[this]
   by_cases e:r=i
   ·rw[if_pos e,if_pos e.symm,Int.one_mul]
   ·rw[if_neg e,if_neg (fun z=>e z.symm),Int.zero_mul,Int.zero_mul])]
  exact mc n (fun i=>cR n x*x i n) U7
 have h2:=E4 n (dx x n (fun i=>cR n x*x i n+ -1*Sm n (fun k=>w k*x i k))) s (fun i hi=>by
  unfold dx;rw[if_pos rfl]
  show cR n x*x i n+ -1*Sm n (fun k=>w k*x i k)=0
  rw[hx i hi]
  omega) (by
  unfold dx;rw[if_pos rfl,hs,Int.mul_comm (x n n)]
  show cR n x*x n n+ -1*Sm n (fun k=>w k*x n k)=_
  rw[bJ (f:=fun k=>w k*x n k) (g:=fun k=>x n k*w k) (fun k _=>Int.mul_comm _ _)]
  omega)
 rw[← h1,h2,hs,hw,Int.mul_comm]
 congr 1
 refine qo n _ _ (fun i k _ hk=> ?_);unfold dx;rw[if_neg (by omega)]
/-- 1 - u a times its adjoint. -/
theorem KF (n:Nat) (a:Nat→Nat→Int) (u:Int) (k j:Nat) (hk:k<n) (hj:j<n):mul n (xu a u) (adj n (xu a u)) k j=if k=j then cR n (xu a u) else 0:=by
 rw[← EW n (xu a u) k j hk hj];have e1: ∀k j,k<n→j<n→mul n (xu a u) (adj n (xu a u)) k j=adj n (xu a u) k j+(-u)*mul n a (adj n (xu a u)) k j:=by
  intro k j hk hj;unfold mul;rw[← eA];have:Sm n (fun i=>xu a u k i*adj n (xu a u) i j)=Sm n (fun i=>(if i=k then 1 else 0)*adj n (xu a u) i j+(-u)*(a k i*adj n (xu a u) i j)):=bJ (fun i _=>by
   unfold xu fc ng;generalize adj n _ i j=g;rw[Int.add_mul]
   congr 1
   ·by_cases e:k=i
    ·rw[if_pos e,if_pos e.symm]
    ·rw[if_neg e,if_neg (fun z=>e z.symm)]
   ·grind)
  rw[this,gu,mc n (fun i=>adj n (xu a u) i j) hk]
 have e2: ∀k j,k<n→j<n→mul n (adj n (xu a u)) (xu a u) k j=adj n (xu a u) k j+(-u)*mul n (adj n (xu a u)) a k j:=by
  intro k j hk hj;unfold mul;rw[← eA];have:Sm n (fun i=>adj n (xu a u) k i*xu a u i j)=Sm n (fun i=>(if i=j then 1 else 0)*adj n (xu a u) k i+(-u)*(adj n (xu a u) k i*a i j)):=bJ (fun i _=>by
   unfold xu fc ng;generalize adj n _ k i=g;rw[Int.mul_add]
   congr 1
   ·exact Int.mul_comm _ _
   ·grind)
  rw[this,gu,mc n (fun i=>adj n (xu a u) k i) hj]
 rw[e1 k j hk hj,e2 k j hk hj]
 congr 1
 congr 1
 have e3:mul n a (adj n (xu a u)) k j=Sm (n+1) (fun m=>mul n a (nc n a m) k j*u ^ m):=by
  unfold mul;rw[bJ (g:=fun i=>Sm (n+1) (fun m=>a k i*nc n a m i j*u ^ m)) (fun i _=>by
   rw[ud,← eA];exact bJ (fun m _=>(Int.mul_assoc _ _ _).symm)),ke]
  exact bJ (fun m _=>jE n _ _)
 have e4:mul n (adj n (xu a u)) a k j=Sm (n+1) (fun m=>mul n (nc n a m) a k j*u ^ m):=by
  unfold mul;rw[bJ (g:=fun i=>Sm (n+1) (fun m=>nc n a m k i*a i j*u ^ m)) (fun i _=>by
   rw[ud,← jE];exact bJ (fun m _=>by rw[Int.mul_assoc,Int.mul_comm (u ^ m),← Int.mul_assoc])),ke]
  exact bJ (fun m _=>jE n _ _)
 rw[e3,e4];exact bJ (fun m _=>by rw[AZ n a m k j hk hj])

theorem yK: ∀n,cR n fc=1:=by
 intro n
 induction n with
 | zero=>rfl
 | succ n ih=>
  rw[E4 n fc 1 (fun i hi=>if_neg (by omega)) (if_pos rfl),ih]
  rfl

theorem KG (n:Nat) (a:Nat→Nat→Int) (u:Int) (hu:2≤u):cR n (xu a u)≠0:=by
 intro h;rw[rZ,lC,show ch n a 0=1 from(uc n fc (ng a)).trans (yK n),Int.pow_zero]at h;have e:Sm n (fun i=>ch n a (i+1)*u ^ (i+1))=u*Sm n (fun i=>ch n a (i+1)*u ^ i):=by
  rw[← eA];refine bJ (fun i _=> ?_);rw[Int.pow_succ]
  grind
 rw[e]at h;generalize Sm n _=s at h;have hd:u∣1:=⟨-s,by rw[Int.mul_neg];omega⟩;have:=Int.le_of_dvd (by decide) hd
 omega

/-- The foot, the row and the column, for one number u. -/
theorem KH (n:Nat) (a:Nat→Nat→Int) (u:Int) (hu:2≤u):cR (n+1) (xu a u)=(1 - u*a n n)*cR n (xu a u) - u*u*Sm n (fun k=>a n k*Sm n (fun i=>adj n (xu a u) k i*a i n)):=by
 have h:=KE n (xu a u) (fun r i hr hi=>KF n a u r i hr hi);have h1:=Int.eq_of_mul_eq_mul_left (KG n a u hu) h;rw[h1];have e1:xu a u n n=1 - u*a n n:=by
  unfold xu fc ng;rw[if_pos rfl,Int.mul_neg]
  omega
 have e2:Sm n (fun k=>xu a u n k*Sm n (fun i=>adj n (xu a u) k i*xu a u i n))=u*u*Sm n (fun k=>a n k*Sm n (fun i=>adj n (xu a u) k i*a i n)):=by
  rw[← eA];refine bJ (fun k hk=> ?_);have e3:xu a u n k= -(u*a n k):=by
   unfold xu fc ng;rw[if_neg (by omega),Int.mul_neg]
   omega
  have e4:Sm n (fun i=>adj n (xu a u) k i*xu a u i n)= -u*Sm n (fun i=>adj n (xu a u) k i*a i n):=by
   rw[← eA];refine bJ (fun i hi=> ?_);unfold xu fc ng;rw[if_neg (by omega)];generalize adj n _ k i=g
   grind
  rw[e3,e4];generalize Sm n _=s
  grind
 rw[e1,e2]

/-- What the last row and column add to the coefficient m. -/
def mh (n:Nat) (a:Nat→Nat→Int) (m:Nat):Int:=Sm n (fun k=>a n k*Sm n (fun i=>nc n a m k i*a i n))

/-- One row and one column more, by coefficients. -/
theorem KI (n:Nat) (a:Nat→Nat→Int) (m:Nat) (hm:m<n+3):ch (n+1) a m=ch n a m+(if m=0 then 0 else -(a n n)*ch n a (m - 1))+(if m<2 then 0 else - mh n a (m - 2)):=by
 have key: ∀u:Int,2≤u→Sm (n+3) (fun m=>(ch (n+1) a m - (ch n a m+(if m=0 then 0 else -(a n n)*ch n a (m - 1))+(if m<2 then 0 else - mh n a (m - 2))))*u ^ m)=0:=by
  intro u hu;have h:=KH n a u hu;rw[rZ,rZ]at h;have e0:Sm n (fun k=>a n k*Sm n (fun i=>adj n (xu a u) k i*a i n))=Sm (n+1) (fun m=>mh n a m*u ^ m):=by
   unfold mh;rw[bJ (g:=fun k=>Sm (n+1) (fun m=>a n k*Sm n (fun i=>nc n a m k i*a i n)*u ^ m)) (fun k _=>by
    rw[bJ (g:=fun i=>Sm (n+1) (fun m=>nc n a m k i*a i n*u ^ m)) (fun i _=>by
     rw[ud,← jE];exact bJ (fun m _=>by rw[Int.mul_assoc,Int.mul_comm (u ^ m),← Int.mul_assoc])),ke,← eA]
    refine bJ (fun m _=> ?_);rw[jE,Int.mul_assoc]),ke]
   exact bJ (fun m _=>jE n _ _)
  have e1:Sm (n+1+1) (fun m=>ch (n+1) a m*u ^ m)=Sm (n+3) (fun m=>ch (n+1) a m*u ^ m):=(pq _ (by omega) (fun i hi=>by rw[show ch (n+1) a i=0 from kJ _ _ _ (by omega),Int.zero_mul])).symm;have e2:Sm (n+1) (fun m=>ch n a m*u ^ m)=Sm (n+3) (fun m=>ch n a m*u ^ m):=(pq _ (by omega) (fun i hi=>by rw[show ch n a i=0 from kJ _ _ _ (by omega),Int.zero_mul])).symm;have e3:u*Sm (n+1) (fun m=>ch n a m*u ^ m)=Sm (n+3) (fun m=>(if m=0 then 0 else ch n a (m - 1))*u ^ m):=by
   rw[← pq (d:=n+1) (e:=n+2) (fun m=>ch n a m*u ^ m) (by omega) (fun i hi=>by rw[show ch n a i=0 from kJ _ _ _ (by omega),Int.zero_mul]),← eA,← yI];refine bJ (fun m _=> ?_)
   by_cases e:m=0
   ·rw[if_pos e,if_pos e,Int.zero_mul]
   ·rw[if_neg e,if_neg e]
    obtain⟨q,rfl⟩: ∃q,m=q+1:=⟨m - 1,by omega⟩;rw[Nat.add_sub_cancel,Int.pow_succ]
    grind
  have e4:u*u*Sm (n+1) (fun m=>mh n a m*u ^ m)=Sm (n+3) (fun m=>(if m<2 then 0 else mh n a (m - 2))*u ^ m):=by
   have s2:Sm (n+3) (fun m=>(if m<2 then 0 else mh n a (m - 2))*u ^ m)=Sm (n+1) (fun m=>mh n a m*u ^ (m+2)):=by
    rw[lC,lC];rw[if_pos (by omega),if_pos (by omega),Int.zero_mul,Int.zero_mul,Int.zero_add,Int.zero_add];exact bJ (fun m _=>by rw[if_neg (by omega)];rfl)
   rw[s2,← eA];refine bJ (fun m _=> ?_);rw[Int.pow_succ,Int.pow_succ]
   grind
  rw[e0,e1]at h;have e5:Sm (n+3) (fun m=>(ch (n+1) a m - (ch n a m+(if m=0 then 0 else -(a n n)*ch n a (m - 1))+(if m<2 then 0 else - mh n a (m - 2))))*u ^ m)=Sm (n+3) (fun m=>ch (n+1) a m*u ^ m)+((-1)*Sm (n+3) (fun m=>ch n a m*u ^ m)+(a n n*Sm (n+3) (fun m=>(if m=0 then 0 else ch n a (m - 1))*u ^ m)+Sm (n+3) (fun m=>(if m<2 then 0 else mh n a (m - 2))*u ^ m))):=by
   rw[← eA,← eA,← gu,← gu,← gu];refine bJ (fun m _=> ?_)
   by_cases c0:m=0
   ·rw[if_pos c0,if_pos c0,if_pos (by omega),if_pos (by omega)]
    grind
   ·rw[if_neg c0,if_neg c0]
    by_cases c2:m<2
    ·rw[if_pos c2,if_pos c2]
     grind
    ·rw[if_neg c2,if_neg c2]
     grind
  rw[e5,← e3,← e4,h,← e2];generalize Sm (n+1) (fun m=>ch n a m*u ^ m)=s1;generalize Sm (n+1) (fun m=>mh n a m*u ^ m)=s2
  grind
 have:=EY (n+3) _ (fun u hu=>key u hu) m hm
 omega
/-- a to the power p. -/
def mp (n:Nat) (a:Nat→Nat→Int):Nat→Nat→Nat→Int
 | 0=>fc
 | p+1=>mul n (mp n a p) a

theorem E5 (n:Nat) (a:Nat→Nat→Int): ∀(m k j:Nat),k<n→j<n→nc n a m k j=Sm (m+1) (fun t=>ch n a t*mp n a (m - t) k j):=by
 intro m
 induction m with
 | zero=>
  intro k j hk hj;rw[wA n a 0 k j hk hj,if_pos rfl,Int.zero_add]
  show _=0+ch n a 0*fc k j
  unfold fc
  split
  ·omega
  ·omega
 | succ m ih=>
  intro k j hk hj;rw[wA n a (m+1) k j hk hj,if_neg (by omega),Nat.add_sub_cancel]
  show _=Sm (m+1) (fun t=>ch n a t*mp n a (m+1 - t) k j)+ch n a (m+1)*mp n a (m+1 - (m+1)) k j
  rw[Nat.sub_self]
  congr 1
  ·rw[bJ (g:=fun i=>Sm (m+1) (fun t=>ch n a t*mp n a (m - t) k i*a i j)) (fun i hi=>by
    rw[ih k i hk hi,← jE]),ke]
   refine bJ (fun t ht=> ?_);rw[show m+1 - t=(m - t)+1 by omega]
   show _=ch n a t*Sm n (fun i=>mp n a (m - t) k i*a i j)
   rw[← eA];exact bJ (fun i _=>Int.mul_assoc _ _ _)
  ·show _=ch n a (m+1)*fc k j
   unfold fc
   split
   ·omega
   ·omega
/-- The matrix's powers at a column. -/
def cg (r:Nat) (a:Nat→Nat→Int) (v:Nat→Int):Nat→Nat→Int
 | 0=>v
 | p+1=>fun i=>Sm r (fun q=>a i q*cg r a v p q)

theorem KJ (r:Nat) (a:Nat→Nat→Int): ∀(p:Nat) (v:Nat→Int),cg r a (fun i=>Sm r (fun q=>a i q*v q)) p=cg r a v (p+1):=by
 intro p
 induction p with
 | zero=>intro v;rfl
 | succ p ih=>
  intro v
  funext i
  show Sm r (fun q=>a i q*cg r a (fun i=>Sm r (fun q=>a i q*v q)) p q)=Sm r (fun q=>a i q*cg r a v (p+1) q)
  rw[ih v]

theorem KK (r:Nat) (a:Nat→Nat→Int): ∀(p:Nat) (v:Nat→Int) (i:Nat),i<r→Sm r (fun q=>mp r a p i q*v q)=cg r a v p i:=by
 intro p
 induction p with
 | zero=>
  intro v i hi
  show Sm r (fun q=>fc i q*v q)=v i
  rw[bJ (g:=fun q=>(if q=i then 1 else 0)*v q) (fun q _=> ?_)]
  ·exact mc r v hi
  ·unfold fc
   by_cases c:i=q
   ·rw[if_pos c,if_pos c.symm]
   ·rw[if_neg c,if_neg (fun z=>c z.symm)]
 | succ p ih=>
  intro v i hi;rw[← KJ,← ih _ i hi]
  show Sm r (fun q=>Sm r (fun k=>mp r a p i k*a k q)*v q)=_
  rw[bJ (g:=fun q=>Sm r (fun k=>mp r a p i k*(a k q*v q))) (fun q _=>by
   rw[← jE];exact bJ (fun k _=>Int.mul_assoc _ _ _)),ke]
  exact bJ (fun k _=>eA r _ _)

/-- The row, a power, and the column. -/
def rp (r:Nat) (a:Nat→Nat→Int) (p:Nat):Int:=Sm r (fun q=>a r q*cg r a (fun i=>a i r) p q)

/-- The numbers by which those of r rows are multiplied. -/
def tu (r:Nat) (a:Nat→Nat→Int):Nat→Int
 | 0=>1
 | 1=> -(a r r)
 | p+2=> -rp r a p

theorem KL (r:Nat) (a:Nat→Nat→Int) (m:Nat):mh r a m=Sm (m+1) (fun t=>ch r a t*rp r a (m - t)):=by
 unfold mh;rw[bJ (g:=fun k=>Sm (m+1) (fun t=>ch r a t*(a r k*cg r a (fun i=>a i r) (m - t) k))) (fun k hk=> ?_),ke]
 ·exact bJ (fun t _=>eA r _ _)
 ·rw[bJ (g:=fun i=>Sm (m+1) (fun t=>ch r a t*(mp r a (m - t) k i*a i r))) (fun i hi=>by
   rw[E5 r a m k i hk hi,← jE];exact bJ (fun t _=>Int.mul_assoc _ _ _)),ke,← eA]
  refine bJ (fun t _=> ?_);rw[eA,KK r a (m - t) (fun i=>a i r) k hk];exact Int.mul_left_comm _ _ _

theorem KM (r:Nat) (a:Nat→Nat→Int) (i:Nat) (hi:i<r+3):Sm (i+1) (fun t=>tu r a (i - t)*ch r a t)=ch (r+1) a i:=by
 rw[KI r a i hi]
 match i with
 | 0=>
  show 0+1*ch r a 0=ch r a 0+0+0
  omega
 | 1=>
  show 0+ -(a r r)*ch r a 0+1*ch r a 1=ch r a 1+ -(a r r)*ch r a 0+0
  omega
 | m+2=>
  rw[if_neg (by omega),if_neg (by omega),show m+2 - 1=m+1 from rfl,Nat.add_sub_cancel,KL]
  show Sm (m+1) (fun t=>tu r a (m+2 - t)*ch r a t)+tu r a (m+2 - (m+1))*ch r a (m+1)+tu r a (m+2 - (m+2))*ch r a (m+2)=_
  rw[show m+2 - (m+1)=1 by omega,show m+2 - (m+2)=0 by omega];have e:Sm (m+1) (fun t=>tu r a (m+2 - t)*ch r a t)=(-1)*Sm (m+1) (fun t=>ch r a t*rp r a (m - t)):=by
   rw[← eA];refine bJ (fun t ht=> ?_);rw[show m+2 - t=(m - t)+2 by omega]
   show -rp r a (m - t)*ch r a t=_
   grind
  rw[e]
  show _+ -(a r r)*ch r a (m+1)+1*ch r a (m+2)=_
  omega

theorem KN (r:Nat) (a:Nat→Nat→Int) (i:Nat) (hi:i<r+2):Sm (if i+1≤r+1 then i+1 else r+1) (fun t=>tu r a (i - t)*ch r a t)=ch (r+1) a i:=by
 rw[← KM r a i (by omega)]
 by_cases c:i+1≤r+1
 ·rw[if_pos c]
 ·rw[if_neg c]
  obtain rfl:i=r+1:=by omega
  show _=Sm (r+1) (fun t=>tu r a (r+1 - t)*ch r a t)+tu r a (r+1 - (r+1))*ch r a (r+1)
  rw[show ch r a (r+1)=0 from kJ _ _ _ (Nat.le_refl _),Int.mul_zero,Int.add_zero]
/-- The wrapped coefficients, k of them. -/
def fR (n:Nat) (a:Nat→Nat→Int) (k:Nat):List Int:=rowOf k (fun m=>wrap64 (ch n a m))

theorem ue (k:Nat) (f:Nat→Int):rowOf k f++[f k]=rowOf (k+1) f:=(qm f k).symm

section
variable (n:Nat) (hn:n≤1000) (a:List (List Int)) (ha:Sq n a) (hw: ∀i j,i<n→j<n→wrap64 (bw a i j)=bw a i j)

/-- The column behind p steps, wrapped. -/
def iV (r p:Nat) (k:Nat):List Int:=rowOf k (fun i=>wrap64 (cg r (bw a) (fun i=>bw a i r) p i))

def lD (r k:Nat):List Int:=rowOf k (fun p=>wrap64 (tu r (bw a) p))

include hn ha hw

theorem KO (r:Nat) (hr:r<n) (x3:List Int) (x5:List Int) (res:List Int) (h:Ev (fun f=>bW.l2 f a x3 (r:Int) x5 (iV a r 0 r) 0) res):
  ∀(d i:Nat),i+d=r→Ev (fun f=>bW.l1 f a x3 (r:Int) x5 (iV a r 0 i) (i:Int)) res:=by
 have hal:=ha.1;intro d
 induction d with
 | zero=>
  intro i hi;obtain rfl:i=r:=by omega
  refine Ev.succ ?_;simp only[bW.l1]
  repeat (first | with_reducible exact Ev.now _ | dsimp only | refine Ev.cr ?_ | refine Ev.cu ?_ | simp only[bne_self_eq_false,Bool.not_true,Bool.not_false,List.length_cons,List.length_nil] | rw[bg (by omega) (by omega)] | ((with_reducible refine Ev.eq (congrArg some ?_));rfl))
  exact h
 | succ d ih=>
  intro i hi;have h1:=ih (i+1) (by omega);have hrow:=ha.2 i (by omega);have hlen:(iV a r 0 i).length=i:=gh _ _;have e:iV a r 0 i++[rd (aG a (i:Int)) (r:Int)]=iV a r 0 (i+1):=by
   rw[show rd (aG a (i:Int)) (r:Int)=bw a i r from rfl,← hw i r (by omega) hr];exact ue i _
  refine Ev.succ ?_;simp only[bW.l1];rw[e,dD (i:=i) (by omega)]
  repeat (first | with_reducible exact Ev.now _ | dsimp only | refine Ev.cr ?_ | refine Ev.cu ?_ | simp only[bne_self_eq_false,Bool.not_true,Bool.not_false,List.length_cons,List.length_nil] | rw[bg (by omega) (by omega)] | ((with_reducible refine Ev.eq (congrArg some ?_));rfl))
  exact h1

omit hw in
/-- The sum of one place of the next column. -/
theorem KP (r k i:Nat) (hr:r<n) (hi:i<r) (x3 x5 dG:List Int) (x9:Int) (hx:dG.length≤1000) (res:List Int) (h:Ev (fun f=>bW.l3 f a x3 (r:Int) x5 (iV a r k r) (k:Int) x9 (dG++[wrap64 (cg r (bw a) (fun i=>bw a i r) (k+1) i)]) ((i+1:Nat):Int)) res):
  ∀(d j:Nat),j+d=r→Ev (fun f=>bW.l4 f a x3 (r:Int) x5 (iV a r k r) (k:Int) x9 dG (i:Int) (wrap64 (Sm j (fun q=>bw a i q*cg r (bw a) (fun i=>bw a i r) k q))) (j:Int)) res:=by
 have hal:=ha.1;have hrow:=ha.2 i (by omega);have hlen:(iV a r k r).length=r:=gh _ _;intro d
 induction d with
 | zero=>
  intro j hj;obtain rfl:j=r:=by omega
  refine Ev.succ ?_;simp only[bW.l4];rw[dD (i:=i) (by omega)]
  repeat (first | with_reducible exact Ev.now _ | dsimp only | refine Ev.cr ?_ | refine Ev.cu ?_ | simp only[bne_self_eq_false,Bool.not_true,Bool.not_false,List.length_cons,List.length_nil] | rw[bg (by omega) (by omega)] | ((with_reducible refine Ev.eq (congrArg some ?_));rfl))
  exact h
 | succ d ih=>
  intro j hj;have h1:=ih (j+1) (by omega);have e:wrap64 (wrap64 (Sm j (fun q=>bw a i q*cg r (bw a) (fun i=>bw a i r) k q))+wrap64 (rd (aG a (i:Int)) (j:Int)*rd (iV a r k r) (j:Int)))=wrap64 (Sm (j+1) (fun q=>bw a i q*cg r (bw a) (fun i=>bw a i r) k q)):=by
   unfold iV;rw[jO _ (by omega),show rd (aG a (i:Int)) (j:Int)=bw a i j from rfl,wq,nY]
   rfl
  refine Ev.succ ?_;simp only[bW.l4];rw[e,dD (i:=j) (by omega)]
  repeat (first | with_reducible exact Ev.now _ | dsimp only | refine Ev.cr ?_ | refine Ev.cu ?_ | simp only[bne_self_eq_false,Bool.not_true,Bool.not_false,List.length_cons,List.length_nil] | rw[bg (by omega) (by omega)] | ((with_reducible refine Ev.eq (congrArg some ?_));rfl))
  exact h1

omit hw in
/-- One more number, and the next column. -/
theorem KQ (r k:Nat) (hr:r<n) (hk:k<r) (x3:List Int) (res:List Int) (h:Ev (fun f=>bW.l2 f a x3 (r:Int) (lD a r (k+3)) (iV a r (k+1) r) ((k+1:Nat):Int)) res):
  ∀(d i:Nat),i+d=r→Ev (fun f=>bW.l3 f a x3 (r:Int) (lD a r (k+2)) (iV a r k r) (k:Int) (wrap64 (Sm i (fun q=>bw a r q*cg r (bw a) (fun i=>bw a i r) k q))) (iV a r (k+1) i) (i:Int)) res:=by
 have hal:=ha.1;have hrow:=ha.2 r (by omega);have hlen:(iV a r k r).length=r:=gh _ _;intro d
 induction d with
 | zero=>
  intro i hi;obtain rfl:i=r:=by omega
  have hl2:(lD a i (k+2)).length=k+2:=gh _ _;have e:lD a i (k+2)++[wrap64 (-wrap64 (Sm i (fun q=>bw a i q*cg i (bw a) (fun j=>bw a j i) k q)))]=lD a i (k+3):=by
   rw[EH];exact ue (k+2) (fun p=>wrap64 (tu i (bw a) p))
  refine Ev.succ ?_;simp only[bW.l3];rw[e,dD (i:=k) (by omega)]
  repeat (first | with_reducible exact Ev.now _ | dsimp only | refine Ev.cr ?_ | refine Ev.cu ?_ | simp only[bne_self_eq_false,Bool.not_true,Bool.not_false,List.length_cons,List.length_nil] | rw[bg (by omega) (by omega)] | ((with_reducible refine Ev.eq (congrArg some ?_));rfl))
  exact h
 | succ d ih=>
  intro i hi;have h1:=ih (i+1) (by omega);have KR:(iV a r (k+1) i).length=i:=gh _ _;have e:wrap64 (wrap64 (Sm i (fun q=>bw a r q*cg r (bw a) (fun i=>bw a i r) k q))+wrap64 (rd (aG a (r:Int)) (i:Int)*rd (iV a r k r) (i:Int)))=wrap64 (Sm (i+1) (fun q=>bw a r q*cg r (bw a) (fun i=>bw a i r) k q)):=by
   unfold iV;rw[jO _ (by omega),show rd (aG a (r:Int)) (i:Int)=bw a r i from rfl,wq,nY]
   rfl
  have e2:iV a r (k+1) i++[wrap64 (cg r (bw a) (fun i=>bw a i r) (k+1) i)]=iV a r (k+1) (i+1):=ue i _;rw[← e2,← e]at h1;have h2:=KP n hn a ha r k i hr (by omega) x3 (lD a r (k+2)) (iV a r (k+1) i) _ (by omega) res h1 r 0 (by omega);rw[show wrap64 (Sm 0 (fun q=>bw a i q*cg r (bw a) (fun i=>bw a i r) k q))=0 from bg (x:=0) (by decide) (by decide)]at h2;refine Ev.succ ?_;simp only[bW.l3]
  repeat (first | with_reducible exact Ev.now _ | dsimp only | refine Ev.cr ?_ | refine Ev.cu ?_ | simp only[bne_self_eq_false,Bool.not_true,Bool.not_false,List.length_cons,List.length_nil] | rw[bg (by omega) (by omega)] | ((with_reducible refine Ev.eq (congrArg some ?_));rfl))
  exact h2

omit hw in
/-- All numbers. -/
theorem KS (r:Nat) (hr:r<n) (x3:List Int) (res:List Int) (h:Ev (fun f=>bW.l5 f a x3 (r:Int) (lD a r (r+2)) (List.replicate (r+2) 0) 0) res):
  ∀(d k:Nat),k+d=r→Ev (fun f=>bW.l2 f a x3 (r:Int) (lD a r (k+2)) (iV a r k r) (k:Int)) res:=by
 intro d
 induction d with
 | zero=>
  intro k hk;obtain rfl:k=r:=by omega
  refine Ev.succ ?_;simp only[bW.l2];rw[bg (x:=(k:Int)+2) (by omega) (by omega),show((k:Int)+2).toNat=k+2 by omega]
  repeat (first | with_reducible exact Ev.now _ | dsimp only | refine Ev.cr ?_ | refine Ev.cu ?_ | simp only[bne_self_eq_false,Bool.not_true,Bool.not_false,List.length_cons,List.length_nil] | rw[bg (by omega) (by omega)] | ((with_reducible refine Ev.eq (congrArg some ?_));rfl))
  exact h
 | succ d ih=>
  intro k hk;have h1:=ih (k+1) (by omega);have h2:=KQ n hn a ha r k hr (by omega) x3 res h1 r 0 (by omega);rw[show wrap64 (Sm 0 (fun q=>bw a r q*cg r (bw a) (fun i=>bw a i r) k q))=0 from bg (x:=0) (by decide) (by decide)]at h2;refine Ev.succ ?_;simp only[bW.l2]
  repeat (first | with_reducible exact Ev.now _ | dsimp only | refine Ev.cr ?_ | refine Ev.cu ?_ | simp only[bne_self_eq_false,Bool.not_true,Bool.not_false,List.length_cons,List.length_nil] | rw[bg (by omega) (by omega)] | ((with_reducible refine Ev.eq (congrArg some ?_));rfl))
  exact h2

/-- The made numbers while those before i are told, and at i the products before j. -/
def mm (r i j:Nat):List Int:=rowOf (r+2) (fun q=>if q<i then wrap64 (ch (r+1) (bw a) q) else if q=i then wrap64 (Sm j (fun t=>tu r (bw a) (i - t)*ch r (bw a) t)) else 0)

omit hn ha hw in
theorem KT (r:Nat):mm a r 0 0=List.replicate (r+2) 0:=by
 rw[← wj];refine kI (fun q hq=> ?_);rw[if_neg (by omega)]
 split
 ·exact bg (x:=0) (by decide) (by decide)
 ·rfl

omit hn ha hw in
theorem KU (r i:Nat) (hi:i<r+2):mm a r i (if i+1≤r+1 then i+1 else r+1)=mm a r (i+1) 0:=by
 refine kI (fun q hq=> ?_)
 by_cases c:q<i
 ·rw[if_pos c,if_pos (by omega)]
 ·by_cases e:q=i
  ·rw[if_neg c,if_pos e,KN r (bw a) i hi,if_pos (show q<i+1 by omega),e]
  ·rw[if_neg c,if_neg e,if_neg (by omega)]
   by_cases e2:q=i+1
   ·rw[if_pos e2]
    exact(bg (x:=0) (by decide) (by decide)).symm
   ·rw[if_neg e2]

omit hn ha hw in
theorem KW (r i j:Nat) (hi:i<r+2):(mm a r i j).set i (wrap64 (rd (mm a r i j) (i:Int)+wrap64 (wrap64 (tu r (bw a) (i - j))*wrap64 (ch r (bw a) j))))=mm a r i (j+1):=by
 unfold mm;rw[jO _ hi,if_neg (by omega),if_pos rfl,J1,nY,yC _ _ hi];refine kI (fun q hq=> ?_)
 by_cases e:q=i
 ·rw[if_pos e,if_neg (by omega),if_pos e]
  rfl
 ·rw[if_neg e]
  by_cases c:q<i
  ·rw[if_pos c,if_pos c]
  ·rw[if_neg c,if_neg c,if_neg e,if_neg e]

omit ha hw in
/-- One number of those of one row more. -/
theorem KX (r i:Nat) (hr:r<n) (hi:i<r+2) (res:List Int) (h:Ev (fun f=>bW.l5 f a (fR r (bw a) (r+1)) (r:Int) (lD a r (r+2)) (mm a r (i+1) 0) ((i+1:Nat):Int)) res):
  ∀(d j:Nat),j+d=(if i+1≤r+1 then i+1 else r+1)→Ev (fun f=>bW.l6 f a (fR r (bw a) (r+1)) (r:Int) (lD a r (r+2)) (mm a r i j) (i:Int) (j:Int)) res:=by
 have KR:(fR r (bw a) (r+1)).length=r+1:=gh _ _;have U9:(lD a r (r+2)).length=r+2:=gh _ _;intro d
 induction d with
 | zero=>
  intro j hj;rw[← KU a r i hi]at h;have e:j=(if i+1≤r+1 then i+1 else r+1):=by omega
  rw[← e]at h;refine Ev.succ ?_;simp only[bW.l6];rw[dD (i:=i) (by omega)]
  by_cases c:(j:Int)<((r+1:Nat):Int)
  ·have c2: ¬(j:Int)≤(i:Int):=by
    split at e<;>omega
   repeat (first | with_reducible exact Ev.now _ | dsimp only | refine Ev.cr ?_ | refine Ev.cu ?_ | simp only[bne_self_eq_false,Bool.not_true,Bool.not_false,List.length_cons,List.length_nil] | rw[bg (by omega) (by omega)] | ((with_reducible refine Ev.eq (congrArg some ?_));rfl))
   exact h
  ·repeat (first | with_reducible exact Ev.now _ | dsimp only | refine Ev.cr ?_ | refine Ev.cu ?_ | simp only[bne_self_eq_false,Bool.not_true,Bool.not_false,List.length_cons,List.length_nil] | rw[bg (by omega) (by omega)] | ((with_reducible refine Ev.eq (congrArg some ?_));rfl))
   exact h
 | succ d ih=>
  intro j hj;have h1:=ih (j+1) (by omega);have U8:j<r+1∧j≤i:=by split at hj<;>omega
  have U7:(mm a r i j).length=r+2:=gh _ _;have e1:rd (lD a r (r+2)) (((i - j:Nat)):Int)=wrap64 (tu r (bw a) (i - j)):=jO _ (by omega);have e2:rd (fR r (bw a) (r+1)) (j:Int)=wrap64 (ch r (bw a) j):=jO _ (by omega);rw[← KW a r i j hi]at h1;refine Ev.succ ?_;simp only[bW.l6];rw[bg (x:=(i:Int) - j) (by omega) (by omega),show(i:Int) - j=((i - j:Nat):Int) by omega,e1,e2,dD (i:=j) (by omega),Int.toNat_natCast]
  repeat (first | with_reducible exact Ev.now _ | dsimp only | refine Ev.cr ?_ | refine Ev.cu ?_ | simp only[bne_self_eq_false,Bool.not_true,Bool.not_false,List.length_cons,List.length_nil] | rw[bg (by omega) (by omega)] | ((with_reducible refine Ev.eq (congrArg some ?_));rfl))
  exact h1

omit ha hw in
theorem KY (r:Nat) (hr:r<n) (res:List Int) (h:Ev (fun f=>bW.l0 f a (fR (r+1) (bw a) (r+2)) ((r+1:Nat):Int)) res):
  ∀(d i:Nat),i+d=r+2→Ev (fun f=>bW.l5 f a (fR r (bw a) (r+1)) (r:Int) (lD a r (r+2)) (mm a r i 0) (i:Int)) res:=by
 intro d
 induction d with
 | zero=>
  intro i hi;obtain rfl:i=r+2:=by omega
  have e:mm a r (r+2) 0=fR (r+1) (bw a) (r+2):=kI (fun q hq=>if_pos hq);have hl:(fR (r+1) (bw a) (r+2)).length=r+2:=gh _ _;rw[e];refine Ev.succ ?_;simp only[bW.l5];rw[dD (i:=r) (by omega)]
  repeat (first | with_reducible exact Ev.now _ | dsimp only | refine Ev.cr ?_ | refine Ev.cu ?_ | simp only[bne_self_eq_false,Bool.not_true,Bool.not_false,List.length_cons,List.length_nil] | rw[bg (by omega) (by omega)] | ((with_reducible refine Ev.eq (congrArg some ?_));rfl))
  exact h
 | succ d ih=>
  intro i hi;have h1:=ih (i+1) (by omega);have hl:(mm a r i 0).length=r+2:=gh _ _;have h2:=KX n hn a r i hr (by omega) res h1 _ 0 (Nat.zero_add _);refine Ev.succ ?_;simp only[bW.l5]
  repeat (first | with_reducible exact Ev.now _ | dsimp only | refine Ev.cr ?_ | refine Ev.cu ?_ | simp only[bne_self_eq_false,Bool.not_true,Bool.not_false,List.length_cons,List.length_nil] | rw[bg (by omega) (by omega)] | ((with_reducible refine Ev.eq (congrArg some ?_));rfl))
  exact h2

theorem KZ: ∀(d r:Nat),r+d=n→Ev (fun f=>bW.l0 f a (fR r (bw a) (r+1)) (r:Int)) (jT (fR n (bw a) (n+1)) (n+1)):=by
 have hal:=ha.1;intro d
 induction d with
 | zero=>
  intro r hr;obtain rfl:r=n:=by omega
  have hl:(fR r (bw a) (r+1)).length=r+1:=gh _ _;have h1:=Kq (fR r (bw a) (r+1)) (by omega);rw[hl]at h1;refine Ev.succ ?_;simp only[bW.l0]
  repeat (first | with_reducible exact Ev.now _ | dsimp only | with_reducible refine Ev.bind (h1) ?_ | refine Ev.cr ?_ | refine Ev.cu ?_ | simp only[bne_self_eq_false,Bool.not_true,Bool.not_false,List.length_cons,List.length_nil] | rw[bg (by omega) (by omega)] | with_reducible exact(h1) | ((with_reducible refine Ev.eq (congrArg some ?_));rfl))
 | succ d ih=>
  intro r hr;have h1:=ih (r+1) (by omega);have hrow:=ha.2 r (by omega);have h2:=KY n hn a r (by omega) _ h1 (r+2) 0 (by omega);rw[KT]at h2;have h3:=KS n hn a ha r (by omega) _ _ h2 r 0 (by omega);have h4:=KO n hn a ha hw r (by omega) _ _ _ h3 r 0 (by omega);have e1:lD a r (0+2)= [1,wrap64 (-(rd (aG a (r:Int)) (r:Int)))]:=by
   show[wrap64 1,wrap64 (-(bw a r r))]=_
   rw[show wrap64 1=1 from bg (by decide) (by decide)]
   rfl
  have e2:iV a r 0 0= []:=rfl;rw[e1,e2]at h4;refine Ev.succ ?_;simp only[bW.l0]
  repeat (first | with_reducible exact Ev.now _ | dsimp only | refine Ev.cr ?_ | refine Ev.cu ?_ | simp only[bne_self_eq_false,Bool.not_true,Bool.not_false,List.length_cons,List.length_nil] | rw[bg (by omega) (by omega)] | ((with_reducible refine Ev.eq (congrArg some ?_));rfl))
  exact h4

theorem La:Ev (fun f=>bW.f f a) (jT (fR n (bw a) (n+1)) (n+1)):=by
 have h:=KZ n hn a ha hw n 0 (by omega);have e:fR 0 (bw a) (0+1)= [1]:=by
  show[wrap64 1]= [1]
  rw[bg (by decide) (by decide)]
 unfold bW.f;rw[e]at h;exact h

end
/-- Each column f before k that has another one, p f, to lean on: less t f times that one. -/
def gE (p:Nat→Nat) (t:Nat→Int) (m:Nat→Nat→Int) (k:Nat) (i f:Nat):Int:=if f<k∧p f≠f then m i f - t f*m i (p f) else m i f

theorem Lc (n:Nat) (p:Nat→Nat) (t:Nat→Int) (m:Nat→Nat→Int) (hp: ∀f,f<n→p f<n) (Ba: ∀f,f<n→p (p f)=p f): ∀k,k≤n→cR n (gE p t m k)=cR n m:=by
 intro k
 induction k with
 | zero=>
  intro _;refine qo n _ _ (fun i f _ _=> ?_);unfold gE;rw[if_neg (by omega)]
 | succ k ih=>
  intro hk;have h0:=ih (by omega)
  by_cases e:p k=k
  ·rw[← h0]
   refine qo n _ _ (fun i f _ _=> ?_);unfold gE
   by_cases c:f<k∧p f≠f
   ·rw[if_pos c,if_pos ⟨by omega,c.2⟩]
   ·rw[if_neg c,if_neg (fun z=> ?_)]
    by_cases e2:f=k
    ·exact z.2 (e2▸e)
    ·exact c ⟨by omega,z.2⟩
  ·have h1:=wz n (gE p t m k) k 1 (-t k) (fun i=>gE p t m k i k) (fun i=>gE p t m k i (p k)) (by omega)
   rw[wv,h0]at h1;have h2:cR n (dx (gE p t m k) k (fun i=>gE p t m k i (p k)))=0:=by
    refine AW (p:=k) (q:=p k) (by omega) (hp k (by omega)) (fun z=>e z.symm) (fun i=> ?_);unfold dx;rw[if_pos rfl,if_neg e]
   rw[h2,Int.mul_zero,Int.add_zero,Int.one_mul]at h1;rw[← h1];refine qo n _ _ (fun i f _ _=> ?_);unfold dx
   by_cases e2:f=k
   ·rw[if_pos e2,e2]
    have a1:gE p t m (k+1) i k=m i k - t k*m i (p k):=if_pos ⟨by omega,e⟩;have a2:gE p t m k i k=m i k:=if_neg (by omega);have a3:gE p t m k i (p k)=m i (p k):=if_neg (fun z=>z.2 (Ba k (by omega)))
    show gE p t m (k+1) i k=1*gE p t m k i k+ -t k*gE p t m k i (p k)
    rw[a1,a2,a3,Int.neg_mul]
    omega
   ·rw[if_neg e2]
    unfold gE
    by_cases c:f<k∧p f≠f
    ·rw[if_pos c,if_pos ⟨by omega,c.2⟩]
    ·rw[if_neg c,if_neg (fun z=>c ⟨by omega,z.2⟩)]

theorem E6 {n:Nat} {f:Nat→Int} (h: ∀i,i<n→0≤f i) {i:Nat} (hi:i<n):f i≤Sm n f:=by
 induction n with
 | zero=>omega
 | succ n ih=>
  have h1:0≤Sm n f:=mY (fun i hi=>h i (by omega));have h2:=h n (by omega);unfold Sm
  by_cases e:i=n
  ·rw[e];omega
  ·have:=ih (fun i hi=>h i (by omega)) (by omega)
   omega

/-- The same function of u has the same coefficients. -/
theorem E7 (n:Nat) (x a b:Nat→Nat→Int) (h: ∀u:Int,cR n (xu x u)=cR n (fun i k=>a i k+u*b i k)) (m:Nat):ch n x m=dc n a b m:=by
 by_cases hm:n+1≤m
 ·rw[show ch n x m=0 from kJ n _ _ hm,kJ n _ _ hm]
 have:=AX (n+1) (fun m=>ch n x m - dc n a b m) (fun u _=>by
  have h1:=h u;have h2:=(tZ n a b).2.1 u;simp only at h2;rw[rZ,h2]at h1;rw[bJ (g:=fun m=>ch n x m*u ^ m+(-1)*(dc n a b m*u ^ m)) (fun m _=>by grind),gu,eA]
  omega) m (by omega)
 omega

theorem Ld (n:Nat) (x a b:Nat→Nat→Int) (h: ∀u:Int,cR n (xu x u)=cR n (fun i k=>a i k+u*b i k)) (m:Nat):ab (ch n x m)≤Pr n (cs n a b):=by
 rw[E7 n x a b h m]
 by_cases hm:n+1≤m
 ·rw[kJ n _ _ hm]
  exact AY (fun i _=>E1 n a b i)
 ·exact Int.le_trans (E6 (f:=fun i=>ab (dc n a b i)) (fun i _=>ko _) (by omega)) (tZ n a b).2.2

/-- The columns behind the steps, of 1 - u x. -/
theorem Le (n:Nat) (p:Nat→Nat) (t:Nat→Int) (x:Nat→Nat→Int) (hp: ∀f,f<n→p f<n) (Ba: ∀f,f<n→p (p f)=p f) (m:Nat):ab (ch n x m)≤Pr n (cs n (gE p t fc n) (gE p t (ng x) n)):=by
 refine Ld n x _ _ (fun u=> ?_) m;rw[← Lc n p t (xu x u) hp Ba n (Nat.le_refl _)];refine qo n _ _ (fun i f _ hf=> ?_);unfold gE xu
 by_cases c:f<n∧p f≠f
 ·rw[if_pos c,if_pos c,if_pos c]
  grind
 ·rw[if_neg c,if_neg c,if_neg c]

/-- A product of factors, 20 at at most eight places, else 4. -/
theorem Lh (n:Nat) (q:Nat→Bool):Pr n (fun i=>if q i then 20 else 4)=4 ^ n*5 ^ (Sm n (fun i=>if q i then 1 else 0)).toNat∧0≤Sm n (fun i=>if q i then 1 else 0):=by
 induction n with
 | zero=>exact⟨rfl,Int.le_refl _⟩
 | succ n ih=>
  obtain⟨h1,h2⟩:=ih;unfold Pr Sm;rw[h1];simp only
  by_cases c:q n=true
  ·rw[if_pos c,if_pos c]
   refine⟨?_,by omega⟩;rw[show(Sm n (fun i=>if q i then 1 else 0)+1).toNat=(Sm n (fun i=>if q i then 1 else 0)).toNat+1 by omega,Int.pow_succ,Int.pow_succ];generalize (4:Int) ^ n=x;generalize (5:Int) ^ _=y
   grind
  ·rw[if_neg c,if_neg c,Int.add_zero]
   refine⟨?_,h2⟩;rw[Int.pow_succ];generalize (4:Int) ^ n=x;generalize (5:Int) ^ _=y
   grind
/-- The product of two series. -/
def cw (f g:Nat→Int) (n:Nat):Int:=Sm (n+1) (fun i=>f i*g (n - i))

theorem Lj: ∀(n:Nat) (f:Nat→Int),Sm (n+1) f=Sm (n+1) (fun i=>f (n - i)):=by
 intro n
 induction n with
 | zero=>intro f;rfl
 | succ n ih=>
  intro f;rw[lC (n+1) (fun i=>f (n+1 - i))]
  show Sm (n+1) f+f (n+1)=f (n+1 - 0)+Sm (n+1) (fun i=>f (n+1 - (i+1)))
  rw[ih f,Int.add_comm]
  congr 1
  exact bJ (fun i _=>by rw[Nat.add_sub_add_right])

theorem mo (f g:Nat→Int) (n:Nat):cw f g n=cw g f n:=by
 unfold cw;rw[Lj];refine bJ (fun i hi=> ?_);rw[show n - (n - i)=i by omega,Int.mul_comm]

theorem Ll (a:Nat→Nat→Int): ∀n,Sm (n+1) (fun k=>Sm (k+1) (fun i=>a i (k - i)))=Sm (n+1) (fun i=>Sm (n - i+1) (fun j=>a i j)):=by
 intro n
 induction n with
 | zero=>rfl
 | succ n ih=>
  show Sm (n+1) (fun k=>Sm (k+1) (fun i=>a i (k - i)))+(Sm (n+1) (fun i=>a i (n+1 - i))+a (n+1) (n+1 - (n+1)))=Sm (n+1) (fun i=>Sm (n+1 - i+1) (fun j=>a i j))+Sm (n+1 - (n+1)+1) (fun j=>a (n+1) j)
  rw[ih,Nat.sub_self];have e:Sm (n+1) (fun i=>Sm (n+1 - i+1) (fun j=>a i j))=Sm (n+1) (fun i=>Sm (n - i+1) (fun j=>a i j))+Sm (n+1) (fun i=>a i (n+1 - i)):=by
   rw[← gu];refine bJ (fun i hi=> ?_);rw[show n+1 - i=n - i+1 by omega]
   rfl
  rw[e]
  show _=_+(0+a (n+1) 0)
  omega

theorem wB (f g h:Nat→Int) (n:Nat):cw (cw f g) h n=cw f (cw g h) n:=by
 unfold cw;rw[bJ (g:=fun k=>Sm (k+1) (fun i=>f i*(g (k - i)*h (n - i - (k - i))))) (fun k hk=> ?_)]
 ·rw[Ll (fun i j=>f i*(g j*h (n - i - j)))]
  exact bJ (fun i _=>eA _ _ _)
 ·rw[← jE]
  refine bJ (fun i hi=> ?_);rw[show n - i - (k - i)=n - k by omega,Int.mul_assoc]

theorem qp {f f' g g':Nat→Int} {n:Nat} (hf: ∀i,i≤n→f i=f' i) (hg: ∀i,i≤n→g i=g' i):cw f g n=cw f' g' n:=
 bJ (fun i hi=>by rw[hf i (by omega),hg (n - i) (by omega)])

theorem Lm (f g h:Nat→Int) (n:Nat):cw f (fun i=>g i+h i) n=cw f g n+cw f h n:=by
 unfold cw;rw[← gu];exact bJ (fun i _=>Int.mul_add _ _ _)

/-- One. -/
def c1 (n:Nat):Int:=if n=0 then 1 else 0

theorem E8 (f:Nat→Int) (n:Nat):cw c1 f n=f n:=by
 unfold cw;rw[lC,bJ (g:=fun _=>0) (fun i _=>by show(if i+1=0 then (1:Int) else 0)*_=0;rw[if_neg (by omega),Int.zero_mul]),j9]
 show(if 0=0 then (1:Int) else 0)*f (n - 0)+0=f n
 rw[if_pos rfl,Nat.sub_zero]
 omega

theorem Lo (f:Nat→Int) (n:Nat):cw f c1 n=f n:=by rw[mo,E8]

/-- u times the derivative. -/
def dd (f:Nat→Int) (n:Nat):Int:=(n:Int)*f n

theorem E9 (f g:Nat→Int) (n:Nat):dd (cw f g) n=cw (dd f) g n+cw f (dd g) n:=by
 unfold dd cw;rw[← eA,← gu];refine bJ (fun i hi=> ?_);rw[show(n:Int)=(i:Int)+((n - i:Nat):Int) by omega]
 grind

theorem Bc (f g:Nat→Int) (n:Nat):cw f (fun i=> -g i) n= -cw f g n:=by
 have:cw f (fun i=> -g i) n=(-1)*cw f g n:=by
  unfold cw;rw[← eA];refine bJ (fun i _=> ?_)
  grind
 omega

/-- A series with the logarithm's derivative -P, and its reciprocal. -/
theorem Lp (f z P:Nat→Int) (hf: ∀n,dd f n= - cw P f n) (hz: ∀n,cw f z n=c1 n) (n:Nat):dd z n=cw P z n:=by
 have h0: ∀n,dd (cw f z) n=0:=fun n=>by
  unfold dd;rw[hz];unfold c1
  by_cases c:n=0
  ·rw[c];simp
  ·rw[if_neg c,Int.mul_zero]
 have h1: ∀n,cw f (dd z) n=P n:=fun n=>by
  have h2:=h0 n;rw[E9]at h2;have h3:cw (dd f) z n= - P n:=by
   rw[mo,qp (g':=fun i=> -cw P f i) (fun _ _=>rfl) (fun i _=>hf i),Bc,mo,wB,qp (g':=c1) (fun _ _=>rfl) (fun i _=>hz i),Lo]
  omega
 have h4:cw z (cw f (dd z)) n=dd z n:=by
  rw[← wB,qp (f':=c1) (fun i _=>by rw[mo];exact hz i) (fun _ _=>rfl),E8]
 rw[← h4,qp (fun _ _=>rfl) (fun i _=>h1 i),mo]

/-- The solution of n z n = sum P j z (n - j): bounded by powers if P is. -/
theorem Fa (z P:Nat→Int) (b:Int) (hb:0≤b) (K:Nat) (h0:z 0=1∨z 0= -1) (U7:P 0=0) (hP: ∀j,1≤j→j≤K→ab (P j)≤b ^ j) (s:Int) (hs:s=1∨s= -1) (hz: ∀n,n≤K→dd z n=s*cw P z n): ∀n,n≤K→ab (z n)≤b ^ n:=by
 intro n
 induction n using Nat.strongRecOn with
 | _ n ih=>
  intro hn
  by_cases c:n=0
  ·subst c
   rw[Int.pow_zero];unfold ab;rcases h0 with h | h<;>rw[h]<;>decide
  ·have h1:=hz n hn
   have h2:ab (dd z n)≤Sm (n+1) (fun j=>ab (P j)*ab (z (n - j))):=by
    have e:ab (dd z n)=ab (cw P z n):=by
     rw[h1,pg];rcases hs with h | h<;>rw[h]<;>exact Int.one_mul _
    rw[e];have: ∀k,ab (Sm k (fun i=>P i*z (n - i)))≤Sm k (fun j=>ab (P j)*ab (z (n - j))):=by
     intro k
     induction k with
     | zero=>exact Int.le_refl _
     | succ k U8=>
      show ab (Sm k (fun i=>P i*z (n - i))+P k*z (n - k))≤Sm k (fun j=>ab (P j)*ab (z (n - j)))+ab (P k)*ab (z (n - k))
      have h3:=yH (Sm k (fun i=>P i*z (n - i))) (P k*z (n - k));rw[pg]at h3
      omega
    exact this (n+1)
   rw[lC,U7]at h2;have h3:Sm n (fun i=>ab (P (i+1))*ab (z (n - (i+1))))≤n*b ^ n:=rT (fun i hi=>by
    have a1:=hP (i+1) (by omega) (by omega);have a2:=ih (n - (i+1)) (by omega) (by omega);have a3:ab (P (i+1))*ab (z (n - (i+1)))≤b ^ (i+1)*ab (z (n - (i+1))):=Int.mul_le_mul_of_nonneg_right a1 (ko _);have a4:b ^ (i+1)*ab (z (n - (i+1)))≤b ^ (i+1)*b ^ (n - (i+1)):=Int.mul_le_mul_of_nonneg_left a2 (Int.pow_nonneg hb);have a5:b ^ (i+1)*b ^ (n - (i+1))=b ^ n:=by
     rw[← Int.pow_add,show i+1+(n - (i+1))=n by omega]
    omega)
   have h4:ab (dd z n)=(n:Int)*ab (z n):=by
    unfold dd;rw[pg]
    rfl
   rw[h4]at h2;have h5:(n:Int)*ab (z n)≤(n:Int)*b ^ n:=by
    have:ab 0*ab (z (n - 0))=0:=by
     show 0*_=0
     exact Int.zero_mul _
    omega
   exact Int.le_of_mul_le_mul_left h5 (by omega)
/-- The trace of a to the power j, for j at least 1. -/
def pt (n:Nat) (a:Nat→Nat→Int) (j:Nat):Int:=if j=0 then 0 else tr n (pw n a (j - 1))

theorem Lq (n:Nat) (a:Nat→Nat→Int): ∀(p i k:Nat),i<n→k<n→mp n a (p+1) i k=pw n a p i k:=by
 intro p
 induction p with
 | zero=>
  intro i k hi hk
  show Sm n (fun q=>fc i q*a q k)=a i k
  rw[bJ (g:=fun q=>(if q=i then 1 else 0)*a q k) (fun q _=> ?_),mc n (fun q=>a q k) hi];unfold fc
  by_cases c:i=q
  ·rw[if_pos c,if_pos c.symm]
  ·rw[if_neg c,if_neg (fun z=>c z.symm)]
 | succ p ih=>
  intro i k hi hk;exact bJ (fun q hq=>by rw[ih i q hi hq])

theorem Lr (n:Nat) (a:Nat→Nat→Int) (m:Nat):tn n a m=Sm (m+1) (fun t=>ch n a t*pt n a (m+1 - t)):=by
 unfold tn;rw[bJ (g:=fun k=>Sm (m+1) (fun t=>ch n a t*mp n a (m - t+1) k k)) (fun k hk=> ?_),ke]
 ·refine bJ (fun t ht=> ?_)
  rw[eA]
  congr 1
  unfold pt tr;rw[if_neg (by omega),show m+1 - t - 1=m - t by omega];exact bJ (fun k hk=>Lq n a (m - t) k k hk hk)
 ·rw[bJ (g:=fun i=>Sm (m+1) (fun t=>ch n a t*(mp n a (m - t) k i*a i k))) (fun i hi=>by
   rw[E5 n a m k i hk hi,← jE];exact bJ (fun t _=>Int.mul_assoc _ _ _)),ke]
  exact bJ (fun t _=>eA _ _ _)

theorem Ls (n:Nat) (a:Nat→Nat→Int) (m:Nat):((m+1:Nat):Int)*ch n a (m+1)= - tn n a m:=by
 by_cases c:m<n+1
 ·exact E3 n a m c
 ·rw[show ch n a (m+1)=0 from kJ n _ _ (by omega),Int.mul_zero]
  unfold tn;rw[bJ (g:=fun _=>0) (fun k hk=>by
   rw[bJ (g:=fun _=>0) (fun i _=>by rw[yJ n a m k i hk (by omega),Int.zero_mul]),j9]),j9]
  rfl

theorem Bd (n:Nat) (a:Nat→Nat→Int) (m:Nat):dd (ch n a) m= - cw (pt n a) (ch n a) m:=by
 match m with
 | 0=>
  show((0:Nat):Int)*_= -(0+pt n a 0*ch n a 0)
  unfold pt;rw[if_pos rfl];simp
 | m+1=>
  show((m+1:Nat):Int)*ch n a (m+1)=_
  rw[Ls,Lr,mo];unfold cw
  show _= -(Sm (m+1) (fun i=>ch n a i*pt n a (m+1 - i))+ch n a (m+1)*pt n a (m+1 - (m+1)))
  rw[Nat.sub_self,show pt n a 0=0 from if_pos rfl,Int.mul_zero,Int.add_zero]
theorem Lt (l:List Int) (hl:l.length≤1048576): ∀(i:Nat),i≤l.length→Ev (fun k=>jU.l0 k (l.take i)) (jT l i):=by
 intro i;have hc: ∀x:List Int,x.length≤1048576→n9.f x=some x:=fun x hx=>if_pos (by omega)
 induction i with
 | zero=>
  intro hi;refine Ev.succ ?_;simp only[jU.l0];rw[List.take_zero]
  repeat (first | with_reducible exact Ev.now _ | dsimp only | with_reducible refine Ev.bind (Ev.eq (hc _ (by simp))) ?_ | refine Ev.cr ?_ | refine Ev.cu ?_ | simp only[bne_self_eq_false,Bool.not_true,Bool.not_false,List.length_cons,List.length_nil] | rw[bg (by omega) (by omega)] | with_reducible exact(Ev.eq (hc _ (by simp))) | ((with_reducible refine Ev.eq (congrArg some ?_));rfl))
 | succ i ih=>
  intro hi;refine Ev.succ ?_;simp only[jU.l0];have e:(l.take (i+1)).length=i+1:=by simp only[List.length_take];omega
  rw[e,bg (by omega) (by omega),show((i+1:Nat):Int) - 1=i by omega];have e2:rd (l.take (i+1)) (i:Int)=rd l (i:Int):=by rw[lA (by omega),lA (by omega),List.getElem_take]
  have e3:(l.take (i+1)).take i=l.take i:=by rw[List.take_take,Nat.min_eq_left (by omega)]
  rw[e2,show((i:Int)).toNat=i from rfl,e3];unfold jT
  by_cases h:rd l (i:Int)=0
  ·rw[if_pos h]
   repeat (first | with_reducible exact Ev.now _ | dsimp only | refine Ev.cr ?_ | refine Ev.cu ?_ | simp only[bne_self_eq_false,Bool.not_true,Bool.not_false,List.length_cons,List.length_nil] | rw[bg (by omega) (by omega)] | ((with_reducible refine Ev.eq (congrArg some ?_));rfl))
   exact ih (by omega)
  ·rw[if_neg h]
   repeat (first | with_reducible exact Ev.now _ | dsimp only | with_reducible refine Ev.bind (Ev.eq (hc (l.take (i+1)) (by omega))) ?_ | refine Ev.cr ?_ | refine Ev.cu ?_ | simp only[bne_self_eq_false,Bool.not_true,Bool.not_false,List.length_cons,List.length_nil] | rw[bg (by omega) (by omega)] | with_reducible exact(Ev.eq (hc (l.take (i+1)) (by omega))) | ((with_reducible refine Ev.eq (congrArg some ?_));rfl))

theorem Lu (l:List Int) (hl:l.length≤1048576):Ev (fun k=>jU.f k l) (jT l l.length):=by
 unfold jU.f;have:=Lt l hl _ (Nat.le_refl _);rw[List.take_length]at this;exact this
/-- What is multiplied by the rows, ahead of step k. -/
def pre (n:Nat) (a:Nat→Nat→Int):Nat→Nat→Nat→Int
 | 0=>fun _ _=>0
 | k+1=>nc n a k

def wm (n:Nat) (x:Nat→Nat→Int):List (List Int):=ofFn n (fun i j=>wrap64 (x i j))

theorem Fb {n i j:Nat} (x:Nat→Nat→Int) (hi:i<n) (hj:j<n):bw (wm n x) i j=wrap64 (x i j):=nF _ hi hj

theorem Fc (n:Nat) (a:List (List Int)) (x:Nat→Nat→Int):ofFn n (part a (wm n x) n)=wm n (mul n (bw a) x):=by
 refine nG (fun i j hi hj=> ?_);unfold part;exact EI (fun k hk=>by rw[Fb x hk hj,wq])

theorem Lw (n:Nat) (a:Nat→Nat→Int):zeros n=wm n (pre n a 0):=by
 unfold wm ofFn zeros;apply List.ext_getElem
 ·simp
 ·intro i h1 h2
  simp only[List.getElem_replicate,List.getElem_map,List.getElem_range];rw[← wj];exact kI (fun j _=>(bg (x:=0) (by decide) (by decide)).symm)

/-- The next ones: the product, and the last coefficient in the diagonal. -/
theorem Lx (n:Nat) (a:Nat→Nat→Int) (k i j:Nat) (hi:i<n) (hj:j<n):nc n a k i j=mul n a (pre n a k) i j+if i=j then ch n a k else 0:=by
 rw[wA n a k i j hi hj]
 congr 1
 match k with
 | 0=>
  rw[if_pos rfl];unfold mul pre;rw[bJ (g:=fun _=>0) (fun q _=>Int.mul_zero _),j9]
 | k+1=>
  rw[if_neg (by omega),Nat.add_sub_cancel];exact(AZ n a k i j hi hj).symm

section
variable (n:Nat) (hn:n≤1000) (a:List (List Int)) (ha:Sq n a)

/-- While the diagonal is told before s. -/
def mq (k s:Nat):List (List Int):=ofFn n (fun i j=>wrap64 (mul n (bw a) (pre n (bw a) k) i j+if i=j∧i<s then ch n (bw a) k else 0))

theorem Ly (k:Nat):mq n a k 0=wm n (mul n (bw a) (pre n (bw a) k)):=by
 refine nG (fun i j hi hj=> ?_);rw[if_neg (by omega),Int.add_zero]

theorem LA (k:Nat):mq n a k n=wm n (nc n (bw a) k):=by
 refine nG (fun i j hi hj=> ?_);rw[Lx n (bw a) k i j hi hj]
 by_cases c:i=j
 ·rw[if_pos c,if_pos ⟨c,hi⟩]
 ·rw[if_neg c,if_neg (fun z=>c z.1)]

theorem Fe (k s:Nat) (hs:s<n):aG (mq n a k s) (s:Int)=rowOf n (fun j=>wrap64 (mul n (bw a) (pre n (bw a) k) s j)):=by
 unfold mq;rw[wk _ hs];refine kI (fun j _=> ?_);rw[if_neg (by omega),Int.add_zero]

theorem LB (k s:Nat) (hs:s<n):(mq n a k s).set s ((aG (mq n a k s) (s:Int)).set s (wrap64 (rd (aG (mq n a k s) (s:Int)) (s:Int)+wrap64 (ch n (bw a) k))))=mq n a k (s+1):=by
 rw[Fe n a k s hs,jO _ hs,yC _ _ hs];unfold mq;rw[EA _ _ hs];refine nG (fun i j hi hj=> ?_)
 by_cases e:i=s
 ·subst e
  rw[if_pos rfl]
  by_cases e2:j=i
  ·rw[if_pos e2,nY,if_pos ⟨e2.symm,by omega⟩,e2]
  ·rw[if_neg e2,if_neg (fun z=>e2 z.1.symm),Int.add_zero]
 ·rw[if_neg e]
  by_cases c:i=j∧i<s
  ·rw[if_pos c,if_pos ⟨c.1,by omega⟩]
  ·rw[if_neg c,if_neg (fun z=>c ⟨z.1,by omega⟩)]

include hn ha

theorem LC (k:Nat) (hk:k<n) (res:List Int)
  (h:Ev (fun f=>(ek.f f a (wm n (nc n (bw a) k))).bind fun t=>(jF.f f t).bind fun t2=>if ((k+1:Nat):Int)=0 then none else if (fR n (bw a) (k+1)).length<17592186044416 then eU.l0 f a (fR n (bw a) (k+1)++[wrap64 (Int.tdiv (wrap64 (-t2)) ((k+1:Nat):Int))]) (wm n (nc n (bw a) k)) (wrap64 (((k+1:Nat):Int)+1)) else none) res):
  ∀(d s:Nat),s+d=n→Ev (fun f=>eU.l1 f a (fR n (bw a) (k+1)) (mq n a k s) ((k+1:Nat):Int) (n:Int) (s:Int)) res:=by
 have hlc:(fR n (bw a) (k+1)).length=k+1:=gh _ _;intro d
 induction d with
 | zero=>
  intro s hs;obtain rfl:s=n:=by omega
  rw[← LA]at h;refine Ev.succ ?_;simp only[eU.l1];exact Ev.neg (by omega) h
 | succ d ih=>
  intro s hs;have h1:=ih (s+1) (by omega);have hl:(mq n a k s).length=n:=ql _ _;have hrow:(aG (mq n a k s) (s:Int)).length=n:=by rw[Fe n a k s (by omega),gh]
  have e2:rd (fR n (bw a) (k+1)) (k:Int)=wrap64 (ch n (bw a) k):=jO _ (by omega);rw[← LB n a k s (by omega)]at h1;refine Ev.succ ?_;simp only[eU.l1];rw[bg (x:=((k+1:Nat):Int) - 1) (by omega) (by omega),show((k+1:Nat):Int) - 1=(k:Int) by omega,e2,dD (i:=s) (by omega),Int.toNat_natCast]
  repeat (first | with_reducible exact Ev.now _ | dsimp only | refine Ev.cr ?_ | refine Ev.cu ?_ | simp only[bne_self_eq_false,Bool.not_true,Bool.not_false,List.length_cons,List.length_nil] | rw[bg (by omega) (by omega)] | ((with_reducible refine Ev.eq (congrArg some ?_));rfl))
  exact h1

theorem LF (hb: ∀k,1≤k→k≤n→ab ((k:Int)*ch n (bw a) k)≤9223372036854775807): ∀(d k:Nat),k+d=n→Ev (fun f=>eU.l0 f a (fR n (bw a) (k+1)) (wm n (pre n (bw a) k)) ((k+1:Nat):Int)) (jT (fR n (bw a) (n+1)) (n+1)):=by
 have hal:=ha.1;intro d
 induction d with
 | zero=>
  intro k hk;obtain rfl:k=n:=by omega
  have hl:(fR k (bw a) (k+1)).length=k+1:=gh _ _;have h1:=Lu (fR k (bw a) (k+1)) (by omega);rw[hl]at h1;refine Ev.succ ?_;simp only[eU.l0]
  repeat (first | with_reducible exact Ev.now _ | dsimp only | with_reducible refine Ev.bind (h1) ?_ | refine Ev.cr ?_ | refine Ev.cu ?_ | simp only[bne_self_eq_false,Bool.not_true,Bool.not_false,List.length_cons,List.length_nil] | rw[bg (by omega) (by omega)] | with_reducible exact(h1) | ((with_reducible refine Ev.eq (congrArg some ?_));rfl))
 | succ d ih=>
  intro k hk;have h1:=ih (k+1) (by omega);have hlc:(fR n (bw a) (k+1)).length=k+1:=gh _ _;have hp:=AP n hn a (wm n (pre n (bw a) k)) ha (o9 n _);rw[Fc,← Ly]at hp;have Be:=AP n hn a (wm n (nc n (bw a) k)) ha (o9 n _);rw[Fc]at Be;have ht:=trace n hn (wm n (mul n (bw a) (nc n (bw a) k))) (o9 n _);have et:wrap64 (-wrap64 (tr n (bw (wm n (mul n (bw a) (nc n (bw a) k))))))=((k+1:Nat):Int)*ch n (bw a) (k+1):=by
   have e1:wrap64 (tr n (bw (wm n (mul n (bw a) (nc n (bw a) k)))))=wrap64 (tn n (bw a) k):=by
    unfold tr;rw[EI (g:=fun i=>mul n (bw a) (nc n (bw a) k) i i) (fun i hi=>by rw[Fb _ hi hi,wrap_wrap])];unfold tn;rw[bJ (fun i hi=>AZ n (bw a) k i i hi hi)]
    rfl
   have U7:=E3 n (bw a) k (by omega);have hb1:=hb (k+1) (by omega) (by omega);rw[e1,EH,← U7];unfold ab at hb1;exact bg (by omega) (by omega)
  have eq:wrap64 (Int.tdiv (((k+1:Nat):Int)*ch n (bw a) (k+1)) ((k+1:Nat):Int))=wrap64 (ch n (bw a) (k+1)):=by
   rw[Int.mul_tdiv_cancel_left _ (by omega)]
  have hl2:(mq n a k 0).length=n:=ql _ _;have h2:=LC n hn a ha k (by omega) (jT (fR n (bw a) (n+1)) (n+1)) (by
   refine Ev.bind Be (Ev.bind ht ?_);rw[et,eq,dD (i:=k+1) (by omega)];have e3:fR n (bw a) (k+1)++[wrap64 (ch n (bw a) (k+1))]=fR n (bw a) (k+1+1):=ue (k+1) (fun m=>wrap64 (ch n (bw a) m));rw[e3]
   repeat (first | with_reducible exact Ev.now _ | dsimp only | refine Ev.cr ?_ | refine Ev.cu ?_ | simp only[bne_self_eq_false,Bool.not_true,Bool.not_false,List.length_cons,List.length_nil] | rw[bg (by omega) (by omega)] | ((with_reducible refine Ev.eq (congrArg some ?_));rfl))
   exact h1) n 0 (by omega)
  refine Ev.succ ?_;simp only[eU.l0];refine Ev.pos (by omega) (Ev.bind hp ?_);rw[hl2];exact h2

theorem LG (hb: ∀k,1≤k→k≤n→ab ((k:Int)*ch n (bw a) k)≤9223372036854775807):Ev (fun f=>eU.f f a) (jT (fR n (bw a) (n+1)) (n+1)):=by
 have h:=LF n hn a ha hb n 0 (by omega);have e:fR n (bw a) (0+1)= [1]:=by
  show[wrap64 (ch n (bw a) 0)]= [1]
  rw[show ch n (bw a) 0=1 from(uc n fc (ng (bw a))).trans (yK n),bg (by decide) (by decide)]
 unfold eU.f;rw[ha.1];refine Ev.bind (AG (n:Int) (by omega) (by omega)) ?_;rw[Int.toNat_natCast,Lw n (bw a)];rw[e]at h;exact h

end
theorem Es {d e:Nat} (f:Nat→Int) (EX:d≤e) (h: ∀i,i<e→d≤i→f i=0):Sm e f=Sm d f:=by
 induction e with
 | zero=>rw[show d=0 by omega]
 | succ e ih=>
  by_cases c:d=e+1
  ·rw[c]
  ·show Sm e f+f e=_
   rw[ih (by omega) (fun i hi hd=>h i (by omega) hd),h e (by omega) (by omega),Int.add_zero]

def flip (e:Nat):Nat:=if e % 2=0 then e+1 else e - 1

theorem flip_flip (e:Nat):flip (flip e)=e:=by
 unfold flip
 split<;>split<;>omega

theorem yL {e m:Nat} (h:e<2*m):flip e<2*m:=by
 unfold flip
 split<;>omega

/-- The edge matrix. -/
def tm (b:Nat→Nat) (e f:Nat):Int:=if b f=b (flip e)∧f≠flip e then 1 else 0

theorem LH (P:Nat→Prop) [DecidablePred P] (n:Nat) (h: ∀f g,f<n→g<n→P f→P g→f=g):Sm n (fun f=>if P f then 1 else 0)≤1:=by
 induction n with
 | zero=>exact(by decide:(0:Int)≤1)
 | succ n ih=>
  have h1:=ih (fun f g hf hg=>h f g (by omega) (by omega))
  show Sm n (fun f=>if P f then 1 else 0)+(if P n then 1 else 0)≤1
  by_cases c:P n
  ·have e:Sm n (fun f=>if P f then (1:Int) else 0)=0:=by
    rw[bJ (g:=fun _=>0) (fun f hf=>if_neg (fun z=> ?_)),j9];have:=h f n (by omega) (by omega) z c
    omega
   rw[e,if_pos c]
   omega
  ·rw[if_neg c]
   omega

/-- The first place with the same number. -/
def rep (t:Nat→Nat) (q:Nat):Nat:=(List.range (q+1)).findIdx (fun j=>t j == t q)

theorem uf (t:Nat→Nat) (q:Nat):rep t q≤q∧t (rep t q)=t q∧∀j,j<rep t q→t j≠t q:=by
 have hx: ∃x∈List.range (q+1),(fun j=>t j == t q) x=true:=⟨q,List.mem_range.2 (by omega),by simp⟩;have h1:=List.findIdx_lt_length_of_exists hx;rw[List.length_range]at h1;refine⟨by unfold rep;omega, ?_,fun j hj e=> ?_⟩
 ·have:=List.findIdx_getElem (xs:=List.range (q+1)) (p:=fun j=>t j == t q) (w:=by rw[List.length_range];exact h1)
  rw[List.getElem_range]at this;exact eq_of_beq this
 ·have h2:=List.not_of_lt_findIdx (p:=fun j=>t j == t q) (xs:=List.range (q+1)) (i:=j) hj
  rw[List.getElem_range,e]at h2;simp at h2

theorem LI (t:Nat→Nat) (q:Nat):rep t (rep t q)=rep t q:=by
 obtain⟨h1,h2,h3⟩:=uf t q;obtain⟨g1,g2,g3⟩:=uf t (rep t q);rcases Nat.lt_or_ge (rep t (rep t q)) (rep t q) with c | c
 ·exact absurd (g2.trans h2) (h3 _ c)
 ·omega

/-- As many first places as numbers, at most. -/
theorem LJ (t:Nat→Nat) (V n:Nat) (ht: ∀e,e<n→t e<V):Sm n (fun f=>if rep t f=f then 1 else 0)≤V:=by
 have e:Sm n (fun f=>if rep t f=f then (1:Int) else 0)=Sm V (fun v=>Sm n (fun f=>if rep t f=f∧t f=v then 1 else 0)):=by
  rw[ke];refine bJ (fun f hf=> ?_)
  by_cases c:rep t f=f
  ·rw[if_pos c,bJ (g:=fun v=>(if v=t f then 1 else 0)*1) (fun v _=> ?_),mc V (fun _=>1) (ht f hf)]
   by_cases c2:t f=v
   ·rw[if_pos ⟨c,c2⟩,if_pos c2.symm];rfl
   ·rw[if_neg (fun z=>c2 z.2),if_neg (fun z=>c2 z.symm)];rfl
  ·rw[if_neg c,bJ (g:=fun _=>0) (fun v _=>if_neg (fun z=>c z.1)),j9]
 rw[e];have:=rT (n:=V) (f:=fun v=>Sm n (fun f=>if rep t f=f∧t f=v then (1:Int) else 0)) (b:=1) (fun v _=>LH _ n (fun f g _ _ hf hg=>by
  obtain⟨f1,f2,f3⟩:=uf t f;obtain⟨g1,g2,g3⟩:=uf t g;rw[hf.1]at f3;rw[hg.1]at g3;rcases Nat.lt_trichotomy f g with c | c | c
  ·exact absurd (hf.2.trans hg.2.symm) (g3 f c)
  ·exact c
  ·exact absurd (hg.2.trans hf.2.symm) (f3 g c)))
 omega

section
variable (m:Nat) (hm:m≤10) (t:Nat→Nat) (s:Nat→Int) (hs: ∀f,s f=1∨s f= -1)

/-- The edge matrix with signs. -/
def sm (e f:Nat):Int:=s f*tm t e f

theorem LK (e f:Nat):tm t e f=0∨tm t e f=1:=by
 unfold tm
 split
 ·exact .inr rfl
 ·exact .inl rfl

def is (a b:Nat):Int:=if a=b then 1 else 0

theorem ug (n a:Nat) (h:a<n):Sm n (fun i=>is i a)=1:=by
 rw[← mc n (fun _=>1) h];exact bJ (fun i _=>(Int.mul_one _).symm)

theorem Bf (e f:Nat):tm t e f=(if t f=t (flip e) then 1 else 0) - is e (flip f):=by
 unfold tm is;have g1:(f=flip e)=(e=flip f):=propext ⟨fun z=>by rw[z,flip_flip],fun z=>by rw[z,flip_flip]⟩
 by_cases c:e=flip f
 ·rw[if_pos c,if_neg (fun z=>z.2 (by rw[g1];exact c)),if_pos (by rw[c,flip_flip])]
  rfl
 ·rw[if_neg c]
  by_cases c2:t f=t (flip e)
  ·rw[if_pos c2,if_pos ⟨c2,by rw[ne_eq,g1];exact c⟩];rfl
  ·rw[if_neg c2,if_neg (fun z=>c2 z.1)];rfl

include hs

theorem LL (f:Nat) (hf:f<2*m) (hm:m≤10):cs (2*m) (gE (rep t) (fun f=>s f*s (rep t f)) fc (2*m)) (gE (rep t) (fun f=>s f*s (rep t f)) (ng (sm t s)) (2*m)) f≤if rep t f=f then 20 else 4:=by
 obtain⟨r1,r2,r3⟩:=uf t f
 by_cases c:rep t f=f
 ·rw[if_pos c]
  have e: ∀i,i<2*m→ab (gE (rep t) (fun f=>s f*s (rep t f)) fc (2*m) i f)+ab (gE (rep t) (fun f=>s f*s (rep t f)) (ng (sm t s)) (2*m) i f)≤1+is i f+ -1*is i (flip f):=by
   intro i hi;unfold gE;rw[if_neg (fun z=>z.2 c),if_neg (fun z=>z.2 c)];have hx:ab (ng (sm t s) i f)=tm t i f:=by
    unfold ng sm;have:=LK t i f;rcases hs f with e1 | e1<;>rcases this with e2 | e2<;>rw[e1,e2]<;>rfl
   rw[hx,Bf];unfold fc is ab
   split<;>split<;>split<;>omega
  refine Int.le_trans (tY e) ?_;rw[gu,gu,eA,ug _ _ hf,ug _ _ (yL hf)];have h2:Sm (2*m) (fun _=>(1:Int))≤((2*m:Nat):Int)*1:=rT (fun _ _=>Int.le_refl _)
  omega
 ·rw[if_neg c]
  have e: ∀i,i<2*m→ab (gE (rep t) (fun f=>s f*s (rep t f)) fc (2*m) i f)+ab (gE (rep t) (fun f=>s f*s (rep t f)) (ng (sm t s)) (2*m) i f)≤(is i f+is i (rep t f))+(is i (flip f)+is i (flip (rep t f))):=by
   intro i hi;unfold gE;rw[if_pos ⟨hf,c⟩,if_pos ⟨hf,c⟩];have hx:ab (ng (sm t s) i f - s f*s (rep t f)*ng (sm t s) i (rep t f))≤is i (flip f)+is i (flip (rep t f)):=by
    unfold ng sm;rw[Bf,Bf,r2];generalize (if t f=t (flip i) then (1:Int) else 0)=z;have a1:is i (flip f)=0∨is i (flip f)=1:=by unfold is;split<;>simp
    have a2:is i (flip (rep t f))=0∨is i (flip (rep t f))=1:=by unfold is;split<;>simp
    unfold ab;rcases hs f with e1 | e1<;>rcases hs (rep t f) with e2 | e2<;>rcases a1 with e3 | e3<;>rcases a2 with e4 | e4<;>rw[e1,e2,e3,e4]<;>omega
   show ab (fc i f - s f*s (rep t f)*fc i (rep t f))+ab (ng (sm t s) i f - s f*s (rep t f)*ng (sm t s) i (rep t f))≤_
   have hy:ab (fc i f - s f*s (rep t f)*fc i (rep t f))≤is i f+is i (rep t f):=by
    unfold fc is ab;rcases hs f with e1 | e1<;>rcases hs (rep t f) with e2 | e2<;>rw[e1,e2]<;>split<;>split<;>omega
   omega
  refine Int.le_trans (tY e) ?_;rw[gu,gu,gu,ug _ _ hf,ug _ _ (by omega),ug _ _ (yL hf),ug _ _ (yL (by omega))]
  decide

theorem LN (hm:m≤10) (ht: ∀e,e<2*m→t e<8) (k:Nat) (hk:k≤2*m):ab ((k:Int)*ch (2*m) (sm t s) k)≤9223372036854775807:=by
 have h1:=Le (2*m) (rep t) (fun f=>s f*s (rep t f)) (sm t s) (fun f hf=>by have:=(uf t f).1;omega) (fun f _=>LI t f) k;have h2:Pr (2*m) (cs (2*m) (gE (rep t) (fun f=>s f*s (rep t f)) fc (2*m)) (gE (rep t) (fun f=>s f*s (rep t f)) (ng (sm t s)) (2*m)))≤Pr (2*m) (fun i=>if decide (rep t i=i) then 20 else 4):=E0 (fun i _=>E1 _ _ _ _) (fun i hi=>by
  have:=LL m t s hs i hi hm
  by_cases c:rep t i=i
  ·rw[if_pos c]at this
   rw[if_pos (decide_eq_true c)];exact this
  ·rw[if_neg c]at this
   rw[if_neg (by simpa using c)];exact this)
 obtain⟨p1,p2⟩:=Lh (2*m) (fun i=>decide (rep t i=i));rw[p1]at h2;have h3:=LJ t 8 (2*m) ht;have h3':Sm (2*m) (fun i=>if decide (rep t i=i)=true then (1:Int) else 0)≤8:=by
  rw[bJ (g:=fun f=>if rep t f=f then (1:Int) else 0) (fun i _=>by simp)];exact h3
 generalize Sm (2*m) (fun i=>if decide (rep t i=i)=true then (1:Int) else 0)=x at*;have h4:(5:Int) ^ x.toNat≤390625:=by
  have: ∀i:Fin 9,(5:Int) ^ i.val≤390625:=by decide
  exact this ⟨x.toNat,by omega⟩
 have h5:(4:Int) ^ (2*m)≤1099511627776:=by
  have: ∀i:Fin 21,(4:Int) ^ i.val≤1099511627776:=by decide
  exact this ⟨2*m,by omega⟩
 have h6:(4:Int) ^ (2*m)*5 ^ x.toNat≤1099511627776*5 ^ x.toNat:=Int.mul_le_mul_of_nonneg_right h5 (Int.pow_nonneg (by decide));rw[pg];have h7:ab (k:Int)≤20:=by unfold ab;omega
 have h8:ab (k:Int)*ab (ch (2*m) (sm t s) k)≤20*ab (ch (2*m) (sm t s) k):=Int.mul_le_mul_of_nonneg_right h7 (ko _)
 omega

end
theorem Bg (n:Nat) (a b:Nat→Nat→Int) (h: ∀i j,i<n→j<n→a i j=b i j) (m:Nat):ch n a m=ch n b m:=
 E7 n a fc (ng b) (fun u=>qo n _ _ (fun i j hi hj=>by
  unfold xu ng;rw[h i j hi hj])) m

/-- The vertex where a directed edge begins. -/
def tv (l:List (List Int)) (e:Nat):Nat:=(tl l e).toNat

section
variable {n:Int} {l:List (List Int)} (h:eN n l=true)
include h

theorem Bh {e:Nat} (he:e<2*l.length):0≤tl l e∧tl l e<n:=by
 obtain⟨e2,a,b,ea,eb,ha,hb⟩:=AF h (show e / 2<l.length by omega);unfold tl
 split
 ·rw[eb];omega
 ·rw[ea];omega

theorem LO {e:Nat} (he:e<2*l.length):(tv l e:Int)<n:=by
 have:=Bh h he;unfold tv
 omega

omit h in
theorem Eo (e:Nat):hd l e=tl l (flip e):=by
 unfold hd tl flip
 by_cases c:e % 2=0
 ·rw[if_neg (show ¬e % 2=1 by omega),if_pos c,if_pos (by omega),show(e+1) / 2=e / 2 by omega]
 ·rw[if_pos (show e % 2=1 by omega),if_neg c,if_neg (by omega),show(e - 1) / 2=e / 2 by omega]

theorem LP {p q:Nat} (hp:p<2*l.length) (hq:q<2*l.length):W l p q=tm (tv l) p q:=by
 have h1:=Bh h hq;have h2:=Bh h (yL hp);have e:(next l p q=true)=(tv l q=tv l (flip p)∧q≠flip p):=propext (by
  rw[tV,Eo];unfold tv
  show _∧q≠flip p↔_
  constructor
  ·rintro⟨a,b⟩;exact⟨by rw[a],b⟩
  ·rintro⟨a,b⟩;exact⟨by omega,b⟩)
 unfold W tm;simp only[e]

/-- The reciprocal, as a list. -/
def iL (l:List (List Int)):List Int:=jT (fR (2*l.length) (W l) (2*l.length+1)) (2*l.length+1)

omit h in
theorem Ff (n:Nat) (a b:Nat→Nat→Int) (h: ∀i j,i<n→j<n→a i j=b i j) (k:Nat):fR n a k=fR n b k:=kI (fun m _=>by rw[Bg n a b h m])

theorem Fg (k:Nat) (hk:k≤2*l.length):ab ((k:Int)*ch (2*l.length) (W l) k)≤9223372036854775807:=by
 obtain⟨g1,g2,g3⟩:=iD h;have h1:=LN l.length (tv l) (fun _=>1) (fun _=> .inl rfl) g3 (fun e he=>by have:=LO h he;omega) k hk;rw[Bg _ (sm (tv l) (fun _=>1)) (W l) (fun i j hi hj=>by
  rw[LP h hi hj];unfold sm;rw[Int.one_mul]) k]at h1
 exact h1

theorem Fh:Ev (fun k=>oh.f k n l) (iL l):=by
 obtain⟨g1,g2,g3⟩:=iD h;have h1:=LG (2*l.length) (by omega) (ofFn (2*l.length) (W l)) (o9 _ _) (fun k _ hk=>by
  rw[Bg _ _ (W l) (fun i j hi hj=>nF _ hi hj)];exact Fg h k hk)
 rw[Ff _ _ (W l) (fun i j hi hj=>nF _ hi hj),← yD]at h1;unfold oh.f iL;refine Ev.bind (EE h) ?_;exact Ev.bind h1 (Ev.now _)

end

section
variable {n:Int} {l:List (List Int)} (h:eN n l=true)
include h

theorem LQ:Ev (fun k=>pz.f k n l) (iL l):=by
 obtain⟨g1,g2,g3⟩:=iD h;have h1:=La (2*l.length) (by omega) (ofFn (2*l.length) (W l)) (o9 _ _) (fun i j hi hj=>by
  rw[nF _ hi hj];have:=rV l i j;exact bg (by omega) (by omega))
 rw[Ff _ _ (W l) (fun i j hi hj=>nF _ hi hj),← yD]at h1;unfold pz.f iL;refine Ev.bind (EC h) ?_;exact Ev.bind h1 (Ev.now _)

end

section
variable {n:Int} {l:List (List Int)} (h:eN n l=true)
include h

theorem Fj:(iL l).length≤21:=by
 obtain⟨g1,g2,g3⟩:=iD h;have:(iL l).length≤_:=Ko _ _;rw[show(fR (2*l.length) (W l) (2*l.length+1)).length=2*l.length+1 from gh _ _]at this
 omega

end
theorem LR (l:List Int): ∀n j:Nat,rd (jT l n) (j:Int)=if j<n then rd l (j:Int) else 0:=by
 intro n
 induction n with
 | zero=>intro j;rfl
 | succ n ih=>
  intro j;unfold jT
  by_cases c:rd l (n:Int)=0
  ·rw[if_pos c,ih j]
   by_cases c1:j<n
   ·rw[if_pos c1,if_pos (by omega)]
   ·rw[if_neg c1]
    by_cases c2:j<n+1
    ·rw[if_pos c2,show j=n by omega,c]
    ·rw[if_neg c2]
  ·rw[if_neg c]
   simp only[rd,List.getD_eq_getElem?_getD,Int.toNat_natCast,List.getElem?_take]
   split<;>rfl

/-- The coefficients of the reciprocal. -/
def rf (l:List (List Int)):Nat→Int:=ch (2*l.length) (W l)

theorem LS {n:Int} {l:List (List Int)} (h:eN n l=true) (m:Nat): -9223372036854775807≤rf l m∧rf l m≤9223372036854775807:=by
 unfold rf
 by_cases c:m≤2*l.length
 ·by_cases c0:m=0
  ·rw[c0,show ch (2*l.length) (W l) 0=1 from(uc _ fc (ng (W l))).trans (yK _)]
   decide
  ·have:=Fg h m c
   rw[pg]at this;have h2:1*ab (ch (2*l.length) (W l) m)≤ab (m:Int)*ab (ch (2*l.length) (W l) m):=Int.mul_le_mul_of_nonneg_right (by unfold ab;omega) (ko _);unfold ab at this h2
   omega
 ·rw[show ch (2*l.length) (W l) m=0 from kJ _ _ _ (by omega)]
  decide

theorem we {n:Int} {l:List (List Int)} (h:eN n l=true) (j:Nat):rd (iL l) (j:Int)=rf l j:=by
 unfold iL;rw[LR]
 by_cases c:j<2*l.length+1
 ·rw[if_pos c]
  unfold fR;rw[jO _ c];have:=LS h j;unfold rf at*;exact bg (by omega) (by omega)
 ·rw[if_neg c]
  exact(kJ _ _ _ (by omega)).symm

theorem yy (l:List (List Int)):rf l 0=1:=(uc _ fc (ng (W l))).trans (yK _)

theorem Fk (l:List (List Int)) (N:Nat): ∀(p i k:Nat),0≤pw N (W l) p i k∧pw N (W l) p i k≤(N:Int) ^ p:=by
 intro p
 induction p with
 | zero=>
  intro i k;rw[Int.pow_zero];exact rV l i k
 | succ p ih=>
  intro i k;refine⟨mY (fun q _=>Int.mul_nonneg (ih i q).1 (rV l q k).1), ?_⟩;have:mul N (pw N (W l) p) (W l) i k≤N*(N:Int) ^ p:=rT (fun q _=>by
   have h1:=ih i q;have h2:=rV l q k;have:pw N (W l) p i q*W l q k≤pw N (W l) p i q*1:=Int.mul_le_mul_of_nonneg_left h2.2 h1.1
   omega)
  rw[Int.pow_succ,Int.mul_comm ((N:Int) ^ p)];exact this

theorem Fm (l:List (List Int)) (hl:l.length≤10) (j:Nat) (hj:1≤j):0≤pt (2*l.length) (W l) j∧pt (2*l.length) (W l) j≤20 ^ j:=by
 unfold pt tr;rw[if_neg (by omega)];refine⟨mY (fun i _=>(Fk l _ _ i i).1), ?_⟩;have h1:Sm (2*l.length) (fun i=>pw (2*l.length) (W l) (j - 1) i i)≤(2*l.length:Nat)*20 ^ (j - 1):=rT (fun i _=>by
  refine Int.le_trans (Fk l _ _ i i).2 ?_;have: ∀(q:Nat),((2*l.length:Nat):Int) ^ q≤20 ^ q:=by
   intro q
   induction q with
   | zero=>exact Int.le_refl _
   | succ q ih=>
    rw[Int.pow_succ,Int.pow_succ];have a1:((2*l.length:Nat):Int) ^ q*((2*l.length:Nat):Int)≤20 ^ q*((2*l.length:Nat):Int):=Int.mul_le_mul_of_nonneg_right ih (by omega);have a2:(20:Int) ^ q*((2*l.length:Nat):Int)≤20 ^ q*20:=Int.mul_le_mul_of_nonneg_left (by omega) (Int.pow_nonneg (by decide))
    omega
  exact this _)
 have h2:((2*l.length:Nat):Int)*20 ^ (j - 1)≤20*20 ^ (j - 1):=Int.mul_le_mul_of_nonneg_right (by omega) (Int.pow_nonneg (by decide));have h3:(20:Int) ^ j=20*20 ^ (j - 1):=by
  obtain⟨q,rfl⟩: ∃q,j=q+1:=⟨j - 1,by omega⟩;rw[Nat.add_sub_cancel,Int.pow_succ,Int.mul_comm]
 omega

theorem Fo {l:List (List Int)} (hl:l.length≤10) (K:Nat): ∀n,n≤K→ab (rf l n)≤20 ^ n:=
 Fa (rf l) (pt (2*l.length) (W l)) 20 (by decide) K (.inl (yy l)) (if_pos rfl) (fun j h1 _=>by
  have:=Fm l hl j h1;unfold ab
  omega) (-1) (.inr rfl) (fun n _=>by
  have:=Bd (2*l.length) (W l) n;unfold rf
  omega)

/-- The first k + 1 numbers of 1 divided by a series that begins with 1. -/
def zl (f:Nat→Int):Nat→List Int
 | 0=>[1]
 | k+1=>zl f k++[-(Sm (k+1) (fun i=>f (i+1)*rd (zl f k) ((k - i:Nat):Int)))]

def zt (f:Nat→Int) (n:Nat):Int:=rd (zl f n) (n:Int)

theorem Fp (f:Nat→Int) (k:Nat):(zl f k).length=k+1:=by
 induction k with
 | zero=>rfl
 | succ k ih=>simp[zl,ih]

theorem LU (a b:List Int) (j:Nat) (h:j<a.length):rd (a++b) (j:Int)=rd a (j:Int):=by
 simp only[rd,List.getD_eq_getElem?_getD,Int.toNat_natCast];rw[List.getElem?_append_left h]

theorem LV (a:List Int) (x:Int) (j:Nat) (h:a.length=j):rd (a++[x]) (j:Int)=x:=by
 simp only[rd,List.getD_eq_getElem?_getD,Int.toNat_natCast];rw[List.getElem?_append_right (by omega),h];simp

theorem LW (f:Nat→Int): ∀k j,j≤k→rd (zl f k) (j:Int)=zt f j:=by
 intro k
 induction k with
 | zero=>intro j hj;rw[show j=0 by omega];rfl
 | succ k ih=>
  intro j hj
  by_cases c:j=k+1
  ·subst c;rfl
  ·rw[← ih j (by omega)]
   exact LU _ _ j (by rw[Fp];omega)

theorem Bi (f:Nat→Int) (k:Nat):zt f (k+1)= -(Sm (k+1) (fun i=>f (i+1)*zt f (k - i))):=by
 have h1:zt f (k+1)= -(Sm (k+1) (fun i=>f (i+1)*rd (zl f k) ((k - i:Nat):Int))):=LV _ _ (k+1) (Fp f k);rw[h1]
 congr 1
 exact bJ (fun i hi=>by rw[LW f k _ (by omega)])

theorem Et (f:Nat→Int) (h0:f 0=1) (n:Nat):cw f (zt f) n=c1 n:=by
 unfold cw;rw[lC,h0,Nat.sub_zero]
 match n with
 | 0=>rfl
 | k+1=>
  rw[Bi];have e:Sm (k+1) (fun i=>f (i+1)*zt f (k+1 - (i+1)))=Sm (k+1) (fun i=>f (i+1)*zt f (k - i)):=bJ (fun i _=>by rw[Nat.add_sub_add_right]);rw[e]
  show _=0
  omega

theorem Bj {l:List (List Int)} (hl:l.length≤10) (K:Nat): ∀n,n≤K→ab (zt (rf l) n)≤20 ^ n:=
 Fa (zt (rf l)) (pt (2*l.length) (W l)) 20 (by decide) K (.inl rfl) (if_pos rfl) (fun j h1 _=>by
  have:=Fm l hl j h1;unfold ab
  omega) 1 (.inl rfl) (fun n _=>by
  rw[Int.one_mul];exact Lp (rf l) (zt (rf l)) (pt (2*l.length) (W l)) (fun n=>Bd _ _ n) (Et _ (yy l)) n)

/-- The sums on the way. -/
theorem Fq {l:List (List Int)} (hl:l.length≤10) (n:Nat) (hn:n≤10) (k:Nat) (hk:k≤n):ab (Sm k (fun i=>rf l (i+1)*zt (rf l) (n - (i+1))))≤102400000000000:=by
 have h20:(20:Int) ^ n≤10240000000000:=by
  have: ∀i:Fin 11,(20:Int) ^ i.val≤10240000000000:=by decide
  exact this ⟨n,by omega⟩
 have h1: ∀k,k≤n→ab (Sm k (fun i=>rf l (i+1)*zt (rf l) (n - (i+1))))≤k*20 ^ n:=by
  intro k
  induction k with
  | zero=>intro _;simp[Sm,ab]
  | succ k ih=>
   intro hk;have h2:=ih (by omega)
   show ab (Sm k (fun i=>rf l (i+1)*zt (rf l) (n - (i+1)))+rf l (k+1)*zt (rf l) (n - (k+1)))≤_
   have h3:=yH (Sm k (fun i=>rf l (i+1)*zt (rf l) (n - (i+1)))) (rf l (k+1)*zt (rf l) (n - (k+1)));rw[pg]at h3;have a1:=Fo hl n (k+1) hk;have a2:=Bj hl n (n - (k+1)) (by omega);have a3:ab (rf l (k+1))*ab (zt (rf l) (n - (k+1)))≤20 ^ (k+1)*ab (zt (rf l) (n - (k+1))):=Int.mul_le_mul_of_nonneg_right a1 (ko _);have a4:(20:Int) ^ (k+1)*ab (zt (rf l) (n - (k+1)))≤20 ^ (k+1)*20 ^ (n - (k+1)):=Int.mul_le_mul_of_nonneg_left a2 (Int.pow_nonneg (by decide));have a5:(20:Int) ^ (k+1)*20 ^ (n - (k+1))=20 ^ n:=by
    rw[← Int.pow_add,show k+1+(n - (k+1))=n by omega]
   rw[show((k+1:Nat):Int)=k+1 from rfl,Int.add_mul]
   omega
 have h2:=h1 k hk;have h3:(k:Int)*20 ^ n≤10*20 ^ n:=Int.mul_le_mul_of_nonneg_right (by omega) (Int.pow_nonneg (by decide))
 omega
theorem LX (f:Nat→Int) {d e:Nat} (EX:d≤e) (h: ∀i,d≤i→f i=0):Sm e f=Sm d f:=by
 induction e with
 | zero=>rw[show d=0 by omega]
 | succ e ih=>
  by_cases c:d=e+1
  ·rw[c]
  ·show Sm e f+f e=_
   rw[ih (by omega),h e (by omega),Int.add_zero]

/-- f has the logarithm's derivative -P. -/
def LD (f P:Nat→Int):Prop:=∀n,dd f n= - cw P f n

theorem Ft {f g P Q:Nat→Int} (hf:LD f P) (hg:LD g Q):LD (cw f g) (fun i=>P i+Q i):=by
 intro n;have e1:cw (dd f) g n= - cw P (cw f g) n:=by
  rw[qp (f':=fun i=> -cw P f i) (fun i _=>hf i) (fun _ _=>rfl),mo,Bc,mo,wB]
 have e2:cw f (dd g) n= - cw Q (cw f g) n:=by
  rw[qp (g':=fun i=> -cw Q g i) (fun _ _=>rfl) (fun i _=>hg i),Bc,← wB,qp (f':=cw Q f) (fun i _=>mo _ _ _) (fun _ _=>rfl),wB]
 rw[E9,e1,e2,mo (fun i=>P i+Q i),Lm,mo _ P,mo _ Q]
 omega

theorem Fu:LD c1 (fun _=>0):=by
 intro n;unfold dd cw;rw[bJ (g:=fun _=>0) (fun i _=>Int.zero_mul _),j9];unfold c1
 by_cases c:n=0
 ·rw[c];rfl
 ·rw[if_neg c,Int.mul_zero];rfl

theorem Bk {f P Q:Nat→Int} (h:LD f P) (e: ∀i,P i=Q i):LD f Q:=by
 intro n;rw[h n,qp (fun i _=>e i) (fun _ _=>rfl)]

/-- 1 - u^d. -/
def qq (d n:Nat):Int:=if n=0 then 1 else if n=d then -1 else 0

def ps (d i:Nat):Int:=if i=0 then 0 else if i % d=0 then (d:Int) else 0

theorem LY (d:Nat) (hd:0<d) (g:Nat→Int) (n:Nat):cw (qq d) g n=g n - (if d≤n then g (n - d) else 0):=by
 unfold cw;rw[lC]
 show 1*g (n - 0)+_=_
 rw[Nat.sub_zero,Int.one_mul]
 by_cases c:d≤n
 ·rw[if_pos c,bJ (g:=fun i=>(if i=d - 1 then 1 else 0)*(-g (n - (i+1)))) (fun i hi=> ?_),mc n (fun i=> -g (n - (i+1))) (show d - 1<n by omega),show d - 1+1=d by omega]
  ·omega
  ·unfold qq
   rw[if_neg (by omega)]
   by_cases c2:i=d - 1
   ·rw[if_pos (by omega),if_pos c2];omega
   ·rw[if_neg (by omega),if_neg c2,Int.zero_mul,Int.zero_mul]
 ·rw[if_neg c,bJ (g:=fun _=>0) (fun i hi=> ?_),j9]
  ·omega
  ·unfold qq
   rw[if_neg (by omega),if_neg (by omega),Int.zero_mul]

theorem LZ (d:Nat) (hd:0<d):LD (qq d) (ps d):=by
 intro n;rw[mo,LY d hd];unfold dd qq ps
 by_cases c0:n=0
 ·subst c0
  rw[if_pos rfl,if_pos rfl]
  split<;>simp
 ·rw[if_neg c0,if_neg c0]
  by_cases c1:n=d
  ·subst c1
   rw[if_pos rfl,Nat.mod_self,if_pos rfl,if_pos (Nat.le_refl _),Nat.sub_self,if_pos rfl]
   omega
  ·rw[if_neg c1]
   by_cases c2:d≤n
   ·rw[if_pos c2,if_neg (show ¬n - d=0 by omega),show(n - d) % d=n % d from(Nat.mod_eq_sub_mod c2).symm]
    simp
   ·rw[if_neg c2,if_neg (show ¬n % d=0 by rw[Nat.mod_eq_of_lt (by omega)];exact c0)]
    simp

/-- (1 - u^d)^c. -/
def fp (d:Nat):Nat→Nat→Int
 | 0=>c1
 | c+1=>cw (qq d) (fp d c)

theorem L0 (d:Nat) (hd:0<d): ∀c:Nat,LD (fp d c) (fun i=>(c:Int)*ps d i):=by
 intro c
 induction c with
 | zero=>exact Bk Fu (fun i=>by simp)
 | succ c ih=>exact Bk (Ft (LZ d hd) ih) (fun i=>by rw[show((c+1:Nat):Int)=1+(c:Int) by omega,Int.add_mul,Int.one_mul])

theorem L3 (d:Nat): ∀c:Nat,fp d c 0=1:=by
 intro c
 induction c with
 | zero=>rfl
 | succ c ih=>
  show Sm 1 (fun i=>qq d i*fp d c (0 - i))=1
  show 0+qq d 0*fp d c 0=1
  rw[ih]
  rfl

/-- The product of (1 - u^j)^(c j), j from 1 to m. -/
def uh (c:Nat→Nat):Nat→Nat→Int
 | 0=>c1
 | m+1=>cw (fp (m+1) (c (m+1))) (uh c m)

/-- Its logarithm's derivative, less its sign. -/
def Qd (c:Nat→Nat) (m i:Nat):Int:=Sm m (fun j=>(c (j+1):Int)*ps (j+1) i)

theorem Fv (c:Nat→Nat): ∀m,LD (uh c m) (Qd c m):=by
 intro m
 induction m with
 | zero=>exact Fu
 | succ m ih=>exact Bk (Ft (L0 (m+1) (by omega) (c (m+1))) ih) (fun i=>by
   show _=Qd c m i+_
   rw[Int.add_comm])

theorem Fw (c:Nat→Nat): ∀m,uh c m 0=1:=by
 intro m
 induction m with
 | zero=>rfl
 | succ m ih=>
  show 0+fp (m+1) (c (m+1)) 0*uh c m 0=1
  rw[ih,L3]
  rfl

theorem L5 {d i:Nat} (h:i<d):ps d i=0:=by
 unfold ps
 by_cases c:i=0
 ·rw[if_pos c]
 ·rw[if_neg c,if_neg (by rw[Nat.mod_eq_of_lt h];exact c)]

theorem Fx (c:Nat→Nat) (m:Nat):Qd c m 0=0:=by
 unfold Qd;rw[bJ (g:=fun _=>0) (fun j _=>by rw[show ps (j+1) 0=0 from rfl,Int.mul_zero]),j9]

theorem Fy (c:Nat→Nat) {m i:Nat} (h:i≤m):Qd c m i=Qd c i i:=by
 unfold Qd;exact LX _ h (fun j hj=>by rw[L5 (by omega),Int.mul_zero])

/-- Two series with derivatives that agree up to n agree up to n. -/
theorem Fz {f g P Q:Nat→Int} (hf:LD f P) (hg:LD g Q) (f0:f 0=g 0) (P0:P 0=0) (Q0:Q 0=0) (K:Nat) (hPQ: ∀i,1≤i→i≤K→P i=Q i): ∀n,n≤K→f n=g n:=by
 intro n
 induction n using Nat.strongRecOn with
 | _ n ih=>
  intro hn
  by_cases c:n=0
  ·rw[c,f0]
  ·have h1:=hf n
   have h2:=hg n;have e:cw P f n=cw Q g n:=by
    unfold cw;rw[lC,lC,P0,Q0,Int.zero_mul,Int.zero_mul]
    congr 1
    refine bJ (fun i hi=> ?_);rw[hPQ (i+1) (by omega) (by omega),ih (n - (i+1)) (by omega) (by omega)]
   unfold dd at h1 h2;rw[e]at h1;exact Int.eq_of_mul_eq_mul_left (show(n:Int)≠0 by omega) (h1.trans h2.symm)

/-- Where they agree ahead of n, n divides the difference of the derivatives there. -/
theorem L6 {f g P Q:Nat→Int} (hf:LD f P) (hg:LD g Q) (f0:f 0=1) (g0:g 0=1) (P0:P 0=0) (Q0:Q 0=0) (n:Nat) (hn:1≤n) (hPQ: ∀i,1≤i→i<n→P i=Q i):P n - Q n=(n:Int)*(g n - f n):=by
 have h0:=Fz hf hg (f0.trans g0.symm) P0 Q0 (n - 1) (fun i h1 h2=>hPQ i h1 (by omega));have h1:=hf n;have h2:=hg n;obtain⟨m,rfl⟩: ∃m,n=m+1:=⟨n - 1,by omega⟩;have e:cw P f (m+1) - P (m+1)=cw Q g (m+1) - Q (m+1):=by
  unfold cw
  show Sm (m+1) (fun i=>P i*f (m+1 - i))+P (m+1)*f (m+1 - (m+1)) - P (m+1)=Sm (m+1) (fun i=>Q i*g (m+1 - i))+Q (m+1)*g (m+1 - (m+1)) - Q (m+1)
  rw[Nat.sub_self,f0,g0,lC,lC,P0,Q0,Int.zero_mul,Int.zero_mul];have:Sm m (fun i=>P (i+1)*f (m+1 - (i+1)))=Sm m (fun i=>Q (i+1)*g (m+1 - (i+1))):=bJ (fun i hi=>by
   rw[hPQ (i+1) (by omega) (by omega),h0 (m+1 - (i+1)) (by omega)])
  rw[this]
  omega
 unfold dd at h1 h2;rw[Int.mul_sub]
 omega

section
variable (n:Nat) (a:Nat→Nat→Int)

theorem r7: ∀(q p i j:Nat),pw n a (p+q+1) i j=mul n (pw n a p) (pw n a q) i j:=by
 intro q
 induction q with
 | zero=>intro p i j;rfl
 | succ q ih=>
  intro p i j
  show mul n (pw n a (p+q+1)) a i j=_
  have h1:mul n (pw n a (p+q+1)) a i j=mul n (mul n (pw n a p) (pw n a q)) a i j:=mul_congr (fun k _=>ih p i k) (fun _ _=>rfl);rw[h1,mul_assoc']
  rfl

variable (h0: ∀i j,0≤a i j)
include h0

theorem r8: ∀(p i j:Nat),0≤pw n a p i j:=by
 intro p
 induction p with
 | zero=>exact h0
 | succ p ih=>exact fun i j=>mY (fun k _=>Int.mul_nonneg (ih i k) (h0 k j))

theorem uj (p q:Nat) {i j k:Nat} (hk:k<n):pw n a p i k*pw n a q k j≤pw n a (p+q+1) i j:=by
 rw[r7];exact E6 (f:=fun k=>pw n a p i k*pw n a q k j) (fun t _=>Int.mul_nonneg (r8 n a h0 p i t) (r8 n a h0 q t j)) hk

omit h0 in
theorem L7 {x:Int} (h:0≤x):x≤x*x:=by
 by_cases c:x=0
 ·rw[c];decide
 ·have:=Int.mul_le_mul_of_nonneg_right (show 1≤x by omega) h
  omega

omit h0 in
theorem L8 {x y:Int} (hx:0≤x) (hy:x≤y):x≤y*x:=by
 have:=L7 hx;have:=Int.mul_le_mul_of_nonneg_right hy hx
 omega

theorem mA (p r:Nat) {i:Nat} (hi:i<n) (h:pw n a r i i≤pw n a p i i):pw n a r i i≤pw n a (p+r+1) i i:=by
 have h1:=uj n a h0 p r hi (i:=i) (j:=i);have h2:=L8 (r8 n a h0 r i i) h
 omega

omit h0 in
/-- b, its odd power c: what c c has at (i, i). -/
theorem Bl (b c:Nat→Nat→Int) (hb: ∀i j,0≤b i j) (hc: ∀i j,0≤c i j) {i:Nat} (hi:i<n) (h1:b i i≤c i i) (h2: ∀j k,j<n→k<n→1≤b j k→1≤b k j→b j k≤c j k):c i i+mul n b b i i≤mul n c c i i+b i i:=by
 have e1:0≤Sm n (fun j=>(c i j*c j i+(-1)*(b i j*b j i))+(if j=i then 1 else 0)*(-(c i i*c i i - b i i*b i i))):=by
  refine mY (fun j hj=> ?_)
  by_cases c0:j=i
  ·subst c0
   rw[if_pos rfl]
   omega
  ·rw[if_neg c0,Int.zero_mul]
   by_cases cz:b i j=0∨b j i=0
   ·have:b i j*b j i=0:=by rcases cz with e | e<;>rw[e]<;>simp
    have:=Int.mul_nonneg (hc i j) (hc j i)
    omega
   ·have p1:=hb i j
    have p2:=hb j i;have q1:=h2 i j hi hj (by omega) (by omega);have q2:=h2 j i hj hi (by omega) (by omega);have:=Int.mul_le_mul q1 q2 p2 (by omega)
    omega
 rw[gu,gu,eA,mc n (fun _=> -(c i i*c i i - b i i*b i i)) hi]at e1;have e2:Sm n (fun j=>c i j*c j i)=mul n c c i i:=rfl;have e3:Sm n (fun j=>b i j*b j i)=mul n b b i i:=rfl;rw[e2,e3]at e1
 -- x (x - 1) grows
 have e4:b i i*b i i - b i i≤c i i*c i i - c i i:=by
  have hx:=hb i i
  by_cases cz:c i i=0
  ·have:b i i=0:=by omega
   rw[this,cz]
   decide
  ·have h3:b i i*(b i i - 1)≤c i i*(c i i - 1):=by
    by_cases cb:b i i=0
    ·rw[cb]
     have:=Int.mul_nonneg (hc i i) (show 0≤c i i - 1 by have:=hc i i;omega)
     omega
    ·exact Int.mul_le_mul h1 (by omega) (by omega) (by omega)
   rw[Int.mul_sub,Int.mul_sub,Int.mul_one,Int.mul_one]at h3;exact h3
 omega

theorem Bm (r:Nat) {i j:Nat} (hi:i<n) (hij:1≤pw n a r i j) (hji:1≤pw n a r j i):1≤pw n a (r+r+1) j j:=by
 have:=uj n a h0 r r hi (i:=j) (j:=j);have:=Int.mul_le_mul hji hij (by decide) (by omega)
 omega

theorem six: ∀i,i<n→pw n a 2 i i+pw n a 1 i i≤pw n a 5 i i+pw n a 0 i i:=by
 intro i hi;have nn:=r8 n a h0;have hd:=mA n a h0 1 0 hi (mA n a h0 0 0 hi (Int.le_refl _));have:=Bl n (pw n a 0) (pw n a 2) (nn 0) (nn 2) hi hd (fun j k hj hk h1 h2=>by
  have b1:1≤pw n a 1 k k:=Bm n a h0 0 hj h1 h2;have b2:pw n a 0 j k*pw n a 1 k k≤pw n a 2 j k:=uj n a h0 0 1 hk;have b3:=Int.mul_le_mul_of_nonneg_left b1 (nn 0 j k)
  omega)
 rw[← r7,← r7]at this;exact this

theorem ten: ∀i,i<n→pw n a 4 i i+pw n a 1 i i≤pw n a 9 i i+pw n a 0 i i:=by
 intro i hi;have nn:=r8 n a h0;have hd:=mA n a h0 3 0 hi (mA n a h0 2 0 hi (mA n a h0 1 0 hi (mA n a h0 0 0 hi (Int.le_refl _))));have:=Bl n (pw n a 0) (pw n a 4) (nn 0) (nn 4) hi hd (fun j k hj hk h1 h2=>by
  have b1:1≤pw n a 1 k k:=Bm n a h0 0 hj h1 h2;have b2:pw n a 0 j k*pw n a 1 k k≤pw n a 2 j k:=uj n a h0 0 1 hk;have b3:=Int.mul_le_mul_of_nonneg_left b1 (nn 0 j k);have b4:pw n a 2 j k*pw n a 1 k k≤pw n a 4 j k:=uj n a h0 2 1 hk;have b5:=Int.mul_le_mul_of_nonneg_left b1 (nn 2 j k)
  omega)
 rw[← r7,← r7]at this;exact this

theorem twelve: ∀i,i<n→pw n a 5 i i+pw n a 3 i i≤pw n a 11 i i+pw n a 1 i i:=by
 intro i hi;have nn:=r8 n a h0;have hd:=mA n a h0 3 1 hi (mA n a h0 1 1 hi (Int.le_refl _));have:=Bl n (pw n a 1) (pw n a 5) (nn 1) (nn 5) hi hd (fun j k hj hk h1 h2=>by
  have b1:1≤pw n a 3 k k:=Bm n a h0 1 hj h1 h2;have b2:pw n a 1 j k*pw n a 3 k k≤pw n a 5 j k:=uj n a h0 1 3 hk;have b3:=Int.mul_le_mul_of_nonneg_left b1 (nn 1 j k)
  omega)
 rw[← r7,← r7]at this;exact this

omit h0 in
theorem qt {b c:Nat→Nat→Int} (h: ∀i,i<n→b i i≤c i i):tr n b≤tr n c:=tY h

omit h0 in
theorem Bn {b c d e:Nat→Nat→Int} (h: ∀i,i<n→b i i+c i i≤d i i+e i i):tr n b+tr n c≤tr n d+tr n e:=by
 unfold tr;rw[← gu,← gu];exact tY h

/-- All that is asked of the traces. -/
theorem L9 (N:Nat→Int) (hN: ∀j,N j=tr n (pw n a j)):
  (∀j,0≤N j)∧N 0≤N 1∧N 0≤N 2∧N 1≤N 3∧N 0≤N 4∧N 0≤N 6∧N 3≤N 7∧N 2≤N 8∧N 0≤N 10∧N 2+N 1≤N 5+N 0∧N 4+N 1≤N 9+N 0∧N 5+N 3≤N 11+N 1:=by
 have d0: ∀(i:Nat),i<n→∀p,pw n a 0 i i≤pw n a p i i:=by
  intro i hi p
  induction p with
  | zero=>exact Int.le_refl _
  | succ p ih=>exact mA n a h0 p 0 hi ih
 simp only[hN];refine⟨fun j=>mY (fun i _=>r8 n a h0 j i i),qt n (fun i hi=>d0 i hi 1),qt n (fun i hi=>d0 i hi 2),qt n (fun i hi=>mA n a h0 1 1 hi (Int.le_refl _)),qt n (fun i hi=>d0 i hi 4),qt n (fun i hi=>d0 i hi 6),qt n (fun i hi=>mA n a h0 3 3 hi (Int.le_refl _)),qt n (fun i hi=>mA n a h0 5 2 hi (mA n a h0 2 2 hi (Int.le_refl _))),qt n (fun i hi=>d0 i hi 10),Bn n (six n a h0),Bn n (ten n a h0),Bn n (twelve n a h0)⟩

end
def muE:Nat→Int
 | 1=>1 | 2=> -1 | 3=> -1 | 4=>0 | 5=> -1 | 6=>1 | 7=> -1 | 8=>0 | 9=>0 | 10=>1 | 11=> -1 | _=>0

def pS (N:Nat→Int) (m:Nat):Int:=Sm m (fun t=>if m % (t+1)=0 then muE (m / (t+1))*N t else 0)

section
variable (N:Nat→Int) (c:Nat→Nat)

theorem Mc (h: ∀d,1≤d→d<1→(c d:Int)*(d:Int)=pS N d):Qd c 0 1=N 0 - pS N 1:=by
 clear h;simp[Qd,ps,pS,Sm,muE]

theorem Md (h: ∀d,1≤d→d<2→(c d:Int)*(d:Int)=pS N d):Qd c 1 2=N 1 - pS N 2:=by
 have h1:=h 1 (by decide) (by decide);clear h;simp[pS,Sm,muE]at h1;simp[Qd,ps,pS,Sm,muE]
 omega

theorem Me (h: ∀d,1≤d→d<3→(c d:Int)*(d:Int)=pS N d):Qd c 2 3=N 2 - pS N 3:=by
 have h1:=h 1 (by decide) (by decide);clear h;simp[pS,Sm,muE]at h1;simp[Qd,ps,pS,Sm,muE]
 omega

theorem Mh (h: ∀d,1≤d→d<4→(c d:Int)*(d:Int)=pS N d):Qd c 3 4=N 3 - pS N 4:=by
 have h1:=h 1 (by decide) (by decide);have h2:=h 2 (by decide) (by decide);clear h;simp[pS,Sm,muE]at h1 h2;simp[Qd,ps,pS,Sm,muE]
 omega

theorem Mj (h: ∀d,1≤d→d<5→(c d:Int)*(d:Int)=pS N d):Qd c 4 5=N 4 - pS N 5:=by
 have h1:=h 1 (by decide) (by decide);clear h;simp[pS,Sm,muE]at h1;simp[Qd,ps,pS,Sm,muE]
 omega

theorem Mo (h: ∀d,1≤d→d<6→(c d:Int)*(d:Int)=pS N d):Qd c 5 6=N 5 - pS N 6:=by
 have h1:=h 1 (by decide) (by decide);have h2:=h 2 (by decide) (by decide);have h3:=h 3 (by decide) (by decide);clear h;simp[pS,Sm,muE]at h1 h2 h3;simp[Qd,ps,pS,Sm,muE]
 omega

theorem Mp (h: ∀d,1≤d→d<7→(c d:Int)*(d:Int)=pS N d):Qd c 6 7=N 6 - pS N 7:=by
 have h1:=h 1 (by decide) (by decide);clear h;simp[pS,Sm,muE]at h1;simp[Qd,ps,pS,Sm,muE]
 omega

theorem Mq (h: ∀d,1≤d→d<8→(c d:Int)*(d:Int)=pS N d):Qd c 7 8=N 7 - pS N 8:=by
 have h1:=h 1 (by decide) (by decide);have h2:=h 2 (by decide) (by decide);have h4:=h 4 (by decide) (by decide);clear h;simp[pS,Sm,muE]at h1 h2 h4;simp[Qd,ps,pS,Sm,muE]
 omega

theorem Mu (h: ∀d,1≤d→d<9→(c d:Int)*(d:Int)=pS N d):Qd c 8 9=N 8 - pS N 9:=by
 have h1:=h 1 (by decide) (by decide);have h3:=h 3 (by decide) (by decide);clear h;simp[pS,Sm,muE]at h1 h3;simp[Qd,ps,pS,Sm,muE]
 omega

theorem Mv (h: ∀d,1≤d→d<10→(c d:Int)*(d:Int)=pS N d):Qd c 9 10=N 9 - pS N 10:=by
 have h1:=h 1 (by decide) (by decide);have h2:=h 2 (by decide) (by decide);have h5:=h 5 (by decide) (by decide);clear h;simp[pS,Sm,muE]at h1 h2 h5;simp[Qd,ps,pS,Sm,muE]
 omega

theorem My (h: ∀d,1≤d→d<11→(c d:Int)*(d:Int)=pS N d):Qd c 10 11=N 10 - pS N 11:=by
 have h1:=h 1 (by decide) (by decide);clear h;simp[pS,Sm,muE]at h1;simp[Qd,ps,pS,Sm,muE]
 omega

theorem MA (h: ∀d,1≤d→d<12→(c d:Int)*(d:Int)=pS N d):Qd c 11 12=N 11 - pS N 12:=by
 have h1:=h 1 (by decide) (by decide);have h2:=h 2 (by decide) (by decide);have h3:=h 3 (by decide) (by decide);have h4:=h 4 (by decide) (by decide);have h6:=h 6 (by decide) (by decide);clear h;simp[pS,Sm,muE]at h1 h2 h3 h4 h6;simp[Qd,ps,pS,Sm,muE]
 omega

theorem nx (m:Nat) (hm:1≤m∧m≤12) (h: ∀d,1≤d→d<m→(c d:Int)*(d:Int)=pS N d):Qd c (m - 1) m=N (m - 1) - pS N m:=by
 have:m=1∨m=2∨m=3∨m=4∨m=5∨m=6∨m=7∨m=8∨m=9∨m=10∨m=11∨m=12:=by omega
 rcases this with rfl | rfl | rfl | rfl | rfl | rfl | rfl | rfl | rfl | rfl | rfl | rfl
 ·exact Mc N c h
 ·exact Md N c h
 ·exact Me N c h
 ·exact Mh N c h
 ·exact Mj N c h
 ·exact Mo N c h
 ·exact Mp N c h
 ·exact Mq N c h
 ·exact Mu N c h
 ·exact Mv N c h
 ·exact My N c h
 ·exact MA N c h

theorem Aw (m:Nat) (hm:1≤m∧m≤12) (h: ∀d,1≤d→d≤m→(c d:Int)*(d:Int)=pS N d):Qd c m m=N (m - 1):=by
 have h1:=nx N c m hm (fun d a b=>h d a (by omega));have h2:=h m hm.1 (Nat.le_refl _);obtain⟨k,rfl⟩: ∃k,m=k+1:=⟨m - 1,by omega⟩;have e:Qd c (k+1) (k+1)=Qd c k (k+1)+(c (k+1):Int)*ps (k+1) (k+1):=rfl;have e2:ps (k+1) (k+1)=((k+1:Nat):Int):=by
  unfold ps;rw[if_neg (by omega),Nat.mod_self,if_pos rfl]
 rw[Nat.add_sub_cancel]at h1 ⊢;rw[e,e2,h1,h2]
 omega

theorem MB (hN:(∀j,0≤N j)∧N 0≤N 1∧N 0≤N 2∧N 1≤N 3∧N 0≤N 4∧N 0≤N 6∧N 3≤N 7∧N 2≤N 8∧N 0≤N 10∧N 2+N 1≤N 5+N 0∧N 4+N 1≤N 9+N 0∧N 5+N 3≤N 11+N 1) (m:Nat) (hm:1≤m∧m≤12):0≤pS N m:=by
 obtain⟨n0,n1,n2,n3,n4,n6,n7,n8,U7,a6,a10,yM⟩:=hN;have z0:=n0 0;have:m=1∨m=2∨m=3∨m=4∨m=5∨m=6∨m=7∨m=8∨m=9∨m=10∨m=11∨m=12:=by omega
 clear n0 hm;rcases this with rfl | rfl | rfl | rfl | rfl | rfl | rfl | rfl | rfl | rfl | rfl | rfl
 ·simp[pS,Sm,muE];omega
 ·simp[pS,Sm,muE];omega
 ·simp[pS,Sm,muE];omega
 ·simp[pS,Sm,muE];omega
 ·simp[pS,Sm,muE];omega
 ·simp[pS,Sm,muE];omega
 ·simp[pS,Sm,muE];omega
 ·simp[pS,Sm,muE];omega
 ·simp[pS,Sm,muE];omega
 ·simp[pS,Sm,muE];omega
 ·simp[pS,Sm,muE];omega
 ·simp[pS,Sm,muE];omega

end

/-- The count of prime cycles of length m. -/
def cE (N:Nat→Int) (m:Nat):Nat:=(pS N m / (m:Int)).toNat

section
variable {N f P:Nat→Int} (hN:(∀j,0≤N j)∧N 0≤N 1∧N 0≤N 2∧N 1≤N 3∧N 0≤N 4∧N 0≤N 6∧N 3≤N 7∧N 2≤N 8∧N 0≤N 10∧N 2+N 1≤N 5+N 0∧N 4+N 1≤N 9+N 0∧N 5+N 3≤N 11+N 1) (hf:LD f P) (f0:f 0=1) (P0:P 0=0) (hP: ∀j,P (j+1)=N j)
include hN hf f0 P0 hP

theorem FA: ∀m,1≤m→m≤12→(cE N m:Int)*(m:Int)=pS N m:=by
 intro m
 induction m using Nat.strongRecOn with
 | _ m ih=>
  intro h1 h12;have hq:=nx N (cE N) m ⟨h1,h12⟩ (fun d a b=>ih d b a (by omega));have hn:=L6 hf (Fv (cE N) (m - 1)) f0 (Fw _ _) P0 (Fx _ _) m h1 (fun i a b=>by
   rw[Fy (cE N) (show i≤m - 1 by omega),Aw N (cE N) i ⟨a,by omega⟩ (fun d p q=>ih d (by omega) p (by omega)),← hP (i - 1),show i - 1+1=i by omega])
  have e:P m=N (m - 1):=by
   rw[← hP (m - 1),show m - 1+1=m by omega]
  rw[hq,e]at hn;have hz:=MB N hN m ⟨h1,h12⟩;generalize uh (cE N) (m - 1) m - f m=z at hn;have hs:pS N m=(m:Int)*z:=by omega
  have hz0:0≤z:=by
   rw[hs]at hz;exact Int.nonneg_of_mul_nonneg_right hz (by omega)
  unfold cE;rw[hs,Int.mul_ediv_cancel_left _ (show(m:Int)≠0 by omega),Int.toNat_of_nonneg hz0,Int.mul_comm]

theorem QE (K:Nat) (hK:K≤12): ∀n,n≤K→uh (cE N) K n=f n:=
 Fz (Fv (cE N) K) hf ((Fw _ _).trans f0.symm) (Fx _ _) P0 K (fun i a b=>by
  rw[Fy (cE N) b,Aw N (cE N) i ⟨a,by omega⟩ (fun d p q=>FA hN hf f0 P0 hP d p (by omega)),← hP (i - 1),show i - 1+1=i by omega])

end
theorem MC (l:List (List Int)) (j:Nat):pt (2*l.length) (W l) (j+1)=eT l j:=by
 unfold pt;rw[if_neg (by omega),Nat.add_sub_cancel]
 rfl

theorem MD (l:List (List Int)):LD (rf l) (pt (2*l.length) (W l)):=Bd _ _

theorem Ax (l:List (List Int)) (m:Nat) (hm:1≤m∧m≤12):(cE (eT l) m:Int)*(m:Int)=pS (eT l) m:=
 FA (L9 (2*l.length) (W l) (fun i j=>(rV l i j).1) (eT l) (fun _=>rfl)) (MD l) (yy l) (if_pos rfl) (MC l) m hm.1 hm.2

theorem MF (l:List (List Int)) (m:Nat) (hm:1≤m∧m≤12):pS (eT l) m≤eT l (m - 1):=by
 have h1:=nx (eT l) (cE (eT l)) m hm (fun d a b=>Ax l d ⟨a,by omega⟩);have h2:0≤Qd (cE (eT l)) (m - 1) m:=mY (fun j _=>Int.mul_nonneg (by omega) (by
  unfold ps
  split
  ·exact Int.le_refl _
  ·split
   ·omega
   ·exact Int.le_refl _))
 omega

theorem MG (n:Nat) (h:n≤12):mu n=muE n:=by
 have: ∀i:Fin 13,mu i.val=muE i.val:=by decide
 exact this ⟨n,by omega⟩

theorem MH (l:List (List Int)) (m:Nat) (hm:m≤12):mb l m m=pS (eT l) m:=by
 unfold mb pS;refine bJ (fun t ht=> ?_);rw[MG _ (Nat.le_trans (Nat.div_le_self _ _) hm)]

theorem Jq {l:List (List Int)} (hl:l.length≤10) (m:Nat) (hm:1≤m∧m≤12):ju l m=(cE (eT l) m:Int):=by
 have h1:=Ax l m hm;have h2:=MF l m hm;have h3:=yz l hl (show m - 1≤12 by omega);unfold ju;rw[MH l m hm.2];have h4:0≤(cE (eT l) m:Int)*(m:Int):=Int.mul_nonneg (by omega) (by omega);have h5:(cE (eT l) m:Int)*1≤(cE (eT l) m:Int)*(m:Int):=Int.mul_le_mul_of_nonneg_left (by omega) (by omega);rw[bg (x:=pS (eT l) m) (by omega) (by omega),← h1,Int.tdiv_eq_ediv_of_nonneg h4,Int.mul_ediv_cancel _ (by omega),bg (by omega) (by omega)]

/-- What both sides answer. -/
def nE (n:Int) (l:List (List Int)) (a:Int):List Int×Int:=if iE n l a 1=0 then ((List.range a.toNat).map (fun i=>ju l (i+1)),0) else ([],iE n l a 1)

theorem Jy (n:Int) (l:List (List Int)) (a:Int) (hl:Mod l):(nE n l a).1.length≤1048576∧Ev (fun k=>gx.f k n l a) (nE n l a)∧Ev (fun k=>r9.f k n l a) (nE n l a):=by
 unfold gx.f r9.f nE;have h1:=AU n l a 1 hl;have h2:=AE n l a hl
 by_cases c:iE n l a 1=0
 ·obtain⟨hg,ha,hb⟩:=qj c
  obtain⟨k,rfl⟩:=Int.eq_ofNat_of_zero_le (show 0≤a by omega);have e:kG n l (k:Int)=(traces l k,0):=by
   unfold kG;rw[if_pos c,Int.toNat_natCast]
  rw[e]at h2;rw[if_pos c,Int.toNat_natCast];refine⟨?_, ?_, ?_⟩
  ·show((List.range k).map (fun i=>ju l (i+1))).length≤_
   simp
   omega
  ·exact Ev.bind h1 (Ev.pos c (Ev.bind (EN hg k (by omega)) (Kh l k (by omega))))
  ·exact Ev.bind h2 (Ev.pos rfl (Ev.bind (J4 l k (by omega)) (Ev.now _)))
 ·have e:kG n l a=([],iE n l a 1):=by
   unfold kG;rw[if_neg c]
  rw[e]at h2;rw[if_neg c];exact⟨by simp,Ev.bind h1 (Ev.neg c (Ev.now _)),Ev.bind h2 (Ev.neg c (Ev.now _))⟩

theorem MI (n:Int) (l:List (List Int)) (a:Int) (hl:Mod l):Ev (fun k=>pE.f k n l a) (iE n l a 0):=by
 have h1:=yA n l hl;unfold pE.f si.f iE;rw[jP]
 by_cases hg:eN n l=true
 ·rw[hg]at h1
  rw[if_pos hg]
  by_cases c:0≤a∧a≤10
  ·rw[decide_eq_true c,if_pos c]
   exact Ev.bind h1 (Ev.pos rfl (Ev.bind (Ev.now _) (Ev.pos rfl (Ev.now _))))
  ·rw[decide_eq_false c,if_neg c]
   exact Ev.bind h1 (Ev.pos rfl (Ev.bind (Ev.now _) (Ev.neg (by decide) (Ev.now _))))
 ·rw[Bool.not_eq_true]at hg
  rw[hg]at h1;rw[if_neg (by rw[hg];decide)];exact Ev.bind h1 (Ev.neg (by decide) (Ev.now _))

section
variable {n:Int} {l:List (List Int)} (h:eN n l=true) (k:Nat) (hk:k≤10)
include h hk

theorem MJ: ∀(d m:Nat),m+d=k→Ev (fun f=>gy.l0 f (k:Int) (iL l) (rowOf (m+1) (zt (rf l))) ((m+1:Nat):Int)) (rowOf (k+1) (zt (rf l)),0):=by
 obtain⟨g1,g2,g3⟩:=iD h;have hlr:=Fj h;intro d
 induction d with
 | zero=>
  intro m hm;obtain rfl:m=k:=by omega
  refine Ev.succ ?_;simp only[gy.l0];exact Ev.neg (by omega) (Ev.now _)
 | succ d ih=>
  intro m hm;have h1:=ih (m+1) (by omega);have hl:(rowOf (m+1) (zt (rf l))).length=m+1:=gh _ _;have hz:=Bj g3 10 (m+1) (by omega);have h20:(20:Int) ^ (m+1)≤10240000000000:=by
   have: ∀i:Fin 11,(20:Int) ^ i.val≤10240000000000:=by decide
   exact this ⟨m+1,by omega⟩
  have hz2:wrap64 (zt (rf l) (m+1))=zt (rf l) (m+1):=by
   unfold ab at hz;exact bg (by omega) (by omega)
  have e1:rowOf (m+1) (zt (rf l))++[zt (rf l) (m+1)]=rowOf (m+1+1) (zt (rf l)):=ue (m+1) _;have tail: ∀i:Nat,i≤m+1→(i=m+1∨(iL l).length≤i+1)→Ev (fun f=>gy.l1 f (k:Int) (iL l) (rowOf (m+1) (zt (rf l))) ((m+1:Nat):Int) (wrap64 (-(Sm i (fun t=>rf l (t+1)*zt (rf l) (m - t))))) ((i+1:Nat):Int)) (rowOf (k+1) (zt (rf l)),0):=by
   intro i hi hc;have e2:Sm i (fun t=>rf l (t+1)*zt (rf l) (m - t))=Sm (m+1) (fun t=>rf l (t+1)*zt (rf l) (m - t)):=by
    rcases hc with hc | hc
    ·rw[hc]
    ·refine(Es _ hi (fun t ht Jm=> ?_)).symm
     rw[← we h (t+1),AA (by omega),Int.zero_mul]
   rw[e2,← Bi,hz2];refine Ev.succ ?_;simp only[gy.l1];rw[e1,dD (i:=m+1) (by omega)];unfold ab at hz
   by_cases c:((i+1:Nat):Int)≤((m+1:Nat):Int)
   ·exact Ev.pos c (Ev.neg (by omega) (Ev.neg (by omega) (Ev.pos (by omega) h1)))
   ·exact Ev.neg c (Ev.neg (by omega) (Ev.pos (by omega) h1))
  have inner: ∀(e i:Nat),i+e=m+1→Ev (fun f=>gy.l1 f (k:Int) (iL l) (rowOf (m+1) (zt (rf l))) ((m+1:Nat):Int) (wrap64 (-(Sm i (fun t=>rf l (t+1)*zt (rf l) (m - t))))) ((i+1:Nat):Int)) (rowOf (k+1) (zt (rf l)),0):=by
   intro e
   induction e with
   | zero=>intro i hi;exact tail i (by omega) (.inl (by omega))
   | succ e ih2=>
    intro i hi
    by_cases c:(iL l).length≤i+1
    ·exact tail i (by omega) (.inr c)
    ·have h2:=ih2 (i+1) (by omega)
     have e3:rd (rowOf (m+1) (zt (rf l))) ((m - i:Nat):Int)=zt (rf l) (m - i):=jO _ (by omega);have e4:wrap64 (wrap64 (-(Sm i (fun t=>rf l (t+1)*zt (rf l) (m - t)))) - wrap64 (rf l (i+1)*zt (rf l) (m - i)))=wrap64 (-(Sm (i+1) (fun t=>rf l (t+1)*zt (rf l) (m - t)))):=by
      show _=wrap64 (-(Sm i (fun t=>rf l (t+1)*zt (rf l) (m - t))+rf l (i+1)*zt (rf l) (m - i)))
      unfold wrap64
      omega
     refine Ev.succ ?_;simp only[gy.l1];rw[bg (x:=((m+1:Nat):Int) - ((i+1:Nat):Int)) (by omega) (by omega),show((m+1:Nat):Int) - ((i+1:Nat):Int)=((m - i:Nat):Int) by omega,we h,e3,e4,dD (i:=i+1) (by omega)];exact Ev.pos (by omega) (Ev.pos (by omega) (Ev.pos (by omega) (Ev.pos (by omega) (Ev.pos (by omega) h2))))
  have h3:=inner (m+1) 0 (by omega);rw[show wrap64 (-(Sm 0 (fun t=>rf l (t+1)*zt (rf l) (m - t))))=0 from bg (x:=0) (by decide) (by decide)]at h3;refine Ev.succ ?_;simp only[gy.l0];exact Ev.pos (by omega) h3

theorem MK: ∀(d m:Nat),m+d=k+1→Ev (fun f=>dX.l0 f (iL l) (rowOf m (zt (rf l))) ((k+1:Nat):Int) (m:Int)) (rowOf (k+1) (zt (rf l)),true):=by
 obtain⟨g1,g2,g3⟩:=iD h;have hlr:=Fj h;intro d
 induction d with
 | zero=>
  intro m hm;obtain rfl:m=k+1:=by omega
  refine Ev.succ ?_;simp only[dX.l0];exact Ev.neg (by omega) (Ev.now _)
 | succ d ih=>
  intro m hm;have h1:=ih (m+1) (by omega);have hl:(rowOf m (zt (rf l))).length=m:=gh _ _;have e1:rowOf m (zt (rf l))++[zt (rf l) m]=rowOf (m+1) (zt (rf l)):=ue m _;have inner: ∀(e i:Nat),i+e=m→Ev (fun f=>dX.l1 f (iL l) (rowOf m (zt (rf l))) (m:Int) (c1 m - Sm i (fun t=>rf l (t+1)*zt (rf l) (m - (t+1)))) ((i+1:Nat):Int) ((k+1:Nat):Int) (m:Int)) (rowOf (k+1) (zt (rf l)),true):=by
   intro e
   induction e with
   | zero=>
    intro i hi;obtain rfl:i=m:=by omega
    have e2:c1 i - Sm i (fun t=>rf l (t+1)*zt (rf l) (i - (t+1)))=zt (rf l) i:=by
     match i with
     | 0=>rfl
     | q+1=>
      rw[Bi,bJ (f:=fun t=>rf l (t+1)*zt (rf l) (q+1 - (t+1))) (g:=fun t=>rf l (t+1)*zt (rf l) (q - t)) (fun t _=>by rw[Nat.add_sub_add_right])]
      show 0 - _=_
      omega
    rw[e2];refine Ev.succ ?_;simp only[dX.l1];rw[e1,dD (i:=i) (by omega)];exact Ev.neg (by omega) (Ev.pos (by omega) h1)
   | succ e ih2=>
    intro i hi;have h2:=ih2 (i+1) (by omega);have b1:=Fq g3 m (by omega) i (by omega);have b2:=Fq g3 m (by omega) (i+1) (by omega);have b3:=Fo g3 10 (i+1) (by omega);have b4:=Bj g3 10 (m - (i+1)) (by omega);have h20: ∀q,q≤10→(20:Int) ^ q≤10240000000000:=by
     intro q hq;have: ∀i:Fin 11,(20:Int) ^ i.val≤10240000000000:=by decide
     exact this ⟨q,by omega⟩
    have b5:=h20 (i+1) (by omega);have b6:=h20 (m - (i+1)) (by omega);have e2:Sm (i+1) (fun t=>rf l (t+1)*zt (rf l) (m - (t+1)))=Sm i (fun t=>rf l (t+1)*zt (rf l) (m - (t+1)))+rf l (i+1)*zt (rf l) (m - (i+1)):=rfl;have hat:qu.f (iL l) ((i+1:Nat):Int)=some (rf l (i+1)):=by
     unfold qu.f;rw[← we h]
     by_cases c:((i+1:Nat):Int)<((iL l).length:Int)
     ·rw[if_pos c,if_pos (by omega)]
     ·rw[if_neg c,AA (by omega)]
    have e3:rd (rowOf m (zt (rf l))) ((m - (i+1):Nat):Int)=zt (rf l) (m - (i+1)):=jO _ (by omega);have U7:c1 m=0∨c1 m=1:=by unfold c1;split<;>simp
    unfold ab at b1 b2 b3 b4;have ht:=Kn (a:=c1 m - Sm i (fun t=>rf l (t+1)*zt (rf l) (m - (t+1)))) (b:= -(rf l (i+1))) (c:=zt (rf l) (m - (i+1))) (by unfold big;omega) (by unfold big;omega) (by unfold big;omega);have em:more (c1 m - Sm i (fun t=>rf l (t+1)*zt (rf l) (m - (t+1)))) (-(rf l (i+1))) (zt (rf l) (m - (i+1)))=(c1 m - Sm (i+1) (fun t=>rf l (t+1)*zt (rf l) (m - (t+1))),true):=by
     have e4: -(rf l (i+1))*zt (rf l) (m - (i+1))= -(rf l (i+1)*zt (rf l) (m - (i+1))):=Int.neg_mul _ _;unfold more;rw[e4];rw[if_pos (by unfold big;omega),show c1 m - Sm i (fun t=>rf l (t+1)*zt (rf l) (m - (t+1)))+ -(rf l (i+1)*zt (rf l) (m - (i+1)))=c1 m - Sm (i+1) (fun t=>rf l (t+1)*zt (rf l) (m - (t+1))) by omega]
     congr 1
     unfold small;exact decide_eq_true (by omega)
    rw[em]at ht;refine Ev.succ ?_;simp only[dX.l1];rw[hat,bg (x:=(m:Int) - ((i+1:Nat):Int)) (by omega) (by omega),show(m:Int) - ((i+1:Nat):Int)=((m - (i+1):Nat):Int) by omega,e3,dD (i:=i+1) (by omega)];refine Ev.pos (by omega) (Ev.bind (Ev.now _) ?_);rw[bg (x:= -(rf l (i+1))) (by omega) (by omega)];refine Ev.pos (by omega) (Ev.pos (by omega) (Ev.bind ht ?_));exact Ev.pos rfl h2
  have h3:=inner m 0 (by omega);rw[show c1 m - Sm 0 (fun t=>rf l (t+1)*zt (rf l) (m - (t+1)))=c1 m from Int.sub_zero _]at h3;refine Ev.succ ?_;simp only[dX.l0];refine Ev.pos (by omega) ?_
  by_cases c:m=0
  ·subst c
   refine Ev.pos rfl ?_;refine Ev.succ ?_;simp only[dX.j1];exact h3
  ·refine Ev.neg (by omega) ?_
   refine Ev.succ ?_;simp only[dX.j1];rw[show c1 m=0 from if_neg c]at h3;exact h3

end

/-- What both sides answer. -/
def l9 (n:Int) (l:List (List Int)) (a:Int):List Int×Int:=if iE n l a 0=0 then (rowOf (a.toNat+1) (zt (rf l)),0) else ([],iE n l a 0)

theorem Jw (n:Int) (l:List (List Int)) (a:Int) (hl:Mod l):(l9 n l a).1.length≤1048576∧Ev (fun k=>gy.f k n l a) (l9 n l a)∧Ev (fun k=>jV.f k n l a) (l9 n l a):=by
 unfold gy.f jV.f l9;have h1:=AU n l a 0 hl;have h2:=MI n l a hl
 by_cases c:iE n l a 0=0
 ·obtain⟨hg,ha,hb⟩:=qj c
  obtain⟨k,rfl⟩:=Int.eq_ofNat_of_zero_le ha;have hs:=MJ hg k (by omega) k 0 (by omega);have hi:=MK hg k (by omega) (k+1) 0 (by omega);rw[if_pos c,Int.toNat_natCast];refine⟨?_, ?_, ?_⟩
  ·show(rowOf (k+1) (zt (rf l))).length≤_
   rw[gh];omega
  ·exact Ev.bind h1 (Ev.pos c (Ev.bind (LQ hg) hs))
  ·refine Ev.bind h2 (Ev.pos c (Ev.bind (Fh hg) ?_))
   unfold dX.f;rw[bg (x:=(k:Int)+1) (by omega) (by omega)];exact Ev.bind hi (Ev.pos rfl (Ev.now _))
 ·rw[if_neg c]
  exact⟨by simp,Ev.bind h1 (Ev.neg c (Ev.now _)),Ev.bind h2 (Ev.neg c (Ev.now _))⟩

theorem Jo {n:Int} {l:List (List Int)} (hl:Mod l) (hg:eN n l=true):Ev (fun k=>sj.f k n l) (iL l,0):=by
 have h2:=yA n l hl;rw[hg]at h2;unfold sj.f;exact Ev.bind h2 (Ev.pos rfl (Ev.bind (Fh hg) (Ev.now _)))
def js (l:List (List Int)) (w:List Int):Bool:=w.all (fun x=>decide (0≤x∧x≤2*(l.length:Int) - 1))

theorem rK {l:List (List Int)} {w:List Int} (h:js l w=true) {i:Nat} (hi:i<w.length):rd w (i:Int)=(((rd w (i:Int)).toNat:Nat):Int)∧(rd w (i:Int)).toNat<2*l.length:=by
 unfold js at h;rw[List.all_eq_true]at h;have:=of_decide_eq_true (h _ (Ak hi))
 omega

section
variable {n:Int} {l:List (List Int)} (h:eN n l=true) {w:List Int}
include h

theorem ML (hw:w.length≤1048576): ∀(d i:Nat),i+d=w.length→
  ∃r:Int,Ev (fun k=>kK.l0 k w (w.length:Int) (i:Int) n l) r∧(decide (r≥0))= !(w.drop i).all (fun x=>decide (0≤x∧x≤2*(l.length:Int) - 1)):=by
 obtain⟨g1,g2,g3⟩:=iD h;intro d
 induction d with
 | zero=>
  intro i hi;refine⟨-1, ?_, ?_⟩
  ·refine Ev.succ ?_;simp only[kK.l0]
   repeat (first | with_reducible exact Ev.now _ | dsimp only | refine Ev.cr ?_ | refine Ev.cu ?_ | simp only[bne_self_eq_false,Bool.not_true,Bool.not_false,List.length_cons,List.length_nil] | rw[bg (by omega) (by omega)] | ((with_reducible refine Ev.eq (congrArg some ?_));rfl))
  ·rw[List.drop_eq_nil_of_le (by omega)]
   rfl
 | succ d ih=>
  intro i hi;have hc:qv.f w[i] n l=some (!decide (0≤w[i]∧w[i]≤2*(l.length:Int) - 1)):=by
   unfold qv.f kY.f;rw[Option.bind_some,bg (x:=2*(l.length:Int)) (by omega) (by omega),bg (x:=2*(l.length:Int) - 1) (by omega) (by omega),jP]
   rfl
  by_cases c:0≤w[i]∧w[i]≤2*(l.length:Int) - 1
  ·rw[decide_eq_true c]at hc
   obtain⟨r,h1,h2⟩:=ih (i+1) (by omega);refine⟨r, ?_, ?_⟩
   ·refine Ev.succ ?_;simp only[kK.l0]
    rw[dD (by omega),lA (by omega)]
    repeat (first | with_reducible exact Ev.now _ | dsimp only | with_reducible refine Ev.bind (Ev.eq hc) ?_ | refine Ev.cr ?_ | refine Ev.cu ?_ | simp only[bne_self_eq_false,Bool.not_true,Bool.not_false,List.length_cons,List.length_nil] | rw[bg (by omega) (by omega)] | with_reducible exact(Ev.eq hc) | ((with_reducible refine Ev.eq (congrArg some ?_));rfl))
    exact h1
   ·rw[List.drop_eq_getElem_cons (by omega:i<w.length),List.all_cons,decide_eq_true c,Bool.true_and]
    exact h2
  ·rw[decide_eq_false c]at hc
   refine⟨(i:Int), ?_, ?_⟩
   ·refine Ev.succ ?_;simp only[kK.l0]
    rw[dD (by omega),lA (by omega)]
    repeat (first | with_reducible exact Ev.now _ | dsimp only | with_reducible refine Ev.bind (Ev.eq hc) ?_ | refine Ev.cr ?_ | refine Ev.cu ?_ | simp only[bne_self_eq_false,Bool.not_true,Bool.not_false,List.length_cons,List.length_nil] | rw[bg (by omega) (by omega)] | with_reducible exact(Ev.eq hc) | ((with_reducible refine Ev.eq (congrArg some ?_));rfl))
   ·rw[List.drop_eq_getElem_cons (by omega:i<w.length),List.all_cons,decide_eq_false c,Bool.false_and]
    simp

theorem MM (hw:w.length≤1048576):Ev (fun k=>qw.f k n l w) (js l w):=by
 obtain⟨r,h1,h2⟩:=ML h hw w.length 0 (by omega);have h1':Ev (fun k=>kK.f k w n l) r:=h1;unfold qw.f uk.f;rw[List.drop_zero]at h2;have:js l w= !decide (r≥0):=by rw[h2,Bool.not_not];rfl
 rw[this];exact Ev.bind (Ev.bind h1' (Ev.now _)) (Ev.now _)

end
/-- d steps of the closed chain from the place i on. -/
def sn (l:List (List Int)) (w:List Int):Nat→Nat→Bool
 | 0,_=>true
 | d+1,i=>next l (rd w (i:Int)).toNat (rd w (((i+1) % w.length:Nat):Int)).toNat && sn l w d (i+1)

theorem Bo (i n:Nat) (h:i<1048576):Int.tmod (wrap64 ((i:Int)+1)) (n:Int)=(((i+1) % n:Nat):Int):=by
 rw[dD (by omega),Int.tmod_eq_emod_of_nonneg (by omega)]
 rfl

section
variable {n:Int} {l:List (List Int)} (h:eN n l=true) {w:List Int}
include h

theorem MN (hd:js l w=true) (hw:w.length≤1048576): ∀(d i:Nat),i+d=w.length→Ev (fun k=>kr.l0 k w w (w.length:Int) (i:Int) n l) (sn l w d i && decide ((w.length:Int)>0)):=by
 obtain⟨g1,g2,g3⟩:=iD h;intro d
 induction d with
 | zero=>
  intro i hi;refine Ev.succ ?_;simp only[kr.l0];unfold sn;rw[Bool.true_and]
  repeat (first | with_reducible exact Ev.now _ | dsimp only | refine Ev.cr ?_ | refine Ev.cu ?_ | simp only[bne_self_eq_false,Bool.not_true,Bool.not_false,List.length_cons,List.length_nil] | rw[bg (by omega) (by omega)] | ((with_reducible refine Ev.eq (congrArg some ?_));rfl))
 | succ d ih=>
  intro i hi;have hm:(i+1) % w.length<w.length:=Nat.mod_lt _ (by omega);obtain⟨e1,r1⟩:=rK hd (show i<w.length by omega);obtain⟨e2,r2⟩:=rK hd hm;have:=ih (i+1) (by omega);have ha:=wh h r1;have hb:=wh h r2;have hx:=yB (rd w (i:Int)).toNat (by omega);rw[← e1]at ha hx;rw[← e2]at hb;refine Ev.succ ?_;simp only[kr.l0];unfold sn next;rw[Bo i w.length (by omega),dD (by omega),hx]
  by_cases c1:Pure.hd l (rd w (i:Int)).toNat=tl l (rd w (((i+1) % w.length:Nat):Int)).toNat
  ·rw[decide_eq_true c1,Bool.true_and]
   by_cases c2:(rd w (((i+1) % w.length:Nat):Int)).toNat=inv (rd w (i:Int)).toNat
   ·rw[decide_eq_false (show ¬((rd w (((i+1) % w.length:Nat):Int)).toNat≠inv (rd w (i:Int)).toNat) from fun e=>e c2),Bool.false_and,Bool.false_and]
    have Bq:rd w (((i+1) % w.length:Nat):Int)=((inv (rd w (i:Int)).toNat:Nat):Int):=by omega
    repeat (first | with_reducible exact Ev.now _ | dsimp only | with_reducible refine Ev.bind (Ev.eq ha) ?_ | with_reducible refine Ev.bind (Ev.eq hb) ?_ | refine Ev.cr ?_ | refine Ev.cu ?_ | simp only[bne_self_eq_false,Bool.not_true,Bool.not_false,List.length_cons,List.length_nil] | rw[bg (by omega) (by omega)] | with_reducible exact(Ev.eq ha) | with_reducible exact(Ev.eq hb) | ((with_reducible refine Ev.eq (congrArg some ?_));rfl))
   ·rw[decide_eq_true (show(rd w (((i+1) % w.length:Nat):Int)).toNat≠inv (rd w (i:Int)).toNat from c2),Bool.true_and]
    have Bq: ¬rd w (((i+1) % w.length:Nat):Int)=((inv (rd w (i:Int)).toNat:Nat):Int):=by omega
    repeat (first | with_reducible exact Ev.now _ | dsimp only | with_reducible refine Ev.bind (Ev.eq ha) ?_ | with_reducible refine Ev.bind (Ev.eq hb) ?_ | refine Ev.cr ?_ | refine Ev.cu ?_ | simp only[bne_self_eq_false,Bool.not_true,Bool.not_false,List.length_cons,List.length_nil] | rw[bg (by omega) (by omega)] | with_reducible exact(Ev.eq ha) | with_reducible exact(Ev.eq hb) | ((with_reducible refine Ev.eq (congrArg some ?_));rfl))
    exact this
  ·rw[decide_eq_false c1,Bool.false_and,Bool.false_and,Bool.false_and]
   repeat (first | with_reducible exact Ev.now _ | dsimp only | with_reducible refine Ev.bind (Ev.eq ha) ?_ | with_reducible refine Ev.bind (Ev.eq hb) ?_ | refine Ev.cr ?_ | refine Ev.cu ?_ | simp only[bne_self_eq_false,Bool.not_true,Bool.not_false,List.length_cons,List.length_nil] | rw[bg (by omega) (by omega)] | with_reducible exact(Ev.eq ha) | with_reducible exact(Ev.eq hb) | ((with_reducible refine Ev.eq (congrArg some ?_));rfl))

theorem MO (hd:js l w=true) (hw:w.length≤1048576):Ev (fun k=>kr.f k n l w) (sn l w w.length 0 && decide ((w.length:Int)>0)):=by
 unfold kr.f;exact MN h hd hw w.length 0 (by omega)

end
def om (l:List (List Int)) (w:List Int):Nat→Nat→Bool
 | 0,_=>true
 | d+1,i=>decide (hd l (rd w (i:Int)).toNat=tl l (rd w (((i+1) % w.length:Nat):Int)).toNat) && om l w d (i+1)

def oo (w:List Int):Nat→Nat→Bool
 | 0,_=>true
 | d+1,i=>decide ((rd w (((i+1) % w.length:Nat):Int)).toNat≠inv (rd w (i:Int)).toNat) && oo w d (i+1)

theorem MP (l:List (List Int)) (w:List Int): ∀(d i:Nat),sn l w d i=(om l w d i && oo w d i):=by
 intro d
 induction d with
 | zero=>intro i;rfl
 | succ d ih=>
  intro i;unfold sn om oo next;rw[ih];generalize decide (hd l (rd w (i:Int)).toNat=_)=a;generalize decide (_≠inv (rd w (i:Int)).toNat)=b;generalize om l w d (i+1)=c;generalize oo w d (i+1)=e;cases a<;>cases b<;>cases c<;>cases e<;>rfl

section
variable {n:Int} {l:List (List Int)} (h:eN n l=true) {w:List Int}
include h

theorem MQ (hw:w.length≤1048576): ∀(d i:Nat),i+d=w.length→Ev (fun k=>iG.l0 k w (i:Int) n l) ((w.drop i).all (fun x=>decide (0≤x∧x≤2*(l.length:Int) - 1)) && decide ((w.length:Int)≤20)):=by
 obtain⟨g1,g2,g3⟩:=iD h;intro d
 induction d with
 | zero=>
  intro i hi;refine Ev.succ ?_;simp only[iG.l0];rw[List.drop_eq_nil_of_le (by omega),List.all_nil,Bool.true_and]
  repeat (first | with_reducible exact Ev.now _ | dsimp only | refine Ev.cr ?_ | refine Ev.cu ?_ | simp only[bne_self_eq_false,Bool.not_true,Bool.not_false,List.length_cons,List.length_nil] | rw[bg (by omega) (by omega)] | ((with_reducible refine Ev.eq (congrArg some ?_));rfl))
 | succ d ih=>
  intro i hi;have:=ih (i+1) (by omega);refine Ev.succ ?_;simp only[iG.l0];rw[dD (by omega),bg (x:=2*(l.length:Int)) (by omega) (by omega),bg (x:=2*(l.length:Int) - 1) (by omega) (by omega),kH,lA (by omega),List.drop_eq_getElem_cons (by omega:i<w.length),List.all_cons]
  by_cases c:0≤w[i]∧w[i]≤2*(l.length:Int) - 1
  ·rw[decide_eq_true c,Bool.true_and]
   repeat (first | with_reducible exact Ev.now _ | dsimp only | with_reducible refine Ev.bind (Ev.now _) ?_ | refine Ev.cr ?_ | refine Ev.cu ?_ | simp only[bne_self_eq_false,Bool.not_true,Bool.not_false,List.length_cons,List.length_nil] | rw[bg (by omega) (by omega)] | with_reducible exact(Ev.now _) | ((with_reducible refine Ev.eq (congrArg some ?_));rfl))
   exact this
  ·rw[decide_eq_false c,Bool.false_and,Bool.false_and]
   repeat (first | with_reducible exact Ev.now _ | dsimp only | with_reducible refine Ev.bind (Ev.now _) ?_ | refine Ev.cr ?_ | refine Ev.cu ?_ | simp only[bne_self_eq_false,Bool.not_true,Bool.not_false,List.length_cons,List.length_nil] | rw[bg (by omega) (by omega)] | with_reducible exact(Ev.now _) | ((with_reducible refine Ev.eq (congrArg some ?_));rfl))

theorem MR (hw:w.length≤1048576):Ev (fun k=>iG.f k n l w) (js l w && decide ((w.length:Int)≤20)):=by
 unfold iG.f;exact MQ h hw w.length 0 (by omega)

theorem En (hd:js l w=true) (hw:w.length≤1048576): ∀(d i:Nat),i+d=w.length→Ev (fun k=>dP.l0 k w (i:Int) n l) (om l w d i && decide ((w.length:Int)>0)):=by
 obtain⟨g1,g2,g3⟩:=iD h;intro d
 induction d with
 | zero=>
  intro i hi;refine Ev.succ ?_;simp only[dP.l0];unfold om;rw[Bool.true_and]
  repeat (first | with_reducible exact Ev.now _ | dsimp only | refine Ev.cr ?_ | refine Ev.cu ?_ | simp only[bne_self_eq_false,Bool.not_true,Bool.not_false,List.length_cons,List.length_nil] | rw[bg (by omega) (by omega)] | ((with_reducible refine Ev.eq (congrArg some ?_));rfl))
 | succ d ih=>
  intro i hi;have hm:(i+1) % w.length<w.length:=Nat.mod_lt _ (by omega);obtain⟨e1,r1⟩:=rK hd (show i<w.length by omega);obtain⟨e2,r2⟩:=rK hd hm;have:=ih (i+1) (by omega);have ha:=tU h r1;have hb:=tU h r2;rw[← e1]at ha;rw[← e2]at hb;refine Ev.succ ?_;simp only[dP.l0];unfold om;rw[Bo i w.length (by omega),dD (by omega)]
  by_cases c1:Pure.hd l (rd w (i:Int)).toNat=tl l (rd w (((i+1) % w.length:Nat):Int)).toNat
  ·rw[decide_eq_true c1,Bool.true_and]
   repeat (first | with_reducible exact Ev.now _ | dsimp only | with_reducible refine Ev.bind (Ev.eq ha) ?_ | with_reducible refine Ev.bind (Ev.eq hb) ?_ | refine Ev.cr ?_ | refine Ev.cu ?_ | simp only[bne_self_eq_false,Bool.not_true,Bool.not_false,List.length_cons,List.length_nil] | rw[bg (by omega) (by omega)] | with_reducible exact(Ev.eq ha) | with_reducible exact(Ev.eq hb) | ((with_reducible refine Ev.eq (congrArg some ?_));rfl))
   exact this
  ·rw[decide_eq_false c1,Bool.false_and,Bool.false_and]
   repeat (first | with_reducible exact Ev.now _ | dsimp only | with_reducible refine Ev.bind (Ev.eq ha) ?_ | with_reducible refine Ev.bind (Ev.eq hb) ?_ | refine Ev.cr ?_ | refine Ev.cu ?_ | simp only[bne_self_eq_false,Bool.not_true,Bool.not_false,List.length_cons,List.length_nil] | rw[bg (by omega) (by omega)] | with_reducible exact(Ev.eq ha) | with_reducible exact(Ev.eq hb) | ((with_reducible refine Ev.eq (congrArg some ?_));rfl))

theorem MS (hd:js l w=true) (hw:w.length≤1048576): ∀(d i:Nat),i+d=w.length→Ev (fun k=>ku.l0 k w (i:Int)) (oo w d i,0):=by
 obtain⟨g1,g2,g3⟩:=iD h;intro d
 induction d with
 | zero=>
  intro i hi;refine Ev.succ ?_;simp only[ku.l0];unfold oo
  repeat (first | with_reducible exact Ev.now _ | dsimp only | refine Ev.cr ?_ | refine Ev.cu ?_ | simp only[bne_self_eq_false,Bool.not_true,Bool.not_false,List.length_cons,List.length_nil] | rw[bg (by omega) (by omega)] | ((with_reducible refine Ev.eq (congrArg some ?_));rfl))
 | succ d ih=>
  intro i hi;have hm:(i+1) % w.length<w.length:=Nat.mod_lt _ (by omega);obtain⟨e1,r1⟩:=rK hd (show i<w.length by omega);obtain⟨e2,r2⟩:=rK hd hm;have:=ih (i+1) (by omega);have hx:=yB (rd w (i:Int)).toNat (by omega);rw[← e1]at hx;refine Ev.succ ?_;simp only[ku.l0];unfold oo;rw[Bo i w.length (by omega),dD (by omega),hx]
  by_cases c2:(rd w (((i+1) % w.length:Nat):Int)).toNat=inv (rd w (i:Int)).toNat
  ·rw[decide_eq_false (show ¬((rd w (((i+1) % w.length:Nat):Int)).toNat≠inv (rd w (i:Int)).toNat) from fun e=>e c2),Bool.false_and]
   have Bq:rd w (((i+1) % w.length:Nat):Int)=((inv (rd w (i:Int)).toNat:Nat):Int):=by omega
   repeat (first | with_reducible exact Ev.now _ | dsimp only | refine Ev.cr ?_ | refine Ev.cu ?_ | simp only[bne_self_eq_false,Bool.not_true,Bool.not_false,List.length_cons,List.length_nil] | rw[bg (by omega) (by omega)] | ((with_reducible refine Ev.eq (congrArg some ?_));rfl))
  ·rw[decide_eq_true (show(rd w (((i+1) % w.length:Nat):Int)).toNat≠inv (rd w (i:Int)).toNat from c2),Bool.true_and]
   have Bq: ¬rd w (((i+1) % w.length:Nat):Int)=((inv (rd w (i:Int)).toNat:Nat):Int):=by omega
   repeat (first | with_reducible exact Ev.now _ | dsimp only | refine Ev.cr ?_ | refine Ev.cu ?_ | simp only[bne_self_eq_false,Bool.not_true,Bool.not_false,List.length_cons,List.length_nil] | rw[bg (by omega) (by omega)] | ((with_reducible refine Ev.eq (congrArg some ?_));rfl))
   exact this

end

theorem Ju (n:Int) (l:List (List Int)) (w:List Int) (hl:Mod l) (hw:w.length≤1048576): ∃r:Bool×Int,Ev (fun k=>ku.f k n l w) r∧Ev (fun k=>su.f k n l w) r:=by
 unfold ku.f su.f sw.f sx.f;have h1:=vZ n l hl;have h2:=yA n l hl
 by_cases hg:eN n l=true
 ·rw[hg]at h1 h2
  have w1:=MR hg hw;have w2:=MM hg hw
  by_cases h20:(w.length:Int)≤20
  ·cases hd:js l w with
   | true=>
    rw[hd,decide_eq_true h20,Bool.true_and]at w1;rw[hd]at w2;have c1:Ev (fun k=>dP.f k n l w) _:=En hg hd hw w.length 0 (by omega);have c2:=MO hg hd hw;rw[MP]at c2;have c3:=MS hg hd hw w.length 0 (by omega);have code:Ev (fun k=>(gr.f k n l).bind fun t=>if t=true then ((if (w.length:Int)≤20 then ((qw.f k n l w).bind fun t=>some t) else some false).bind fun t=>if t=true then some (0:Int) else some 2) else some 1) 0:=
     Ev.bind h2 (Ev.pos rfl (Ev.bind (Ev.pos h20 (Ev.bind w2 (Ev.now _))) (Ev.pos rfl (Ev.now _))))
    refine⟨(om l w w.length 0 && oo w w.length 0 && decide ((w.length:Int)>0),0), ?_, ?_⟩
    ·refine Ev.bind h1 (Ev.pos rfl (Ev.bind w1 (Ev.pos rfl (Ev.bind c1 ?_))))
     by_cases h3:(om l w w.length 0 && decide ((w.length:Int)>0))=true
     ·rw[Bool.and_eq_true]at h3
      rw[h3.1,h3.2,Bool.true_and,Bool.true_and,Bool.and_true];exact Ev.pos rfl c3
     ·rw[Bool.not_eq_true]at h3
      have e:(om l w w.length 0 && oo w w.length 0 && decide ((w.length:Int)>0))=false:=by
       rw[Bool.and_assoc,Bool.and_comm (oo w w.length 0),← Bool.and_assoc,h3,Bool.false_and]
      rw[h3,e];exact Ev.neg (by decide) (Ev.now _)
    ·exact Ev.bind code (Ev.pos rfl (Ev.bind c2 (Ev.now _)))
   | false=>
    rw[hd,Bool.false_and]at w1;rw[hd]at w2;refine⟨(false,2), ?_, ?_⟩
    ·exact Ev.bind h1 (Ev.pos rfl (Ev.bind w1 (Ev.neg (by decide) (Ev.now _))))
    ·exact Ev.bind (Ev.bind h2 (Ev.pos rfl (Ev.bind (Ev.pos h20 (Ev.bind w2 (Ev.now _))) (Ev.neg (by decide) (Ev.now _))))) (Ev.neg (by decide) (Ev.now _))
  ·rw[decide_eq_false h20,Bool.and_false]at w1
   refine⟨(false,2), ?_, ?_⟩
   ·exact Ev.bind h1 (Ev.pos rfl (Ev.bind w1 (Ev.neg (by decide) (Ev.now _))))
   ·exact Ev.bind (Ev.bind h2 (Ev.pos rfl (Ev.bind (Ev.neg h20 (Ev.now _)) (Ev.neg (by decide) (Ev.now _))))) (Ev.neg (by decide) (Ev.now _))
 ·rw[Bool.not_eq_true]at hg
  rw[hg]at h1 h2;refine⟨(false,1), ?_, ?_⟩
  ·exact Ev.bind h1 (Ev.neg (by decide) (Ev.now _))
  ·exact Ev.bind (Ev.bind h2 (Ev.neg (by decide) (Ev.now _))) (Ev.neg (by decide) (Ev.now _))
def bs (l:List UInt8):ByteArray:=⟨l.toArray⟩

theorem MT (a:ByteArray):bs a.data.toList=a:=by
 obtain⟨⟨l⟩⟩:=a
 rfl

theorem I4 (a:ByteArray): ∃l,a=bs l:=⟨a.data.toList,(MT a).symm⟩

theorem fX (l:List UInt8):(bs l).size=l.length:=by simp[bs,ByteArray.size]

theorem IU (l:List UInt8):(bs l).toList=l:=ByteArray.toList_mk l

theorem Eg (l:List UInt8) (a b:Nat):(bs l).extract a b=bs ((l.take b).drop a):=by
 apply ByteArray.ext;simp[bs,List.extract_eq_drop_take']

theorem tT {l:List UInt8} {i:Nat} (h:i<l.length):bt (bs l) (i:Int)=(l[i].toNat:Int):=by
 unfold bt;rw[dif_pos (by rw[fX];simpa using h)]
 rfl

theorem Ev.uniq {α:Type} {g:Nat→Option α} {r s:α} (h:Ev g r) (k:Ev g s):r=s:=by
 obtain⟨K,h⟩:=h;obtain⟨L,k⟩:=k;have h1:=h (max K L) (by omega);rw[k (max K L) (by omega)]at h1;exact(Option.some.inj h1).symm

/-- The parts between the bytes c. -/
def gb (c:UInt8):List UInt8→List (List UInt8)
 | []=>[[]]
 | b :: s=>if b=c then [] :: gb c s else
  match gb c s with
  | []=>[[b]]
  | x :: xs=>(b :: x) :: xs

/-- A text put ahead of the first part. -/
def glue (p:List UInt8):List (List UInt8)→List (List UInt8)
 | []=>[p]
 | x :: xs=>(p++x) :: xs

theorem rG (c:UInt8) (s:List UInt8):gb c s≠[]:=by
 cases s with
 | nil=>simp[gb]
 | cons b s=>
  unfold gb
  split
  ·simp
  ·split<;>simp

theorem vU (c:UInt8) (s:List UInt8):gb c (c :: s)= [] :: gb c s:=by simp[gb]

theorem tS {b c:UInt8} (h:b≠c) (s:List UInt8):gb c (b :: s)=glue [b] (gb c s):=by
 rw[gb,if_neg h];cases e:gb c s with
 | nil=>exact absurd e (rG c s)
 | cons x xs=>rfl

theorem II (p q:List UInt8) (xs:List (List UInt8)):glue p (glue q xs)=glue (p++q) xs:=by
 cases xs<;>simp[glue]

theorem Eh {xs:List (List UInt8)} (h:xs≠[]):glue [] xs=xs:=by
 cases xs with
 | nil=>exact absurd rfl h
 | cons x xs=>rfl

theorem IM (c:UInt8) (s:List UInt8):(gb c s).length=s.count c+1:=by
 induction s with
 | nil=>rfl
 | cons b s ih=>
  by_cases h:b=c
  ·subst h
   rw[vU,List.length_cons,ih];simp
  ·rw[tS h,List.count_cons_of_ne h,← ih]
   cases e:gb c s with
   | nil=>exact absurd e (rG c s)
   | cons x xs=>rfl

def kW (c:UInt8):List (List UInt8)→List UInt8
 | []=>[]
 | [x]=>x
 | x :: y :: r=>x++c :: kW c (y :: r)

theorem Ag {c:UInt8} (x:List UInt8) {xs:List (List UInt8)} (h:xs≠[]):kW c (x :: xs)=x++c :: kW c xs:=by
 cases xs with
 | nil=>exact absurd rfl h
 | cons y r=>rfl

theorem Ix (c:UInt8) (p:List UInt8) {xs:List (List UInt8)} (h:xs≠[]):kW c (glue p xs)=p++kW c xs:=by
 cases xs with
 | nil=>exact absurd rfl h
 | cons x xs=>
  cases xs with
  | nil=>rfl
  | cons y r=>simp[glue,kW]
end Go.Proofs.Ytkadhadceongiaa.Pure
