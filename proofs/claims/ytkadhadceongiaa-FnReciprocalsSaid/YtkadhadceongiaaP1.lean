/- The plain proofs for this law. -/
import Derived.Test.YtkadhadceongiaaP
import Derived.Test.YtkadhadceongiaaAux
namespace Go.Proofs.Ytkadhadceongiaa.Pure
open Go.RowKit Go.Proofs.Ytkadhadceongiaa.G Go.Proofs.YtkadhadceongiaaW.PrintWords Go.Proofs.YtkadhadceongiaaW.PrintLast Go.Proofs.YtkadhadceongiaaW.PrintMore Go.Proofs.Ytkadhadceongiaa.Aux
set_option linter.unusedVariables false
set_option linter.unusedSimpArgs false

section
variable (n:Nat) (hn:n≤1000) (a:List (List Int)) (ha:Sq n a)

/-- While the diagonal is told before s. -/
def nV (k s:Nat):List (List Int):=ofFn n (fun i j=>wrap64 (mul n (bE a) (pre n (bE a) k) i j+if i=j∧i<s then ch n (bE a) k else 0))

theorem Lt (k:Nat):nV n a k 0=wm n (mul n (bE a) (pre n (bE a) k)):=by
  refine qQ (fun i j hi hj=> ?_);rw[if_neg (by omega),Int.add_zero]

theorem Lu (k:Nat):nV n a k n=wm n (nc n (bE a) k):=by
  refine qQ (fun i j hi hj=> ?_);rw[Lw n (bE a) k i j hi hj]
  by_cases c:i=j
  · rw[if_pos c,if_pos ⟨c,hi⟩]
  · rw[if_neg c,if_neg (fun z=>c z.1)]

theorem Gt (k s:Nat) (hs:s<n):af (nV n a k s) (s:Int)=rowOf n (fun j=>wrap64 (mul n (bE a) (pre n (bE a) k) s j)):=by
  unfold nV;rw[xV _ hs];refine nW (fun j _=> ?_);rw[if_neg (by omega),Int.add_zero]

theorem Lx (k s:Nat) (hs:s<n):(nV n a k s).set s ((af (nV n a k s) (s:Int)).set s (wrap64 (rd (af (nV n a k s) (s:Int)) (s:Int)+wrap64 (ch n (bE a) k))))=nV n a k (s+1):=by
  rw[Gt n a k s hs,jK _ hs,Ak _ _ hs];unfold nV;rw[Gu _ _ hs];refine qQ (fun i j hi hj=> ?_)
  by_cases e:i=s
  · subst e
    rw[if_pos rfl]
    by_cases e2:j=i
    · rw[if_pos e2,r7,if_pos ⟨e2.symm,by omega⟩,e2]
    · rw[if_neg e2,if_neg (fun z=>e2 z.1.symm),Int.add_zero]
  · rw[if_neg e]
    by_cases c:i=j∧i<s
    · rw[if_pos c,if_pos ⟨c.1,by omega⟩]
    · rw[if_neg c,if_neg (fun z=>c ⟨z.1,by omega⟩)]

include hn ha

theorem Ly (k:Nat) (hk:k<n) (res:List Int)
    (h:Ev (fun f=>(fO.f f a (wm n (nc n (bE a) k))).bind fun t=>(lD.f f t).bind fun t2=>if ((k+1:Nat):Int)=0 then none else if (dS n (bE a) (k+1)).length<17592186044416 then fU.l0 f a (dS n (bE a) (k+1)++[wrap64 (Int.tdiv (wrap64 (-t2)) ((k+1:Nat):Int))]) (wm n (nc n (bE a) k)) (wrap64 (((k+1:Nat):Int)+1)) else none) res):
    ∀(d s:Nat),s+d=n→Ev (fun f=>fU.l1 f a (dS n (bE a) (k+1)) (nV n a k s) ((k+1:Nat):Int) (n:Int) (s:Int)) res:=by
  have hlc:(dS n (bE a) (k+1)).length=k+1:=gm _ _;intro d
  induction d with
  | zero=>
    intro s hs;obtain rfl:s=n:=by omega
    rw[← Lu]at h;refine Ev.succ ?_;simp only[fU.l1];exact Ev.neg (by omega) h
  | succ d ih=>
    intro s hs;have h1:=ih (s+1) (by omega);have hl:(nV n a k s).length=n:=r8 _ _;have hrow:(af (nV n a k s) (s:Int)).length=n:=by rw[Gt n a k s (by omega),gm]
    have e2:rd (dS n (bE a) (k+1)) (k:Int)=wrap64 (ch n (bE a) k):=jK _ (by omega);rw[← Lx n a k s (by omega)]at h1;refine Ev.succ ?_;simp only[fU.l1];rw[aX (x:=((k+1:Nat):Int) - 1) (by omega) (by omega),show((k+1:Nat):Int) - 1=(k:Int) by omega,e2,dI (i:=s) (by omega),Int.toNat_natCast]
    repeat (first | with_reducible exact Ev.now _ | dsimp only | refine Ev.bZ ?_ | refine Ev.cj ?_ | simp only[bne_self_eq_false,Bool.not_true,Bool.not_false,List.length_cons,List.length_nil] | rw[aX (by omega) (by omega)] | ((with_reducible refine Ev.eq (congrArg some ?_));rfl))
    exact h1

theorem LA (hb: ∀k,1≤k→k≤n→ab ((k:Int)*ch n (bE a) k)≤9223372036854775807): ∀(d k:Nat),k+d=n→Ev (fun f=>fU.l0 f a (dS n (bE a) (k+1)) (wm n (pre n (bE a) k)) ((k+1:Nat):Int)) (dx (dS n (bE a) (n+1)) (n+1)):=by
  have hal:=ha.1;intro d
  induction d with
  | zero=>
    intro k hk;obtain rfl:k=n:=by omega
    have hl:(dS k (bE a) (k+1)).length=k+1:=gm _ _;have h1:=CN (dS k (bE a) (k+1)) (by omega);rw[hl]at h1;refine Ev.succ ?_;simp only[fU.l0]
    repeat (first | with_reducible exact Ev.now _ | dsimp only | with_reducible refine Ev.bind (h1) ?_ | refine Ev.bZ ?_ | refine Ev.cj ?_ | simp only[bne_self_eq_false,Bool.not_true,Bool.not_false,List.length_cons,List.length_nil] | rw[aX (by omega) (by omega)] | with_reducible exact(h1) | ((with_reducible refine Ev.eq (congrArg some ?_));rfl))
  | succ d ih=>
    intro k hk;have h1:=ih (k+1) (by omega);have hlc:(dS n (bE a) (k+1)).length=k+1:=gm _ _;have hp:=Gv n hn a (wm n (pre n (bE a) k)) ha (vU n _);rw[Gw,← Lt]at hp;have CO:=Gv n hn a (wm n (nc n (bE a) k)) ha (vU n _);rw[Gw]at CO;have ht:=trace n hn (wm n (mul n (bE a) (nc n (bE a) k))) (vU n _);have et:wrap64 (-wrap64 (tr n (bE (wm n (mul n (bE a) (nc n (bE a) k))))))=((k+1:Nat):Int)*ch n (bE a) (k+1):=by
      have e1:wrap64 (tr n (bE (wm n (mul n (bE a) (nc n (bE a) k)))))=wrap64 (tn n (bE a) k):=by
        unfold tr;rw[Gx (g:=fun i=>mul n (bE a) (nc n (bE a) k) i i) (fun i hi=>by rw[Gy _ hi hi,wrap_wrap])];unfold tn;rw[bK (fun i hi=>CP n (bE a) k i i hi hi)]
        rfl
      have U7:=LB n (bE a) k (by omega);have hb1:=hb (k+1) (by omega) (by omega);rw[e1,Gz,← U7];unfold ab at hb1;exact aX (by omega) (by omega)
    have eq:wrap64 (Int.tdiv (((k+1:Nat):Int)*ch n (bE a) (k+1)) ((k+1:Nat):Int))=wrap64 (ch n (bE a) (k+1)):=by
      rw[Int.mul_tdiv_cancel_left _ (by omega)]
    have hl2:(nV n a k 0).length=n:=r8 _ _;have h2:=Ly n hn a ha k (by omega) (dx (dS n (bE a) (n+1)) (n+1)) (by
      refine Ev.bind CO (Ev.bind ht ?_);rw[et,eq,dI (i:=k+1) (by omega)];have e3:dS n (bE a) (k+1)++[wrap64 (ch n (bE a) (k+1))]=dS n (bE a) (k+1+1):=vV (k+1) (fun m=>wrap64 (ch n (bE a) m));rw[e3]
      repeat (first | with_reducible exact Ev.now _ | dsimp only | refine Ev.bZ ?_ | refine Ev.cj ?_ | simp only[bne_self_eq_false,Bool.not_true,Bool.not_false,List.length_cons,List.length_nil] | rw[aX (by omega) (by omega)] | ((with_reducible refine Ev.eq (congrArg some ?_));rfl))
      exact h1) n 0 (by omega)
    refine Ev.succ ?_;simp only[fU.l0];refine Ev.pos (by omega) (Ev.bind hp ?_);rw[hl2];exact h2

theorem LC (hb: ∀k,1≤k→k≤n→ab ((k:Int)*ch n (bE a) k)≤9223372036854775807):Ev (fun f=>fU.f f a) (dx (dS n (bE a) (n+1)) (n+1)):=by
  have h:=LA n hn a ha hb n 0 (by omega);have e:dS n (bE a) (0+1)= [1]:=by
    show[wrap64 (ch n (bE a) 0)]= [1]
    rw[show ch n (bE a) 0=1 from(xW n eM (ng (bE a))).trans (CQ n),aX (by decide) (by decide)]
  unfold fU.f;rw[ha.1];refine Ev.bind (Al (n:Int) (by omega) (by omega)) ?_;rw[Int.toNat_natCast,LD n (bE a)];rw[e]at h;exact h

end
def co (l:List Int) (i:Nat):Int:=rd l (i:Int)

theorem tH {l:List Int} {i:Nat} (h:l.length≤i):co l i=0:=lX h

theorem LF {a b c:Int} (h:(more a b c).2=true):(more a b c).1=a+b*c:=by
  unfold more at h ⊢
  by_cases g: -big≤b*c∧b*c≤big
  · rw[if_pos g]
  · rw[if_neg g]at h
    cases h

theorem LG (l m:List Int) (k:Nat): ∀(d i:Nat) (acc:Int),i+d≤k+1→(cv l m k d i acc).2=true→(cv l m k d i acc).1=acc+Sm d (fun t=>co l (i+t)*co m (k - (i+t))):=by
  intro d
  induction d with
  | zero=>intro i acc _ _;exact(Int.add_zero acc).symm
  | succ d ih=>
    intro i acc hi h;rw[r9];have e: ∀x:Int,x+Sm d (fun t=>co l (i+1+t)*co m (k - (i+1+t)))=x+Sm d (fun t=>co l (i+(t+1))*co m (k - (i+(t+1)))):=fun x=>by
      congr 1
      exact bK (fun t _=>by rw[show i+1+t=i+(t+1) by omega])
    unfold cv at h ⊢
    by_cases c:i+m.length≤k
    · rw[if_pos c]at h ⊢
      rw[ih (i+1) acc (by omega) h,e,tH (l:=m) (i:=k - (i+0)) (by omega)]
      omega
    · rw[if_neg c]at h ⊢
      by_cases g:(more acc (rd l (i:Int)) (rd m ((k - i:Nat):Int))).2=true
      · rw[if_pos g]at h ⊢
        rw[ih (i+1) _ (by omega) h,e,LF g]
        show acc+co l i*co m (k - i)+_=acc+(co l (i+0)*co m (k - (i+0))+_)
        rw[Nat.add_zero]
        omega
      · rw[if_neg g]at h
        cases h

theorem LH (l m:List Int) (k:Nat): ∀(d i:Nat) (acc:Int),(-big≤acc∧acc≤big)→(cv l m k d i acc).2=true→ -big≤(cv l m k d i acc).1∧(cv l m k d i acc).1≤big:=by
  intro d
  induction d with
  | zero=>intro i acc ha _;exact ha
  | succ d ih=>
    intro i acc ha h;unfold cv at h ⊢
    by_cases c:i+m.length≤k
    · rw[if_pos c]at h ⊢
      exact ih (i+1) acc ha h
    · rw[if_neg c]at h ⊢
      by_cases g:(more acc (rd l (i:Int)) (rd m ((k - i:Nat):Int))).2=true
      · rw[if_pos g]at h ⊢
        exact ih (i+1) _ (GA g) h
      · rw[if_neg g]at h
        cases h

theorem Am {d e:Nat} (f:Nat→Int) (vW:d≤e) (h: ∀i,d≤i→i<e→f i=0):Sm e f=Sm d f:=by
  induction e with
  | zero=>rw[show d=0 by omega]
  | succ e ih=>
    rcases Nat.lt_or_eq_of_le vW with c | c
    · show Sm e f+f e=Sm d f
      rw[ih (by omega) (fun i h1 h2=>h i h1 (by omega)),h e (by omega) (by omega),Int.add_zero]
    · rw[c]

theorem LI (l m:List Int) (k:Nat) (h:(j8 l m k).2=true):(j8 l m k).1=cw (co l) (co m) k:=by
  unfold j8 at h ⊢;rw[LG l m k _ 0 0 (by omega) h,Int.zero_add];unfold cw;rw[Am (d:=min (k+1) l.length) (e:=k+1) (fun i=>co l i*co m (k - i)) (by omega) (fun i hi hi2=>by rw[tH (l:=l) (by omega),Int.zero_mul])];exact bK (fun t _=>by rw[Nat.zero_add])

/-- A product of two lists, number by number. -/
def GD (l m p:List Int):Prop:=(l.length=0∧p= [])∨(m.length=0∧p= [])∨(0<l.length∧0<m.length∧p.length+1=l.length+m.length∧∀k,k<p.length→co p k=cw (co l) (co m) k)

theorem LJ (l m:List Int) (hw:whole l=true) (hw':whole m=true) (h:(jQ l m).2=true):whole (jQ l m).1=true∧GD l m (jQ l m).1:=by
  unfold jQ at h ⊢
  by_cases h0:l.length=0
  · rw[if_pos h0]
    exact⟨rfl,Or.inl ⟨h0,rfl⟩⟩
  rw[if_neg h0]at h ⊢
  by_cases h0':m.length=0
  · rw[if_pos h0']
    exact⟨rfl,Or.inr (Or.inl ⟨h0',rfl⟩)⟩
  rw[if_neg h0']at h ⊢
  by_cases h40:l.length+m.length - 1≤40
  · rw[if_pos h40]at h ⊢
    by_cases hok: ∀k,k<l.length+m.length - 1→(j8 l m k).2=true
    · rw[if_pos hok]
      have hs: ∀y∈prod l m (l.length+m.length - 1), -big≤y∧y≤big:=fun y hy=>by
        unfold prod at hy;obtain⟨k,hk,rfl⟩:=List.mem_map.1 hy;have:=hok k (List.mem_range.1 hk);exact LH l m k _ 0 0 (by decide) this
      have pH:=LK (q:=prod l m (l.length+m.length - 1)) (by rw[vX];exact h40) hs _ (Nat.le_of_eq (vX l m _).symm);rw[LL l m hw hw' (by omega) (by omega) _ (by omega) hok]at pH;refine⟨pH,Or.inr (Or.inr ⟨by omega,by omega,by simp only[vX];omega,fun k hk=> ?_⟩)⟩;simp only[vX]at hk;rw[← LI l m k (hok k hk)];exact xX _ hk
    · rw[if_neg hok]at h
      cases h
  · rw[if_neg h40]at h
    cases h

/-- The value. -/
def Hn (l:List Int) (x:Int):Int:=Sm l.length (fun i=>co l i*x ^ i)

theorem LN {l m p:List Int} (h:GD l m p) (x:Int):Hn p x=Hn l x*Hn m x:=by
  rcases h with ⟨h,rfl⟩ | ⟨h,rfl⟩ | ⟨hl,hm,hp,h⟩
  · unfold Hn;rw[h];exact(Int.zero_mul _).symm
  · unfold Hn;rw[h];exact(Int.mul_zero _).symm
  · obtain⟨n,hn⟩: ∃n,p.length=n+1:=⟨p.length - 1,by omega⟩
    have e1:Hn p x=Sm (n+1) (fun k=>Sm (k+1) (fun i=>(co l i*x ^ i)*(co m (k - i)*x ^ (k - i)))):=by
      unfold Hn;rw[hn];refine bK (fun k hk=> ?_);rw[h k (by omega)];unfold cw;rw[← jL];refine bK (fun i hi=> ?_);have:x ^ k=x ^ i*x ^ (k - i):=by rw[← Int.pow_add,show i+(k - i)=k by omega]
      rw[this]
      grind
    rw[e1,LO (fun i j=>(co l i*x ^ i)*(co m j*x ^ j)),nX (d:=l.length) (e:=n+1) _ (by omega) (fun i hi=> ?_)]
    · unfold Hn
      rw[← jL];refine bK (fun i hi=> ?_);rw[e7,nX (d:=m.length) (e:=n - i+1) _ (by omega) (fun j hj=>by rw[tH hj,Int.zero_mul])]
    · rw[bK (g:=fun _=>0) (fun j _=>by rw[tH hi,Int.zero_mul,Int.zero_mul]),jR]

theorem GF {l:List Int} (h:whole l=true):dx l l.length=l:=by
  rcases Nat.eq_zero_or_pos l.length with e | e
  · rw[List.length_eq_zero_iff.1 e];rfl
  · obtain⟨n,hn⟩: ∃n,l.length=n+1:=⟨l.length - 1,by omega⟩
    have:=CR h e;rw[hn,Nat.add_sub_cancel]at this;rw[hn];unfold dx;rw[if_neg this,← hn,List.take_length]

theorem Ao (n:Nat) (a b:Nat→Nat→Int) (h: ∀i j,i<n→j<n→a i j=b i j) (m:Nat):ch n a m=ch n b m:=
  CS n a eM (ng b) (fun u=>gJ n _ _ (fun i j hi hj=>by
    unfold xu ng;rw[h i j hi hj])) m

/-- The vertex where a directed edge begins. -/
def tv (l:List (List Int)) (e:Nat):Nat:=(tl l e).toNat

section
variable {n:Int} {l:List (List Int)} (h:fB n l=true)
include h

theorem Ap {e:Nat} (he:e<2*l.length):0≤tl l e∧tl l e<n:=by
  obtain⟨e2,a,b,ea,eb,ha,hb⟩:=tI h (show e / 2<l.length by omega);unfold tl
  split
  · rw[eb];omega
  · rw[ea];omega

theorem CT {e:Nat} (he:e<2*l.length):(tv l e:Int)<n:=by
  have:=Ap h he;unfold tv
  omega

omit h in
theorem GG (e:Nat):hd l e=tl l (flip e):=by
  unfold hd tl flip
  by_cases c:e % 2=0
  · rw[if_neg (show ¬e % 2=1 by omega),if_pos c,if_pos (by omega),show(e+1) / 2=e / 2 by omega]
  · rw[if_pos (show e % 2=1 by omega),if_neg c,if_neg (by omega),show(e - 1) / 2=e / 2 by omega]

theorem CU {p q:Nat} (hp:p<2*l.length) (hq:q<2*l.length):W l p q=tm (tv l) p q:=by
  have h1:=Ap h hq;have h2:=Ap h (si hp);have e:(next l p q=true)=(tv l q=tv l (flip p)∧q≠flip p):=propext (by
    rw[xY,GG];unfold tv
    show _∧q≠flip p↔_
    constructor
    · rintro⟨a,b⟩;exact⟨by rw[a],b⟩
    · rintro⟨a,b⟩;exact⟨by omega,b⟩)
  unfold W tm;simp only[e]

/-- The reciprocal, as a list. -/
def iV (l:List (List Int)):List Int:=dx (dS (2*l.length) (W l) (2*l.length+1)) (2*l.length+1)

omit h in
theorem GH (n:Nat) (a b:Nat→Nat→Int) (h: ∀i j,i<n→j<n→a i j=b i j) (k:Nat):dS n a k=dS n b k:=nW (fun m _=>by rw[Ao n a b h m])

theorem LP (k:Nat) (hk:k≤2*l.length):ab ((k:Int)*ch (2*l.length) (W l) k)≤9223372036854775807:=by
  obtain⟨g1,g2,g3⟩:=gp h;have h1:=LQ l.length (tv l) (fun _=>1) (fun _=> .inl rfl) g3 (fun e he=>by have:=CT h he;omega) k hk;rw[Ao _ (sm (tv l) (fun _=>1)) (W l) (fun i j hi hj=>by
    rw[CU h hi hj];unfold sm;rw[Int.one_mul]) k]at h1
  exact h1

theorem xZ:Ev (fun k=>nY.f k n l) (iV l):=by
  obtain⟨g1,g2,g3⟩:=gp h;have h1:=LC (2*l.length) (by omega) (ofFn (2*l.length) (W l)) (vU _ _) (fun k _ hk=>by
    rw[Ao _ _ (W l) (fun i j hi hj=>tJ _ hi hj)];exact LP h k hk)
  rw[GH _ _ (W l) (fun i j hi hj=>tJ _ hi hj),← GI]at h1;unfold nY.f iV;refine Ev.bind (CV h) ?_;exact Ev.bind h1 (Ev.now _)

end

section
variable {n:Int} {l:List (List Int)} (h:fB n l=true)
include h

theorem yc:Ev (fun k=>nZ.f k n l) (iV l):=by
  obtain⟨g1,g2,g3⟩:=gp h;have h1:=GJ (2*l.length) (by omega) (ofFn (2*l.length) (W l)) (vU _ _) (fun i j hi hj=>by
    rw[tJ _ hi hj];have:=LR l i j;exact aX (by omega) (by omega))
  rw[GH _ _ (W l) (fun i j hi hj=>tJ _ hi hj),← GI]at h1;unfold nZ.f iV;refine Ev.bind (CW h) ?_;exact Ev.bind h1 (Ev.now _)

end

section
variable {n:Int} {l:List (List Int)} (h:fB n l=true)
include h

theorem yd:(iV l).length≤21:=by
  obtain⟨g1,g2,g3⟩:=gp h;have:(iV l).length≤_:=Aq _ _;rw[show(dS (2*l.length) (W l) (2*l.length+1)).length=2*l.length+1 from gm _ _]at this
  omega

end
theorem LS (l:List Int): ∀n j:Nat,rd (dx l n) (j:Int)=if j<n then rd l (j:Int) else 0:=by
  intro n
  induction n with
  | zero=>intro j;rfl
  | succ n ih=>
    intro j;unfold dx
    by_cases c:rd l (n:Int)=0
    · rw[if_pos c,ih j]
      by_cases c1:j<n
      · rw[if_pos c1,if_pos (by omega)]
      · rw[if_neg c1]
        by_cases c2:j<n+1
        · rw[if_pos c2,show j=n by omega,c]
        · rw[if_neg c2]
    · rw[if_neg c]
      simp only[rd,List.getD_eq_getElem?_getD,Int.toNat_natCast,List.getElem?_take]
      split<;>rfl

theorem LU (t:Nat→Nat) {f g:Nat} (hf:rep t f=f) (hg:rep t g=g) (h:t f=t g):f=g:=by
  obtain⟨f1,f2,f3⟩:=qR t f;obtain⟨g1,g2,g3⟩:=qR t g;rw[hf]at f3;rw[hg]at g3;rcases Nat.lt_trichotomy f g with c | c | c
  · exact absurd h (g3 f c)
  · exact c
  · exact absurd h.symm (f3 g c)

/-- A sum of natural numbers. -/
def NS:Nat→(Nat→Nat)→Nat
  | 0,_=>0
  | n+1,e=>NS n e+e n

theorem LV (n:Nat) (e:Nat→Nat):((NS n e:Nat):Int)=Sm n (fun i=>(e i:Int)):=by
  induction n with
  | zero=>rfl
  | succ n ih=>
    show((NS n e+e n:Nat):Int)=Sm n (fun i=>(e i:Int))+(e n:Int)
    rw[← ih]
    omega

theorem LW (n:Nat) (e:Nat→Nat):Pr n (fun i=>(2:Int) ^ (e i))=2 ^ (NS n e):=by
  induction n with
  | zero=>rfl
  | succ n ih=>
    unfold Pr NS;rw[ih,Int.pow_add]

theorem LX {d:Int} (h:1≤d):d≤2 ^ ((d - 1).toNat):=by
  have h1:(d - 1).toNat<2 ^ (d - 1).toNat:=Nat.lt_two_pow_self;have h2:((2 ^ (d - 1).toNat:Nat):Int)=2 ^ (d - 1).toNat:=by rw[Int.natCast_pow];rfl
  omega

section
variable (m:Nat) (t:Nat→Nat)

/-- How many directed edges end where f begins. -/
def qU (f:Nat):Int:=Sm (2*m) (fun i=>if t f=t (flip i) then 1 else 0)

theorem GK {f:Nat} (hf:f<2*m):1≤qU m t f:=by
  have h:=GL (n:=2*m) (f:=fun i=>if t f=t (flip i) then (1:Int) else 0) (fun i _=>by split<;>omega) (si hf)
  simp only[flip_flip]at h;exact h

theorem LY:Sm (2*m) (fun f=>if rep t f=f then qU m t f else 0)≤((2*m:Nat):Int):=by
  have e:Sm (2*m) (fun f=>if rep t f=f then qU m t f else 0)=Sm (2*m) (fun i=>Sm (2*m) (fun f=>if rep t f=f∧t f=t (flip i) then 1 else 0)):=by
    rw[lE];refine bK (fun f _=> ?_)
    by_cases c:rep t f=f
    · rw[if_pos c]
      exact bK (fun i _=>by
        by_cases c2:t f=t (flip i)
        · rw[if_pos c2,if_pos ⟨c,c2⟩]
        · rw[if_neg c2,if_neg (fun z=>c2 z.2)])
    · rw[if_neg c,bK (g:=fun _=>0) (fun i _=>if_neg (fun z=>c z.1)),jR]
  rw[e];have:=ye (n:=2*m) (f:=fun i=>Sm (2*m) (fun f=>if rep t f=f∧t f=t (flip i) then (1:Int) else 0)) (b:=1) (fun i _=>Ar _ _ (fun f g _ _ hf hg=>LU t hf.1 hg.1 (hf.2.trans hg.2.symm)))
  omega

theorem LZ {f:Nat} (hf:f<2*m) (c:rep t f=f):cs (2*m) (fV (rep t) (fun _=>1*1) eM (2*m)) (fV (rep t) (fun _=>1*1) (ng (sm t (fun _=>1))) (2*m)) f≤qU m t f:=by
  have e: ∀i,i<2*m→ab (fV (rep t) (fun _=>1*1) eM (2*m) i f)+ab (fV (rep t) (fun _=>1*1) (ng (sm t (fun _=>1))) (2*m) i f)=is i f+((if t f=t (flip i) then 1 else 0)+ -1*is i (flip f)):=by
    intro i hi;unfold fV;rw[if_neg (fun z=>z.2 c),if_neg (fun z=>z.2 c)];have hx:ab (ng (sm t (fun _=>1)) i f)=tm t i f:=by
      unfold ng sm;rcases GM t i f with e2 | e2<;>rw[e2]<;>rfl
    rw[hx,Au];have hy:ab (eM i f)=is i f:=by unfold eM is ab;split<;>rfl
    rw[hy]
    omega
  unfold cs;rw[bK e,gz,gz,e7,sj _ _ hf,sj _ _ (si hf)];unfold qU
  omega

theorem L0 (hm:m≤10) (ht: ∀e,e<2*m→t e<8) (k:Nat):ab (ch (2*m) (sm t (fun _=>1)) k)≤1000000000000000:=by
  have h1:=GN (2*m) (rep t) (fun _=>1*1) (sm t (fun _=>1)) (fun f hf=>by have:=(qR t f).1;omega) (fun f _=>GP t f) k;have hc: ∀i,i<2*m→cs (2*m) (fV (rep t) (fun _=>1*1) eM (2*m)) (fV (rep t) (fun _=>1*1) (ng (sm t (fun _=>1))) (2*m)) i≤if rep t i=i then 20 else 4:=fun i hi=>GQ m t (fun _=>1) (fun _=> .inl rfl) i hi hm
  obtain⟨p1,p2⟩:=GR (2*m) (fun i=>decide (rep t i=i));have h3':Sm (2*m) (fun i=>if decide (rep t i=i)=true then (1:Int) else 0)=Sm (2*m) (fun f=>if rep t f=f then (1:Int) else 0):=bK (fun i _=>by simp)
  by_cases hx:Sm (2*m) (fun f=>if rep t f=f then (1:Int) else 0)≤4
  · have h2:Pr (2*m) (cs (2*m) (fV (rep t) (fun _=>1*1) eM (2*m)) (fV (rep t) (fun _=>1*1) (ng (sm t (fun _=>1))) (2*m)))≤Pr (2*m) (fun i=>if decide (rep t i=i) then 20 else 4):=Av (fun i _=>Aw _ _ _ i) (fun i hi=>by
      have:=hc i hi
      by_cases c:rep t i=i
      · rw[if_pos c]at this
        rw[if_pos (decide_eq_true c)];exact this
      · rw[if_neg c]at this
        rw[if_neg (by simpa using c)];exact this)
    rw[p1]at h2;rw[h3']at h2 p2;generalize Sm (2*m) (fun f=>if rep t f=f then (1:Int) else 0)=x at*;have h4:(5:Int) ^ x.toNat≤625:=by
      have: ∀i:Fin 5,(5:Int) ^ i.val≤625:=by decide
      exact this ⟨x.toNat,by omega⟩
    have h5:(4:Int) ^ (2*m)≤1099511627776:=by
      have: ∀i:Fin 21,(4:Int) ^ i.val≤1099511627776:=by decide
      exact this ⟨2*m,by omega⟩
    have h6:(4:Int) ^ (2*m)*5 ^ x.toNat≤1099511627776*5 ^ x.toNat:=Int.mul_le_mul_of_nonneg_right h5 (Int.pow_nonneg (by decide))
    omega
  · have h2:Pr (2*m) (cs (2*m) (fV (rep t) (fun _=>1*1) eM (2*m)) (fV (rep t) (fun _=>1*1) (ng (sm t (fun _=>1))) (2*m)))≤Pr (2*m) (fun i=>(2:Int) ^ (if rep t i=i then (qU m t i - 1).toNat else 2)):=Av (fun i _=>Aw _ _ _ i) (fun i hi=>by
      by_cases c:rep t i=i
      · rw[if_pos c]
        exact Int.le_trans (LZ m t hi c) (LX (GK m t hi))
      · rw[if_neg c]
        have:=hc i hi;rw[if_neg c]at this;exact this)
    rw[LW]at h2;have e:=LV (2*m) (fun i=>if rep t i=i then (qU m t i - 1).toNat else 2);rw[bK (g:=fun i=>(if rep t i=i then qU m t i else 0)+(-3*(if rep t i=i then 1 else 0)+2)) (fun i hi=>by
      have:=GK m t hi
      by_cases c:rep t i=i
      · rw[if_pos c,if_pos c,if_pos c];omega
      · rw[if_neg c,if_neg c,if_neg c];rfl),gz,gz,e7]at e
    have h3:=LY m t;have h4:Sm (2*m) (fun _=>(2:Int))≤((2*m:Nat):Int)*2:=ye (fun _ _=>Int.le_refl _);generalize NS (2*m) (fun i=>if rep t i=i then (qU m t i - 1).toNat else 2)=y at*;have h5:(2:Int) ^ y≤35184372088832:=by
      have: ∀i:Fin 46,(2:Int) ^ i.val≤35184372088832:=by decide
      exact this ⟨y,by omega⟩
    omega

end

theorem GS (l:List Int) (hs: ∀x∈l,small x=true) (hl:l.length≤40): ∀i,i≤l.length→whole (dx l i)=true:=by
  intro i
  induction i with
  | zero=>intro _;rfl
  | succ i ih=>
    intro hi;unfold dx
    by_cases c:rd l (i:Int)=0
    · rw[if_pos c]
      exact ih (by omega)
    · rw[if_neg c]
      rw[iw (by omega)]at c;have e:(l.take (i+1)).getLast?=some l[i]:=by
        rw[List.getLast?_eq_getElem?,List.length_take,List.getElem?_take,if_pos (by omega),show min (i+1) l.length - 1=i by omega,List.getElem?_eq_getElem (by omega)]
      unfold whole;rw[e,Bool.and_eq_true,Bool.and_eq_true];refine⟨⟨List.all_eq_true.2 (fun x hx=>hs x (List.mem_of_mem_take hx)),decide_eq_true (by rw[List.length_take];omega)⟩, ?_⟩
      simpa using c

theorem GU (n:Nat) (a:Nat→Nat→Int) (k:Nat) (h: ∀j,ab (ch n a j)≤1000000000000000): ∀x∈dS n a k,small x=true:=by
  intro x hx;unfold dS rowOf at hx;obtain⟨j,_,rfl⟩:=List.mem_map.1 hx;have:=h j;unfold ab at this;rw[aX (by omega) (by omega)];exact decide_eq_true (by omega)

section
variable {n:Int} {l:List (List Int)} (h:fB n l=true)
include h

theorem GV (j:Nat):ab (ch (2*l.length) (W l) j)≤1000000000000000:=by
  obtain⟨g1,g2,g3⟩:=gp h;have h1:=L0 l.length (tv l) g3 (fun e he=>by have:=CT h he;omega) j;rw[Ao _ (sm (tv l) (fun _=>1)) (W l) (fun i j hi hj=>by
    rw[CU h hi hj];unfold sm;rw[Int.one_mul]) j]at h1
  exact h1

theorem L3:whole (iV l)=true:=by
  obtain⟨g1,g2,g3⟩:=gp h;have e:(dS (2*l.length) (W l) (2*l.length+1)).length=2*l.length+1:=gm _ _;exact GS _ (GU _ _ _ (GV h)) (by omega) _ (by omega)

end
theorem L5 {xs ys:List Int} (h: ∀j:Nat,rd xs (j:Int)=rd ys (j:Int)): ∀i,dx xs i=dx ys i:=by
  intro i
  induction i with
  | zero=>rfl
  | succ i ih=>
    unfold dx
    by_cases c:rd xs (i:Int)=0
    · rw[if_pos c,if_pos (by rw[← h i];exact c),ih]
    · rw[if_neg c,if_neg (by rw[← h i];exact c)]
      have hx:i<xs.length:=Classical.byContradiction fun z=>c (lX (by omega))
      have hy:i<ys.length:=Classical.byContradiction fun z=>c (by rw[h i];exact lX (by omega))
      refine vY (by simp only[List.length_take];omega) (fun j hj=> ?_);simp only[List.length_take]at hj;have e: ∀zs:List Int,i<zs.length→rd (zs.take (i+1)) (j:Int)=rd zs (j:Int):=fun zs hz=>by
        rw[iw (by simp only[List.length_take];omega),iw (by omega),List.getElem_take]
      rw[e xs hx,e ys hy,h j]

theorem GW (xs:List Int): ∀d,dx xs (xs.length+d)=dx xs xs.length:=by
  intro d
  induction d with
  | zero=>rfl
  | succ d ih=>
    show dx xs (xs.length+d+1)=_
    rw[← ih]
    conv=>lhs;unfold dx
    rw[if_pos (lX (by omega))]

theorem GX {xs ys:List Int} (h: ∀j:Nat,rd xs (j:Int)=rd ys (j:Int)):dx xs xs.length=dx ys ys.length:=by
  rw[← GW xs ys.length,← GW ys xs.length,L5 h,Nat.add_comm]

theorem L6 (xs:List Int) (n j:Nat):rd (xs++List.replicate n 0) (j:Int)=rd xs (j:Int):=by
  by_cases h:j<xs.length
  · rw[iw (by simp;omega),iw h,List.getElem_append_left h]
  · rw[lX (xs:=xs) (by omega)]
    by_cases e:j<xs.length+n
    · rw[iw (by simp;omega),List.getElem_append_right (by omega),List.getElem_replicate]
    · rw[lX (by simp;omega)]

section
variable (n:Nat) (A:Nat→Nat→Int) (D:Nat→Int)

/-- The reference's matrix: A beside 1 - D above, the unit below. -/
def vf (i k:Nat):Int:=if i<n then (if k<n then A i k else if k - n=i then 1 - D i else 0) else if k=i - n then 1 else 0

def jS (i k:Nat):Int:=if i=k then 1 else 0
def jG (i k:Nat):Int:= - A i k
def gV (i k:Nat):Int:=if i=k then D i - 1 else 0

theorem GY (u:Int):cl (n+n) (xu (vf n A D) u)=cl n (vu jS (jG A) (gV D) u):=by
  rw[gJ (n+n) _ (bq n (fun i k=>eM i k - u*A i k) (fun i e=> -(u*(if e=i then 1 - D i else 0))) (fun e k=> -(u*gK 1 e k))) (fun i k hi hk=> ?_),L7]
  · refine gJ n _ _ (fun i k hi hk=> ?_)
    rw[bK (n:=n) (g:=fun e=>u*u*(if e=i then 1 - D i else 0)*gK 1 e k) (fun e _=>by grind),Ax n (fun e=>u*u*(if e=i then 1 - D i else 0)) 1 hk];unfold vu jS jG gV eM
    by_cases e:i=k
    · rw[if_pos e,if_pos e.symm,if_pos e]
      grind
    · rw[if_neg e,if_neg (fun z=>e z.symm),if_neg e]
      grind
  · unfold bq xu ng vf eM gK
    by_cases c:i<n
    · rw[if_pos c,if_pos c]
      by_cases gV:k<n
      · rw[if_pos gV,if_pos gV]
        grind
      · rw[if_neg gV,if_neg gV,if_neg (show ¬i=k by omega)]
        grind
    · rw[if_neg c,if_neg c]
      by_cases gV:k<n
      · rw[if_pos gV,if_neg (show ¬i=k by omega)]
        show _= -(u*if i - n=k then 1 else 0)
        by_cases e:k=i - n
        · rw[if_pos e,if_pos e.symm]
          grind
        · rw[if_neg e,if_neg (fun z=>e z.symm)]
          grind
      · rw[if_neg gV,if_neg (show ¬k=i - n by omega)]
        by_cases e:i=k
        · rw[if_pos e,if_pos (show i - n=k - n by omega)]
          grind
        · rw[if_neg e,if_neg (show ¬i - n=k - n by omega)]
          grind

/-- Both determinants have the same coefficients. -/
theorem GZ (hn:n≤8) (j:Nat):ch (n+n) (vf n A D) j=lF n jS (jG A) (gV D) n (2 ^ n - 1) j:=by
  have hv:=L8 n jS (jG A) (gV D) n (2 ^ n - 1)
  by_cases hj:n+n+1≤j
  · have h1:ch (n+n) (vf n A D) j=0:=mG (n+n) _ _ hj
    rw[h1,hv.1 j (by omega)]
  · have hp:=(sn n hn)
    obtain⟨f1,f2⟩:=G0 (2 ^ n - 1) n (fun d hd=>by rw[Nat.testBit_two_pow_sub_one];exact decide_eq_true hd);have key: ∀u:Int,cl (n+n) (xu (vf n A D) u)=Sm (n+n+1) (fun i=>lF n jS (jG A) (gV D) n (2 ^ n - 1) i*u ^ i):=by
      intro u;have h1:tK n jS (jG A) (gV D) u n (2 ^ n - 1)=_:=hv.2.1 u;rw[L9 n jS (jG A) (gV D) u (fun t c d ht hc hb=>CX n t c d hn ht hc hb) n (2 ^ n - 1) (by omega) f1]at h1;rw[GY,← Mc n (vu jS (jG A) (gV D) u),show n+n+1=2*n+1 by omega,← h1];refine gJ n _ _ (fun i k hi hk=> ?_);rw[f2 k hk]
    have:=Az (n+n+1) (fun m=>ch (n+n) (vf n A D) m - lF n jS (jG A) (gV D) n (2 ^ n - 1) m) (fun u _=>by
      have h1:=key u;rw[su]at h1;rw[bK (g:=fun m=>ch (n+n) (vf n A D) m*u ^ m+(-1)*(lF n jS (jG A) (gV D) n (2 ^ n - 1) m*u ^ m)) (fun m _=>by grind),gz,e7]
      omega) j (by omega)
    omega

end

section
variable {n:Int} {l:List (List Int)} (h:fB n l=true)
include h

theorem CY: ∀p:Nat,p≤2*l.length→∀v w:Nat,v<n.toNat→w<n.toNat→0≤bE (eN l n.toNat p) v w∧bE (eN l n.toNat p) v w≤p:=by
  obtain⟨g1,g2,g3⟩:=gp h;intro p
  induction p with
  | zero=>
    intro _ v w hv hw;have:bE (eN l n.toNat 0) v w=0:=by
      unfold bE;rw[jH (by simp only[eN,zeros,List.length_replicate];exact hv)];simp only[eN,zeros,List.getElem_replicate];exact yf _ _
    rw[this];exact⟨Int.le_refl _,by omega⟩
  | succ p ih=>
    intro hp v w hv hw;obtain⟨h1,h2⟩:=qm h p (by omega);obtain⟨a,b,ea,eb,ha,hb⟩:=AA h (show p<2*l.length by omega);have i1:=ih (by omega) v w hv hw;have i2:=ih (by omega) a b (by omega) (by omega);have CZ:=h2 a (by omega);unfold bE at i1 i2 ⊢;unfold eN bump;rw[ea,eb,Int.toNat_natCast,Int.toNat_natCast,vZ (by omega)]
    by_cases e:v=a
    · rw[if_pos e,qV (by omega)]
      by_cases e2:w=b
      · rw[if_pos e2,aX (by omega) (by omega)]
        omega
      · rw[if_neg e2]
        rw[e]at i1
        omega
    · rw[if_neg e]
      omega

/-- The graph's adjacency numbers and degrees. -/
def am (l:List (List Int)) (n:Nat):Nat→Nat→Int:=bE (eN l n (2*l.length))
def dm (l:List (List Int)) (v:Nat):Int:=((cnt l (v:Int) l.length:Nat):Int)

def ia (l:List (List Int)) (n:Nat):Nat→Nat→Int:=vf n (am l n) (dm l)

theorem Md (i k:Nat) (hi:i<n.toNat+n.toNat) (hk:k<n.toNat+n.toNat):wrap64 (ia l n.toNat i k)=ia l n.toNat i k:=by
  obtain⟨g1,g2,g3⟩:=gp h;have hd:=tL l (i:Int) l.length;unfold ia vf
  split
  · split
    · next jG gV=>
      have:=CY h (2*l.length) (Nat.le_refl _) i k jG gV;unfold am;exact aX (by omega) (by omega)
    · split
      · unfold dm
        exact aX (by omega) (by omega)
      · exact aX (by decide) (by decide)
  · split
    · exact aX (by decide) (by decide)
    · exact aX (by decide) (by decide)

theorem Me (i:Nat) (hi:i<n.toNat):(af (eN l n.toNat (2*l.length)) (i:Int)++List.replicate n.toNat 0).set (n.toNat+i) (wrap64 (1 - ((cnt l (i:Int) l.length:Nat):Int)))=rowOf (n.toNat+n.toNat) (ia l n.toNat i):=by
  obtain⟨g1,g2,g3⟩:=gp h;obtain⟨h1,h2⟩:=qm h (2*l.length) (Nat.le_refl _);have U7:=h2 i hi;have hd:=tL l (i:Int) l.length;refine vY (by simp[gm,U7]) (fun j hj=> ?_);simp only[List.length_set,List.length_append,List.length_replicate,U7]at hj;rw[qV (by simp[U7];omega),jK _ hj,L6];unfold ia vf;rw[if_pos hi]
  by_cases c:j=n.toNat+i
  · rw[if_pos c,if_neg (by omega),if_pos (by omega),aX (by omega) (by omega)]
    rfl
  · rw[if_neg c]
    by_cases gV:j<n.toNat
    · rw[if_pos gV]
      rfl
    · rw[if_neg gV,if_neg (by omega),lX (by omega)]

omit h in
theorem Mh (m i:Nat) (hi:i<m) (A:Nat→Nat→Int) (D:Nat→Int):(List.replicate (m+m) (0:Int)).set i 1=rowOf (m+m) (vf m A D (m+i)):=by
  rw[← yg,Ak _ _ (by omega)];refine nW (fun j hj=> ?_);unfold vf;rw[if_neg (show ¬m+i<m by omega),Nat.add_sub_cancel_left]

theorem Mj: ∀(d i:Nat),i+d=n.toNat→Ev (fun k=>eO.l1 k ((List.range (n.toNat+i)).map (fun r=>rowOf (n.toNat+n.toNat) (ia l n.toNat r))) (i:Int) n l) (dx (dS (n.toNat+n.toNat) (ia l n.toNat) (n.toNat+n.toNat+1)) (n.toNat+n.toNat+1),0):=by
  obtain⟨g1,g2,g3⟩:=gp h;intro d
  induction d with
  | zero=>
    intro i hi;obtain rfl:i=n.toNat:=by omega
    have hq:Sq (n.toNat+n.toNat) (ofFn (n.toNat+n.toNat) (ia l n.toNat)):=vU _ _;have hb:=GJ (n.toNat+n.toNat) (by omega) (ofFn (n.toNat+n.toNat) (ia l n.toNat)) hq (fun i j hi hj=>by rw[tJ _ hi hj];exact Md h i j hi hj);have hc:dS (n.toNat+n.toNat) (bE (ofFn (n.toNat+n.toNat) (ia l n.toNat))) (n.toNat+n.toNat+1)=dS (n.toNat+n.toNat) (ia l n.toNat) (n.toNat+n.toNat+1):=by
      unfold dS;refine nW (fun m hm=> ?_);rw[show ch (n.toNat+n.toNat) (bE (ofFn (n.toNat+n.toNat) (ia l n.toNat))) m=ch (n.toNat+n.toNat) (ia l n.toNat) m from ?_];have hu: ∀u:Int,cl (n.toNat+n.toNat) (xu (bE (ofFn (n.toNat+n.toNat) (ia l n.toNat))) u)=cl (n.toNat+n.toNat) (fun i k=>eM i k+u*ng (ia l n.toNat) i k):=fun u=>gJ _ _ _ (fun i k hi hk=>by
        unfold xu ng;rw[tJ _ hi hk])
      exact CS (n.toNat+n.toNat) _ eM (ng (ia l n.toNat)) hu m
    rw[hc]at hb;refine Ev.succ ?_;simp only[eO.l1];refine Ev.neg (by omega) (Ev.bind hb (Ev.now _))
  | succ d ih=>
    intro i hi;have h1:=ih (i+1) (by omega);rw[show n.toNat+(i+1)=n.toNat+i+1 by omega,tM,show rowOf (n.toNat+n.toNat) (ia l n.toNat (n.toNat+i))=_ from(Mh n.toNat i (by omega) (am l n.toNat) (dm l)).symm]at h1;refine Ev.succ ?_;simp only[eO.l1];rw[aX (x:=2*n) (by omega) (by omega),show(2*n).toNat=n.toNat+n.toNat by omega,dI (i:=i) (by omega),Int.toNat_natCast];refine Ev.pos (by omega) (Ev.pos (by omega) (Ev.pos (by omega) (Ev.bind (Ev.now _) ?_)));exact Ev.pos (by omega) (Ev.pos (by rw[List.length_replicate];omega) (Ev.pos (by simp;omega) h1))

theorem Mo: ∀(d i:Nat),i+d=n.toNat→Ev (fun k=>eO.l0 k (eN l n.toNat (2*l.length)) ((List.range i).map (fun r=>rowOf (n.toNat+n.toNat) (ia l n.toNat r))) (i:Int) n l) (dx (dS (n.toNat+n.toNat) (ia l n.toNat) (n.toNat+n.toNat+1)) (n.toNat+n.toNat+1),0):=by
  obtain⟨g1,g2,g3⟩:=gp h;obtain⟨f1,f2⟩:=qm h (2*l.length) (Nat.le_refl _);intro d
  induction d with
  | zero=>
    intro i hi;obtain rfl:i=n.toNat:=by omega
    have h1:=Mj h n.toNat 0 (by omega);rw[Nat.add_zero]at h1;refine Ev.succ ?_;simp only[eO.l0];exact Ev.neg (by omega) h1
  | succ d ih=>
    intro i hi;have h1:=ih (i+1) (by omega);have hr:=f2 i (by omega);have C0:Ev (fun k=>fe.f k n l (i:Int)) ((cnt l (i:Int) l.length:Nat):Int):=Mp l h (i:Int) l.length 0 (by omega);rw[tM,← Me h i (by omega)]at h1;refine Ev.succ ?_;simp only[eO.l0];refine Ev.pos (by omega) (Ev.pos (by omega) (Ev.pos (by omega) (Ev.bind (Ev.eq (we _ (by omega))) (Ev.pos (by omega) (Ev.pos (by omega) (Ev.bind (Ev.now _) (Ev.bind C0 ?_)))))));rw[aX (x:=n+(i:Int)) (by omega) (by omega),show(n+(i:Int)).toNat=n.toNat+i by omega,dI (i:=i) (by omega)];exact Ev.pos (by omega) (Ev.pos (by simp only[List.length_append,List.length_replicate];omega) (Ev.pos (by simp;omega) h1))

/-- The program's cells. -/
def cell (l:List (List Int)) (n i k:Nat):List Int:=[jS i k,jG (am l n) i k,gV (dm l) i k]
def cells (l:List (List Int)) (n i m:Nat):List (List Int):=(List.range m).map (cell l n i)
def qn (l:List (List Int)) (n m:Nat):List (List (List Int)):=(List.range m).map (fun i=>cells l n i n)

omit h in
theorem Mq:G1 n.toNat (qn l n.toNat n.toNat) jS (jG (am l n.toNat)) (gV (dm l)):=by
  refine⟨by simp[qn],fun r hr=> ?_⟩;have e:gA (qn l n.toNat n.toNat) (r:Int)=cells l n.toNat r n.toNat:=by
    simp[gA,qn,List.getD_eq_getElem?_getD,hr]
  rw[e];refine⟨by simp[cells],fun c hc=> ?_⟩;rw[jH (by simp only[cells,List.length_map,List.length_range];exact hc)];simp[cells,cell]

theorem Mu (i:Nat) (hi:i<n.toNat) (R:List Int) (hk:Ev (fun k=>gf.l0 k (qn l n.toNat (i+1)) (qo l n.toNat) (eN l n.toNat (2*l.length)) ((eN l n.toNat (2*l.length)).length:Int) ((i+1:Nat):Int)) R):
    ∀(d c:Nat),c+d=n.toNat→Ev (fun k=>gf.l1 k (qn l n.toNat i) (qo l n.toNat) (i:Int) (cells l n.toNat i c) (eN l n.toNat (2*l.length)) ((eN l n.toNat (2*l.length)).length:Int) (i:Int) (af (eN l n.toNat (2*l.length)) (i:Int)) ((af (eN l n.toNat (2*l.length)) (i:Int)).length:Int) (c:Int)) R:=by
  obtain⟨g1,g2,g3⟩:=gp h;obtain⟨f1,f2⟩:=qm h (2*l.length) (Nat.le_refl _);have hr:=f2 i hi;have U8:=G2 l n.toNat;intro d
  induction d with
  | zero=>
    intro c hc;obtain rfl:c=n.toNat:=by omega
    rw[show qn l n.toNat (i+1)=_ from tM _ _]at hk;refine Ev.succ ?_;simp only[gf.l1];rw[dI (i:=i) (by omega)];exact Ev.neg (by omega) (Ev.pos (by simp[qn];omega) hk)
  | succ d ih=>
    intro c hc;have h1:=ih (c+1) (by omega);rw[show cells l n.toNat i (c+1)=cells l n.toNat i c++[cell l n.toNat i c] from tM _ _]at h1;have hb:=CY h (2*l.length) (Nat.le_refl _) i c hi (by omega);have hd:=tL l (i:Int) l.length;have U7:rd (qo l n.toNat) (i:Int)=((cnt l (i:Int) l.length:Nat):Int):=xX _ hi;have hcl:(cells l n.toNat i c).length=c:=by simp[cells]
    unfold bE at hb;refine Ev.succ ?_;simp only[gf.l1];rw[dI (i:=c) (by omega),U7,aX (x:= -(rd (af (eN l n.toNat (2*l.length)) (i:Int)) (c:Int))) (by omega) (by omega),aX (x:=((cnt l (i:Int) l.length:Nat):Int) - 1) (by omega) (by omega)];refine Ev.pos (by omega) (Ev.pos (by omega) (Ev.pos (by omega) ?_))
    by_cases e:i=c
    · have e2:cell l n.toNat i c= [1, -(rd (af (eN l n.toNat (2*l.length)) (i:Int)) (c:Int)),((cnt l (i:Int) l.length:Nat):Int) - 1]:=by
        unfold cell jS jG gV am dm bE;rw[if_pos e,if_pos e]
      rw[e2]at h1;exact Ev.pos (by omega) (Ev.pos (by omega) (Ev.pos (by omega) (Ev.pos (by omega) h1)))
    · have e2:cell l n.toNat i c= [0, -(rd (af (eN l n.toNat (2*l.length)) (i:Int)) (c:Int)),0]:=by
        unfold cell jS jG gV am bE;rw[if_neg e,if_neg e]
      rw[e2]at h1;exact Ev.neg (by omega) (Ev.pos (by omega) h1)

theorem Mv:Ev (fun k=>gf.f k n l) (dx (dS (n.toNat+n.toNat) (ia l n.toNat) (n.toNat+n.toNat+1)) (n.toNat+n.toNat+1)):=by
  obtain⟨g1,g2,g3⟩:=gp h;obtain⟨f1,f2⟩:=qm h (2*l.length) (Nat.le_refl _);have hp:=polynomials n.toNat (qn l n.toNat n.toNat) jS (jG (am l n.toNat)) (gV (dm l)) (by omega) Mq (dx (dS (n.toNat+n.toNat) (ia l n.toNat) (n.toNat+n.toNat+1)) (n.toNat+n.toNat+1)) (fun ys hy hr=>by
    have hl:(dS (n.toNat+n.toNat) (ia l n.toNat) (n.toNat+n.toNat+1)).length=n.toNat+n.toNat+1:=gm _ _;have e:dx ys ys.length=dx (dS (n.toNat+n.toNat) (ia l n.toNat) (n.toNat+n.toNat+1)) (n.toNat+n.toNat+1):=by
      conv=>rhs;arg 2;rw[← hl]
      refine GX (fun j=> ?_);rw[hr j,← GZ n.toNat (am l n.toNat) (dm l) (by omega) j]
      by_cases c:j<n.toNat+n.toNat+1
      · exact(jK (fun m=>wrap64 (ch (n.toNat+n.toNat) (ia l n.toNat) m)) c).symm
      · rw[lX (by omega),show ch (n.toNat+n.toNat) (vf n.toNat (am l n.toNat) (dm l)) j=0 from mG (n.toNat+n.toNat) _ _ (by omega),aX (by decide) (by decide)]
    rw[← e];exact CN ys (by omega))
  have pI: ∀(d i:Nat),i+d=n.toNat→Ev (fun k=>gf.l0 k (qn l n.toNat i) (qo l n.toNat) (eN l n.toNat (2*l.length)) ((eN l n.toNat (2*l.length)).length:Int) (i:Int)) (dx (dS (n.toNat+n.toNat) (ia l n.toNat) (n.toNat+n.toNat+1)) (n.toNat+n.toNat+1)):=by
    intro d
    induction d with
    | zero=>
      intro i hi;obtain rfl:i=n.toNat:=by omega
      refine Ev.succ ?_;simp only[gf.l0];exact Ev.neg (by omega) (Ev.bind hp (Ev.now _))
    | succ d ih=>
      intro i hi;have h1:=Mu h i (by omega) _ (ih (i+1) (by omega)) n.toNat 0 (by omega);refine Ev.succ ?_;simp only[gf.l0];exact Ev.pos (by omega) (Ev.pos (by omega) (Ev.pos (by omega) h1))
  have hd:Ev (fun k=>j9.f k n l) (qo l n.toNat):=by
    unfold j9.f
    repeat (first | with_reducible exact Ev.now _ | dsimp only | refine Ev.bZ ?_ | refine Ev.cj ?_ | simp only[bne_self_eq_false,Bool.not_true,Bool.not_false,List.length_cons,List.length_nil] | rw[aX (by omega) (by omega)] | ((with_reducible refine Ev.eq (congrArg some ?_));rfl))
    refine My l h l.length 0 _ (by omega) (by simp) (fun v _=> ?_);rw[yf]
    rfl
  unfold gf.f;exact Ev.bind hd (Ev.bind (MA h) (pI n.toNat 0 (by omega)))

end

/-- What both sides answer. -/
def wh (l:List (List Int)) (n:Nat):List Int:=dx (dS (n+n) (ia l n) (n+n+1)) (n+n+1)
def lG (n:Int) (l:List (List Int)):List Int×Int:=if fB n l=true then (wh l n.toNat,0) else ([],1)

theorem MB (n:Int) (l:List (List Int)) (hl:Mod l):(lG n l).1.length≤1048576∧Ev (fun k=>eO.f k n l) (lG n l)∧Ev (fun k=>tN.f k n l) (lG n l):=by
  unfold eO.f tN.f lG;have h1:=qW n l hl;have h2:=wj n l hl
  by_cases hg:fB n l=true
  · rw[hg]at h1 h2
    obtain⟨g1,g2,g3⟩:=gp hg;rw[if_pos hg];refine⟨?_, ?_, ?_⟩
    · have:=Aq (dS (n.toNat+n.toNat) (ia l n.toNat) (n.toNat+n.toNat+1)) (n.toNat+n.toNat+1)
      have e:(dS (n.toNat+n.toNat) (ia l n.toNat) (n.toNat+n.toNat+1)).length=n.toNat+n.toNat+1:=gm _ _
      show(dx _ _).length≤_
      omega
    · exact Ev.bind h1 (Ev.pos rfl (Ev.bind (MC hg) (Mo hg n.toNat 0 (by omega))))
    · exact Ev.bind h2 (Ev.pos rfl (Ev.bind (Mv hg) (Ev.now _)))
  · rw[Bool.not_eq_true]at hg
    rw[hg]at h1 h2;rw[hg,if_neg (by decide)];refine⟨by simp, ?_, ?_⟩
    · repeat (first | with_reducible exact Ev.now _ | dsimp only | with_reducible refine Ev.bind (h1) ?_ | refine Ev.bZ ?_ | refine Ev.cj ?_ | simp only[bne_self_eq_false,Bool.not_true,Bool.not_false,List.length_cons,List.length_nil] | rw[aX (by omega) (by omega)] | with_reducible exact(h1) | ((with_reducible refine Ev.eq (congrArg some ?_));rfl))
    · repeat (first | with_reducible exact Ev.now _ | dsimp only | with_reducible refine Ev.bind (h2) ?_ | refine Ev.bZ ?_ | refine Ev.cj ?_ | simp only[bne_self_eq_false,Bool.not_true,Bool.not_false,List.length_cons,List.length_nil] | rw[aX (by omega) (by omega)] | with_reducible exact(h2) | ((with_reducible refine Ev.eq (congrArg some ?_));rfl))

theorem MD (n:Nat) (f:Nat→Int):ab (Sm n f)≤Sm n (fun i=>ab (f i)):=by
  induction n with
  | zero=>exact Int.le_refl _
  | succ n ih=>
    have:=yh (Sm n f) (f n)
    show ab (Sm n f+f n)≤Sm n (fun i=>ab (f i))+ab (f n)
    omega

section
variable (n:Nat) (b0 b1 b2:Nat→Nat→Int)

theorem MF (x y z:Int) (a:Nat→Int) (M:Int) (hM: ∀i,ab (a i)≤M) (j:Nat):ab (lY x y z a j)≤(ab x+ab y+ab z)*M:=by
  have h0:0≤M:=Int.le_trans (kU _) (hM 0);have one: ∀(s:Int) (i:Nat),ab (s*a i)≤ab s*M:=fun s i=>by
    rw[wk];exact Int.mul_le_mul_of_nonneg_left (hM i) (kU _)
  have two: ∀(c:Prop) [Decidable c] (s:Int) (i:Nat),ab (if c then s*a i else 0)≤ab s*M:=fun c _ s i=>by
    by_cases h:c
    · rw[if_pos h];exact one s i
    · rw[if_neg h];exact Int.mul_nonneg (kU _) h0
  rw[AB,Int.add_mul,Int.add_mul];have h1:=one x j;have h2:=two (1≤j) y (j - 1);have h3:=two (2≤j) z (j - 2);have a1:=yh (x*a j+if 1≤j then y*a (j - 1) else 0) (if 2≤j then z*a (j - 2) else 0);have a2:=yh (x*a j) (if 1≤j then y*a (j - 1) else 0)
  omega

theorem MG (B:Int) (h0:0≤B) (R:Nat) (hrow: ∀r,r<R→Sm n (fun c=>ab (b0 r c)+ab (b1 r c)+ab (b2 r c))≤B): ∀r,r≤R→∀t i,ab (lF n b0 b1 b2 r t i)≤B ^ r:=by
  intro r
  induction r with
  | zero=>
    intro _ t i;rw[Int.pow_zero]
    show ab (if i=0 then 1 else 0)≤1
    split<;>decide
  | succ r ih=>
    intro hr t i;have hB:0≤B ^ r:=Int.pow_nonneg h0;have h1: ∀c,c<n→ab (if t.testBit c then sg (iK n t c)*lY (b0 r c) (b1 r c) (b2 r c) (lF n b0 b1 b2 r (er t c)) i else 0)≤(ab (b0 r c)+ab (b1 r c)+ab (b2 r c))*B ^ r:=by
      intro c _;have h2:=MF (b0 r c) (b1 r c) (b2 r c) (lF n b0 b1 b2 r (er t c)) (B ^ r) (fun i=>ih (by omega) (er t c) i) i
      by_cases b:t.testBit c=true
      · rw[if_pos b,wk,show ab (sg (iK n t c))=1 by unfold sg;split<;>rfl,Int.one_mul]
        exact h2
      · rw[if_neg b]
        exact Int.le_trans (kU _) h2
    show ab (Sm n _)≤_
    refine Int.le_trans (MD n _) (Int.le_trans (yj h1) ?_);rw[jL,Int.pow_succ,Int.mul_comm (B ^ r)];exact Int.mul_le_mul_of_nonneg_right (hrow r (by omega)) hB

end

section
variable {n:Int} {l:List (List Int)} (h:fB n l=true)
include h

theorem MH: ∀p:Nat,p≤2*l.length→∀v w:Nat,v<n.toNat→w<n.toNat→bE (eN l n.toNat p) v w=Sm p (fun f=>if tl l f=(v:Int)∧hd l f=(w:Int) then 1 else 0):=by
  obtain⟨g1,g2,g3⟩:=gp h;intro p
  induction p with
  | zero=>
    intro _ v w hv hw;unfold bE;rw[jH (by simp only[eN,zeros,List.length_replicate];exact hv)];simp only[eN,zeros,List.getElem_replicate];exact yf _ _
  | succ p ih=>
    intro hp v w hv hw;obtain⟨h1,h2⟩:=qm h p (by omega);obtain⟨a,b,ea,eb,ha,hb⟩:=AA h (show p<2*l.length by omega);have i1:=ih (by omega) v w hv hw;have i3:=CY h p (by omega) a b (by omega) (by omega);have CZ:=h2 a (by omega)
    show _=Sm p (fun f=>if tl l f=(v:Int)∧hd l f=(w:Int) then 1 else 0)+(if tl l p=(v:Int)∧hd l p=(w:Int) then 1 else 0)
    rw[← i1,show eN l n.toNat (p+1)=bump (eN l n.toNat p) (tl l p) (hd l p) from rfl,ea,eb];unfold bE at i3 ⊢;unfold bump;rw[Int.toNat_natCast,Int.toNat_natCast,vZ (by omega)]
    by_cases e:v=a
    · rw[if_pos e,qV (by omega)]
      by_cases e2:w=b
      · rw[if_pos e2,aX (by omega) (by omega),if_pos ⟨by omega,by omega⟩,e,e2]
      · rw[if_neg e2,if_neg (fun z=>e2 (by omega)),e]
        omega
    · rw[if_neg e,if_neg (fun z=>e (by omega))]
      omega

theorem AE {f:Nat} (hf:f<2*l.length) (v:Nat):(tl l f=(v:Int))=(tv l f=v):=propext (by
  have:=Ap h hf;unfold tv
  omega)

theorem G3 (v w:Nat) (hv:v<n.toNat) (hw:w<n.toNat):am l n.toNat v w=av l.length (tv l) v w:=by
  unfold am av;rw[MH h _ (Nat.le_refl _) v w hv hw];refine bK (fun f hf=> ?_);rw[GG];simp only[AE h hf v,AE h (si hf) w]

theorem MI (v:Nat): ∀i,i≤l.length→((cnt l (v:Int) i:Nat):Int)=Sm (2*i) (fun f=>if tv l f=v then 1 else 0):=by
  intro i
  induction i with
  | zero=>intro _;rfl
  | succ i ih=>
    intro hi;have t0:tl l (2*i)=rd (af l (i:Int)) 0:=by
      unfold tl;rw[if_neg (by omega),show 2*i / 2=i by omega]
    have t1:tl l (2*i+1)=rd (af l (i:Int)) 1:=by
      unfold tl;rw[if_pos (by omega),show(2*i+1) / 2=i by omega]
    have h0:=AE h (show 2*i<2*l.length by omega) v;have h1:=AE h (show 2*i+1<2*l.length by omega) v;rw[t0]at h0;rw[t1]at h1
    show((cnt l (v:Int) i+(if rd (af l (i:Int)) 0=(v:Int) then 1 else 0)+(if rd (af l (i:Int)) 1=(v:Int) then 1 else 0):Nat):Int)=Sm (2*i) (fun f=>if tv l f=v then 1 else 0)+(if tv l (2*i)=v then 1 else 0)+(if tv l (2*i+1)=v then 1 else 0)
    rw[← ih (by omega)];simp only[← h0,← h1]
    split<;>split<;>omega

theorem MJ (v:Nat):dm l v=yl l.length (tv l) v:=MI h v _ (Nat.le_refl _)

theorem MK (u:Int) (v w:Nat) (hv:v<n.toNat) (hw:w<n.toNat):vu jS (jG (am l n.toNat)) (gV (dm l)) u v w=vm l.length (tv l) u v w:=by
  unfold vu vm jS jG gV eM;rw[G3 h v w hv hw,MJ h v,Int.mul_neg]
  omega

theorem ML (r:Nat) (hr:r<n.toNat):Sm n.toNat (fun c=>ab (jS r c)+ab (jG (am l n.toNat) r c)+ab (gV (dm l) r c))≤40:=by
  obtain⟨g1,g2,g3⟩:=gp h;rw[gz,gz];have h1:Sm n.toNat (fun c=>ab (jS r c))≤1:=by
    rw[bK (g:=fun c=>if r=c then 1 else 0) (fun c _=>by unfold jS ab;split<;>rfl)]
    exact Ar (fun c=>r=c) _ (fun f g _ _ hf hg=>hf.symm.trans hg)
  have h2:Sm n.toNat (fun c=>ab (jG (am l n.toNat) r c))≤20:=by
    rw[bK (g:=fun c=>Sm (2*l.length) (fun f=>if tv l f=r∧tv l (flip f)=c then 1 else 0)) (fun c hc=>by
      unfold jG;rw[G3 h r c hr hc];have:0≤av l.length (tv l) r c:=ym (fun f _=>by split<;>omega)
      unfold ab
      show((-(av l.length (tv l) r c)).natAbs:Int)=av l.length (tv l) r c
      omega),lE]
    have:=ye (n:=2*l.length) (f:=fun f=>Sm n.toNat (fun c=>if tv l f=r∧tv l (flip f)=c then (1:Int) else 0)) (b:=1) (fun f _=>Ar (fun c=>tv l f=r∧tv l (flip f)=c) _ (fun a b _ _ ha hb=>ha.2.symm.trans hb.2))
    omega
  have h3:Sm n.toNat (fun c=>ab (gV (dm l) r c))≤19:=by
    rw[bK (g:=fun c=>(if c=r then 1 else 0)*ab (dm l r - 1)) (fun c _=>by
      unfold gV
      by_cases e:r=c
      · rw[if_pos e,if_pos e.symm,Int.one_mul]
      · rw[if_neg e,if_neg (fun z=>e z.symm),Int.zero_mul];rfl),mH _ (fun _=>ab (dm l r - 1)) hr]
    have:=tL l (r:Int) l.length;unfold dm ab;have:l.length=0∨1≤l.length:=by omega
    omega
  omega

theorem G5 (j:Nat):ab (ch (n.toNat+n.toNat) (ia l n.toNat) j)≤1000000000000000:=by
  obtain⟨g1,g2,g3⟩:=gp h;unfold ia;rw[GZ n.toNat _ _ (by omega) j];have h1:=MG n.toNat jS (jG (am l n.toNat)) (gV (dm l)) 40 (by decide) n.toNat (fun r hr=>ML h r hr) n.toNat (Nat.le_refl _) (2 ^ n.toNat - 1) j;have h2:(40:Int) ^ n.toNat≤6553600000000:=by
    have: ∀i:Fin 9,(40:Int) ^ i.val≤6553600000000:=by decide
    exact this ⟨n.toNat,by omega⟩
  omega

theorem MM:whole (wh l n.toNat)=true:=by
  obtain⟨g1,g2,g3⟩:=gp h;have e:(dS (n.toNat+n.toNat) (ia l n.toNat) (n.toNat+n.toNat+1)).length=n.toNat+n.toNat+1:=gm _ _;exact GS _ (GU _ _ _ (G5 h)) (by omega) _ (by omega)

omit h in
theorem G6 (N:Nat) (a:Nat→Nat→Int) (hs: ∀j,ab (ch N a j)≤1000000000000000) (u:Int):Hn (dx (dS N a (N+1)) (N+1)) u=cl N (xu a u):=by
  have e:cl N (xu a u)=Sm (N+1) (fun i=>ch N a i*u ^ i):=(tO N eM (ng a)).2.1 u;have hl:=Aq (dS N a (N+1)) (N+1);rw[show(dS N a (N+1)).length=N+1 from gm _ _]at hl;have hc: ∀i,i<N+1→co (dx (dS N a (N+1)) (N+1)) i=ch N a i:=fun i hi=>by
    have:=hs i;unfold co;rw[LS,if_pos hi];unfold dS;rw[jK _ hi];unfold ab at this;exact aX (by omega) (by omega)
  rw[e];unfold Hn;rw[← Am (fun i=>co (dx (dS N a (N+1)) (N+1)) i*u ^ i) hl (fun i h1 _=>by rw[tH h1,Int.zero_mul])];exact bK (fun i hi=>by rw[hc i hi])

theorem MN (u:Int):(1 - u*u) ^ (2*l.length)*Hn (wh l n.toNat) u=(1 - u*u) ^ n.toNat*((1 - u*u) ^ l.length*Hn (iV l) u):=by
  obtain⟨g1,g2,g3⟩:=gp h;have h1:=MO n.toNat l.length (tv l) (fun e he=>by have:=CT h he;omega) u;have e1:Hn (wh l n.toNat) u=cl n.toNat (vm l.length (tv l) u):=by
    unfold wh;rw[G6 _ _ (G5 h)];unfold ia;rw[GY];exact gJ _ _ _ (fun i k hi hk=>MK h u i k hi hk)
  have e2:Hn (iV l) u=cl (2*l.length) (xu (tm (tv l)) u):=by
    unfold iV;rw[G6 _ _ (GV h)];exact gJ _ _ _ (fun i k hi hk=>by unfold xu ng;rw[CU h hi hk])
  rw[e1,e2];exact h1

end

theorem C2 {x:Int} (h:x≠0) (k:Nat):x ^ k≠0:=by
  induction k with
  | zero=>rw[Int.pow_zero];decide
  | succ k ih=>
    rw[Int.pow_succ];exact Int.mul_ne_zero ih h

/-- Whole lists with the same values are the same. -/
theorem MP (P Q:List Int) (hP:whole P=true) (hQ:whole Q=true) (h: ∀u:Int,2≤u→Hn P u=Hn Q u):P=Q:=by
  have hx: ∀i,i<P.length+Q.length→co P i - co Q i=0:=C3 _ (fun i=>co P i - co Q i) (fun u hu=>by
    have h1:=h u hu;unfold Hn at h1;rw[← Am (e:=P.length+Q.length) (fun i=>co P i*u ^ i) (by omega) (fun i h1 _=>by rw[tH h1,Int.zero_mul]),← Am (d:=Q.length) (e:=P.length+Q.length) (fun i=>co Q i*u ^ i) (by omega) (fun i h1 _=>by rw[tH h1,Int.zero_mul])]at h1;rw[bK (g:=fun i=>co P i*u ^ i+ -1*(co Q i*u ^ i)) (fun i _=>by rw[Int.sub_mul];omega),gz,e7]
    omega)
  have hy: ∀j:Nat,rd P (j:Int)=rd Q (j:Int):=fun j=>by
    by_cases c:j<P.length+Q.length
    · have:=hx j c
      unfold co at this
      omega
    · rw[lX (by omega),lX (by omega)]
  have:=GX hy;rw[GF hP,GF hQ]at this;exact this

theorem MQ (N m:Nat) (P Q R V:List Int) (hP: ∀u,Hn P u=Hn R u*(1 - u*u) ^ (N - m)) (hQ: ∀u,Hn Q u=Hn V u*(1 - u*u) ^ (m - N)) (hb: ∀u:Int,(1 - u*u) ^ (2*m)*Hn V u=(1 - u*u) ^ N*((1 - u*u) ^ m*Hn R u)) (u:Int) (hu:2≤u):Hn P u=Hn Q u:=by
  have h4:2*2≤u*u:=Int.mul_le_mul hu hu (by decide) (by omega);have hx:1 - u*u≠0:=by omega
  have h1:=hb u;rw[hP u,hQ u];generalize 1 - u*u=x at*;generalize Hn R u=r at*;generalize Hn V u=v at*;rcases Nat.le_total m N with c | c
  · obtain⟨d,rfl⟩:=Nat.exists_eq_add_of_le c
    rw[show m+d - m=d by omega,show m - (m+d)=0 by omega,Int.pow_zero,Int.mul_one];rw[show 2*m=m+m by omega,Int.pow_add,Int.pow_add]at h1;have hy:=C2 hx m;refine(Int.eq_of_mul_eq_mul_left (Int.mul_ne_zero hy hy) (h1.trans ?_)).symm;generalize x ^ m=y;generalize x ^ d=z
    grind
  · obtain⟨d,rfl⟩:=Nat.exists_eq_add_of_le c
    rw[show N+d - N=d by omega,show N - (N+d)=0 by omega,Int.pow_zero,Int.mul_one];rw[show 2*(N+d)=N+d+(N+d) by omega,Int.pow_add,Int.pow_add]at h1;have hy:=C2 hx N;have hz:=C2 hx d;refine(Int.eq_of_mul_eq_mul_left (Int.mul_ne_zero (Int.mul_ne_zero hy hy) hz) (Eq.trans ?_ (h1.trans ?_))).symm
    · generalize x ^ N=y
      generalize x ^ d=z
      grind
    · generalize x ^ N=y
      generalize x ^ d=z
      grind
/-- What both sides answer. -/
def ke (n:Int) (l:List (List Int)):List Int×Int:=if fB n l=true then (iV l,0) else ([],1)

theorem C4 (n:Int) (l:List (List Int)) (hl:Mod l):(ke n l).1.length≤1048576∧Ev (fun k=>tP.f k n l) (ke n l)∧Ev (fun k=>pJ.f k n l) (ke n l):=by
  unfold tP.f pJ.f ke;have h1:=qW n l hl;have h2:=wj n l hl
  by_cases hg:fB n l=true
  · rw[hg]at h1 h2
    have:=yd hg;rw[if_pos hg];refine⟨by show(iV l).length≤_;omega, ?_, ?_⟩
    · repeat (first | with_reducible exact Ev.now _ | dsimp only | with_reducible refine Ev.bind (h1) ?_ | with_reducible refine Ev.bind (yc hg) ?_ | refine Ev.bZ ?_ | refine Ev.cj ?_ | simp only[bne_self_eq_false,Bool.not_true,Bool.not_false,List.length_cons,List.length_nil] | rw[aX (by omega) (by omega)] | with_reducible exact(h1) | with_reducible exact(yc hg) | ((with_reducible refine Ev.eq (congrArg some ?_));rfl))
    · repeat (first | with_reducible exact Ev.now _ | dsimp only | with_reducible refine Ev.bind (h2) ?_ | with_reducible refine Ev.bind (xZ hg) ?_ | refine Ev.bZ ?_ | refine Ev.cj ?_ | simp only[bne_self_eq_false,Bool.not_true,Bool.not_false,List.length_cons,List.length_nil] | rw[aX (by omega) (by omega)] | with_reducible exact(h2) | with_reducible exact(xZ hg) | ((with_reducible refine Ev.eq (congrArg some ?_));rfl))
  · rw[Bool.not_eq_true]at hg
    rw[hg]at h1 h2;rw[hg,if_neg (by decide)];refine⟨by simp, ?_, ?_⟩
    · repeat (first | with_reducible exact Ev.now _ | dsimp only | with_reducible refine Ev.bind (h1) ?_ | refine Ev.bZ ?_ | refine Ev.cj ?_ | simp only[bne_self_eq_false,Bool.not_true,Bool.not_false,List.length_cons,List.length_nil] | rw[aX (by omega) (by omega)] | with_reducible exact(h1) | ((with_reducible refine Ev.eq (congrArg some ?_));rfl))
    · repeat (first | with_reducible exact Ev.now _ | dsimp only | with_reducible refine Ev.bind (h2) ?_ | refine Ev.bZ ?_ | refine Ev.cj ?_ | simp only[bne_self_eq_false,Bool.not_true,Bool.not_false,List.length_cons,List.length_nil] | rw[aX (by omega) (by omega)] | with_reducible exact(h2) | ((with_reducible refine Ev.eq (congrArg some ?_));rfl))

/-- What both sides answer. -/
def mI (n:Int) (l:List (List Int)):List (List Int)×Int:=if fB n l=true then (kf l (2*l.length),0) else ([],1)

theorem MR (n:Int) (l:List (List Int)) (hl:Mod l):Mod (mI n l).1∧Ev (fun k=>tQ.f k n l) (mI n l)∧Ev (fun k=>tR.f k n l) (mI n l):=by
  unfold tQ.f tR.f mI;have h1:=qW n l hl;have h2:=wj n l hl
  by_cases hg:fB n l=true
  · rw[hg]at h1 h2
    obtain⟨g1,g2,g3⟩:=gp hg;rw[if_pos hg];refine⟨MS l g3, ?_, ?_⟩
    · repeat (first | with_reducible exact Ev.now _ | dsimp only | with_reducible refine Ev.bind (h1) ?_ | with_reducible refine Ev.bind (CW hg) ?_ | refine Ev.bZ ?_ | refine Ev.cj ?_ | simp only[bne_self_eq_false,Bool.not_true,Bool.not_false,List.length_cons,List.length_nil] | rw[aX (by omega) (by omega)] | with_reducible exact(h1) | with_reducible exact(CW hg) | ((with_reducible refine Ev.eq (congrArg some ?_));rfl))
    · repeat (first | with_reducible exact Ev.now _ | dsimp only | with_reducible refine Ev.bind (h2) ?_ | with_reducible refine Ev.bind (CV hg) ?_ | refine Ev.bZ ?_ | refine Ev.cj ?_ | simp only[bne_self_eq_false,Bool.not_true,Bool.not_false,List.length_cons,List.length_nil] | rw[aX (by omega) (by omega)] | with_reducible exact(h2) | with_reducible exact(CV hg) | ((with_reducible refine Ev.eq (congrArg some ?_));rfl))
  · rw[Bool.not_eq_true]at hg
    rw[hg]at h1 h2;rw[hg,if_neg (by decide)];refine⟨⟨by simp,fun r hr=>absurd hr (by simp)⟩, ?_, ?_⟩
    · repeat (first | with_reducible exact Ev.now _ | dsimp only | with_reducible refine Ev.bind (h1) ?_ | refine Ev.bZ ?_ | refine Ev.cj ?_ | simp only[bne_self_eq_false,Bool.not_true,Bool.not_false,List.length_cons,List.length_nil] | rw[aX (by omega) (by omega)] | with_reducible exact(h1) | ((with_reducible refine Ev.eq (congrArg some ?_));rfl))
    · repeat (first | with_reducible exact Ev.now _ | dsimp only | with_reducible refine Ev.bind (h2) ?_ | refine Ev.bZ ?_ | refine Ev.cj ?_ | simp only[bne_self_eq_false,Bool.not_true,Bool.not_false,List.length_cons,List.length_nil] | rw[aX (by omega) (by omega)] | with_reducible exact(h2) | ((with_reducible refine Ev.eq (congrArg some ?_));rfl))

/-- The sums of the first numbers. -/
def iy (f:List Int) (i:Nat):Int:=wrap64 (Sm i (fun j=>rd f (j:Int)))
def fj (f:List Int) (k:Nat):List Int:=rowOf k (fun i=>iy f (i+1))

theorem C5 (f:List Int) (i:Nat):wrap64 (iy f i+rd f (i:Int))=iy f (i+1):=C6 _ _

/-- How often 1 - u divides, from a list on. -/
def ord:Nat→List Int→Int
  | 0,_=>0
  | d+1,f=>if iy f f.length=0 then ord d (dx (fj f f.length) f.length)+1 else 0

/-- The reference's quotient by 1 - u. -/
theorem MT (f:List Int) (h2:2≤f.length) (hf:f.length≤1000) (hr: ∀i,i<f.length→wrap64 (rd f (i:Int))=rd f (i:Int)): ∃b:Bool,Ev (fun k=>fS.f k f [1, -1]) (dx (fj f (f.length - 1)) (f.length - 1),b):=by
  have hq:(fj f (f.length - 1)).length=f.length - 1:=gm _ _;have last: ∀(p:List Int) (d i:Nat) (b:Bool),i+d=f.length→(b=true→p.length=f.length)→∃b':Bool,Ev (fun k=>fS.l2 k f (fj f (f.length - 1)) p b (i:Int)) (dx (fj f (f.length - 1)) (f.length - 1),b'):=by
    intro p d;have ht:=C8 (fj f (f.length - 1)) (by omega);rw[hq]at ht
    induction d with
    | zero=>
      intro i b hi hb;refine⟨b, ?_⟩;refine Ev.succ ?_;simp only[fS.l2];exact Ev.neg (by omega) (Ev.bind ht (Ev.now _))
    | succ d ih=>
      intro i b hi hb;cases b with
      | false=>
        refine⟨false, ?_⟩;refine Ev.succ ?_;simp only[fS.l2];exact Ev.pos (by omega) (Ev.neg (by decide) (Ev.bind ht (Ev.now _)))
      | true=>
        have hp:=hb rfl;obtain⟨b',h1⟩:=ih (i+1) (rd p (i:Int) == rd f (i:Int)) (by omega) (fun _=>hp);refine⟨b', ?_⟩;refine Ev.succ ?_;simp only[fS.l2];rw[dI (i:=i) (by omega)];exact Ev.pos (by omega) (Ev.pos (by simp) (Ev.pos (by omega) (Ev.pos (by omega) h1)))
  obtain⟨p,hp,U7⟩:=MV (fj f (f.length - 1)) [1, -1] (by omega) (by simp);obtain⟨b,hlast⟩:=last p f.length 0 ((p.length:Int) == (f.length:Int)) (by omega) (fun e=>by have:=eq_of_beq e;omega);refine⟨b, ?_⟩;have main: ∀(d k:Nat),k+d=f.length - 1→Ev (fun n=>fS.l0 n f [1, -1] (fj f k) (k:Int)) (dx (fj f (f.length - 1)) (f.length - 1),b):=by
    intro d
    induction d with
    | zero=>
      intro k hk;obtain rfl:k=f.length - 1:=by omega
      refine Ev.succ ?_;simp only[fS.l0];rw[aX (x:=(f.length:Int) - (([1, -1]:List Int).length:Int)) (by simp;omega) (by simp;omega)];exact Ev.neg (by simp;omega) (Ev.bind U7 hlast)
    | succ d ih=>
      intro k hk;have h1:=ih (k+1) (by omega);have hl:(fj f k).length=k:=gm _ _;have e:fj f k++[iy f (k+1)]=fj f (k+1):=vV k _;have U8:wrap64 (iy f (k+1)*1)=iy f (k+1):=by rw[Int.mul_one];exact wrap_wrap _
      rw[← e]at h1;have done: ∀x9:Nat,1≤x9→(k<x9∨2≤x9)→Ev (fun n=>fS.l1 n f [1, -1] (fj f k) (k:Int) (iy f (k+1)) (x9:Int)) (dx (fj f (f.length - 1)) (f.length - 1),b):=by
        intro x9 h91 h9;refine Ev.succ ?_;simp only[fS.l1];rw[dI (i:=k) (by omega),show rd ([1, -1]:List Int) 0=1 from rfl,U8]
        by_cases c:(x9:Int)≤(k:Int)
        · exact Ev.pos c (Ev.neg (by simp;omega) (Ev.pos (by simp) (Ev.pos (by omega) h1)))
        · exact Ev.neg c (Ev.pos (by simp) (Ev.pos (by omega) h1))
      refine Ev.succ ?_;simp only[fS.l0];rw[aX (x:=(f.length:Int) - (([1, -1]:List Int).length:Int)) (by simp;omega) (by simp;omega)];refine Ev.pos (by simp;omega) (Ev.pos (by omega) (Ev.pos (by omega) ?_))
      by_cases c:k=0
      · have e0:rd f (k:Int)=iy f (k+1):=by
          rw[← hr k (by omega),c];unfold iy Sm Sm;rw[Int.zero_add]
        rw[e0];exact done 1 (by omega) (by omega)
      · refine Ev.succ ?_;simp only[fS.l1]
        have e0:rd (fj f k) ((k - 1:Nat):Int)=iy f k:=by
          unfold fj;rw[jK _ (by omega),Nat.sub_add_cancel (by omega)]
        have e1:wrap64 (rd f (k:Int) - wrap64 (-1*iy f k))=iy f (k+1):=by
          rw[← C5];unfold wrap64
          omega
        rw[aX (x:=(k:Int) - 1) (by omega) (by omega),show(k:Int) - 1=((k - 1:Nat):Int) by omega,e0,show rd ([1, -1]:List Int) 1= -1 from rfl,e1,show wrap64 ((1:Int)+1)=((2:Nat):Int) from aX (by decide) (by decide)];exact Ev.pos (by omega) (Ev.pos (by simp) (Ev.pos (by omega) (Ev.pos (by omega) (Ev.pos (by omega) (done 2 (by omega) (by omega))))))
  unfold fS.f;exact Ev.neg (by omega) (Ev.neg (by simp;omega) (main (f.length - 1) 0 (by omega)))

theorem MW (f:List Int) (hf:f.length≤1000):Ev (fun k=>lH.f k f 1) (iy f f.length):=by
  have key: ∀i:Nat,i≤f.length→Ev (fun k=>lH.l0 k f 1 (wrap64 (Sm (f.length - i) (fun j=>rd f ((i+j:Nat):Int)))) ((i:Int) - 1)) (iy f f.length):=by
    intro i
    induction i with
    | zero=>
      intro _;refine Ev.succ ?_;simp only[lH.l0];refine Ev.neg (by omega) ?_;have e:Sm (f.length - 0) (fun j=>rd f ((0+j:Nat):Int))=Sm f.length (fun j=>rd f (j:Int)):=by
        rw[Nat.sub_zero];exact bK (fun j _=>by rw[Nat.zero_add])
      rw[e];exact Ev.now _
    | succ i ih=>
      intro hi;have h1:=ih (by omega);have e:Sm (f.length - i) (fun j=>rd f ((i+j:Nat):Int))=rd f (i:Int)+Sm (f.length - (i+1)) (fun j=>rd f ((i+1+j:Nat):Int)):=by
        rw[show f.length - i=f.length - (i+1)+1 by omega,r9]
        congr 1
        exact bK (fun j _=>by rw[show i+(j+1)=i+1+j by omega])
      rw[e]at h1;refine Ev.succ ?_;simp only[lH.l0];rw[show((i+1:Nat):Int) - 1=(i:Int) by omega,aX (x:=(i:Int) - 1) (by omega) (by omega),Int.mul_one,wrap_wrap,C6,Int.add_comm (Sm _ _)];exact Ev.pos (by omega) (Ev.pos (by omega) (Ev.pos (by omega) h1))
  have h0:=key f.length (Nat.le_refl _);unfold lH.f;rw[aX (x:=(f.length:Int) - 1) (by omega) (by omega)];rw[Nat.sub_self,show wrap64 (Sm 0 (fun j=>rd f ((f.length+j:Nat):Int)))=0 from aX (x:=0) (by decide) (by decide)]at h0;exact h0

theorem MX (l:List Int) (i:Nat) (h:rd l (i:Int)=0):dx l (i+1)=dx l i:=by
  show(if rd l (i:Int)=0 then dx l i else l.take (i+1))=_
  rw[if_pos h]

theorem MZ (l:List Int) (k:Nat): ∀i,i≤k→dx (l.take k) i=dx l i:=by
  intro i
  induction i with
  | zero=>intro _;rfl
  | succ i ih=>
    intro hi;have e:rd (l.take k) (i:Int)=rd l (i:Int):=by
      simp only[rd,List.getD_eq_getElem?_getD,Int.toNat_natCast,List.getElem?_take];rw[if_pos (by omega)]
    unfold dx;rw[e,ih (by omega),List.take_take,Nat.min_eq_left hi]

theorem G7 (l:List Int) (h:rd l 0≠0) (hl:l≠[]): ∀i,0<i→∃m,0<m∧m≤i∧dx l i=l.take m:=by
  intro i
  induction i with
  | zero=>intro h0;omega
  | succ i ih=>
    intro _;unfold dx
    by_cases c:rd l (i:Int)=0
    · rw[if_pos c]
      have hi:0<i:=by
        apply Classical.byContradiction;intro z;exact h (by rw[show i=0 by omega]at c;exact c)
      obtain⟨m,m0,m1,m2⟩:=ih hi;exact⟨m,m0,by omega,m2⟩
    · rw[if_neg c]
      exact⟨i+1,by omega,by omega,rfl⟩

/-- A list that starts with 1, of numbers that fit. -/
def One (f:List Int):Prop:=0<f.length∧rd f 0=1∧∀i,i<f.length→wrap64 (rd f (i:Int))=rd f (i:Int)

theorem One.next {f:List Int} (h:One f) (h0:iy f f.length=0):2≤f.length∧dx (fj f (f.length - 1)) (f.length - 1)=dx (fj f f.length) f.length∧One (dx (fj f f.length) f.length)∧(dx (fj f f.length) f.length).length<f.length:=by
  obtain⟨a,b,c⟩:=h;have p1:iy f 1=1:=by
    unfold iy Sm Sm
    show wrap64 (0+rd f 0)=1
    rw[b];exact aX (by decide) (by decide)
  have h2:2≤f.length:=by
    apply Classical.byContradiction;intro z;rw[show f.length=1 by omega,p1]at h0;cases h0
  have hlast:rd (fj f f.length) ((f.length - 1:Nat):Int)=0:=by
    unfold fj;rw[jK _ (by omega),Nat.sub_add_cancel (by omega),h0]
  have e1:dx (fj f f.length) f.length=dx (fj f f.length) (f.length - 1):=by
    have:=MX (fj f f.length) (f.length - 1) hlast;rw[Nat.sub_add_cancel (by omega)]at this;exact this
  have e2:fj f (f.length - 1)=(fj f f.length).take (f.length - 1):=by
    unfold fj rowOf;rw[← List.map_take,List.take_range,Nat.min_eq_left (by omega)]
  have e3:rd (fj f f.length) 0=1:=by
    have:=jK (n:=f.length) (i:=0) (fun i=>iy f (i+1)) a;exact this.trans p1
  have hl:(fj f f.length).length=f.length:=gm _ _;obtain⟨m,m0,m1,m2⟩:=G7 (fj f f.length) (by rw[e3];decide) (fun z=>by rw[z]at hl;simp at hl;omega) (f.length - 1) (by omega);refine⟨h2, ?_, ?_, ?_⟩
  · rw[e1,e2,MZ _ _ _ (Nat.le_refl _)]
  · rw[e1,m2]
    have hr: ∀i,i<m→rd ((fj f f.length).take m) (i:Int)=rd (fj f f.length) (i:Int):=fun i hi=>by
      simp only[rd,List.getD_eq_getElem?_getD,Int.toNat_natCast,List.getElem?_take];rw[if_pos hi]
    refine⟨by rw[List.length_take];omega,(hr 0 m0).trans e3,fun i hi=> ?_⟩;rw[List.length_take]at hi;rw[hr i (by omega)];unfold fj;rw[jK _ (by omega)];exact wrap_wrap _
  · rw[e1,m2,List.length_take]
    omega

theorem M0: ∀(d:Nat) (f:List Int) (o:Nat),One f→f.length≤d→d+o≤1000→f.length≤1000→Ev (fun k=>mJ.l0 k (o:Int) f) ((o:Int)+ord d f,0):=by
  intro d
  induction d with
  | zero=>intro f o h hd;have:=h.1;omega
  | succ d ih=>
    intro f o h hd ho hf;refine Ev.succ ?_;simp only[mJ.l0];refine Ev.bind (MW f hf) ?_;unfold ord
    by_cases c:iy f f.length=0
    · obtain⟨h2,e,hn,hlt⟩:=h.next c
      obtain⟨b,U7⟩:=MT f h2 hf h.2.2;rw[e]at U7;have h1:=ih _ (o+1) hn (by omega) (by omega) (by omega);rw[if_pos c,dI (i:=o) (by omega)];rw[show((o+1:Nat):Int)+ord d (dx (fj f f.length) f.length)=(o:Int)+(ord d (dx (fj f f.length) f.length)+1) by omega]at h1;exact Ev.pos c (Ev.bind U7 h1)
    · rw[if_neg c,Int.add_zero]
      exact Ev.neg c (Ev.now _)

theorem M3: ∀(d:Nat) (f:List Int) (o:Nat),One f→f.length≤d→d+o≤1000→f.length≤1000→∃g:List Int,Ev (fun k=>ja.l0 k f (o:Int)) ((o:Int)+ord d f,g):=by
  intro d
  induction d with
  | zero=>intro f o h hd;have:=h.1;omega
  | succ d ih=>
    intro f o h hd ho hf;have hl:(fj f f.length).length=f.length:=gm _ _;have ends: ∃g:List Int,Ev (fun k=>ja.l1 k f (o:Int) (fj f f.length) (iy f f.length) (f.length:Int) (f.length:Int)) ((o:Int)+ord (d+1) f,g):=by
      unfold ord
      by_cases c:iy f f.length=0
      · obtain⟨h2,e,hn,hlt⟩:=h.next c
        obtain⟨g,h1⟩:=ih _ (o+1) hn (by omega) (by omega) (by omega);rw[show((o+1:Nat):Int)+ord d (dx (fj f f.length) f.length)=(o:Int)+(ord d (dx (fj f f.length) f.length)+1) by omega]at h1;have ht:=CN (fj f f.length) (by omega);rw[hl]at ht;refine⟨g, ?_⟩;refine Ev.succ ?_;simp only[ja.l1];rw[if_pos c,dI (i:=o) (by omega)];exact Ev.neg (by omega) (Ev.pos c (Ev.bind ht h1))
      · refine⟨f, ?_⟩
        refine Ev.succ ?_;simp only[ja.l1];rw[if_neg c,Int.add_zero];exact Ev.neg (by omega) (Ev.neg c (Ev.now _))
    obtain⟨g,hg⟩:=ends;refine⟨g, ?_⟩;have loop: ∀(e i:Nat),i+e=f.length→Ev (fun k=>ja.l1 k f (o:Int) (fj f i) (iy f i) (f.length:Int) (i:Int)) ((o:Int)+ord (d+1) f,g):=by
      intro e
      induction e with
      | zero=>
        intro i hi;obtain rfl:i=f.length:=by omega
        exact hg
      | succ e ih2=>
        intro i hi;have h1:=ih2 (i+1) (by omega);have U7:(fj f i).length=i:=gm _ _;have e1:fj f i++[iy f (i+1)]=fj f (i+1):=vV i _;rw[← e1]at h1;refine Ev.succ ?_;simp only[ja.l1];rw[C5,dI (i:=i) (by omega)];exact Ev.pos (by omega) (Ev.pos (by omega) (Ev.pos (by omega) (Ev.pos (by omega) h1)))
    have h0:=loop f.length 0 (by omega);rw[show iy f 0=0 from aX (x:=0) (by decide) (by decide)]at h0;refine Ev.succ ?_;simp only[ja.l0];exact h0

theorem G8 {n:Int} {l:List (List Int)} (h:fB n l=true):One (iV l):=by
  obtain⟨g1,g2,g3⟩:=gp h;have hl:(dS (2*l.length) (W l) (2*l.length+1)).length=2*l.length+1:=gm _ _;have e0:rd (dS (2*l.length) (W l) (2*l.length+1)) 0=1:=by
    have:=jK (n:=2*l.length+1) (i:=0) (fun m=>wrap64 (ch (2*l.length) (W l) m)) (by omega);refine this.trans ?_
    show wrap64 (ch (2*l.length) (W l) 0)=1
    rw[show ch (2*l.length) (W l) 0=1 from(xW _ eM (ng (W l))).trans (CQ _)];exact aX (by decide) (by decide)
  obtain⟨m,m0,m1,m2⟩:=G7 (dS (2*l.length) (W l) (2*l.length+1)) (by rw[e0];decide) (fun z=>by rw[z]at hl;simp at hl) (2*l.length+1) (by omega);unfold iV;rw[m2];have hr: ∀i,i<m→rd ((dS (2*l.length) (W l) (2*l.length+1)).take m) (i:Int)=rd (dS (2*l.length) (W l) (2*l.length+1)) (i:Int):=fun i hi=>by
    simp only[rd,List.getD_eq_getElem?_getD,Int.toNat_natCast,List.getElem?_take];rw[if_pos hi]
  refine⟨by rw[List.length_take];omega,(hr 0 m0).trans e0,fun i hi=> ?_⟩;rw[List.length_take]at hi;rw[hr i (by omega)];unfold dS;rw[jK _ (by omega)];exact wrap_wrap _

/-- What both sides answer. -/
def oJ (n:Int) (l:List (List Int)):Int×Int:=if fB n l=true then (((0:Nat):Int)+ord 100 (iV l),0) else (0,1)

theorem M4 (n:Int) (l:List (List Int)) (hl:Mod l):Ev (fun k=>mJ.f k n l) (oJ n l)∧Ev (fun k=>tS.f k n l) (oJ n l):=by
  unfold mJ.f tS.f oJ;have h1:=qW n l hl;have h2:=wj n l hl
  by_cases hg:fB n l=true
  · rw[hg]at h1 h2
    have hlen:=yd hg;have ho:=G8 hg;have hs:=M0 100 (iV l) 0 ho (by omega) (by omega) (by omega);obtain⟨g,hi⟩:=M3 100 (iV l) 0 ho (by omega) (by omega) (by omega);rw[if_pos hg];refine⟨Ev.bind h1 (Ev.pos rfl (Ev.bind (yc hg) hs)),Ev.bind h2 (Ev.pos rfl (Ev.bind (xZ hg) ?_))⟩;unfold ja.f;exact Ev.bind hi (Ev.now _)
  · rw[Bool.not_eq_true]at hg
    rw[hg]at h1 h2;rw[hg,if_neg (by decide)];refine⟨?_, ?_⟩
    · repeat (first | with_reducible exact Ev.now _ | dsimp only | with_reducible refine Ev.bind (h1) ?_ | refine Ev.bZ ?_ | refine Ev.cj ?_ | simp only[bne_self_eq_false,Bool.not_true,Bool.not_false,List.length_cons,List.length_nil] | rw[aX (by omega) (by omega)] | with_reducible exact(h1) | ((with_reducible refine Ev.eq (congrArg some ?_));rfl))
    · repeat (first | with_reducible exact Ev.now _ | dsimp only | with_reducible refine Ev.bind (h2) ?_ | refine Ev.bZ ?_ | refine Ev.cj ?_ | simp only[bne_self_eq_false,Bool.not_true,Bool.not_false,List.length_cons,List.length_nil] | rw[aX (by omega) (by omega)] | with_reducible exact(h2) | ((with_reducible refine Ev.eq (congrArg some ?_));rfl))

theorem M5 (a b:List Int) (hl:a.length≤1048576):Ev (fun k=>lZ.f k a b) (decide (a=b)):=by
  unfold lZ.f
  by_cases h:a.length=b.length
  · refine Ev.pos (by omega) ?_
    have: ∀(d i:Nat),i+d=a.length→Ev (fun k=>lZ.l0 k a b (i:Int)) (decide (a.drop i=b.drop i)):=by
      intro d
      induction d with
      | zero=>
        intro i hi;refine Ev.succ ?_;simp only[lZ.l0];rw[List.drop_eq_nil_of_le (by omega),List.drop_eq_nil_of_le (by omega)]
        repeat (first | with_reducible exact Ev.now _ | dsimp only | refine Ev.bZ ?_ | refine Ev.cj ?_ | simp only[bne_self_eq_false,Bool.not_true,Bool.not_false,List.length_cons,List.length_nil] | rw[aX (by omega) (by omega)] | ((with_reducible refine Ev.eq (congrArg some ?_));rfl))
      | succ d ih=>
        intro i hi;refine Ev.succ ?_;simp only[lZ.l0];rw[List.drop_eq_getElem_cons (by omega:i<a.length),List.drop_eq_getElem_cons (by omega:i<b.length),dI (by omega)]
        by_cases e:rd a i=rd b i
        · repeat (first | with_reducible exact Ev.now _ | dsimp only | refine Ev.bZ ?_ | refine Ev.cj ?_ | simp only[bne_self_eq_false,Bool.not_true,Bool.not_false,List.length_cons,List.length_nil] | rw[aX (by omega) (by omega)] | ((with_reducible refine Ev.eq (congrArg some ?_));rfl))
          have:=ih (i+1) (by omega);rw[iw (by omega),iw (by omega)]at e;rw[e,C9];exact this
        · rw[decide_eq_false (fun h=>e (by rw[iw (by omega),iw (by omega)];exact(List.cons.inj h).1))]
          repeat (first | with_reducible exact Ev.now _ | dsimp only | refine Ev.bZ ?_ | refine Ev.cj ?_ | simp only[bne_self_eq_false,Bool.not_true,Bool.not_false,List.length_cons,List.length_nil] | rw[aX (by omega) (by omega)] | ((with_reducible refine Ev.eq (congrArg some ?_));rfl))
    exact this a.length 0 (by omega)
  · rw[decide_eq_false (fun e=>h (by rw[e]))]
    repeat (first | with_reducible exact Ev.now _ | dsimp only | refine Ev.bZ ?_ | refine Ev.cj ?_ | simp only[bne_self_eq_false,Bool.not_true,Bool.not_false,List.length_cons,List.length_nil] | rw[aX (by omega) (by omega)] | ((with_reducible refine Ev.eq (congrArg some ?_));rfl))

theorem M6 (a b:List Int) (hl:a.length≤1048576):Ev (fun k=>l7.f k a b) (decide (a=b)):=by
  unfold l7.f
  by_cases h:a.length=b.length
  · refine Ev.pos (by omega) ?_
    have: ∀(d i:Nat),i+d=a.length→Ev (fun k=>l7.l0 k a b (a.length:Int) (i:Int)) (decide (a.drop i=b.drop i)):=by
      intro d
      induction d with
      | zero=>
        intro i hi;refine Ev.succ ?_;simp only[l7.l0];rw[List.drop_eq_nil_of_le (by omega),List.drop_eq_nil_of_le (by omega)]
        repeat (first | with_reducible exact Ev.now _ | dsimp only | refine Ev.bZ ?_ | refine Ev.cj ?_ | simp only[bne_self_eq_false,Bool.not_true,Bool.not_false,List.length_cons,List.length_nil] | rw[aX (by omega) (by omega)] | ((with_reducible refine Ev.eq (congrArg some ?_));rfl))
      | succ d ih=>
        intro i hi;refine Ev.succ ?_;simp only[l7.l0];rw[List.drop_eq_getElem_cons (by omega:i<a.length),List.drop_eq_getElem_cons (by omega:i<b.length),dI (by omega)]
        by_cases e:rd a i=rd b i
        · repeat (first | with_reducible exact Ev.now _ | dsimp only | refine Ev.bZ ?_ | refine Ev.cj ?_ | simp only[bne_self_eq_false,Bool.not_true,Bool.not_false,List.length_cons,List.length_nil] | rw[aX (by omega) (by omega)] | ((with_reducible refine Ev.eq (congrArg some ?_));rfl))
          have:=ih (i+1) (by omega);rw[iw (by omega),iw (by omega)]at e;rw[e,C9];exact this
        · rw[decide_eq_false (fun h=>e (by rw[iw (by omega),iw (by omega)];exact(List.cons.inj h).1))]
          repeat (first | with_reducible exact Ev.now _ | dsimp only | refine Ev.bZ ?_ | refine Ev.cj ?_ | simp only[bne_self_eq_false,Bool.not_true,Bool.not_false,List.length_cons,List.length_nil] | rw[aX (by omega) (by omega)] | ((with_reducible refine Ev.eq (congrArg some ?_));rfl))
    exact this a.length 0 (by omega)
  · rw[decide_eq_false (fun e=>h (by rw[e]))]
    repeat (first | with_reducible exact Ev.now _ | dsimp only | refine Ev.bZ ?_ | refine Ev.cj ?_ | simp only[bne_self_eq_false,Bool.not_true,Bool.not_false,List.length_cons,List.length_nil] | rw[aX (by omega) (by omega)] | ((with_reducible refine Ev.eq (congrArg some ?_));rfl))

/-- What both sides answer. -/
def equalR (n:Int) (l:List (List Int)) (m:Int) (k:List (List Int)):Bool×Int:=if fB n l=true∧fB m k=true then (decide (iV l=iV k),0) else (false,1)

theorem M7 (n:Int) (l:List (List Int)) (hl:Mod l) (m:Int) (k:List (List Int)) (hk:Mod k):Ev (fun f=>l8.f f n l m k) (equalR n l m k)∧Ev (fun f=>l9.f f n l m k) (equalR n l m k):=by
  unfold l8.f l9.f;have h1:=qW n l hl;have h2:=wj n l hl;have h3:=qW m k hk;have h4:=wj m k hk;have U8:Ev (fun f=>l8.j0 f true n l m k) (false,1):=by
    refine Ev.succ ?_;simp only[l8.j0];exact Ev.now _
  have U7:Ev (fun f=>l9.j0 f true n l m k) (false,1):=by
    refine Ev.succ ?_;simp only[l9.j0];exact Ev.now _
  by_cases hg:fB n l=true
  · rw[hg]at h1 h2
    by_cases hh:fB m k=true
    · rw[hh]at h3 h4
      have:=yd hg;rw[show equalR n l m k=(decide (iV l=iV k),0) from if_pos ⟨hg,hh⟩];refine⟨?_, ?_⟩
      · refine Ev.bind h1 (Ev.pos rfl (Ev.bind h3 ?_))
        refine Ev.succ ?_;simp only[l8.j0];exact Ev.neg (by decide) (Ev.bind (yc hg) (Ev.bind (yc hh) (Ev.bind (M5 _ _ (by omega)) (Ev.now _))))
      · refine Ev.bind h2 (Ev.pos rfl (Ev.bind h4 ?_))
        refine Ev.succ ?_;simp only[l9.j0];exact Ev.neg (by decide) (Ev.bind (xZ hg) (Ev.bind (xZ hh) (Ev.bind (M6 _ _ (by omega)) (Ev.now _))))
    · rw[show equalR n l m k=(false,1) from if_neg (fun z=>hh z.2)]
      rw[Bool.not_eq_true]at hh;rw[hh]at h3 h4;exact⟨Ev.bind h1 (Ev.pos rfl (Ev.bind h3 U8)),Ev.bind h2 (Ev.pos rfl (Ev.bind h4 U7))⟩
  · rw[show equalR n l m k=(false,1) from if_neg (fun z=>hg z.1)]
    rw[Bool.not_eq_true]at hg;rw[hg]at h1 h2;exact⟨Ev.bind h1 (Ev.neg (by decide) U8),Ev.bind h2 (Ev.neg (by decide) U7)⟩

def bs (l:List UInt8):ByteArray:=⟨l.toArray⟩

theorem M8 (a:ByteArray):bs a.data.toList=a:=by
  obtain⟨⟨l⟩⟩:=a
  rfl

theorem M9 (a:ByteArray): ∃l,a=bs l:=⟨a.data.toList,(M8 a).symm⟩

theorem hO (l:List UInt8):(bs l).size=l.length:=by simp[bs,ByteArray.size]

theorem Na (l:List UInt8):(bs l).toList=l:=ByteArray.toList_mk l

theorem G9 (l:List UInt8) (a b:Nat):(bs l).extract a b=bs ((l.take b).drop a):=by
  apply ByteArray.ext;simp[bs,List.extract_eq_drop_take']

theorem wo {l:List UInt8} {i:Nat} (h:i<l.length):bt (bs l) (i:Int)=(l[i].toNat:Int):=by
  unfold bt;rw[dif_pos (by rw[hO];simpa using h)]
  rfl

theorem Ev.uniq {α:Type} {g:Nat→Option α} {r s:α} (h:Ev g r) (k:Ev g s):r=s:=by
  obtain⟨K,h⟩:=h;obtain⟨L,k⟩:=k;have h1:=h (max K L) (by omega);rw[k (max K L) (by omega)]at h1;exact(Option.some.inj h1).symm

/-- The parts between the bytes c. -/
def ic (c:UInt8):List UInt8→List (List UInt8)
  | []=>[[]]
  | b :: s=>if b=c then [] :: ic c s else
    match ic c s with
    | []=>[[b]]
    | x :: xs=>(b :: x) :: xs

/-- A text put ahead of the first part. -/
def glue (p:List UInt8):List (List UInt8)→List (List UInt8)
  | []=>[p]
  | x :: xs=>(p++x) :: xs

theorem tT (c:UInt8) (s:List UInt8):ic c s≠[]:=by
  cases s with
  | nil=>simp[ic]
  | cons b s=>
    unfold ic
    split
    · simp
    · split<;>simp

theorem yo (c:UInt8) (s:List UInt8):ic c (c :: s)= [] :: ic c s:=by simp[ic]

theorem wq {b c:UInt8} (h:b≠c) (s:List UInt8):ic c (b :: s)=glue [b] (ic c s):=by
  rw[ic,if_neg h];cases e:ic c s with
  | nil=>exact absurd e (tT c s)
  | cons x xs=>rfl

theorem Nb (p q:List UInt8) (xs:List (List UInt8)):glue p (glue q xs)=glue (p++q) xs:=by
  cases xs<;>simp[glue]

theorem He {xs:List (List UInt8)} (h:xs≠[]):glue [] xs=xs:=by
  cases xs with
  | nil=>exact absurd rfl h
  | cons x xs=>rfl

theorem Nc (c:UInt8) (s:List UInt8):(ic c s).length=s.count c+1:=by
  induction s with
  | nil=>rfl
  | cons b s ih=>
    by_cases h:b=c
    · subst h
      rw[yo,List.length_cons,ih];simp
    · rw[wq h,List.count_cons_of_ne h,← ih]
      cases e:ic c s with
      | nil=>exact absurd e (tT c s)
      | cons x xs=>rfl

def mK (c:UInt8):List (List UInt8)→List UInt8
  | []=>[]
  | [x]=>x
  | x :: y :: r=>x++c :: mK c (y :: r)

theorem Da {c:UInt8} (x:List UInt8) {xs:List (List UInt8)} (h:xs≠[]):mK c (x :: xs)=x++c :: mK c xs:=by
  cases xs with
  | nil=>exact absurd rfl h
  | cons y r=>rfl

theorem Nh (c:UInt8) (p:List UInt8) {xs:List (List UInt8)} (h:xs≠[]):mK c (glue p xs)=p++mK c xs:=by
  cases xs with
  | nil=>exact absurd rfl h
  | cons x xs=>
    cases xs with
    | nil=>rfl
    | cons y r=>simp[glue,mK]

theorem Db (c:UInt8) (s:List UInt8):mK c (ic c s)=s:=by
  induction s with
  | nil=>rfl
  | cons b s ih=>
    by_cases h:b=c
    · subst h
      rw[yo,Da _ (tT _ _),ih]
      rfl
    · rw[wq h,Nh _ _ (tT _ _),ih]
      rfl

theorem Dc {c:UInt8} {x:List UInt8} (h: ∀b∈x,b≠c):ic c x= [x]:=by
  induction x with
  | nil=>rfl
  | cons b x ih=>
    rw[wq (h b (List.mem_cons_self)),ih (fun y hy=>h y (List.mem_cons_of_mem _ hy))]
    rfl

theorem Df {c:UInt8} {x:List UInt8} (h: ∀b∈x,b≠c) (s:List UInt8):ic c (x++c :: s)=x :: ic c s:=by
  induction x with
  | nil=>exact yo c s
  | cons b x ih=>
    rw[List.cons_append,wq (h b (List.mem_cons_self)),ih (fun y hy=>h y (List.mem_cons_of_mem _ hy))]
    rfl

theorem Ni {c:UInt8} (xs:List (List UInt8)) (hne:xs≠[]) (h: ∀x∈xs,∀b∈x,b≠c):ic c (mK c xs)=xs:=by
  induction xs with
  | nil=>exact absurd rfl hne
  | cons x xs ih=>
    cases xs with
    | nil=>exact Dc (h x (List.mem_cons_self))
    | cons y r=>
      rw[Da _ (by simp),Df (h x (List.mem_cons_self)),ih (by simp) (fun z hz=>h z (List.mem_cons_of_mem _ hz))]

/-- A figure. -/
def dg (n:Int):UInt8:=UInt8.ofNat (48+n.toNat)

theorem Hf {n:Int} (h0:0≤n) (h1:n<10):((dg n).toNat:Int)=48+n:=by
  unfold dg;rw[UInt8.toNat_ofNat',Nat.mod_eq_of_lt (by omega)]
  omega

theorem yp {n:Int} (h0:0≤n) (h1:n<10) {c:UInt8} (h:c.toNat<48∨57<c.toNat):dg n≠c:=by
  intro e;have:=Hf h0 h1;rw[e]at this
  omega

theorem Nj {b:UInt8} (h:48≤b.toNat):dg ((b.toNat:Int) - 48)=b:=by
  unfold dg;apply UInt8.toNat_inj.1;have:=b.toNat_lt;rw[UInt8.toNat_ofNat',Nat.mod_eq_of_lt (by omega)]
  omega

def word (e:List Int):List UInt8:=[dg (rd e 0),45,dg (rd e 1)]

/-- The text of a graph. -/
def txt (n:Int) (l:List (List Int)):List UInt8:=dg n :: 58 :: mK 44 (l.map word)

section
variable {n:Int} {l:List (List Int)} (h:fB n l=true)
include h

theorem AF {e:List Int} (he:e∈l): ∃a b:Int,e= [a,b]∧rd e 0=a∧rd e 1=b∧0≤a∧a<8∧0≤b∧b<8:=by
  obtain⟨h1,h2,h3,h4⟩:=(wu n l).1 h;obtain⟨a,b,rfl,ha,ha',hb,hb'⟩:=h4 e he;exact⟨a,b,rfl,rfl,rfl,ha,by omega,hb,by omega⟩

theorem Hg {c:UInt8} (hc:(c.toNat<48∨57<c.toNat)∧c≠45): ∀x∈l.map word,∀b∈x,b≠c:=by
  intro x hx b hb;obtain⟨e,he,rfl⟩:=List.mem_map.1 hx;obtain⟨p,q,_,e0,e1,h0,h1,h2,h3⟩:=AF h he;unfold word at hb;rw[e0,e1]at hb;simp only[List.mem_cons,List.not_mem_nil,or_false]at hb;rcases hb with rfl | rfl | rfl
  · exact yp h0 (by omega) hc.1
  · exact fun e=>hc.2 e.symm
  · exact yp h2 (by omega) hc.1

theorem Nk (hl:l≠[]):ic 44 (mK 44 (l.map word))=l.map word:=
  Ni _ (by simpa using hl) (Hg h (c:=44) (by decide))

theorem Nl {c d:UInt8} (hd:(d.toNat<48∨57<d.toNat)∧d≠45) (hcd:c≠d): ∀b∈mK c (l.map word),b≠d:=by
  have hf:=Hg h hd;clear h;generalize l.map word=xs at hf
  induction xs with
  | nil=>intro b hb;cases hb
  | cons x xs ih=>
    intro b hb;cases xs with
    | nil=>exact hf x (List.mem_cons_self) b hb
    | cons y r=>
      rw[Da _ (by simp)]at hb;rcases List.mem_append.1 hb with hb | hb
      · exact hf x (List.mem_cons_self) b hb
      · rcases List.mem_cons.1 hb with rfl | hb
        · exact hcd
        · exact ih (fun z hz=>hf z (List.mem_cons_of_mem _ hz)) b hb

theorem Hh:ic 58 (txt n l)= [[dg n],mK 44 (l.map word)]:=by
  obtain⟨h1,h2,h3,h4⟩:=(wu n l).1 h;have e:txt n l= [dg n]++58 :: mK 44 (l.map word):=rfl;rw[e,Df (by simp;exact yp (by omega) (by omega) (by decide)),Dc (Nl h (by decide) (by decide))]

theorem Hi {e:List Int} (he:e∈l):ic 45 (word e)= [[dg (rd e 0)],[dg (rd e 1)]]:=by
  obtain⟨p,q,_,e0,e1,h0,h1,h2,h3⟩:=AF h he;unfold word;rw[e0,e1];have e: [dg p,45,dg q]= [dg p]++45 :: [dg q]:=rfl;rw[e,Df (by simp;exact yp h0 (by omega) (by decide)),Dc (by simp;exact yp h2 (by omega) (by decide))]

end

/-- A run ends, and its answer has a property. -/
def Dr {α:Type} (g:Nat→Option α) (P:α→Prop):Prop:=∃r,Ev g r∧P r

theorem Dr.bind {α β:Type} {g:Nat→Option α} {f:Nat→α→Option β} {P:α→Prop} {Q:β→Prop} (h:Dr g P) (k: ∀a,P a→Dr (fun n=>f n a) Q):Dr (fun n=>(g n).bind (f n)) Q:=by
  obtain⟨a,h,p⟩:=h;obtain⟨r,e,q⟩:=k a p;exact⟨r,Ev.bind h e,q⟩

theorem Dr.now {α:Type} {r:α} {P:α→Prop} (p:P r):Dr (fun _=>some r) P:=⟨r,Ev.now _,p⟩

theorem Dr.eq {α:Type} {o:Option α} {P:α→Prop} (h: ∃r,o=some r∧P r):Dr (fun _=>o) P:=by
  obtain⟨r,e,p⟩:=h;exact⟨r,Ev.eq e,p⟩

theorem Dr.ite {α:Type} {c:Prop} [Decidable c] {f g:Nat→Option α} {P:α→Prop} (h1:c→Dr f P) (h2: ¬c→Dr g P):Dr (fun k=>if c then f k else g k) P:=by
  by_cases h:c
  · obtain⟨r,e,p⟩:=h1 h
    exact⟨r,Ev.pos h e,p⟩
  · obtain⟨r,e,p⟩:=h2 h
    exact⟨r,Ev.neg h e,p⟩

theorem Dr.pos {α:Type} {c:Prop} [Decidable c] {f g:Nat→Option α} {P:α→Prop} (h:c) (h1:Dr f P):Dr (fun k=>if c then f k else g k) P:=Dr.ite (fun _=>h1) (fun x=>absurd h x)

theorem Dr.neg {α:Type} {c:Prop} [Decidable c] {f g:Nat→Option α} {P:α→Prop} (h: ¬c) (h1:Dr g P):Dr (fun k=>if c then f k else g k) P:=Dr.ite (fun x=>absurd x h) (fun _=>h1)

theorem Dr.succ {α:Type} {g:Nat→Option α} {P:α→Prop} (e:Dr (fun k=>g (k+1)) P):Dr g P:=by
  obtain⟨r,e,p⟩:=e;exact⟨r,Ev.succ e,p⟩

theorem Dr.mono {α:Type} {g:Nat→Option α} {P Q:α→Prop} (e:Dr g P) (h: ∀r,P r→Q r):Dr g Q:=by
  obtain⟨r,e,p⟩:=e;exact⟨r,e,h r p⟩

/-- A code of bytes. -/
def Code (c:List Int):Prop:=c.length≤4096∧∀y∈c,0≤y∧y≤255

theorem Nm (c:List Int) (hc:Code c): ∀(d i:Nat) (h:Int),i+d=c.length→Dr (fun k=>jj.l0 k c (i:Int) c 0 h) (fun r=>r.1=c∧0≤r.2.1):=by
  intro d
  induction d with
  | zero=>
    intro i h hi;refine Dr.succ ?_;simp only[jj.l0];exact Dr.neg (by omega) (Dr.now ⟨rfl,Int.le_refl _⟩)
  | succ d ih=>
    intro i h hi;have:=hc.1;refine Dr.succ ?_;simp only[jj.l0];refine Dr.pos (by omega) (Dr.pos (by omega) (Dr.pos (by omega) ?_));rw[dI (by omega)];exact ih (i+1) _ (by omega)

theorem Hj (c:List Int) (hc:Code c):Dr (fun k=>jj.f k c) (fun r=>r.1=c∧0≤r.2.1):=Nm c hc c.length 0 _ (by omega)

theorem Nn (x:Int):0≤Go.bits .and .u64 (IntKind.u64.wrap x / 2147483648) 1073741823∧Go.bits .and .u64 (IntKind.u64.wrap x / 2147483648) 1073741823≤1073741823:=by
  have e0:IntKind.u64.wrap x=x % 18446744073709551616:=by rw[IntKind.wrap_u64]
  rw[e0];have h:=bits_mask .u64 63 (by decide) (fun n h₀ h₁=>by rw[IntKind.wrap_u64];omega) 30 (by decide) (x % 18446744073709551616 / 2147483648) (by omega) (by omega);rw[show((2:Int) ^ 30 - 1)=1073741823 by decide,show((2:Int) ^ 30)=1073741824 by decide]at h;rw[h]
  omega

theorem Hl {x n:Int} (hx:0≤x) (hn:1≤n):0≤Int.tmod x n∧Int.tmod x n<n:=by
  rw[Int.tmod_eq_emod_of_nonneg hx];exact⟨Int.emod_nonneg _ (by omega),Int.emod_lt_of_pos _ (by omega)⟩

theorem nr {c:List Int} (hc:Code c) {a:Int} (ha:0≤a) (h n:Int): ∃r:Int×Int×Int,fo.f c a h n=some r∧0≤r.2.1∧0≤r.1∧(1≤n→r.1<n)∧(n<1→r.1=0):=by
  unfold fo.f;have hl:=hc.1;have hb:=Nn (IntKind.u64.wrap (h*6364136223846793005)+1442695040888963407)
  by_cases hn:n<1
  · exact⟨_,if_pos hn,ha,Int.le_refl _,fun x=>absurd x (by omega),fun _=>rfl⟩
  · rw[if_neg hn]
    generalize Go.bits .and .u64 (IntKind.u64.wrap (IntKind.u64.wrap (h*6364136223846793005)+1442695040888963407) / 2147483648) 1073741823=b at hb
    by_cases hl2:a<(c.length:Int)
    · rw[if_pos hl2,if_pos ha,if_neg (by omega)]
      obtain⟨i,rfl⟩:=Int.eq_ofNat_of_zero_le ha;have hy:=hc.2 _ (AG (show i<c.length by omega));have e:wrap64 (wrap64 b+wrap64 (rd c (i:Int)))=b+rd c (i:Int):=by
        rw[aX (x:=b) (by omega) (by omega),aX (x:=rd c (i:Int)) (by omega) (by omega),aX (by omega) (by omega)]
      have e2:wrap64 ((i:Int)+1)=i+1:=aX (by omega) (by omega);have ht:=Hl (x:=b+rd c (i:Int)) (n:=n) (by omega) (by omega);refine⟨_,rfl, ?_, ?_,fun _=> ?_,fun x=>absurd x hn⟩
      · show 0≤wrap64 ((i:Int)+1)
        omega
      · show 0≤Int.tmod _ n
        rw[e];exact ht.1
      · show Int.tmod _ n<n
        rw[e];exact ht.2
    · rw[if_neg hl2,if_neg (by omega)]
      have ht:=Hl (x:=b) (n:=n) (by omega) (by omega);refine⟨_,rfl,ha, ?_,fun _=> ?_,fun x=>absurd x hn⟩
      · show 0≤Int.tmod (wrap64 b) n
        rw[aX (by omega) (by omega)];exact ht.1
      · show Int.tmod (wrap64 b) n<n
        rw[aX (by omega) (by omega)];exact ht.2

theorem Dh {c:List Int} (hc:Code c) {a:Int} (ha:0≤a) (h:Int) (l:List Int) (hl:0<l.length): ∃r:Int×Int×Int,pK.f c a h l=some r∧0≤r.2.1∧r.1∈l:=by
  unfold pK.f;obtain⟨r,e,h1,h2,h3,_⟩:=nr hc ha h (l.length:Int);have h4:=h3 (by omega);rw[e];simp only[Option.bind_some];rw[if_pos h2,if_pos h4];obtain⟨i,hi⟩:=Int.eq_ofNat_of_zero_le h2;exact⟨_,rfl,h1,by rw[hi];exact AG (by omega)⟩

theorem Np (l:List Int) (hl:l.length≤1048576):mL.f l=some l:=we l hl

theorem Nq (s:List UInt8) (c:UInt8) (hs:s.length≤1048576): ∀(d i j:Nat) (acc:List ByteArray),i+d=s.length→j≤i→acc.length≤i→
    Ev (fun k=>jb.l0 k (bs s) (c.toNat:Int) acc (j:Int) (i:Int)) (acc++(glue ((s.take i).drop j) (ic c (s.drop i))).map bs):=by
  intro d
  induction d with
  | zero=>
    intro i j acc hi hj ha;have e:i=s.length:=by omega
    subst e;refine Ev.succ ?_;simp only[jb.l0];refine Ev.neg (by rw[hO];omega) ?_;refine Ev.pos (by omega) ?_;refine Ev.pos (by rw[hO];omega) ?_;refine Ev.pos (by omega) ?_;rw[hO,G9,List.drop_length,ic];refine Ev.eq (congrArg some ?_);simp[glue]
  | succ d ih=>
    intro i j acc hi hj ha;have hil:i<s.length:=by omega
    refine Ev.succ ?_;simp only[jb.l0];refine Ev.pos (by rw[hO];omega) ?_;refine Ev.pos (by omega) ?_;rw[wo hil,List.drop_eq_getElem_cons hil]
    by_cases h:s[i]=c
    · refine Ev.pos (by rw[h]) ?_
      refine Ev.pos (by omega) ?_;refine Ev.pos (by omega) ?_;refine Ev.pos (by rw[hO];omega) ?_;refine Ev.pos (by omega) ?_;rw[dI (by omega),G9,h,yo];have h1:=ih (i+1) (i+1) (acc++[bs ((s.take i).drop j)]) (by omega) (Nat.le_refl _) (by simp;omega);rw[List.drop_eq_nil_of_le (show(s.take (i+1)).length≤i+1 by rw[List.length_take];omega),He (tT _ _)]at h1;refine Ev.conv h1 ?_;simp[glue]
    · refine Ev.neg (fun e=>h (UInt8.toNat_inj.1 (by omega))) ?_
      rw[dI (by omega),wq h,Nb];have h1:=ih (i+1) j acc (by omega) (by omega) (by omega);rw[List.take_succ_eq_append_getElem hil,List.drop_append_of_le_length (by simp;omega)]at h1;exact h1

theorem Di (s:List UInt8) (c:UInt8) (hs:s.length≤1048576):Ev (fun k=>jb.f k (bs s) (c.toNat:Int)) ((ic c s).map bs):=by
  unfold jb.f;have h:=Nq s c hs s.length 0 0 [] (by omega) (by omega) (by simp);rw[List.drop_zero,List.take_zero,He (tT _ _),List.nil_append]at h;exact h

theorem Ns (s:List UInt8) (hs:s.length≤9): ∀(d i x:Nat),i+d=s.length→1≤i→1≤x→(2≤i→10≤x)→2≤s.length→x<10 ^ i→
    ∃v:Int,Ev (fun k=>e8.l0 k (bs s) (x:Int) (i:Int)) v∧(v= -1∨10≤v):=by
  intro d
  induction d with
  | zero=>
    intro i x hi h1 hx h2 hl hp;refine⟨x, ?_,Or.inr (by have:=h2 (by omega);omega)⟩;refine Ev.succ ?_;simp only[e8.l0];refine Ev.neg (by rw[hO];omega) ?_;exact Ev.now _
  | succ d ih=>
    intro i x hi h1 hx h2 hl hp;have hil:i<s.length:=by omega
    have U7:(10:Nat) ^ i≤10 ^ 9:=Nat.pow_le_pow_right (by omega) (by omega)
    by_cases c1:s[i].toNat<48
    · refine⟨-1, ?_,Or.inl rfl⟩
      refine Ev.succ ?_;simp only[e8.l0];refine Ev.pos (by rw[hO];omega) ?_;refine Ev.pos (by omega) ?_;rw[wo hil];refine Ev.pos (by omega) ?_;exact Ev.now _
    by_cases c2:57<s[i].toNat
    · refine⟨-1, ?_,Or.inl rfl⟩
      refine Ev.succ ?_;simp only[e8.l0];refine Ev.pos (by rw[hO];omega) ?_;refine Ev.pos (by omega) ?_;rw[wo hil];refine Ev.neg (by omega) ?_;refine Ev.pos (by omega) ?_;exact Ev.now _
    obtain⟨v,h3,h4⟩:=ih (i+1) (x*10+(s[i].toNat - 48)) (by omega) (by omega) (by omega) (by omega) hl (by rw[Nat.pow_succ];omega);refine⟨v, ?_,h4⟩;refine Ev.succ ?_;simp only[e8.l0];refine Ev.pos (by rw[hO];omega) ?_;refine Ev.pos (by omega) ?_;rw[wo hil];refine Ev.neg (by omega) ?_;refine Ev.neg (by omega) ?_;have e:wrap64 (wrap64 ((x:Int)*10)+((s[i].toNat:Int) - 48) % 256)=((x*10+(s[i].toNat - 48):Nat):Int):=by
      rw[aX (x:=(x:Int)*10) (by omega) (by omega),aX (by omega) (by omega)]
      omega
    rw[e,dI (by omega)];exact h3

theorem Ho (b:UInt8):Ev (fun k=>e8.f k (bs [b])) (if 48≤b.toNat∧b.toNat≤57 then (b.toNat:Int) - 48 else -1):=by
  have e0:bt (bs [b]) 0=(b.toNat:Int):=wo (l:=[b]) (i:=0) (by simp);unfold e8.f;refine Ev.neg (by rw[hO];simp) ?_;refine Ev.neg (by rw[hO];simp) ?_;refine Ev.neg (by rw[hO];simp) ?_;refine Ev.succ ?_;simp only[e8.j0];refine Ev.neg (by decide) ?_;refine Ev.succ ?_;simp only[e8.l0];refine Ev.pos (by rw[hO];simp) ?_;refine Ev.pos (by omega) ?_;rw[e0]
  by_cases c1:b.toNat<48
  · refine Ev.pos (by omega) ?_
    rw[if_neg (by omega)];exact Ev.now _
  by_cases c2:57<b.toNat
  · refine Ev.neg (by omega) ?_
    refine Ev.pos (by omega) ?_;rw[if_neg (by omega)];exact Ev.now _
  refine Ev.neg (by omega) ?_;refine Ev.neg (by omega) ?_;refine Ev.succ ?_;simp only[e8.l0];refine Ev.neg (by rw[hO,aX (by omega) (by omega)];simp) ?_;rw[if_pos (by omega)];refine Ev.eq (congrArg some ?_);rw[aX (x:=(0:Int)*10) (by omega) (by omega),aX (by omega) (by omega)]
  omega

theorem Dj {a:Int} (h0:0≤a) (h1:a<10):Ev (fun k=>e8.f k (bs [dg a])) a:=by
  have h:=Ho (dg a);have:=Hf h0 h1;rw[if_pos (by omega)]at h;refine Ev.conv h (by omega)

theorem Dk (s:List UInt8): ∃v:Int,Ev (fun k=>e8.f k (bs s)) v∧(0≤v→v<10→s= [dg v]):=by
  have fail: ∀k,e8.j0 (k+1) (bs s) true=some (-1):=fun k=>by simp[e8.j0]
  by_cases c0:s.length=0
  · refine⟨-1, ?_,by omega⟩
    unfold e8.f;refine Ev.pos (by rw[hO];omega) ?_;exact Ev.succ ⟨0,fun k _=>fail k⟩
  by_cases c9:9<s.length
  · refine⟨-1, ?_,by omega⟩
    unfold e8.f;refine Ev.neg (by rw[hO];omega) ?_;refine Ev.pos (by rw[hO];omega) ?_;exact Ev.succ ⟨0,fun k _=>fail k⟩
  by_cases c1:s.length=1
  · match s,c1 with
    | [b],_=>
      refine⟨_,Ho b,fun h0 h1=> ?_⟩
      by_cases c:48≤b.toNat∧b.toNat≤57
      · rw[if_pos c,Nj c.1]
      · rw[if_neg c]at h0
        omega
  have h0:0<s.length:=by omega
  have e0:bt (bs s) 0=(s[0].toNat:Int):=wo h0
  by_cases c2:s[0].toNat=48
  · refine⟨-1, ?_,by omega⟩
    unfold e8.f;refine Ev.neg (by rw[hO];omega) ?_;refine Ev.neg (by rw[hO];omega) ?_;refine Ev.pos (by rw[hO];omega) ?_;refine Ev.pos (by rw[hO];omega) ?_;rw[e0,c2];exact Ev.succ ⟨0,fun k _=>fail k⟩
  have e1:(((s[0].toNat:Nat):Int) == 48)=false:=by
    apply beq_eq_false_iff_ne.2
    omega
  by_cases c3:s[0].toNat<48∨57<s[0].toNat
  · refine⟨-1, ?_,by omega⟩
    unfold e8.f;refine Ev.neg (by rw[hO];omega) ?_;refine Ev.neg (by rw[hO];omega) ?_;refine Ev.pos (by rw[hO];omega) ?_;refine Ev.pos (by rw[hO];omega) ?_;rw[e0,e1];refine Ev.succ ?_;simp only[e8.j0];refine Ev.neg (by decide) ?_;refine Ev.succ ?_;simp only[e8.l0];refine Ev.pos (by rw[hO];omega) ?_;refine Ev.pos (by omega) ?_;rw[e0]
    by_cases c4:s[0].toNat<48
    · refine Ev.pos (by omega) ?_
      exact Ev.now _
    · refine Ev.neg (by omega) ?_
      refine Ev.pos (by omega) ?_;exact Ev.now _
  · obtain⟨v,h3,h4⟩:=Ns s (by omega) (s.length - 1) 1 (s[0].toNat - 48) (by omega) (by omega) (by omega) (by omega) (by omega) (by omega)
    refine⟨v, ?_,by omega⟩;unfold e8.f;refine Ev.neg (by rw[hO];omega) ?_;refine Ev.neg (by rw[hO];omega) ?_;refine Ev.pos (by rw[hO];omega) ?_;refine Ev.pos (by rw[hO];omega) ?_;rw[e0,e1];refine Ev.succ ?_;simp only[e8.j0];refine Ev.neg (by decide) ?_;refine Ev.succ ?_;simp only[e8.l0];refine Ev.pos (by rw[hO];omega) ?_;refine Ev.pos (by omega) ?_;rw[e0];refine Ev.neg (by omega) ?_;refine Ev.neg (by omega) ?_;have e:wrap64 (wrap64 ((0:Int)*10)+((s[0].toNat:Int) - 48) % 256)=((s[0].toNat - 48:Nat):Int):=by
      rw[aX (x:=(0:Int)*10) (by omega) (by omega),aX (by omega) (by omega)]
      omega
    rw[e,show wrap64 ((0:Int)+1)=((1:Nat):Int) from aX (by omega) (by omega)];exact h3
theorem Hq {xs:List (List UInt8)} {i:Nat} (h:i<xs.length):fF ByteArray.empty (xs.map bs) (i:Int)=bs xs[i]:=by
  simp[fF,List.getD_eq_getElem?_getD,h]

theorem Nu (ps:List (List UInt8)) (hps:ps.length≤1048576) (hpl: ∀p∈ps,p.length≤1048576) (n:Int): ∀(d i:Nat) (E:List (List Int)),i+d=ps.length→E.length=i→(∀r∈E,r.length=2)→
    ∃r,Ev (fun k=>fT.l0 k (ps.map bs) (i:Int) n E) r∧
      ((r=(0,[],false)∧∀l,fB n (E++l)=true→ps.drop i≠l.map word)∨
       ∃l,r=(n,E++l,true)∧fB n (E++l)=true∧ps.drop i=l.map word):=by
  intro d
  induction d with
  | zero=>
    intro i E hi hE hr;have hm:Mod E:=⟨by omega,fun r h=>by rw[hr r h];omega⟩;have e:ps.drop i= []:=List.drop_eq_nil_of_le (by omega)
    by_cases g:fB n E=true
    · refine⟨(n,E,true), ?_,Or.inr ⟨[],by rw[List.append_nil],by rw[List.append_nil];exact g,e⟩⟩
      refine Ev.succ ?_;simp only[fT.l0];refine Ev.neg (by rw[List.length_map];omega) ?_;refine Ev.bind (qW n E hm) ?_;rw[g]
      repeat (first | with_reducible exact Ev.now _ | dsimp only | refine Ev.bZ ?_ | refine Ev.cj ?_ | simp only[bne_self_eq_false,Bool.not_true,Bool.not_false,List.length_cons,List.length_nil] | rw[aX (by omega) (by omega)] | ((with_reducible refine Ev.eq (congrArg some ?_));rfl))
    · refine⟨(0,[],false), ?_,Or.inl ⟨rfl,fun l hg hl=> ?_⟩⟩
      · refine Ev.succ ?_;simp only[fT.l0]
        refine Ev.neg (by rw[List.length_map];omega) ?_;refine Ev.bind (qW n E hm) ?_;rw[Bool.eq_false_iff.2 g]
        repeat (first | with_reducible exact Ev.now _ | dsimp only | refine Ev.bZ ?_ | refine Ev.cj ?_ | simp only[bne_self_eq_false,Bool.not_true,Bool.not_false,List.length_cons,List.length_nil] | rw[aX (by omega) (by omega)] | ((with_reducible refine Ev.eq (congrArg some ?_));rfl))
      · rw[e]at hl
        have:l= []:=by simpa using hl.symm
        rw[this,List.append_nil]at hg;exact g hg
  | succ d ih=>
    intro i E hi hE hr;have hil:i<ps.length:=by omega
    have hp:=hpl ps[i] (List.getElem_mem hil);have hsp:=Di ps[i] 45 hp;have U7:(((45:UInt8).toNat:Nat):Int)=45:=rfl;rw[U7]at hsp;have hd:ps.drop i=ps[i] :: ps.drop (i+1):=List.drop_eq_getElem_cons hil
    by_cases h2:(ic 45 ps[i]).length=2
    · obtain⟨u,v,huv⟩:=Dl h2
      obtain⟨a,ha,ha'⟩:=Dk u;obtain⟨b,hb,hb'⟩:=Dk v;obtain⟨r,h3,h4⟩:=ih (i+1) (E++[[a,b]]) (by omega) (by simp[hE]) (fun r h=>by
        rcases List.mem_append.1 h with h | h
        · exact hr r h
        · rw[List.mem_singleton.1 h];rfl)
      have hj:ps[i]=u++45 :: v:=by rw[← Db 45 ps[i],huv];rfl
      refine⟨r, ?_, ?_⟩
      · refine Ev.succ ?_;simp only[fT.l0]
        refine Ev.pos (by rw[List.length_map];omega) ?_;refine Ev.pos (by omega) ?_;rw[Hq hil];refine Ev.bind hsp ?_;rw[huv];refine Ev.pos (by simp) ?_;refine Ev.pos (by simp) ?_;refine Ev.bind (f:=fun k t=>_) (show Ev (fun k=>e8.f k (fF ByteArray.empty (List.map bs [u,v]) 0)) a from ha) ?_;refine Ev.pos (by simp) ?_;refine Ev.bind (f:=fun k t=>_) (show Ev (fun k=>e8.f k (fF ByteArray.empty (List.map bs [u,v]) 1)) b from hb) ?_;refine Ev.pos (by omega) ?_;rw[dI (by omega)];exact h3
      · rcases h4 with ⟨rfl,h4⟩ | ⟨l,rfl,h5,h6⟩
        · refine Or.inl ⟨rfl,fun l hg hl=> ?_⟩
          cases l with
          | nil=>rw[hd]at hl;cases hl
          | cons e l=>
            rw[hd,List.map_cons]at hl
            injection hl with hl1 hl2
            have hw:=Hi hg (e:=e) (by simp);rw[← hl1,huv]at hw
            injection hw with hw1 pH
            injection pH with pH _
            obtain⟨x,y,rfl,ex,ey,x0,x1,y0,y1⟩:=AF hg (e:=e) (by simp);rw[ex]at hw1;rw[ey]at pH;subst hw1 pH;have ea:=Ev.uniq ha (Dj x0 (by omega));have eb:=Ev.uniq hb (Dj y0 (by omega));subst ea eb;exact h4 l (by rw[List.append_assoc];exact hg) hl2
        · have hg:fB n (E++([a,b] :: l))=true:=by rw[List.append_assoc]at h5;exact h5
          refine Or.inr ⟨[a,b] :: l,by rw[List.append_assoc];rfl,hg, ?_⟩;obtain⟨x,y,e,ex,ey,x0,x1,y0,y1⟩:=AF hg (e:=[a,b]) (by simp)
          injection e with e1 e2
          injection e2 with e2 _
          subst e1 e2;rw[hd,List.map_cons,h6,hj,ha' x0 (by omega),hb' y0 (by omega)]
          rfl
    · refine⟨(0,[],false), ?_,Or.inl ⟨rfl,fun l hg hl=> ?_⟩⟩
      · refine Ev.succ ?_;simp only[fT.l0]
        refine Ev.pos (by rw[List.length_map];omega) ?_;refine Ev.pos (by omega) ?_;rw[Hq hil];refine Ev.bind hsp ?_;refine Ev.neg (by rw[List.length_map];omega) ?_;exact Ev.now _
      · cases l with
        | nil=>rw[hd]at hl;cases hl
        | cons e l=>
          rw[hd,List.map_cons]at hl
          injection hl with hl1 hl2
          have hw:=Hi hg (e:=e) (by simp);rw[← hl1]at hw;rw[hw]at h2;exact h2 rfl

theorem Nv (c:UInt8) (s:List UInt8):(ic c s).length≤s.length+1:=by
  rw[Nc];have:=List.count_le_length (a:=c) (l:=s)
  omega

theorem Nw {c:UInt8} {s p:List UInt8} (h:p∈ic c s):p.length≤s.length:=by
  induction s generalizing p with
  | nil=>simp[ic]at h;simp[h]
  | cons b s ih=>
    by_cases e:b=c
    · subst e
      rw[yo]at h;rcases List.mem_cons.1 h with rfl | h
      · simp
      · have:=ih h;simp;omega
    · rw[wq e]at h
      cases hs:ic c s with
      | nil=>exact absurd hs (tT c s)
      | cons x xs=>
        rw[hs]at h ih;rcases List.mem_cons.1 h with rfl | h
        · have:=ih (List.mem_cons_self)
          simp at this ⊢
          omega
        · have:=ih (List.mem_cons_of_mem _ h)
          simp;omega

theorem Nx (s:List UInt8) (hs:s.length≤1048576): ∃r,Ev (fun k=>fT.f k (bs s)) r∧
    ((r=(0,[],false)∧∀n l,fB n l=true→s≠txt n l)∨∃n l,r=(n,l,true)∧fB n l=true∧s=txt n l):=by
  have hsp:=Di s 58 hs;have U8:(((58:UInt8).toNat:Nat):Int)=58:=rfl;rw[U8]at hsp
  by_cases h2:(ic 58 s).length=2
  · obtain⟨u,v,huv⟩:=Dl h2
    have hj:s=u++58 :: v:=by rw[← Db 58 s,huv];rfl
    have hv:v.length+1≤s.length:=by rw[hj,List.length_append,List.length_cons];omega
    obtain⟨n,hn,hn'⟩:=Dk u;have U7:=Di v 44 (by omega);have U9:(((44:UInt8).toNat:Nat):Int)=44:=rfl;rw[U9]at U7;have hc:=Nv 44 v;obtain⟨ps,hpe,hps,hpl,hem⟩: ∃ps:List (List UInt8),ps=(if v= [] then [] else ic 44 v)∧ps.length≤1048576∧(∀p∈ps,p.length≤1048576)∧mK 44 ps=v:=by
      refine⟨_,rfl, ?_, ?_, ?_⟩
      · split
        · simp
        · omega
      · intro p hp
        split at hp
        · cases hp
        · have:=Nw hp;omega
      · split
        · next h=>rw[h];rfl
        · exact Db 44 v
    obtain⟨r,h3,h4⟩:=Nu ps hps hpl n ps.length 0 [] (by omega) rfl (by simp);refine⟨r, ?_, ?_⟩
    · unfold fT.f
      refine Ev.bind hsp ?_;rw[huv];refine Ev.pos (by simp) ?_;refine Ev.pos (by simp) ?_;refine Ev.bind (f:=fun k t=>_) (show Ev (fun k=>e8.f k (fF ByteArray.empty (List.map bs [u,v]) 0)) n from hn) ?_;refine Ev.bind (Ev.now _) ?_;refine Ev.pos (by simp) ?_;refine Ev.bind (f:=fun k t=>_) (show Ev (fun k=>jb.f k (fF ByteArray.empty (List.map bs [u,v]) 1) 44) _ from U7) ?_;have ev:(fF ByteArray.empty (List.map bs [u,v]) 1).toList=v:=Na v;rw[ev]
      by_cases hv0:v= []
      · refine Ev.pos hv0 ?_
        rw[if_pos hv0]at hpe;refine Ev.succ ?_;simp only[fT.j0];rw[hpe]at h3;exact h3
      · refine Ev.neg hv0 ?_
        rw[if_neg hv0]at hpe;refine Ev.succ ?_;simp only[fT.j0];rw[hpe]at h3;exact h3
    · rw[List.drop_zero]at h4
      rcases h4 with ⟨rfl,h4⟩ | ⟨l,rfl,h5,h6⟩
      · refine Or.inl ⟨rfl,fun n' l hg hs'=> ?_⟩
        have hts:=Hh hg;rw[← hs',huv]at hts
        injection hts with t1 t2
        injection t2 with t2 _
        subst t1;obtain⟨g1,g2,g3⟩:=gp hg;have en:=Ev.uniq hn (Dj (a:=n') (by omega) (by omega));subst en;refine h4 l hg ?_;rw[hpe];cases l with
        | nil=>
          rw[if_pos (by rw[t2];rfl)]
          rfl
        | cons e l=>
          rw[if_neg,t2,Nk hg (by simp)];rw[t2];cases l<;>simp[mK,word]
      · rw[List.nil_append]at h5
        refine Or.inr ⟨n,l,rfl,h5, ?_⟩;obtain⟨g1,g2,g3⟩:=gp h5;rw[hj,hn' (by omega) (by omega),← hem,h6]
        rfl
  · refine⟨(0,[],false), ?_,Or.inl ⟨rfl,fun n l hg hs'=> ?_⟩⟩
    · unfold fT.f
      refine Ev.bind hsp ?_;refine Ev.neg (by rw[List.length_map];omega) ?_;exact Ev.now _
    · rw[hs',Hh hg]at h2
      exact h2 rfl
/-- At most so many edges, each of at most two numbers. -/
def Ge (a:Nat) (l:List (List Int)):Prop:=l.length≤a∧∀r∈l,r.length≤2
def Gd (l:List (List Int)):Prop:=l.length≤11∧∀r∈l,r.length≤3

theorem Ge.nil (a:Nat):Ge a []:=⟨Nat.zero_le _,fun r h=>absurd h (by simp)⟩

theorem Ge.snoc {a:Nat} {l:List (List Int)} (h:Ge a l) (hl:l.length<a) (x y:Int):Ge a (l++[[x,y]]):=by
  refine⟨by simp;omega,fun r hr=> ?_⟩;rcases List.mem_append.1 hr with hr | hr
  · exact h.2 r hr
  · rw[List.mem_singleton.1 hr];exact Nat.le_refl _

theorem Ge.gd {l:List (List Int)} (h:Ge 11 l):Gd l:=⟨h.1,fun r hr=>by have:=h.2 r hr;omega⟩
theorem Ge.mono {a b:Nat} {l:List (List Int)} (h:Ge a l) (hab:a≤b):Ge b l:=⟨Nat.le_trans h.1 hab,h.2⟩
theorem Gd.mod {l:List (List Int)} (h:Gd l):Mod l:=⟨by have:=h.1;omega,fun r hr=>by have:=h.2 r hr;omega⟩

theorem Ny (n:Int) (l:List (List Int)) (hl:Ge 10 l): ∀(d i:Nat),i+d=l.length→Ev (fun k=>gB.l0 k (i:Int) n l n (l.take i)) (n,l):=by
  have h10:=hl.1;intro d
  induction d with
  | zero=>
    intro i hi;refine Ev.succ ?_;simp only[gB.l0];refine Ev.neg (by omega) ?_;rw[List.take_of_length_le (by omega)];exact Ev.now _
  | succ d ih=>
    intro i hi;refine Ev.succ ?_;simp only[gB.l0];have hr:(af l (i:Int)).length≤2:=by
      rw[jH (by omega)];exact hl.2 _ (List.getElem_mem _)
    refine Ev.pos (by omega) (Ev.pos (by omega) (Ev.bind (Ev.eq (Np _ (by omega))) (Ev.pos (by simp;omega) ?_)));rw[dI (by omega)];have:=ih (i+1) (by omega);rw[List.take_succ_eq_append_getElem (by omega),← jH (by omega)]at this;exact this

theorem copy_eq (n:Int) (l:List (List Int)) (hl:Ge 10 l):Ev (fun k=>gB.f k n l) (n,l):=Ny n l hl l.length 0 (by omega)

section
variable {c:List Int} (hc:Code c)
include hc

omit hc in
theorem NA (n:Int): ∀(d:Nat) (l:List (List Int)) (a h:Int),0≤a→l.length+d=11→Ge 11 l→Dr (fun k=>jk.l0 k c a h n l) (fun r=>Gd r.2.1∧0≤r.2.2.1):=by
  intro d
  induction d with
  | zero=>
    intro l a h ha hl hg;refine Dr.succ ?_;simp only[jk.l0];exact Dr.neg (by omega) (Dr.now ⟨hg.gd,ha⟩)
  | succ d ih=>
    intro l a h ha hl hg;refine Dr.succ ?_;simp only[jk.l0];refine Dr.pos (by omega) (Dr.pos (by omega) ?_);exact ih _ a h ha (by simp;omega) (hg.snoc (by omega) 0 0)

theorem NB {a:Int} (ha:0≤a) (h n:Int) (l:List (List Int)) (hl:Ge 10 l):Dr (fun k=>jk.f k c a h n l) (fun r=>Gd r.2.1∧0≤r.2.2.1):=by
  unfold jk.f;have h10:=hl.1;have gd:=(hl.mono (show 10≤11 by omega)).gd;have U7:Dr (fun k=>gB.f k n l) (fun r=>r=(n,l)):=⟨_,copy_eq n l hl,rfl⟩;refine Dr.bind (Dr.eq (nr hc ha h 40)) (fun r hr=> ?_);refine Dr.ite (fun _=> ?_) (fun _=>Dr.ite (fun _=> ?_) (fun _=>Dr.ite (fun _=> ?_) (fun _=>Dr.ite (fun _=> ?_) (fun _=> ?_))))
  · exact Dr.bind (Dr.eq (Dh hc hr.1 _ _ (by simp))) (fun p hp=>Dr.now ⟨gd,hp.1⟩)
  · refine Dr.bind U7 (fun q hq=> ?_)
    subst hq;exact Dr.pos (by simp only;omega) (Dr.now ⟨((hl.mono (show 10≤11 by omega)).snoc (by omega) 0 n).gd,hr.1⟩)
  · refine Dr.bind U7 (fun q hq=> ?_)
    subst hq;refine Dr.ite (fun h0=> ?_) (fun _=>Dr.now ⟨gd,hr.1⟩);simp only at h0;refine Dr.bind (Dr.eq (nr hc hr.1 _ _)) (fun p hp=> ?_);have h1:=hp.2.2.1 (by simp only;omega);simp only at h1;obtain⟨i,hi⟩:=Int.eq_ofNat_of_zero_le hp.2.1;have hrow:(af l p.1).length≤2:=by
      rw[hi,jH (by omega)];exact hl.2 _ (List.getElem_mem _)
    refine Dr.pos hp.2.1 (Dr.pos h1 (Dr.pos (by simp only;omega) (Dr.now ⟨⟨by simp only[List.length_set];omega,fun r hr=> ?_⟩,hp.1⟩)));rcases List.mem_or_eq_of_mem_set hr with h | h
    · have:=hl.2 r h;omega
    · rw[h];simp;omega
  · refine Dr.bind U7 (fun q hq=> ?_)
    subst hq;exact NA n (11 - l.length) l _ _ hr.1 (by omega) (hl.mono (by omega))
  · exact Dr.now ⟨gd,hr.1⟩

theorem NC (n z:Int) (hz:1≤z) (m:Nat) (hm:m≤10): ∀(d:Nat) (l:List (List Int)) (a h:Int),0≤a→d≤100→Ge m l→Dr (fun k=>eP.l1 k z (m:Int) (d:Int) c a h n l) (fun r=>Ge 10 r.2.1∧0≤r.2.2.1):=by
  intro d
  induction d with
  | zero=>
    intro l a h ha hd hl;refine Dr.succ ?_;simp only[eP.l1];refine Dr.neg (by omega) (Dr.succ ?_);simp only[eP.j3];exact Dr.neg (by decide) (Dr.now ⟨hl.mono hm,ha⟩)
  | succ d ih=>
    intro l a h ha hd hl;refine Dr.succ ?_;simp only[eP.l1];refine Dr.pos (by omega) (Dr.succ ?_);simp only[eP.j3];have hlm:=hl.1;refine Dr.ite (fun hx=> ?_) (fun _=>Dr.now ⟨hl.mono hm,ha⟩);have hlt:l.length<m:=by have:=of_decide_eq_true hx;omega
    have e:wrap64 (((d+1:Nat):Int) - 1)=(d:Int):=by rw[aX (by omega) (by omega)];omega
    rw[e];refine Dr.bind (Dr.eq (nr hc ha _ _)) (fun p hp=>Dr.bind (Dr.eq (nr hc hp.1 _ _)) (fun q hq=> ?_));refine Dr.ite (fun _=> ?_) (fun _=>Dr.pos (by omega) (ih _ _ _ hq.1 (by omega) (hl.snoc hlt _ _)));refine Dr.bind (Dr.eq (nr hc hq.1 _ _)) (fun s hs=> ?_);refine Dr.ite (fun _=>Dr.neg (by omega) (Dr.pos (by omega) (ih _ _ _ hs.1 (by omega) (hl.snoc hlt _ _)))) (fun _=>Dr.pos (by omega) (ih _ _ _ hs.1 (by omega) (hl.snoc hlt _ _)))

theorem AH (n z:Int) (hz:1≤z) (m:Nat) (hm:m≤10) (b:Bool) (v:Int) (l:List (List Int)) {a:Int} (ha:0≤a) (h:Int) (hl:Ge m l):Dr (fun k=>eP.j1 k z (m:Int) b v false c a h n l) (fun r=>Ge 10 r.2.1∧0≤r.2.2.1):=by
  refine Dr.succ ?_;simp only[eP.j1];refine Dr.neg (by decide) (Dr.bind (Dr.eq (nr hc ha _ _)) (fun r hr=> ?_));rw[aX (x:=(m:Int)+1) (by omega) (by omega)]at hr;have h2:=hr.2.2.1 (by omega);obtain⟨d,hd⟩:=Int.eq_ofNat_of_zero_le hr.2.1;rw[hd];exact NC hc n z hz m hm d l _ _ hr.1 (by omega) hl

theorem ND (n z:Int) (hz:1≤z) (Hr:z≤8) (m:Nat) (hm:m≤10) (b:Bool): ∀(d v:Nat) (l:List (List Int)) (a h:Int),0≤a→z≤v+d→v≤100→Ge m l→Dr (fun k=>eP.l0 k z (m:Int) b (v:Int) c a h n l) (fun r=>Ge 10 r.2.1∧0≤r.2.2.1):=by
  intro d
  induction d with
  | zero=>
    intro v l a h ha hv U7 hl;refine Dr.succ ?_;simp only[eP.l0];exact Dr.neg (by omega) (AH hc n z hz m hm b v l ha h hl)
  | succ d ih=>
    intro v l a h ha hv U7 hl;have hlm:=hl.1;refine Dr.succ ?_;simp only[eP.l0];refine Dr.ite (fun U8=> ?_) (fun _=>AH hc n z hz m hm b v l ha h hl);refine Dr.ite (fun _=> ?_) (fun _=>AH hc n z hz m hm b v l ha h hl)
    by_cases hlt:(l.length:Int)<m
    · rw[decide_eq_true hlt]
      refine Dr.succ ?_;simp only[eP.j1];rw[dI (i:=v) (by omega)];refine Dr.pos (by first | exact trivial | rfl) (Dr.bind (Dr.eq (nr hc ha _ _)) (fun p hp=>Dr.bind (Dr.eq (nr hc hp.1 _ _)) (fun q hq=> ?_)));refine Dr.ite (fun _=>Dr.pos (by omega) (ih (v+1) _ _ _ hq.1 (by omega) (by omega) (hl.snoc (by omega) _ _))) (fun _=>Dr.pos (by omega) (ih (v+1) _ _ _ hq.1 (by omega) (by omega) (hl.snoc (by omega) _ _)))
    · rw[decide_eq_false hlt]
      exact AH hc n z hz m hm b v l ha h hl

theorem NF {a:Int} (ha:0≤a) (h z:Int) (hz:1≤z) (Hr:z≤8) (m:Int) (hm0:0≤m) (hm:m≤10):Dr (fun k=>eP.f k c a h z m) (fun r=>Ge 10 r.2.1∧0≤r.2.2.1):=by
  unfold eP.f;obtain⟨m',rfl⟩:=Int.eq_ofNat_of_zero_le hm0;exact Dr.bind (Dr.eq (nr hc ha _ _)) (fun r hr=>ND hc z z hz Hr m' (by omega) _ 8 1 [] _ _ hr.1 (by omega) (by omega) (Ge.nil _))

omit hc in
theorem NG {p:Prop} [Decidable p] {x y:Option ByteArray} (h1: ∃t:ByteArray,x=some t∧t.size≤100) (h2: ∃t:ByteArray,y=some t∧t.size≤100): ∃t:ByteArray,(if p then x else y)=some t∧t.size≤100:=by
  by_cases h:p
  · rw[if_pos h];exact h1
  · rw[if_neg h];exact h2

omit hc in
theorem NH (a:ByteArray): ∃t:ByteArray,tU.f a=some t∧t.size≤100:=by
  unfold tU.f
  repeat' with_reducible refine NG ?_ ?_
  all_goals exact⟨_,rfl,by decide⟩

omit hc in
theorem NI (a:ByteArray):Dr (fun k=>tV.f k a) (fun r=>Ge 10 r.2.1):=by
  unfold tV.f;obtain⟨t,ht,hs⟩:=NH a;obtain⟨s,rfl⟩:=M9 t;rw[hO]at hs;refine Dr.bind (Dr.eq ⟨_,ht,rfl⟩) (fun x hx=> ?_);rw[← hx];obtain⟨r,he,hr⟩:=Nx s (by omega);refine Dr.bind (P:=fun x=>x=r) ⟨r,he,rfl⟩ (fun x hx=> ?_);subst hx;refine Dr.now ?_;rcases hr with ⟨rfl,_⟩ | ⟨n,l,rfl,hg,_⟩
  · exact Ge.nil _
  · obtain⟨_,_,h3,h4⟩:=(wu n l).1 hg
    refine⟨h3,fun r hr=> ?_⟩;obtain⟨x,y,rfl,_⟩:=h4 r hr;exact Nat.le_refl _

theorem NJ {a:Int} (ha:0≤a) (h:Int):Dr (fun k=>tW.f k c a h) (fun r=>Ge 10 r.2.1∧0≤r.2.2.1):=by
  unfold tW.f;refine Dr.bind (Dr.eq (nr hc ha _ _)) (fun r hr=>Dr.ite (fun _=> ?_) (fun _=> ?_))
  · refine Dr.bind (Dr.eq ⟨_,rfl,rfl⟩) (fun x hx=> ?_)
    have U7:x.length=14:=by rw[← hx];rfl
    refine Dr.bind (Dr.eq (nr hc hr.1 _ _)) (fun p hp=> ?_);have h1:=hp.2.2.1 (by omega);exact Dr.pos hp.2.1 (Dr.pos h1 (Dr.bind (NI _) (fun q hq=>Dr.now ⟨hq,hp.1⟩)))
  · refine Dr.bind (Dr.eq (nr hc hr.1 _ _)) (fun p hp=> ?_)
    have U9:=hp.2.2.1 (by omega);have U8:=hp.2.1;have e:wrap64 (1+p.1)=1+p.1:=aX (by omega) (by omega);rw[e];refine Dr.bind (Dr.eq (Dh hc hp.1 _ _ (by simp))) (fun z hz=> ?_);have hz1:1≤z.1∧z.1≤8:=by
      have:=hz.2;simp only[List.mem_cons,List.not_mem_nil,or_false]at this
      omega
    refine Dr.bind (Dr.eq (Dh hc hz.1 _ _ (by decide))) (fun m hm=> ?_);have hm1:0≤m.1∧m.1≤10:=by
      have: ∀y∈([2,4,6,6,8,10]:List Int),0≤y∧y≤10:=by decide
      exact this _ hm.2
    exact Dr.bind (NF hc hm.1 _ _ hz1.1 hz1.2 _ hm1.1 hm1.2) (fun q hq=>Dr.now hq)

theorem Dm {a:Int} (ha:0≤a) (h:Int):Dr (fun k=>pL.f k c a h) (fun r=>Gd r.2.1∧0≤r.2.2.1):=by
  unfold pL.f;exact Dr.bind (NJ hc ha h) (fun r hr=>Dr.bind (NB hc hr.2 _ _ _ hr.1) (fun q hq=>Dr.now hq))

end
/-- At most ten edges of two ends. -/
def E2 (l:List (List Int)):Prop:=l.length≤10∧∀r∈l,r.length=2

theorem E2.mod {l:List (List Int)} (h:E2 l):Mod l:=⟨by have:=h.1;omega,fun r hr=>by have:=h.2 r hr;omega⟩

theorem E2.row {l:List (List Int)} (h:E2 l) {i:Nat} (hi:i<l.length):(af l (i:Int)).length=2:=by
  rw[jH hi];exact h.2 _ (List.getElem_mem _)

theorem NK (n:Int) (l:List (List Int)) (hl:E2 l) (v:Int): ∀(d i:Nat) (x:Int),i+d=l.length→Dr (fun k=>fe.l0 k v x (i:Int) n l) (fun _=>True):=by
  have h10:=hl.1;intro d
  induction d with
  | zero=>
    intro i x hi;refine Dr.succ ?_;simp only[fe.l0];exact Dr.neg (by omega) (Dr.now trivial)
  | succ d ih=>
    intro i x hi;have hr:=hl.row (show i<l.length by omega);have nx: ∀y:Int,Dr (fun k=>fe.l0 k v y ((i+1:Nat):Int) n l) (fun _=>True):=fun y=>ih (i+1) y (by omega)
    have ends: ∀(e j:Nat) (y:Int),j+e=2→Dr (fun k=>fe.l1 k v y (i:Int) (j:Int) n l) (fun _=>True):=by
      intro e
      induction e with
      | zero=>
        intro j y hj;refine Dr.succ ?_;simp only[fe.l1];rw[dI (i:=i) (by omega)];exact Dr.neg (by omega) (nx _)
      | succ e U7=>
        intro j y hj;refine Dr.succ ?_;simp only[fe.l1];rw[dI (i:=j) (by omega)];exact Dr.pos (by omega) (Dr.pos (by omega) (Dr.pos (by omega) (Dr.pos (by omega) (Dr.pos (by omega) (Dr.ite (fun _=>U7 (j+1) _ (by omega)) (fun _=>U7 (j+1) _ (by omega)))))))
    refine Dr.succ ?_;simp only[fe.l0];exact Dr.pos (by omega) (ends 2 0 x rfl)

theorem NL (N:Int) (l:List (List Int)) (hl:E2 l) (v:Int) (Q:Int×List (List Int)→Prop) (next: ∀y,E2 y→Dr (fun k=>fq.l0 k 0 (wrap64 (N - 1)) y) Q):
    ∀(d i:Nat) (y:List (List Int)),i+d=l.length→E2 y→y.length≤i→Dr (fun k=>fq.l1 k v y (i:Int) N l) Q:=by
  have h10:=hl.1;intro d
  induction d with
  | zero=>
    intro i y hi hy _;refine Dr.succ ?_;simp only[fq.l1];exact Dr.neg (by omega) (next y hy)
  | succ d ih=>
    intro i y hi hy U7;have hr:=hl.row (show i<l.length by omega);have skip:Dr (fun k=>fq.l1 k v y ((i+1:Nat):Int) N l) Q:=ih (i+1) y (by omega) hy (by omega);have put: ∀a b:Int,Dr (fun k=>fq.l1 k v (y++[[a,b]]) ((i+1:Nat):Int) N l) Q:=fun a b=>ih (i+1) _ (by omega) ⟨by simp;omega,fun r hr=>by
      rcases List.mem_append.1 hr with hr | hr
      · exact hy.2 r hr
      · rw[List.mem_singleton.1 hr];rfl⟩ (by simp;omega)
    have hj: ∀(b:Bool) (p q:Int),Dr (fun k=>fq.j2 k v y (i:Int) p q b N l) Q:=by
      intro b p q;refine Dr.succ ?_;simp only[fq.j2];rw[dI (i:=i) (by omega)];refine Dr.ite (fun _=>skip) (fun _=>Dr.ite (fun _=>Dr.ite (fun _=>Dr.pos (by omega) (put _ _)) (fun _=>Dr.pos (by omega) (put _ _))) (fun _=>Dr.ite (fun _=>Dr.pos (by omega) (put _ _)) (fun _=>Dr.pos (by omega) (put _ _))))
    refine Dr.succ ?_;simp only[fq.l1];exact Dr.pos (by omega) (Dr.pos (by omega) (Dr.pos (by omega) (Dr.pos (by omega) (Dr.ite (fun _=>hj _ _ _) (fun _=>hj _ _ _)))))

theorem NM: ∀N:Nat,N≤8→∀(l:List (List Int)),E2 l→∀(d v:Nat),v+d=N→Dr (fun k=>fq.l0 k (v:Int) (N:Int) l) (fun r=>Mod r.2):=by
  intro N
  induction N with
  | zero=>
    intro _ l hl d v hv;refine Dr.succ ?_;simp only[fq.l0];exact Dr.neg (by omega) (Dr.now hl.mod)
  | succ N U7=>
    intro hN l hl d
    induction d with
    | zero=>
      intro v hv;refine Dr.succ ?_;simp only[fq.l0];exact Dr.neg (by omega) (Dr.now hl.mod)
    | succ d ih=>
      intro v hv;have C0:Dr (fun k=>fe.f k ((N+1:Nat):Int) l (v:Int)) (fun _=>True):=NK _ l hl (v:Int) l.length 0 _ (by omega);have nx:=ih (v+1) (by omega);refine Dr.succ ?_;simp only[fq.l0];rw[dI (i:=v) (by omega)];refine Dr.pos (by omega) (Dr.bind C0 (fun t _=>Dr.ite (fun _=> ?_) (fun _=>nx)));refine NL _ l hl _ _ (fun y hy=> ?_) l.length 0 [] (by omega) ⟨by simp,fun r hr=>absurd hr (by simp)⟩ (by simp);rw[aX (x:=((N+1:Nat):Int) - 1) (by omega) (by omega),show((N+1:Nat):Int) - 1=(N:Int) by omega];exact U7 (by omega) y hy N 0 (by omega)

theorem NN {n:Int} {l:List (List Int)} (h:fB n l=true):Dr (fun k=>fq.f k n l) (fun r=>Mod r.2):=by
  obtain⟨h1,h2,h3,h4⟩:=(wu n l).1 h;have h5: ∀r∈l,r.length=2:=fun r hr=>by
    obtain⟨x,y,rfl,_⟩:=h4 r hr
    rfl
  obtain⟨N,rfl⟩:=Int.eq_ofNat_of_zero_le (show 0≤n by omega);unfold fq.f;refine Dr.bind (P:=fun r=>r=((N:Int),l)) ⟨_,copy_eq _ l ⟨h3,fun r hr=>by rw[h5 r hr];exact Nat.le_refl _⟩,rfl⟩ (fun r hr=> ?_);subst hr;exact NM N (by omega) l ⟨h3,h5⟩ N 0 (by omega)

section
variable {c:List Int} (hc:Code c)
include hc

theorem NP:Dr (fun k=>tX.f k c) (fun r=>Mod r.2):=by
  unfold tX.f;refine Dr.bind (Hj c hc) (fun s hs=> ?_);obtain⟨s0,s1,s2⟩:=s;obtain⟨rfl,hs⟩:=hs;exact Dr.bind (Dm hc hs _) (fun g hg=>Dr.now hg.1.mod)

theorem NQ:Dr (fun k=>mb.f k c) (fun r=>Mod r.2.1∧Mod r.2.2.2):=by
  unfold mb.f;refine Dr.bind (Hj c hc) (fun s hs=> ?_);obtain⟨s0,s1,s2⟩:=s;obtain⟨rfl,hs⟩:=hs;refine Dr.bind (Dm hc hs _) (fun g hg=> ?_);have no: ∀(a b:Int),0≤a→Dr (fun k=>mb.j0 k false s0 a b g.1 g.2.1) (fun r=>Mod r.2.1∧Mod r.2.2.2):=fun a b ha=>by
    refine Dr.succ ?_;simp only[mb.j0];exact Dr.neg (by decide) (Dr.bind (Dm hc ha _) (fun q hq=>Dr.now ⟨hg.1.mod,hq.1.mod⟩))
  refine Dr.bind (P:=fun b=>b=fB g.1 g.2.1) ⟨_,qW g.1 g.2.1 hg.1.mod,rfl⟩ (fun b hb=> ?_);subst hb;cases hgr:fB g.1 g.2.1 with
  | false=>exact no _ _ hg.2
  | true=>
    refine Dr.bind (Dr.eq (nr hc hg.2 _ _)) (fun p hp=> ?_);cases hz:(p.1 == 0) with
    | false=>exact no _ _ hp.1
    | true=>
      refine Dr.succ ?_;simp only[mb.j0];exact Dr.pos (by first | exact trivial | rfl) (Dr.bind (NN hgr) (fun q hq=>Dr.now ⟨hg.1.mod,hq⟩))

end
theorem NR (a b:List Int) (hl:a.length≤1048576) (hab:a.length=b.length): ∀(d i:Nat),i+d=a.length→
    Ev (fun k=>iL.l0 k a b (i:Int)) (decide (a.drop i=b.drop i)):=by
  intro d
  induction d with
  | zero=>
    intro i hi;refine Ev.succ ?_;simp only[iL.l0];rw[List.drop_eq_nil_of_le (by omega),List.drop_eq_nil_of_le (by omega)]
    repeat (first | with_reducible exact Ev.now _ | dsimp only | refine Ev.bZ ?_ | refine Ev.cj ?_ | simp only[bne_self_eq_false,Bool.not_true,Bool.not_false,List.length_cons,List.length_nil] | rw[aX (by omega) (by omega)] | ((with_reducible refine Ev.eq (congrArg some ?_));rfl))
  | succ d ih=>
    intro i hi;refine Ev.succ ?_;simp only[iL.l0];rw[List.drop_eq_getElem_cons (by omega:i<a.length),List.drop_eq_getElem_cons (by omega:i<b.length),dI (by omega)]
    by_cases e:rd a i=rd b i
    · repeat (first | with_reducible exact Ev.now _ | dsimp only | refine Ev.bZ ?_ | refine Ev.cj ?_ | simp only[bne_self_eq_false,Bool.not_true,Bool.not_false,List.length_cons,List.length_nil] | rw[aX (by omega) (by omega)] | ((with_reducible refine Ev.eq (congrArg some ?_));rfl))
      have:=ih (i+1) (by omega);rw[iw (by omega),iw (by omega)]at e;rw[e,C9];exact this
    · rw[decide_eq_false (fun h=>e (by rw[iw (by omega),iw (by omega)];exact(List.cons.inj h).1))]
      repeat (first | with_reducible exact Ev.now _ | dsimp only | refine Ev.bZ ?_ | refine Ev.cj ?_ | simp only[bne_self_eq_false,Bool.not_true,Bool.not_false,List.length_cons,List.length_nil] | rw[aX (by omega) (by omega)] | ((with_reducible refine Ev.eq (congrArg some ?_));rfl))

theorem yq (a:List Int) (hl:a.length≤1048576):Ev (fun k=>iL.f k a a) true:=by
  unfold iL.f;refine Ev.pos rfl ?_;have:=NR a a hl rfl a.length 0 (by omega);rw[decide_eq_true rfl]at this;exact this
theorem NT (a:List (List Int)) (ha:Mod a):Ev (fun k=>mc.f k a a) true:=by
  have h1:=ha.1;have main: ∀(d i:Nat),i+d=a.length→Ev (fun k=>mc.l0 k a a (i:Int)) true:=by
    intro d
    induction d with
    | zero=>
      intro i hi;refine Ev.succ ?_;simp only[mc.l0];exact Ev.neg (by omega) (Ev.now _)
    | succ d ih=>
      intro i hi;have hr:(af a (i:Int)).length≤1048576:=by
        rw[jH (by omega)];exact ha.2 _ (List.getElem_mem _)
      refine Ev.succ ?_;simp only[mc.l0];rw[dI (i:=i) (by omega)];exact Ev.pos (by omega) (Ev.pos (by omega) (Ev.pos (by omega) (Ev.bind (yq _ hr) (Ev.pos rfl (ih (i+1) (by omega))))))
  unfold mc.f;exact Ev.pos rfl (main a.length 0 (by omega))

theorem NU: ∀(d:Nat) (f:List Int),0≤ord d f:=by
  intro d
  induction d with
  | zero=>intro f;exact Int.le_refl _
  | succ d ih=>
    intro f;unfold ord
    split
    · have:=ih (dx (fj f f.length) f.length)
      omega
    · exact Int.le_refl _

theorem NV (f:List Int):(iy f f.length == 0)=decide (((0:Nat):Int)+ord 100 f>0):=by
  show _=decide (((0:Nat):Int)+(if iy f f.length=0 then ord 99 (dx (fj f f.length) f.length)+1 else 0)>0)
  have:=NU 99 (dx (fj f f.length) f.length)
  by_cases c:iy f f.length=0
  · rw[if_pos c,c,decide_eq_true (by omega)]
    rfl
  · rw[if_neg c,decide_eq_false (by omega)]
    exact beq_eq_false_iff_ne.mpr c

theorem NW (u:Int):Hn [1,0, -1] u=1 - u*u:=by
  show 0+1*u ^ 0+0*u ^ 1+(-1)*u ^ 2=_
  rw[Int.pow_zero,Int.pow_succ,Int.pow_succ,Int.pow_zero]
  grind

/-- A list times 1 - u u: the product, or the answer that the limit is passed. -/
theorem Ht (Q:List Int) (hQ:whole Q=true):(mulR Q [1,0, -1]).2=3∨(mulR Q [1,0, -1]).2=0∧whole (mulR Q [1,0, -1]).1=true∧∀u,Hn (mulR Q [1,0, -1]).1 u=Hn Q u*(1 - u*u):=by
  have h1:whole [1,0, -1]=true:=by decide
  unfold mulR;rw[if_pos ⟨hQ,h1⟩]
  by_cases c:(jQ Q [1,0, -1]).2=true
  · obtain⟨h2,h3⟩:=LJ Q [1,0, -1] hQ h1 c
    rw[if_pos c];exact .inr ⟨rfl,h2,fun u=>by rw[LN h3 u,NW]⟩
  · rw[if_neg c]
    exact .inl rfl

section
variable (f:List Int) (hf:f.length≤1000) (o:Int) (ho:(iy f f.length == 0)=decide (o>0))
include hf ho

theorem NX (P:List Int) (hP:P.length≤1048576): ∀(d i:Nat),i+d=f.length→Ev (fun k=>ck.l2 k f o P P (iy f i) (i:Int)) true:=by
  intro d
  induction d with
  | zero=>
    intro i hi;obtain rfl:i=f.length:=by omega
    refine Ev.succ ?_;simp only[ck.l2];rw[ho,beq_self_eq_true];exact Ev.neg (by omega) (Ev.bind (yq P hP) (Ev.pos rfl (Ev.now _)))
  | succ d ih=>
    intro i hi;have h1:=ih (i+1) (by omega);refine Ev.succ ?_;simp only[ck.l2];rw[C5,dI (i:=i) (by omega)];exact Ev.pos (by omega) (Ev.pos (by omega) h1)

section
variable (N:Nat) (hN:N≤8) (l:List (List Int)) (hl:l.length≤10) (V:List Int)
include hN hl

omit hN in
theorem NY (P:List Int) (hP:whole P=true) (hfin: ∀Q,whole Q=true→(∀u,Hn Q u=Hn V u*(1 - u*u) ^ (l.length - N))→P=Q):
    ∀(d j:Nat) (Q:List Int),N≤j→j+d=max N l.length→whole Q=true→(∀u,Hn Q u=Hn V u*(1 - u*u) ^ (j - N))→Ev (fun k=>ck.l1 k f o P Q (j:Int) (N:Int) l) true:=by
  intro d
  induction d with
  | zero=>
    intro j Q hj hjd hw hQ;have e:=hfin Q hw (fun u=>by rw[hQ u,show j - N=l.length - N by omega]);subst e;have h1:=NX f hf o ho P (by have:=yt hP;omega) f.length 0 (by omega);rw[show iy f 0=0 from aX (x:=0) (by decide) (by decide)]at h1;refine Ev.succ ?_;simp only[ck.l1];exact Ev.neg (by omega) h1
  | succ d ih=>
    intro j Q hj hjd hw hQ;have hm:=Hu Q [1,0, -1] hw (by decide);refine Ev.succ ?_;simp only[ck.l1];rw[dI (i:=j) (by omega)];refine Ev.pos (by omega) (Ev.bind hm ?_);rcases Ht Q hw with h3 | ⟨h0,pH,hv⟩
    · rw[h3]
      exact Ev.neg (by decide) (Ev.now _)
    · rw[h0]
      exact Ev.pos rfl (ih (j+1) _ (by omega) (by omega) pH (fun u=>by rw[hv u,hQ u,show j+1 - N=(j - N)+1 by omega,Int.pow_succ,Int.mul_assoc]))

theorem NZ (hV:whole V=true) (R:List Int) (hb: ∀u:Int,(1 - u*u) ^ (2*l.length)*Hn V u=(1 - u*u) ^ N*((1 - u*u) ^ l.length*Hn R u)):
    ∀(d j:Nat) (P:List Int),l.length≤j→j+d=max l.length N→whole P=true→(∀u,Hn P u=Hn R u*(1 - u*u) ^ (j - l.length))→Ev (fun k=>ck.l0 k f V o P (j:Int) (N:Int) l) true:=by
  intro d
  induction d with
  | zero=>
    intro j P hj hjd hw hP;have h1:=NY f hf o ho N l hl V P hw (fun Q hQ hq=>MP P Q hw hQ (fun u hu=>MQ N l.length P Q R V (fun u=>by rw[hP u,show j - l.length=N - l.length by omega]) hq hb u hu)) (max N l.length - N) N V (Nat.le_refl _) (by omega) hV (fun u=>by rw[Nat.sub_self,Int.pow_zero,Int.mul_one]);refine Ev.succ ?_;simp only[ck.l0];exact Ev.neg (by omega) h1
  | succ d ih=>
    intro j P hj hjd hw hP;have hm:=Hu P [1,0, -1] hw (by decide);refine Ev.succ ?_;simp only[ck.l0];rw[dI (i:=j) (by omega)];refine Ev.pos (by omega) (Ev.bind hm ?_);rcases Ht P hw with h3 | ⟨h0,pH,hv⟩
    · rw[h3]
      exact Ev.neg (by decide) (Ev.now _)
    · rw[h0]
      exact Ev.pos rfl (ih (j+1) _ (by omega) (by omega) pH (fun u=>by rw[hv u,hP u,show j+1 - l.length=(j - l.length)+1 by omega,Int.pow_succ,Int.mul_assoc]))

end

end

section
variable (n:Int) (l:List (List Int)) (hl:Mod l)

theorem Hv:Ev (fun k=>ck.j6 k (ke n l).1 (ke n l).2 (lG n l).1 (lG n l).2 (mI n l).1 (mI n l).2 (oJ n l).1 (oJ n l).2 n l) true:=by
  refine Ev.succ ?_;simp only[ck.j6];unfold ke lG mI oJ
  by_cases hg:fB n l=true
  · rw[if_pos hg,if_pos hg,if_pos hg,if_pos hg]
    obtain⟨g1,g2,g3⟩:=gp hg;obtain⟨r1,r2,r3⟩:=G8 hg;have hlen:=yd hg;have he:(kf l (2*l.length)).length=2*l.length:=qX l _;have h1:=NZ (iV l) (by omega) (((0:Nat):Int)+ord 100 (iV l)) (NV (iV l)) n.toNat (by omega) l g3 (wh l n.toNat) (MM hg) (iV l) (MN hg) (max l.length n.toNat - l.length) l.length (iV l) (Nat.le_refl _) (by omega) (L3 hg) (fun u=>by rw[Nat.sub_self,Int.pow_zero,Int.mul_one]);rw[show((n.toNat:Nat):Int)=n by omega]at h1;refine Ev.pos rfl (Ev.pos rfl (Ev.pos rfl (Ev.pos rfl (Ev.pos (by simp only;omega) (Ev.pos r2 ?_)))));simp only;rw[he,aX (x:=2*(l.length:Int)) (by omega) (by omega),show((2*l.length:Nat):Int)=2*(l.length:Int) by omega,bne_self_eq_false];refine Ev.succ ?_;simp only[ck.j7];exact Ev.neg (by decide) h1
  · rw[if_neg hg,if_neg hg,if_neg hg,if_neg hg]
    exact Ev.neg (by decide) (Ev.pos rfl (Ev.pos rfl (Ev.pos rfl (Ev.now _))))

section
variable (q:Int) (u:List (List Int)) (hu:Mod u) (p:Int) (v:List (List Int)) (hv:Mod v)
include hu hv

theorem N0:Ev (fun k=>ck.j4 k (ke n l).1 (ke n l).2 (lG n l).1 (lG n l).2 (mI n l).1 (mI n l).2 (oJ n l).1 (oJ n l).2 (equalR q u p v).1 (equalR q u p v).2 false n l q u p v) true:=by
  have no:Ev (fun k=>ck.j5 k (ke n l).1 (ke n l).2 (lG n l).1 (lG n l).2 (mI n l).1 (mI n l).2 (oJ n l).1 (oJ n l).2 false n l q u p v) true:=by
    refine Ev.succ ?_;simp only[ck.j5];exact Ev.neg (by decide) (Hv n l)
  refine Ev.succ ?_;simp only[ck.j4];refine Ev.neg (by decide) ?_;unfold equalR
  by_cases hg:fB q u=true∧fB p v=true
  · rw[if_pos hg]
    refine Ev.pos rfl ?_;simp only
    by_cases e:iV u=iV v
    · rw[decide_eq_true e]
      have h1:=(C4 q u hu).2.2;have h2:=(C4 p v hv).2.2;unfold ke at h1 h2;rw[if_pos hg.1]at h1;rw[if_pos hg.2,← e]at h2;have:=yd hg.1;refine Ev.succ ?_;simp only[ck.j5];exact Ev.pos (by first | exact trivial | rfl) (Ev.bind h1 (Ev.bind h2 (Ev.pos rfl (Ev.pos rfl (Ev.bind (yq _ (by simp only;omega)) (Ev.pos rfl (Hv n l)))))))
    · rw[decide_eq_false e]
      exact no
  · rw[if_neg hg]
    exact Ev.neg (by decide) no

end

section
variable {c:List Int} (hc:Code c)
include hc

theorem N7:Ev (fun k=>ck.j3 k c (ke n l).1 (ke n l).2 (lG n l).1 (lG n l).2 (mI n l).1 (mI n l).2 (oJ n l).1 (oJ n l).2 false n l) true:=by
  obtain⟨⟨q,u,p,v⟩,hd,hu,hv⟩:=NQ hc;simp only at hu hv;obtain⟨hs,hi⟩:=M7 q u hu p v hv;have h4:=N0 n l q u hu p v hv;refine Ev.succ ?_;simp only[ck.j3];refine Ev.neg (by decide) (Ev.bind hd (Ev.bind hi (Ev.bind hs (Ev.pos rfl ?_))));rw[bne_self_eq_false];exact h4

include hl in
theorem N8:Ev (fun k=>ck.j0 k c (ke n l).1 (ke n l).2 false n l) true:=by
  obtain⟨f1,f2,f3⟩:=MB n l hl;obtain⟨m1,m2,m3⟩:=MR n l hl;obtain⟨o2,o3⟩:=M4 n l hl;have h3:=N7 n l hc;have h2:Ev (fun k=>ck.j2 k c (ke n l).1 (ke n l).2 (lG n l).1 (lG n l).2 (mI n l).1 (mI n l).2 false n l) true:=by
    refine Ev.succ ?_;simp only[ck.j2];refine Ev.neg (by decide) (Ev.bind o3 (Ev.bind o2 (Ev.pos rfl ?_)));rw[bne_self_eq_false];exact h3
  have h1:Ev (fun k=>ck.j1 k c (ke n l).1 (ke n l).2 (lG n l).1 (lG n l).2 false n l) true:=by
    refine Ev.succ ?_;simp only[ck.j1];exact Ev.neg (by decide) (Ev.bind m3 (Ev.bind m2 (Ev.pos rfl (Ev.bind (NT _ m1) h2))))
  refine Ev.succ ?_;simp only[ck.j0];exact Ev.neg (by decide) (Ev.bind f3 (Ev.bind f2 (Ev.pos rfl (Ev.bind (yq _ f1) h1))))

end

end

theorem N9 {x:Int} (h:(Lit.int .u8 x).wf=true):0≤x∧x≤255:=by
  simpa [Lit.wf,IntKind.min,IntKind.max,IntKind.signed,IntKind.bits] using h

theorem FnReciprocals:ck.Pure:=by
  intro c _ hb;refine Ev.rounds ?_;unfold ck.f tY.f
  by_cases yu:(c.length:Int)>4096
  · rw[decide_eq_true yu]
    exact Ev.bind (Ev.now _) (Ev.pos rfl (Ev.now _))
  · rw[decide_eq_false yu]
    have hc:Code c:=⟨by omega,fun y hy=>N9 (hb y hy)⟩;refine Ev.bind (Ev.now _) (Ev.neg (by decide) ?_);obtain⟨⟨n,l⟩,hd,hl⟩:=NP hc;simp only at hl;obtain⟨r1,hs,hi⟩:=C4 n l hl;exact Ev.bind hd (Ev.bind hi (Ev.bind hs (Ev.pos rfl (Ev.bind (yq _ r1) (N8 n l hl hc)))))
end Go.Proofs.Ytkadhadceongiaa.Pure
