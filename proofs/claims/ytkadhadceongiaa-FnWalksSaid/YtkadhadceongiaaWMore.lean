/- Words of the kit's print, only those that this claim uses. -/
import Derived.Test.YtkadhadceongiaaWWords
import Derived.Test.YtkadhadceongiaaWLast
import Derived.Test.YtkadhadceongiaaWQPut
import Derived.Test.YtkadhadceongiaaWApart
import Derived.Test.YtkadhadceongiaaWZeros
import Derived.Test.YtkadhadceongiaaWFoot
import Derived.Test.YtkadhadceongiaaWKept
import Derived.Test.YtkadhadceongiaaWNEv
namespace Go.Proofs.YtkadhadceongiaaW.PrintMore
open Go.RowKit Go.Proofs.YtkadhadceongiaaW.PrintWords
namespace Kd
open Go.Proofs.YtkadhadceongiaaW.PrintWords.Kd
end Kd

namespace Kd
open Go.Proofs.YtkadhadceongiaaW.PrintWords.Kd
section
variable {α:Type} {d:Kd α} {e base g N:Nat} {ok:Nat→Prop} {W w1:World} {u v:Value} {xs:List α}

theorem Oa (hu:d.R e W base (fun k=>ok k∧k≠g) u xs) (hk:aQ W w1 g none):d.R e w1 base (fun k=>ok k∧k<W.heap.size) u xs:=
  cu (jw (qF hu) hk (fun _ h=>h.1.2)) (fun _ h=>⟨h.1.1,h.2.2.1⟩)

theorem N9 (h:d.R e w1 base (fun k=>ok k∧k<N) u xs) (hbase: ∀k,v.ownBlock=some k→N≤k):d.R e w1 base (fun k=>(ok k∧some k≠v.ownBlock)∧k<N) u xs:=
  cu h (fun k hk=>⟨⟨hk.1,fun e=>Nat.lt_irrefl _ (Nat.lt_of_lt_of_le hk.2 (hbase k e.symm))⟩,hk.2⟩)
end
end Kd

theorem vD (k k':IntKind) (x y:Int):Builtin.max2 (.int k x) (.int k' y)=pure (.int k (if x<y then y else x)):=by simp only[Builtin.max2,gt_iff_lt]
theorem vE (k k':IntKind) (x y:Int):Builtin.min2 (.int k x) (.int k' y)=pure (.int k (if y<x then y else x)):=by simp only[Builtin.min2]
theorem vF (ats:Array TypeId) (ty:TypeId) (a b:Value):Builtin.max_ ats ty #[a,b]=(Builtin.max2 a b>>= fun s=>pure s):=by simp only[Builtin.max_,List.foldlM_cons,List.foldlM_nil]
theorem vG (ats:Array TypeId) (ty:TypeId) (a b:Value):Builtin.min_ ats ty #[a,b]=(Builtin.min2 a b>>= fun s=>pure s):=by simp only[Builtin.min_,List.foldlM_cons,List.foldlM_nil]
theorem vH (ats:Array TypeId) (ty:TypeId) (a b c:Value):Builtin.max_ ats ty #[a,b,c]=(Builtin.max2 a b>>= fun s=>Builtin.max2 s c>>= fun s=>pure s):=by simp only[Builtin.max_,List.foldlM_cons,List.foldlM_nil]
theorem vI (ats:Array TypeId) (ty:TypeId) (a b c:Value):Builtin.min_ ats ty #[a,b,c]=(Builtin.min2 a b>>= fun s=>Builtin.min2 s c>>= fun s=>pure s):=by simp only[Builtin.min_,List.foldlM_cons,List.foldlM_nil]
theorem vJ (ats:Array TypeId) (ty:TypeId) (a b c d:Value):Builtin.max_ ats ty #[a,b,c,d]=(Builtin.max2 a b>>= fun s=>Builtin.max2 s c>>= fun s=>Builtin.max2 s d>>= fun s=>pure s):=by simp only[Builtin.max_,List.foldlM_cons,List.foldlM_nil]
theorem vK (ats:Array TypeId) (ty:TypeId) (a b c d:Value):Builtin.min_ ats ty #[a,b,c,d]=(Builtin.min2 a b>>= fun s=>Builtin.min2 s c>>= fun s=>Builtin.min2 s d>>= fun s=>pure s):=by simp only[Builtin.min_,List.foldlM_cons,List.foldlM_nil]
end Go.Proofs.YtkadhadceongiaaW.PrintMore
namespace Go.Proofs.YtkadhadceongiaaW.PrintWords
open Go.RowKit
section
variable {P:Program} {ops:Array Oper} {rest:List Oper} {o:Oper} {a:Act} {Q:Exit→Act→World→Prop} {W:World}

theorem bu {f:FuncId} {as:Array Operand} {ts:Array TypeId} (_ho:o.op= .call {callee:= .value (.func f),args:=as,argTypes:=ts}) (h:wpList P ops Q (o :: rest) a W):wpList P ops Q (o :: rest) a W:=h

theorem iR {b:Builtin} {xs:Array Operand} {ts:Array TypeId} (_ho:o.op= .call {callee:= .builtin b,args:=xs,argTypes:=ts}) (h:wpList P ops Q (o :: rest) a W):wpList P ops Q (o :: rest) a W:=h
end

def mx (a b:Int):Int:=if a<b then b else a

theorem O2 (w:World) (n:Nat):w.drewN n=w.drewN n:=rfl
theorem abm {W:World} {o:Obj} {a:Addr} {v:Value} (h:(W.alloc o).cell? a=some v) (hlt:a.block<W.heap.size):W.cell? a=some v:=(World.cell?_alloc_lt _ _ _ hlt).symm.trans h

theorem O6 {W w1:World} {row:Option Nat} (hg:W.grownBy w1 row) {a:Addr} {v:Value} (h:W.cell? a=some v) (hne:some a.block≠row):w1.cell? a=some v:=by
  have:=hg.block a.block (World.block_lt_of_cell? W a h) hne
  simpa [World.cell?,this] using h
namespace Kd
section
variable {α:Type} {d:Kd α} {e base:Nat} {ok:Nat→Prop} {W w1:World} {v:Value} {xs:List α}
end
section
variable {α:Type} {d:Kd α} {e base g n cap:Nat} {ok fe cI:Nat→Prop} {W:World} {xs:List α} {i:Int} {c:List Value}

theorem abr (h:H d e W base ok (.slice (some ⟨g,0,none⟩) n cap) xs i fe c) (h0:0≤i) (h1:i<n):(∀j u,c[j]? =some u→W.cell? ⟨g,i.toNat*d.sz+j,none⟩=some u)∧∀j,W.frozen? ⟨g,i.toNat*d.sz+j,none⟩=false:=by
  obtain⟨rows,_,Em,_,_,hcc,_⟩:=Kw h h0 h1;obtain⟨_,_,_,_,hfr⟩:=F8 Em [] i h0 h1;exact⟨hcc,hfr⟩
theorem abt (hH:H d e W base ok (.slice (some ⟨g,0,none⟩) n cap) xs i fe c) (h0:0≤i) (h1:i<n) {seg:List Value} {j:Nat} (hj:j+seg.length≤d.sz)
    {x':α} (hM:d.M W base cI x' (c.take j++seg++c.drop (j+seg.length))) (jN: ∀k,cI k→fe k):
    S d e (W.setCells g (i.toNat*d.sz+j) seg) base ok (.slice (some ⟨g,0,none⟩) n cap) (xs.set i.toNat x')∧W.grownBy (W.setCells g (i.toNat*d.sz+j) seg) (some g):=
  ab7 (vm:=fun _=>False) (ab8 hH (fun _ hk=>⟨hk,fun h=>h⟩)) h0 h1 hj hM (fun k hk=> .inl (jN k hk)) (fun _ hk=>hk.elim)
end
section
variable {α:Type} {d:Kd α} {e base b b' g N:Nat} {ok ok1:Nat→Prop} {W W2 w1:World} {u v:Value} {xs ys:List α} {S:Nat→Prop}
theorem U3 (hE:d.E= []) (h:d.R e W base ok1 v xs) (hok: ∀k,v.ownBlock=some k→ok k):d.R e W base ok v xs:=cu (lC hE h) (fun k hk=>hok k hk.symm)
end
end Kd
end Go.Proofs.YtkadhadceongiaaW.PrintWords
namespace Go.Proofs.YtkadhadceongiaaW.PrintWords
open Go.RowKit
namespace Kd

def V {α:Type} (d:Kd α) (_e:Nat) (W:World) (_base:Nat) (ok:Nat→Prop) (v:Value) (xs:List α):Prop:=∃A c,v= .slice A xs.length c∧xs.length≤c∧F d W ok A xs.length xs
section
variable {α β:Type} {d:Kd α} {e base base' n m c g N' lo hi:Nat} {ok ok' S:Nat→Prop} {w W w1:World} {A:Option Addr} {ad:Addr} {u v v1:Value} {xs:List α}
theorem rG (h:V d e W base ok v xs) (hF: ∀A,F d W ok A xs.length xs→F d w1 ok' A xs.length xs):V d e w1 base' ok' v xs:=by
  obtain⟨A,c,hv,hl,hf⟩:=h;exact⟨A,c,hv,hl,hF A hf⟩
theorem tu (hl:xs.length≤c) (hf:F d W ok A xs.length xs):V d e W base ok (.slice A xs.length c) xs:=⟨A,c,rfl,hl,hf⟩
theorem kI (h:V d e W base ok v xs): ∃A c,v= .slice A xs.length c:=by
  obtain⟨A,c,hv,_⟩:=h;exact⟨A,c,hv⟩
theorem F9 (h:V d e W base ok (.slice A n c) xs):n=xs.length∧n≤c∧F d W ok A xs.length xs:=by
  obtain⟨A',c',hv,hl,hf⟩:=h
  injection hv with ha hn hc
  subst ha;subst hc;exact⟨hn,by rw[hn];exact hl,hf⟩
theorem dG (h:V d e W base ok (.slice A n c) xs):n=xs.length∧n≤c∧d.C W A xs.length xs:=⟨(F9 h).1,(F9 h).2.1,KR (F9 h).2.2⟩
theorem V_F (h:V d e W base ok (.slice A n c) xs):F d W ok A n xs:=by
  obtain⟨hn,_,hf⟩:=F9 h;rw[hn];exact hf
theorem n9 (d:Kd α) (e:Nat) (W:World) (base:Nat) (ok:Nat→Prop):V d e W base ok (.slice none 0 0) []:=⟨none,0,rfl,Nat.le_refl _,ab9 d W ok⟩
theorem I6 (h:d.R e W base ok v xs):V d e W base' ok v xs:=by
  obtain⟨A,c,rfl⟩:=dP h;exact⟨A,c,rfl,(cM h).2.1,JE h⟩
theorem DS (h:Kd.S d e W base ok v xs):V d e W base' ok v xs:=I6 (oH h)
theorem CR (h:N d e W base ok v xs):V d e W base' ok v xs:=by
  obtain⟨A,c,rfl⟩:=q4 h;exact⟨A,c,rfl,(jI h).2.1,Oq h⟩
theorem bM (h:V d e W base ok v xs) (hok: ∀k,ok k→ok' k):V d e W base ok' v xs:=rG h (fun _ hf=>Bm hf hok)
theorem ju (h:V d e W base ok v xs) (_:base'≤base):V d e W base' ok v xs:=h
theorem ck (h:V d e W base ok v xs) (hb:Below W.heap.size W w1):V d e w1 base ok v xs:=rG h (fun _ hf=>Ga hf hb)
theorem eX (h:V d e W base ok v xs) (o:Obj):V d e (W.alloc o) base ok v xs:=rG h (fun _ hf=>acd hf o)
theorem eM (h:V d e W base ok v xs):V d e W.drew base ok v xs:=rG h (fun _ hf=>ace hf)
theorem eY (h:V d e W base ok v xs) (m:Nat):V d e (W.drewN m) base ok v xs:=rG h (fun _ hf=>acf hf m)
theorem cN (h:V d e W base ok v xs) {p:Addr} (hok: ∀k,ok k→k≠p.block) (u:Value):V d e (W.setCell p u) base ok v xs:=rG h (fun _ hf=>acg hf hok u)
theorem mH (h:V d e W base ok v xs) (hk:aQ W w1 g none) (hok: ∀k,ok k→k≠g):V d e w1 base ok v xs:=rG h (fun _ hf=>PF hf hk hok)
theorem ach (h:V d e W base (fun k=>ok k∧some k≠u.ownBlock) v xs) (hg:W.grownBy w1 u.ownBlock) (hat:v1.ownBlock=u.ownBlock∨∃b,v1.ownBlock=some b∧W.heap.size≤b):V d e w1 base (fun k=>ok k∧some k≠v1.ownBlock) v xs:=rG h (fun _ hf=>aci hf hg hat)
theorem AB (h:V d e W base (fun k=>ok k∧some k≠v.ownBlock) u xs) (hg:W.grownBy w1 v.ownBlock) (hat:v1.ownBlock=v.ownBlock∨∃b,v1.ownBlock=some b∧W.heap.size≤b):V d e w1 base (fun k=>ok k∧some k≠v1.ownBlock) u xs:=ach h hg hat
theorem rm (h:N d e W base (fun k=>ok k∧some k≠v.ownBlock) u xs) (hg:W.grownBy w1 v.ownBlock) (hat:v1.ownBlock=v.ownBlock∨∃b,v1.ownBlock=some b∧W.heap.size≤b):N d e w1 base (fun k=>ok k∧some k≠v1.ownBlock) u xs:=acj h hg hat
theorem jh (h:V d e W base ok v xs) (hbase: ∀k,u.ownBlock=some k→W.heap.size≤k) (hb:Below W.heap.size W w1):V d e w1 base (fun k=>ok k∧some k≠u.ownBlock) v xs:=rG h (fun _ hf=>ack hf hbase hb)
theorem gJ (h:V d e W base ok v xs) (a:Nat) (ha:W.heap.size≤a):V d e W base (fun k=>ok k∧k≠a) v xs:=rG h (fun _ hf=>acm hf a ha)
theorem N8 (h:V d e W base (fun k=>ok k∧k≠g) v xs) (hk:aQ W w1 g none):V d e w1 base (fun k=>ok k∧k<W.heap.size) v xs:=rG h (fun _ hf=>acn hf hk)
theorem N7 (h:V d e w1 base (fun k=>ok k∧k<N') v xs) (hbase: ∀k,u.ownBlock=some k→N'≤k):V d e w1 base (fun k=>(ok k∧some k≠u.ownBlock)∧k<N') v xs:=rG h (fun _ hf=>aco hf hbase)

theorem tq {l:List α} {cs:List Value} (h:FK (Kd.slice e d) W ok l cs): ∃A c,cs= [.slice A l.length c]∧l.length≤c∧F d W ok A l.length l:=by
  obtain⟨A,c,rfl,hl,_⟩:=vl h;refine⟨A,c,rfl,hl,fun W' hW=> ?_⟩;obtain⟨A',c',he,_,g'⟩:=h W' hW
  injection he with he _
  injection he with ha _ _
  rw[ha];exact g'
theorem JD {l:List α} (hl:l.length≤c) (hf:F d W ok A l.length l):FK (Kd.slice e d) W ok l [.slice A l.length c]:=fun W' hW=>⟨A,c,rfl,hl,hf W' hW⟩
theorem N0 (h:V d e W base ok (.slice A n c) xs) (hok: ∀k,ok k→k≠g): ∀W',aQ W W' g none→d.C W' A n xs:=fun W' hk=>by
  have h2:=dG (mH h hk hok);rw[h2.1];exact h2.2.2
theorem qQ {M:Nat→Prop} (h:d.R e w1 W.heap.size ok v xs) (hle:w.heap.size≤W.heap.size) (hM: ∀k,w.heap.size≤k→M k):d.R e w1 W.heap.size (fun k=>M k∧ok k) v xs:=cu (qF h) (fun k hk=>⟨hM k (Nat.le_trans hle hk.2.1),hk.1⟩)
theorem DR {M:Nat→Prop} (h:Kd.S d e w1 W.heap.size ok v xs) (hle:w.heap.size≤W.heap.size) (hM: ∀k,w.heap.size≤k→M k):Kd.S d e w1 W.heap.size (fun k=>M k∧ok k) v xs:=cZ (pg h) (fun k hk=>⟨hM k (Nat.le_trans hle hk.2.1),hk.1⟩)
end
end Kd
end Go.Proofs.YtkadhadceongiaaW.PrintWords
