/- Words of the kit's print, only those that this claim uses. -/
import Derived.Test.YtkadhadceongiaaWWords
import Derived.Test.YtkadhadceongiaaWLast
import Derived.Test.YtkadhadceongiaaWQPut
import Derived.Test.YtkadhadceongiaaWApart
import Derived.Test.YtkadhadceongiaaWZeros
import Derived.Test.YtkadhadceongiaaWFoot
import Derived.Test.YtkadhadceongiaaWKept
import Derived.Test.YtkadhadceongiaaWNEv
namespace Go.Proofs.YtkadhadceongiaaW.PrintMore
open Go.RowKit Go.Proofs.YtkadhadceongiaaW.PrintWords
namespace Kd
open Go.Proofs.YtkadhadceongiaaW.PrintWords.Kd
end Kd

namespace Kd
open Go.Proofs.YtkadhadceongiaaW.PrintWords.Kd
section
variable {α:Type} {d:Kd α} {e base g N:Nat} {ok:Nat→Prop} {W w1:World} {u v:Value} {xs:List α}
end
end Kd

theorem xO (k k':IntKind) (x y:Int):Builtin.max2 (.int k x) (.int k' y)=pure (.int k (if x<y then y else x)):=by simp only[Builtin.max2,gt_iff_lt]
theorem xP (k k':IntKind) (x y:Int):Builtin.min2 (.int k x) (.int k' y)=pure (.int k (if y<x then y else x)):=by simp only[Builtin.min2]
theorem xQ (ats:Array TypeId) (ty:TypeId) (a b:Value):Builtin.max_ ats ty #[a,b]=(Builtin.max2 a b>>= fun s=>pure s):=by simp only[Builtin.max_,List.foldlM_cons,List.foldlM_nil]
theorem xR (ats:Array TypeId) (ty:TypeId) (a b:Value):Builtin.min_ ats ty #[a,b]=(Builtin.min2 a b>>= fun s=>pure s):=by simp only[Builtin.min_,List.foldlM_cons,List.foldlM_nil]
theorem xS (ats:Array TypeId) (ty:TypeId) (a b c:Value):Builtin.max_ ats ty #[a,b,c]=(Builtin.max2 a b>>= fun s=>Builtin.max2 s c>>= fun s=>pure s):=by simp only[Builtin.max_,List.foldlM_cons,List.foldlM_nil]
theorem xT (ats:Array TypeId) (ty:TypeId) (a b c:Value):Builtin.min_ ats ty #[a,b,c]=(Builtin.min2 a b>>= fun s=>Builtin.min2 s c>>= fun s=>pure s):=by simp only[Builtin.min_,List.foldlM_cons,List.foldlM_nil]
theorem xU (ats:Array TypeId) (ty:TypeId) (a b c d:Value):Builtin.max_ ats ty #[a,b,c,d]=(Builtin.max2 a b>>= fun s=>Builtin.max2 s c>>= fun s=>Builtin.max2 s d>>= fun s=>pure s):=by simp only[Builtin.max_,List.foldlM_cons,List.foldlM_nil]
theorem xV (ats:Array TypeId) (ty:TypeId) (a b c d:Value):Builtin.min_ ats ty #[a,b,c,d]=(Builtin.min2 a b>>= fun s=>Builtin.min2 s c>>= fun s=>Builtin.min2 s d>>= fun s=>pure s):=by simp only[Builtin.min_,List.foldlM_cons,List.foldlM_nil]
end Go.Proofs.YtkadhadceongiaaW.PrintMore
namespace Go.Proofs.YtkadhadceongiaaW.PrintWords
open Go.RowKit
section
variable {P:Program} {ops:Array Oper} {rest:List Oper} {o:Oper} {a:Act} {Q:Exit→Act→World→Prop} {W:World}

theorem bp {f:FuncId} {as:Array Operand} {ts:Array TypeId} (_ho:o.op= .call {callee:= .value (.func f),args:=as,argTypes:=ts}) (h:wpList P ops Q (o :: rest) a W):wpList P ops Q (o :: rest) a W:=h

theorem jk {b:Builtin} {xs:Array Operand} {ts:Array TypeId} (_ho:o.op= .call {callee:= .builtin b,args:=xs,argTypes:=ts}) (h:wpList P ops Q (o :: rest) a W):wpList P ops Q (o :: rest) a W:=h
end

def mx (a b:Int):Int:=if a<b then b else a

def mn (a b:Int):Int:=if b<a then b else a

theorem PE (w:World) (n:Nat):w.drewN n=w.drewN n:=rfl
theorem adh {W:World} {o:Obj} {a:Addr} {v:Value} (h:(W.alloc o).cell? a=some v) (hlt:a.block<W.heap.size):W.cell? a=some v:=(World.cell?_alloc_lt _ _ _ hlt).symm.trans h

theorem PX {W w1:World} {row:Option Nat} (hg:W.grownBy w1 row) {a:Addr} {v:Value} (h:W.cell? a=some v) (hne:some a.block≠row):w1.cell? a=some v:=by
  have:=hg.block a.block (World.block_lt_of_cell? W a h) hne
  simpa [World.cell?,this] using h
namespace Kd
section
variable {α:Type} {d:Kd α} {e base:Nat} {ok:Nat→Prop} {W w1:World} {v:Value} {xs:List α}

theorem ach (h:d.R e W base ok v xs) (hE:d.E= []) {g:Nat} (hne:some g≠v.ownBlock):d.R e W base (fun k=>ok k∧k≠g) v xs:=
  cL (l6 hE h) (fun k hk=>⟨h.1 k hk.symm,fun e_=>hne (by rw[← e_];exact hk)⟩)
end
section
variable {α:Type} {d:Kd α} {e base g n cap:Nat} {ok fk cN:Nat→Prop} {W:World} {xs:List α} {i:Int} {c:List Value}

theorem adn (h:H d e W base ok (.slice (some ⟨g,0,none⟩) n cap) xs i fk c) (h0:0≤i) (h1:i<n):(∀j u,c[j]? =some u→W.cell? ⟨g,i.toNat*d.sz+j,none⟩=some u)∧∀j,W.frozen? ⟨g,i.toNat*d.sz+j,none⟩=false:=by
  obtain⟨rows,_,DF,_,_,hcc,_⟩:=Kh h h0 h1;obtain⟨_,_,_,_,hfr⟩:=FV DF [] i h0 h1;exact⟨hcc,hfr⟩
theorem ado (hH:H d e W base ok (.slice (some ⟨g,0,none⟩) n cap) xs i fk c) (h0:0≤i) (h1:i<n) {seg:List Value} {j:Nat} (hj:j+seg.length≤d.sz)
    {x':α} (hM:d.M W base cN x' (c.take j++seg++c.drop (j+seg.length))) (jG: ∀k,cN k→fk k):
    S d e (W.setCells g (i.toNat*d.sz+j) seg) base ok (.slice (some ⟨g,0,none⟩) n cap) (xs.set i.toNat x')∧W.grownBy (W.setCells g (i.toNat*d.sz+j) seg) (some g):=
  adL (uJ:=fun _=>False) (adM hH (fun _ hk=>⟨hk,fun h=>h⟩)) h0 h1 hj hM (fun k hk=> .inl (jG k hk)) (fun _ hk=>hk.elim)
end
section
variable {α:Type} {d:Kd α} {e base b b' g N:Nat} {ok U7:Nat→Prop} {W W2 w1:World} {u v:Value} {xs ys:List α} {S:Nat→Prop}
end
end Kd
end Go.Proofs.YtkadhadceongiaaW.PrintWords
namespace Go.Proofs.YtkadhadceongiaaW.PrintWords
open Go.RowKit
namespace Kd

def V {α:Type} (d:Kd α) (_e:Nat) (W:World) (_base:Nat) (ok:Nat→Prop) (v:Value) (xs:List α):Prop:=∃A c,v= .slice A xs.length c∧xs.length≤c∧F d W ok A xs.length xs
section
variable {α β:Type} {d:Kd α} {e base base' n m c g N' lo hi:Nat} {ok ok' S:Nat→Prop} {w W w1:World} {A:Option Addr} {ad:Addr} {u v v1:Value} {xs:List α}
theorem tf (h:V d e W base ok v xs) (hF: ∀A,F d W ok A xs.length xs→F d w1 ok' A xs.length xs):V d e w1 base' ok' v xs:=by
  obtain⟨A,c,hv,hl,hf⟩:=h;exact⟨A,c,hv,hl,hF A hf⟩
theorem mJ (hl:xs.length≤c) (hf:F d W ok A xs.length xs):V d e W base ok (.slice A xs.length c) xs:=⟨A,c,rfl,hl,hf⟩
theorem nC (h:V d e W base ok v xs): ∃A c,v= .slice A xs.length c:=by
  obtain⟨A,c,hv,_⟩:=h;exact⟨A,c,hv⟩
theorem CN (h:V d e W base ok (.slice A n c) xs):n=xs.length∧n≤c∧F d W ok A xs.length xs:=by
  obtain⟨A',c',hv,hl,hf⟩:=h
  injection hv with ha hn hc
  subst ha;subst hc;exact⟨hn,by rw[hn];exact hl,hf⟩
theorem eT (h:V d e W base ok (.slice A n c) xs):n=xs.length∧n≤c∧d.C W A xs.length xs:=⟨(CN h).1,(CN h).2.1,Kv (CN h).2.2⟩
theorem Oq (h:V d e W base ok (.slice A n c) xs):F d W ok A n xs:=by
  obtain⟨hn,_,hf⟩:=CN h;rw[hn];exact hf
theorem qR (d:Kd α) (e:Nat) (W:World) (base:Nat) (ok:Nat→Prop):V d e W base ok (.slice none 0 0) []:=⟨none,0,rfl,Nat.le_refl _,adN d W ok⟩
theorem OQ (h:d.R e W base ok v xs):V d e W base' ok v xs:=by
  obtain⟨A,c,rfl⟩:=eF h;exact⟨A,c,rfl,(dh h).2.1,Jt h⟩
theorem uc (h:Kd.S d e W base ok v xs):V d e W base' ok v xs:=OQ (l8 h)
theorem cu (h:V d e W base ok v xs) (hok: ∀k,ok k→ok' k):V d e W base ok' v xs:=tf h (fun _ hf=>FW hf hok)
theorem pM (h:V d e W base ok v xs) (_:base'≤base):V d e W base' ok v xs:=h
theorem bC (h:V d e W base ok v xs) (hb:Below W.heap.size W w1):V d e w1 base ok v xs:=tf h (fun _ hf=>FX hf hb)
theorem fc (h:V d e W base ok v xs) (o:Obj):V d e (W.alloc o) base ok v xs:=tf h (fun _ hf=>adO hf o)
theorem eY (h:V d e W base ok v xs):V d e W.drew base ok v xs:=tf h (fun _ hf=>adP hf)
theorem fe (h:V d e W base ok v xs) (m:Nat):V d e (W.drewN m) base ok v xs:=tf h (fun _ hf=>adQ hf m)
theorem dB (h:V d e W base ok v xs) {p:Addr} (hok: ∀k,ok k→k≠p.block) (u:Value):V d e (W.setCell p u) base ok v xs:=tf h (fun _ hf=>adR hf hok u)
theorem sZ (h:V d e W base ok v xs) (hk:bB W w1 g none) (hok: ∀k,ok k→k≠g):V d e w1 base ok v xs:=tf h (fun _ hf=>adS hf hk hok)
theorem adT (h:V d e W base (fun k=>ok k∧some k≠u.ownBlock) v xs) (hg:W.grownBy w1 u.ownBlock) (hat:v1.ownBlock=u.ownBlock∨∃b,v1.ownBlock=some b∧W.heap.size≤b):V d e w1 base (fun k=>ok k∧some k≠v1.ownBlock) v xs:=tf h (fun _ hf=>adU hf hg hat)
theorem vW (h:V d e W base (fun k=>ok k∧some k≠v.ownBlock) u xs) (hg:W.grownBy w1 v.ownBlock) (hat:v1.ownBlock=v.ownBlock∨∃b,v1.ownBlock=some b∧W.heap.size≤b):V d e w1 base (fun k=>ok k∧some k≠v1.ownBlock) u xs:=adT h hg hat
theorem qA (h:N d e W base (fun k=>ok k∧some k≠v.ownBlock) u xs) (hg:W.grownBy w1 v.ownBlock) (hat:v1.ownBlock=v.ownBlock∨∃b,v1.ownBlock=some b∧W.heap.size≤b):N d e w1 base (fun k=>ok k∧some k≠v1.ownBlock) u xs:=adV h hg hat
theorem gU (h:V d e W base ok v xs) (hbase: ∀k,u.ownBlock=some k→W.heap.size≤k) (hb:Below W.heap.size W w1):V d e w1 base (fun k=>ok k∧some k≠u.ownBlock) v xs:=tf h (fun _ hf=>adW hf hbase hb)
theorem gR (h:V d e W base ok v xs) (a:Nat) (ha:W.heap.size≤a):V d e W base (fun k=>ok k∧k≠a) v xs:=tf h (fun _ hf=>adX hf a ha)
theorem ace (h:F d W ok A xs.length xs) (hm:m≤xs.length):F d W ok A (xs.take m).length (xs.take m):=adY h (fun _ hC=>adZ hC hm)

theorem nE {l:List α} {cs:List Value} (h:FK (Kd.slice e d) W ok l cs): ∃A c,cs= [.slice A l.length c]∧l.length≤c∧F d W ok A l.length l:=by
  obtain⟨A,c,rfl,hl,_⟩:=wO h;refine⟨A,c,rfl,hl,fun W' hW=> ?_⟩;obtain⟨A',c',he,_,g'⟩:=h W' hW
  injection he with he _
  injection he with ha _ _
  rw[ha];exact g'
theorem ET {l:List α} (hl:l.length≤c) (hf:F d W ok A l.length l):FK (Kd.slice e d) W ok l [.slice A l.length c]:=fun W' hW=>⟨A,c,rfl,hl,hf W' hW⟩
theorem qy {M:Nat→Prop} (h:d.R e w1 W.heap.size ok v xs) (hle:w.heap.size≤W.heap.size) (hM: ∀k,w.heap.size≤k→M k):d.R e w1 W.heap.size (fun k=>M k∧ok k) v xs:=cL (pg h) (fun k hk=>⟨hM k (Nat.le_trans hle hk.2.1),hk.1⟩)
theorem AB {M:Nat→Prop} (h:Kd.S d e w1 W.heap.size ok v xs) (hle:w.heap.size≤W.heap.size) (hM: ∀k,w.heap.size≤k→M k):Kd.S d e w1 W.heap.size (fun k=>M k∧ok k) v xs:=dM (qY h) (fun k hk=>⟨hM k (Nat.le_trans hle hk.2.1),hk.1⟩)
end
end Kd
end Go.Proofs.YtkadhadceongiaaW.PrintWords
