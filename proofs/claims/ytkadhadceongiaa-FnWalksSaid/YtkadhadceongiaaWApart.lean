/- Words of the kit's print, only those that this claim uses. -/
import Derived.Test.YtkadhadceongiaaWWords
import Derived.Test.YtkadhadceongiaaWLast
namespace Go.Proofs.YtkadhadceongiaaW.PrintWords
open Go.RowKit
namespace Kd

def tag {α:Type} (f:Nat→Nat) (d:Kd α):Kd (α×Nat) where
  sz:=d.sz
  E:=d.E
  K:=fun w x cs=>d.K w x.1 cs
  M:=fun w base ok x cs=>d.M w base (fun k=>ok k∧f k=x.2) x.1 cs
  kR:=fun h=>d.kR h
  jY:=fun h=>d.jY h
  oK:=fun hb h=>d.oK hb h
  jf:=fun h=>d.jf h
  gb:=fun hok h=>d.gb (fun k hk=>⟨hok k hk.1,hk.2⟩) h
  kS:=fun h=>d.gb (fun _ hk=>⟨⟨hk.1.1,hk.2⟩,hk.1.2⟩) (d.kS h)
  kT:=fun hm h=>d.kT (fun k hk=>hm k hk.1) h
  oL:=fun hb h=>d.oL hb h

def bare {α:Type} (d:Kd α):Kd α where
  sz:=d.sz
  E:=d.E
  K:=d.K
  M:=fun w base _ x cs=>d.M w base (fun _=>False) x cs
  kR:=fun h=>d.kR h
  jY:=fun h=>d.jY h
  oK:=fun hb h=>d.oK hb h
  jf:=fun h=>d.jf h
  gb:=fun _ h=>h
  kS:=fun h=>h
  kT:=fun _ h=>d.kT (fun _ hk=>hk.elim) h
  oL:=fun hb h=>d.oL hb h

def raw (sz:Nat):Kd (List Value) where
  sz:=sz
  E:=[]
  K:=fun _ x cs=>cs=x∧cs.length=sz∧∀u∈cs,u.oneCell'=true
  M:=fun _ _ _ x cs=>cs=x∧cs.length=sz∧∀u∈cs,u.oneCell'=true
  kR:=fun h=>h.2.1
  jY:=fun h=>h.2.2
  oK:=fun _ h=>h
  jf:=fun h=>h
  gb:=fun _ h=>h
  kS:=fun h=>h
  kT:=fun _ h=>h
  oL:=fun _ h=>h

def S {α:Type} (d:Kd α) (e:Nat) (w:World) (base:Nat) (ok:Nat→Prop) (v:Value) (xs:List α):Prop:=∃f,(tag f d).R e w base ok v xs.zipIdx
section
variable {α β:Type} {d:Kd α} {d':Kd β} {e e':Nat} {w w1 W:World} {base b:Nat} {ok ok' Bo PR:Nat→Prop} {u v:Value} {xs:List α} {ys:List β}
theorem xm {xs:List α} {j:Nat} {p:α} (h:xs[j]? =some p):xs.zipIdx[j]? =some (p,j):=by rw[List.getElem?_zipIdx,h,Nat.zero_add];rfl
theorem oH (h:S d e w base ok v xs):d.R e w base ok v xs:=by
  obtain⟨f,h0,inner,ho,hr⟩:=h;rw[List.length_zipIdx]at ho;exact⟨h0,inner,ho,by have:=hr.1;rw[List.length_zipIdx]at this;exact this,fun j p hj=>d.gb (fun _ hk=>hk.1) (hr.2 j (p,j) (xm hj))⟩

theorem Lj {ad:Addr} {n cap:Nat} (h:d.R e w base ok (.slice (some ad) n cap) xs): ∃g,ad=⟨g,0,none⟩:=by
  obtain⟨_,inner,ho,hr⟩:=h;rcases ho.2 with ⟨hv,_⟩|⟨g,cap',cur,hv,_⟩
  · cases hv
  · injection hv with ha _ _
    injection ha with ha
    exact⟨g,ha⟩
theorem acR {ad:Addr} {n cap:Nat} (h:d.R e W base ok (.slice (some ad) n cap) xs) (z:α) (i:Int) (h0:0≤i) (h1:i<n):
    ∃c,c.length=d.sz∧d.M W base (fun k=>ok k∧some k≠(Value.slice (some ad) n cap).ownBlock) (xs.getD i.toNat z) c∧∀j u,c[j]? =some u→W.cell? (ad.add (i.toNat*d.sz+j))=some u:=by
  obtain⟨g,rfl⟩:=Lj h;obtain⟨c,hcl,hM,hcc,_⟩:=F8 h z i h0 h1;refine⟨c,hcl,d.gb (fun k hk=>⟨hk.1,fun he=>hk.2 (by simpa [Value.ownBlock] using he)⟩) hM,fun j u hu=> ?_⟩;rw[KZ,Nat.zero_add];exact hcc j u hu

theorem lC (hE:d.E= []) (h:d.R e w base ok v xs):d.R e w base (fun k=>some k=v.ownBlock) v xs:=by
  obtain⟨h0,inner,ho,hr⟩:=h;refine⟨fun k hk=>hk.symm,inner,ho,hr.lQ (fun p c hp=>d.gb (fun k hk=> ?_) (d.kS hp))⟩;obtain⟨_,_,_,q,hq,_⟩:=hk;rw[hE]at hq;cases hq
theorem om (d:Kd α) (e:Nat) (w:World) (base:Nat) (ok:Nat→Prop):S d e w base ok (.slice none 0 0) []:=⟨fun _=>0,lM _ _ _ _ _⟩
theorem cZ (h:S d e w base ok v xs) (hok: ∀k,ok k→ok' k):S d e w base ok' v xs:=by
  obtain⟨f,h⟩:=h;exact⟨f,cu h hok⟩
theorem pg (h:S d e w base ok v xs):S d e w base (fun k=>ok k∧base≤k∧k<w.heap.size∧∃q,q∈e :: d.E∧∃cells,w.heap[k]? =some (.cells cells q (0,0))) v xs:=by
  obtain⟨f,h⟩:=h;exact⟨f,qF h⟩
theorem acS (h:S d e w base ok v xs) (hm: ∀k,ok k→w1.heap[k]? =w.heap[k]?):S d e w1 base ok v xs:=by
  obtain⟨f,h⟩:=h;exact⟨f,Bn h hm⟩
theorem gF {base':Nat} (h:S d e w base ok v xs) (hb:base'≤base):S d e w base' ok v xs:=by
  obtain⟨f,h⟩:=h;exact⟨f,dR h hb⟩
theorem Gh (h:S d e w base ok v xs) (hm: ∀k,ok k→k<w.heap.size→w1.heap[k]? =w.heap[k]?):S d e w1 base ok v xs:=
  cZ (acS (pg h) (fun k hk=>hm k hk.1 hk.2.2.1)) (fun _ hk=>hk.1)
theorem bH (h:S d e w base ok v xs) (hb:Below w.heap.size w w1):S d e w1 base ok v xs:=Gh h (fun k _ hk=>hb.block k hk)
theorem eV (h:S d e w base ok v xs) (o:Obj):S d e (w.alloc o) base ok v xs:=bH h (jC (Below.refl _ _) o)
theorem ee (h:S d e w base ok v xs):S d e w.drew base ok v xs:=bH h (zj (Below.refl _ _))
theorem eS (h:S d e w base ok v xs) (m:Nat):S d e (w.drewN m) base ok v xs:=bH h (lu (Below.refl _ _) m)
theorem Dw (h:S d e w base ok v xs) {row:Option Nat} (hg:w.grownBy w1 row) (hok: ∀k,ok k→some k≠row):S d e w1 base ok v xs:=Gh h (fun k ho hk=>hg.block k hk (hok k ho))
theorem fI (h:S d e w base ok v xs) {p:Addr} (hok: ∀k,ok k→k≠p.block) (u:Value):S d e (w.setCell p u) base ok v xs:=Gh h (fun k ho _=>Below.heap_setCell w p u k (hok k ho))
theorem oI (h:S d e w base ok v xs) {g:Nat} (hk:aQ w w1 g none) (hok: ∀k,ok k→k≠g):S d e w1 base ok v xs:=Gh h (fun k ho hlt=>hk.2 k hlt (hok k ho) (by simp))
theorem je (h:S d e w base ok v xs) {g t:Nat} {cells:Array Value} (hb:w.heap[g]? =some (.cells cells t (0,0))) (ht: ∀q,q∈e :: d.E→q≠t):S d e w base (fun k=>ok k∧k≠g) v xs:=by
  obtain⟨f,h⟩:=h;exact⟨f,qb h hb ht⟩
theorem JS (h:S d e w base ok v xs) {g t:Nat} {cells:Array Value} (hb:w.heap[g]? =some (.cells cells t (0,0))) (ht: ∀q,q∈e :: d.E→q≠t) (j:Nat) (u:Value):S d e (w.setCell ⟨g,j,none⟩ u) base ok v xs:=
  cZ (fI (p:=⟨g,j,none⟩) (je h hb ht) (fun _ hk=>hk.2) u) (fun _ hk=>hk.1)
theorem iS (h:S d e w base ok v xs): ∀k,v.ownBlock=some k→∃cells,w.heap[k]? =some (.cells cells e (0,0)):=Kx (oH h)
theorem nK (h:S d e w base ok v xs): ∀k,v.ownBlock=some k→k<w.heap.size:=jk (oH h)
theorem kJ (h:S d e w base ok v xs): ∀k,v.ownBlock=some k→base≤k:=dQ (oH h)
theorem jD (h:S d e W base ok u xs) (hbase: ∀k,v.ownBlock=some k→W.heap.size≤k) (hb:Below W.heap.size W w1):S d e w1 base (fun k=>ok k∧some k≠v.ownBlock) u xs:=by
  obtain⟨f,h⟩:=h;exact⟨f,mc h hbase hb⟩
theorem pX (h:S d e w1 W.heap.size ok v xs) (hlt: ∀k,u.ownBlock=some k→k<W.heap.size):S d e w1 W.heap.size (fun k=>ok k∧some k≠u.ownBlock) v xs:=by
  obtain⟨f,h⟩:=h;exact⟨f,lP h hlt⟩

theorem Ih {v1:Value} (h:S d e W base (fun k=>ok k∧some k≠v.ownBlock) u xs) (hg:W.grownBy w1 v.ownBlock) (hat:v1.ownBlock=v.ownBlock∨∃b,v1.ownBlock=some b∧W.heap.size≤b):S d e w1 base (fun k=>ok k∧some k≠v1.ownBlock) u xs:=by
  obtain⟨f,h⟩:=h;exact⟨f,FC h hg hat⟩

theorem aaq (h:S d e W base ok u xs) (hb:Below W.heap.size W w1):S d e w1 base (fun k=>ok k∧k<W.heap.size) u xs:=
  cZ (bH (pg h) hb) (fun _ hk=>⟨hk.1,hk.2.2.1⟩)

theorem acT (h:(bare d).R e w base ok v xs):S d e w base ok v xs:=by
  obtain⟨h0,inner,ho,hr⟩:=h;refine⟨fun _=>0,h0,inner,by rw[List.length_zipIdx];exact ho,by rw[List.length_zipIdx];exact hr.1,fun j p hj=> ?_⟩;rw[List.getElem?_zipIdx,Nat.zero_add]at hj;obtain⟨x,hx,rfl⟩:=Option.map_eq_some_iff.1 hj;exact d.gb (fun _ hk=>hk.elim) (hr.2 j x hx)

theorem acU {f f':Nat→Nat} {zs:List (α×Nat)} (h:(tag f d).R e w base ok v zs) (hf: ∀k,ok k→k<w.heap.size→f' k=f k):(tag f' d).R e w base ok v zs:=by
  obtain⟨h0,inner,ho,hr⟩:=qF h;exact⟨fun k hk=>(h0 k hk).1,inner,ho,hr.1,fun j p hj=>d.gb (fun k hk=>⟨⟨hk.1.1.1,hk.1.2⟩,(hf k hk.1.1.1 hk.1.1.2.2.1).trans hk.2⟩) (hr.2 j p hj)⟩
end
section
variable {α β:Type} {d:Kd α} {d':Kd β} {e e' g:Nat} {w w1 W:World} {base b:Nat} {ok ok' Bo PR:Nat→Prop} {u v:Value} {xs:List α} {ys:List β}
theorem j8 (h:S d e w base ok v xs) {t:Nat} {cells:Array Value} (hb:w.heap[g]? =some (.cells cells t (0,0))) (ht:e≠t):some g≠v.ownBlock:=jE (oH h) hb ht
theorem abk (h:S d e w base ok v xs) (hp:0<xs.length): ∃g cap,v= .slice (some ⟨g,0,none⟩) xs.length cap∧base≤g∧g<w.heap.size∧∃cells,w.heap[g]? =some (.cells cells e (0,0)):=qU (oH h) hp
theorem zf (h:S d e w base ok v xs):v.ownBlock=none∨∃k,v.ownBlock=some k∧base≤k:=yQ (oH h)
theorem eN (h:S d e w base ok v xs): ∃A c,v= .slice A xs.length c:=dP (oH h)
theorem eu {A:Option Addr} {n c:Nat} (h:S d e w base ok (.slice A n c) xs):n=xs.length∧n≤c∧d.C w A xs.length xs:=cM (oH h)

theorem nL {ad:Addr} {n cap:Nat} (h:S d e W base ok (.slice (some ad) n cap) xs) (z:α) (i:Int) (h0:0≤i) (h1:i<n):
    ∃c,c.length=d.sz∧d.M W base (fun k=>ok k∧some k≠(Value.slice (some ad) n cap).ownBlock) (xs.getD i.toNat z) c∧∀j u,c[j]? =some u→W.cell? (ad.add (i.toNat*d.sz+j))=some u:=acR (oH h) z i h0 h1
theorem DA {o:Obj} (h:S d e w1 w.heap.size ok v xs) (hb:w.heap[g]? =some o):S d e w1 w.heap.size (fun k=>ok k∧k≠g) v xs:=cZ (pg h) (fun k hk=>⟨hk.1,by have:=dZ hb;have:=hk.2.1;omega⟩)
theorem PW (xs:List α) (p:α):(xs++[p]).zipIdx=xs.zipIdx++[(p,xs.length)]:=by rw[List.zipIdx_append];simp
end
section
open Classical in

theorem PX {α:Type} {d:Kd α} {e base:Nat} {Bo:Nat→Prop} {w:World} {v:Value} {xs:List α} (h:S d e w base Bo v xs) (m:Nat) (cI:Nat→Prop) (hap: ∀k,cI k→¬Bo k): ∃f,(∀k,cI k→f k=m)∧(tag f d).R e w base Bo v xs.zipIdx:=by
  obtain⟨f,h⟩:=h;exact⟨fun k=>if cI k then m else f k,fun k hk=>if_pos hk,acU h (fun k hk _=>if_neg (fun h2=>hap k h2 hk))⟩
variable {P:Program} {ops:Array Oper} {rest:List Oper} {o:Oper} {a:Act} {Q:Exit→Act→World→Prop} {Kc:Act→World→Prop} {α:Type}

theorem qq (d:Kd α) {w0 W:World} (base:Nat) (hgd:o.guard=none) (s x:Operand) (t e:TypeId) (z:Value) (bytes:Nat)
    (ho:o.op= .call {callee:= .builtin .append,args:= #[s,x],argTypes:= #[t,t]})
    (ht:P.underlying t=some (.slice e)) (hinfo:(P.info? e).map (fun i=>(i.zero,i.size,i.bytes))=some (some z,d.sz,bytes)) (hz:z.cells.size=d.sz) (hs0:0<d.sz) (hb0:0<bytes)
    (v:Value) (xs:List α) (p:α) (cs:List Value) (ok cI:Nat→Prop) (hs:a.eval s=v) (hx:a.eval x= .slice (some ⟨W.heap.size,0,none⟩) 1 1) (hp:d.M W base cI p cs) (jN: ∀k,cI k→ok k∧some k≠v.ownBlock) (gX: ∀k,W.heap.size≤k→ok k)
    (HO:S d e W base (fun k=>ok k∧¬cI k) v xs) (HB:Below base w0 W) (hbase:base≤W.heap.size) (hl:(xs.length+1)*bytes≤140737488355328)
    (h: ∀v1 w1,S d e w1 base ok v1 (xs++[p])→Below base w0 w1→W.grownBy w1 v.ownBlock→(v1.ownBlock=v.ownBlock∨∃b,v1.ownBlock=some b∧W.heap.size≤b)→wpList P ops Q rest (a.put o.dst v1) w1):
    wpList P ops Q (o :: rest) a (W.alloc (.cells cs.toArray e)):=by
  obtain⟨f,hf,hR⟩:=PX HO xs.length cI (fun _ hk h2=>h2.2 hk);refine rZ (tag f d) base hgd s x t e z bytes ho ht hinfo hz hs0 hb0 v xs.zipIdx (p,xs.length) cs ok cI hs hx (d.gb (fun k hk=>⟨hk,hf k hk⟩) hp) jN gX (cu hR (fun _ hk=>hk.1)) HB hbase (by rw[List.length_zipIdx];exact hl) ?_;intro v1 w1 hr;rw[← PW]at hr;exact h v1 w1 ⟨f,hr⟩
theorem JQ (d:Kd α) {w0 W:World} (base:Nat) (hw:Region.wanted o (yielded ops a.tmps)=true) (s x:Operand) (t e:TypeId) (z:Value) (bytes:Nat)
    (ho:o.op= .call {callee:= .builtin .append,args:= #[s,x],argTypes:= #[t,t]})
    (ht:P.underlying t=some (.slice e)) (hinfo:(P.info? e).map (fun i=>(i.zero,i.size,i.bytes))=some (some z,d.sz,bytes)) (hz:z.cells.size=d.sz) (hs0:0<d.sz) (hb0:0<bytes)
    (v:Value) (xs:List α) (p:α) (cs:List Value) (ok cI:Nat→Prop) (hs:a.eval s=v) (hx:a.eval x= .slice (some ⟨W.heap.size,0,none⟩) 1 1) (hp:d.M W base cI p cs) (jN: ∀k,cI k→ok k∧some k≠v.ownBlock) (gX: ∀k,W.heap.size≤k→ok k)
    (HO:S d e W base (fun k=>ok k∧¬cI k) v xs) (HB:Below base w0 W) (hbase:base≤W.heap.size) (hl:(xs.length+1)*bytes≤140737488355328)
    (h: ∀v1 w1,S d e w1 base ok v1 (xs++[p])→Below base w0 w1→W.grownBy w1 v.ownBlock→(v1.ownBlock=v.ownBlock∨∃b,v1.ownBlock=some b∧W.heap.size≤b)→Kc (a.put o.dst v1) w1):
    if Region.wanted o (yielded ops a.tmps)=true then Oper.wp P o a (W.alloc (.cells cs.toArray e)) Kc Q else Kc (a.put o.dst undef) (W.alloc (.cells cs.toArray e)):=by
  obtain⟨f,hf,hR⟩:=PX HO xs.length cI (fun _ hk h2=>h2.2 hk);refine Ji (tag f d) base hw s x t e z bytes ho ht hinfo hz hs0 hb0 v xs.zipIdx (p,xs.length) cs ok cI hs hx (d.gb (fun k hk=>⟨hk,hf k hk⟩) hp) jN gX (cu hR (fun _ hk=>hk.1)) HB hbase (by rw[List.length_zipIdx];exact hl) ?_;intro v1 w1 hr;rw[← PW]at hr;exact h v1 w1 ⟨f,hr⟩

theorem uB (d:Kd α) {w0 W:World} (base e:Nat) (hgd:o.guard=none) {N:Tmp} (_hd:o.dst=some N) {xs:List α} {inner:List Value} {ok cI:Nat→Prop}
    (hrun:(execOp a.eval o).run P W= .ok (.value (.slice (some ⟨W.heap.size,0,none⟩) xs.length xs.length)) (W.alloc (.cells inner.toArray e)))
    (tW:bO (d.M W base (fun _=>False)) d.sz xs inner) (_hok: ∀k,cI k→ok k) (gX:ok W.heap.size) (HB:Below base w0 W) (hbase:base≤W.heap.size) (hm:xs.length≤9223372036854775807)
    (h: ∀v1 w1,S d e w1 base ok v1 xs→Below base w0 w1→W.grownBy w1 none→(∃b,v1.ownBlock=some b∧W.heap.size≤b)→wpList P ops Q rest (a.put o.dst v1) w1):wpList P ops Q (o :: rest) a W:=
  jv (bare d) base e hgd _hd (ok:=ok) (cI:=ok) hrun tW (fun _ hk=>hk) gX HB hbase hm (fun v1 w1 hr=>h v1 w1 (acT hr))
end

def gap {α:Type} (f:Nat→Nat) (d:Kd α) (i:Nat) (c:List Value):Kd (α×Nat) where
  sz:=d.sz
  E:=d.E
  K:=fun w x cs=>(x.2=i→cs=c∧cs.length=d.sz∧∀u∈cs,u.oneCell'=true)∧(x.2≠i→d.K w x.1 cs)
  M:=fun w base ok x cs=>(x.2=i→cs=c∧cs.length=d.sz∧∀u∈cs,u.oneCell'=true)∧(x.2≠i→d.M w base (fun k=>ok k∧f k=x.2) x.1 cs)
  kR:=fun {w x cs} h=>by
    by_cases hx:x.2=i
    · exact(h.1 hx).2.1
    · exact d.kR (h.2 hx)
  jY:=fun {w x cs} h=>by
    by_cases hx:x.2=i
    · exact(h.1 hx).2.2
    · exact d.jY (h.2 hx)
  oK:=fun hb h=>⟨h.1,fun hx=>d.oK hb (h.2 hx)⟩
  jf:=fun h=>⟨h.1,fun hx=>d.jf (h.2 hx)⟩
  gb:=fun hok h=>⟨h.1,fun hx=>d.gb (fun k hk=>⟨hok k hk.1,hk.2⟩) (h.2 hx)⟩
  kS:=fun h=>⟨h.1,fun hx=>d.gb (fun _ hk=>⟨⟨hk.1.1,hk.2⟩,hk.1.2⟩) (d.kS (h.2 hx))⟩
  kT:=fun hm h=>⟨h.1,fun hx=>d.kT (fun k hk=>hm k hk.1) (h.2 hx)⟩
  oL:=fun hb h=>⟨h.1,fun hx=>d.oL hb (h.2 hx)⟩
def H {α:Type} (d:Kd α) (e:Nat) (w:World) (base:Nat) (ok:Nat→Prop) (v:Value) (xs:List α) (i:Int) (fe:Nat→Prop) (c:List Value):Prop:=
  (∀k,fe k→ok k)∧∃f,(gap f d i.toNat c).R e w base (fun k=>ok k∧¬fe k) v xs.zipIdx
section
variable {α β:Type} {d:Kd α} {e e' g n cap:Nat} {w w1 W:World} {base:Nat} {ok ok' fe cI:Nat→Prop} {u v:Value} {xs:List α} {i:Int} {c:List Value}

theorem PY (h:S d e W base ok (.slice (some ⟨g,0,none⟩) n cap) xs) (z:α) (i:Int) (h0:0≤i) (h1:i<n):
    ∃(fe:Nat→Prop) (c:List Value),c.length=d.sz∧d.M W base fe (xs.getD i.toNat z) c∧(∀j u,c[j]? =some u→W.cell? ⟨g,i.toNat*d.sz+j,none⟩=some u)∧(∀k,fe k→ok k∧k≠g)∧H d e W base ok (.slice (some ⟨g,0,none⟩) n cap) xs i fe c:=by
  obtain⟨f,hR⟩:=h;have hn:=(cM hR).1;rw[List.length_zipIdx]at hn;have hgo:some g=(Value.slice (some ⟨g,0,none⟩) n cap).ownBlock:=by simp[Value.ownBlock]
  obtain⟨hok0,inner,ho,hr⟩:=hR;have hil:i.toNat<xs.length:=by omega
  have hlen:inner.length=xs.length*d.sz:=by have:=hr.1;rw[List.length_zipIdx]at this;exact this
  have Gg:i.toNat*d.sz+d.sz≤inner.length:=by rw[hlen,← Nat.succ_mul];exact Nat.mul_le_mul_right _ hil
  have hM:=hr.2 i.toNat _ (xm (List.getElem?_eq_getElem hil));have hkg: ∀k,some k≠(Value.slice (some ⟨g,0,none⟩) n cap).ownBlock→k≠g:=fun k hk he=>hk (by rw[he];exact hgo)
  refine⟨fun k=>(ok k∧k≠g)∧f k=i.toNat,(inner.drop (i.toNat*d.sz)).take d.sz,by rw[List.length_take,List.length_drop];omega, ?_,fun j u hu=> ?_,fun k hk=>hk.1,fun k hk=>hk.1.1,f,fun k hk=>⟨hok0 k hk,fun h2=>h2.1.2 ?_⟩,inner,ho,hr.1,fun m p hm=> ?_⟩
  · rw[List.getD_eq_getElem?_getD,List.getElem?_eq_getElem hil]
    exact d.gb (fun k hk=>⟨⟨hk.1.1,hkg k hk.1.2⟩,hk.2⟩) hM
  · rw[List.getElem?_take]at hu
    split at hu
    · rw[List.getElem?_drop]at hu
      have:=ho.cells (g:=g) hgo.symm _ u hu
      rwa [add_plain]at this
    · cases hu
  · rw[← hgo]at hk;injection hk with hk;exact hk.symm
  · have hold:=hr.2 m p hm
    have EE:p.2=m:=by
      rw[List.getElem?_zipIdx,Nat.zero_add]at hm;obtain⟨q,_,rfl⟩:=Option.map_eq_some_iff.1 hm
      rfl
    refine⟨fun hx=> ?_,fun hx=>d.gb (fun k hk=>⟨⟨⟨hk.1.1,fun h2=>hx ?_⟩,hk.1.2⟩,hk.2⟩) hold⟩
    · have xk:m=i.toNat:=by omega
      subst xk;exact⟨rfl,d.kR (d.jf hM),d.jY (d.jf hM)⟩
    · rw[← hk.2];exact h2.2
open Classical in

theorem PZ (h:H d e w base ok v xs i fe c) {x':α} (hM:d.M w base cI x' c) (hok: ∀k,cI k→fe k):S d e w base ok v (xs.set i.toNat x'):=by
  obtain⟨ho,f,h0,inner,hown,hr⟩:=h;refine⟨fun k=>if fe k then i.toNat else f k,fun k hk=>(h0 k hk).1,inner,by rw[List.length_zipIdx,List.length_set];rw[List.length_zipIdx]at hown;exact hown,by have:=hr.1;rw[List.length_zipIdx]at this;rw[List.length_zipIdx,List.length_set];exact this,fun m p hm=> ?_⟩;rw[List.getElem?_zipIdx,Nat.zero_add]at hm;obtain⟨q,hq,rfl⟩:=Option.map_eq_some_iff.1 hm;have hml:m<xs.length:=by
    have:=(List.getElem?_eq_some_iff.1 hq).1
    rwa [List.length_set]at this
  by_cases xk:m=i.toNat
  · subst xk
    rw[List.getElem?_set_self hml]at hq
    injection hq with hq
    subst hq;have hc:=((hr.2 i.toNat _ (xm (List.getElem?_eq_getElem hml))).1 rfl).1
    show d.M w base _ x' ((inner.drop (i.toNat*d.sz)).take d.sz)
    rw[show(inner.drop (i.toNat*d.sz)).take d.sz=c from hc];exact d.gb (fun k hk=>⟨⟨ho k (hok k hk),fun he=>(h0 k he.symm).2 (hok k hk)⟩,if_pos (hok k hk)⟩) hM
  · rw[List.getElem?_set_ne (Ne.symm xk)]at hq
    exact d.gb (fun k hk=>⟨⟨hk.1.1.1,hk.1.2⟩,(if_neg hk.1.1.2).trans hk.2⟩) ((hr.2 m (q,m) (xm hq)).2 xk)

theorem abn (h:H d e w base ok v xs i fe c):H d e w base ok v xs i (fun k=>fe k∨ok k∧w.heap.size≤k) c:=by
  obtain⟨ho,f,h⟩:=h;exact⟨fun k hk=>hk.elim (ho k) (fun h2=>h2.1),f,cu (qF h) (fun k hk=>⟨hk.1.1,fun h2=>h2.elim hk.1.2 (fun h3=>by have:=hk.2.2.1;omega)⟩)⟩
theorem P0 (h:H d e w base ok v xs i fe c) (hm: ∀k,ok k→¬fe k→k<w.heap.size→w1.heap[k]? =w.heap[k]?):H d e w1 base ok v xs i fe c:=by
  obtain⟨ho,f,h⟩:=h;exact⟨ho,f,xj h (fun k hk hlt=>hm k hk.1 hk.2 hlt)⟩

theorem O7 (h:H d e w base ok v xs i fe c) {row:Option Nat} (hg:w.grownBy w1 row) (hrow: ∀k,row=some k→fe k):H d e w1 base ok v xs i fe c:=
  P0 h (fun k _ hn hlt=>hg.block k hlt (fun he=>hn (hrow k he.symm)))
theorem Ll (h:H d e w base ok v xs i fe c) (hb:Below w.heap.size w w1):H d e w1 base ok v xs i fe c:=P0 h (fun k _ _ hlt=>hb.block k hlt)
theorem abo (h:H d e w base ok v xs i fe c) (o:Obj):H d e (w.alloc o) base ok v xs i fe c:=Ll h (jC (Below.refl _ _) o)
theorem abq (h:H d e w base ok v xs i fe c):H d e w.drew base ok v xs i fe c:=Ll h (zj (Below.refl _ _))
theorem abp (h:H d e w base ok v xs i fe c) (m:Nat):H d e (w.drewN m) base ok v xs i fe c:=Ll h (lu (Below.refl _ _) m)

theorem ab8 (h:H d e w base ok v xs i fe c) (hok: ∀k,ok k→ok' k):H d e w base ok' v xs i fe c:=by
  obtain⟨ho,f,h⟩:=h;exact⟨fun k hk=>hok k (ho k hk),f,cu h (fun k hk=>⟨hok k hk.1,hk.2⟩)⟩

theorem acV {vm:Nat→Prop} (h:H d e w base (fun k=>ok k∧¬vm k) v xs i fe c) (hg: ∀k,vm k→ok k):H d e w base ok v xs i (fun k=>fe k∨vm k) c:=by
  obtain⟨ho,f,h⟩:=h;exact⟨fun k hk=>hk.elim (fun h2=>(ho k h2).1) (hg k),f,cu h (fun k hk=>⟨hk.1.1,fun h2=>h2.elim hk.2 hk.1.2⟩)⟩

theorem Ad {ad:Addr} (h:S d e W base ok (.slice (some ad) n cap) xs) (z:α) (i:Int) (h0:0≤i) (h1:i<n):
    ∃(fe:Nat→Prop) (c:List Value),c.length=d.sz∧d.M W base fe (xs.getD i.toNat z) c∧(∀j u,c[j]? =some u→W.cell? (ad.add (i.toNat*d.sz+j))=some u)∧(∀k,fe k→ok k∧some k≠(Value.slice (some ad) n cap).ownBlock)∧
      ∀{w1:World} {row:Option Nat} {x':α},W.grownBy w1 row→(∀k,row=some k→fe k)→d.M w1 base fe x' c→S d e w1 base ok (.slice (some ad) n cap) (xs.set i.toNat x'):=by
  obtain⟨g,rfl⟩:=Lj (oH h);obtain⟨fe,c,hcl,hM,hcc,Gi,hH⟩:=PY h z i h0 h1;refine⟨fe,c,hcl,hM,fun j u hu=> ?_,fun k hk=>⟨(Gi k hk).1,fun he=>(Gi k hk).2 ?_⟩,fun hg hrow U7=>PZ (O7 hH hg hrow) U7 (fun _ hk=>hk)⟩
  · rw[KZ,Nat.zero_add]
    exact hcc j u hu
  · simpa [Value.ownBlock] using he

theorem abl (h:S d e W base ok (.slice (some ⟨g,0,none⟩) n cap) xs) (z:α) (i:Int) (h0:0≤i) (h1:i<n):
    ∃(fe:Nat→Prop) (c:List Value),c.length=d.sz∧d.M W base fe (xs.getD i.toNat z) c∧(∀j u,c[j]? =some u→W.cell? ⟨g,i.toNat*d.sz+j,none⟩=some u)∧(∀j,W.frozen? ⟨g,i.toNat*d.sz+j,none⟩=false)∧(∀k,fe k→ok k∧k≠g)∧H d e W base ok (.slice (some ⟨g,0,none⟩) n cap) xs i fe c:=by
  obtain⟨_,_,_,_,hfr⟩:=F8 (oH h) z i h0 h1;obtain⟨fe,c,hcl,hM,hcc,Gi,hH⟩:=PY h z i h0 h1;exact⟨fe,c,hcl,hM,hcc,hfr,Gi,hH⟩

theorem Kw (h:H d e W base ok (.slice (some ⟨g,0,none⟩) n cap) xs i fe c) (h0:0≤i) (h1:i<n):
    ∃rows:List (List Value),rows.length=xs.length∧(raw d.sz).R e W base (fun _=>True) (.slice (some ⟨g,0,none⟩) n cap) rows∧c.length=d.sz∧(∀u∈c,u.oneCell'=true)∧(∀j u,c[j]? =some u→W.cell? ⟨g,i.toNat*d.sz+j,none⟩=some u)∧
      ∀w1 c',W.grownBy w1 (some g)→(raw d.sz).R e w1 base (fun _=>True) (.slice (some ⟨g,0,none⟩) n cap) (rows.set i.toNat c')→H d e w1 base ok (.slice (some ⟨g,0,none⟩) n cap) xs i fe c':=by
  obtain⟨U7,f,hR⟩:=h;have hn:=(cM hR).1;rw[List.length_zipIdx]at hn;have hgo:some g=(Value.slice (some ⟨g,0,none⟩) n cap).ownBlock:=by simp[Value.ownBlock]
  obtain⟨hok0,inner,ho,hr⟩:=hR;have hil:i.toNat<xs.length:=by omega
  have hlen:inner.length=xs.length*d.sz:=by have:=hr.1;rw[List.length_zipIdx]at this;exact this
  have hkg: ∀k,some k≠(Value.slice (some ⟨g,0,none⟩) n cap).ownBlock→k≠g:=fun k hk he=>hk (by rw[he];exact hgo)
  have hci:=(hr.2 i.toNat _ (xm (List.getElem?_eq_getElem hil))).1 rfl;rw[hci.1]at hci;have hc:=((hr.2 i.toNat _ (xm (List.getElem?_eq_getElem hil))).1 rfl).1;refine⟨(List.range xs.length).map fun j=>(inner.drop (j*d.sz)).take d.sz,by rw[List.length_map,List.length_range],⟨fun _ _=>trivial,inner, ?_, ?_,fun j p hj=> ?_⟩,hci.2.1,hci.2.2,fun j u hu=> ?_,fun w1 c' hg Em=> ?_⟩
  · rw[List.length_map,List.length_range];rw[List.length_zipIdx]at ho;exact ho
  · rw[List.length_map,List.length_range];exact hlen
  · rw[List.getElem?_map]at hj
    obtain⟨j',hj',rfl⟩:=Option.map_eq_some_iff.1 hj;obtain⟨hl,he⟩:=List.getElem?_eq_some_iff.1 hj';rw[List.getElem_range]at he;subst he;rw[List.length_range]at hl;have hm:=(gap f d i.toNat c).jf (hr.2 j _ (xm (List.getElem?_eq_getElem hl)));exact⟨rfl,(gap f d i.toNat c).kR hm,(gap f d i.toNat c).jY hm⟩
  · rw[← hc,List.getElem?_take]at hu
    split at hu
    · rw[List.getElem?_drop]at hu
      have:=ho.cells (g:=g) hgo.symm _ u hu
      rwa [add_plain]at this
    · cases hu
  · obtain⟨_,inner',ho',hr'⟩:=Em
    have hl':inner'.length=xs.length*d.sz:=by have:=hr'.1;rw[List.length_set,List.length_map,List.length_range]at this;exact this
    rw[List.length_set,List.length_map,List.length_range]at ho';refine⟨U7,f,hok0,inner',by rw[List.length_zipIdx];exact ho',by rw[List.length_zipIdx];exact hl',fun m p hm=> ?_⟩;rw[List.getElem?_zipIdx,Nat.zero_add]at hm;obtain⟨q,hq,rfl⟩:=Option.map_eq_some_iff.1 hm;have hml:m<xs.length:=(List.getElem?_eq_some_iff.1 hq).1;have hold:=hr.2 m (q,m) (xm hq);refine⟨fun hx=> ?_,fun hx=> ?_⟩
    · have hx':m=i.toNat:=hx
      subst hx';exact hr'.2 i.toNat c' (List.getElem?_set_self (by rw[List.length_map,List.length_range];exact hml))
    · have hx':m≠i.toNat:=hx
      have hcm:=(hr'.2 m ((inner.drop (m*d.sz)).take d.sz) (by
        rw[List.getElem?_set_ne (Ne.symm hx'),List.getElem?_map,List.getElem?_eq_getElem (by rw[List.length_range];exact hml),List.getElem_range]
        rfl)).1
      show d.M w1 base _ q ((inner'.drop (m*d.sz)).take d.sz)
      rw[show(inner'.drop (m*d.sz)).take d.sz=_ from hcm];exact d.gb (fun k hk=>hk.1) (d.kT (w1:=w1) (fun k hk=>hg.block k hk.2.2.1 (fun he=>hkg k hk.1.1.2 (by injection he))) (d.kS (hold.2 hx)))

theorem acW (h:H d e W base ok (.slice (some ⟨g,0,none⟩) n cap) xs i fe c) (h0:0≤i) (h1:i<n) {seg:List Value} {j:Nat} (hj:j+seg.length≤d.sz) (hone: ∀q∈seg,q.oneCell'=true):
    H d e (W.setCells g (i.toNat*d.sz+j) seg) base ok (.slice (some ⟨g,0,none⟩) n cap) xs i fe (c.take j++seg++c.drop (j+seg.length))∧W.grownBy (W.setCells g (i.toNat*d.sz+j) seg) (some g):=by
  obtain⟨rows,_,Em,hcl,U7,hcc,hback⟩:=Kw h h0 h1;obtain⟨h2,h3⟩:=acQ Em i h0 h1 (c:=c) (seg:=seg) (j:=j) (x':=c.take j++seg++c.drop (j+seg.length)) (cI:=fun _=>False) hcl hcc hj
    ⟨rfl,by
      show(c.take j++seg++c.drop (j+seg.length)).length=d.sz
      simp only[List.length_append,List.length_take,List.length_drop];omega,fun u hu=>by
      rcases List.mem_append.1 hu with hu|hu
      · rcases List.mem_append.1 hu with hu|hu
        · exact U7 u (List.mem_of_mem_take hu)
        · exact hone u hu
      · exact U7 u (List.mem_of_mem_drop hu)⟩ (fun _ hk=>hk.elim)
  exact⟨hback _ _ h3 h2,h3⟩

theorem ab7 {vm:Nat→Prop} (hH:H d e W base (fun k=>ok k∧¬vm k) (.slice (some ⟨g,0,none⟩) n cap) xs i fe c) (h0:0≤i) (h1:i<n) {seg:List Value} {j:Nat} (hj:j+seg.length≤d.sz)
    {x':α} (hM:d.M W base cI x' (c.take j++seg++c.drop (j+seg.length))) (jN: ∀k,cI k→fe k∨vm k) (hg: ∀k,vm k→ok k∧k≠g):
    S d e (W.setCells g (i.toNat*d.sz+j) seg) base ok (.slice (some ⟨g,0,none⟩) n cap) (xs.set i.toNat x')∧W.grownBy (W.setCells g (i.toNat*d.sz+j) seg) (some g):=by
  have hne: ∀k,fe k∨vm k→k≠g:=by
    intro k hk he;subst he;rcases hk with hk|hk
    · obtain⟨_,f,hR⟩:=hH
      exact(hR.1 k (by simp[Value.ownBlock])).2 hk
    · exact(hg k hk).2 rfl
  obtain⟨h2,h3⟩:=acW (acV hH (fun k hk=>(hg k hk).1)) h0 h1 hj (fun q hq=>d.jY (d.jf hM) q (List.mem_append_left _ (List.mem_append_right _ hq)));exact⟨PZ h2 (KU hM (fun k hk hlt=>h3.block k hlt (fun he=>hne k (jN k hk) (by injection he)))) jN,h3⟩
end
section
variable {P:Program} {ops:Array Oper} {rest:List Oper} {o:Oper} {a:Act} {Q:Exit→Act→World→Prop} {α:Type}
end
end Kd
end Go.Proofs.YtkadhadceongiaaW.PrintWords
