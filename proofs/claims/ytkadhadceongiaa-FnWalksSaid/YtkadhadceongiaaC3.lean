/- The printed functions that this law reaches, and their contracts: part 3. -/

import Derived.Test.YtkadhadceongiaaC2
namespace Go.Proofs.Ytkadhadceongiaa.G
open Go.RowKit Go.Proofs.YtkadhadceongiaaW.PrintWords Go.Proofs.YtkadhadceongiaaW.PrintLast Go.Proofs.YtkadhadceongiaaW.PrintMore
open Nat renaming le_refl → ahp, ne_of_lt → ais, add_zero → aix, mul_one → aiy
open Option.some renaming inj → aii, injEq → ain
open Go.RowKit.Below renaming refl → aim
open Go.Proofs.Try renaming prog → aip, underlying26 → ail, func152 → aiV, func123 → aiZ, func228 → ai0, underlying29 → aiN, func215 → ai1, func136 → ai2, underlying24 → aiT, func118 → ai3
open Int renaming tdiv → aiU
open Prod.mk renaming injEq → aio
open Go.World renaming block_lt_of_cell? → air
open Go.Value renaming slice → aiW
open Go.Act renaming put → aiP
open List renaming setIfInBounds_toArray → aiu, set_cons_zero → aiv, set_cons_succ → aiw, map_toArray → aiD, map_cons → ahb, map_nil → aiE, append_toArray → aiX, cons_append → aiY, nil_append → ag9, length_append → ahj, replicate → ahl, length_singleton → ahD
open Bool renaming eq_false_iff → aiq
open Or renaming inl → aiQ
open Go.IntKind renaming i64 → aiS
open Go.World.grownBy renaming trans → ai4
attribute [local go_sem] vD vE vF vG vH vI vJ vK
set_option maxHeartbeats 8000000
set_option maxRecDepth 100000
set_option linter.unusedVariables false
set_option linter.unusedSimpArgs false

theorem dF.aap {P:Program} (w:World) (base:Nat) (t ty e:TypeId) (i:TypeInfo) (z:Value) (bytes:Nat) (ht:P.underlying t=some (.slice e)) (hi:P.info? e=some i) (hz:i.zero=some z)
    (hsize:i.size=1) (hby:i.bytes=bytes) (hzs:z.cells.size=1) (v:Value) (n:Nat) (xs:List Value) (hown:w.ownsRow base e 1 v n xs)
    (a:Addr) (c:Nat) (news:List Value) (hl:news.length=1) (hnews: ∀j u,news[j]? =some u→w.cell? (a.add j)=some u) (h1: ∀u∈news,u.oneCell'=true)
    (h63:n+1≤maxLen) (hbytes:(n+1)*bytes≤140737488355328) (hbase:base≤w.heap.size):
    ∃v' w',(Builtin.append_ #[t,t] ty #[v, .slice (some a) 1 c]).run P w= .ok v' w'∧w'.ownsRow base e 1 v' (n+1) (xs++news)∧w.grownBy w' v.ownBlock∧
      ((∃A c,v= .slice A n c∧v'= .slice A (n+1) c)∨(w'.ownsRow base e 1 v n xs∧∃b,v'.ownBlock=some b∧w.heap.size≤b)):=by
  obtain⟨v',w',hr,h2,h3,h4,h5⟩:=run_append_own_at (P:=P) w base t ty e i z 1 bytes ht hi hz hsize hby hzs az v n xs hown a 1 c news (by rw[hl]) hnews h1 h63 hbytes hbase;refine⟨v',w',hr,h2,h3, ?_⟩;have hn: ∀b,v'.ownBlock=some b→v.ownBlock=none→w.heap.size≤b:=fun b hb h0=>by
    rcases h5 with h5|h5
    · rw[h5,h0]at hb
      cases hb
    · rw[h5]at hb
      injection hb with hb
      omega
  rcases hown.2 with ⟨rfl,rfl⟩|⟨g,cap,cur,rfl,hbg,hg,hnc,hcm,hcs,htake⟩
  · have hx:xs= []:=List.eq_nil_of_length_eq_zero (by simpa using hown.1)
    subst hx;refine .inr ⟨World.ownsRow_nil _ _ _ _, ?_⟩;rcases h2.2 with ⟨_,h0⟩|⟨g,cap,cur,rfl,_⟩
    · omega
    · exact⟨g,rfl,hn g rfl rfl⟩
  · by_cases hroom:n+1≤cap
    · have oF:=run_append_room (P:=P) w t ty e i ht hi g n cap cur hg a 1 c news (by rw[hl,hsize]) hnews h1 hroom (by rw[hl,hcs,hsize];omega)
      rw[hr]at oF
      injection oF with hv hw
      exact .inl ⟨_,_,rfl,hv⟩
    · have holds: ∀j u,xs[j]? =some u→w.cell? ((⟨g,0,none⟩:Addr).add j)=some u:=hown.cells (g:=g) rfl
      have oF:=run_append_grow (P:=P) w t ty e i z ht hi hz ⟨g,0,none⟩ n cap xs (by rw[hsize];exact hown.1) holds a 1 c news (by rw[hl,hsize]) hnews (by simp only[maxLen]at h63;omega) (by simp only[maxLen]at h63;omega) (growslice_fits aa (by rw[hby];exact hbytes));rw[hr]at oF
      injection oF with hv hw
      refine .inr ⟨?_,w.heap.size,by rw[hv];rfl,ahp _⟩;rw[hw];exact(hown.drew).alloc _
section
variable {P:Program} {ops:Array Oper} {o:Oper} {a:Act} {Q:Exit→Act→World→Prop} {Kc:Act→World→Prop}
theorem dF.OB {w0 W:World} (base:Nat) (hw:Region.wanted o (yielded ops a.tmps)=true) (s x:Operand) (t e:TypeId) (z:Value) (bytes:Nat)
    (ho:o.op= .call {callee:= .builtin .append,args:= #[s,x],argTypes:= #[t,t]})
    (ht:P.underlying t=some (.slice e)) (hinfo:(P.info? e).map (fun i=>(i.zero,i.size,i.bytes))=some (some z,1,bytes)) (hz:z.cells.size=1) (hb0:0<bytes)
    (v:Value) (xs:List Int) (p:Int) (ok:Nat→Prop) (hs:a.eval s=v) (hx:a.eval x= .slice (some ⟨W.heap.size,0,none⟩) 1 1)
    (HO:(Kd.int .i64).R e W base ok v xs) (HB:Below base w0 W) (hbase:base≤W.heap.size) (hl:(xs.length+1)*bytes≤140737488355328)
    (h: ∀v1 w1,(Kd.int .i64).R e w1 base (fun _=>True) v1 (xs++[p])→Below base w0 w1→W.grownBy w1 v.ownBlock→
      ((∃A c,v= .slice A xs.length c∧v1= .slice A (xs.length+1) c)∨((Kd.int .i64).R e w1 base ok v xs∧∃b,v1.ownBlock=some b∧W.heap.size≤b))→Kc (a.put o.dst v1) w1):
    if Region.wanted o (yielded ops a.tmps)=true then Oper.wp P o a (W.alloc (.cells #[.int .i64 p] e)) Kc Q else Kc (a.put o.dst undef) (W.alloc (.cells #[.int .i64 p] e)):=by
  obtain⟨i0,hi,hzz⟩:=Option.map_eq_some_iff.1 hinfo;simp only[aio]at hzz;obtain⟨hz0,hz1,hz2⟩:=hzz;have hlen:xs.length+1≤140737488355328:=Nat.le_trans (Nat.le_mul_of_pos_right _ hb0) hl;obtain⟨hok,inner,hown,hr⟩:=HO;rw[aC hw];obtain⟨v1,w1,hrun,hown1,hg,hat⟩:=dF.aap (P:=P) (W.alloc (.cells #[.int .i64 p] e)) base t o.type e i0 z bytes ht hi hz0 hz1 hz2 hz v xs.length _ (hown.alloc _) ⟨W.heap.size,0,none⟩ 1 [.int .i64 p] rfl
    (by simpa using World.news_of_block (cs:= #[Value.int .i64 p]) (t:=e) (fr:=(0,0)) (heap_alloc_new W (.cells #[.int .i64 p] e))) (by simp[Value.oneCell']) (by simp only[maxLen];omega) hl (by simp;omega)
  unfold Oper.wp execOp;simp only[ho,resolve,invoke,builtin,Sem.run_bind,Sem.run_pure,Result.andThen_ok,aiD,ahb,aiE,hs,hx,hrun];refine h v1 w1 ?_ ((HB.alloc hbase _).grown hg (by simp;omega) (wM hown)) (ai4 (World.grownBy_alloc W _ _) hg) ?_
  · refine Kd.JP (W:=W) (cI:=fun _=>False) (cs:=[.int .i64 p]) (fun _ _=>trivial) (hr.lQ (fun _ _ hp=>(Kd.int .i64).gb (fun k hk=>⟨trivial,hk.2⟩) hp)) rfl (fun _ hk=>hk.elim) (fun _ _=>trivial) hown1 (ai4 (World.grownBy_alloc W _ _) hg) ?_
    rcases hat with ⟨A,c,rfl,rfl⟩|⟨_,b,hb,hle⟩
    · exact .inl (by cases A<;>rfl)
    · exact .inr ⟨b,hb,by simp at hle;omega⟩
  · rcases hat with hat|⟨hat,b,hb,hle⟩
    · exact .inl hat
    · exact .inr ⟨⟨hok,_,hat,hr⟩,b,hb,by simp at hle;omega⟩
end
def dF.lp (n:Int) (l:List (List Int)) (n':Int) (l':List (List Int)) (v:Int) (F:List Int→List (List Int)→Option (List (List Int))) (ws:List Int) (m:Int):Nat→Int→List (List Int)→Option (List (List Int))
  | 0,_,_=>none
  | q+1,e,xs=>if e<m then ((if (ws.length:Int)=0 then xN.f e n' l' v else qI.f n l (rd ws (wrap64 ((ws.length:Int) - 1))) e).bind fun b=>
      if b=true then (if ws.length+1<17592186044416 then (F (ws++[e]) xs).bind fun ys=>dF.lp n l n' l' v F ws m q (wrap64 (e+1)) ys else none) else dF.lp n l n' l' v F ws m q (wrap64 (e+1)) xs) else some xs
def dF.go (n:Int) (l:List (List Int)) (n':Int) (l':List (List Int)) (v:Int):Nat→List Int→List (List Int)→Option (List (List Int))
  | 0,ws,xs=>(qL.f ws).bind fun t=>if xs.length+1<5864062014805 then some (xs++[t]) else none
  | d+1,ws,xs=>(kY.f n l).bind fun s=>dF.lp n l n' l' v (dF.go n l n' l' v d) ws (wrap64 (2*s)) ((wrap64 (2*s)).toNat+1) 0 xs
def dF.f (ai:Int) (ag:List (List Int)) (a1:Int) (oG:Int) (wN:List (List Int)) (Dn:Int):Option (List (List Int)):=if 0≤a1∧a1≤1000 then dF.go ai ag oG wN Dn a1.toNat [] [] else none
theorem dF.base (n v n':Int) (l l':List (List Int)) (w0:World) (K bk bi bo bg bb bx:Nat) (hlo:w0.heap.size≤bo)
    (ws:List Int) (xs r:List (List Int)) (walk wO:Value) (P wP:Nat→Prop) (w:World) (hd:ws.length=K) (h:dF.go n l n' l' v 0 ws xs=some r) (hB:Below w0.heap.size w0 w)
    (hk:w.heap[bk]? =some (.cells #[.int .i64 K] 2 (0,0))) (hi:w.heap[bi]? =some (.cells #[.func (.func 149) #[] #[]] 57 (0,0)))
    (ho:w.heap[bo]? =some (.cells #[wO] 24 (0,0))) (hS:Kd.S (Kd.slice 2 (Kd.int .i64)) 29 w w0.heap.size P wO xs) (hW:Kd.R (Kd.int .i64) 2 w w0.heap.size wP walk ws)
    (nQ: ∀k,walk.ownBlock=some k→¬P k):
    Calls aip 228 #[walk, .pointer (some ⟨bk,0,none⟩), .pointer (some ⟨bi,0,none⟩), .pointer (some ⟨bo,0,none⟩), .pointer (some ⟨bg,0,none⟩), .pointer (some ⟨bb,0,none⟩), .pointer (some ⟨bx,0,none⟩)] w fun e w'=>
      e= .returned (.tuple #[])∧∃Dp,w'.heap[bo]? =some (.cells #[Dp] 24 (0,0))∧Kd.S (Kd.slice 2 (Kd.int .i64)) 29 w' w0.heap.size (fun k=>P k∨w.heap.size≤k) Dp r∧Kd.R (Kd.int .i64) 2 w' w0.heap.size wP walk ws∧Below w0.heap.size w0 w'∧
        Kept w w' (fun k=>k=bo∨P k∨walk.ownBlock=some k):=by
  subst hd;obtain⟨A1,c1,rfl⟩:=Kd.dP hW;obtain⟨A2,c2,rfl⟩:=Kd.eN hS;obtain⟨t,A0,H⟩:=bE h;obtain⟨hlen,H⟩:=bN H;obtain rfl:=aii H;clear H h;have dW:((ws.length:Int) == (ws.length:Int))=true:=beq_iff_eq.mpr rfl;have OC:w.cell? ⟨bk,0,none⟩=some (.int .i64 ws.length):=(fU hk 0).trans rfl;have hci:w.cell? ⟨bi,0,none⟩=some (.func (.func 149) #[] #[]):=(fU hi 0).trans rfl;have Vi:=ax hk 0;have hfi:=ax hi 0;obtain⟨hrl,hrc,Ve⟩:=Kd.cM hW;go_enter ai0,Try.ntmps228;go_wp2_with (first|((with_reducible refine tH (t:=15) rfl ?_);refine tI (some 17) rfl rfl Try.func149 aU rfl (lb:= #[]) #[.slice A1 ws.length c1] rfl (by first|rfl|(simp;done)) (by(try simp only[aiD,ahb,aiE,aiX,aiY,ag9]);first|done|rfl) ?_;(with_reducible refine(FE.calls A1 c1 ws true _ ?aq ?au rfl).mono ?_);(case aq=>exact Kd.ay Ve af);(case au=>exact hrc);rintro e w' ⟨rfl,⟨nd,rfl⟩⟩;refine⟨_,rfl, ?_⟩));have ia:(w.drewN nd).drew.heap[bo]? =some (.cells #[.slice A2 xs.length c2] 24 (0,0)):=ho;have Vb:=Kd.ee (Kd.eS hS nd);have U7:=Kd.fM (Kd.gK (Kd.lC rfl hW) nd);have FF:Below w0.heap.size w0 (w.drewN nd).drew:=fE (lu hB nd);have hK1:Kept w (w.drewN nd).drew (fun k=>k=bo∨P k∨(aiW A1 ws.length c1).ownBlock=some k):=(Kept.refl w _);have hz1:(w.drewN nd).drew.heap.size=w.heap.size:=rfl;have qd:(w.drewN nd).drew.cell? ⟨bo,0,none⟩=some (.slice A2 xs.length c2):=(fU ia 0).trans rfl;refine gD (n:=6) (S:=fun w'=>w'.cell? ⟨bo,0,none⟩=some (.slice A2 xs.length c2)) (ds:=[5]) #[false,false,false,false,false,false] aU rfl rfl qd (fun hHeld=> ?_);clear qd;generalize (w.drewN nd).drew=w1 at ia Vb U7 FF hK1 hz1 hHeld ⊢;refine kM (i:=1) (N:=some 19) (v:= ?_) (a':= ?_) #[false,true,false,false,false,false] rfl rfl aU (fun _ _ _ h=>h) (aiQ ⟨by rfl, ?_⟩) ?_ ?_
  rotate_left
  · intro w'
    go_simp
    with_reducible rfl
  rotate_left
  · simp only[aiP,aiu,aiv,aiw,ez,fT]
    rfl
  refine tF (i:=0) (N:=some 18) (v:= ?_) (a':= ?_) #[true,true,false,false,false,false] rfl rfl aU (fun _ _ _ h=>h) (aiQ ⟨by rfl, ?_⟩) hHeld ?_ ?_
  rotate_left
  · intro w' s0
    go_simp
    with_reducible rfl
  rotate_left
  · simp only[aiP,aiu,aiv,aiw,ez,fT]
    rfl
  refine rq (i:=2) (N:=some 20) #[true,true,true,false,false,false] rfl rfl aU az (fun K hK=> ?_);refine gI Try.func213 aU rfl #[.slice A1 ws.length c1] (by rfl) rfl rfl mb ?_
  with_reducible refine(qL.calls A1 c1 ws t _ ?aq ?au A0.1).mono ?_
  (case aq=>exact(Kd.cM U7).2.2);(case au=>exact hrc);rintro e w2 ⟨v2,rfl,Dq,hb2⟩;refine⟨_,rfl, ?_⟩;have tJ:=av ia hb2;have Va:=Kd.aaq Vb hb2;have Vd:=Kd.bG U7 hb2;have FG:Below w0.heap.size w0 w2:=aG FF hb2;have hK2:=hK1.below hb2;have U8: ∀k,v2.ownBlock=some k→w.heap.size≤k:=fun k hk=>by have:=Kd.dQ Dq k hk;omega
  obtain⟨A3,c3,rfl⟩:=Kd.dP Dq;refine hK.out _ _ ((fU tJ 0).trans rfl) (fun hHeld=> ?_);clear hK K;refine fj ?_;refine rq (i:=3) (N:=some 21) #[true,true,true,true,false,false] rfl rfl aU az (fun K hK=> ?_);refine Ds (v:= .slice (some ⟨w2.heap.size,0,none⟩) 1 1) (w1:=w2.alloc (.cells #[.slice A3 t.length c3] 29 (0,0))) (by rfl) ?hr ?_;(case hr=>first|(go_simp;done)|(go_simp;rfl));refine hK.out _ _ ((fU (bR tJ _) 0).trans rfl) (fun hHeld=> ?_);clear hK K;refine fj ?_;refine rq (i:=4) (N:=some 22) #[true,true,true,true,true,false] rfl rfl aU az (fun K hK=> ?_);refine Kd.JQ (Kd.slice 2 (Kd.int .i64)) (w0:=w0) w0.heap.size (by rfl) (.tmp 18) (.tmp 21) 24 29 (.slice none 0 0) 24 rfl aiT mK rfl az aa (.slice A2 xs.length c2) xs t [.slice A3 t.length c3] (fun k=>P k∨w.heap.size≤k) (fun k=>some k=(.slice A3 t.length c3:Value).ownBlock) rfl rfl ?aP ?aK ?aF ?aO FG ?aS ?aL ?_;(case aP=>exact Kd.lB (Kd.dR (Kd.lC rfl Dq) (by rw[hz1];exact hB.size)));(case aK=>exact fun k hk=>⟨.inr (U8 k hk.symm),fun e=>by have h1:=U8 k hk.symm;have h2:=Kd.nK hS k e.symm;omega⟩);(case aF=>exact fun k hk=> .inr (by have:=hb2.size;omega));(case aO=>exact Kd.cZ Va (fun k hk=>⟨.inl hk.1,fun e=>by have h1:=U8 k e.symm;have h2:=hk.2;omega⟩));(case aS=>exact FG.size);(case aL=>omega);intro v3 w3 Vc JR U9 Vg;obtain⟨A4,c4,e4⟩:=Kd.eN Vc;rw[ahj,ahD]at e4;subst e4;have tK:=fG tJ U9 (Kd.j8 Va tJ az);have Vf:=Kd.OD Vd U9 (fun k hk e=>nQ k hk.symm ((Kd.oH hS).1 k e.symm));have hK3:=Kept.nA U9 hK2 (fun k hk=> .inl (.inr (.inl ((Kd.oH hS).1 k hk))));refine hK.out _ _ ((fU tK 0).trans rfl) (fun hHeld=> ?_);clear hK K;refine fj ?_;refine qW (i:=5) (N:=none) #[true,true,true,true,true,true] rfl rfl aU az (fun K hK=> ?_);have hs3:w3.cell? ⟨bo,0,none⟩=some (.slice A2 xs.length c2):=(fU tK 0).trans rfl;have Vh:=ax tK 0;refine qt (w1:= ?_) (by rfl) rfl ?_ ?_
  rotate_left
  · go_simp
    rfl
  refine hK.out _ _ ?_;clear hK K;refine gE aU ?_;go_wp2;(try simp only[Exit.inBlock,Exit.then]);refine bodyPost_ret (results_none rfl _ _ _) rfl ?_;refine⟨rfl,_,cY (cs:= #[.slice A2 xs.length c2]) tK 0 _ rfl,Kd.JS Vc tK az 0 _,Kd.cu (Kd.aar Vf tK az 0 _) (fun k hk=>hW.1 k hk.symm),jU JR hlo,hK3.setCell (.inl (.inl rfl)) _⟩

def dF.Env (n:Int) (A:Option Addr) (c:Nat) (l:List (List Int)) (K bk bi bo bg bb bx cg cv:Nat) (w:World):Prop:=
  w.heap[bk]? =some (.cells #[.int .i64 K] 2 (0,0))∧w.heap[bi]? =some (.cells #[.func (.func 149) #[] #[]] 57 (0,0))∧w.heap[bg]? =some (.cells #[.int .i64 n, .slice A l.length c] 26 (0,0))∧
    w.heap[bb]? =some (.cells #[.func (.func 148) #[] #[.pointer (some ⟨cg,0,none⟩), .pointer (some ⟨cv,0,none⟩)]] 89 (0,0))∧
    w.heap[bx]? =some (.cells #[.func (.func 228) #[] #[.pointer (some ⟨bk,0,none⟩), .pointer (some ⟨bi,0,none⟩), .pointer (some ⟨bo,0,none⟩), .pointer (some ⟨bg,0,none⟩), .pointer (some ⟨bb,0,none⟩), .pointer (some ⟨bx,0,none⟩)]] 81 (0,0))
def dF.X (bk bi bg bb bx bo k:Nat):Prop:=k=bk∨k=bi∨k=bg∨k=bb∨k=bx∨k=bo
section
variable {n:Int} {A:Option Addr} {c:Nat} {l:List (List Int)} {K bk bi bo bg bb bx cg cv:Nat} {w w2:World} {S:Nat→Prop}
theorem dF.Env.kept (h:dF.Env n A c l K bk bi bo bg bb bx cg cv w) (hk:Kept w w2 S) (hs: ∀k,k≠bo→dF.X bk bi bg bb bx bo k→¬S k) (ho: ∃v,w.heap[bo]? =some (.cells #[v] 24 (0,0))):dF.Env n A c l K bk bi bo bg bb bx cg cv w2:=by
  obtain⟨h1,h2,h3,h4,h5⟩:=h;obtain⟨v,ho⟩:=ho;exact⟨Al h1 hk (hs _ (qf h1 ho az) (.inl rfl)),Al h2 hk (hs _ (qf h2 ho az) (.inr (.inl rfl))),Al h3 hk (hs _ (qf h3 ho az) (.inr (.inr (.inl rfl)))),
    Al h4 hk (hs _ (qf h4 ho az) (.inr (.inr (.inr (.inl rfl))))),Al h5 hk (hs _ (qf h5 ho az) (.inr (.inr (.inr (.inr (.inl rfl))))))⟩
theorem dF.Env.lt (h:dF.Env n A c l K bk bi bo bg bb bx cg cv w) (ho: ∃v,w.heap[bo]? =some (.cells #[v] 24 (0,0))): ∀k,dF.X bk bi bg bb bx bo k→k<w.heap.size:=by
  obtain⟨h1,h2,h3,h4,h5⟩:=h;obtain⟨v,ho⟩:=ho;rintro k (rfl|rfl|rfl|rfl|rfl|rfl)
  · exact dZ h1
  · exact dZ h2
  · exact dZ h3
  · exact dZ h4
  · exact dZ h5
  · exact dZ ho
end

def dF.Fx (w0 w:World) (bo:Nat) (P:Nat→Prop) (A1:Option Addr) (c1:Nat) (ws:List Int) (Ay:Option Addr) (cy:Nat) (ys:List (List Int)) (w1:World):Prop:=
  w1.heap[bo]? =some (.cells #[.slice Ay ys.length cy] 24 (0,0))∧Kd.S (Kd.slice 2 (Kd.int .i64)) 29 w1 w0.heap.size (fun k=>P k∨w.heap.size≤k) (.slice Ay ys.length cy) ys∧
    Kd.R (Kd.int .i64) 2 w1 w0.heap.size (fun k=>some k=(aiW A1 ws.length c1).ownBlock) (.slice A1 ws.length c1) ws∧Below w0.heap.size w0 w1∧Kept w w1 (fun k=>k=bo∨P k∨(aiW A1 ws.length c1).ownBlock=some k)
theorem dF.Fx.below {w0 w w1 w2:World} {bo:Nat} {P:Nat→Prop} {A1:Option Addr} {c1:Nat} {ws:List Int} {Ay:Option Addr} {cy:Nat} {ys:List (List Int)} (h:dF.Fx w0 w bo P A1 c1 ws Ay cy ys w1) (hb:Below w1.heap.size w1 w2):
    dF.Fx w0 w bo P A1 c1 ws Ay cy ys w2:=⟨av h.1 hb,Kd.bH h.2.1 hb,Kd.bG h.2.2.1 hb,aG h.2.2.2.1 hb,h.2.2.2.2.below hb⟩
theorem dF.Fx.drew {w0 w w1:World} {bo:Nat} {P:Nat→Prop} {A1:Option Addr} {c1:Nat} {ws:List Int} {Ay:Option Addr} {cy:Nat} {ys:List (List Int)} (h:dF.Fx w0 w bo P A1 c1 ws Ay cy ys w1):
    dF.Fx w0 w bo P A1 c1 ws Ay cy ys w1.drew:=⟨h.1,Kd.ee h.2.1,Kd.fM h.2.2.1,fE h.2.2.2.1,h.2.2.2.2⟩
def dF.OK (n v n':Int) (A:Option Addr) (c:Nat) (l l':List (List Int)) (w0:World) (K bk bi bo bg bb bx cg cv d:Nat):Prop:=
  ∀(ws:List Int) (xs r:List (List Int)) (walk wO:Value) (P wP:Nat→Prop) (w:World),ws.length+d=K→dF.go n l n' l' v d ws xs=some r→Below w0.heap.size w0 w→dF.Env n A c l K bk bi bo bg bb bx cg cv w→
    w.heap[bo]? =some (.cells #[wO] 24 (0,0))→Kd.S (Kd.slice 2 (Kd.int .i64)) 29 w w0.heap.size P wO xs→Kd.R (Kd.int .i64) 2 w w0.heap.size wP walk ws→
    (∀k,P k→¬dF.X bk bi bg bb bx bo k)→(∀k,walk.ownBlock=some k→¬P k∧¬dF.X bk bi bg bb bx bo k)→
    Calls aip 228 #[walk, .pointer (some ⟨bk,0,none⟩), .pointer (some ⟨bi,0,none⟩), .pointer (some ⟨bo,0,none⟩), .pointer (some ⟨bg,0,none⟩), .pointer (some ⟨bb,0,none⟩), .pointer (some ⟨bx,0,none⟩)] w fun e w'=>
      e= .returned (.tuple #[])∧∃Dp,w'.heap[bo]? =some (.cells #[Dp] 24 (0,0))∧Kd.S (Kd.slice 2 (Kd.int .i64)) 29 w' w0.heap.size (fun k=>P k∨w.heap.size≤k) Dp r∧Kd.R (Kd.int .i64) 2 w' w0.heap.size wP walk ws∧Below w0.heap.size w0 w'∧
        Kept w w' (fun k=>k=bo∨P k∨walk.ownBlock=some k)
theorem dF.ok0 (n v n':Int) (A:Option Addr) (c:Nat) (l l':List (List Int)) (w0:World) (K bk bi bo bg bb bx cg cv:Nat) (hlo:w0.heap.size≤bo):dF.OK n v n' A c l l' w0 K bk bi bo bg bb bx cg cv 0:=
  fun ws xs r walk wO P wP w hd h hB hE ho hS hW hP nQ=>dF.base n v n' l l' w0 K bk bi bo bg bb bx hlo ws xs r walk wO P wP w hd h hB hE.1 hE.2.1 ho hS hW (fun k hk=>(nQ k hk).1)
def dF.T7:Bool×List (List Nat×List Nat):=(true,[([],[]),([0],[0]),([1],[1]),([2],[2]),([2],[2]),([3,4,2,2],[2,3,4]),([2,5],[2,5]),([6,5],[6]),([7],[7]),([8,7],[7,8]),([9,7,7],[7,9]),([10],[10]),([10],[10]),([10],[10]),([13,10],[10,13]),([12,14,10],[10,12,14]),([15,10],[10,15]),([10],[10]),([11,16,17,10,10],[10,11,16,17]),([10,18,7],[7,10,18]),([7,19],[7,19])])
def dF.B7:List Nat:=[0,1,3,7,7,31,63,127,255,511,1023,2047,2047,2047,10239,30719,63487,2047,262143,524287,1048575]
theorem dF.OE:e7 .any (opsOf Try.f228 7)=dF.T7:=by kernel_rfl
theorem dF.OG:iV dF.T7.2 dF.B7=true:=by kernel_rfl
theorem dF.step (n v n':Int) (A A':Option Addr) (c c':Nat) (l l':List (List Int)) (w0:World) (hr:Kd.C (Kd.slice 2 (Kd.int .i64)) w0 A l.length l) (hc:l.length≤c) (hr':Kd.C (Kd.slice 2 (Kd.int .i64)) w0 A' l'.length l') (hc':l'.length≤c') (K bk bi bo bg bb bx cg cv:Nat) (hlo:w0.heap.size≤bo)
    (FH:w0.heap[cg]? =some (.cells #[.int .i64 n', .slice A' l'.length c'] 26 (0,0))) (FI:w0.heap[cv]? =some (.cells #[.int .i64 v] 2 (0,0))) (d:Nat) (IH:dF.OK n v n' A c l l' w0 K bk bi bo bg bb bx cg cv d):dF.OK n v n' A c l l' w0 K bk bi bo bg bb bx cg cv (d+1):=by
  intro ws xs r walk wO P wP w hd h hB hE ho hS hW hP nQ;have Vn:=hE.lt ⟨_,ho⟩;obtain⟨A1,c1,rfl⟩:=Kd.dP hW;obtain⟨A2,c2,rfl⟩:=Kd.eN hS;have h:((kY.f n l).bind fun s=>dF.lp n l n' l' v (dF.go n l n' l' v d) ws (wrap64 (2*s)) ((wrap64 (2*s)).toNat+1) 0 xs)=some r:=h;obtain⟨s,As,H⟩:=bE h;clear h;have Va: ∀k,k≠bo→dF.X bk bi bg bb bx bo k→¬(k=bo∨P k∨(aiW A1 ws.length c1).ownBlock=some k):=by
    rintro k hk hX (h|h|h)
    · exact hk h
    · exact hP k h hX
    · exact(nQ k h).2 hX
  have dW:((ws.length:Int) == (K:Int))=false:=beq_eq_false_iff_ne.mpr aa;have Vb:=hE;obtain⟨hk,hi,hg,Vy,hx⟩:=hE;have OC:w.cell? ⟨bk,0,none⟩=some (.int .i64 K):=(fU hk 0).trans rfl;have Vr:w.cell? ⟨bg,0,none⟩=some (.int .i64 n):=(fU hg 0).trans rfl;have Vs:w.cell? ⟨bg,1,none⟩=some (.slice A l.length c):=(fU hg 1).trans rfl;have Vu:dF.Fx w0 w bo P A1 c1 ws A2 c2 xs w:=⟨ho,Kd.cZ hS (fun _ hk=> .inl hk),Kd.lC rfl hW,hB,Kept.refl _ _⟩;go_enter ai0,Try.ntmps228;go_wp2_with (first|((with_reducible refine bu (f:=204) rfl ?_);refine AJ (some 24) rfl rfl Try.func204 aU rfl #[.agg #[.int .i64 n, .slice A l.length c]] rfl (by(try simp only[aiD,ahb,aiE]);first|done|rfl) ?_;(with_reducible refine(kY.calls n _ _ l s _ ?aq ?au As.out).mono ?_);(case aq=>exact Kd.ay hr hB);(case au=>exact hc);rintro e w1 ⟨rfl,hb1⟩;refine⟨_,rfl, ?_⟩;have Vw:=Vu.below hb1;clear hb1));clear OC Vr Vs dW;go_loopg [26] ((wrap64 (2*s)).toNat+1) (fun kq Vv w'=>∃(e:Int) (ys:List (List Int)) (Ay:Option Addr) (cy:Nat),Vv= .int .i64 e∧ak (dF.lp n l n' l' v (dF.go n l n' l' v d) ws (wrap64 (2*s)) kq e ys=some r)∧ak (dF.Fx w0 w bo P A1 c1 ws Ay cy ys w'))
  case atStart=>exact⟨0,xs,A2,c2,(by first|rfl|(simp;done)),⟨H⟩,⟨Vw⟩⟩
  case round=>
    obtain⟨e,ys,Ay,cy,rfl,HA,HF⟩:=hrel;cases gk with
    | zero=>exact absurd HA.1 (by simp[dF.lp])
    | succ q=>
      have H2:=HA.1;clear HA;simp only[dF.lp]at H2
      by_cases c5:e<wrap64 (2*s)
      · rw[aC c5]at H2
        have gZ:=aV c5;clear c5
        by_cases c6:(ws.length:Int)=0
        · rw[aC c6]at H2
          have iO:((ws.length:Int) == 0)=true:=beq_iff_eq.mpr c6;clear c6;obtain⟨b,Ab,H3⟩:=bE H2;go_wp2;have U8:=HF.1.drew;have Ve:=Vb.kept U8.2.2.2.2 Va ⟨_,ho⟩;have qd:wr.drew.cell? ⟨bb,0,none⟩=some (.func (.func 148) #[] #[.pointer (some ⟨cg,0,none⟩), .pointer (some ⟨cv,0,none⟩)]):=(fU Ve.2.2.2.1 0).trans rfl;refine gD (n:=21) (S:=fun w'=>w'.cell? ⟨bb,0,none⟩=some (.func (.func 148) #[] #[.pointer (some ⟨cg,0,none⟩), .pointer (some ⟨cv,0,none⟩)])) (ds:=[]) #[false,false,false,false,false,false,false,false,false,false,false,false,false,false,false,false,false,false,false,false,false] aU rfl rfl qd (fun hHeld=> ?_);refine iW dF.OE dF.OG (fun dN hU=> ?_);clear qd;generalize wr.drew=w2 at U8 Ve hHeld ⊢;refine bh 0 21 29 1 ?_;refine bh 1 21 30 3 ?_;refine bh 2 21 31 7 ?_;refine bh 4 21 33 23 ?_;refine tF (i:=3) (N:=some 32) (v:= ?_) (a':= ?_) #[true,true,true,true,true,false,false,false,false,false,false,false,false,false,false,false,false,false,false,false,false] rfl rfl (OH dN.1 hU.1 aU) (fun _ _ _ h=>h) (aiQ ⟨by rfl, ?_⟩) hHeld ?_ ?_
          rotate_left
          · intro w' s0
            go_simp
            with_reducible rfl
          rotate_left
          · simp only[aiP,aiu,aiv,aiw,ez,fT]
            rfl
          refine fZ 5 21 (some 34) 63 (fun K hK=> ?_);refine JT Try.func148 aU rfl (lb:= #[.pointer (some ⟨cg,0,none⟩), .pointer (some ⟨cv,0,none⟩)]) #[.int .i64 e, .pointer (some ⟨cg,0,none⟩), .pointer (some ⟨cv,0,none⟩)] (by rfl) rfl rfl (by first|rfl|(simp;done)) (by(try simp only[aiD,ahb,aiE,aiX,aiY,ag9]);first|done|rfl) ?_
          with_reducible refine(xN.calls e cg n' A' c' l' cv v b _ ?aq ?au ?bL ?bS Ab.out).mono ?_
          (case aq=>exact av FH U8.2.2.2.1);(case au=>exact Kd.ay hr' U8.2.2.2.1);(case bL=>exact hc');(case bS=>exact av FI U8.2.2.2.1);rintro e' w3 ⟨rfl,Vl⟩;refine⟨_,rfl, ?_⟩;have Vc:=U8.below Vl;have Vm:=Vb.kept Vc.2.2.2.2 Va ⟨_,ho⟩;refine hK.out _ _ ((fU Vm.2.2.2.1 0).trans rfl) (fun hHeld=> ?_);clear hK K;refine fj ?_;cases b with
          | true=>
            rw[aC rfl]at H3;have H:=H3;clear H2 H3 hHeld;refine bh 6 21 35 127 ?_;refine bh 7 21 36 255 ?_;refine eZ 8 21 37 511 ?_;refine eZ 9 21 38 1023 ?_;refine eZ 10 21 39 2047 ?_;refine eZ 11 21 40 4095 ?_;refine eZ 12 21 41 8191 ?_;refine eZ 13 21 42 16383 ?_;refine eZ 14 21 43 32767 ?_;refine eZ 15 21 44 65535 ?_;refine eZ 16 21 45 131071 ?_;refine eZ 17 21 46 262143 ?_;refine eZ 18 21 47 524287 ?_;refine eZ 19 21 48 1048575 ?_;refine bh 20 21 49 2097151 ?_;refine gE (iX dN.1 aU) ?_;go_wp2;obtain⟨hlen,H⟩:=bN H;obtain⟨zs,Az,H⟩:=bE H;have U7:=Vc.drew;have Vd:=Vb.kept U7.2.2.2.2 Va ⟨_,ho⟩;have qd:w3.drew.cell? ⟨bx,0,none⟩=some (.func (.func 228) #[] #[.pointer (some ⟨bk,0,none⟩), .pointer (some ⟨bi,0,none⟩), .pointer (some ⟨bo,0,none⟩), .pointer (some ⟨bg,0,none⟩), .pointer (some ⟨bb,0,none⟩), .pointer (some ⟨bx,0,none⟩)]):=(fU Vd.2.2.2.2 0).trans rfl;refine gD (n:=6) (S:=fun w'=>w'.cell? ⟨bx,0,none⟩=some (.func (.func 228) #[] #[.pointer (some ⟨bk,0,none⟩), .pointer (some ⟨bi,0,none⟩), .pointer (some ⟨bo,0,none⟩), .pointer (some ⟨bg,0,none⟩), .pointer (some ⟨bb,0,none⟩), .pointer (some ⟨bx,0,none⟩)])) (ds:=[5]) #[false,false,false,false,false,false] aU rfl rfl qd (fun hHeld=> ?_);clear qd;generalize w3.drew=w5 at U7 Vd hHeld ⊢;refine kM (i:=1) (N:=some 51) (v:= ?_) (a':= ?_) #[false,true,false,false,false,false] rfl rfl aU (fun _ _ _ h=>h) (aiQ ⟨by rfl, ?_⟩) ?_ ?_
            rotate_left
            · intro w'
              go_simp
              with_reducible rfl
            rotate_left
            · simp only[aiP,aiu,aiv,aiw,ez,fT]
              rfl
            refine kM (i:=2) (N:=some 52) (v:= ?_) (a':= ?_) #[false,true,true,false,false,false] rfl rfl aU (fun _ _ _ h=>h) (aiQ ⟨by rfl, ?_⟩) ?_ ?_
            rotate_left
            · intro w'
              go_simp
              with_reducible rfl
            rotate_left
            · simp only[aiP,aiu,aiv,aiw,ez,fT]
              rfl
            refine tF (i:=0) (N:=some 50) (v:= ?_) (a':= ?_) #[true,true,true,false,false,false] rfl rfl aU (fun _ _ _ h=>h) (aiQ ⟨by rfl, ?_⟩) hHeld ?_ ?_
            rotate_left
            · intro w' s0
              go_simp
              with_reducible rfl
            rotate_left
            · simp only[aiP,aiu,aiv,aiw,ez,fT]
              rfl
            refine rq (i:=3) (N:=some 53) #[true,true,true,true,false,false] rfl rfl aU az (fun K hK=> ?_);refine Ds (v:= .slice (some ⟨w5.heap.size,0,none⟩) 1 1) (w1:=w5.alloc (.cells #[.int .i64 e] 2 (0,0))) (by rfl) ?hr ?_;(case hr=>first|(go_simp;done)|(go_simp;rfl));refine hK.out _ _ ((fU (bR Vd.2.2.2.2 _) 0).trans rfl) (fun hHeld=> ?_);clear hK K;refine fj ?_;refine rq (i:=4) (N:=some 54) #[true,true,true,true,true,false] rfl rfl aU az (fun K hK=> ?_);refine dF.OB (w0:=w0) w0.heap.size (by rfl) (.tmp 51) (.tmp 53) 29 2 (.int .i64 0) 8 rfl aiN kB rfl aa (.slice A1 ws.length c1) ws e _ rfl rfl U7.2.2.1 U7.2.2.2.1 U7.2.2.2.1.size aa ?_;intro v6 w6 Vp Dt tL Vk;obtain⟨yU,wQ,Vt,Du,hK5⟩:=U7;have hK6:=Kept.nA tL hK5 (fun k hk=> .inl (.inr (.inr hk)));have Vi:=Vb.kept hK6 Va ⟨_,ho⟩;have hs5:=hK5.1;have hs6:=tL.size;have sn:=fG yU tL (fun h=>(nQ bo h.symm).2 (.inr (.inr (.inr (.inr (.inr rfl))))));have U9:=Kd.jk hW;have Dv:Kd.S (Kd.slice 2 (Kd.int .i64)) 29 w6 w0.heap.size (fun k=>(P k∨w.heap.size≤k)∧k<w5.heap.size) (.slice Ay ys.length cy) ys:=
              Kd.Dw (Kd.cZ (Kd.pg wQ) (fun k hk=>⟨hk.1,hk.2.2.1⟩)) tL (fun k hk h=>hk.1.elim (nQ k h.symm).1 (fun h2=>by have:=U9 k h.symm;omega))
            refine hK.out _ _ ((fU Vi.2.2.2.2 0).trans rfl) (fun hHeld=> ?_);clear hK K;refine fj ?_;refine qW (i:=5) (N:=some 55) #[true,true,true,true,true,true] rfl rfl aU az (fun K hK=> ?_);refine JT ai0 aU rfl (lb:= #[.pointer (some ⟨bk,0,none⟩), .pointer (some ⟨bi,0,none⟩), .pointer (some ⟨bo,0,none⟩), .pointer (some ⟨bg,0,none⟩), .pointer (some ⟨bb,0,none⟩), .pointer (some ⟨bx,0,none⟩)]) #[v6, .pointer (some ⟨bk,0,none⟩), .pointer (some ⟨bi,0,none⟩), .pointer (some ⟨bo,0,none⟩), .pointer (some ⟨bg,0,none⟩), .pointer (some ⟨bb,0,none⟩), .pointer (some ⟨bx,0,none⟩)] (by rfl) rfl rfl (by first|rfl|(simp;done)) (by(try simp only[aiD,ahb,aiE,aiX,aiY,ag9]);first|done|rfl) ?_;have Vj: ∀k,v6.ownBlock=some k→(aiW A1 ws.length c1).ownBlock=some k∨w5.heap.size≤k:=fun k hk=>by
              rcases Vk with ⟨A,c,e1,e2⟩|⟨_,b,hb,hle⟩
              · injection e1 with e1 _ _
                subst e1 e2;have h9: ∀(B:Option Addr) (m m2 x x2:Nat),(aiW B m x).ownBlock=(aiW B m2 x2).ownBlock:=fun B _ _ _ _=>by cases B<;>rfl
                exact .inl ((h9 _ _ _ _ _).trans hk)
              · rw[hb]at hk
                injection hk with hk
                exact .inr aa
            refine(IH (ws++[e]) ys zs v6 _ _ _ w6 (by rw[ahj,ahD];omega) Az.out Dt Vi sn Dv Vp (fun k hk hX=>hk.1.elim (fun h=>hP k h hX) (fun h=>by have:=Vn k hX;omega)) (fun k hk=> ?own)).mono ?_
            case own=>
              rcases Vj k hk with h|h
              · exact⟨fun h2=>h2.1.elim (nQ k h).1 (fun h3=>by have:=U9 k h;omega),(nQ k h).2⟩
              · exact⟨fun h2=>by have:=h2.2;omega,fun hX=>by have:=Vn k hX;omega⟩
            rintro e' w7 ⟨rfl,v7,su,wR,Vq,yV,hK7⟩;refine⟨_,rfl, ?_⟩;obtain⟨Vg,Vh,rfl⟩:=Kd.eN wR;have Vo:dF.Fx w0 w bo P A1 c1 ws Vg Vh zs w7:=by
              refine⟨su,Kd.cZ wR (fun k hk=>hk.elim (fun h=>h.1) (fun h=> .inr aa)), ?_,yV,hK6.Dx hK7 (fun k hk=> ?_)⟩
              · rcases Vk with ⟨A,c,e1,e2⟩|⟨hv,b,hb,hle⟩
                · injection e1 with e1 _ e3
                  subst e1 e2 e3;have h2:=Kd.lC rfl (Kd.JU Vq (m:=ws.length) (by rw[ahj];omega));rw[List.take_left]at h2;exact h2
                · refine Kd.OI hv hK7 (fun k hk h=> ?_)
                  rcases h with h|h|h
                  · subst h
                    exact(nQ _ hk.symm).2 (.inr (.inr (.inr (.inr (.inr rfl)))))
                  · exact h.1.elim (nQ k hk.symm).1 (fun h3=>by have:=U9 k hk.symm;omega)
                  · rw[hb]at h
                    injection h with h
                    have:=U9 k hk.symm
                    omega
              · rcases hk with h|h|h
                · exact .inl (.inl h)
                · exact h.1.elim (fun h=> .inl (.inr (.inl h))) .inr
                · exact(Vj k h).elim (fun h=> .inl (.inr (.inr h))) (fun h=> .inr aa)
            refine hK.out _ _ ?_;clear hK K;refine fj ?_;refine gE aU ?_;go_wp2;go_roundg q
            case measure=>omega
            case rel=>exact⟨wrap64 (e+1),zs,Vg,Vh,(by first|rfl|(simp;done)),⟨H⟩,⟨Vo⟩⟩
          | false=>
            rw[aA az]at H3;have H:=H3;clear H2 H3 hHeld;have iT:decide (0<(ws.length:Int))=false:=cz (by have:=beq_iff_eq.mp iO;omega);have sw:decide (0<ws.length)=false:=cz (by have:=beq_iff_eq.mp iO;omega);refine bh 6 21 35 127 ?_;refine bh 7 21 36 255 ?_;refine bh 8 21 37 511 ?_;refine bh 9 21 38 1023 ?_;refine bh 10 21 39 2047 ?_;refine eZ 11 21 40 4095 ?_;refine eZ 12 21 41 8191 ?_;refine eZ 13 21 42 16383 ?_;refine eZ 14 21 43 32767 ?_;refine eZ 15 21 44 65535 ?_;refine eZ 16 21 45 131071 ?_;refine eZ 17 21 46 262143 ?_;refine eZ 18 21 47 524287 ?_;refine bh 19 21 48 1048575 ?_;refine bh 20 21 49 2097151 ?_;refine gE (iX dN.1 aU) ?_;go_wp2;go_roundg q
            case measure=>omega
            case rel=>exact⟨wrap64 (e+1),ys,Ay,cy,(by first|rfl|(simp;done)),⟨H⟩,⟨Vc⟩⟩
        · rw[aA c6]at H2
          obtain⟨iO,oZ⟩:=dL c6;have iT:decide (0<(ws.length:Int))=true:=aV aa;have sw:decide (0<ws.length)=true:=aV aa;have ET:ws.length<9223372036854775808:=by
            have h1:=(Kd.cM hW).2.2.2.1
            omega
          obtain⟨ji,hji⟩: ∃j_:Int,wrap64 ((ws.length:Int) - 1)=j_:=⟨_,rfl⟩;have Vz:aiS.wrap ((ws.length:Int) - 1)=ji:=(ez _).trans hji;rw[hji]at H2;obtain⟨b,Ab,H3⟩:=bE H2;have p8:0≤ji:=by
            unfold wrap64 at hji
            omega
          have q8:ji<(ws.length:Int):=by
            unfold wrap64 at hji
            omega
          have VA:decide (0≤ji)=true:=aV p8;have Vx:decide (ji<(ws.length:Int))=true:=aV q8;clear hji c6 ET;have U8:=HF.1.drew;have Ve:=Vb.kept U8.2.2.2.2 Va ⟨_,ho⟩;obtain⟨ad,eA,Vf⟩:=Kd.dA (Kd.cM U8.2.2.1).2.2 ji p8 q8;subst eA;go_wp2;replace p8:=aH p8;replace q8:=aH q8;have qd:wr.drew.cell? ⟨bg,0,none⟩=some (.int .i64 n)∧wr.drew.cell? ⟨bg,1,none⟩=some (.slice A l.length c)∧wr.drew.cell? (ad.add ji.toNat)=some (.int .i64 (rd ws ji)):=⟨(fU Ve.2.2.1 0).trans rfl,(fU Ve.2.2.1 1).trans rfl,Vf⟩;refine gD (n:=21) (S:=fun w'=>w'.cell? ⟨bg,0,none⟩=some (.int .i64 n)∧w'.cell? ⟨bg,1,none⟩=some (.slice A l.length c)∧w'.cell? (ad.add ji.toNat)=some (.int .i64 (rd ws ji))) (ds:=[]) #[false,false,false,false,false,false,false,false,false,false,false,false,false,false,false,false,false,false,false,false,false] aU rfl rfl qd (fun hHeld=> ?_);refine iW dF.OE dF.OG (fun dN hU=> ?_);clear qd;generalize wr.drew=w2 at U8 Ve Vf hHeld ⊢;refine bh 0 21 29 1 ?_;refine bh 1 21 30 3 ?_;refine bh 2 21 31 7 ?_;refine eZ 3 21 32 15 ?_;refine eZ 4 21 33 31 ?_;refine eZ 5 21 34 63 ?_;refine bh 6 21 35 127 ?_;refine bh 7 21 36 255 ?_;refine bh 8 21 37 511 ?_;refine bh 9 21 38 1023 ?_;refine bh 10 21 39 2047 ?_;refine bh 12 21 41 6143 ?_;refine bh 13 21 42 14335 ?_;refine bh 14 21 43 30719 ?_;refine bh 15 21 44 63487 ?_;refine bh 17 21 46 194559 ?_;refine dD 11 21 40 196607 hHeld ?_;refine dD 16 21 45 262143 hHeld ?_;refine fZ 18 21 (some 47) 524287 (fun K hK=> ?_);refine gI Try.func223 aU rfl #[.agg #[.int .i64 n, .slice A l.length c], .int .i64 (rd ws ji), .int .i64 e] (by rfl) rfl rfl mb ?_
          with_reducible refine(qI.calls n _ _ l (rd ws ji) e b _ ?aq ?au Ab.out).mono ?_
          (case aq=>exact Kd.ay hr U8.2.2.2.1);(case au=>exact hc);rintro e' w3 ⟨rfl,Vl⟩;refine⟨_,rfl, ?_⟩;have Vc:=U8.below Vl;have Vm:=Vb.kept Vc.2.2.2.2 Va ⟨_,ho⟩;refine hK.out _ _ ⟨(fU Vm.2.2.1 0).trans rfl,(fU Vm.2.2.1 1).trans rfl,Vl.cell (air _ _ Vf) |>.trans Vf⟩ (fun hHeld=> ?_);clear hK K;refine fj ?_;clear Vf hHeld;cases b with
          | true=>
            rw[aC rfl]at H3;have H:=H3;clear H2 H3;refine bh 19 21 48 1048575 ?_;refine bh 20 21 49 2097151 ?_;refine gE (iX dN.1 aU) ?_;go_wp2;obtain⟨hlen,H⟩:=bN H;obtain⟨zs,Az,H⟩:=bE H;have U7:=Vc.drew;have Vd:=Vb.kept U7.2.2.2.2 Va ⟨_,ho⟩;have qd:w3.drew.cell? ⟨bx,0,none⟩=some (.func (.func 228) #[] #[.pointer (some ⟨bk,0,none⟩), .pointer (some ⟨bi,0,none⟩), .pointer (some ⟨bo,0,none⟩), .pointer (some ⟨bg,0,none⟩), .pointer (some ⟨bb,0,none⟩), .pointer (some ⟨bx,0,none⟩)]):=(fU Vd.2.2.2.2 0).trans rfl;refine gD (n:=6) (S:=fun w'=>w'.cell? ⟨bx,0,none⟩=some (.func (.func 228) #[] #[.pointer (some ⟨bk,0,none⟩), .pointer (some ⟨bi,0,none⟩), .pointer (some ⟨bo,0,none⟩), .pointer (some ⟨bg,0,none⟩), .pointer (some ⟨bb,0,none⟩), .pointer (some ⟨bx,0,none⟩)])) (ds:=[5]) #[false,false,false,false,false,false] aU rfl rfl qd (fun hHeld=> ?_);clear qd;generalize w3.drew=w5 at U7 Vd hHeld ⊢;refine kM (i:=1) (N:=some 51) (v:= ?_) (a':= ?_) #[false,true,false,false,false,false] rfl rfl aU (fun _ _ _ h=>h) (aiQ ⟨by rfl, ?_⟩) ?_ ?_
            rotate_left
            · intro w'
              go_simp
              with_reducible rfl
            rotate_left
            · simp only[aiP,aiu,aiv,aiw,ez,fT]
              rfl
            refine kM (i:=2) (N:=some 52) (v:= ?_) (a':= ?_) #[false,true,true,false,false,false] rfl rfl aU (fun _ _ _ h=>h) (aiQ ⟨by rfl, ?_⟩) ?_ ?_
            rotate_left
            · intro w'
              go_simp
              with_reducible rfl
            rotate_left
            · simp only[aiP,aiu,aiv,aiw,ez,fT]
              rfl
            refine tF (i:=0) (N:=some 50) (v:= ?_) (a':= ?_) #[true,true,true,false,false,false] rfl rfl aU (fun _ _ _ h=>h) (aiQ ⟨by rfl, ?_⟩) hHeld ?_ ?_
            rotate_left
            · intro w' s0
              go_simp
              with_reducible rfl
            rotate_left
            · simp only[aiP,aiu,aiv,aiw,ez,fT]
              rfl
            refine rq (i:=3) (N:=some 53) #[true,true,true,true,false,false] rfl rfl aU az (fun K hK=> ?_);refine Ds (v:= .slice (some ⟨w5.heap.size,0,none⟩) 1 1) (w1:=w5.alloc (.cells #[.int .i64 e] 2 (0,0))) (by rfl) ?hr ?_;(case hr=>first|(go_simp;done)|(go_simp;rfl));refine hK.out _ _ ((fU (bR Vd.2.2.2.2 _) 0).trans rfl) (fun hHeld=> ?_);clear hK K;refine fj ?_;refine rq (i:=4) (N:=some 54) #[true,true,true,true,true,false] rfl rfl aU az (fun K hK=> ?_);refine dF.OB (w0:=w0) w0.heap.size (by rfl) (.tmp 51) (.tmp 53) 29 2 (.int .i64 0) 8 rfl aiN kB rfl aa (.slice (some ad) ws.length c1) ws e _ rfl rfl U7.2.2.1 U7.2.2.2.1 U7.2.2.2.1.size aa ?_;intro v6 w6 Vp Dt tL Vk;obtain⟨yU,wQ,Vt,Du,hK5⟩:=U7;have hK6:=Kept.nA tL hK5 (fun k hk=> .inl (.inr (.inr hk)));have Vi:=Vb.kept hK6 Va ⟨_,ho⟩;have hs5:=hK5.1;have hs6:=tL.size;have sn:=fG yU tL (fun h=>(nQ bo h.symm).2 (.inr (.inr (.inr (.inr (.inr rfl))))));have U9:=Kd.jk hW;have Dv:Kd.S (Kd.slice 2 (Kd.int .i64)) 29 w6 w0.heap.size (fun k=>(P k∨w.heap.size≤k)∧k<w5.heap.size) (.slice Ay ys.length cy) ys:=
              Kd.Dw (Kd.cZ (Kd.pg wQ) (fun k hk=>⟨hk.1,hk.2.2.1⟩)) tL (fun k hk h=>hk.1.elim (nQ k h.symm).1 (fun h2=>by have:=U9 k h.symm;omega))
            refine hK.out _ _ ((fU Vi.2.2.2.2 0).trans rfl) (fun hHeld=> ?_);clear hK K;refine fj ?_;refine qW (i:=5) (N:=some 55) #[true,true,true,true,true,true] rfl rfl aU az (fun K hK=> ?_);refine JT ai0 aU rfl (lb:= #[.pointer (some ⟨bk,0,none⟩), .pointer (some ⟨bi,0,none⟩), .pointer (some ⟨bo,0,none⟩), .pointer (some ⟨bg,0,none⟩), .pointer (some ⟨bb,0,none⟩), .pointer (some ⟨bx,0,none⟩)]) #[v6, .pointer (some ⟨bk,0,none⟩), .pointer (some ⟨bi,0,none⟩), .pointer (some ⟨bo,0,none⟩), .pointer (some ⟨bg,0,none⟩), .pointer (some ⟨bb,0,none⟩), .pointer (some ⟨bx,0,none⟩)] (by rfl) rfl rfl (by first|rfl|(simp;done)) (by(try simp only[aiD,ahb,aiE,aiX,aiY,ag9]);first|done|rfl) ?_;have Vj: ∀k,v6.ownBlock=some k→(aiW (some ad) ws.length c1).ownBlock=some k∨w5.heap.size≤k:=fun k hk=>by
              rcases Vk with ⟨A,c,e1,e2⟩|⟨_,b,hb,hle⟩
              · injection e1 with e1 _ _
                subst e1 e2;have h9: ∀(B:Option Addr) (m m2 x x2:Nat),(aiW B m x).ownBlock=(aiW B m2 x2).ownBlock:=fun B _ _ _ _=>by cases B<;>rfl
                exact .inl ((h9 _ _ _ _ _).trans hk)
              · rw[hb]at hk
                injection hk with hk
                exact .inr aa
            refine(IH (ws++[e]) ys zs v6 _ _ _ w6 (by rw[ahj,ahD];omega) Az.out Dt Vi sn Dv Vp (fun k hk hX=>hk.1.elim (fun h=>hP k h hX) (fun h=>by have:=Vn k hX;omega)) (fun k hk=> ?own)).mono ?_
            case own=>
              rcases Vj k hk with h|h
              · exact⟨fun h2=>h2.1.elim (nQ k h).1 (fun h3=>by have:=U9 k h;omega),(nQ k h).2⟩
              · exact⟨fun h2=>by have:=h2.2;omega,fun hX=>by have:=Vn k hX;omega⟩
            rintro e' w7 ⟨rfl,v7,su,wR,Vq,yV,hK7⟩;refine⟨_,rfl, ?_⟩;obtain⟨Vg,Vh,rfl⟩:=Kd.eN wR;have Vo:dF.Fx w0 w bo P (some ad) c1 ws Vg Vh zs w7:=by
              refine⟨su,Kd.cZ wR (fun k hk=>hk.elim (fun h=>h.1) (fun h=> .inr aa)), ?_,yV,hK6.Dx hK7 (fun k hk=> ?_)⟩
              · rcases Vk with ⟨A,c,e1,e2⟩|⟨hv,b,hb,hle⟩
                · injection e1 with e1 _ e3
                  subst e1 e2 e3;have h2:=Kd.lC rfl (Kd.JU Vq (m:=ws.length) (by rw[ahj];omega));rw[List.take_left]at h2;exact h2
                · refine Kd.OI hv hK7 (fun k hk h=> ?_)
                  rcases h with h|h|h
                  · subst h
                    exact(nQ _ hk.symm).2 (.inr (.inr (.inr (.inr (.inr rfl)))))
                  · exact h.1.elim (nQ k hk.symm).1 (fun h3=>by have:=U9 k hk.symm;omega)
                  · rw[hb]at h
                    injection h with h
                    have:=U9 k hk.symm
                    omega
              · rcases hk with h|h|h
                · exact .inl (.inl h)
                · exact h.1.elim (fun h=> .inl (.inr (.inl h))) .inr
                · exact(Vj k h).elim (fun h=> .inl (.inr (.inr h))) (fun h=> .inr aa)
            refine hK.out _ _ ?_;clear hK K;refine fj ?_;refine gE aU ?_;go_wp2;go_roundg q
            case measure=>omega
            case rel=>exact⟨wrap64 (e+1),zs,Vg,Vh,(by first|rfl|(simp;done)),⟨H⟩,⟨Vo⟩⟩
          | false=>
            rw[aA az]at H3;have H:=H3;clear H2 H3;refine bh 19 21 48 1048575 ?_;refine bh 20 21 49 2097151 ?_;refine gE (iX dN.1 aU) ?_;go_wp2;go_roundg q
            case measure=>omega
            case rel=>exact⟨wrap64 (e+1),ys,Ay,cy,(by first|rfl|(simp;done)),⟨H⟩,⟨Vc⟩⟩
      · rw[aA c5]at H2
        obtain rfl:=aii H2;have gZ:=cz c5;go_wp2
        go_end0
        obtain⟨h1,h2,h3,h4,h5⟩:=HF.1;exact⟨rfl,_,h1,h2,Kd.cu h3 (fun k hk=>hW.1 k hk.symm),h4,h5⟩
theorem dF.ok (n v n':Int) (A A':Option Addr) (c c':Nat) (l l':List (List Int)) (w0:World) (hr:Kd.C (Kd.slice 2 (Kd.int .i64)) w0 A l.length l) (hc:l.length≤c) (hr':Kd.C (Kd.slice 2 (Kd.int .i64)) w0 A' l'.length l') (hc':l'.length≤c') (K bk bi bo bg bb bx cg cv:Nat) (hlo:w0.heap.size≤bo)
    (FH:w0.heap[cg]? =some (.cells #[.int .i64 n', .slice A' l'.length c'] 26 (0,0))) (FI:w0.heap[cv]? =some (.cells #[.int .i64 v] 2 (0,0))): ∀d,dF.OK n v n' A c l l' w0 K bk bi bo bg bb bx cg cv d
  | 0=>dF.ok0 n v n' A c l l' w0 K bk bi bo bg bb bx cg cv hlo
  | d+1=>dF.step n v n' A A' c c' l l' w0 hr hc hr' hc' K bk bi bo bg bb bx cg cv hlo FH FI d (dF.ok n v n' A A' c c' l l' w0 hr hc hr' hc' K bk bi bo bg bb bx cg cv hlo FH FI d)
theorem dF.aas {P:Program} {w:World} (a:Addr) (m:Mode) (fn:Fn) (first captured:Array Value):(store a (.func fn first captured) m).run P w=stored P w a (.func fn first captured) m:=run_store P w a _ m rfl
attribute [local go_sem] dF.aas
theorem dF.calls (ai:Int) (aJ:Option Addr) (aI:Nat) (ag:List (List Int)) (a1:Int) (tM:Nat) (U9:Nat) (oG:Int) (Vc:Option Addr) (Vb:Nat) (wN:List (List Int)) (Dn:Int) (r:List (List Int)) (w:World) (cG:Kd.C (Kd.slice 2 (Kd.int .i64)) w aJ ag.length ag) (cH:ag.length≤aI) (yX:w.heap[tM]? =some (.cells #[.int .i64 oG, .slice Vc wN.length Vb] 26 (0,0))) (VF:w.heap[U9]? =some (.cells #[.int .i64 Dn] 2 (0,0))) (VC:Kd.C (Kd.slice 2 (Kd.int .i64)) w Vc wN.length wN) (VP:wN.length≤Vb) (h:dF.f ai ag a1 oG wN Dn=some r):
    Calls aip 147 #[.agg #[.int .i64 ai, .slice aJ ag.length aI], .int .i64 a1, .func (.func 148) #[] #[.pointer (some ⟨tM,0,none⟩), .pointer (some ⟨U9,0,none⟩)], .func (.func 149) #[] #[]] w fun e w'=>∃dO:Value,e= .returned (dO)∧Kd.S (Kd.slice 2 (Kd.int .i64)) 29 w' w.heap.size (fun _=>True) dO r∧Below w.heap.size w w':=by
  obtain⟨⟨G9,_⟩,h⟩:=bN h;obtain⟨K,rfl⟩:=Int.eq_ofNat_of_zero_le G9;rw[Int.toNat_natCast]at h;go_enter Try.func147,Try.ntmps147;go_wp2_with (first
    | ((with_reducible refine bV (N:=4) rfl ?_);refine cC (N:=4) (cs:= #[.int .i64 ai, .slice aJ ag.length aI]) (t:=26) ?_;intro g4 cL w1 VK hb;have V3:=m_ cL;clear cL;have FF:=aG (aim w.heap.size w) hb;clear hb)
    | ((with_reducible refine bV (N:=5) rfl ?_);refine cC (N:=5) (cs:= #[.int .i64 K]) (t:=2) ?_;intro g5 cL w2 VQ hb;have V2:=m_ cL;clear cL;have FG:=aG FF hb;have VG:=av VK hb;have hz2:=hb.size;clear hb)
    | ((with_reducible refine bV (N:=6) rfl ?_);refine cC (N:=6) (cs:= #[.func (.func 148) #[] #[.pointer (some ⟨tM,0,none⟩), .pointer (some ⟨U9,0,none⟩)]]) (t:=89) ?_;intro g6 cL w3 VU hb;have tL:=m_ cL;clear cL;have JR:=aG FG hb;have VN:=av VG hb;have VA:=av VQ hb;clear hb)
    | ((with_reducible refine bV (N:=7) rfl ?_);refine cC (N:=7) (cs:= #[.func (.func 149) #[] #[]]) (t:=57) ?_;intro g7 cL w4 Dy hb;have VZ:=m_ cL;clear cL;have Vg:=aG JR hb;have Vt:=av VN hb;have Vl:=av VA hb;have Vh:=av VU hb;clear hb)
    | ((with_reducible refine bV (N:=11) rfl ?_);refine Kd.uB (Kd.slice 2 (Kd.int .i64)) _ 29 ?hg (N:=11) ?hd (xs:=([]:List (List Int))) (inner:=[]) (ok:=fun k=>k=w4.heap.size) (cI:=fun k=>k=w4.heap.size) ?hr ?hp (fun _ hk=>hk) rfl (aim _ _) (ahp _) bJ ?_;(case hd=>rfl);(case hg=>rfl);(case hr=>first|(go_simp;done)|(go_simp;rfl));(case hp=>exact(bO.none _ _));intro v11 w5 wQ hb cL cV;clear cL;have VV:ak (w4.heap.size<w5.heap.size):=⟨by obtain⟨b0,hb0,hb1⟩:=cV;have h1:=(Kd.oH wQ).1 b0 hb0;have h2:=Kd.nK wQ b0 hb0;omega⟩;clear cV;have Du:=aG Vg hb;have VS:=av Vt hb;have VH:=av Vl hb;have VT:=av Vh hb;have Vy:=av Dy hb;clear hb;obtain⟨Ax,cx,rfl⟩:=Kd.eN wQ)
    | ((with_reducible refine bV (N:=9) rfl ?_);refine cC (N:=9) (cs:= #[.slice none 0 0]) (t:=24) ?_;intro g9 cL w6 U8 hb;have Va:=m_ cL;clear cL;have Dt:=aG Du hb;have Vs:=av VS hb;have Vk:=av VH hb;have Vu:=av VT hb;have Vn:=av Vy hb;have Dv:=Kd.bH wQ hb;clear hb;have VI:w6.cell? ⟨g9,0,none⟩=some (.slice none 0 0):=(fU U8 0).trans rfl;have VM:=ax U8 0)
    | ((with_reducible refine bV (N:=10) rfl ?_);have wR:=Kd.JS Dv U8 az 0 (.slice Ax 0 cx);have yV:Below w.heap.size w (w6.setCell ⟨g9,0,none⟩ (.slice Ax 0 cx)):=jU Dt (by have h1:=Va.1;have h2:=Du.size;omega);have Vm:=iE Vs (p:=⟨g9,0,none⟩) (qf Vs U8 az) (.slice Ax 0 cx);have Vf:=iE Vk (p:=⟨g9,0,none⟩) (qf Vk U8 az) (.slice Ax 0 cx);have Vv:=iE Vu (p:=⟨g9,0,none⟩) (qf Vu U8 az) (.slice Ax 0 cx);have Vi:=iE Vn (p:=⟨g9,0,none⟩) (qf Vn U8 az) (.slice Ax 0 cx);have Vd:(w6.setCell ⟨g9,0,none⟩ (.slice Ax 0 cx)).heap[g9]? =some (.cells #[.slice Ax 0 cx] 24 (0,0)):=cY (cs:= #[.slice none 0 0]) U8 0 (.slice Ax 0 cx) rfl;
        generalize w6.setCell ⟨g9,0,none⟩ (.slice Ax 0 cx)=w7 at wR yV Vm Vf Vv Vi Vd ⊢;clear VI VM;refine cC (N:=10) (cs:= #[.nilFunc]) (t:=81) ?_;intro g10 cL w8 U7 hb;have Ve:=m_ cL;clear cL;have VR:=Kd.bH wR hb;have VW:=aG yV hb;have Vr:=av Vm hb;have Vj:=av Vf hb;have Vq:=av Vv hb;have Vo:=av Vi hb;have Vp:=av Vd hb;have VY:=m_ hb.size;clear hb;have V4:w8.cell? ⟨g10,0,none⟩=some .nilFunc:=(fU U7 0).trans rfl;have V0:=ax U7 0)
    | ((with_reducible refine tH (t:=13) rfl ?_);refine tI (some 14) rfl rfl ai0 aU rfl (lb:= #[.pointer (some ⟨g5,0,none⟩), .pointer (some ⟨g7,0,none⟩), .pointer (some ⟨g9,0,none⟩), .pointer (some ⟨g4,0,none⟩), .pointer (some ⟨g6,0,none⟩), .pointer (some ⟨g10,0,none⟩)]) #[.slice none 0 0, .pointer (some ⟨g5,0,none⟩), .pointer (some ⟨g7,0,none⟩), .pointer (some ⟨g9,0,none⟩), .pointer (some ⟨g4,0,none⟩), .pointer (some ⟨g6,0,none⟩), .pointer (some ⟨g10,0,none⟩)] rfl (by first|rfl|(simp;done)) (by(try simp only[aiD,ahb,aiE,aiX,aiY,ag9]);first|done|rfl) ?_;
        have Vx:=Kd.JS VR U7 az 0 (.func (.func 228) #[] #[.pointer (some ⟨g5,0,none⟩), .pointer (some ⟨g7,0,none⟩), .pointer (some ⟨g9,0,none⟩), .pointer (some ⟨g4,0,none⟩), .pointer (some ⟨g6,0,none⟩), .pointer (some ⟨g10,0,none⟩)]);have VJ:Below w.heap.size w (w8.setCell ⟨g10,0,none⟩ (.func (.func 228) #[] #[.pointer (some ⟨g5,0,none⟩), .pointer (some ⟨g7,0,none⟩), .pointer (some ⟨g9,0,none⟩), .pointer (some ⟨g4,0,none⟩), .pointer (some ⟨g6,0,none⟩), .pointer (some ⟨g10,0,none⟩)])):=jU VW (by have h1:=Ve.1;have h2:=yV.size;omega);have VL:(w8.setCell ⟨g10,0,none⟩ (.func (.func 228) #[] #[.pointer (some ⟨g5,0,none⟩), .pointer (some ⟨g7,0,none⟩), .pointer (some ⟨g9,0,none⟩), .pointer (some ⟨g4,0,none⟩), .pointer (some ⟨g6,0,none⟩), .pointer (some ⟨g10,0,none⟩)])).heap[g10]? =some (.cells #[(.func (.func 228) #[] #[.pointer (some ⟨g5,0,none⟩), .pointer (some ⟨g7,0,none⟩), .pointer (some ⟨g9,0,none⟩), .pointer (some ⟨g4,0,none⟩), .pointer (some ⟨g6,0,none⟩), .pointer (some ⟨g10,0,none⟩)])] 81 (0,0)):=cY (cs:= #[.nilFunc]) U7 0 (.func (.func 228) #[] #[.pointer (some ⟨g5,0,none⟩), .pointer (some ⟨g7,0,none⟩), .pointer (some ⟨g9,0,none⟩), .pointer (some ⟨g4,0,none⟩), .pointer (some ⟨g6,0,none⟩), .pointer (some ⟨g10,0,none⟩)]) rfl;have VX:=iE Vr (p:=⟨g10,0,none⟩) (qf Vr U7 az) (.func (.func 228) #[] #[.pointer (some ⟨g5,0,none⟩), .pointer (some ⟨g7,0,none⟩), .pointer (some ⟨g9,0,none⟩), .pointer (some ⟨g4,0,none⟩), .pointer (some ⟨g6,0,none⟩), .pointer (some ⟨g10,0,none⟩)]);have VE:=iE Vj (p:=⟨g10,0,none⟩) (qf Vj U7 az) (.func (.func 228) #[] #[.pointer (some ⟨g5,0,none⟩), .pointer (some ⟨g7,0,none⟩), .pointer (some ⟨g9,0,none⟩), .pointer (some ⟨g4,0,none⟩), .pointer (some ⟨g6,0,none⟩), .pointer (some ⟨g10,0,none⟩)]);have VD:=iE Vq (p:=⟨g10,0,none⟩) (qf Vq U7 az) (.func (.func 228) #[] #[.pointer (some ⟨g5,0,none⟩), .pointer (some ⟨g7,0,none⟩), .pointer (some ⟨g9,0,none⟩), .pointer (some ⟨g4,0,none⟩), .pointer (some ⟨g6,0,none⟩), .pointer (some ⟨g10,0,none⟩)]);have Vz:=iE Vo (p:=⟨g10,0,none⟩) (qf Vo U7 az) (.func (.func 228) #[] #[.pointer (some ⟨g5,0,none⟩), .pointer (some ⟨g7,0,none⟩), .pointer (some ⟨g9,0,none⟩), .pointer (some ⟨g4,0,none⟩), .pointer (some ⟨g6,0,none⟩), .pointer (some ⟨g10,0,none⟩)]);have VB:=iE Vp (p:=⟨g10,0,none⟩) (qf Vp U7 az) (.func (.func 228) #[] #[.pointer (some ⟨g5,0,none⟩), .pointer (some ⟨g7,0,none⟩), .pointer (some ⟨g9,0,none⟩), .pointer (some ⟨g4,0,none⟩), .pointer (some ⟨g6,0,none⟩), .pointer (some ⟨g10,0,none⟩)]);have hX: ∀k,k=w4.heap.size→¬dF.X g5 g7 g4 g6 g10 g9 k:=(by
          have h1:=VV.1;have h2:=Va.1;have h3:=Ve.1;have h4:=dZ Vt;have h5:=dZ Vl;have h6:=dZ Vh;have h7:=dZ Dy;have h9:=dZ Vd;rintro k rfl (h|h|h|h|h|h)<;>omega);
        refine(dF.ok ai Dn oG aJ Vc aI Vb ag wN w cG cH VC VP K g5 g7 g9 g4 g6 g10 tM U9 (by have h1:=Va.1;have h2:=Du.size;omega) yX VF K [] [] r (.slice none 0 0) _ (fun k=>k=w4.heap.size) (fun _=>True) _ (Nat.zero_add K) h VJ ⟨VE,Vz,VX,VD,VL⟩ VB (Kd.gF Vx Vg.size) (Kd.lM _ _ _ _ _) hX (fun k hk=>by cases hk)).mono ?_;rintro e iP ⟨rfl,vo,yM,Vw,_,VO,_⟩;refine⟨_,rfl, ?_⟩;obtain⟨Ay,cy,rfl⟩:=Kd.eN Vw;have V5:iP.cell? ⟨g9,0,none⟩=some (.slice Ay r.length cy):=(fU yM 0).trans rfl;have V1:=ax yM 0))
  go_ret;exact⟨_,rfl,Kd.cZ Vw (fun _ _=>trivial),VO⟩

def ku.l0:Nat→Int→List Int→Int→Int→Int→List (List Int)→Int→Int→Option ((List (List Int))×Int)
  | 0,_,_,_,_,_,_,_,_=>none
  | k+1,x9,tN,mR,nO,U7,U8,U9,Va=>if nO<mR then (if 0≤nO then (if nO<(tN.length:Int) then (ku.l0 k (wrap64 (x9+(rd tN nO))) tN mR (wrap64 (nO+1)) U7 U8 U9 Va) else (none)) else (none)) else (if x9>400 then (some (([]:List (List Int)),3)) else ((dF.f U7 U8 Va U7 U8 U9).bind fun JV=>(some (JV,0))))
def ku.f (k:Nat) (ai:Int) (ag:List (List Int)) (a1:Int) (a2:Int):Option ((List (List Int))×Int):=(vC.f k ai ag a1 ai ag a2).bind fun AK=>(if AK=0 then ((eC.f k ai ag a2).bind fun pK=>(if 0≤a1 then (if a1<(pK.length:Int) then (ku.l0 k 0 (aM pK a1) ((aM pK a1).length:Int) 0 ai ag a1 a2) else (none)) else (none))) else (some (([]:List (List Int)),AK)))
def ku.T5:Bool×List (List Nat×List Nat):=(true,[([],[]),([],[]),([0,1],[0,1]),([],[]),([2,3],[2,3]),([4],[4]),([5],[5]),([],[])])
def ku.B5:List Nat:=[0,0,3,0,15,31,63,0]
theorem ku.yu:e7 .any (opsOf Try.f38 5)=ku.T5:=by kernel_rfl
theorem ku.yw:iV ku.T5.2 ku.B5=true:=by kernel_rfl
theorem ku.calls (k:Nat) (ai:Int) (aJ:Option Addr) (aI:Nat) (ag:List (List Int)) (a1:Int) (a2:Int) (r1:List (List Int)) (r2:Int) (w:World) (cG:Kd.C (Kd.slice 2 (Kd.int .i64)) w aJ ag.length ag) (cH:ag.length≤aI) (h:ku.f k ai ag a1 a2=some (r1,r2)):
    Calls aip 38 #[.agg #[.int .i64 ai, .slice aJ ag.length aI], .int .i64 a1, .int .i64 a2] w fun e w'=>∃dO:Value,e= .returned (.tuple #[dO, .int .i64 r2])∧Kd.S (Kd.slice 2 (Kd.int .i64)) 29 w' w.heap.size (fun _=>True) dO r1∧Below w.heap.size w w':=by
  have eU:=ail;have bW:=m_ cG;have cr:=m_ cH;clear cG cH;have HB:=m_ (aim w.heap.size w);have H:=h;unfold ku.f at H;clear h;obtain⟨AK,A4,H⟩:=bE H
  by_cases c5:AK=0
  · rw[aC c5]at H
    obtain⟨gZ,tB⟩:=dz c5;clear c5;obtain⟨pK,A6,H⟩:=bE H;obtain⟨c7,H⟩:=bN H;have iT:=aV c7;clear c7;obtain⟨c8,H⟩:=bN H;have lg:=aV c8;clear c8;have H':=m_ H;clear H;go_enter Try.func38,Try.ntmps38
    try go_wp2_with (first|((with_reducible refine bV (N:=3) rfl ?_);refine cC (N:=3) (cs:= #[.int .i64 ai, .slice aJ ag.length aI]) (t:=26) ?_;intro Va hg w9 aE hb;have U7:=m_ (aE);have VA:=m_ ((by rw[hg];exact(aN aT):w.heap.size≤Va));have Vy:=m_ ((by rw[hg];exact(aN aT):w.heap.size≤Va));replace HB:=m_ (aG aT hb);clear hb aE hg)|((with_reducible refine bV (N:=4) rfl ?_);refine cC (N:=4) (cs:= #[.int .i64 a1]) (t:=2) ?_;intro Vb hg iP aE hb;have U8:=m_ (aE);have VB:=m_ ((by rw[hg];exact(aN aj):w.heap.size≤Vb));have Vz:=m_ ((by rw[hg];exact(aN aj):w.heap.size≤Vb));replace HB:=m_ (aG aj hb);have Vf:=m_ ((by rw[hg];exact ais (dZ (av U7.1 af)):Va≠Vb));have Vk:=m_ Vf.1.symm;replace U7:=m_ (aW U7.1 hb);clear hb aE hg)|((with_reducible refine bV (N:=5) rfl ?_);refine cC (N:=5) (cs:= #[.int .i64 a2]) (t:=2) ?_;intro Vc hg lq aE hb;have U9:=m_ (aE);have VF:=m_ ((by rw[hg];exact(aN aj):w.heap.size≤Vc));have Vx:=m_ ((by rw[hg];exact(aN aj):w.heap.size≤Vc));replace HB:=m_ (aG aj hb);have Ve:=m_ ((by rw[hg];exact ais (dZ (av U7.1 af)):Va≠Vc));have Vh:=m_ Ve.1.symm;replace U7:=m_ (aW U7.1 hb);have Vi:=m_ ((by rw[hg];exact ais (dZ (av U8.1 af)):Vb≠Vc));have Vs:=m_ Vi.1.symm;replace U8:=m_ (aW U8.1 hb);clear hb aE hg;have xT:=Vf.1;have xU:=Vk.1;have OJ:=Ve.1;have OL:=Vh.1;have AL:=aX U7.1;have AO:=aZ U7.1;have AP:=ax U7.1 0;have AQ:=ax U7.1 1)|((with_reducible refine bu (f:=123) rfl ?_);refine bz (some 14) aiZ #[.agg #[.int .i64 ai, .slice aJ ag.length aI], .func (.func 145) #[] #[.pointer (some ⟨Vb,0,none⟩), .pointer (some ⟨Va,0,none⟩), .pointer (some ⟨Vc,0,none⟩)]] ?_;(with_reducible refine(vC.calls k ai _ _ ag Vb Va Vc a1 ai aJ aI ag a2 AK _ ?aq ?au ?bL ?bS ?gz ?sx ?Dz A4.1).mono ?_);(case aq=>exact Kd.ay (Kd.ay bW.1 HB.1) af);(case au=>exact cr.1);(case bL=>exact(av U8.1 af));(case bS=>exact(av U7.1 af));(case gz=>exact(av U9.1 af));(case sx=>exact Kd.ay (Kd.ay bW.1 HB.1) af);(case Dz=>exact cr.1);rintro e mg ⟨rfl,hb⟩;refine⟨_,rfl, ?_⟩;replace U7:=m_ (aW U7.1 hb);replace U8:=m_ (aW U8.1 hb);replace U9:=m_ (aW U9.1 hb);replace HB:=m_ (aG aj hb);clear hb))
    replace U7:=m_ (bK U7.1);replace U8:=m_ (bK U8.1);replace U9:=m_ (bK U9.1);replace HB:=m_ (fE HB.1);refine gD (n:=8) (S:=fun w'=>w'.cell? ⟨Va,0,none⟩=some (.int .i64 ai)∧w'.cell? ⟨Va,1,none⟩=some (.slice aJ ag.length aI)∧w'.cell? ⟨Vc,0,none⟩=some (.int .i64 a2)∧w'.cell? ⟨Vb,0,none⟩=some (.int .i64 a1)) (ds:=[]) #[false,false,false,false,false,false,false,false] aU rfl rfl ⟨aX U7.1,aZ U7.1,aX U9.1,aX U8.1⟩ (fun hHeld=> ?_);refine iW ku.yu ku.yw (fun dN hU=> ?_);generalize mg.drew=qP at U7 U8 U9 HB hHeld ⊢;refine bh 7 8 25 128 ?_;refine dD 0 8 18 129 hHeld ?_;refine dD 1 8 19 131 hHeld ?_;refine dD 3 8 21 139 hHeld ?_;refine fZ 2 8 (some 20) 143 (fun K hK=> ?_);refine gI Try.func146 aU rfl #[.agg #[.int .i64 ai, .slice aJ ag.length aI], .int .i64 a2] (by rfl) rfl rfl mb ?_
    with_reducible refine(eC.calls k ai _ _ ag a2 pK _ ?aq ?au A6.1).mono ?_
    (case aq=>exact Kd.ay (Kd.ay bW.1 HB.1) af);(case au=>exact cr.1);rintro e oA ⟨VK,rfl,aY,hb⟩
    skip
    refine⟨_,rfl, ?_⟩;have Vj:=m_ (Kd.gF (Kd.DA (Kd.DA aY (g:=Vb) (o:= .cells #[.int .i64 a1] 2 (0,0)) (av U8.1 af)) (g:=Vc) (o:= .cells #[.int .i64 a2] 2 (0,0)) (av U9.1 af)) (aN aj));replace U7:=m_ (aW U7.1 hb);replace U8:=m_ (aW U8.1 hb);replace U9:=m_ (aW U9.1 hb);replace HB:=m_ (aG aj hb);(try clear aY);obtain⟨UO,UQ,ID⟩:=Kd.eN Vj.1;subst ID;have Vm:0≤(a1:Int):=aD;have Vl:a1<(pK.length:Int):=aD;obtain⟨VH,Vv,Vw,VG,Vr,Vt,Vu⟩:=fH (Kd.eu Vj.1).2.2 a1 Vm Vl;cases VG;obtain⟨VN,VI,VC,Vq⟩:=Kd.nL Vj.1 [] a1 Vm (by first|exact Vl|exact aD|(have e_:=(Kd.eu Vj.1).1;omega));obtain⟨VO,rfl,Vp⟩:=VC;have Vg:=Vq 0 _ rfl;rw[aix,show((Kd.slice 2 (Kd.int .i64))).sz=1 from rfl,aiy]at Vg;replace Vg:=aii (Vg.symm.trans Vr);rw[Vg]at Vp;have VY:=m_ (show Kd.R (Kd.int .i64) 2 _ _ _ _ (aM pK a1) from Vp);clear Vg Vp;clear Vq VI;have Vd:=m_ Vu;have VR:=m_ Vt;clear Vu Vt;replace Vm:=aH Vm;replace Vl:=aH Vl;refine hK.out _ _ ⟨aX U7.1,aZ U7.1,aX U9.1,aX U8.1⟩ (fun hHeld=> ?_);clear hK K;refine fj ?_;refine aat (S':=fun w'=>w'.cell? ⟨Va,0,none⟩=some (.int .i64 ai)∧w'.cell? ⟨Va,1,none⟩=some (.slice aJ ag.length aI)∧w'.cell? ⟨Vc,0,none⟩=some (.int .i64 a2)∧w'.cell? ⟨Vb,0,none⟩=some (.int .i64 a1)∧w'.cell? (VH.add (a1).toNat)=some (.slice Vv (aM pK a1).length Vw)) (fun w' h_=>⟨h_.1,h_.2.1,h_.2.2.1,h_.2.2.2.1⟩) ⟨aX U7.1,aZ U7.1,aX U9.1,aX U8.1,Vr⟩ (fun hHeld=> ?_);refine bh 4 8 22 159 ?_;refine dD 5 8 23 191 hHeld ?_;refine bh 6 8 24 255 ?_;refine gE (iX dN.1 aU) ?_
    try go_wp2
    go_loopg [9,25] k (fun kq v9 CN w'=>∃(gq:Int) (gG:Int),v9= .int .i64 gq∧CN= .int .i64 gG∧ak (ku.l0 kq gq (aM pK a1) ((aM pK a1).length:Int) gG ai ag a1 a2=some (r1,r2))∧ak (kq≤k)∧ak (w'.heap[Va]? =some (.cells #[.int .i64 ai,(.slice aJ ag.length aI)] 26 (0,0)))∧ak (w'.heap[Vb]? =some (.cells #[.int .i64 a1] 2 (0,0)))∧ak (w'.heap[Vc]? =some (.cells #[.int .i64 a2] 2 (0,0)))∧ak (Kd.C (Kd.int .i64) w' Vv (aM pK a1).length (aM pK a1))∧ak (Below w.heap.size w w'))
    case atStart=>exact⟨(0),(0),bA,bA,H',⟨ahp _⟩,⟨av U7.1 af⟩,⟨av U8.1 af⟩,⟨av U9.1 af⟩,⟨by repeat (first|(with_reducible exact Vd.1)|(with_reducible refine Kd.iY ?_ _)|(with_reducible refine Kd.iZ ?_ _)|(with_reducible refine Kd.ja ?_)|exact Vd.1)⟩,⟨aj⟩⟩
    case round=>
      clear H';obtain⟨gq,gG,rfl,rfl,HA,bP,U7,U8,U9,Vd,HB⟩:=hrel;cases gk with
      | zero=>exact absurd HA.1 (by simp[ku.l0])
      | succ k1=>
        have H:=HA.1;clear HA;simp only[ku.l0]at H
        by_cases c19:gG<((aM pK a1).length:Int)
        · rw[aC c19]at H
          have rz:=aV c19;clear c19;obtain⟨iU,H⟩:=bN H;have uN:=aV iU;clear iU;obtain⟨lO,H⟩:=bN H;have wm:=aV lO;clear lO;have H':=m_ H;clear H;have Vn:0≤(gG:Int):=aD;have Vo:gG<((aM pK a1).length:Int):=aD;obtain⟨VV,VE,VX⟩:=Kd.dA Vd.1 gG Vn Vo;cases VE;replace Vn:=aH Vn;replace Vo:=aH Vo;go_wp2;go_roundg k1
          case measure=>have:=bP.1;omega
          case rel=>exact⟨(wrap64 (gq+(rd (aM pK a1) gG))),(wrap64 (gG+1)),bA,bA,H',⟨by have:=bP.1;omega⟩,⟨av U7.1 af⟩,⟨av U8.1 af⟩,⟨av U9.1 af⟩,⟨by repeat (first|(with_reducible exact Vd.1)|(with_reducible refine Kd.iY ?_ _)|(with_reducible refine Kd.iZ ?_ _)|(with_reducible refine Kd.ja ?_)|exact Vd.1)⟩,⟨aj⟩⟩
        · rw[aA c19]at H
          have rz:=cz c19;clear c19
          by_cases jc:gq>400
          · rw[aC jc]at H
            have pG:=aV jc;clear jc;simp only[ain,aio]at H;obtain⟨rfl,rfl⟩:=H;go_wp2
            go_ret2
            exact⟨_,cB,by first|exact Kd.om _ _ _ _ _ |exact Kd.n8 _ _ _ _ _ |exact Kd.n9 _ _ _ _ _ |exact Kd.oh _ _ _ _ _ |exact Kd.lM _ _ _ _ _,aj⟩
          · rw[aA jc]at H
            have pG:=cz jc;clear jc;obtain⟨JV,wI,H⟩:=bE H;simp only[ain,aio]at H;obtain⟨rfl,rfl⟩:=H;have aau:=Vf.1;have aav:=Vk.1;have aaw:=Ve.1;have aax:=Vh.1;have aay:=aX U7.1;have aaz:=aZ U7.1;have aaA:=ax U7.1 0;have aaB:=ax U7.1 1;have aaC:=Vs.1;have aaD:=Vi.1;have aaE:=aX U9.1;have aaF:=ax U9.1 0;go_wp2_with (first|((with_reducible refine bu (f:=147) rfl ?_);refine bz (some 38) Try.func147 #[.agg #[.int .i64 ai, .slice aJ ag.length aI], .int .i64 a2, .func (.func 148) #[] #[.pointer (some ⟨Va,0,none⟩), .pointer (some ⟨Vb,0,none⟩)], .func (.func 149) #[] #[]] ?_;(with_reducible refine(dF.calls ai _ _ ag a2 Va Vb ai aJ aI ag a1  JV _ ?aq ?au ?bL ?bS ?gz ?sx wI.1).mono ?_);(case aq=>exact Kd.ay (Kd.ay bW.1 HB.1) af);(case au=>exact cr.1);(case bL=>exact(av U7.1 af));(case bS=>exact(av U8.1 af));(case gz=>exact Kd.ay (Kd.ay bW.1 HB.1) af);(case sx=>exact cr.1);rintro e NY ⟨VP,rfl,aY,hb⟩;refine⟨_,rfl, ?_⟩;have VD:=m_ (Kd.gF (Kd.DA (Kd.DA aY (g:=Vb) (o:= .cells #[.int .i64 a1] 2 (0,0)) (av U8.1 af)) (g:=Vc) (o:= .cells #[.int .i64 a2] 2 (0,0)) (av U9.1 af)) (aN aj));replace U7:=m_ (aW U7.1 hb);replace U8:=m_ (aW U8.1 hb);replace U9:=m_ (aW U9.1 hb);replace Vd:=m_ (Kd.ay (by repeat (first|(with_reducible exact Vd.1)|(with_reducible refine Kd.iY ?_ _)|(with_reducible refine Kd.iZ ?_ _)|(with_reducible refine Kd.ja ?_)|exact Vd.1)) hb);replace HB:=m_ (aG aj hb);clear hb;(try clear aY)))
            go_ret2
            exact⟨_,cB,by(with_reducible repeat (first|apply Kd.eV|apply Kd.eS|apply Kd.ee));exact Kd.cZ VD.1 (fun _ hk=>trivial),aj⟩
  · rw[aA c5]at H
    obtain⟨gZ,tB⟩:=dL c5;simp only[ain,aio]at H;obtain⟨rfl,rfl⟩:=H;go_enter Try.func38,Try.ntmps38;go_wp2_with (first|((with_reducible refine bV (N:=3) rfl ?_);refine cC (N:=3) (cs:= #[.int .i64 ai, .slice aJ ag.length aI]) (t:=26) ?_;intro Va hg JW aE hb;have U7:=m_ (aE);have VA:=m_ ((by rw[hg];exact(aN aT):w.heap.size≤Va));have Vy:=m_ ((by rw[hg];exact(aN aT):w.heap.size≤Va));replace HB:=m_ (aG aT hb);clear hb aE hg)|((with_reducible refine bV (N:=4) rfl ?_);refine cC (N:=4) (cs:= #[.int .i64 a1]) (t:=2) ?_;intro Vb hg Fg aE hb;have U8:=m_ (aE);have VB:=m_ ((by rw[hg];exact(aN aj):w.heap.size≤Vb));have Vz:=m_ ((by rw[hg];exact(aN aj):w.heap.size≤Vb));replace HB:=m_ (aG aj hb);have Vf:=m_ ((by rw[hg];exact ais (dZ (av U7.1 af)):Va≠Vb));have Vk:=m_ Vf.1.symm;replace U7:=m_ (aW U7.1 hb);clear hb aE hg)|((with_reducible refine bV (N:=5) rfl ?_);refine cC (N:=5) (cs:= #[.int .i64 a2]) (t:=2) ?_;intro Vc hg yy aE hb;have U9:=m_ (aE);have VF:=m_ ((by rw[hg];exact(aN aj):w.heap.size≤Vc));have Vx:=m_ ((by rw[hg];exact(aN aj):w.heap.size≤Vc));replace HB:=m_ (aG aj hb);have Ve:=m_ ((by rw[hg];exact ais (dZ (av U7.1 af)):Va≠Vc));have Vh:=m_ Ve.1.symm;replace U7:=m_ (aW U7.1 hb);have Vi:=m_ ((by rw[hg];exact ais (dZ (av U8.1 af)):Vb≠Vc));have Vs:=m_ Vi.1.symm;replace U8:=m_ (aW U8.1 hb);clear hb aE hg;have VJ:=Vf.1;have VW:=Vk.1;have VU:=Ve.1;have VT:=Vh.1;have VQ:=aX U7.1;have VM:=aZ U7.1;have VL:=ax U7.1 0;have VS:=ax U7.1 1)|((with_reducible refine bu (f:=123) rfl ?_);refine bz (some 14) aiZ #[.agg #[.int .i64 ai, .slice aJ ag.length aI], .func (.func 145) #[] #[.pointer (some ⟨Vb,0,none⟩), .pointer (some ⟨Va,0,none⟩), .pointer (some ⟨Vc,0,none⟩)]] ?_;(with_reducible refine(vC.calls k ai _ _ ag Vb Va Vc a1 ai aJ aI ag a2 AK _ ?aq ?au ?bL ?bS ?gz ?sx ?Dz A4.1).mono ?_);(case aq=>exact Kd.ay (Kd.ay bW.1 HB.1) af);(case au=>exact cr.1);(case bL=>exact(av U8.1 af));(case bS=>exact(av U7.1 af));(case gz=>exact(av U9.1 af));(case sx=>exact Kd.ay (Kd.ay bW.1 HB.1) af);(case Dz=>exact cr.1);rintro e Oz ⟨rfl,hb⟩;refine⟨_,rfl, ?_⟩;replace U7:=m_ (aW U7.1 hb);replace U8:=m_ (aW U8.1 hb);replace U9:=m_ (aW U9.1 hb);replace HB:=m_ (aG aj hb);clear hb))
    go_ret2
    exact⟨_,cB,by first|exact Kd.om _ _ _ _ _ |exact Kd.n8 _ _ _ _ _ |exact Kd.n9 _ _ _ _ _ |exact Kd.oh _ _ _ _ _ |exact Kd.lM _ _ _ _ _,aj⟩

def sJ.f (k:Nat) (ai:Int) (ag:List (List Int)) (a1:Int) (a2:Int):Option (Int):=(fC.f k ai ag).bind fun JX=>(if JX=true then ((kX.f a1 a2 12).bind fun JY=>(if JY=true then (some 0) else (some 2))) else (some 1))
theorem sJ.calls (k:Nat) (ai:Int) (aJ:Option Addr) (aI:Nat) (ag:List (List Int)) (a1:Int) (a2:Int) (r:Int) (w:World) (cG:Kd.C (Kd.slice 2 (Kd.int .i64)) w aJ ag.length ag) (cH:ag.length≤aI) (h:sJ.f k ai ag a1 a2=some r):
    Calls aip 118 #[.agg #[.int .i64 ai, .slice aJ ag.length aI], .int .i64 a1, .int .i64 a2] w fun e w'=>e= .returned (.int .i64 r)∧Below w.heap.size w w':=by
  have eU:=ail;have bW:=m_ cG;have cr:=m_ cH;clear cG cH;have HB:=m_ (aim w.heap.size w);have H:=h;unfold sJ.f at H;clear h;obtain⟨JX,A4,H⟩:=bE H
  by_cases c5:JX=true
  · subst c5
    rw[aC rfl]at H;obtain⟨JY,A6,H⟩:=bE H
    by_cases c7:JY=true
    · subst c7
      rw[aC rfl]at H;obtain rfl:=aii H;go_enter ai3,Try.ntmps118;go_wp2_with (first|((with_reducible refine bV (N:=3) rfl ?_);refine cC (N:=3) (cs:= #[.int .i64 ai, .slice aJ ag.length aI]) (t:=26) ?_;intro U8 hg w8 aE hb;have U7:=m_ (aE);have U9:=m_ ((by rw[hg];exact(aN aT):w.heap.size≤U8));have Va:=m_ ((by rw[hg];exact(aN aT):w.heap.size≤U8));replace HB:=m_ (aG aT hb);clear hb aE hg;have oo:=aX U7.1;have o5:=aZ U7.1;have o6:=ax U7.1 0;have o7:=ax U7.1 1)|((with_reducible refine bu (f:=137) rfl ?_);refine bz (some 9) Try.func137 #[.agg #[.int .i64 ai, .slice aJ ag.length aI]] ?_;(with_reducible refine(fC.calls k ai _ _ ag true _ ?aq ?au A4.1).mono ?_);(case aq=>exact Kd.ay (Kd.ay bW.1 HB.1) af);(case au=>exact cr.1);rintro e iP ⟨rfl,hb⟩;refine⟨_,rfl, ?_⟩;replace U7:=m_ (aW U7.1 hb);replace HB:=m_ (aG aj hb);clear hb)|((with_reducible refine bu (f:=150) rfl ?_);refine bz (some 14) Try.func150 #[.int .i64 a1, .int .i64 a2, .int .i64 12] ?_;(with_reducible refine(kX.calls a1 a2 12 true _ A6.1).mono ?_);rintro e w' ⟨rfl,⟨nd,rfl⟩⟩;refine⟨_,rfl, ?_⟩));go_ret;exact⟨cB,aj⟩
    · replace c7:=aiq.mpr c7
      subst c7;rw[aA (show ¬(false=true) by decide)]at H;obtain rfl:=aii H;go_enter ai3,Try.ntmps118;go_wp2_with (first|((with_reducible refine bV (N:=3) rfl ?_);refine cC (N:=3) (cs:= #[.int .i64 ai, .slice aJ ag.length aI]) (t:=26) ?_;intro U8 hg lq aE hb;have U7:=m_ (aE);have U9:=m_ ((by rw[hg];exact(aN aT):w.heap.size≤U8));have Va:=m_ ((by rw[hg];exact(aN aT):w.heap.size≤U8));replace HB:=m_ (aG aT hb);clear hb aE hg;have ux:=aX U7.1;have vQ:=aZ U7.1;have uy:=ax U7.1 0;have vR:=ax U7.1 1)|((with_reducible refine bu (f:=137) rfl ?_);refine bz (some 9) Try.func137 #[.agg #[.int .i64 ai, .slice aJ ag.length aI]] ?_;(with_reducible refine(fC.calls k ai _ _ ag true _ ?aq ?au A4.1).mono ?_);(case aq=>exact Kd.ay (Kd.ay bW.1 HB.1) af);(case au=>exact cr.1);rintro e mG ⟨rfl,hb⟩;refine⟨_,rfl, ?_⟩;replace U7:=m_ (aW U7.1 hb);replace HB:=m_ (aG aj hb);clear hb)|((with_reducible refine bu (f:=150) rfl ?_);refine bz (some 14) Try.func150 #[.int .i64 a1, .int .i64 a2, .int .i64 12] ?_;(with_reducible refine(kX.calls a1 a2 12 false _ A6.1).mono ?_);rintro e w' ⟨rfl,⟨nd,rfl⟩⟩;refine⟨_,rfl, ?_⟩));go_ret;exact⟨cB,aj⟩
  · replace c5:=aiq.mpr c5
    subst c5;rw[aA (show ¬(false=true) by decide)]at H;obtain rfl:=aii H;go_enter ai3,Try.ntmps118;go_wp2_with (first|((with_reducible refine bV (N:=3) rfl ?_);refine cC (N:=3) (cs:= #[.int .i64 ai, .slice aJ ag.length aI]) (t:=26) ?_;intro U8 hg qu aE hb;have U7:=m_ (aE);have U9:=m_ ((by rw[hg];exact(aN aT):w.heap.size≤U8));have Va:=m_ ((by rw[hg];exact(aN aT):w.heap.size≤U8));replace HB:=m_ (aG aT hb);clear hb aE hg;have zT:=aX U7.1;have zU:=aZ U7.1;have zV:=ax U7.1 0;have zW:=ax U7.1 1)|((with_reducible refine bu (f:=137) rfl ?_);refine bz (some 9) Try.func137 #[.agg #[.int .i64 ai, .slice aJ ag.length aI]] ?_;(with_reducible refine(fC.calls k ai _ _ ag false _ ?aq ?au A4.1).mono ?_);(case aq=>exact Kd.ay (Kd.ay bW.1 HB.1) af);(case au=>exact cr.1);rintro e qP ⟨rfl,hb⟩;refine⟨_,rfl, ?_⟩;replace U7:=m_ (aW U7.1 hb);replace HB:=m_ (aG aj hb);clear hb));go_ret;exact⟨cB,aj⟩

def kE.f (ai:Int) (ag:List (List Int)) (a1:Int):Option (Int×Int):=if 0≤(wrap64 (aiU a1 2)) then (if (wrap64 (aiU a1 2))<(ag.length:Int) then (if (Int.tmod a1 2)=1 then (if 1<((aM ag (wrap64 (aiU a1 2))).length:Int) then (if 0<((aM ag (wrap64 (aiU a1 2))).length:Int) then (some (rd (aM ag (wrap64 (aiU a1 2))) 1,rd (aM ag (wrap64 (aiU a1 2))) 0)) else (none)) else (none)) else (if 0<((aM ag (wrap64 (aiU a1 2))).length:Int) then (if 1<((aM ag (wrap64 (aiU a1 2))).length:Int) then (some (rd (aM ag (wrap64 (aiU a1 2))) 0,rd (aM ag (wrap64 (aiU a1 2))) 1)) else (none)) else (none))) else (none)) else (none)
theorem kE.calls (ai:Int) (aJ:Option Addr) (aI:Nat) (ag:List (List Int)) (a1:Int) (r1:Int) (r2:Int) (w:World) (cG:Kd.C (Kd.slice 2 (Kd.int .i64)) w aJ ag.length ag) (cH:ag.length≤aI) (h:kE.f ai ag a1=some (r1,r2)):
    Calls aip 152 #[.agg #[.int .i64 ai, .slice aJ ag.length aI], .int .i64 a1] w fun e w'=>e= .returned (.tuple #[.int .i64 r1, .int .i64 r2])∧Below w.heap.size w w':=by
  have eU:=ail;have bW:=m_ cG;have cr:=m_ cH;clear cG cH;have HB:=m_ (aim w.heap.size w);have H:=h;unfold kE.f at H;clear h;obtain⟨eD,mF⟩: ∃j_:Int,(wrap64 (aiU a1 2))=j_:=⟨_,rfl⟩;(try rw[mF]);replace H:(if 0≤(eD) then (if (eD)<(ag.length:Int) then (if (Int.tmod a1 2)=1 then (if 1<((aM ag (eD)).length:Int) then (if 0<((aM ag (eD)).length:Int) then (some (rd (aM ag (eD)) 1,rd (aM ag (eD)) 0)) else (none)) else (none)) else (if 0<((aM ag (eD)).length:Int) then (if 1<((aM ag (eD)).length:Int) then (some (rd (aM ag (eD)) 0,rd (aM ag (eD)) 1)) else (none)) else (none))) else (none)) else (none))=some (r1,r2):=by first|(rw[mF]at H;exact H)|(simp only[mF]at H ⊢;exact H)
  have NF:(aiS.wrap (aiU a1 2))=eD:=(ez _).trans mF
  by_cases c4:0≤(eD)
  · rw[aC c4]at H
    have dW:=aV c4;clear c4;obtain⟨c5,H⟩:=bN H;have gZ:=aV c5;clear c5
    by_cases c6:(Int.tmod a1 2)=1
    · rw[aC c6]at H
      obtain⟨iO,oZ⟩:=dz c6;clear c6;obtain⟨c7,H⟩:=bN H;have iT:=aV c7;have sw:decide (1<(aM ag (eD)).length)=true:=aV aa;clear c7;obtain⟨c8,H⟩:=bN H;have lg:=aV c8;have sN:decide (0<(aM ag (eD)).length)=true:=aV aa;clear c8;simp only[ain,aio]at H;obtain⟨rfl,rfl⟩:=H;go_enter aiV,Try.ntmps152;go_wp2_with (first|((with_reducible refine bV (N:=2) rfl ?_);refine cC (N:=2) (cs:= #[.int .i64 ai, .slice aJ ag.length aI]) (t:=26) ?_;intro Ve hg w9 aE hb;have U7:=m_ (aE);have Vz:=m_ ((by rw[hg];exact(aN aT):w.heap.size≤Ve));have Vu:=m_ ((by rw[hg];exact(aN aT):w.heap.size≤Ve));replace HB:=m_ (aG aT hb);clear hb aE hg;have qM:=aX U7.1;have rR:=aZ U7.1;have qN:=ax U7.1 0;have rS:=ax U7.1 1;have U9:0≤((eD):Int):=aD;have U8:(eD)<(ag.length:Int):=aD;obtain⟨Vt,Vw,Vv,Vp,Va,Vf,Vb⟩:=fH bW.1 (eD) U9 U8;cases Vp;replace Va:=(HB.1.cell (air w _ Va)).trans Va;have Vg:=m_ Vb;have VD:=m_ Vf;clear Vb Vf;replace U9:=aH U9;replace U8:=aH U8;have Vj:0≤(1:Int):=aa;have Vk:1<((aM ag (eD)).length:Int):=aD;obtain⟨VA,VC,Vi⟩:=Kd.dA Vg.1 1 Vj Vk;cases VC;(try simp only[show(1:Int).toNat=1 from rfl,Nat.reduceMul,Nat.reduceEqDiff,Go.Addr.add,↓reduceIte]at Vi);have VI:(1<(aM ag (eD)).length)=True:=aH aa;(try rw[show((1:Int)).toNat=1 from rfl]at Vi);replace Vi:=(HB.1.cell (air w _ Vi)).trans Vi;replace Vj:=aH Vj;replace Vk:=aH Vk;have Vr:0≤(0:Int):=aa;have Vl:0<((aM ag (eD)).length:Int):=aD;obtain⟨Vs,Vy,Vd⟩:=Kd.dA Vg.1 0 Vr Vl;obtain rfl:VA=Vs:=(by injection Vy);have VH:(0<(aM ag (eD)).length)=True:=aH aa;(try rw[show((0:Int)).toNat=0 from rfl]at Vd);(try rw[Addr.add_zero']at Vd);replace Vd:=(HB.1.cell (air w _ Vd)).trans Vd;replace Vr:=aH Vr;replace Vl:=aH Vl))
      repeat (go_quiet (fail);try go_wp2)
      go_ret2
      exact⟨by first|rfl|(simp[js,jt]<;>rfl)|(simp only[← mF];first|rfl|(simp[js,jt]<;>rfl))|(simp[*,js,jt]<;>rfl),aj⟩
    · rw[aA c6]at H
      obtain⟨iO,oZ⟩:=dL c6;obtain⟨c11,H⟩:=bN H;have lN:=aV c11;have uC:decide (0<(aM ag (eD)).length)=true:=aV aa;clear c11;obtain⟨c12,H⟩:=bN H;have qp:=aV c12;have E1:decide (1<(aM ag (eD)).length)=true:=aV aa;clear c12;simp only[ain,aio]at H;obtain⟨rfl,rfl⟩:=H;go_enter aiV,Try.ntmps152;go_wp2_with (first|((with_reducible refine bV (N:=2) rfl ?_);refine cC (N:=2) (cs:= #[.int .i64 ai, .slice aJ ag.length aI]) (t:=26) ?_;intro Ve hg mG aE hb;have U7:=m_ (aE);have Vz:=m_ ((by rw[hg];exact(aN aT):w.heap.size≤Ve));have Vu:=m_ ((by rw[hg];exact(aN aT):w.heap.size≤Ve));replace HB:=m_ (aG aT hb);clear hb aE hg;have AL:=aX U7.1;have AO:=aZ U7.1;have AP:=ax U7.1 0;have AQ:=ax U7.1 1;have U9:0≤((eD):Int):=aD;have U8:(eD)<(ag.length:Int):=aD;obtain⟨Vt,Vw,Vv,Vp,Va,Vf,Vb⟩:=fH bW.1 (eD) U9 U8;cases Vp;replace Va:=(HB.1.cell (air w _ Va)).trans Va;have Vg:=m_ Vb;have VD:=m_ Vf;clear Vb Vf;replace U9:=aH U9;replace U8:=aH U8;have Vm:0≤(0:Int):=aa;have Vo:0<((aM ag (eD)).length:Int):=aD;obtain⟨VF,Vx,Vc⟩:=Kd.dA Vg.1 0 Vm Vo;cases Vx;have VJ:(0<(aM ag (eD)).length)=True:=aH aa;(try rw[show((0:Int)).toNat=0 from rfl]at Vc);(try rw[Addr.add_zero']at Vc);replace Vc:=(HB.1.cell (air w _ Vc)).trans Vc;replace Vm:=aH Vm;replace Vo:=aH Vo;have Vn:0≤(1:Int):=aa;have Vq:1<((aM ag (eD)).length:Int):=aD;obtain⟨VE,VB,Vh⟩:=Kd.dA Vg.1 1 Vn Vq;obtain rfl:VF=VE:=(by injection VB);(try simp only[show(1:Int).toNat=1 from rfl,Nat.reduceMul,Nat.reduceEqDiff,Go.Addr.add,↓reduceIte]at Vh);have VG:(1<(aM ag (eD)).length)=True:=aH aa;(try rw[show((1:Int)).toNat=1 from rfl]at Vh);replace Vh:=(HB.1.cell (air w _ Vh)).trans Vh;replace Vn:=aH Vn;replace Vq:=aH Vq))
      repeat (go_quiet (fail);try go_wp2)
      go_ret2
      exact⟨by first|rfl|(simp[js,jt]<;>rfl)|(simp only[← mF];first|rfl|(simp[js,jt]<;>rfl))|(simp[*,js,jt]<;>rfl),aj⟩
  · rw[aA c4]at H
    exact absurd H bJ

def jg.f (ai:Int) (ag:List (List Int)) (a1:Int) (a2:Int):Option (Bool):=(kE.f ai ag a1).bind fun U7=>((kE.f ai ag a2).bind fun U8=>(if U7.2=U8.1 then (if (wrap64 (aiU a1 2))=(wrap64 (aiU a2 2)) then (some (a1 == a2)) else (some true)) else (some false)))
theorem jg.calls (ai:Int) (aJ:Option Addr) (aI:Nat) (ag:List (List Int)) (a1:Int) (a2:Int) (r:Bool) (w:World) (cG:Kd.C (Kd.slice 2 (Kd.int .i64)) w aJ ag.length ag) (cH:ag.length≤aI) (h:jg.f ai ag a1 a2=some r):
    Calls aip 215 #[.agg #[.int .i64 ai, .slice aJ ag.length aI], .int .i64 a1, .int .i64 a2] w fun e w'=>e= .returned (.bool r)∧Below w.heap.size w w':=by
  have eU:=ail;have bW:=m_ cG;have cr:=m_ cH;clear cG cH;have HB:=m_ (aim w.heap.size w);have H:=h;unfold jg.f at H;clear h;obtain⟨⟨Vb,U9⟩,A4,H⟩:=bE H;dsimp only at H;obtain⟨⟨Va,Vc⟩,A5,H⟩:=bE H;dsimp only at H
  by_cases c6:U9=Va
  · rw[aC c6]at H
    obtain⟨iO,oZ⟩:=dz c6;clear c6
    by_cases c7:(wrap64 (aiU a1 2))=(wrap64 (aiU a2 2))
    · rw[aC c7]at H
      obtain⟨iT,sw⟩:=dz c7;clear c7;obtain rfl:=aii H;go_enter ai1,Try.ntmps215;go_wp2_with (first|((with_reducible refine bV (N:=3) rfl ?_);refine cC (N:=3) (cs:= #[.int .i64 ai, .slice aJ ag.length aI]) (t:=26) ?_;intro U8 hg w8 aE hb;have U7:=m_ (aE);have Ve:=m_ ((by rw[hg];exact(aN aT):w.heap.size≤U8));have Vd:=m_ ((by rw[hg];exact(aN aT):w.heap.size≤U8));replace HB:=m_ (aG aT hb);clear hb aE hg;have oo:=aX U7.1;have o5:=aZ U7.1;have o6:=ax U7.1 0;have o7:=ax U7.1 1)|((with_reducible refine bu (f:=152) rfl ?_);refine bz (some 14) aiV #[.agg #[.int .i64 ai, .slice aJ ag.length aI], .int .i64 a1] ?_;(with_reducible refine(kE.calls ai _ _ ag a1 Vb U9 _ ?aq ?au A4.1).mono ?_);(case aq=>exact Kd.ay (Kd.ay bW.1 HB.1) af);(case au=>exact cr.1);rintro e iP ⟨rfl,hb⟩;refine⟨_,rfl, ?_⟩;replace U7:=m_ (aW U7.1 hb);replace HB:=m_ (aG aj hb);clear hb;have wD:=aX U7.1;have wE:=aZ U7.1;have wF:=ax U7.1 0;have wG:=ax U7.1 1)|((with_reducible refine bu (f:=152) rfl ?_);refine bz (some 20) aiV #[.agg #[.int .i64 ai, .slice aJ ag.length aI], .int .i64 a2] ?_;(with_reducible refine(kE.calls ai _ _ ag a2 Va Vc _ ?aq ?au A5.1).mono ?_);(case aq=>exact Kd.ay (Kd.ay bW.1 HB.1) af);(case au=>exact cr.1);rintro e nG ⟨rfl,hb⟩;refine⟨_,rfl, ?_⟩;replace U7:=m_ (aW U7.1 hb);replace HB:=m_ (aG aj hb);clear hb));go_ret;exact⟨cB,aj⟩
    · rw[aA c7]at H
      obtain⟨iT,sw⟩:=dL c7;obtain rfl:=aii H;go_enter ai1,Try.ntmps215;go_wp2_with (first|((with_reducible refine bV (N:=3) rfl ?_);refine cC (N:=3) (cs:= #[.int .i64 ai, .slice aJ ag.length aI]) (t:=26) ?_;intro U8 hg mG aE hb;have U7:=m_ (aE);have Ve:=m_ ((by rw[hg];exact(aN aT):w.heap.size≤U8));have Vd:=m_ ((by rw[hg];exact(aN aT):w.heap.size≤U8));replace HB:=m_ (aG aT hb);clear hb aE hg;have AL:=aX U7.1;have AO:=aZ U7.1;have AP:=ax U7.1 0;have AQ:=ax U7.1 1)|((with_reducible refine bu (f:=152) rfl ?_);refine bz (some 14) aiV #[.agg #[.int .i64 ai, .slice aJ ag.length aI], .int .i64 a1] ?_;(with_reducible refine(kE.calls ai _ _ ag a1 Vb U9 _ ?aq ?au A4.1).mono ?_);(case aq=>exact Kd.ay (Kd.ay bW.1 HB.1) af);(case au=>exact cr.1);rintro e mg ⟨rfl,hb⟩;refine⟨_,rfl, ?_⟩;replace U7:=m_ (aW U7.1 hb);replace HB:=m_ (aG aj hb);clear hb;have DB:=aX U7.1;have DC:=aZ U7.1;have DD:=ax U7.1 0;have DE:=ax U7.1 1)|((with_reducible refine bu (f:=152) rfl ?_);refine bz (some 20) aiV #[.agg #[.int .i64 ai, .slice aJ ag.length aI], .int .i64 a2] ?_;(with_reducible refine(kE.calls ai _ _ ag a2 Va Vc _ ?aq ?au A5.1).mono ?_);(case aq=>exact Kd.ay (Kd.ay bW.1 HB.1) af);(case au=>exact cr.1);rintro e oA ⟨rfl,hb⟩;refine⟨_,rfl, ?_⟩;replace U7:=m_ (aW U7.1 hb);replace HB:=m_ (aG aj hb);clear hb));go_ret;exact⟨cB,aj⟩
  · rw[aA c6]at H
    obtain⟨iO,oZ⟩:=dL c6;obtain rfl:=aii H;go_enter ai1,Try.ntmps215;go_wp2_with (first|((with_reducible refine bV (N:=3) rfl ?_);refine cC (N:=3) (cs:= #[.int .i64 ai, .slice aJ ag.length aI]) (t:=26) ?_;intro U8 hg pS aE hb;have U7:=m_ (aE);have Ve:=m_ ((by rw[hg];exact(aN aT):w.heap.size≤U8));have Vd:=m_ ((by rw[hg];exact(aN aT):w.heap.size≤U8));replace HB:=m_ (aG aT hb);clear hb aE hg;have uH:=aX U7.1;have uI:=aZ U7.1;have uJ:=ax U7.1 0;have uK:=ax U7.1 1)|((with_reducible refine bu (f:=152) rfl ?_);refine bz (some 14) aiV #[.agg #[.int .i64 ai, .slice aJ ag.length aI], .int .i64 a1] ?_;(with_reducible refine(kE.calls ai _ _ ag a1 Vb U9 _ ?aq ?au A4.1).mono ?_);(case aq=>exact Kd.ay (Kd.ay bW.1 HB.1) af);(case au=>exact cr.1);rintro e pV ⟨rfl,hb⟩;refine⟨_,rfl, ?_⟩;replace U7:=m_ (aW U7.1 hb);replace HB:=m_ (aG aj hb);clear hb;have H7:=aX U7.1;have H8:=aZ U7.1;have H9:=ax U7.1 0;have Ia:=ax U7.1 1)|((with_reducible refine bu (f:=152) rfl ?_);refine bz (some 20) aiV #[.agg #[.int .i64 ai, .slice aJ ag.length aI], .int .i64 a2] ?_;(with_reducible refine(kE.calls ai _ _ ag a2 Va Vc _ ?aq ?au A5.1).mono ?_);(case aq=>exact Kd.ay (Kd.ay bW.1 HB.1) af);(case au=>exact cr.1);rintro e oq ⟨rfl,hb⟩;refine⟨_,rfl, ?_⟩;replace U7:=m_ (aW U7.1 hb);replace HB:=m_ (aG aj hb);clear hb));go_ret;exact⟨cB,aj⟩

mutual
def dK.l0:Nat→Int→Int→List (List Int)→Int→Int→List (List Int)→Option ((List (List Int)))
  | 0,_,_,_,_,_,_=>none
  | k+1,x1,x5,x6,x7,pL,pM=>if x7<x5 then (if 0≤x5 then (if (x5:Int).toNat≤35184372088832 then ((some (ahl (x5:Int).toNat 0:List Int)).bind fun pN=>(if 0≤x7 then (if x7<(pN.length:Int) then (dK.l1 k x1 x5 x6 x7 (pN.set (x7:Int).toNat 1) 1 pL pM) else (none)) else (none))) else (none)) else (none)) else (some x6)
def dK.l1:Nat→Int→Int→List (List Int)→Int→List Int→Int→Int→List (List Int)→Option ((List (List Int)))
  | 0,_,_,_,_,_,_,_,_=>none
  | k+1,x1,x5,x6,x7,x8,x9,pL,pM=>if x9<x1 then (if 0≤x5 then (if (x5:Int).toNat≤35184372088832 then (dK.l2 k x1 x5 x6 x7 x8 x9 (ahl (x5:Int).toNat 0) 0 pL pM) else (none)) else (none)) else (if x6.length<5864062014805 then (dK.l0 k x1 x5 (x6++[x8]) (wrap64 (x7+1)) pL pM) else (none))
def dK.l2:Nat→Int→Int→List (List Int)→Int→List Int→Int→List Int→Int→Int→List (List Int)→Option ((List (List Int)))
  | 0,_,_,_,_,_,_,_,_,_,_=>none
  | k+1,x1,x5,x6,x7,x8,x9,eB,dM,pL,pM=>if dM<x5 then (dK.l3 k x1 x5 x6 x7 x8 x9 eB dM 0 pL pM) else (dK.l1 k x1 x5 x6 x7 eB (wrap64 (x9+1)) pL pM)
def dK.l3:Nat→Int→Int→List (List Int)→Int→List Int→Int→List Int→Int→Int→Int→List (List Int)→Option ((List (List Int)))
  | 0,_,_,_,_,_,_,_,_,_,_,_=>none
  | k+1,x1,x5,x6,x7,x8,x9,eB,dM,fR,pL,pM=>if fR<x5 then (if 0≤dM then (if dM<(x8.length:Int) then (dK.j4 k x1 x5 x6 x7 x8 x9 eB dM fR (decide ((rd x8 dM)>0)) pL pM) else (none)) else (none)) else (dK.j4 k x1 x5 x6 x7 x8 x9 eB dM fR false pL pM)
def dK.j4:Nat→Int→Int→List (List Int)→Int→List Int→Int→List Int→Int→Int→Bool→Int→List (List Int)→Option ((List (List Int)))
  | 0,_,_,_,_,_,_,_,_,_,_,_,_=>none
  | k+1,x1,x5,x6,x7,x8,x9,eB,dM,fR,U7,pL,pM=>if U7=true then ((jg.f pL pM dM fR).bind fun JZ=>(if JZ=true then (if 0≤fR then (if fR<(eB.length:Int) then (if 0≤dM then (if dM<(x8.length:Int) then (dK.l3 k x1 x5 x6 x7 x8 x9 (eB.set (fR:Int).toNat (wrap64 ((rd eB fR)+(rd x8 dM)))) dM (wrap64 (fR+1)) pL pM) else (none)) else (none)) else (none)) else (none)) else (dK.l3 k x1 x5 x6 x7 x8 x9 eB dM (wrap64 (fR+1)) pL pM))) else (dK.l2 k x1 x5 x6 x7 x8 x9 eB (wrap64 (dM+1)) pL pM)
end
def dK.f (k:Nat) (ai:Int) (ag:List (List Int)) (a1:Int):Option ((List (List Int))):=dK.l0 k a1 (wrap64 (2*(ag.length:Int))) (([]:List (List Int))) 0 ai ag
def dK.OM:Bool×List (List Nat×List Nat):=(true,[([],[]),([],[]),([],[]),([],[]),([2,3],[2,3]),([4],[4]),([],[]),([],[]),([6,7],[6,7]),([8],[8]),([5,9],[5,9]),([0,1,0,1,2,3,4,5,6,7,8,9,10],[0,1]),([11,10,0,1,2,3,4,5,6,7,8,9,10],[10,11])])
def dK.B19:List Nat:=[0,0,0,0,12,28,0,0,192,448,1020,2047,4095]
theorem dK.aaG:e7 .any (opsOf Try.f151 19)=dK.OM:=by kernel_rfl
theorem dK.aaH:iV dK.OM.2 dK.B19=true:=by kernel_rfl
theorem dK.calls (k:Nat) (ai:Int) (aJ:Option Addr) (aI:Nat) (ag:List (List Int)) (a1:Int) (r:List (List Int)) (w:World) (cG:Kd.C (Kd.slice 2 (Kd.int .i64)) w aJ ag.length ag) (cH:ag.length≤aI) (h:dK.f k ai ag a1=some r):
    Calls aip 151 #[.agg #[.int .i64 ai, .slice aJ ag.length aI], .int .i64 a1] w fun e w'=>∃dO:Value,e= .returned (dO)∧Kd.S (Kd.slice 2 (Kd.int .i64)) 29 w' w.heap.size (fun _=>True) dO r∧Below w.heap.size w w':=by
  have eU:=ail;have bW:=m_ cG;have cr:=m_ cH;clear cG cH;have HB:=m_ (aim w.heap.size w);have H:=h;unfold dK.f at H;clear h;obtain⟨Vl,VM,H⟩: ∃Vl:List (List Int),ak (Vl=(([]:List (List Int))))∧(dK.l0 k a1 (wrap64 (2*(ag.length:Int))) Vl 0 ai ag)=some r:=⟨_,⟨rfl⟩,H⟩;have H':=m_ H;clear H;go_enter Try.func151,Try.ntmps151;go_wp2_with (first|((with_reducible refine bV (N:=2) rfl ?_);refine cC (N:=2) (cs:= #[.int .i64 ai, .slice aJ ag.length aI]) (t:=26) ?_;intro Vb hg w3 aE hb;have U7:=m_ (aE);have Wc:=m_ ((by rw[hg];exact(aN aT):w.heap.size≤Vb));have Wg:=m_ ((by rw[hg];exact(aN aT):w.heap.size≤Vb));replace HB:=m_ (aG aT hb);clear hb aE hg;have aaI:=aX U7.1;have aaJ:=aZ U7.1;have aaK:=ax U7.1 0;have aaL:=ax U7.1 1)|((with_reducible refine bV (N:=17) rfl ?_);refine Kd.uB (Kd.slice 2 (Kd.int .i64)) _ 29 ?hg (N:=17) ?hd (xs:=([]:List (List Int))) (inner:=[]) (ok:=fun _=>True) (cI:=fun _=>True) ?hr ?hp (fun _ hk=>hk) trivial (aim _ _) (ahp _) bJ ?_;(case hd=>rfl);(case hg=>rfl);(case hr=>first|(go_simp;done)|(go_simp;rfl));(case hp=>exact(bO.none _ _));intro Wf w5 sn hb cL cV;clear cL cV;rw[← VM.1]at sn;have VP:=m_ (Kd.gF sn (aN aj));replace U7:=m_ (aW U7.1 hb);replace HB:=m_ (aG aj hb);clear hb sn));go_loopg [6,7] k (fun kq v6 v7 w'=>∃(dV:List (List Int)) (bT:Int),v7= .int .i64 bT∧ak (dK.l0 kq a1 (wrap64 (2*(ag.length:Int))) dV bT ai ag=some r)∧ak (kq≤k)∧ak (Kd.S (Kd.slice 2 (Kd.int .i64)) 29 w' w.heap.size (fun _=>True) v6 dV)∧ak (w'.heap[Vb]? =some (.cells #[.int .i64 ai,(.slice aJ ag.length aI)] 26 (0,0)))∧ak (Below w.heap.size w w'))
  case atStart=>exact⟨(Vl),(0),bA,H',⟨ahp _⟩,⟨Kd.bH VP.1 af⟩,⟨av U7.1 af⟩,⟨aj⟩⟩
  case round=>
    clear H';obtain⟨dV,bT,rfl,HA,bP,dH,U7,HB⟩:=hrel;cases gk with
    | zero=>exact absurd HA.1 (by simp[dK.l0])
    | succ k1=>
      have H:=HA.1;clear HA;simp only[dK.l0]at H
      by_cases c7:bT<(wrap64 (2*(ag.length:Int)))
      · rw[aC c7]at H
        have iT:=aV c7;clear c7;obtain⟨fc,jL⟩: ∃j_:Int,(wrap64 (2*(ag.length:Int)))=j_:=⟨_,rfl⟩;(try rw[jL]);replace H:(if 0≤(fc) then (if ((fc):Int).toNat≤35184372088832 then ((some (ahl ((fc):Int).toNat 0:List Int)).bind fun pN=>(if 0≤bT then (if bT<(pN.length:Int) then (dK.l1 k1 a1 (fc) dV bT (pN.set (bT:Int).toNat 1) 1 ai ag) else (none)) else (none))) else (none)) else (none))=some r:=by first|(rw[jL]at H;exact H)|(simp only[jL]at H ⊢;exact H)
        (try rw[jL]at iT);have aaM:(aiS.wrap (2*(ag.length:Int)))=fc:=(ez _).trans jL;obtain⟨c9,H⟩:=bN H;have jJ:=aH c9;have uL:=aV c9;clear c9;obtain⟨c10,H⟩:=bN H;have mJ:=aH c10;have CY:=aV c10;clear c10;obtain⟨pN,VJ,H⟩: ∃pN:List Int,ak (pN=(ahl ((fc):Int).toNat 0))∧(if 0≤bT then (if bT<(pN.length:Int) then (dK.l1 k1 a1 (fc) dV bT (pN.set (bT:Int).toNat 1) 1 ai ag) else (none)) else (none))=some r:=⟨_,⟨rfl⟩,H⟩;obtain⟨c11,H⟩:=bN H;have lN:=aV c11;clear c11;obtain⟨c12,H⟩:=bN H;have qp:=aV c12;clear c12;obtain⟨Ve,VQ,H⟩: ∃Ve:List Int,ak (Ve=(pN.set (bT:Int).toNat 1))∧(dK.l1 k1 a1 (fc) dV bT Ve 1 ai ag)=some r:=⟨_,⟨rfl⟩,H⟩;have H':=m_ H;clear H;go_wp2_with (first|((with_reducible refine bV (N:=24) rfl ?_);refine Kd.Cj (Kd.int .i64) _ 2 rfl (N:=24) rfl 29 _ _ rfl (fc) rfl rfl aiN (.int .i64 0) 8 kB rfl az aa 0 (ok:=fun _=>True) (cI:=fun _=>True) rfl (fun _ hk=>hk) trivial (aD) (Nat.le_trans (Nat.mul_le_mul_right _ (aD:(fc).toNat≤35184372088832)) aa) (aim _ _) (ahp _) ?_;intro V3 qu Vj hb cL cV;clear cL cV;rw[← VJ.1]at Vj;replace dH:=m_ (Kd.jD (Kd.bH dH.1 af) (Kd.dQ Vj) hb);have Vc:=m_ (Kd.dR Vj (aN aj));replace U7:=m_ (aW U7.1 hb);replace HB:=m_ (aG aj hb);clear hb Vj;have qz:0≤(bT:Int):=aD;have qA:(bT:Int)<((pN.length:Int):Int):=aD;obtain⟨uQ,rU,qo,DF,J0,aaN,DG⟩:=Kd.qU Vc.1 aa;(first|cases qo|(injection qo with dm gh gi;(first|subst dm|(injection dm with dm;subst dm));subst gi;clear gh));have J1:=m_ DF;have aaO:=m_ DG;clear DF J0 DG;obtain⟨aaP,aaQ⟩:=Kd.o9 0 Vc.1 (bT:Int) qz qA;replace qz:=aH qz;replace qA:=aH qA;obtain⟨V6,VY⟩:=Kd.o9 0 Vc.1 (bT:Int) (aD) (aD);have Vt:=Kd.vV Vc.1 (bT:Int) 1)|((with_reducible refine vW (t:=2) (p:=27) rfl ?_);refine vX (t:=2) (p:=27) (v:= ?Wj) (w1:=(qu.setCell ⟨uQ,(bT:Int).toNat,none⟩ (.int .i64 1))) ?hg ?ho ?hn ?hr ?_;(case ho=>rfl);(case hg=>rfl);(case hn=>rfl);(case hr=>first|(go_simp;done)|(go_simp;rfl));intro oA hw;have hg:qu.grownBy oA (some uQ):=(by rw[hw];exact Vt.2);have lA:Kd.R (Kd.int .i64) 2 oA w.heap.size (fun _=>True) (.slice (some ⟨uQ,0,none⟩) pN.length rU) Ve:=(by rw[hw,VQ.1];exact Vt.1);clear Vt;replace dH:=m_ (Kd.Ih (v:=(.slice (some ⟨uQ,0,none⟩) pN.length rU)) (v1:=(.slice (some ⟨uQ,0,none⟩) pN.length rU)) (ok:=(fun _=>True)) (Kd.bH dH.1 af) hg (.inl rfl));replace U7:=m_ (fG (av U7.1 af) hg (Kd.jE Vc.1 U7.1 az));replace Vc:=m_ (lA);replace HB:=m_ ((by rw[hw];exact jU (HB.1) J1.1:Below w.heap.size w oA));clear hg hw lA));go_loopg [8,9] k1 (fun kq v8 v9 w'=>∃(dw:List Int) (cU:Int),v9= .int .i64 cU∧ak (dK.l1 kq a1 (fc) dV bT dw cU ai ag=some r)∧ak (kq≤k1)∧ak (Kd.S (Kd.slice 2 (Kd.int .i64)) 29 w' w.heap.size (fun k_=>some k_≠(v8:Value).ownBlock) u6 dV)∧ak (Kd.R (Kd.int .i64) 2 w' w.heap.size (fun _=>True) v8 dw)∧ak (w'.heap[Vb]? =some (.cells #[.int .i64 ai,(.slice aJ ag.length aI)] 26 (0,0)))∧ak (Below w.heap.size w w'))
        case atStart=>exact⟨(Ve),(1),bA,H',⟨ahp _⟩,⟨by(with_reducible repeat (first|apply Kd.eV|apply Kd.eS|apply Kd.ee));exact Kd.cZ dH.1 (fun _ hk=>hk.2)⟩,⟨Kd.bG Vc.1 af⟩,⟨av U7.1 af⟩,⟨aj⟩⟩
        case round=>
          clear H';obtain⟨dw,cU,rfl,HA,cP,dH,eJ,U7,HB⟩:=hrel;cases gk with
          | zero=>exact absurd HA.1 (by simp[dK.l1])
          | succ k2=>
            have H:=HA.1;clear HA;simp only[dK.l1]at H
            by_cases c18:cU<a1
            · rw[aC c18]at H
              have AR:=aV c18;clear c18;obtain⟨c19,H⟩:=bN H;have rz:=aH c19;have FJ:=aV c19;clear c19;obtain⟨iU,H⟩:=bN H;have uN:=aH iU;have FL:=aV iU;clear iU;obtain⟨Vm,VS,H⟩: ∃Vm:List Int,ak (Vm=(ahl ((fc):Int).toNat 0))∧(dK.l2 k2 a1 (fc) dV bT dw cU Vm 0 ai ag)=some r:=⟨_,⟨rfl⟩,H⟩;have H':=m_ H;clear H;go_wp2_with (first|((with_reducible refine bV (N:=34) rfl ?_);refine Kd.Cj (Kd.int .i64) _ 2 rfl (N:=34) rfl 29 _ _ rfl (fc) rfl rfl aiN (.int .i64 0) 8 kB rfl az aa 0 (ok:=fun _=>True) (cI:=fun _=>True) rfl (fun _ hk=>hk) trivial (aD) (Nat.le_trans (Nat.mul_le_mul_right _ (aD:(fc).toNat≤35184372088832)) aa) (aim _ _) (ahp _) ?_;intro U9 tf Vf hb cL cV;clear cL cV;rw[← VS.1]at Vf;replace dH:=m_ (Kd.jD (Kd.bH dH.1 af) (Kd.dQ Vf) hb);have VF:=m_ (Kd.dR (Kd.lP Vf (Kd.jk (Kd.bG eJ.1 af))) (aN aj));replace eJ:=m_ (Kd.mc (Kd.bG eJ.1 af) (Kd.dQ Vf) hb);replace U7:=m_ (aW U7.1 hb);replace HB:=m_ (aG aj hb);clear hb Vf));go_loopg [11] k2 (fun kq v11 w'=>∃(rA:List Int) (dU:Int),v11= .int .i64 dU∧ak (dK.l2 kq a1 (fc) dV bT dw cU rA dU ai ag=some r)∧ak (kq≤k2)∧ak (Kd.S (Kd.slice 2 (Kd.int .i64)) 29 w' w.heap.size (fun k_=>some k_≠(u8:Value).ownBlock∧some k_≠(U9:Value).ownBlock) u6 dV)∧ak (Kd.R (Kd.int .i64) 2 w' w.heap.size (fun k_=>some k_≠(U9:Value).ownBlock) u8 dw)∧ak (Kd.R (Kd.int .i64) 2 w' w.heap.size (fun k_=>some k_≠(u8:Value).ownBlock) U9 rA)∧ak (w'.heap[Vb]? =some (.cells #[.int .i64 ai,(.slice aJ ag.length aI)] 26 (0,0)))∧ak (Below w.heap.size w w'))
              case atStart=>exact⟨(Vm),(0),bA,H',⟨ahp _⟩,⟨Kd.bH dH.1 af⟩,⟨by(with_reducible repeat (first|apply Kd.gU|apply Kd.gK|apply Kd.fM));exact Kd.cu eJ.1 (fun _ hk=>hk.2)⟩,⟨by(with_reducible repeat (first|apply Kd.gU|apply Kd.gK|apply Kd.fM));exact Kd.cu VF.1 (fun _ hk=>hk.2)⟩,⟨av U7.1 af⟩,⟨aj⟩⟩
              case round=>
                clear H';obtain⟨rA,dU,rfl,HA,eF,dH,eJ,eE,U7,HB⟩:=hrel;cases gk with
                | zero=>exact absurd HA.1 (by simp[dK.l2])
                | succ k3=>
                  have H:=HA.1;clear HA;simp only[dK.l2]at H
                  by_cases uR:dU<(fc)
                  · rw[aC uR]at H
                    have OO:=aV uR;clear uR;have H':=m_ H;clear H;go_wp2;go_loopg [12] k3 (fun kq CH w'=>∃(lX:List Int) (U8:Int),CH= .int .i64 U8∧ak (dK.l3 kq a1 (fc) dV bT dw cU lX dU U8 ai ag=some r)∧ak (kq≤k3)∧ak (Kd.S (Kd.slice 2 (Kd.int .i64)) 29 w' w.heap.size (fun k_=>some k_≠(u8:Value).ownBlock∧some k_≠(U9:Value).ownBlock) u6 dV)∧ak (Kd.R (Kd.int .i64) 2 w' w.heap.size (fun k_=>some k_≠(U9:Value).ownBlock) u8 dw)∧ak (Kd.R (Kd.int .i64) 2 w' w.heap.size (fun k_=>some k_≠(u8:Value).ownBlock) U9 lX)∧ak (w'.heap[Vb]? =some (.cells #[.int .i64 ai,(.slice aJ ag.length aI)] 26 (0,0)))∧ak (Below w.heap.size w w'))
                    case atStart=>exact⟨(rA),(0),bA,H',⟨ahp _⟩,⟨Kd.bH dH.1 af⟩,⟨Kd.bG eJ.1 af⟩,⟨Kd.bG eE.1 af⟩,⟨av U7.1 af⟩,⟨aj⟩⟩
                    case round=>
                      clear H';obtain⟨lX,U8,rfl,HA,jW,dH,eJ,eE,U7,HB⟩:=hrel;cases gk with
                      | zero=>exact absurd HA.1 (by simp[dK.l3])
                      | succ k4=>
                        have H:=HA.1;clear HA;simp only[dK.l3]at H;have Vv:=m_ H;clear H;go_upto_region 16 with (fail)
                        go_cut [49] (fun VV wc=>∃(kq:Nat) (Vh:Bool),VV= .bool Vh∧ak (dK.j4 kq a1 (fc) dV bT dw cU lX dU U8 Vh ai ag=some r)∧ak (kq≤k4)∧ak (Kd.S (Kd.slice 2 (Kd.int .i64)) 29 wc w.heap.size (fun k_=>some k_≠(u8:Value).ownBlock∧some k_≠(U9:Value).ownBlock) u6 dV)∧ak (Kd.R (Kd.int .i64) 2 wc w.heap.size (fun k_=>some k_≠(U9:Value).ownBlock) u8 dw)∧ak (Kd.R (Kd.int .i64) 2 wc w.heap.size (fun k_=>some k_≠(u8:Value).ownBlock) U9 lX)∧ak (wc.heap[Vb]? =some (.cells #[.int .i64 ai,(.slice aJ ag.length aI)] 26 (0,0)))∧ak (Below w.heap.size w wc))
                        case first=>
                          have H:=Vv.1;clear Vv
                          by_cases jK:U8<(fc)
                          · rw[aC jK]at H
                            have sj:=aV jK;clear jK;(first|rw[sj]|(simp only[ez,fT];rw[sj])|skip);obtain⟨lE,H⟩:=bN H;have wo:=aV lE;clear lE;obtain⟨kL,H⟩:=bN H;have yh:=aV kL;clear kL;have H':=m_ H;clear H;obtain⟨V2,aaR,FM⟩:=Kd.dP eJ.1;subst FM;have Vn:0≤(dU:Int):=aD;have Vy:dU<(dw.length:Int):=aD;obtain⟨V1,VT,V9⟩:=Kd.dA (Kd.cM eJ.1).2.2 dU Vn Vy;cases VT;replace Vn:=aH Vn;replace Vy:=aH Vy;go_wp2;go_meet
                            case rel=>exact⟨_,(decide ((rd dw dU)>0)),bA,H',⟨by have:=bP.1;have:=cP.1;have:=eF.1;have:=jW.1;first|omega|exact ahp _⟩,⟨Kd.bH dH.1 af⟩,⟨Kd.bG eJ.1 af⟩,⟨Kd.bG eE.1 af⟩,⟨av U7.1 af⟩,⟨aj⟩⟩
                          · rw[aA jK]at H
                            have sj:=cz jK;clear jK;(first|rw[sj]|(simp only[ez,fT];rw[sj])|skip);have H':=m_ H;clear H;go_wp2;go_meet
                            case rel=>exact⟨_,(false),bA,H',⟨by have:=bP.1;have:=cP.1;have:=eF.1;have:=jW.1;first|omega|exact ahp _⟩,⟨Kd.bH dH.1 af⟩,⟨Kd.bG eJ.1 af⟩,⟨Kd.bG eE.1 af⟩,⟨av U7.1 af⟩,⟨aj⟩⟩
                        case rest=>
                          clear Vv;obtain⟨kq,Vh,rfl,HA,Vd,dH,eJ,eE,U7,HB⟩:=hcut;cases kq with
                          | zero=>exact absurd HA.1 (by simp[dK.j4])
                          | succ Va=>
                            have H:=HA.1;clear HA;simp only[dK.j4]at H
                            by_cases yY:Vh=true
                            · subst yY
                              rw[aC rfl]at H;obtain⟨JZ,VC,H⟩:=bE H
                              by_cases tG:JZ=true
                              · subst tG
                                rw[aC rfl]at H;obtain⟨nM,H⟩:=bN H;have Ju:=aV nM;clear nM;obtain⟨qY,H⟩:=bN H;have IL:=aV qY;clear qY;obtain⟨wu,H⟩:=bN H;have NS:=aV wu;clear wu;obtain⟨mL,H⟩:=bN H;have Cn:=aV mL;clear mL;obtain⟨Vi,VH,H⟩: ∃Vi:List Int,ak (Vi=(lX.set (U8:Int).toNat (wrap64 ((rd lX U8)+(rd dw dU)))))∧(dK.l3 Va a1 (fc) dV bT dw cU Vi dU (wrap64 (U8+1)) ai ag)=some r:=⟨_,⟨rfl⟩,H⟩;have H':=m_ H;clear H;have Wl:=aX U7.1;have VX:=aZ U7.1;have We:=ax U7.1 0;have Wm:=ax U7.1 1
                                try go_wp2_with (first|((with_reducible refine bu (f:=215) rfl ?_);refine bz (some 55) ai1 #[.agg #[.int .i64 ai, .slice aJ ag.length aI], .int .i64 dU, .int .i64 U8] ?_;(with_reducible refine(jg.calls ai _ _ ag dU U8 true _ ?aq ?au VC.1).mono ?_);(case aq=>exact Kd.ay (Kd.ay bW.1 HB.1) af);(case au=>exact cr.1);rintro e JL ⟨rfl,hb⟩;refine⟨_,rfl, ?_⟩;replace dH:=m_ (Kd.bH (Kd.bH dH.1 af) hb);replace eJ:=m_ (Kd.bG (Kd.bG eJ.1 af) hb);replace eE:=m_ (Kd.bG (Kd.bG eE.1 af) hb);replace U7:=m_ (aW U7.1 hb);replace HB:=m_ (aG aj hb);clear hb))
                                replace dH:=m_ (Kd.ee dH.1);replace eJ:=m_ (Kd.fM eJ.1);replace eE:=m_ (Kd.fM eE.1);replace U7:=m_ (bK U7.1);replace HB:=m_ (fE HB.1);obtain⟨AG,yR,yS⟩:=Kd.dP eE.1;subst yS;have Vu:0≤(U8:Int):=aD;have Vp:U8<(lX.length:Int):=aD;obtain⟨Wa,VN,Vq⟩:=Kd.dA (Kd.cM eE.1).2.2 U8 Vu Vp;cases VN;replace Vu:=aH Vu;replace Vp:=aH Vp;obtain⟨aaS,aaT,J2⟩:=Kd.dP eJ.1;subst J2;have Vo:0≤(dU:Int):=aD;have Vw:dU<(dw.length:Int):=aD;obtain⟨VU,VR,Vz⟩:=Kd.dA (Kd.cM eJ.1).2.2 dU Vo Vw;cases VR;replace Vo:=aH Vo;replace Vw:=aH Vw;have Vr:0≤(U8:Int):=aD;have Vx:(U8:Int)<((lX.length:Int):Int):=aD;obtain⟨Vg,V5,VA,VE,VI,VZ,VB⟩:=Kd.qU eE.1 aa;(first|cases VA|(injection VA with dm gh gi;(first|subst dm|(injection dm with dm;subst dm));subst gi;clear gh));have V8:=m_ VE;have VO:=m_ VB;clear VE VI VB;(first|simp only[add_plain]at Vq|skip);obtain⟨VL,VK⟩:=Kd.o9 0 eE.1 (U8:Int) Vr Vx;replace Vr:=aH Vr;replace Vx:=aH Vx;have Vs:=Kd.E6 eE.1 (U8:Int) (wrap64 ((rd lX U8)+(rd dw dU)));rw[← VH.1]at Vs;have VD:=m_ Vs;clear Vs;refine gD (n:=13) (S:=fun w'=>w'.cell? ⟨Vg,(U8).toNat,none⟩=some (.int .i64 (rd lX U8))∧w'.cell? (VU.add (dU).toNat)=some (.int .i64 (rd dw dU))) (ds:=[12]) #[false,false,false,false,false,false,false,false,false,false,false,false,false] aU rfl rfl ⟨Vq,Vz⟩ (fun hHeld=> ?_);refine iW dK.aaG dK.aaH (fun dN hU=> ?_);generalize JL.drew=I2 at dH eJ eE U7 HB VO VD VK VL Vq Vz hHeld ⊢;refine bh 0 13 56 1 ?_;refine bh 1 13 57 3 ?_;refine bh 2 13 58 7 ?_;refine bh 3 13 59 15 ?_;refine bh 4 13 60 31 ?_;refine bh 6 13 62 95 ?_;refine bh 7 13 63 223 ?_;refine bh 8 13 64 479 ?_;refine dD 5 13 61 511 hHeld ?_;refine dD 9 13 65 1023 hHeld ?_;refine bh 10 13 66 2047 ?_;refine bh 11 13 67 4095 ?_;refine qW (i:=12) (N:=none) #[true,true,true,true,true,true,true,true,true,true,true,true,true] rfl rfl (sX dN.1 aU) az (fun K hK=> ?_);refine qt (w1:= ?_) (by rfl) rfl ?_ ?_
                                rotate_left
                                · go_simp
                                  rfl
                                refine hK.out _ _ ?_;clear hK K;refine gE (iX dN.1 aU) ?_
                                try go_wp2
                                first|go_roundg Va|((try subst jL);go_roundg Va)
                                case measure=>have:=bP.1;have:=cP.1;have:=eF.1;have:=jW.1;have:=Vd.1;omega
                                case rel=>exact⟨(Vi),(wrap64 (U8+1)),bA,H',⟨by have:=bP.1;have:=cP.1;have:=eF.1;have:=jW.1;have:=Vd.1;omega⟩,⟨by(with_reducible repeat (first|apply Kd.eV|apply Kd.eS|apply Kd.ee));exact Kd.cZ (Kd.fI (p:=⟨Vg,(U8:Int).toNat,none⟩) (Kd.cZ dH.1 (fun k_ hk=>(⟨hk,fun e_=>hk.2 (by rw[e_];rfl)⟩:_∧k_≠Vg))) (fun _ hk=>hk.2) (.int .i64 (wrap64 ((rd lX U8)+(rd dw dU))))) (fun _ hk=>⟨hk.1.1,hk.1.2⟩)⟩,⟨by(with_reducible repeat (first|apply Kd.gU|apply Kd.gK|apply Kd.fM));exact Kd.cu (Kd.pE (p:=⟨Vg,(U8:Int).toNat,none⟩) (Kd.cu eJ.1 (fun k_ hk=>(⟨hk,fun e_=>hk (by rw[e_];rfl)⟩:_∧k_≠Vg))) (fun _ hk=>hk.2) (.int .i64 (wrap64 ((rd lX U8)+(rd dw dU))))) (fun _ hk=>hk.1)⟩,⟨by(with_reducible repeat (first|apply Kd.gU|apply Kd.gK|apply Kd.fM));exact VD.1⟩,⟨by(with_reducible repeat (first|refine bY ?_ _ |refine bK ?_ |refine bR ?_ _));refine iE ?_ (by have h_:=Kd.jE eE.1 U7.1 az;intro e_;exact h_ (by rw[e_];rfl)) _;(with_reducible repeat (first|refine bY ?_ _ |refine bK ?_ |refine bR ?_ _));exact U7.1⟩,⟨aj⟩⟩
                              · replace tG:=aiq.mpr tG
                                subst tG;rw[aA (show ¬(false=true) by decide)]at H;have H':=m_ H;clear H;have V7:=aX U7.1;have Wi:=aZ U7.1;have Wh:=ax U7.1 0;have V0:=ax U7.1 1;go_wp2_with (first|((with_reducible refine bu (f:=215) rfl ?_);refine bz (some 55) ai1 #[.agg #[.int .i64 ai, .slice aJ ag.length aI], .int .i64 dU, .int .i64 U8] ?_;(with_reducible refine(jg.calls ai _ _ ag dU U8 false _ ?aq ?au VC.1).mono ?_);(case aq=>exact Kd.ay (Kd.ay bW.1 HB.1) af);(case au=>exact cr.1);rintro e w44 ⟨rfl,hb⟩;refine⟨_,rfl, ?_⟩;replace dH:=m_ (Kd.bH (Kd.bH dH.1 af) hb);replace eJ:=m_ (Kd.bG (Kd.bG eJ.1 af) hb);replace eE:=m_ (Kd.bG (Kd.bG eE.1 af) hb);replace U7:=m_ (aW U7.1 hb);replace HB:=m_ (aG aj hb);clear hb))
                                first|go_roundg Va|((try subst jL);go_roundg Va)
                                case measure=>have:=bP.1;have:=cP.1;have:=eF.1;have:=jW.1;have:=Vd.1;omega
                                case rel=>exact⟨(lX),(wrap64 (U8+1)),bA,H',⟨by have:=bP.1;have:=cP.1;have:=eF.1;have:=jW.1;have:=Vd.1;omega⟩,⟨Kd.bH dH.1 af⟩,⟨Kd.bG eJ.1 af⟩,⟨Kd.bG eE.1 af⟩,⟨av U7.1 af⟩,⟨aj⟩⟩
                            · replace yY:=aiq.mpr yY
                              subst yY;rw[aA (show ¬(false=true) by decide)]at H;have H':=m_ H;clear H;go_wp2
                              first|go_roundg Va|((try subst jL);go_roundg Va)
                              case measure=>have:=bP.1;have:=cP.1;have:=eF.1;have:=jW.1;have:=Vd.1;omega
                              case rel=>exact⟨(lX),(wrap64 (dU+1)),bA,H',⟨by have:=bP.1;have:=cP.1;have:=eF.1;have:=jW.1;have:=Vd.1;omega⟩,⟨Kd.bH dH.1 af⟩,⟨Kd.bG eJ.1 af⟩,⟨Kd.bG eE.1 af⟩,⟨av U7.1 af⟩,⟨aj⟩⟩
                  · rw[aA uR]at H
                    have OO:=cz uR;clear uR;have H':=m_ H;clear H;go_wp2
                    first|go_roundg k3|((try subst jL);go_roundg k3)
                    case measure=>have:=bP.1;have:=cP.1;have:=eF.1;omega
                    case rel=>exact⟨(rA),(wrap64 (cU+1)),bA,H',⟨by have:=bP.1;have:=cP.1;have:=eF.1;omega⟩,⟨by(with_reducible repeat (first|apply Kd.eV|apply Kd.eS|apply Kd.ee));exact Kd.cZ dH.1 (fun _ hk=>hk.2)⟩,⟨by(with_reducible repeat (first|apply Kd.gU|apply Kd.gK|apply Kd.fM));exact Kd.cu eE.1 (fun _ hk=>trivial)⟩,⟨av U7.1 af⟩,⟨aj⟩⟩
            · rw[aA c18]at H
              have AR:=cz c18;clear c18;obtain⟨pq,H⟩:=bN H;have C6:=m_ pq;clear pq;obtain⟨Vk,VG,H⟩: ∃Vk:List (List Int),ak (Vk=(dV++[dw]))∧(dK.l0 k2 a1 (fc) Vk (wrap64 (bT+1)) ai ag)=some r:=⟨_,⟨rfl⟩,H⟩;have H':=m_ H;clear H;obtain⟨wJ,wK,C8⟩:=Kd.dP eJ.1;subst C8;go_wp2_with (first|((with_reducible refine iR (b:= .append) (xs:= #[.tmp 69, .tmp 71]) rfl ?_);at_builtin;refine Kd.qq (Kd.slice 2 (Kd.int .i64)) (w0:=w) w.heap.size rfl (.tmp 69) (.tmp 71) 24 29 (.slice none 0 0) 24 rfl aiT mK rfl az aa u6 dV dw [.slice wJ dw.length wK] (fun _=>True) (fun k_=>some k_=(.slice wJ dw.length wK:Value).ownBlock) rfl rfl ?aP (fun k_ bn=>((Kd.cu (ok':=fun k_=>((fun _=>True)) k_∧some k_≠(u6:Value).ownBlock) (Kd.gu (eJ.1) (Kd.iS dH.1) az) (fun k_ hk=>⟨trivial,hk.2⟩))).1 k_ bn.symm) ?aF ?aO ?aB ?aS ?aL ?_;(case aP=>exact Kd.lB (Kd.cu (Kd.lC rfl (Kd.cu (ok':=fun k_=>((fun _=>True)) k_∧some k_≠(u6:Value).ownBlock) (Kd.gu (eJ.1) (Kd.iS dH.1) az) (fun k_ hk=>⟨trivial,hk.2⟩))) (fun _ h_=>h_)));(case aB=>exact aj);(case aF=>exact(fun _ _=>trivial));(case aO=>exact(Kd.bH (Kd.cZ dH.1 (fun k_ hk=>⟨trivial,fun e_=>hk e_⟩)) af));(case aS=>exact(aN aj));(case aL=>have:=C6.1;omega);intro V4 Fh ho hb hg hat;rw[← VG.1]at ho;replace U7:=m_ (fG (av U7.1 af) hg (Kd.j8 dH.1 U7.1 az));replace HB:=m_ (hb);have VW:=m_ (ho);clear dH eJ;clear ho hb hg hat))
              first|go_roundg k2|((try subst jL);go_roundg k2)
              case measure=>have:=bP.1;have:=cP.1;omega
              case rel=>exact⟨(Vk),(wrap64 (bT+1)),bA,H',⟨by have:=bP.1;have:=cP.1;omega⟩,⟨Kd.bH VW.1 af⟩,⟨av U7.1 af⟩,⟨aj⟩⟩
      · rw[aA c7]at H
        have iT:=cz c7;clear c7;obtain rfl:=aii H;go_wp2;go_ret;exact⟨_,cB,(Kd.bH dH.1 af),aj⟩

mutual
def iN.l0:Nat→List (List Int)→List (List Int)→Int→Int→List (List Int)→Option ((List (List Int)))
  | 0,_,_,_,_,_=>none
  | k+1,x1,x5,x6,AU,yZ=>if x6<(x1.length:Int) then (if 0≤x6 then (if 0≤(wrap64 (((aM x1 x6).length:Int) - 1)) then (if (wrap64 (((aM x1 x6).length:Int) - 1))<((aM x1 x6).length:Int) then (iN.l1 k x1 x5 x6 (rd (aM x1 x6) (wrap64 (((aM x1 x6).length:Int) - 1))) 0 AU yZ) else (none)) else (none)) else (none)) else (some x5)
def iN.l1:Nat→List (List Int)→List (List Int)→Int→Int→Int→Int→List (List Int)→Option ((List (List Int)))
  | 0,_,_,_,_,_,_,_=>none
  | k+1,x1,x5,x6,x7,x8,AU,yZ=>if x8<(wrap64 (2*(yZ.length:Int))) then ((jg.f AU yZ x7 x8).bind fun J3=>(if J3=true then (if 0≤x6 then (if x6<(x1.length:Int) then ((mC.f (aM x1 x6)).bind fun AV=>(if AV.length<17592186044416 then (if x5.length<5864062014805 then (iN.l1 k x1 (x5++[(AV++[x8])]) x6 x7 (wrap64 (x8+1)) AU yZ) else (none)) else (none))) else (none)) else (none)) else (iN.l1 k x1 x5 x6 x7 (wrap64 (x8+1)) AU yZ))) else (iN.l0 k x1 x5 (wrap64 (x6+1)) AU yZ)
end
def iN.f (k:Nat) (ai:Int) (ag:List (List Int)) (l1:List (List Int)):Option ((List (List Int))):=iN.l0 k l1 (([]:List (List Int))) 0 ai ag
theorem iN.calls (k:Nat) (ai:Int) (aJ:Option Addr) (aI:Nat) (ag:List (List Int)) (A1:Option Addr) (c1:Nat) (l1:List (List Int)) (r:List (List Int)) (w:World) (cG:Kd.C (Kd.slice 2 (Kd.int .i64)) w aJ ag.length ag) (cH:ag.length≤aI) (hr1:Kd.C (Kd.slice 2 (Kd.int .i64)) w A1 l1.length l1) (hc1:l1.length≤c1) (h:iN.f k ai ag l1=some r):
    Calls aip 216 #[.agg #[.int .i64 ai, .slice aJ ag.length aI], .slice A1 l1.length c1] w fun e w'=>∃dO:Value,e= .returned (dO)∧Kd.S (Kd.slice 2 (Kd.int .i64)) 29 w' w.heap.size (fun _=>True) dO r∧Below w.heap.size w w':=by
  have eU:=ail;have bW:=m_ cG;have cr:=m_ cH;clear cG cH;have cQ:=m_ hr1;have dS:=m_ hc1;clear hr1 hc1;have HB:=m_ (aim w.heap.size w);have H:=h;unfold iN.f at H;clear h;obtain⟨Vc,VH,H⟩: ∃Vc:List (List Int),ak (Vc=(([]:List (List Int))))∧(iN.l0 k l1 Vc 0 ai ag)=some r:=⟨_,⟨rfl⟩,H⟩;have H':=m_ H;clear H;go_enter Try.func216,Try.ntmps216;go_wp2_with (first|((with_reducible refine bV (N:=2) rfl ?_);refine cC (N:=2) (cs:= #[.int .i64 ai, .slice aJ ag.length aI]) (t:=26) ?_;intro U9 hg w3 aE hb;have U7:=m_ (aE);have VT:=m_ ((by rw[hg];exact(aN aT):w.heap.size≤U9));have VP:=m_ ((by rw[hg];exact(aN aT):w.heap.size≤U9));replace HB:=m_ (aG aT hb);clear hb aE hg)|((with_reducible refine bV (N:=9) rfl ?_);refine Kd.uB (Kd.slice 2 (Kd.int .i64)) _ 29 ?hg (N:=9) ?hd (xs:=([]:List (List Int))) (inner:=[]) (ok:=fun _=>True) (cI:=fun _=>True) ?hr ?hp (fun _ hk=>hk) trivial (aim _ _) (ahp _) bJ ?_;(case hd=>rfl);(case hg=>rfl);(case hr=>first|(go_simp;done)|(go_simp;rfl));(case hp=>exact(bO.none _ _));intro VO w4 yU hb cL cV;clear cL cV;rw[← VH.1]at yU;have Vz:=m_ (Kd.gF yU (aN aj));replace U7:=m_ (aW U7.1 hb);replace HB:=m_ (aG aj hb);clear hb yU));go_loopg [5,6] k (fun kq v5 v6 w'=>∃(cJ:List (List Int)) (dV:Int),v6= .int .i64 dV∧ak (iN.l0 kq l1 cJ dV ai ag=some r)∧ak (kq≤k)∧ak (Kd.S (Kd.slice 2 (Kd.int .i64)) 29 w' w.heap.size (fun _=>True) v5 cJ)∧ak (w'.heap[U9]? =some (.cells #[.int .i64 ai,(.slice aJ ag.length aI)] 26 (0,0)))∧ak (Below w.heap.size w w'))
  case atStart=>exact⟨(Vc),(0),bA,H',⟨ahp _⟩,⟨Kd.bH Vz.1 af⟩,⟨av U7.1 af⟩,⟨aj⟩⟩
  case round=>
    clear H';obtain⟨cJ,dV,rfl,HA,bP,cj,U7,HB⟩:=hrel;cases gk with
    | zero=>exact absurd HA.1 (by simp[iN.l0])
    | succ k1=>
      have H:=HA.1;clear HA;simp only[iN.l0]at H
      by_cases c6:dV<(l1.length:Int)
      · rw[aC c6]at H
        have iO:=aV c6;clear c6;obtain⟨c7,H⟩:=bN H;have iT:=aV c7;clear c7;obtain⟨fc,jL⟩: ∃j_:Int,(wrap64 (((aM l1 dV).length:Int) - 1))=j_:=⟨_,rfl⟩;(try rw[jL]);replace H:(if 0≤(fc) then (if (fc)<((aM l1 dV).length:Int) then (iN.l1 k1 l1 cJ dV (rd (aM l1 dV) (fc)) 0 ai ag) else (none)) else (none))=some r:=by first|(rw[jL]at H;exact H)|(simp only[jL]at H ⊢;exact H)
        have aaM:(aiS.wrap (((aM l1 dV).length:Int) - 1))=fc:=(ez _).trans jL;obtain⟨c9,H⟩:=bN H;have jJ:=aV c9;clear c9;obtain⟨c10,H⟩:=bN H;have mJ:=aV c10;clear c10;have H':=m_ H;clear H;have Vl:0≤(dV:Int):=aD;have Vo:dV<(l1.length:Int):=aD;obtain⟨Vr,VX,VN,VL,Vd,Vw,Vs⟩:=fH cQ.1 dV Vl Vo;cases VL;replace Vd:=(HB.1.cell (air w _ Vd)).trans Vd;have VM:=m_ Vs;have VY:=m_ Vw;clear Vs Vw;replace Vl:=aH Vl;replace Vo:=aH Vo;have Vf:0≤(dV:Int):=aD;have Vg:dV<(l1.length:Int):=aD;obtain⟨VE,VZ,VW,VJ,Va,Vq,Vu⟩:=fH cQ.1 dV Vf Vg;obtain rfl:Vr=VE:=(by injection VJ);replace Va:=(HB.1.cell (air w _ Va)).trans Va;have VU:=m_ Vu;have V1:=m_ Vq;clear Vu Vq;replace Vf:=aH Vf;replace Vg:=aH Vg;have dm:=aii (Vd.symm.trans Va)
        injection dm with dm gh gi
        subst dm;subst gi;clear gh;have Vk:0≤((fc):Int):=aD;have Vh:(fc)<((aM l1 dV).length:Int):=aD;obtain⟨V0,VG,Vi⟩:=Kd.dA VM.1 (fc) Vk Vh;cases VG;replace Vi:=(HB.1.cell (air w _ Vi)).trans Vi;replace Vk:=aH Vk;replace Vh:=aH Vh;go_wp2
        repeat (go_quiet (fail);try go_wp2)
        go_loopg [5,8] k1 (fun kq v5 v8 w'=>∃(eT:List (List Int)) (dw:Int),v8= .int .i64 dw∧ak (iN.l1 kq l1 eT dV (rd (aM l1 dV) (fc)) dw ai ag=some r)∧ak (kq≤k1)∧ak (Kd.S (Kd.slice 2 (Kd.int .i64)) 29 w' w.heap.size (fun _=>True) v5 eT)∧ak (w'.heap[U9]? =some (.cells #[.int .i64 ai,(.slice aJ ag.length aI)] 26 (0,0)))∧ak (Below w.heap.size w w'))
        case atStart=>exact⟨(cJ),(0),bA,H',⟨ahp _⟩,⟨Kd.bH cj.1 af⟩,⟨av U7.1 af⟩,⟨aj⟩⟩
        case round=>
          clear H';obtain⟨eT,dw,rfl,HA,cP,cj,U7,HB⟩:=hrel;cases gk with
          | zero=>exact absurd HA.1 (by simp[iN.l1])
          | succ k2=>
            have H:=HA.1;clear HA;simp only[iN.l1]at H
            by_cases c11:dw<(wrap64 (2*(ag.length:Int)))
            · rw[aC c11]at H
              have lN:=aV c11;clear c11;obtain⟨J3,qB,H⟩:=bE H
              by_cases c13:J3=true
              · subst c13
                rw[aC rfl]at H;obtain⟨c14,H⟩:=bN H;have nJ:=aV c14;clear c14;obtain⟨c15,H⟩:=bN H;have l9:=aV c15;clear c15;obtain⟨AV,rX,H⟩:=bE H;obtain⟨c17,H⟩:=bN H;have Ig:=m_ c17;clear c17;obtain⟨U8,VF,H⟩: ∃U8:List Int,ak (U8=(AV++[dw]))∧(if eT.length<5864062014805 then (iN.l1 k2 l1 (eT++[U8]) dV (rd (aM l1 dV) (fc)) (wrap64 (dw+1)) ai ag) else (none))=some r:=⟨_,⟨rfl⟩,H⟩;obtain⟨c18,H⟩:=bN H;have VB:=m_ c18;clear c18;obtain⟨Vb,VI,H⟩: ∃Vb:List (List Int),ak (Vb=(eT++[U8]))∧(iN.l1 k2 l1 Vb dV (rd (aM l1 dV) (fc)) (wrap64 (dw+1)) ai ag)=some r:=⟨_,⟨rfl⟩,H⟩;have H':=m_ H;clear H;have uH:=aX U7.1;have uI:=aZ U7.1;have uJ:=ax U7.1 0;have uK:=ax U7.1 1;go_wp2_with (first|(go_at_call 215;(with_reducible refine(jg.calls ai _ _ ag (rd (aM l1 dV) (fc)) dw true _ ?aq ?au qB.1).mono ?_);(case aq=>exact Kd.ay (Kd.ay bW.1 HB.1) af);(case au=>exact cr.1);rintro e pV ⟨rfl,hb⟩;replace cj:=m_ (Kd.bH (Kd.bH cj.1 af) hb);replace U7:=m_ (aW U7.1 hb);replace HB:=m_ (aG aj hb);clear hb;have Vp:0≤(dV:Int):=aD;have Vn:dV<(l1.length:Int):=aD;obtain⟨VD,VS,VV,Vy,Vj,Vt,Vv⟩:=fH cQ.1 dV Vp Vn;obtain rfl:Vr=VD:=(by injection Vy);replace Vj:=(HB.1.cell (air w _ Vj)).trans Vj;have VC:=m_ Vv;have VK:=m_ Vt;clear Vv Vt;replace Vp:=aH Vp;replace Vn:=aH Vn)|(go_at_call 113;(with_reducible refine(mC.calls _ _ (aM l1 dV) AV _ ?aq ?au rX.1).mono ?_);(case aq=>exact Kd.ay (Kd.ay VC.1 HB.1) af);(case au=>exact VK.1);rintro e tf ⟨Vx,rfl,aY,hb⟩;replace cj:=m_ (Kd.jD (Kd.bH cj.1 af) (Kd.dQ aY) hb);have Vm:=m_ (Kd.dR aY (aN aj));replace U7:=m_ (aW U7.1 hb);replace HB:=m_ (aG aj hb);clear hb;(try clear aY))|((with_reducible refine iR (b:= .append) (xs:= #[.tmp 45, .tmp 47]) rfl ?_);at_builtin;refine Kd.rZ (Kd.int .i64) (w0:=w) w.heap.size rfl (.tmp 45) (.tmp 47) 29 2 (.int .i64 0) 8 rfl aiN kB rfl az aa Vx AV dw [.int .i64 dw] (fun _=>True) (fun _=>False) rfl rfl ?aP (fun _ hk=>hk.elim) ?aF ?aO ?aB ?aS ?aL ?_;(case aP=>exact rfl);(case aB=>exact aj);(case aF=>exact(fun _ _=>trivial));(case aO=>exact(Kd.bG Vm.1 af));(case aS=>exact(aN aj));(case aL=>have:=Ig.1;omega);intro VQ oq ho hb hg hat;rw[← VF.1]at ho;replace cj:=m_ (Kd.Ih (ok:=(fun _=>True)) (Kd.bH cj.1 af) hg hat);replace U7:=m_ (fG (av U7.1 af) hg (Kd.jE Vm.1 U7.1 az));replace HB:=m_ (hb);have Ve:=m_ (ho);clear Vm;clear ho hb hg hat;obtain⟨DH,DI,J4⟩:=Kd.dP Ve.1;subst J4)|((with_reducible refine iR (b:= .append) (xs:= #[.tmp 40, .tmp 49]) rfl ?_);at_builtin;refine Kd.qq (Kd.slice 2 (Kd.int .i64)) (w0:=w) w.heap.size rfl (.tmp 40) (.tmp 49) 24 29 (.slice none 0 0) 24 rfl aiT mK rfl az aa u5 eT U8 [.slice DH U8.length DI] (fun _=>True) (fun k_=>some k_=(.slice DH U8.length DI:Value).ownBlock) rfl rfl ?aP (fun k_ bn=>((Kd.cu (ok':=fun k_=>((fun _=>True)) k_∧some k_≠(u5:Value).ownBlock) (Kd.gu (Ve.1) (Kd.iS cj.1) az) (fun k_ hk=>⟨trivial,hk.2⟩))).1 k_ bn.symm) ?aF ?aO ?aB ?aS ?aL ?_;(case aP=>exact Kd.lB (Kd.cu (Kd.lC rfl (Kd.cu (ok':=fun k_=>((fun _=>True)) k_∧some k_≠(u5:Value).ownBlock) (Kd.gu (Ve.1) (Kd.iS cj.1) az) (fun k_ hk=>⟨trivial,hk.2⟩))) (fun _ h_=>h_)));(case aB=>exact aj);(case aF=>exact(fun _ _=>trivial));(case aO=>exact(Kd.bH (Kd.cZ cj.1 (fun k_ hk=>⟨trivial,fun e_=>hk.2 e_⟩)) af));(case aS=>exact(aN aj));(case aL=>have:=VB.1;omega);intro VR qV ho hb hg hat;rw[← VI.1]at ho;replace U7:=m_ (fG (av U7.1 af) hg (Kd.j8 cj.1 U7.1 az));replace HB:=m_ (hb);have VA:=m_ (ho);clear cj Ve;clear ho hb hg hat))
                first|go_roundg k2|((try subst jL);go_roundg k2)
                case measure=>have:=bP.1;have:=cP.1;omega
                case rel=>exact⟨(Vb),(wrap64 (dw+1)),bA,H',⟨by have:=bP.1;have:=cP.1;omega⟩,⟨Kd.bH VA.1 af⟩,⟨av U7.1 af⟩,⟨aj⟩⟩
              · replace c13:=aiq.mpr c13
                subst c13;rw[aA (show ¬(false=true) by decide)]at H;have H':=m_ H;clear H;have Ii:=aX U7.1;have Ij:=aZ U7.1;have Ik:=ax U7.1 0;have Il:=ax U7.1 1;go_wp2_with (first|(go_at_call 215;(with_reducible refine(jg.calls ai _ _ ag (rd (aM l1 dV) (fc)) dw false _ ?aq ?au qB.1).mono ?_);(case aq=>exact Kd.ay (Kd.ay bW.1 HB.1) af);(case au=>exact cr.1);rintro e yc ⟨rfl,hb⟩;replace cj:=m_ (Kd.bH (Kd.bH cj.1 af) hb);replace U7:=m_ (aW U7.1 hb);replace HB:=m_ (aG aj hb);clear hb))
                first|go_roundg k2|((try subst jL);go_roundg k2)
                case measure=>have:=bP.1;have:=cP.1;omega
                case rel=>exact⟨(eT),(wrap64 (dw+1)),bA,H',⟨by have:=bP.1;have:=cP.1;omega⟩,⟨Kd.bH cj.1 af⟩,⟨av U7.1 af⟩,⟨aj⟩⟩
            · rw[aA c11]at H
              have lN:=cz c11;clear c11;have H':=m_ H;clear H;have aaU:=aX U7.1;have aaV:=aZ U7.1;have aaW:=ax U7.1 0;have aaX:=ax U7.1 1;go_wp2
              first|go_roundg k2|((try subst jL);go_roundg k2)
              case measure=>have:=bP.1;have:=cP.1;omega
              case rel=>exact⟨(eT),(wrap64 (dV+1)),bA,H',⟨by have:=bP.1;have:=cP.1;omega⟩,⟨Kd.bH cj.1 af⟩,⟨av U7.1 af⟩,⟨aj⟩⟩
      · rw[aA c6]at H
        have iO:=cz c6;clear c6;obtain rfl:=aii H;go_wp2;go_ret;exact⟨_,cB,(Kd.bH cj.1 af),aj⟩

mutual
def jS.l0:Nat→Int→Int→List (List Int)→Int→Int→List (List Int)→Option ((List (List Int)))
  | 0,_,_,_,_,_,_=>none
  | k+1,x1,x2,x7,x8,y4,wS=>if x8<(wrap64 (2*(wS.length:Int))) then ((kE.f y4 wS x8).bind fun U7=>(if U7.1=x1 then (if x7.length<5864062014805 then (jS.l0 k x1 x2 (x7++[(([x8]:List Int))]) (wrap64 (x8+1)) y4 wS) else (none)) else (jS.l0 k x1 x2 x7 (wrap64 (x8+1)) y4 wS))) else (jS.l1 k x2 x7 1 y4 wS)
def jS.l1:Nat→Int→List (List Int)→Int→Int→List (List Int)→Option ((List (List Int)))
  | 0,_,_,_,_,_=>none
  | k+1,x2,x7,dM,y4,wS=>if dM<x2 then ((iN.f k y4 wS x7).bind fun FN=>(jS.l1 k x2 FN (wrap64 (dM+1)) y4 wS)) else (some x7)
end
def jS.f (k:Nat) (ai:Int) (ag:List (List Int)) (a1:Int) (a2:Int):Option ((List (List Int))):=jS.l0 k a1 a2 (([]:List (List Int))) 0 ai ag
theorem jS.calls (k:Nat) (ai:Int) (aJ:Option Addr) (aI:Nat) (ag:List (List Int)) (a1:Int) (a2:Int) (r:List (List Int)) (w:World) (cG:Kd.C (Kd.slice 2 (Kd.int .i64)) w aJ ag.length ag) (cH:ag.length≤aI) (h:jS.f k ai ag a1 a2=some r):
    Calls aip 153 #[.agg #[.int .i64 ai, .slice aJ ag.length aI], .int .i64 a1, .int .i64 a2] w fun e w'=>∃dO:Value,e= .returned (dO)∧Kd.S (Kd.slice 2 (Kd.int .i64)) 29 w' w.heap.size (fun _=>True) dO r∧Below w.heap.size w w':=by
  have eU:=ail;have bW:=m_ cG;have cr:=m_ cH;clear cG cH;have HB:=m_ (aim w.heap.size w);have H:=h;unfold jS.f at H;clear h;obtain⟨Va,Vf,H⟩: ∃Va:List (List Int),ak (Va=(([]:List (List Int))))∧(jS.l0 k a1 a2 Va 0 ai ag)=some r:=⟨_,⟨rfl⟩,H⟩;have H':=m_ H;clear H;go_enter Try.func153,Try.ntmps153;go_wp2_with (first|((with_reducible refine bV (N:=3) rfl ?_);refine cC (N:=3) (cs:= #[.int .i64 ai, .slice aJ ag.length aI]) (t:=26) ?_;intro U9 hg w4 aE hb;have U7:=m_ (aE);have Vl:=m_ ((by rw[hg];exact(aN aT):w.heap.size≤U9));have Vj:=m_ ((by rw[hg];exact(aN aT):w.heap.size≤U9));replace HB:=m_ (aG aT hb);clear hb aE hg)|((with_reducible refine bV (N:=12) rfl ?_);refine Kd.uB (Kd.slice 2 (Kd.int .i64)) _ 29 ?hg (N:=12) ?hd (xs:=([]:List (List Int))) (inner:=[]) (ok:=fun _=>True) (cI:=fun _=>True) ?hr ?hp (fun _ hk=>hk) trivial (aim _ _) (ahp _) bJ ?_;(case hd=>rfl);(case hg=>rfl);(case hr=>first|(go_simp;done)|(go_simp;rfl));(case hp=>exact(bO.none _ _));intro Vk w5 sn hb cL cV;clear cL cV;rw[← Vf.1]at sn;have Vg:=m_ (Kd.gF sn (aN aj));replace U7:=m_ (aW U7.1 hb);replace HB:=m_ (aG aj hb);clear hb sn));go_loopg [7,8] k (fun kq v7 v8 w'=>∃(bT:List (List Int)) (bX:Int),v8= .int .i64 bX∧ak (jS.l0 kq a1 a2 bT bX ai ag=some r)∧ak (kq≤k)∧ak (Kd.S (Kd.slice 2 (Kd.int .i64)) 29 w' w.heap.size (fun _=>True) v7 bT)∧ak (w'.heap[U9]? =some (.cells #[.int .i64 ai,(.slice aJ ag.length aI)] 26 (0,0)))∧ak (Below w.heap.size w w'))
  case atStart=>exact⟨(Va),(0),bA,H',⟨ahp _⟩,⟨Kd.bH Vg.1 af⟩,⟨av U7.1 af⟩,⟨aj⟩⟩
  case round=>
    clear H';obtain⟨bT,bX,rfl,HA,bP,bF,U7,HB⟩:=hrel;cases gk with
    | zero=>exact absurd HA.1 (by simp[jS.l0])
    | succ k1=>
      have H:=HA.1;clear HA;simp only[jS.l0]at H
      by_cases c7:bX<(wrap64 (2*(ag.length:Int)))
      · rw[aC c7]at H
        have iT:=aV c7;clear c7;obtain⟨⟨Vd,yI⟩,A8,H⟩:=bE H;dsimp only at H
        by_cases c9:Vd=a1
        · rw[aC c9]at H
          obtain⟨jJ,uL⟩:=dz c9;clear c9;obtain⟨Vb,Ve⟩: ∃y_,ak (y_=([bX]:List Int)):=⟨_,⟨rfl⟩⟩;rw[← Ve.1]at H;obtain⟨c10,H⟩:=bN H;have Vh:=m_ c10;clear c10;obtain⟨uO,Jz,H⟩: ∃uO:List (List Int),ak (uO=(bT++[Vb]))∧(jS.l0 k1 a1 a2 uO (wrap64 (bX+1)) ai ag)=some r:=⟨_,⟨rfl⟩,H⟩;have H':=m_ H;clear H;have wD:=aX U7.1;have wE:=aZ U7.1;have wF:=ax U7.1 0;have wG:=ax U7.1 1;go_wp2_with (first|((with_reducible refine bu (f:=152) rfl ?_);refine bz (some 24) aiV #[.agg #[.int .i64 ai, .slice aJ ag.length aI], .int .i64 bX] ?_;(with_reducible refine(kE.calls ai _ _ ag bX Vd yI _ ?aq ?au A8.1).mono ?_);(case aq=>exact Kd.ay (Kd.ay bW.1 HB.1) af);(case au=>exact cr.1);rintro e nG ⟨rfl,hb⟩;refine⟨_,rfl, ?_⟩;replace bF:=m_ (Kd.bH (Kd.bH bF.1 af) hb);replace U7:=m_ (aW U7.1 hb);replace HB:=m_ (aG aj hb);clear hb)|((with_reducible refine bV (N:=32) rfl ?_);refine Kd.jv (Kd.int .i64) _ 2 ?hg (N:=32) ?hd (xs:=([bX]:List Int)) (inner:=[.int .i64 bX]) (ok:=fun _=>True) (cI:=fun _=>True) ?hr ?hp (fun _ hk=>hk) trivial (aim _ _) (ahp _) bJ ?_;(case hd=>rfl);(case hg=>rfl);(case hr=>first|(go_simp;done)|(go_simp;rfl));(case hp=>exact(bO.one (show Kd.M (Kd.int .i64) _ _ _ bX [.int .i64 bX] from rfl) (bO.none _ _)));intro Vm mG Vc hb cL cV;clear cL cV;rw[← Ve.1]at Vc;replace bF:=m_ (Kd.jD (Kd.bH bF.1 af) (Kd.dQ Vc) hb);have U8:=m_ (Kd.dR Vc (aN aj));replace U7:=m_ (aW U7.1 hb);replace HB:=m_ (aG aj hb);clear hb Vc;obtain⟨uA,o8,vU⟩:=Kd.dP U8.1;subst vU)|((with_reducible refine iR (b:= .append) (xs:= #[.tmp 30, .tmp 33]) rfl ?_);at_builtin;refine Kd.qq (Kd.slice 2 (Kd.int .i64)) (w0:=w) w.heap.size rfl (.tmp 30) (.tmp 33) 24 29 (.slice none 0 0) 24 rfl aiT mK rfl az aa u7 bT Vb [.slice uA Vb.length o8] (fun _=>True) (fun k_=>some k_=(.slice uA Vb.length o8:Value).ownBlock) rfl rfl ?aP (fun k_ bn=>((Kd.cu (ok':=fun k_=>((fun _=>True)) k_∧some k_≠(u7:Value).ownBlock) (Kd.gu (U8.1) (Kd.iS bF.1) az) (fun k_ hk=>⟨trivial,hk.2⟩))).1 k_ bn.symm) ?aF ?aO ?aB ?aS ?aL ?_;(case aP=>exact Kd.lB (Kd.cu (Kd.lC rfl (Kd.cu (ok':=fun k_=>((fun _=>True)) k_∧some k_≠(u7:Value).ownBlock) (Kd.gu (U8.1) (Kd.iS bF.1) az) (fun k_ hk=>⟨trivial,hk.2⟩))) (fun _ h_=>h_)));(case aB=>exact aj);(case aF=>exact(fun _ _=>trivial));(case aO=>exact(Kd.bH (Kd.cZ bF.1 (fun k_ hk=>⟨trivial,fun e_=>hk.2 e_⟩)) af));(case aS=>exact(aN aj));(case aL=>have:=Vh.1;omega);intro aaf mg ho hb hg hat;rw[← Jz.1]at ho;replace U7:=m_ (fG (av U7.1 af) hg (Kd.j8 bF.1 U7.1 az));replace HB:=m_ (hb);have JA:=m_ (ho);clear bF U8;clear ho hb hg hat));go_roundg k1
          case measure=>have:=bP.1;omega
          case rel=>exact⟨(uO),(wrap64 (bX+1)),bA,H',⟨by have:=bP.1;omega⟩,⟨Kd.bH JA.1 af⟩,⟨av U7.1 af⟩,⟨aj⟩⟩
        · rw[aA c9]at H
          obtain⟨jJ,uL⟩:=dL c9;have H':=m_ H;clear H;have Ao:=aX U7.1;have Ap:=aZ U7.1;have Aq:=ax U7.1 0;have Ar:=ax U7.1 1;go_wp2_with (first|((with_reducible refine bu (f:=152) rfl ?_);refine bz (some 24) aiV #[.agg #[.int .i64 ai, .slice aJ ag.length aI], .int .i64 bX] ?_;(with_reducible refine(kE.calls ai _ _ ag bX Vd yI _ ?aq ?au A8.1).mono ?_);(case aq=>exact Kd.ay (Kd.ay bW.1 HB.1) af);(case au=>exact cr.1);rintro e pS ⟨rfl,hb⟩;refine⟨_,rfl, ?_⟩;replace bF:=m_ (Kd.bH (Kd.bH bF.1 af) hb);replace U7:=m_ (aW U7.1 hb);replace HB:=m_ (aG aj hb);clear hb));go_roundg k1
          case measure=>have:=bP.1;omega
          case rel=>exact⟨(bT),(wrap64 (bX+1)),bA,H',⟨by have:=bP.1;omega⟩,⟨Kd.bH bF.1 af⟩,⟨av U7.1 af⟩,⟨aj⟩⟩
      · rw[aA c7]at H
        have iT:=cz c7;clear c7;have H':=m_ H;clear H;have uH:=aX U7.1;have uI:=aZ U7.1;have uJ:=ax U7.1 0;have uK:=ax U7.1 1;go_wp2;go_loopg [7,11] k1 (fun kq v7 v11 w'=>∃(iH:List (List Int)) (fQ:Int),v11= .int .i64 fQ∧ak (jS.l1 kq a2 iH fQ ai ag=some r)∧ak (kq≤k1)∧ak (Kd.S (Kd.slice 2 (Kd.int .i64)) 29 w' w.heap.size (fun _=>True) v7 iH)∧ak (w'.heap[U9]? =some (.cells #[.int .i64 ai,(.slice aJ ag.length aI)] 26 (0,0)))∧ak (Below w.heap.size w w'))
        case atStart=>exact⟨(bT),(1),bA,H',⟨ahp _⟩,⟨Kd.bH bF.1 af⟩,⟨av U7.1 af⟩,⟨aj⟩⟩
        case round=>
          clear H';obtain⟨iH,fQ,rfl,HA,cP,bF,U7,HB⟩:=hrel;cases gk with
          | zero=>exact absurd HA.1 (by simp[jS.l1])
          | succ k2=>
            have H:=HA.1;clear HA;simp only[jS.l1]at H
            by_cases iU:fQ<a2
            · rw[aC iU]at H
              have uN:=aV iU;clear iU;obtain⟨FN,Vi,H⟩:=bE H;have H':=m_ H;clear H;have DJ:=aX U7.1;have DK:=aZ U7.1;have DL:=ax U7.1 0;have DM:=ax U7.1 1;obtain⟨CO,CP,CQ⟩:=Kd.eN bF.1;subst CQ;go_wp2_with (first|((with_reducible refine bu (f:=216) rfl ?_);refine bz (some 42) Try.func216 #[.agg #[.int .i64 ai, .slice aJ ag.length aI], .slice CO iH.length CP] ?_;(with_reducible refine(iN.calls k2 ai _ _ ag _ _ iH FN _ ?aq ?au ?bL ?bS Vi.1).mono ?_);(case aq=>exact Kd.ay (Kd.ay bW.1 HB.1) af);(case au=>exact cr.1);(case bL=>exact Kd.ay (Kd.eu bF.1).2.2 af);(case bS=>exact(Kd.eu bF.1).2.1);rintro e OP ⟨aag,rfl,aY,hb⟩;refine⟨_,rfl, ?_⟩;have JB:=m_ (Kd.gF (Kd.pX aY (Kd.nK (Kd.bH bF.1 af))) (aN aj));replace bF:=m_ (Kd.jD (Kd.bH bF.1 af) (Kd.kJ aY) hb);replace U7:=m_ (aW U7.1 hb);replace HB:=m_ (aG aj hb);clear hb;(try clear aY)));go_roundg k2
              case measure=>have:=bP.1;have:=cP.1;omega
              case rel=>exact⟨(FN),(wrap64 (fQ+1)),bA,H',⟨by have:=bP.1;have:=cP.1;omega⟩,⟨by(with_reducible repeat (first|apply Kd.eV|apply Kd.eS|apply Kd.ee));exact Kd.cZ JB.1 (fun _ hk=>trivial)⟩,⟨av U7.1 af⟩,⟨aj⟩⟩
            · rw[aA iU]at H
              have uN:=cz iU;clear iU;obtain rfl:=aii H;go_wp2;go_ret;exact⟨_,cB,(Kd.bH bF.1 af),aj⟩

mutual
def fN.j0:Nat→Int→Int→Int→Bool→Int→List (List Int)→Option ((List (List Int))×Int)
  | 0,_,_,_,_,_,_=>none
  | k+1,x1,x2,x8,U7,qC,qD=>if U7=true then (fN.j1 k x1 x2 2 qC qD) else (fN.j1 k x1 x2 x8 qC qD)
def fN.j1:Nat→Int→Int→Int→Int→List (List Int)→Option ((List (List Int))×Int)
  | 0,_,_,_,_,_=>none
  | k+1,x1,x2,x8,qC,qD=>if x8=0 then ((dK.f k qC qD x2).bind fun qg=>(fN.l0 k x1 x2 qg 0 0 qC qD)) else (some (([]:List (List Int)),x8))
def fN.l0:Nat→Int→Int→List (List Int)→Int→Int→Int→List (List Int)→Option ((List (List Int))×Int)
  | 0,_,_,_,_,_,_,_=>none
  | k+1,x1,x2,x9,eB,dM,qC,qD=>if dM<(x9.length:Int) then ((kE.f qC qD dM).bind fun U7=>(if U7.1=x1 then (fN.l1 k x1 x2 x9 eB dM 0 qC qD) else (fN.l0 k x1 x2 x9 eB (wrap64 (dM+1)) qC qD))) else (if eB>400 then (some (([]:List (List Int)),3)) else ((jS.f k qC qD x1 x2).bind fun J5=>(some (J5,0))))
def fN.l1:Nat→Int→Int→List (List Int)→Int→Int→Int→Int→List (List Int)→Option ((List (List Int))×Int)
  | 0,_,_,_,_,_,_,_,_=>none
  | k+1,x1,x2,x9,eB,dM,iQ,qC,qD=>if iQ<(x9.length:Int) then (if 0≤dM then (if dM<(x9.length:Int) then (if 0≤iQ then (if iQ<((aM x9 dM).length:Int) then (fN.l1 k x1 x2 x9 (wrap64 (eB+(rd (aM x9 dM) iQ))) dM (wrap64 (iQ+1)) qC qD) else (none)) else (none)) else (none)) else (none)) else (fN.l0 k x1 x2 x9 eB (wrap64 (dM+1)) qC qD)
end
def fN.f (k:Nat) (ai:Int) (ag:List (List Int)) (a1:Int) (a2:Int):Option ((List (List Int))×Int):=(sJ.f k ai ag a2 1).bind fun wT=>(if wT=0 then ((kX.f a1 0 (wrap64 (ai - 1))).bind fun FO=>(fN.j0 k a1 a2 wT (!FO) ai ag)) else (fN.j0 k a1 a2 wT false ai ag))
theorem fN.calls (k:Nat) (ai:Int) (aJ:Option Addr) (aI:Nat) (ag:List (List Int)) (a1:Int) (a2:Int) (r1:List (List Int)) (r2:Int) (w:World) (cG:Kd.C (Kd.slice 2 (Kd.int .i64)) w aJ ag.length ag) (cH:ag.length≤aI) (h:fN.f k ai ag a1 a2=some (r1,r2)):
    Calls aip 39 #[.agg #[.int .i64 ai, .slice aJ ag.length aI], .int .i64 a1, .int .i64 a2] w fun e w'=>∃dO:Value,e= .returned (.tuple #[dO, .int .i64 r2])∧Kd.S (Kd.slice 2 (Kd.int .i64)) 29 w' w.heap.size (fun _=>True) dO r1∧Below w.heap.size w w':=by
  have eU:=ail;have bW:=m_ cG;have cr:=m_ cH;clear cG cH;have HB:=m_ (aim w.heap.size w);have H:=h;unfold fN.f at H;clear h;obtain⟨wT,A4,H⟩:=bE H;have Vm:=m_ H;clear H;go_enter Try.func39,Try.ntmps39;go_upto_region 2 with (first|((with_reducible refine bV (N:=3) rfl ?_);refine cC (N:=3) (cs:= #[.int .i64 ai, .slice aJ ag.length aI]) (t:=26) ?_;intro Va hg w6 aE hb;have U7:=m_ (aE);have VH:=m_ ((by rw[hg];exact(aN aT):w.heap.size≤Va));have VJ:=m_ ((by rw[hg];exact(aN aT):w.heap.size≤Va));replace HB:=m_ (aG aT hb);clear hb aE hg;have qO:=aX U7.1;have sS:=aZ U7.1;have rT:=ax U7.1 0;have sU:=ax U7.1 1)|((with_reducible refine bu (f:=118) rfl ?_);refine bz (some 17) ai3 #[.agg #[.int .i64 ai, .slice aJ ag.length aI], .int .i64 a2, .int .i64 1] ?_;(with_reducible refine(sJ.calls k ai _ _ ag a2 1 wT _ ?aq ?au A4.1).mono ?_);(case aq=>exact Kd.ay (Kd.ay bW.1 HB.1) af);(case au=>exact cr.1);rintro e w8 ⟨rfl,hb⟩;refine⟨_,rfl, ?_⟩;replace U7:=m_ (aW U7.1 hb);replace HB:=m_ (aG aj hb);clear hb))
  (try simp only[aiP,aiu,aiv,aiw]);go_cut [27] (fun DN wc=>∃(kq:Nat) (Vg:Bool),DN= .bool Vg∧ak (fN.j0 kq a1 a2 wT Vg ai ag=some (r1,r2))∧ak (kq≤k)∧ak (wc.heap[Va]? =some (.cells #[.int .i64 ai,(.slice aJ ag.length aI)] 26 (0,0)))∧ak (Below w.heap.size w wc))
  case first=>
    have H:=Vm.1;clear Vm
    by_cases c9:wT=0
    · rw[aC c9]at H
      obtain⟨jJ,uL⟩:=dz c9;clear c9;(first|rw[jJ]|(simp only[ez,fT];rw[jJ])|skip);obtain⟨FO,xV,H⟩:=bE H;have H':=m_ H;clear H;have wD:=aX U7.1;have wE:=aZ U7.1;have wF:=ax U7.1 0;have wG:=ax U7.1 1;go_wp2_with (first|(go_at_call 150;(with_reducible refine(kX.calls a1 0 (wrap64 (ai - 1)) FO _ xV.1).mono ?_);rintro e w' ⟨rfl,⟨nd,rfl⟩⟩));go_meet
      case rel=>exact⟨_,(!FO),bA,H',⟨by first|omega|exact ahp _⟩,⟨av U7.1 af⟩,⟨aj⟩⟩
    · rw[aA c9]at H
      obtain⟨jJ,uL⟩:=dL c9;(first|rw[jJ]|(simp only[ez,fT];rw[jJ])|skip);have H':=m_ H;clear H;go_wp2;go_meet
      case rel=>exact⟨_,(false),bA,H',⟨by first|omega|exact ahp _⟩,⟨av U7.1 af⟩,⟨aj⟩⟩
  case rest=>
    clear Vm;obtain⟨kq,Vg,rfl,HA,U9,U7,HB⟩:=hcut;cases kq with
    | zero=>exact absurd HA.1 (by simp[fN.j0])
    | succ VB=>
      have H:=HA.1;clear HA;simp only[fN.j0]at H;have Vj:=m_ H;clear H
      go_upto_if 27 with (fail)
      go_cut [8] (fun v8 wc=>∃(kq:Nat) (Vf:Int),v8= .int .i64 Vf∧ak (fN.j1 kq a1 a2 Vf ai ag=some (r1,r2))∧ak (kq≤VB)∧ak (wc.heap[Va]? =some (.cells #[.int .i64 ai,(.slice aJ ag.length aI)] 26 (0,0)))∧ak (Below w.heap.size w wc))
      case first=>
        have H:=Vj.1;clear Vj
        by_cases c13:Vg=true
        · subst c13
          rw[aC rfl]at H;have H':=m_ H;clear H;go_wp2;go_meet
          case rel=>exact⟨_,(2),bA,H',⟨by have:=U9.1;first|omega|exact ahp _⟩,⟨av U7.1 af⟩,⟨aj⟩⟩
        · replace c13:=aiq.mpr c13
          subst c13;rw[aA (show ¬(false=true) by decide)]at H;have H':=m_ H;clear H;go_wp2;go_meet
          case rel=>exact⟨_,(wT),bA,H',⟨by have:=U9.1;first|omega|exact ahp _⟩,⟨av U7.1 af⟩,⟨aj⟩⟩
      case rest=>
        clear Vj;obtain⟨kq,Vf,rfl,HA,Vb,U7,HB⟩:=hcut;cases kq with
        | zero=>exact absurd HA.1 (by simp[fN.j1])
        | succ Vn=>
          have H:=HA.1;clear HA;simp only[fN.j1]at H
          by_cases c14:Vf=0
          · rw[aC c14]at H
            obtain⟨nJ,AW⟩:=dz c14;clear c14;obtain⟨qg,wB,H⟩:=bE H;have H':=m_ H;clear H;have DB:=aX U7.1;have DC:=aZ U7.1;have DD:=ax U7.1 0;have DE:=ax U7.1 1;go_wp2_with (first|((with_reducible refine bu (f:=151) rfl ?_);refine bz (some 33) Try.func151 #[.agg #[.int .i64 ai, .slice aJ ag.length aI], .int .i64 a2] ?_;(with_reducible refine(dK.calls Vn ai _ _ ag a2 qg _ ?aq ?au wB.1).mono ?_);(case aq=>exact Kd.ay (Kd.ay bW.1 HB.1) af);(case au=>exact cr.1);rintro e oA ⟨VA,rfl,aY,hb⟩;refine⟨_,rfl, ?_⟩;have Vt:=m_ (Kd.gF aY (aN aj));replace U7:=m_ (aW U7.1 hb);replace HB:=m_ (aG aj hb);clear hb;(try clear aY)));go_loopg [10,11] Vn (fun kq v10 v11 w'=>∃(rA:Int) (dU:Int),v10= .int .i64 rA∧v11= .int .i64 dU∧ak (fN.l0 kq a1 a2 qg rA dU ai ag=some (r1,r2))∧ak (kq≤Vn)∧ak (Kd.S (Kd.slice 2 (Kd.int .i64)) 29 w' w.heap.size (fun _=>True) VA qg)∧ak (w'.heap[Va]? =some (.cells #[.int .i64 ai,(.slice aJ ag.length aI)] 26 (0,0)))∧ak (Below w.heap.size w w'))
            case atStart=>exact⟨(0),(0),bA,bA,H',⟨ahp _⟩,⟨Kd.bH Vt.1 af⟩,⟨av U7.1 af⟩,⟨aj⟩⟩
            case round=>
              clear H';obtain⟨rA,dU,rfl,rfl,HA,eF,dn,U7,HB⟩:=hrel;cases gk with
              | zero=>exact absurd HA.1 (by simp[fN.l0])
              | succ k3=>
                have H:=HA.1;clear HA;simp only[fN.l0]at H
                by_cases c18:dU<(qg.length:Int)
                · rw[aC c18]at H
                  have AR:=aV c18;clear c18;obtain⟨⟨Vk,Vp⟩,AX,H⟩:=bE H;dsimp only at H
                  by_cases iU:Vk=a1
                  · rw[aC iU]at H
                    obtain⟨uN,FL⟩:=dz iU;clear iU;have H':=m_ H;clear H;obtain⟨OQ,OT,J6⟩:=Kd.eN dn.1;subst J6;have DJ:=aX U7.1;have DK:=aZ U7.1;have DL:=ax U7.1 0;have DM:=ax U7.1 1;go_wp2_with (first|((with_reducible refine bu (f:=152) rfl ?_);refine bz (some 43) aiV #[.agg #[.int .i64 ai, .slice aJ ag.length aI], .int .i64 dU] ?_;(with_reducible refine(kE.calls ai _ _ ag dU Vk Vp _ ?aq ?au AX.1).mono ?_);(case aq=>exact Kd.ay (Kd.ay bW.1 HB.1) af);(case au=>exact cr.1);rintro e qV ⟨rfl,hb⟩;refine⟨_,rfl, ?_⟩;replace dn:=m_ (Kd.bH (Kd.bH dn.1 af) hb);replace U7:=m_ (aW U7.1 hb);replace HB:=m_ (aG aj hb);clear hb));go_loopg [10,14] k3 (fun kq v10 yD w'=>∃(lX:Int) (U8:Int),v10= .int .i64 lX∧yD= .int .i64 U8∧ak (fN.l1 kq a1 a2 qg lX dU U8 ai ag=some (r1,r2))∧ak (kq≤k3)∧ak (Kd.S (Kd.slice 2 (Kd.int .i64)) 29 w' w.heap.size (fun _=>True) (.slice OQ qg.length OT) qg)∧ak (w'.heap[Va]? =some (.cells #[.int .i64 ai,(.slice aJ ag.length aI)] 26 (0,0)))∧ak (Below w.heap.size w w'))
                    case atStart=>exact⟨(rA),(0),bA,bA,H',⟨ahp _⟩,⟨Kd.bH dn.1 af⟩,⟨av U7.1 af⟩,⟨aj⟩⟩
                    case round=>
                      clear H';obtain⟨lX,U8,rfl,rfl,HA,jW,dn,U7,HB⟩:=hrel;cases gk with
                      | zero=>exact absurd HA.1 (by simp[fN.l1])
                      | succ k4=>
                        have H:=HA.1;clear HA;simp only[fN.l1]at H
                        by_cases lD:U8<(qg.length:Int)
                        · rw[aC lD]at H
                          have FP:=aV lD;clear lD;obtain⟨jK,H⟩:=bN H;have sj:=aV jK;clear jK;obtain⟨lE,H⟩:=bN H;have wo:=aV lE;clear lE;obtain⟨kL,H⟩:=bN H;have yh:=aV kL;clear kL;obtain⟨j9,H⟩:=bN H;have wq:=aV j9;clear j9;have H':=m_ H;clear H;have Vd:0≤(dU:Int):=aD;have Ve:dU<(qg.length:Int):=aD;obtain⟨VM,VL,VI,VC,Vw,Vs,Vo⟩:=fH (Kd.eu dn.1).2.2 dU Vd Ve;cases VC;obtain⟨VN,Vz,Vv,Vq⟩:=Kd.nL dn.1 [] dU Vd (by first|exact Ve|exact aD|(have e_:=(Kd.eu dn.1).1;omega));obtain⟨VK,rfl,Vi⟩:=Vv;have Vc:=Vq 0 _ rfl;rw[aix,show((Kd.slice 2 (Kd.int .i64))).sz=1 from rfl,aiy]at Vc;replace Vc:=aii (Vc.symm.trans Vw);rw[Vc]at Vi;have VG:=m_ (show Kd.R (Kd.int .i64) 2 _ _ _ _ (aM qg dU) from Vi);clear Vc Vi;clear Vq Vz;have Vr:=m_ Vo;have VO:=m_ Vs;clear Vo Vs;replace Vd:=aH Vd;replace Ve:=aH Ve;have Vl:0≤(U8:Int):=aD;have Vh:U8<((aM qg dU).length:Int):=aD;obtain⟨VE,Vu,VF⟩:=Kd.dA (by repeat (first|(with_reducible exact Vr.1)|(with_reducible refine Kd.iY ?_ _)|(with_reducible refine Kd.iZ ?_ _)|(with_reducible refine Kd.ja ?_)|exact Vr.1)) U8 Vl Vh;cases Vu;replace Vl:=aH Vl;replace Vh:=aH Vh;go_wp2;go_roundg k4
                          case measure=>have:=U9.1;have:=Vb.1;have:=eF.1;have:=jW.1;omega
                          case rel=>exact⟨(wrap64 (lX+(rd (aM qg dU) U8))),(wrap64 (U8+1)),bA,bA,H',⟨by have:=U9.1;have:=Vb.1;have:=eF.1;have:=jW.1;omega⟩,⟨Kd.bH dn.1 af⟩,⟨av U7.1 af⟩,⟨aj⟩⟩
                        · rw[aA lD]at H
                          have FP:=cz lD;clear lD;have H':=m_ H;clear H;go_wp2;go_roundg k4
                          case measure=>have:=U9.1;have:=Vb.1;have:=eF.1;have:=jW.1;omega
                          case rel=>exact⟨(lX),(wrap64 (dU+1)),bA,bA,H',⟨by have:=U9.1;have:=Vb.1;have:=eF.1;have:=jW.1;omega⟩,⟨Kd.bH dn.1 af⟩,⟨av U7.1 af⟩,⟨aj⟩⟩
                  · rw[aA iU]at H
                    obtain⟨uN,FL⟩:=dL iU;have H':=m_ H;clear H;obtain⟨Io,Ip,Iq⟩:=Kd.eN dn.1;subst Iq;have OU:=aX U7.1;have OV:=aZ U7.1;have OW:=ax U7.1 0;have OX:=ax U7.1 1;go_wp2_with (first|((with_reducible refine bu (f:=152) rfl ?_);refine bz (some 43) aiV #[.agg #[.int .i64 ai, .slice aJ ag.length aI], .int .i64 dU] ?_;(with_reducible refine(kE.calls ai _ _ ag dU Vk Vp _ ?aq ?au AX.1).mono ?_);(case aq=>exact Kd.ay (Kd.ay bW.1 HB.1) af);(case au=>exact cr.1);rintro e Fg ⟨rfl,hb⟩;refine⟨_,rfl, ?_⟩;replace dn:=m_ (Kd.bH (Kd.bH dn.1 af) hb);replace U7:=m_ (aW U7.1 hb);replace HB:=m_ (aG aj hb);clear hb));go_roundg k3
                    case measure=>have:=U9.1;have:=Vb.1;have:=eF.1;omega
                    case rel=>exact⟨(rA),(wrap64 (dU+1)),bA,bA,H',⟨by have:=U9.1;have:=Vb.1;have:=eF.1;omega⟩,⟨Kd.bH dn.1 af⟩,⟨av U7.1 af⟩,⟨aj⟩⟩
                · rw[aA c18]at H
                  have AR:=cz c18;clear c18
                  by_cases nM:rA>400
                  · rw[aC nM]at H
                    have Ju:=aV nM;clear nM;simp only[ain,aio]at H;obtain⟨rfl,rfl⟩:=H;obtain⟨Ot,JJ,Di⟩:=Kd.eN dn.1;subst Di;go_wp2
                    go_ret2
                    exact⟨_,cB,by first|exact Kd.om _ _ _ _ _ |exact Kd.n8 _ _ _ _ _ |exact Kd.n9 _ _ _ _ _ |exact Kd.oh _ _ _ _ _ |exact Kd.lM _ _ _ _ _,aj⟩
                  · rw[aA nM]at H
                    have Ju:=cz nM;clear nM;obtain⟨J5,Vy,H⟩:=bE H;simp only[ain,aio]at H;obtain⟨rfl,rfl⟩:=H;obtain⟨uS,uT,y5⟩:=Kd.eN dn.1;subst y5;have Jv:=aX U7.1;have Jw:=aZ U7.1;have Jx:=ax U7.1 0;have Jy:=ax U7.1 1;go_wp2_with (first|((with_reducible refine bu (f:=153) rfl ?_);refine bz (some 69) Try.func153 #[.agg #[.int .i64 ai, .slice aJ ag.length aI], .int .i64 a1, .int .i64 a2] ?_;(with_reducible refine(jS.calls k3 ai _ _ ag a1 a2 J5 _ ?aq ?au Vy.1).mono ?_);(case aq=>exact Kd.ay (Kd.ay bW.1 HB.1) af);(case au=>exact cr.1);rintro e Fw ⟨VD,rfl,aY,hb⟩;refine⟨_,rfl, ?_⟩;have Vx:=m_ (Kd.gF (Kd.pX aY (Kd.nK (Kd.bH dn.1 af))) (aN aj));replace dn:=m_ (Kd.jD (Kd.bH dn.1 af) (Kd.kJ aY) hb);replace U7:=m_ (aW U7.1 hb);replace HB:=m_ (aG aj hb);clear hb;(try clear aY)))
                    go_ret2
                    exact⟨_,cB,by(with_reducible repeat (first|apply Kd.eV|apply Kd.eS|apply Kd.ee));exact Kd.cZ Vx.1 (fun _ hk=>trivial),aj⟩
          · rw[aA c14]at H
            obtain⟨nJ,AW⟩:=dL c14;simp only[ain,aio]at H;obtain⟨rfl,rfl⟩:=H;go_wp2
            go_ret2
            exact⟨_,cB,by first|exact Kd.om _ _ _ _ _ |exact Kd.n8 _ _ _ _ _ |exact Kd.n9 _ _ _ _ _ |exact Kd.oh _ _ _ _ _ |exact Kd.lM _ _ _ _ _,aj⟩

def xJ.f (ai:Int):Option (Bool):=(jR.f ai 0 12).bind fun J7=>(some J7)
theorem xJ.calls (wU:Nat) (ai:Int) (r:Bool) (w:World) (wV:w.heap[wU]? =some (.cells #[.int .i64 ai] 2 (0,0))) (h:xJ.f ai=some r):
    Calls aip 154 #[.pointer (some ⟨wU,0,none⟩)] w fun e w'=>e= .returned (.bool r)∧Below w.heap.size w w':=by
  have U7:=m_ wV;clear wV;have HB:=m_ (aim w.heap.size w);have H:=h;unfold xJ.f at H;clear h;obtain⟨J7,A2,H⟩:=bE H;obtain rfl:=aii H;have OY:=aX U7.1;have OZ:=ax U7.1 0;go_enter Try.func154,Try.ntmps154;go_wp2_with (first|((with_reducible refine bu (f:=106) rfl ?_);refine bz (some 3) Try.func106 #[.int .i64 ai, .int .i64 0, .int .i64 12] ?_;(with_reducible refine(jR.calls ai 0 12 J7 _ A2.1).mono ?_);rintro e w' ⟨rfl,⟨nd,rfl⟩⟩;refine⟨_,rfl, ?_⟩));go_ret;exact⟨cB,aj⟩

def vw.f (k:Nat) (ai:Int) (ag:List (List Int)) (cK:Int):Option (Int):=(jo.f k ai ag).bind fun J8=>(if J8=true then ((xJ.f cK).bind fun J9=>(if J9=true then (some 0) else (some 2))) else (some 1))
theorem vw.calls (k:Nat) (ai:Int) (aJ:Option Addr) (aI:Nat) (ag:List (List Int)) (eO:Nat) (cK:Int) (r:Int) (w:World) (cG:Kd.C (Kd.slice 2 (Kd.int .i64)) w aJ ag.length ag) (cH:ag.length≤aI) (kn:w.heap[eO]? =some (.cells #[.int .i64 cK] 2 (0,0))) (h:vw.f k ai ag cK=some r):
    Calls aip 123 #[.agg #[.int .i64 ai, .slice aJ ag.length aI], .func (.func 154) #[] #[.pointer (some ⟨eO,0,none⟩)]] w fun e w'=>e= .returned (.int .i64 r)∧Below w.heap.size w w':=by
  have eU:=ail;have bW:=m_ cG;have cr:=m_ cH;clear cG cH;have U8:=m_ kn;clear kn;have HB:=m_ (aim w.heap.size w);have H:=h;unfold vw.f at H;clear h;obtain⟨J8,A3,H⟩:=bE H
  by_cases c4:J8=true
  · subst c4
    rw[aC rfl]at H;obtain⟨J9,A5,H⟩:=bE H
    by_cases c6:J9=true
    · subst c6
      rw[aC rfl]at H;obtain rfl:=aii H;go_enter aiZ,Try.ntmps123;go_wp2_with (first|((with_reducible refine bV (N:=2) rfl ?_);refine cC (N:=2) (cs:= #[.int .i64 ai, .slice aJ ag.length aI]) (t:=26) ?_;intro U9 hg w7 aE hb;have U7:=m_ (aE);have Vd:=m_ ((by rw[hg];exact(aN aj):w.heap.size≤U9));have Vc:=m_ ((by rw[hg];exact(aN aj):w.heap.size≤U9));replace HB:=m_ (aG aj hb);have Va:=m_ ((by rw[hg];exact ais (dZ (av U8.1 af)):eO≠U9));have Vb:=m_ Va.1.symm;replace U8:=m_ (aW U8.1 hb);clear hb aE hg;have uu:=Vb.1;have uw:=Va.1;have oo:=aX U7.1;have o5:=aZ U7.1;have o6:=ax U7.1 0;have o7:=ax U7.1 1)|((with_reducible refine bu (f:=136) rfl ?_);refine bz (some 7) ai2 #[.agg #[.int .i64 ai, .slice aJ ag.length aI]] ?_;(with_reducible refine(jo.calls k ai _ _ ag true _ ?aq ?au A3.1).mono ?_);(case aq=>exact Kd.ay (Kd.ay bW.1 HB.1) af);(case au=>exact cr.1);rintro e iP ⟨rfl,hb⟩;refine⟨_,rfl, ?_⟩;replace U8:=m_ (aW U8.1 hb);replace U7:=m_ (aW U7.1 hb);replace HB:=m_ (aG aj hb);clear hb)|((with_reducible refine tH (t:=10) rfl ?_);refine tI (some 11) rfl rfl Try.func154 aU rfl (lb:= #[.pointer (some ⟨eO,0,none⟩)]) #[.pointer (some ⟨eO,0,none⟩)] rfl (by first|rfl|(simp;done)) (by(try simp only[aiD,ahb,aiE,aiX,aiY,ag9]);first|done|rfl|(simp only[List.length_drop,List.length_take];rfl)) ?_;(with_reducible refine(xJ.calls eO cK true _ ?aq A5.1).mono ?_);(case aq=>exact(av U8.1 af));rintro e lq ⟨rfl,hb⟩;refine⟨_,rfl, ?_⟩;replace U8:=m_ (aW U8.1 hb);replace U7:=m_ (aW U7.1 hb);replace HB:=m_ (aG aj hb);clear hb));go_ret;exact⟨cB,aj⟩
    · replace c6:=aiq.mpr c6
      subst c6;rw[aA (show ¬(false=true) by decide)]at H;obtain rfl:=aii H;go_enter aiZ,Try.ntmps123;go_wp2_with (first|((with_reducible refine bV (N:=2) rfl ?_);refine cC (N:=2) (cs:= #[.int .i64 ai, .slice aJ ag.length aI]) (t:=26) ?_;intro U9 hg nG aE hb;have U7:=m_ (aE);have Vd:=m_ ((by rw[hg];exact(aN aj):w.heap.size≤U9));have Vc:=m_ ((by rw[hg];exact(aN aj):w.heap.size≤U9));replace HB:=m_ (aG aj hb);have Va:=m_ ((by rw[hg];exact ais (dZ (av U8.1 af)):eO≠U9));have Vb:=m_ Va.1.symm;replace U8:=m_ (aW U8.1 hb);clear hb aE hg;have OJ:=Vb.1;have OL:=Va.1;have AL:=aX U7.1;have AO:=aZ U7.1;have AP:=ax U7.1 0;have AQ:=ax U7.1 1)|((with_reducible refine bu (f:=136) rfl ?_);refine bz (some 7) ai2 #[.agg #[.int .i64 ai, .slice aJ ag.length aI]] ?_;(with_reducible refine(jo.calls k ai _ _ ag true _ ?aq ?au A3.1).mono ?_);(case aq=>exact Kd.ay (Kd.ay bW.1 HB.1) af);(case au=>exact cr.1);rintro e mg ⟨rfl,hb⟩;refine⟨_,rfl, ?_⟩;replace U8:=m_ (aW U8.1 hb);replace U7:=m_ (aW U7.1 hb);replace HB:=m_ (aG aj hb);clear hb)|((with_reducible refine tH (t:=10) rfl ?_);refine tI (some 11) rfl rfl Try.func154 aU rfl (lb:= #[.pointer (some ⟨eO,0,none⟩)]) #[.pointer (some ⟨eO,0,none⟩)] rfl (by first|rfl|(simp;done)) (by(try simp only[aiD,ahb,aiE,aiX,aiY,ag9]);first|done|rfl|(simp only[List.length_drop,List.length_take];rfl)) ?_;(with_reducible refine(xJ.calls eO cK false _ ?aq A5.1).mono ?_);(case aq=>exact(av U8.1 af));rintro e qP ⟨rfl,hb⟩;refine⟨_,rfl, ?_⟩;replace U8:=m_ (aW U8.1 hb);replace U7:=m_ (aW U7.1 hb);replace HB:=m_ (aG aj hb);clear hb));go_ret;exact⟨cB,aj⟩
  · replace c4:=aiq.mpr c4
    subst c4;rw[aA (show ¬(false=true) by decide)]at H;obtain rfl:=aii H;go_enter aiZ,Try.ntmps123;go_wp2_with (first|((with_reducible refine bV (N:=2) rfl ?_);refine cC (N:=2) (cs:= #[.int .i64 ai, .slice aJ ag.length aI]) (t:=26) ?_;intro U9 hg oA aE hb;have U7:=m_ (aE);have Vd:=m_ ((by rw[hg];exact(aN aj):w.heap.size≤U9));have Vc:=m_ ((by rw[hg];exact(aN aj):w.heap.size≤U9));replace HB:=m_ (aG aj hb);have Va:=m_ ((by rw[hg];exact ais (dZ (av U8.1 af)):eO≠U9));have Vb:=m_ Va.1.symm;replace U8:=m_ (aW U8.1 hb);clear hb aE hg;have O0:=Vb.1;have O1:=Va.1;have uH:=aX U7.1;have uI:=aZ U7.1;have uJ:=ax U7.1 0;have uK:=ax U7.1 1)|((with_reducible refine bu (f:=136) rfl ?_);refine bz (some 7) ai2 #[.agg #[.int .i64 ai, .slice aJ ag.length aI]] ?_;(with_reducible refine(jo.calls k ai _ _ ag false _ ?aq ?au A3.1).mono ?_);(case aq=>exact Kd.ay (Kd.ay bW.1 HB.1) af);(case au=>exact cr.1);rintro e pV ⟨rfl,hb⟩;refine⟨_,rfl, ?_⟩;replace U8:=m_ (aW U8.1 hb);replace U7:=m_ (aW U7.1 hb);replace HB:=m_ (aG aj hb);clear hb));go_ret;exact⟨cB,aj⟩

def rM.f (k:Nat) (ai:Int) (ag:List (List Int)) (a1:Int):Option ((List (List Int))×Int):=(vw.f k ai ag a1).bind fun AY=>(if AY=0 then ((eC.f k ai ag a1).bind fun Ka=>(some (Ka,0))) else (some (([]:List (List Int)),AY)))
theorem rM.calls (k:Nat) (ai:Int) (aJ:Option Addr) (aI:Nat) (ag:List (List Int)) (a1:Int) (r1:List (List Int)) (r2:Int) (w:World) (cG:Kd.C (Kd.slice 2 (Kd.int .i64)) w aJ ag.length ag) (cH:ag.length≤aI) (h:rM.f k ai ag a1=some (r1,r2)):
    Calls aip 40 #[.agg #[.int .i64 ai, .slice aJ ag.length aI], .int .i64 a1] w fun e w'=>∃dO:Value,e= .returned (.tuple #[dO, .int .i64 r2])∧Kd.S (Kd.slice 2 (Kd.int .i64)) 29 w' w.heap.size (fun _=>True) dO r1∧Below w.heap.size w w':=by
  have eU:=ail;have bW:=m_ cG;have cr:=m_ cH;clear cG cH;have HB:=m_ (aim w.heap.size w);have H:=h;unfold rM.f at H;clear h;obtain⟨AY,A3,H⟩:=bE H
  by_cases c4:AY=0
  · rw[aC c4]at H
    obtain⟨dW,iF⟩:=dz c4;clear c4;obtain⟨Ka,A5,H⟩:=bE H;simp only[ain,aio]at H;obtain⟨rfl,rfl⟩:=H;go_enter Try.func40,Try.ntmps40;go_wp2_with (first|((with_reducible refine bV (N:=2) rfl ?_);refine cC (N:=2) (cs:= #[.int .i64 ai, .slice aJ ag.length aI]) (t:=26) ?_;intro Va hg w6 aE hb;have U7:=m_ (aE);have Vf:=m_ ((by rw[hg];exact(aN aT):w.heap.size≤Va));have Vg:=m_ ((by rw[hg];exact(aN aT):w.heap.size≤Va));replace HB:=m_ (aG aT hb);clear hb aE hg)|((with_reducible refine bV (N:=3) rfl ?_);refine cC (N:=3) (cs:= #[.int .i64 a1]) (t:=2) ?_;intro U8 hg w7 aE hb;have U9:=m_ (aE);have Vh:=m_ ((by rw[hg];exact(aN aj):w.heap.size≤U8));have Vd:=m_ ((by rw[hg];exact(aN aj):w.heap.size≤U8));replace HB:=m_ (aG aj hb);have Vb:=m_ ((by rw[hg];exact ais (dZ (av U7.1 af)):Va≠U8));have Vc:=m_ Vb.1.symm;replace U7:=m_ (aW U7.1 hb);clear hb aE hg;have uu:=Vb.1;have uw:=Vc.1;have oo:=aX U7.1;have o5:=aZ U7.1;have o6:=ax U7.1 0;have o7:=ax U7.1 1)|((with_reducible refine bu (f:=123) rfl ?_);refine bz (some 9) aiZ #[.agg #[.int .i64 ai, .slice aJ ag.length aI], .func (.func 154) #[] #[.pointer (some ⟨U8,0,none⟩)]] ?_;(with_reducible refine(vw.calls k ai _ _ ag U8 a1 AY _ ?aq ?au ?bL A3.1).mono ?_);(case aq=>exact Kd.ay (Kd.ay bW.1 HB.1) af);(case au=>exact cr.1);(case bL=>exact(av U9.1 af));rintro e iP ⟨rfl,hb⟩;refine⟨_,rfl, ?_⟩;replace U7:=m_ (aW U7.1 hb);replace U9:=m_ (aW U9.1 hb);replace HB:=m_ (aG aj hb);clear hb;have wD:=aX U7.1;have wE:=aZ U7.1;have wF:=ax U7.1 0;have wG:=ax U7.1 1;have ux:=aX U9.1;have uy:=ax U9.1 0)|((with_reducible refine bu (f:=146) rfl ?_);refine bz (some 15) Try.func146 #[.agg #[.int .i64 ai, .slice aJ ag.length aI], .int .i64 a1] ?_;(with_reducible refine(eC.calls k ai _ _ ag a1 Ka _ ?aq ?au A5.1).mono ?_);(case aq=>exact Kd.ay (Kd.ay bW.1 HB.1) af);(case au=>exact cr.1);rintro e mG ⟨Vi,rfl,aY,hb⟩;refine⟨_,rfl, ?_⟩;have Ve:=m_ (Kd.gF (Kd.DA aY (g:=U8) (o:= .cells #[.int .i64 a1] 2 (0,0)) (av U9.1 af)) (aN aj));replace U7:=m_ (aW U7.1 hb);replace U9:=m_ (aW U9.1 hb);replace HB:=m_ (aG aj hb);clear hb;(try clear aY)))
    go_ret2
    exact⟨_,cB,by(with_reducible repeat (first|apply Kd.eV|apply Kd.eS|apply Kd.ee));exact Kd.cZ Ve.1 (fun _ hk=>trivial),aj⟩
  · rw[aA c4]at H
    obtain⟨dW,iF⟩:=dL c4;simp only[ain,aio]at H;obtain⟨rfl,rfl⟩:=H;go_enter Try.func40,Try.ntmps40;go_wp2_with (first|((with_reducible refine bV (N:=2) rfl ?_);refine cC (N:=2) (cs:= #[.int .i64 ai, .slice aJ ag.length aI]) (t:=26) ?_;intro Va hg qu aE hb;have U7:=m_ (aE);have Vf:=m_ ((by rw[hg];exact(aN aT):w.heap.size≤Va));have Vg:=m_ ((by rw[hg];exact(aN aT):w.heap.size≤Va));replace HB:=m_ (aG aT hb);clear hb aE hg)|((with_reducible refine bV (N:=3) rfl ?_);refine cC (N:=3) (cs:= #[.int .i64 a1]) (t:=2) ?_;intro U8 hg mg aE hb;have U9:=m_ (aE);have Vh:=m_ ((by rw[hg];exact(aN aj):w.heap.size≤U8));have Vd:=m_ ((by rw[hg];exact(aN aj):w.heap.size≤U8));replace HB:=m_ (aG aj hb);have Vb:=m_ ((by rw[hg];exact ais (dZ (av U7.1 af)):Va≠U8));have Vc:=m_ Vb.1.symm;replace U7:=m_ (aW U7.1 hb);clear hb aE hg;have Kb:=Vb.1;have Ke:=Vc.1;have Ao:=aX U7.1;have Ap:=aZ U7.1;have Aq:=ax U7.1 0;have Ar:=ax U7.1 1)|((with_reducible refine bu (f:=123) rfl ?_);refine bz (some 9) aiZ #[.agg #[.int .i64 ai, .slice aJ ag.length aI], .func (.func 154) #[] #[.pointer (some ⟨U8,0,none⟩)]] ?_;(with_reducible refine(vw.calls k ai _ _ ag U8 a1 AY _ ?aq ?au ?bL A3.1).mono ?_);(case aq=>exact Kd.ay (Kd.ay bW.1 HB.1) af);(case au=>exact cr.1);(case bL=>exact(av U9.1 af));rintro e pS ⟨rfl,hb⟩;refine⟨_,rfl, ?_⟩;replace U7:=m_ (aW U7.1 hb);replace U9:=m_ (aW U9.1 hb);replace HB:=m_ (aG aj hb);clear hb))
    go_ret2
    exact⟨_,cB,by first|exact Kd.om _ _ _ _ _ |exact Kd.n8 _ _ _ _ _ |exact Kd.n9 _ _ _ _ _ |exact Kd.oh _ _ _ _ _ |exact Kd.lM _ _ _ _ _,aj⟩

def rL.f (k:Nat) (ai:Int) (ag:List (List Int)) (l1:List Int):Option (Bool×Int):=(jo.f k ai ag).bind fun Kf=>(if Kf=true then ((gy.f k ai ag l1).bind fun Kg=>(some (Kg,0))) else (some (false,1)))
theorem rL.calls (k:Nat) (ai:Int) (aJ:Option Addr) (aI:Nat) (ag:List (List Int)) (A1:Option Addr) (c1:Nat) (l1:List Int) (r1:Bool) (r2:Int) (w:World) (cG:Kd.C (Kd.slice 2 (Kd.int .i64)) w aJ ag.length ag) (cH:ag.length≤aI) (hr1:Kd.C (Kd.int .i64) w A1 l1.length l1) (hc1:l1.length≤c1) (h:rL.f k ai ag l1=some (r1,r2)):
    Calls aip 41 #[.agg #[.int .i64 ai, .slice aJ ag.length aI], .slice A1 l1.length c1] w fun e w'=>e= .returned (.tuple #[.bool r1, .int .i64 r2])∧Below w.heap.size w w':=by
  have eU:=ail;have bW:=m_ cG;have cr:=m_ cH;clear cG cH;have cQ:=m_ hr1;have dS:=m_ hc1;clear hr1 hc1;have HB:=m_ (aim w.heap.size w);have H:=h;unfold rL.f at H;clear h;obtain⟨Kf,A3,H⟩:=bE H
  by_cases c4:Kf=true
  · subst c4
    rw[aC rfl]at H;obtain⟨Kg,A5,H⟩:=bE H;simp only[ain,aio]at H;obtain⟨rfl,rfl⟩:=H;go_enter Try.func41,Try.ntmps41;go_wp2_with (first|((with_reducible refine bV (N:=2) rfl ?_);refine cC (N:=2) (cs:= #[.int .i64 ai, .slice aJ ag.length aI]) (t:=26) ?_;intro U8 hg w6 aE hb;have U7:=m_ (aE);have Va:=m_ ((by rw[hg];exact(aN aT):w.heap.size≤U8));have U9:=m_ ((by rw[hg];exact(aN aT):w.heap.size≤U8));replace HB:=m_ (aG aT hb);clear hb aE hg;have qO:=aX U7.1;have sS:=aZ U7.1;have rT:=ax U7.1 0;have sU:=ax U7.1 1)|((with_reducible refine bu (f:=136) rfl ?_);refine bz (some 7) ai2 #[.agg #[.int .i64 ai, .slice aJ ag.length aI]] ?_;(with_reducible refine(jo.calls k ai _ _ ag true _ ?aq ?au A3.1).mono ?_);(case aq=>exact Kd.ay (Kd.ay bW.1 HB.1) af);(case au=>exact cr.1);rintro e w8 ⟨rfl,hb⟩;refine⟨_,rfl, ?_⟩;replace U7:=m_ (aW U7.1 hb);replace HB:=m_ (aG aj hb);clear hb;have oo:=aX U7.1;have o5:=aZ U7.1;have o6:=ax U7.1 0;have o7:=ax U7.1 1)|((with_reducible refine bu (f:=155) rfl ?_);refine bz (some 11) Try.func155 #[.agg #[.int .i64 ai, .slice aJ ag.length aI], .slice A1 l1.length c1] ?_;(with_reducible refine(gy.calls k ai _ _ ag _ _ l1 Kg _ ?aq ?au ?bL ?bS A5.1).mono ?_);(case aq=>exact Kd.ay (Kd.ay bW.1 HB.1) af);(case au=>exact cr.1);(case bL=>exact Kd.ay (Kd.ay cQ.1 HB.1) af);(case bS=>exact dS.1);rintro e iP ⟨rfl,hb⟩;refine⟨_,rfl, ?_⟩;replace U7:=m_ (aW U7.1 hb);replace HB:=m_ (aG aj hb);clear hb))
    go_ret2
    exact⟨cB,aj⟩
  · replace c4:=aiq.mpr c4
    subst c4;rw[aA (show ¬(false=true) by decide)]at H;simp only[ain,aio]at H;obtain⟨rfl,rfl⟩:=H;go_enter Try.func41,Try.ntmps41;go_wp2_with (first|((with_reducible refine bV (N:=2) rfl ?_);refine cC (N:=2) (cs:= #[.int .i64 ai, .slice aJ ag.length aI]) (t:=26) ?_;intro U8 hg lq aE hb;have U7:=m_ (aE);have Va:=m_ ((by rw[hg];exact(aN aT):w.heap.size≤U8));have U9:=m_ ((by rw[hg];exact(aN aT):w.heap.size≤U8));replace HB:=m_ (aG aT hb);clear hb aE hg;have ux:=aX U7.1;have vQ:=aZ U7.1;have uy:=ax U7.1 0;have vR:=ax U7.1 1)|((with_reducible refine bu (f:=136) rfl ?_);refine bz (some 7) ai2 #[.agg #[.int .i64 ai, .slice aJ ag.length aI]] ?_;(with_reducible refine(jo.calls k ai _ _ ag false _ ?aq ?au A3.1).mono ?_);(case aq=>exact Kd.ay (Kd.ay bW.1 HB.1) af);(case au=>exact cr.1);rintro e mG ⟨rfl,hb⟩;refine⟨_,rfl, ?_⟩;replace U7:=m_ (aW U7.1 hb);replace HB:=m_ (aG aj hb);clear hb))
    go_ret2
    exact⟨cB,aj⟩

mutual
def iL.l0:Nat→List (List Int)→Int→Int→Int→List (List Int)→Option (Int)
  | 0,_,_,_,_,_=>none
  | k+1,x5,x6,x7,y6,y7=>if x7<(x5.length:Int) then (iL.l1 k x5 x6 x7 0 y6 y7) else (some x6)
def iL.l1:Nat→List (List Int)→Int→Int→Int→Int→List (List Int)→Option (Int)
  | 0,_,_,_,_,_,_=>none
  | k+1,x5,x6,x7,x8,y6,y7=>if x8<(x5.length:Int) then (if 0≤x7 then (if x7<(x5.length:Int) then (if 0≤x8 then (if x8<((aM x5 x7).length:Int) then (if (rd (aM x5 x7) x8)>0 then ((jg.f y6 y7 x8 x7).bind fun Kh=>(if Kh=true then (iL.l1 k x5 (wrap64 (x6+(rd (aM x5 x7) x8))) x7 (wrap64 (x8+1)) y6 y7) else (iL.l1 k x5 x6 x7 (wrap64 (x8+1)) y6 y7))) else (iL.l1 k x5 x6 x7 (wrap64 (x8+1)) y6 y7)) else (none)) else (none)) else (none)) else (none)) else (iL.l0 k x5 x6 (wrap64 (x7+1)) y6 y7)
end
def iL.f (k:Nat) (ai:Int) (ag:List (List Int)) (a1:Int):Option (Int):=(dK.f k ai ag a1).bind fun kN=>(iL.l0 k kN 0 0 ai ag)
theorem iL.calls (k:Nat) (ai:Int) (aJ:Option Addr) (aI:Nat) (ag:List (List Int)) (a1:Int) (r:Int) (w:World) (cG:Kd.C (Kd.slice 2 (Kd.int .i64)) w aJ ag.length ag) (cH:ag.length≤aI) (h:iL.f k ai ag a1=some r):
    Calls aip 134 #[.agg #[.int .i64 ai, .slice aJ ag.length aI], .int .i64 a1] w fun e w'=>e= .returned (.int .i64 r)∧Below w.heap.size w w':=by
  have eU:=ail;have bW:=m_ cG;have cr:=m_ cH;clear cG cH;have HB:=m_ (aim w.heap.size w);have H:=h;unfold iL.f at H;clear h;obtain⟨kN,A3,H⟩:=bE H;have H':=m_ H;clear H;go_enter Try.func134,Try.ntmps134;go_wp2_with (first|((with_reducible refine bV (N:=2) rfl ?_);refine cC (N:=2) (cs:= #[.int .i64 ai, .slice aJ ag.length aI]) (t:=26) ?_;intro Vs hg w4 aE hb;have U7:=m_ (aE);have VS:=m_ ((by rw[hg];exact(aN aT):w.heap.size≤Vs));have VU:=m_ ((by rw[hg];exact(aN aT):w.heap.size≤Vs));replace HB:=m_ (aG aT hb);clear hb aE hg;have FQ:=aX U7.1;have Ki:=aZ U7.1;have FR:=ax U7.1 0;have Kj:=ax U7.1 1)|((with_reducible refine bu (f:=151) rfl ?_);refine bz (some 11) Try.func151 #[.agg #[.int .i64 ai, .slice aJ ag.length aI], .int .i64 a1] ?_;(with_reducible refine(dK.calls k ai _ _ ag a1 kN _ ?aq ?au A3.1).mono ?_);(case aq=>exact Kd.ay (Kd.ay bW.1 HB.1) af);(case au=>exact cr.1);rintro e w6 ⟨VI,rfl,aY,hb⟩;refine⟨_,rfl, ?_⟩;have VN:=m_ (Kd.gF aY (aN aj));replace U7:=m_ (aW U7.1 hb);replace HB:=m_ (aG aj hb);clear hb;(try clear aY)));go_loopg [6,7] k (fun kq v6 v7 w'=>∃(dV:Int) (bT:Int),v6= .int .i64 dV∧v7= .int .i64 bT∧ak (iL.l0 kq kN dV bT ai ag=some r)∧ak (kq≤k)∧ak (Kd.S (Kd.slice 2 (Kd.int .i64)) 29 w' w.heap.size (fun _=>True) VI kN)∧ak (w'.heap[Vs]? =some (.cells #[.int .i64 ai,(.slice aJ ag.length aI)] 26 (0,0)))∧ak (Below w.heap.size w w'))
  case atStart=>exact⟨(0),(0),bA,bA,H',⟨ahp _⟩,⟨Kd.bH VN.1 af⟩,⟨av U7.1 af⟩,⟨aj⟩⟩
  case round=>
    clear H';obtain⟨dV,bT,rfl,rfl,HA,bP,cj,U7,HB⟩:=hrel;cases gk with
    | zero=>exact absurd HA.1 (by simp[iL.l0])
    | succ k1=>
      have H:=HA.1;clear HA;simp only[iL.l0]at H
      by_cases c7:bT<(kN.length:Int)
      · rw[aC c7]at H
        have iT:=aV c7;clear c7;have H':=m_ H;clear H;obtain⟨pW,ot,qR⟩:=Kd.eN cj.1;subst qR;go_wp2;go_loopg [6,8] k1 (fun kq v6 v8 w'=>∃(Vi:Int) (dw:Int),v6= .int .i64 Vi∧v8= .int .i64 dw∧ak (iL.l1 kq kN Vi bT dw ai ag=some r)∧ak (kq≤k1)∧ak (Kd.S (Kd.slice 2 (Kd.int .i64)) 29 w' w.heap.size (fun _=>True) (.slice pW kN.length ot) kN)∧ak (w'.heap[Vs]? =some (.cells #[.int .i64 ai,(.slice aJ ag.length aI)] 26 (0,0)))∧ak (Below w.heap.size w w'))
        case atStart=>exact⟨(dV),(0),bA,bA,H',⟨ahp _⟩,⟨Kd.bH cj.1 af⟩,⟨av U7.1 af⟩,⟨aj⟩⟩
        case round=>
          clear H';obtain⟨Vi,dw,rfl,rfl,HA,cP,cj,U7,HB⟩:=hrel;cases gk with
          | zero=>exact absurd HA.1 (by simp[iL.l1])
          | succ k2=>
            have H:=HA.1;clear HA;simp only[iL.l1]at H
            by_cases c9:dw<(kN.length:Int)
            · rw[aC c9]at H
              have jJ:=aV c9;clear c9;obtain⟨c10,H⟩:=bN H;have mJ:=aV c10;clear c10;obtain⟨c11,H⟩:=bN H;have lN:=aV c11;clear c11;obtain⟨c12,H⟩:=bN H;have qp:=aV c12;clear c12;obtain⟨c13,H⟩:=bN H;have pR:=aV c13;clear c13
              by_cases c14:(rd (aM kN bT) dw)>0
              · rw[aC c14]at H
                have nJ:=aV c14;clear c14;obtain⟨Kh,wB,H⟩:=bE H
                by_cases c16:Kh=true
                · subst c16
                  rw[aC rfl]at H;have H':=m_ H;clear H;have U9:0≤(bT:Int):=aD;have Vb:bT<(kN.length:Int):=aD;obtain⟨Vw,Vx,VA,Vl,Vp,Vh,Vg⟩:=fH (Kd.eu cj.1).2.2 bT U9 Vb;cases Vl;obtain⟨VF,Vn,Vk,Vf⟩:=Kd.nL cj.1 [] bT U9 (by first|exact Vb|exact aD|(have e_:=(Kd.eu cj.1).1;omega));obtain⟨Vy,rfl,Vd⟩:=Vk;have U8:=Vf 0 _ rfl;rw[aix,show((Kd.slice 2 (Kd.int .i64))).sz=1 from rfl,aiy]at U8;replace U8:=aii (U8.symm.trans Vp);rw[U8]at Vd;have Vj:=m_ (show Kd.R (Kd.int .i64) 2 _ _ _ _ (aM kN bT) from Vd);clear U8 Vd;clear Vf Vn;have Va:=m_ Vg;have VD:=m_ Vh;clear Vg Vh;replace U9:=aH U9;replace Vb:=aH Vb;have Ve:0≤(dw:Int):=aD;have Vc:dw<((aM kN bT).length:Int):=aD;obtain⟨VB,Vm,VH⟩:=Kd.dA (by repeat (first|(with_reducible exact Va.1)|(with_reducible refine Kd.iY ?_ _)|(with_reducible refine Kd.iZ ?_ _)|(with_reducible refine Kd.ja ?_)|exact Va.1)) dw Ve Vc;cases Vm;replace Ve:=aH Ve;replace Vc:=aH Vc;have Ao:=aX U7.1;have Ap:=aZ U7.1;have Aq:=ax U7.1 0;have Ar:=ax U7.1 1;go_wp2_with (first|(go_at_call 215;(with_reducible refine(jg.calls ai _ _ ag dw bT true _ ?aq ?au wB.1).mono ?_);(case aq=>exact Kd.ay (Kd.ay bW.1 HB.1) af);(case au=>exact cr.1);rintro e pS ⟨rfl,hb⟩;replace cj:=m_ (Kd.bH (Kd.bH cj.1 af) hb);replace Vj:=m_ (Kd.bG (by(with_reducible repeat (first|apply Kd.gU|apply Kd.gK|apply Kd.fM));exact Vj.1) hb);replace U7:=m_ (aW U7.1 hb);replace Va:=m_ (Kd.ay (by repeat (first|(with_reducible exact Va.1)|(with_reducible refine Kd.iY ?_ _)|(with_reducible refine Kd.iZ ?_ _)|(with_reducible refine Kd.ja ?_)|exact Va.1)) hb);replace HB:=m_ (aG aj hb);clear hb;have Vq:0≤(bT:Int):=aD;have Vr:bT<(kN.length:Int):=aD;obtain⟨VL,VT,VY,VK,VO,VG,VE⟩:=fH (Kd.eu cj.1).2.2 bT Vq Vr;obtain rfl:Vw=VL:=(by injection VK);obtain⟨VW,VJ,VP,Vz⟩:=Kd.nL cj.1 [] bT Vq (by first|exact Vr|exact aD|(have e_:=(Kd.eu cj.1).1;omega));obtain⟨VZ,rfl,Vv⟩:=VP;have Vo:=Vz 0 _ rfl;rw[aix,show((Kd.slice 2 (Kd.int .i64))).sz=1 from rfl,aiy]at Vo;replace Vo:=aii (Vo.symm.trans VO);rw[Vo]at Vv;have VQ:=m_ (show Kd.R (Kd.int .i64) 2 _ _ _ _ (aM kN bT) from Vv);clear Vo Vv;clear Vz VJ;have VC:=m_ VE;have VX:=m_ VG;clear VE VG;replace Vq:=aH Vq;replace Vr:=aH Vr;have Vt:0≤(dw:Int):=aD;have Vu:dw<((aM kN bT).length:Int):=aD;obtain⟨VR,VM,VV⟩:=Kd.dA (by repeat (first|(with_reducible exact VC.1)|(with_reducible refine Kd.iY ?_ _)|(with_reducible refine Kd.iZ ?_ _)|(with_reducible refine Kd.ja ?_)|exact VC.1)) dw Vt Vu;cases VM;replace Vt:=aH Vt;replace Vu:=aH Vu));go_roundg k2
                  case measure=>have:=bP.1;have:=cP.1;omega
                  case rel=>exact⟨(wrap64 (Vi+(rd (aM kN bT) dw))),(wrap64 (dw+1)),bA,bA,H',⟨by have:=bP.1;have:=cP.1;omega⟩,⟨Kd.bH cj.1 af⟩,⟨av U7.1 af⟩,⟨aj⟩⟩
                · replace c16:=aiq.mpr c16
                  subst c16;rw[aA (show ¬(false=true) by decide)]at H;have H':=m_ H;clear H;have U9:0≤(bT:Int):=aD;have Vb:bT<(kN.length:Int):=aD;obtain⟨Vw,Vx,VA,Vl,Vp,Vh,Vg⟩:=fH (Kd.eu cj.1).2.2 bT U9 Vb;cases Vl;obtain⟨VF,Vn,Vk,Vf⟩:=Kd.nL cj.1 [] bT U9 (by first|exact Vb|exact aD|(have e_:=(Kd.eu cj.1).1;omega));obtain⟨Vy,rfl,Vd⟩:=Vk;have U8:=Vf 0 _ rfl;rw[aix,show((Kd.slice 2 (Kd.int .i64))).sz=1 from rfl,aiy]at U8;replace U8:=aii (U8.symm.trans Vp);rw[U8]at Vd;have Vj:=m_ (show Kd.R (Kd.int .i64) 2 _ _ _ _ (aM kN bT) from Vd);clear U8 Vd;clear Vf Vn;have Va:=m_ Vg;have VD:=m_ Vh;clear Vg Vh;replace U9:=aH U9;replace Vb:=aH Vb;have Ve:0≤(dw:Int):=aD;have Vc:dw<((aM kN bT).length:Int):=aD;obtain⟨VB,Vm,VH⟩:=Kd.dA (by repeat (first|(with_reducible exact Va.1)|(with_reducible refine Kd.iY ?_ _)|(with_reducible refine Kd.iZ ?_ _)|(with_reducible refine Kd.ja ?_)|exact Va.1)) dw Ve Vc;cases Vm;replace Ve:=aH Ve;replace Vc:=aH Vc;have uH:=aX U7.1;have uI:=aZ U7.1;have uJ:=ax U7.1 0;have uK:=ax U7.1 1;go_wp2_with (first|(go_at_call 215;(with_reducible refine(jg.calls ai _ _ ag dw bT false _ ?aq ?au wB.1).mono ?_);(case aq=>exact Kd.ay (Kd.ay bW.1 HB.1) af);(case au=>exact cr.1);rintro e pV ⟨rfl,hb⟩;replace cj:=m_ (Kd.bH (Kd.bH cj.1 af) hb);replace Vj:=m_ (Kd.bG (by(with_reducible repeat (first|apply Kd.gU|apply Kd.gK|apply Kd.fM));exact Vj.1) hb);replace U7:=m_ (aW U7.1 hb);replace Va:=m_ (Kd.ay (by repeat (first|(with_reducible exact Va.1)|(with_reducible refine Kd.iY ?_ _)|(with_reducible refine Kd.iZ ?_ _)|(with_reducible refine Kd.ja ?_)|exact Va.1)) hb);replace HB:=m_ (aG aj hb);clear hb));go_roundg k2
                  case measure=>have:=bP.1;have:=cP.1;omega
                  case rel=>exact⟨(Vi),(wrap64 (dw+1)),bA,bA,H',⟨by have:=bP.1;have:=cP.1;omega⟩,⟨Kd.bH cj.1 af⟩,⟨av U7.1 af⟩,⟨aj⟩⟩
              · rw[aA c14]at H
                have nJ:=cz c14;clear c14;have H':=m_ H;clear H;have U9:0≤(bT:Int):=aD;have Vb:bT<(kN.length:Int):=aD;obtain⟨Vw,Vx,VA,Vl,Vp,Vh,Vg⟩:=fH (Kd.eu cj.1).2.2 bT U9 Vb;cases Vl;obtain⟨VF,Vn,Vk,Vf⟩:=Kd.nL cj.1 [] bT U9 (by first|exact Vb|exact aD|(have e_:=(Kd.eu cj.1).1;omega));obtain⟨Vy,rfl,Vd⟩:=Vk;have U8:=Vf 0 _ rfl;rw[aix,show((Kd.slice 2 (Kd.int .i64))).sz=1 from rfl,aiy]at U8;replace U8:=aii (U8.symm.trans Vp);rw[U8]at Vd;have Vj:=m_ (show Kd.R (Kd.int .i64) 2 _ _ _ _ (aM kN bT) from Vd);clear U8 Vd;clear Vf Vn;have Va:=m_ Vg;have VD:=m_ Vh;clear Vg Vh;replace U9:=aH U9;replace Vb:=aH Vb;have Ve:0≤(dw:Int):=aD;have Vc:dw<((aM kN bT).length:Int):=aD;obtain⟨VB,Vm,VH⟩:=Kd.dA (by repeat (first|(with_reducible exact Va.1)|(with_reducible refine Kd.iY ?_ _)|(with_reducible refine Kd.iZ ?_ _)|(with_reducible refine Kd.ja ?_)|exact Va.1)) dw Ve Vc;cases Vm;replace Ve:=aH Ve;replace Vc:=aH Vc;go_wp2;go_roundg k2
                case measure=>have:=bP.1;have:=cP.1;omega
                case rel=>exact⟨(Vi),(wrap64 (dw+1)),bA,bA,H',⟨by have:=bP.1;have:=cP.1;omega⟩,⟨Kd.bH cj.1 af⟩,⟨av U7.1 af⟩,⟨aj⟩⟩
            · rw[aA c9]at H
              have jJ:=cz c9;clear c9;have H':=m_ H;clear H;go_wp2;go_roundg k2
              case measure=>have:=bP.1;have:=cP.1;omega
              case rel=>exact⟨(Vi),(wrap64 (bT+1)),bA,bA,H',⟨by have:=bP.1;have:=cP.1;omega⟩,⟨Kd.bH cj.1 af⟩,⟨av U7.1 af⟩,⟨aj⟩⟩
      · rw[aA c7]at H
        have iT:=cz c7;clear c7;obtain rfl:=aii H;obtain⟨OQ,OT,J6⟩:=Kd.eN cj.1;subst J6;go_wp2;go_ret;exact⟨cB,aj⟩

end Go.Proofs.Ytkadhadceongiaa.G
