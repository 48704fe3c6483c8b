/- The printed functions that this law reaches, and their contracts: part 2. -/

import Derived.Test.YtkadhadceongiaaC1
namespace Go.Proofs.Ytkadhadceongiaa.G
open Go.RowKit Go.Proofs.YtkadhadceongiaaW.PrintWords Go.Proofs.YtkadhadceongiaaW.PrintLast Go.Proofs.YtkadhadceongiaaW.PrintMore
open Option.some renaming inj → aiq, injEq → aiv
open Go.Act renaming put → aiA
open Go.Proofs.Try renaming prog → aiu, func262 → ai4, underlying29 → aiF, func254 → ai6, underlying26 → aiy, func123 → aiL, func108 → ai7, ntmps254 → ai8, func222 → ai9, func22 → aja, func212 → ajb, func130 → ajc, func128 → ajd, func116 → aje, func115 → ajf
open List renaming setIfInBounds_toArray → aiB, set_cons_zero → aiC, set_cons_succ → aiD, map_toArray → aiO, map_cons → ahl, map_nil → aiP, length_append → ahu, length_drop → ahP, length_take → ahG, length_singleton → ahE, append_toArray → aiS, cons_append → aiT, nil_append → ahN, length_map → agZ, getElem?_eq_some_iff → aji, getD_eq_getElem?_getD → aho, getElem?_eq_getElem → ahT
open Go.RowKit.Below renaming refl → ait
open Or renaming inl → ai3
open Go.World renaming block_lt_of_cell? → aiK
open Nat renaming le_refl → agO, le_trans → ahO, ne_of_lt → air, mul_one → aiR, add_zero → aiQ
open Go.Value renaming slice → ai5
open Bool renaming eq_false_iff → aix
open Prod.mk renaming injEq → aiw
open Option renaming map_eq_some_iff → ajg
open Go.World.grownBy renaming trans → ajh
attribute [local go_sem] xO xP xQ xR xS xT xU xV
set_option maxHeartbeats 8000000
set_option maxRecDepth 100000
set_option linter.unusedVariables false
set_option linter.unusedSimpArgs false

theorem bH.acF {P:Program} (w:World) (base:Nat) (t ty e:TypeId) (i:TypeInfo) (z:Value) (bytes:Nat) (ht:P.underlying t=some (.slice e)) (hi:P.info? e=some i) (hz:i.zero=some z)
    (hsize:i.size=1) (hby:i.bytes=bytes) (hzs:z.cells.size=1) (v:Value) (n:Nat) (xs:List Value) (hown:w.ownsRow base e 1 v n xs)
    (a:Addr) (c:Nat) (news:List Value) (hl:news.length=1) (hnews: ∀j u,news[j]? =some u→w.cell? (a.add j)=some u) (h1: ∀u∈news,u.oneCell'=true)
    (h63:n+1≤maxLen) (hbytes:(n+1)*bytes≤140737488355328) (hbase:base≤w.heap.size):
    ∃v' w',(Builtin.append_ #[t,t] ty #[v, .slice (some a) 1 c]).run P w= .ok v' w'∧w'.ownsRow base e 1 v' (n+1) (xs++news)∧w.grownBy w' v.ownBlock∧
      ((∃A c,v= .slice A n c∧v'= .slice A (n+1) c)∨(w'.ownsRow base e 1 v n xs∧∃b,v'.ownBlock=some b∧w.heap.size≤b)):=by
  obtain⟨v',w',hr,h2,h3,h4,h5⟩:=run_append_own_at (P:=P) w base t ty e i z 1 bytes ht hi hz hsize hby hzs aG v n xs hown a 1 c news (by rw[hl]) hnews h1 h63 hbytes hbase;refine⟨v',w',hr,h2,h3, ?_⟩;have hn: ∀b,v'.ownBlock=some b→v.ownBlock=none→w.heap.size≤b:=fun b hb h0=>by
    rcases h5 with h5|h5
    · rw[h5,h0]at hb
      cases hb
    · rw[h5]at hb
      injection hb with hb
      omega
  rcases hown.2 with ⟨rfl,rfl⟩|⟨g,cap,cur,rfl,hbg,hg,hnc,hcm,hcs,htake⟩
  · have hx:xs= []:=List.eq_nil_of_length_eq_zero (by simpa using hown.1)
    subst hx;refine .inr ⟨World.ownsRow_nil _ _ _ _, ?_⟩;rcases h2.2 with ⟨_,h0⟩|⟨g,cap,cur,rfl,_⟩
    · omega
    · exact⟨g,rfl,hn g rfl rfl⟩
  · by_cases hroom:n+1≤cap
    · have vY:=run_append_room (P:=P) w t ty e i ht hi g n cap cur hg a 1 c news (by rw[hl,hsize]) hnews h1 hroom (by rw[hl,hcs,hsize];omega)
      rw[hr]at vY
      injection vY with hv hw
      exact .inl ⟨_,_,rfl,hv⟩
    · have holds: ∀j u,xs[j]? =some u→w.cell? ((⟨g,0,none⟩:Addr).add j)=some u:=hown.cells (g:=g) rfl
      have vY:=run_append_grow (P:=P) w t ty e i z ht hi hz ⟨g,0,none⟩ n cap xs (by rw[hsize];exact hown.1) holds a 1 c news (by rw[hl,hsize]) hnews (by simp only[maxLen]at h63;omega) (by simp only[maxLen]at h63;omega) (growslice_fits aa (by rw[hby];exact hbytes));rw[hr]at vY
      injection vY with hv hw
      refine .inr ⟨?_,w.heap.size,by rw[hv];rfl,agO _⟩;rw[hw];exact(hown.drew).alloc _
section
variable {P:Program} {ops:Array Oper} {o:Oper} {a:Act} {Q:Exit→Act→World→Prop} {Kc:Act→World→Prop}
theorem bH.O9 {w0 W:World} (base:Nat) (hw:Region.wanted o (yielded ops a.tmps)=true) (s x:Operand) (t e:TypeId) (z:Value) (bytes:Nat)
    (ho:o.op= .call {callee:= .builtin .append,args:= #[s,x],argTypes:= #[t,t]})
    (ht:P.underlying t=some (.slice e)) (hinfo:(P.info? e).map (fun i=>(i.zero,i.size,i.bytes))=some (some z,1,bytes)) (hz:z.cells.size=1) (hb0:0<bytes)
    (v:Value) (xs:List Int) (p:Int) (ok:Nat→Prop) (hs:a.eval s=v) (hx:a.eval x= .slice (some ⟨W.heap.size,0,none⟩) 1 1)
    (HO:(Kd.int .i64).R e W base ok v xs) (HB:Below base w0 W) (hbase:base≤W.heap.size) (hl:(xs.length+1)*bytes≤140737488355328)
    (h: ∀v1 w1,(Kd.int .i64).R e w1 base (fun _=>True) v1 (xs++[p])→Below base w0 w1→W.grownBy w1 v.ownBlock→
      ((∃A c,v= .slice A xs.length c∧v1= .slice A (xs.length+1) c)∨((Kd.int .i64).R e w1 base ok v xs∧∃b,v1.ownBlock=some b∧W.heap.size≤b))→Kc (a.put o.dst v1) w1):
    if Region.wanted o (yielded ops a.tmps)=true then Oper.wp P o a (W.alloc (.cells #[.int .i64 p] e)) Kc Q else Kc (a.put o.dst undef) (W.alloc (.cells #[.int .i64 p] e)):=by
  obtain⟨i0,hi,hzz⟩:=ajg.1 hinfo;simp only[aiw]at hzz;obtain⟨hz0,hz1,hz2⟩:=hzz;have hlen:xs.length+1≤140737488355328:=ahO (Nat.le_mul_of_pos_right _ hb0) hl;obtain⟨hok,inner,hown,hr⟩:=HO;rw[ak hw];obtain⟨v1,w1,hrun,hown1,hg,hat⟩:=bH.acF (P:=P) (W.alloc (.cells #[.int .i64 p] e)) base t o.type e i0 z bytes ht hi hz0 hz1 hz2 hz v xs.length _ (hown.alloc _) ⟨W.heap.size,0,none⟩ 1 [.int .i64 p] rfl
    (by simpa using World.news_of_block (cs:= #[Value.int .i64 p]) (t:=e) (fr:=(0,0)) (heap_alloc_new W (.cells #[.int .i64 p] e))) (by simp[Value.oneCell']) (by simp only[maxLen];omega) hl (by simp;omega)
  unfold Oper.wp execOp;simp only[ho,resolve,invoke,builtin,Sem.run_bind,Sem.run_pure,Result.andThen_ok,aiO,ahl,aiP,hs,hx,hrun];refine h v1 w1 ?_ ((HB.alloc hbase _).grown hg (by simp;omega) (vZ hown)) (ajh (World.grownBy_alloc W _ _) hg) ?_
  · refine Kd.JB (W:=W) (cN:=fun _=>False) (cs:=[.int .i64 p]) (fun _ _=>trivial) (hr.ld (fun _ _ hp=>(Kd.int .i64).iC (fun k hk=>⟨trivial,hk.2⟩) hp)) rfl (fun _ hk=>hk.elim) (fun _ _=>trivial) hown1 (ajh (World.grownBy_alloc W _ _) hg) ?_
    rcases hat with ⟨A,c,rfl,rfl⟩|⟨_,b,hb,hle⟩
    · exact .inl (by cases A<;>rfl)
    · exact .inr ⟨b,hb,by simp at hle;omega⟩
  · rcases hat with hat|⟨hat,b,hb,hle⟩
    · exact .inl hat
    · exact .inr ⟨⟨hok,_,hat,hr⟩,b,hb,by simp at hle;omega⟩
end

def bH.first (ws:List Int) (e:Int):Int:=if (ws.length:Int)>0 then rd ws 0 else e
def bH.can (wy:List (List (List Int))) (i e f:Int):Option Bool:=
  if (0≤i∧i<(wy.length:Int))∧(0≤e∧e<((wy.getD i.toNat []).length:Int))∧0≤f∧f<((aH (wy.getD i.toNat []) e).length:Int) then some (rd (aH (wy.getD i.toNat []) e) f == 1) else none
def bH.lp (n:Int) (l:List (List Int)) (wy:List (List (List Int))) (K:Int) (F:List Int→List (List Int)→Option (List (List Int))) (ws:List Int) (m:Int):Nat→Int→List (List Int)→Option (List (List Int))
  | 0,_,_=>none
  | q+1,e,xs=>if e<m then ((if (ws.length:Int)=0 then some true else pH.f n l (rd ws (wrap64 ((ws.length:Int) - 1))) e).bind fun b=>
      (if b=true then bH.can wy (wrap64 (K - (ws.length:Int))) e (bH.first ws e) else some false).bind fun t=>
      if t=true then (if ws.length+1<17592186044416 then (F (ws++[e]) xs).bind fun ys=>bH.lp n l wy K F ws m q (wrap64 (e+1)) ys else none) else bH.lp n l wy K F ws m q (wrap64 (e+1)) xs) else some xs
def bH.go (n:Int) (l:List (List Int)) (wy:List (List (List Int))) (K:Int):Nat→List Int→List (List Int)→Option (List (List Int))
  | 0,ws,xs=>(mS.f ws).bind fun t=>if xs.length+1<5864062014805 then some (xs++[t]) else none
  | d+1,ws,xs=>(kF.f n l).bind fun s=>bH.lp n l wy K (bH.go n l wy K d) ws (wrap64 (2*s)) ((wrap64 (2*s)).toNat+1) 0 xs
theorem bH.base (n:Int) (l:List (List Int)) (wy:List (List (List Int))) (w0:World) (K bk bo bg bw bx:Nat) (hlo:w0.heap.size≤bo)
    (ws:List Int) (xs r:List (List Int)) (walk we:Value) (P wh:Nat→Prop) (w:World) (hd:ws.length=K) (h:bH.go n l wy (K:Int) 0 ws xs=some r) (hB:Below w0.heap.size w0 w)
    (hk:w.heap[bk]? =some (.cells #[.int .i64 K] 2 (0,0)))
    (ho:w.heap[bo]? =some (.cells #[we] 24 (0,0))) (hS:Kd.S (Kd.slice 2 (Kd.int .i64)) 29 w w0.heap.size P we xs) (hW:Kd.R (Kd.int .i64) 2 w w0.heap.size wh walk ws)
    (nX: ∀k,walk.ownBlock=some k→¬P k):
    Calls aiu 222 #[walk, .pointer (some ⟨bk,0,none⟩), .pointer (some ⟨bo,0,none⟩), .pointer (some ⟨bg,0,none⟩), .pointer (some ⟨bw,0,none⟩), .pointer (some ⟨bx,0,none⟩)] w fun e w'=>
      e= .returned (.tuple #[])∧∃C4,w'.heap[bo]? =some (.cells #[C4] 24 (0,0))∧Kd.S (Kd.slice 2 (Kd.int .i64)) 29 w' w0.heap.size (fun k=>P k∨w.heap.size≤k) C4 r∧Kd.R (Kd.int .i64) 2 w' w0.heap.size wh walk ws∧Below w0.heap.size w0 w'∧
        Kept w w' (fun k=>k=bo∨P k∨walk.ownBlock=some k):=by
  subst hd;obtain⟨A1,c1,rfl⟩:=Kd.eF hW;obtain⟨A2,c2,rfl⟩:=Kd.eW hS;obtain⟨t,A0,H⟩:=bE h;obtain⟨hlen,H⟩:=bJ H;obtain rfl:=aiq H;clear H h;have dL:((ws.length:Int) == (ws.length:Int))=true:=beq_iff_eq.mpr rfl;have Pa:w.cell? ⟨bk,0,none⟩=some (.int .i64 ws.length):=(cH hk 0).trans rfl;have Vg:=aA hk 0;obtain⟨hrl,hrc,Vh⟩:=Kd.dh hW;go_enter ai9,Try.ntmps222;go_wp2;have FC:w.drew.heap[bo]? =some (.cells #[.slice A2 xs.length c2] 24 (0,0)):=ho;have Vc:=Kd.iB hS;have U8:=Kd.fM (Kd.l6 rfl hW);have uC:Below w0.heap.size w0 w.drew:=iq hB;have hK1:Kept w w.drew (fun k=>k=bo∨P k∨(ai5 A1 ws.length c1).ownBlock=some k):=(Kept.refl w _);have hz1:w.drew.heap.size=w.heap.size:=rfl;have l7:w.drew.cell? ⟨bo,0,none⟩=some (.slice A2 xs.length c2):=(cH FC 0).trans rfl;refine jl (n:=6) (S:=fun w'=>w'.cell? ⟨bo,0,none⟩=some (.slice A2 xs.length c2)) (ds:=[5]) #[false,false,false,false,false,false] bI rfl rfl l7 (fun hHeld=> ?_);clear l7;generalize w.drew=w1 at FC Vc U8 uC hK1 hz1 hHeld ⊢;refine pV (i:=1) (N:=some 16) (v:= ?_) (a':= ?_) #[false,true,false,false,false,false] rfl rfl bI (fun _ _ _ h=>h) (ai3 ⟨by rfl, ?_⟩) ?_ ?_
  rotate_left
  · intro w'
    go_simp
    with_reducible rfl
  rotate_left
  · simp only[aiA,aiB,aiC,aiD,eV,gK]
    rfl
  refine yH (i:=0) (N:=some 15) (v:= ?_) (a':= ?_) #[true,true,false,false,false,false] rfl rfl bI (fun _ _ _ h=>h) (ai3 ⟨by rfl, ?_⟩) hHeld ?_ ?_
  rotate_left
  · intro w' s0
    go_simp
    with_reducible rfl
  rotate_left
  · simp only[aiA,aiB,aiC,aiD,eV,gK]
    rfl
  refine sQ (i:=2) (N:=some 17) #[true,true,true,false,false,false] rfl rfl bI aG (fun K hK=> ?_);refine gI Try.func213 bI rfl #[.slice A1 ws.length c1] (by rfl) rfl rfl iM ?_
  with_reducible refine(mS.calls A1 c1 ws t _ ?av ?ax A0.1).mono ?_
  (case av=>exact(Kd.dh U8).2.2);(case ax=>exact hrc);rintro e w2 ⟨v2,rfl,sR,hb2⟩;refine⟨_,rfl, ?_⟩;have sS:=az FC hb2;have Va:=Kd.Pc Vc hb2;have Ve:=Kd.bq U8 hb2;have wj:Below w0.heap.size w0 w2:=aI uC hb2;have hK2:=hK1.below hb2;have U9: ∀k,v2.ownBlock=some k→w.heap.size≤k:=fun k hk=>by have:=Kd.dW sR k hk;omega
  obtain⟨A3,c3,rfl⟩:=Kd.eF sR;refine hK.out _ _ ((cH sS 0).trans rfl) (fun hHeld=> ?_);clear hK K;refine eH ?_;refine sQ (i:=3) (N:=some 18) #[true,true,true,true,false,false] rfl rfl bI aG (fun K hK=> ?_);refine o9 (v:= .slice (some ⟨w2.heap.size,0,none⟩) 1 1) (w1:=w2.alloc (.cells #[.slice A3 t.length c3] 29 (0,0))) (by rfl) ?hr ?_;(case hr=>first|(go_simp;done)|(go_simp;rfl));refine hK.out _ _ ((cH (bS sS _) 0).trans rfl) (fun hHeld=> ?_);clear hK K;refine eH ?_;refine sQ (i:=4) (N:=some 19) #[true,true,true,true,true,false] rfl rfl bI aG (fun K hK=> ?_);refine Kd.JC (Kd.slice 2 (Kd.int .i64)) (w0:=w0) w0.heap.size (by rfl) (.tmp 15) (.tmp 18) 24 29 (.slice none 0 0) 24 rfl Try.underlying24 nF rfl aG aa (.slice A2 xs.length c2) xs t [.slice A3 t.length c3] (fun k=>P k∨w.heap.size≤k) (fun k=>some k=(.slice A3 t.length c3:Value).ownBlock) rfl rfl ?aP ?aK ?aF ?aO wj ?aS ?aL ?_;(case aP=>exact Kd.nW (Kd.eu (Kd.l6 rfl sR) (by rw[hz1];exact hB.size)));(case aK=>exact fun k hk=>⟨.inr (U9 k hk.symm),fun e=>by have h1:=U9 k hk.symm;have h2:=Kd.yy hS k e.symm;omega⟩);(case aF=>exact fun k hk=> .inr (by have:=hb2.size;omega));(case aO=>exact Kd.dM Va (fun k hk=>⟨.inl hk.1,fun e=>by have h1:=U9 k e.symm;have h2:=hk.2;omega⟩));(case aS=>exact wj.size);(case aL=>omega);intro v3 w3 Vb jq U7 Vi;obtain⟨A4,c4,e4⟩:=Kd.eW Vb;rw[ahu,ahE]at e4;subst e4;have pP:=fV sS U7 (Kd.kQ Va sS aG);have Vd:=Kd.acG Ve U7 (fun k hk e=>nX k hk.symm ((Kd.l8 hS).1 k e.symm));have hK3:=Kept.qH U7 hK2 (fun k hk=> .inl (.inr (.inl ((Kd.l8 hS).1 k hk))));refine hK.out _ _ ((cH pP 0).trans rfl) (fun hHeld=> ?_);clear hK K;refine eH ?_;refine rM (i:=5) (N:=none) #[true,true,true,true,true,true] rfl rfl bI aG (fun K hK=> ?_);have hs3:w3.cell? ⟨bo,0,none⟩=some (.slice A2 xs.length c2):=(cH pP 0).trans rfl;have Vf:=aA pP 0;refine tW (w1:= ?_) (by rfl) rfl ?_ ?_
  rotate_left
  · go_simp
    rfl
  refine hK.out _ _ ?_;clear hK K;refine ja bI ?_;go_wp2;(try simp only[Exit.inBlock,Exit.then]);refine bodyPost_ret (results_none rfl _ _ _) rfl ?_;refine⟨rfl,_,dD (cs:= #[.slice A2 xs.length c2]) pP 0 _ rfl,Kd.Al Vb pP aG 0 _,Kd.cL (Kd.Pg Vd pP aG 0 _) (fun k hk=>hW.1 k hk.symm),mF jq hlo,hK3.setCell (.inl (.inl rfl)) _⟩
def bH.X (bx bo k:Nat):Prop:=k=bx∨k=bo

def bH.Fx (w0 w:World) (bo:Nat) (P:Nat→Prop) (A1:Option Addr) (c1:Nat) (ws:List Int) (Ay:Option Addr) (cy:Nat) (ys:List (List Int)) (w1:World):Prop:=
  w1.heap[bo]? =some (.cells #[.slice Ay ys.length cy] 24 (0,0))∧Kd.S (Kd.slice 2 (Kd.int .i64)) 29 w1 w0.heap.size (fun k=>P k∨w.heap.size≤k) (.slice Ay ys.length cy) ys∧
    Kd.R (Kd.int .i64) 2 w1 w0.heap.size (fun k=>some k=(ai5 A1 ws.length c1).ownBlock) (.slice A1 ws.length c1) ws∧Below w0.heap.size w0 w1∧Kept w w1 (fun k=>k=bo∨P k∨(ai5 A1 ws.length c1).ownBlock=some k)
theorem bH.Fx.below {w0 w w1 w2:World} {bo:Nat} {P:Nat→Prop} {A1:Option Addr} {c1:Nat} {ws:List Int} {Ay:Option Addr} {cy:Nat} {ys:List (List Int)} (h:bH.Fx w0 w bo P A1 c1 ws Ay cy ys w1) (hb:Below w1.heap.size w1 w2):
    bH.Fx w0 w bo P A1 c1 ws Ay cy ys w2:=⟨az h.1 hb,Kd.bT h.2.1 hb,Kd.bq h.2.2.1 hb,aI h.2.2.2.1 hb,h.2.2.2.2.below hb⟩
theorem bH.Fx.drew {w0 w w1:World} {bo:Nat} {P:Nat→Prop} {A1:Option Addr} {c1:Nat} {ws:List Int} {Ay:Option Addr} {cy:Nat} {ys:List (List Int)} (h:bH.Fx w0 w bo P A1 c1 ws Ay cy ys w1):
    bH.Fx w0 w bo P A1 c1 ws Ay cy ys w1.drew:=⟨h.1,Kd.iB h.2.1,Kd.fM h.2.2.1,iq h.2.2.2.1,h.2.2.2.2⟩
def bH.OK (n:Int) (l:List (List Int)) (wy:List (List (List Int))) (w0:World) (K bk bo bg bw bx d:Nat):Prop:=
  ∀(ws:List Int) (xs r:List (List Int)) (walk we:Value) (P wh:Nat→Prop) (w:World),ws.length+d=K→bH.go n l wy (K:Int) d ws xs=some r→Below w0.heap.size w0 w→w.heap[bx]? =some (.cells #[.func (.func 222) #[] #[.pointer (some ⟨bk,0,none⟩), .pointer (some ⟨bo,0,none⟩), .pointer (some ⟨bg,0,none⟩), .pointer (some ⟨bw,0,none⟩), .pointer (some ⟨bx,0,none⟩)]] 81 (0,0))→
    w.heap[bo]? =some (.cells #[we] 24 (0,0))→Kd.S (Kd.slice 2 (Kd.int .i64)) 29 w w0.heap.size P we xs→Kd.R (Kd.int .i64) 2 w w0.heap.size wh walk ws→
    (∀k,P k→¬bH.X bx bo k)→(∀k,walk.ownBlock=some k→¬P k∧¬bH.X bx bo k)→
    Calls aiu 222 #[walk, .pointer (some ⟨bk,0,none⟩), .pointer (some ⟨bo,0,none⟩), .pointer (some ⟨bg,0,none⟩), .pointer (some ⟨bw,0,none⟩), .pointer (some ⟨bx,0,none⟩)] w fun e w'=>
      e= .returned (.tuple #[])∧∃C4,w'.heap[bo]? =some (.cells #[C4] 24 (0,0))∧Kd.S (Kd.slice 2 (Kd.int .i64)) 29 w' w0.heap.size (fun k=>P k∨w.heap.size≤k) C4 r∧Kd.R (Kd.int .i64) 2 w' w0.heap.size wh walk ws∧Below w0.heap.size w0 w'∧
        Kept w w' (fun k=>k=bo∨P k∨walk.ownBlock=some k)
theorem bH.ok0 (n:Int) (l:List (List Int)) (wy:List (List (List Int))) (w0:World) (K bk bo bg bw bx:Nat) (hlo:w0.heap.size≤bo) (hbk:w0.heap[bk]? =some (.cells #[.int .i64 K] 2 (0,0))):bH.OK n l wy w0 K bk bo bg bw bx 0:=
  fun ws xs r walk we P wh w hd h hB hx ho hS hW hP nX=>bH.base n l wy w0 K bk bo bg bw bx hlo ws xs r walk we P wh w hd h hB (az hbk hB) ho hS hW (fun k hk=>(nX k hk).1)
def bH.T9:Bool×List (List Nat×List Nat):=(true,[([],[]),([0],[0]),([1],[1]),([2],[2]),([2],[2]),([2],[2]),([5,2],[2,5]),([4,6,2],[2,4,6]),([7,2],[2,7]),([2],[2]),([3,8,9,2,2],[2,3,8,9]),([2,10],[2,10]),([11,10],[11]),([12],[12]),([12],[12]),([12],[12]),([14,15,12],[12,14,15]),([13,16,12],[12,13,16]),([17,12],[12,17]),([12],[12]),([18,19,12],[12,18,19]),([20,12],[12,20]),([12],[12]),([21,22,12],[12,21,22]),([23,12],[12,23]),([24,12],[12,24]),([12,25],[12,25])])
def bH.B9:List Nat:=[0,1,3,7,7,7,39,119,247,7,1023,2047,4095,8191,8191,8191,57343,131071,262143,8191,1048575,2097151,8191,8388607,16777215,33554431,67108863]
theorem bH.yd:gC .any (opsOf Try.f222 9)=bH.T9:=by kernel_rfl
theorem bH.ye:kY bH.T9.2 bH.B9=true:=by kernel_rfl

theorem bH.reads {w:World} {Aw:Option Addr} {wy:List (List (List Int))} {i e f:Int} {t:Bool} (h:Kd.C (Kd.slice 29 (Kd.slice 2 (Kd.int .i64))) w Aw wy.length wy) (hc:bH.can wy i e f=some t):
    ∃(aw a2 a3:Addr) (n2 c2 n3 c3:Nat) (x:Int),Aw=some aw∧(0≤i∧i<(wy.length:Int))∧(0≤e∧e<(n2:Int))∧(0≤f∧f<(n3:Int))∧(x == 1)=t∧
      w.cell? (aw.add i.toNat)=some (.slice (some a2) n2 c2)∧w.cell? (a2.add e.toNat)=some (.slice (some a3) n3 c3)∧w.cell? (a3.add f.toNat)=some (.int .i64 x):=by
  obtain⟨⟨⟨i0,i1⟩,⟨e0,e1⟩,f0,f1⟩,ht⟩:=bJ hc;obtain⟨aw,cc,rfl,hcl,hK,hcell⟩:=Kd.wo h [] i i0 i1;obtain⟨A2,c2,rfl,hl2,sR⟩:=hK;obtain⟨a2,U9,rfl,Vb,hK2,U8⟩:=Kd.wo sR [] e e0 e1;obtain⟨A3,c3,rfl,Va,U7⟩:=hK2;obtain⟨a3,rfl,hx⟩:=Kd.dP U7 f f0 f1;refine⟨aw,a2,a3,_,c2,_,c3,_,rfl,⟨i0,i1⟩,⟨e0,e1⟩,⟨f0,f1⟩,aiq ht, ?_, ?_,hx⟩
  · have:=hcell 0 _ rfl
    simpa [Kd.slice] using this
  · have:=U8 0 _ rfl
    rw[show(Kd.slice 2 (Kd.int .i64)).sz=1 from rfl,aiR,aiQ]at this;exact this
theorem bH.step (n:Int) (A:Option Addr) (c:Nat) (l:List (List Int)) (Aw:Option Addr) (cw:Nat) (wy:List (List (List Int))) (w0:World) (hr:Kd.C (Kd.slice 2 (Kd.int .i64)) w0 A l.length l) (hc:l.length≤c) (hrw:Kd.C (Kd.slice 29 (Kd.slice 2 (Kd.int .i64))) w0 Aw wy.length wy) (K bk bo bg bw bx:Nat) (hlo:w0.heap.size≤bo)
    (hbk:w0.heap[bk]? =some (.cells #[.int .i64 K] 2 (0,0))) (hbg:w0.heap[bg]? =some (.cells #[.int .i64 n, .slice A l.length c] 26 (0,0))) (Ao:w0.heap[bw]? =some (.cells #[.slice Aw wy.length cw] 145 (0,0))) (d:Nat) (IH:bH.OK n l wy w0 K bk bo bg bw bx d):bH.OK n l wy w0 K bk bo bg bw bx (d+1):=by
  intro ws xs r walk we P wh w hd h hB hx ho hS hW hP nX;have Vk: ∀k,bH.X bx bo k→k<w.heap.size:=by
    rintro k (rfl|rfl)
    · exact ee hx
    · exact ee ho
  obtain⟨A1,c1,rfl⟩:=Kd.eF hW;obtain⟨A2,c2,rfl⟩:=Kd.eW hS;have h:((kF.f n l).bind fun s=>bH.lp n l wy (K:Int) (bH.go n l wy (K:Int) d) ws (wrap64 (2*s)) ((wrap64 (2*s)).toNat+1) 0 xs)=some r:=h;obtain⟨s,As,H⟩:=bE h;clear h;have Vl: ¬(bx=bo∨P bx∨(ai5 A1 ws.length c1).ownBlock=some bx):=by
    rintro (h|h|h)
    · exact ru hx ho aG h
    · exact hP bx h (.inl rfl)
    · exact(nX bx h).2 (.inl rfl)
  have dL:((ws.length:Int) == (K:Int))=false:=beq_eq_false_iff_ne.mpr aa;have Pa:w.cell? ⟨bk,0,none⟩=some (.int .i64 K):=(cH (az hbk hB) 0).trans rfl;have Vs:w.cell? ⟨bg,0,none⟩=some (.int .i64 n):=(cH (az hbg hB) 0).trans rfl;have Vt:w.cell? ⟨bg,1,none⟩=some (.slice A l.length c):=(cH (az hbg hB) 1).trans rfl;have FD:bH.Fx w0 w bo P A1 c1 ws A2 c2 xs w:=⟨ho,Kd.dM hS (fun _ hk=> .inl hk),Kd.l6 rfl hW,hB,Kept.refl _ _⟩;go_enter ai9,Try.ntmps222;go_wp2_with (first|((with_reducible refine bp (f:=204) rfl ?_);refine uD (some 21) rfl rfl Try.func204 bI rfl #[.agg #[.int .i64 n, .slice A l.length c]] rfl (by(try simp only[aiO,ahl,aiP]);first|done|rfl) ?_;(with_reducible refine(kF.calls n _ _ l s _ ?av ?ax As.out).mono ?_);(case av=>exact Kd.aC hr hB);(case ax=>exact hc);rintro e w1 ⟨rfl,hb1⟩;refine⟨_,rfl, ?_⟩;have Vu:=FD.below hb1;clear hb1));clear Pa Vs Vt dL;go_loopg [23] ((wrap64 (2*s)).toNat+1) (fun kq JD w'=>∃(e:Int) (ys:List (List Int)) (Ay:Option Addr) (cy:Nat),JD= .int .i64 e∧au (bH.lp n l wy (K:Int) (bH.go n l wy (K:Int) d) ws (wrap64 (2*s)) kq e ys=some r)∧au (bH.Fx w0 w bo P A1 c1 ws Ay cy ys w'))
  case atStart=>exact⟨0,xs,A2,c2,(by first|rfl|(simp;done)),⟨H⟩,⟨Vu⟩⟩
  case round=>
    obtain⟨e,ys,Ay,cy,rfl,HA,HF⟩:=hrel;cases gk with
    | zero=>exact absurd HA.1 (by simp[bH.lp])
    | succ q=>
      have H2:=HA.1;clear HA;simp only[bH.lp]at H2
      by_cases c5:e<wrap64 (2*s)
      · rw[ak c5]at H2
        have gH:=aV c5;clear c5;obtain⟨i,hi⟩: ∃j_:Int,wrap64 ((K:Int) - (ws.length:Int))=j_:=⟨_,rfl⟩;have Vy:IntKind.i64.wrap ((K:Int) - (ws.length:Int))=i:=(eV _).trans hi;rw[hi]at H2;clear hi;obtain⟨f,hf⟩: ∃f_:Int,bH.first ws e=f_:=⟨_,rfl⟩
        rw[hf]at H2
        by_cases c6:(ws.length:Int)=0
        · rw[ak c6]at H2
          have Vj:e=f:=by
            rw[← hf];unfold bH.first
            exact(aj aa).symm
          subst Vj;clear hf;have gD:((ws.length:Int) == 0)=true:=beq_iff_eq.mpr c6;have iN:decide (0<(ws.length:Int))=false:=cj aa;have pK:decide (0<ws.length)=false:=cj aa;clear c6;rw[Option.bind_some,ak rfl]at H2;obtain⟨t,At,H3⟩:=bE H2;clear H2;obtain⟨aw,a2,a3,n2,c2,n3,c3,x,rfl,⟨i0,i1⟩,⟨e0,e1⟩,⟨f0,f1⟩,hx1,hy1,Vb,Vd⟩:=bH.reads hrw At.out;replace i0:=aJ i0;replace i1:=aJ i1;replace e0:=aJ e0;replace e1:=aJ e1;replace f0:=aJ f0;replace f1:=aJ f1;go_wp2;have U7:=HF.1.drew;have l7:wr.drew.cell? ⟨bw,0,none⟩=some (.slice (some aw) wy.length cw)∧wr.drew.cell? ⟨bk,0,none⟩=some (.int .i64 K)∧wr.drew.cell? (aw.add i.toNat)=some (.slice (some a2) n2 c2)∧wr.drew.cell? (a2.add e.toNat)=some (.slice (some a3) n3 c3)∧wr.drew.cell? (a3.add e.toNat)=some (.int .i64 x):=⟨(cH (az Ao U7.2.2.2.1) 0).trans rfl,(cH (az hbk U7.2.2.2.1) 0).trans rfl,(U7.2.2.2.1.cell (aiK _ _ hy1)).trans hy1,(U7.2.2.2.1.cell (aiK _ _ Vb)).trans Vb,(U7.2.2.2.1.cell (aiK _ _ Vd)).trans Vd⟩;refine jl (n:=27) (S:=fun w'=>w'.cell? ⟨bw,0,none⟩=some (.slice (some aw) wy.length cw)∧w'.cell? ⟨bk,0,none⟩=some (.int .i64 K)∧w'.cell? (aw.add i.toNat)=some (.slice (some a2) n2 c2)∧w'.cell? (a2.add e.toNat)=some (.slice (some a3) n3 c3)∧w'.cell? (a3.add e.toNat)=some (.int .i64 x)) (ds:=[]) #[false,false,false,false,false,false,false,false,false,false,false,false,false,false,false,false,false,false,false,false,false,false,false,false,false,false,false] bI rfl rfl l7 (fun hHeld=> ?_);refine jU bH.yd bH.ye (fun eA jV=> ?_);clear l7;generalize wr.drew=w3 at U7 hHeld ⊢;have U8:=U7;clear U7;cases t with
          | true=>
            rw[ak rfl]at H3;have H:=H3;clear H3;refine aX 0 27 32 1 ?_;refine aX 1 27 33 3 ?_;refine aX 2 27 34 7 ?_;refine dV 3 27 35 15 ?_;refine dV 4 27 36 31 ?_;refine dV 5 27 37 63 ?_;refine dV 6 27 38 127 ?_;refine dV 7 27 39 255 ?_;refine dV 8 27 40 511 ?_;refine dV 9 27 41 1023 ?_;refine dV 10 27 42 2047 ?_;refine aX 11 27 43 4095 ?_;refine aX 12 27 44 8191 ?_;refine aX 15 27 47 40959 ?_;refine aX 19 27 51 565247 ?_;refine aX 22 27 54 4759551 ?_;refine cX 13 27 45 4767743 hHeld ?_;refine cX 14 27 46 4784127 hHeld ?_;refine aX 16 27 48 4849663 ?_;refine aX 17 27 49 4980735 ?_;refine cX 18 27 50 5242879 hHeld ?_;refine aX 20 27 52 6291455 ?_;refine cX 21 27 53 8388607 hHeld ?_;refine aX 23 27 55 16777215 ?_;refine cX 24 27 56 33554431 hHeld ?_;refine aX 25 27 57 67108863 ?_;refine aX 26 27 58 134217727 ?_;refine ja (jC eA.1 bI) ?_;go_wp2;obtain⟨hlen,H⟩:=bJ H;obtain⟨zs,Az,H⟩:=bE H;have U9:=U8.drew;have Vc:=FE hx U9.2.2.2.2 Vl;have l7:w3.drew.cell? ⟨bx,0,none⟩=some (.func (.func 222) #[] #[.pointer (some ⟨bk,0,none⟩), .pointer (some ⟨bo,0,none⟩), .pointer (some ⟨bg,0,none⟩), .pointer (some ⟨bw,0,none⟩), .pointer (some ⟨bx,0,none⟩)]):=(cH Vc 0).trans rfl;refine jl (n:=6) (S:=fun w'=>w'.cell? ⟨bx,0,none⟩=some (.func (.func 222) #[] #[.pointer (some ⟨bk,0,none⟩), .pointer (some ⟨bo,0,none⟩), .pointer (some ⟨bg,0,none⟩), .pointer (some ⟨bw,0,none⟩), .pointer (some ⟨bx,0,none⟩)])) (ds:=[5]) #[false,false,false,false,false,false] bI rfl rfl l7 (fun hHeld=> ?_);clear l7;generalize w3.drew=w5 at U9 Vc hHeld ⊢;refine pV (i:=1) (N:=some 60) (v:= ?_) (a':= ?_) #[false,true,false,false,false,false] rfl rfl bI (fun _ _ _ h=>h) (ai3 ⟨by rfl, ?_⟩) ?_ ?_
            rotate_left
            · intro w'
              go_simp
              with_reducible rfl
            rotate_left
            · simp only[aiA,aiB,aiC,aiD,eV,gK]
              rfl
            refine pV (i:=2) (N:=some 61) (v:= ?_) (a':= ?_) #[false,true,true,false,false,false] rfl rfl bI (fun _ _ _ h=>h) (ai3 ⟨by rfl, ?_⟩) ?_ ?_
            rotate_left
            · intro w'
              go_simp
              with_reducible rfl
            rotate_left
            · simp only[aiA,aiB,aiC,aiD,eV,gK]
              rfl
            refine yH (i:=0) (N:=some 59) (v:= ?_) (a':= ?_) #[true,true,true,false,false,false] rfl rfl bI (fun _ _ _ h=>h) (ai3 ⟨by rfl, ?_⟩) hHeld ?_ ?_
            rotate_left
            · intro w' s0
              go_simp
              with_reducible rfl
            rotate_left
            · simp only[aiA,aiB,aiC,aiD,eV,gK]
              rfl
            refine sQ (i:=3) (N:=some 62) #[true,true,true,true,false,false] rfl rfl bI aG (fun K hK=> ?_);refine o9 (v:= .slice (some ⟨w5.heap.size,0,none⟩) 1 1) (w1:=w5.alloc (.cells #[.int .i64 e] 2 (0,0))) (by rfl) ?hr ?_;(case hr=>first|(go_simp;done)|(go_simp;rfl));refine hK.out _ _ ((cH (bS Vc _) 0).trans rfl) (fun hHeld=> ?_);clear hK K;refine eH ?_;refine sQ (i:=4) (N:=some 63) #[true,true,true,true,true,false] rfl rfl bI aG (fun K hK=> ?_);refine bH.O9 (w0:=w0) w0.heap.size (by rfl) (.tmp 60) (.tmp 62) 29 2 (.int .i64 0) 8 rfl aiF kr rfl aa (.slice A1 ws.length c1) ws e _ rfl rfl U9.2.2.1 U9.2.2.2.1 U9.2.2.2.1.size aa ?_;intro v6 w6 Vm C5 Va Vg;obtain⟨yE,wq,Vr,C6,hK5⟩:=U9;have hK6:=Kept.qH Va hK5 (fun k hk=> .inl (.inr (.inr hk)));have Vf:=FE hx hK6 Vl;have hs5:=hK5.1;have hs6:=Va.size;have yA:=fV yE Va (fun h=>(nX bo h.symm).2 (.inr rfl));have si:=Kd.gq hW;have C8:Kd.S (Kd.slice 2 (Kd.int .i64)) 29 w6 w0.heap.size (fun k=>(P k∨w.heap.size≤k)∧k<w5.heap.size) (.slice Ay ys.length cy) ys:=
              Kd.Ph (Kd.dM (Kd.qY wq) (fun k hk=>⟨hk.1,hk.2.2.1⟩)) Va (fun k hk h=>hk.1.elim (nX k h.symm).1 (fun h2=>by have:=si k h.symm;omega))
            refine hK.out _ _ ((cH Vf 0).trans rfl) (fun hHeld=> ?_);clear hK K;refine eH ?_;refine rM (i:=5) (N:=some 64) #[true,true,true,true,true,true] rfl rfl bI aG (fun K hK=> ?_);refine Pj ai9 bI rfl (lb:= #[.pointer (some ⟨bk,0,none⟩), .pointer (some ⟨bo,0,none⟩), .pointer (some ⟨bg,0,none⟩), .pointer (some ⟨bw,0,none⟩), .pointer (some ⟨bx,0,none⟩)]) #[v6, .pointer (some ⟨bk,0,none⟩), .pointer (some ⟨bo,0,none⟩), .pointer (some ⟨bg,0,none⟩), .pointer (some ⟨bw,0,none⟩), .pointer (some ⟨bx,0,none⟩)] (by rfl) rfl rfl (by first|rfl|(simp;done)) (by(try simp only[aiO,ahl,aiP,aiS,aiT,ahN]);first|done|rfl) ?_;have Vh: ∀k,v6.ownBlock=some k→(ai5 A1 ws.length c1).ownBlock=some k∨w5.heap.size≤k:=fun k hk=>by
              rcases Vg with ⟨A,c,e1,e2⟩|⟨_,b,hb,hle⟩
              · injection e1 with e1 _ _
                subst e1 e2;have h9: ∀(B:Option Addr) (m m2 x x2:Nat),(ai5 B m x).ownBlock=(ai5 B m2 x2).ownBlock:=fun B _ _ _ _=>by cases B<;>rfl
                exact .inl ((h9 _ _ _ _ _).trans hk)
              · rw[hb]at hk
                injection hk with hk
                exact .inr aa
            refine(IH (ws++[e]) ys zs v6 _ _ _ w6 (by rw[ahu,ahE];omega) Az.out C5 Vf yA C8 Vm (fun k hk hX=>hk.1.elim (fun h=>hP k h hX) (fun h=>by have:=Vk k hX;omega)) (fun k hk=> ?own)).mono ?_
            case own=>
              rcases Vh k hk with h|h
              · exact⟨fun h2=>h2.1.elim (nX k h).1 (fun h3=>by have:=si k h;omega),(nX k h).2⟩
              · exact⟨fun h2=>by have:=h2.2;omega,fun hX=>by have:=Vk k hX;omega⟩
            rintro e' w7 ⟨rfl,v7,sj,wu,Vp,yI,hK7⟩;refine⟨_,rfl, ?_⟩;obtain⟨Vi,Ve,rfl⟩:=Kd.eW wu;have Vo:bH.Fx w0 w bo P A1 c1 ws Vi Ve zs w7:=by
              refine⟨sj,Kd.dM wu (fun k hk=>hk.elim (fun h=>h.1) (fun h=> .inr aa)), ?_,yI,hK6.C9 hK7 (fun k hk=> ?_)⟩
              · rcases Vg with ⟨A,c,e1,e2⟩|⟨hv,b,hb,hle⟩
                · injection e1 with e1 _ e3
                  subst e1 e2 e3;have h2:=Kd.l6 rfl (Kd.JE Vp (m:=ws.length) (by rw[ahu];omega));rw[List.take_left]at h2;exact h2
                · refine Kd.Pk hv hK7 (fun k hk h=> ?_)
                  rcases h with h|h|h
                  · subst h
                    exact(nX _ hk.symm).2 (.inr rfl)
                  · exact h.1.elim (nX k hk.symm).1 (fun h3=>by have:=si k hk.symm;omega)
                  · rw[hb]at h
                    injection h with h
                    have:=si k hk.symm
                    omega
              · rcases hk with h|h|h
                · exact .inl (.inl h)
                · exact h.1.elim (fun h=> .inl (.inr (.inl h))) .inr
                · exact(Vh k h).elim (fun h=> .inl (.inr (.inr h))) (fun h=> .inr aa)
            refine hK.out _ _ ?_;clear hK K;refine eH ?_;refine ja bI ?_;go_wp2;go_roundg q
            case measure=>omega
            case rel=>exact⟨wrap64 (e+1),zs,Vi,Ve,(by first|rfl|(simp;done)),⟨H⟩,⟨Vo⟩⟩
          | false=>
            rw[aj aG]at H3;have H:=H3;clear H3;refine aX 0 27 32 1 ?_;refine aX 1 27 33 3 ?_;refine aX 2 27 34 7 ?_;refine dV 3 27 35 15 ?_;refine dV 4 27 36 31 ?_;refine dV 5 27 37 63 ?_;refine dV 6 27 38 127 ?_;refine dV 7 27 39 255 ?_;refine dV 8 27 40 511 ?_;refine dV 9 27 41 1023 ?_;refine dV 10 27 42 2047 ?_;refine aX 11 27 43 4095 ?_;refine aX 12 27 44 8191 ?_;refine aX 15 27 47 40959 ?_;refine aX 19 27 51 565247 ?_;refine aX 22 27 54 4759551 ?_;refine cX 13 27 45 4767743 hHeld ?_;refine cX 14 27 46 4784127 hHeld ?_;refine aX 16 27 48 4849663 ?_;refine aX 17 27 49 4980735 ?_;refine cX 18 27 50 5242879 hHeld ?_;refine aX 20 27 52 6291455 ?_;refine cX 21 27 53 8388607 hHeld ?_;refine aX 23 27 55 16777215 ?_;refine cX 24 27 56 33554431 hHeld ?_;refine aX 25 27 57 67108863 ?_;refine aX 26 27 58 134217727 ?_;refine ja (jC eA.1 bI) ?_;go_wp2;go_roundg q
            case measure=>omega
            case rel=>exact⟨wrap64 (e+1),ys,Ay,cy,(by first|rfl|(simp;done)),⟨H⟩,⟨U8⟩⟩
        · rw[aj c6]at H2
          obtain⟨gD,lH⟩:=dK c6;have iN:decide (0<(ws.length:Int))=true:=aV aa;have pK:decide (0<ws.length)=true:=aV aa;have Vj:f=rd ws 0:=by
            rw[← hf];unfold bH.first
            exact ak aa
          have Hi:ws.length<9223372036854775808:=by
            have h1:=(Kd.dh hW).2.2.2.1
            omega
          obtain⟨ji,hji⟩: ∃j_:Int,wrap64 ((ws.length:Int) - 1)=j_:=⟨_,rfl⟩;have Vx:IntKind.i64.wrap ((ws.length:Int) - 1)=ji:=(eV _).trans hji;rw[hji]at H2;obtain⟨b,Ab,H3⟩:=bE H2;clear H2;have p8:0≤ji:=by
            unfold wrap64 at hji
            omega
          have q8:ji<(ws.length:Int):=by
            unfold wrap64 at hji
            omega
          have Vw:decide (0≤ji)=true:=aV p8;have Vv:decide (ji<(ws.length:Int))=true:=aV q8;have q0:(0<ws.length)=True:=aJ aa;obtain⟨g1,c9,e9,_,_,_⟩:=Kd.qV HF.1.2.2.1 aa
          injection e9 with e9 _ Da
          subst e9 Da;have hx0:=(Kd.oA 0 HF.1.2.2.1 0 aG aa).1;have Vq:=(Kd.oA 0 HF.1.2.2.1 ji p8 q8).1;replace hx0:wr.cell? ⟨g1,0,none⟩=some (.int .i64 f):=by rw[Vj];exact hx0
          replace Vq:wr.cell? ⟨g1,ji.toNat,none⟩=some (.int .i64 (rd ws ji)):=Vq;clear hji c6 Hi hf Vj;replace p8:=aJ p8;replace q8:=aJ q8;go_wp2;have U7:=HF.1.drew;cases b with
          | true=>
            rw[ak rfl]at H3;obtain⟨t,At,H3⟩:=bE H3;obtain⟨aw,a2,a3,n2,c2,n3,c3,x,rfl,⟨i0,i1⟩,⟨e0,e1⟩,⟨f0,f1⟩,hx1,hy1,Vb,Vd⟩:=bH.reads hrw At.out;replace i0:=aJ i0;replace i1:=aJ i1;replace e0:=aJ e0;replace e1:=aJ e1;replace f0:=aJ f0;replace f1:=aJ f1;have l7:wr.drew.cell? ⟨bg,0,none⟩=some (.int .i64 n)∧wr.drew.cell? ⟨bg,1,none⟩=some (.slice A l.length c)∧wr.drew.cell? ⟨g1,ji.toNat,none⟩=some (.int .i64 (rd ws ji))∧wr.drew.cell? ⟨bw,0,none⟩=some (.slice (some aw) wy.length cw)∧wr.drew.cell? ⟨bk,0,none⟩=some (.int .i64 K)∧wr.drew.cell? (aw.add i.toNat)=some (.slice (some a2) n2 c2)∧wr.drew.cell? (a2.add e.toNat)=some (.slice (some a3) n3 c3)∧wr.drew.cell? (a3.add f.toNat)=some (.int .i64 x):=⟨(cH (az hbg U7.2.2.2.1) 0).trans rfl,(cH (az hbg U7.2.2.2.1) 1).trans rfl,(Kd.oA 0 U7.2.2.1 ji (of_eq_true p8) (of_eq_true q8)).1,(cH (az Ao U7.2.2.2.1) 0).trans rfl,(cH (az hbk U7.2.2.2.1) 0).trans rfl,(U7.2.2.2.1.cell (aiK _ _ hy1)).trans hy1,(U7.2.2.2.1.cell (aiK _ _ Vb)).trans Vb,(U7.2.2.2.1.cell (aiK _ _ Vd)).trans Vd⟩;refine jl (n:=27) (S:=fun w'=>w'.cell? ⟨bg,0,none⟩=some (.int .i64 n)∧w'.cell? ⟨bg,1,none⟩=some (.slice A l.length c)∧w'.cell? ⟨g1,ji.toNat,none⟩=some (.int .i64 (rd ws ji))∧w'.cell? ⟨bw,0,none⟩=some (.slice (some aw) wy.length cw)∧w'.cell? ⟨bk,0,none⟩=some (.int .i64 K)∧w'.cell? (aw.add i.toNat)=some (.slice (some a2) n2 c2)∧w'.cell? (a2.add e.toNat)=some (.slice (some a3) n3 c3)∧w'.cell? (a3.add f.toNat)=some (.int .i64 x)) (ds:=[]) #[false,false,false,false,false,false,false,false,false,false,false,false,false,false,false,false,false,false,false,false,false,false,false,false,false,false,false] bI rfl rfl l7 (fun hHeld=> ?_);refine jU bH.yd bH.ye (fun eA jV=> ?_);clear l7;generalize wr.drew=w2 at U7 hHeld ⊢;refine aX 0 27 32 1 ?_;refine aX 1 27 33 3 ?_;refine aX 2 27 34 7 ?_;refine aX 4 27 36 23 ?_;refine aX 5 27 37 55 ?_;refine aX 6 27 38 119 ?_;refine aX 7 27 39 247 ?_;refine aX 9 27 41 759 ?_;refine cX 3 27 35 767 hHeld ?_;refine cX 8 27 40 1023 hHeld ?_;refine gi 10 27 (some 42) 2047 (fun K hK=> ?_);refine gI Try.func223 bI rfl #[.agg #[.int .i64 n, .slice A l.length c], .int .i64 (rd ws ji), .int .i64 e] (by rfl) rfl rfl iM ?_
            with_reducible refine(pH.calls n _ _ l (rd ws ji) e true _ ?av ?ax Ab.out).mono ?_
            (case av=>exact Kd.aC hr U7.2.2.2.1);(case ax=>exact hc);rintro e' w3 ⟨rfl,Vn⟩;refine⟨_,rfl, ?_⟩;have U8:=U7.below Vn;refine hK.out _ _ ⟨(cH (az hbg U8.2.2.2.1) 0).trans rfl,(cH (az hbg U8.2.2.2.1) 1).trans rfl,(Kd.oA 0 U8.2.2.1 ji (of_eq_true p8) (of_eq_true q8)).1,(cH (az Ao U8.2.2.2.1) 0).trans rfl,(cH (az hbk U8.2.2.2.1) 0).trans rfl,(U8.2.2.2.1.cell (aiK _ _ hy1)).trans hy1,(U8.2.2.2.1.cell (aiK _ _ Vb)).trans Vb,(U8.2.2.2.1.cell (aiK _ _ Vd)).trans Vd⟩ (fun hHeld=> ?_);clear hK K;refine eH ?_;refine aX 11 27 43 4095 ?_;refine aX 12 27 44 8191 ?_;cases t with
            | true=>
              rw[ak rfl]at H3;have H:=H3;clear H3;refine aX 15 27 47 40959 ?_;refine aX 19 27 51 565247 ?_;refine aX 22 27 54 4759551 ?_;refine cX 13 27 45 4767743 hHeld ?_;refine cX 14 27 46 4784127 hHeld ?_;refine aX 16 27 48 4849663 ?_;refine aX 17 27 49 4980735 ?_;refine cX 18 27 50 5242879 hHeld ?_;refine aX 20 27 52 6291455 ?_;refine cX 21 27 53 8388607 hHeld ?_;refine aX 23 27 55 16777215 ?_;refine cX 24 27 56 33554431 hHeld ?_;refine aX 25 27 57 67108863 ?_;refine aX 26 27 58 134217727 ?_;refine ja (jC eA.1 bI) ?_;go_wp2;obtain⟨hlen,H⟩:=bJ H;obtain⟨zs,Az,H⟩:=bE H;have U9:=U8.drew;have Vc:=FE hx U9.2.2.2.2 Vl;have l7:w3.drew.cell? ⟨bx,0,none⟩=some (.func (.func 222) #[] #[.pointer (some ⟨bk,0,none⟩), .pointer (some ⟨bo,0,none⟩), .pointer (some ⟨bg,0,none⟩), .pointer (some ⟨bw,0,none⟩), .pointer (some ⟨bx,0,none⟩)]):=(cH Vc 0).trans rfl;refine jl (n:=6) (S:=fun w'=>w'.cell? ⟨bx,0,none⟩=some (.func (.func 222) #[] #[.pointer (some ⟨bk,0,none⟩), .pointer (some ⟨bo,0,none⟩), .pointer (some ⟨bg,0,none⟩), .pointer (some ⟨bw,0,none⟩), .pointer (some ⟨bx,0,none⟩)])) (ds:=[5]) #[false,false,false,false,false,false] bI rfl rfl l7 (fun hHeld=> ?_);clear l7;generalize w3.drew=w5 at U9 Vc hHeld ⊢;refine pV (i:=1) (N:=some 60) (v:= ?_) (a':= ?_) #[false,true,false,false,false,false] rfl rfl bI (fun _ _ _ h=>h) (ai3 ⟨by rfl, ?_⟩) ?_ ?_
              rotate_left
              · intro w'
                go_simp
                with_reducible rfl
              rotate_left
              · simp only[aiA,aiB,aiC,aiD,eV,gK]
                rfl
              refine pV (i:=2) (N:=some 61) (v:= ?_) (a':= ?_) #[false,true,true,false,false,false] rfl rfl bI (fun _ _ _ h=>h) (ai3 ⟨by rfl, ?_⟩) ?_ ?_
              rotate_left
              · intro w'
                go_simp
                with_reducible rfl
              rotate_left
              · simp only[aiA,aiB,aiC,aiD,eV,gK]
                rfl
              refine yH (i:=0) (N:=some 59) (v:= ?_) (a':= ?_) #[true,true,true,false,false,false] rfl rfl bI (fun _ _ _ h=>h) (ai3 ⟨by rfl, ?_⟩) hHeld ?_ ?_
              rotate_left
              · intro w' s0
                go_simp
                with_reducible rfl
              rotate_left
              · simp only[aiA,aiB,aiC,aiD,eV,gK]
                rfl
              refine sQ (i:=3) (N:=some 62) #[true,true,true,true,false,false] rfl rfl bI aG (fun K hK=> ?_);refine o9 (v:= .slice (some ⟨w5.heap.size,0,none⟩) 1 1) (w1:=w5.alloc (.cells #[.int .i64 e] 2 (0,0))) (by rfl) ?hr ?_;(case hr=>first|(go_simp;done)|(go_simp;rfl));refine hK.out _ _ ((cH (bS Vc _) 0).trans rfl) (fun hHeld=> ?_);clear hK K;refine eH ?_;refine sQ (i:=4) (N:=some 63) #[true,true,true,true,true,false] rfl rfl bI aG (fun K hK=> ?_);refine bH.O9 (w0:=w0) w0.heap.size (by rfl) (.tmp 60) (.tmp 62) 29 2 (.int .i64 0) 8 rfl aiF kr rfl aa (.slice (some ⟨g1,0,none⟩) ws.length c1) ws e _ rfl rfl U9.2.2.1 U9.2.2.2.1 U9.2.2.2.1.size aa ?_;intro v6 w6 Vm C5 Va Vg;obtain⟨yE,wq,Vr,C6,hK5⟩:=U9;have hK6:=Kept.qH Va hK5 (fun k hk=> .inl (.inr (.inr hk)));have Vf:=FE hx hK6 Vl;have hs5:=hK5.1;have hs6:=Va.size;have yA:=fV yE Va (fun h=>(nX bo h.symm).2 (.inr rfl));have si:=Kd.gq hW;have C8:Kd.S (Kd.slice 2 (Kd.int .i64)) 29 w6 w0.heap.size (fun k=>(P k∨w.heap.size≤k)∧k<w5.heap.size) (.slice Ay ys.length cy) ys:=
                Kd.Ph (Kd.dM (Kd.qY wq) (fun k hk=>⟨hk.1,hk.2.2.1⟩)) Va (fun k hk h=>hk.1.elim (nX k h.symm).1 (fun h2=>by have:=si k h.symm;omega))
              refine hK.out _ _ ((cH Vf 0).trans rfl) (fun hHeld=> ?_);clear hK K;refine eH ?_;refine rM (i:=5) (N:=some 64) #[true,true,true,true,true,true] rfl rfl bI aG (fun K hK=> ?_);refine Pj ai9 bI rfl (lb:= #[.pointer (some ⟨bk,0,none⟩), .pointer (some ⟨bo,0,none⟩), .pointer (some ⟨bg,0,none⟩), .pointer (some ⟨bw,0,none⟩), .pointer (some ⟨bx,0,none⟩)]) #[v6, .pointer (some ⟨bk,0,none⟩), .pointer (some ⟨bo,0,none⟩), .pointer (some ⟨bg,0,none⟩), .pointer (some ⟨bw,0,none⟩), .pointer (some ⟨bx,0,none⟩)] (by rfl) rfl rfl (by first|rfl|(simp;done)) (by(try simp only[aiO,ahl,aiP,aiS,aiT,ahN]);first|done|rfl) ?_;have Vh: ∀k,v6.ownBlock=some k→(ai5 (some ⟨g1,0,none⟩) ws.length c1).ownBlock=some k∨w5.heap.size≤k:=fun k hk=>by
                rcases Vg with ⟨A,c,e1,e2⟩|⟨_,b,hb,hle⟩
                · injection e1 with e1 _ _
                  subst e1 e2;have h9: ∀(B:Option Addr) (m m2 x x2:Nat),(ai5 B m x).ownBlock=(ai5 B m2 x2).ownBlock:=fun B _ _ _ _=>by cases B<;>rfl
                  exact .inl ((h9 _ _ _ _ _).trans hk)
                · rw[hb]at hk
                  injection hk with hk
                  exact .inr aa
              refine(IH (ws++[e]) ys zs v6 _ _ _ w6 (by rw[ahu,ahE];omega) Az.out C5 Vf yA C8 Vm (fun k hk hX=>hk.1.elim (fun h=>hP k h hX) (fun h=>by have:=Vk k hX;omega)) (fun k hk=> ?own)).mono ?_
              case own=>
                rcases Vh k hk with h|h
                · exact⟨fun h2=>h2.1.elim (nX k h).1 (fun h3=>by have:=si k h;omega),(nX k h).2⟩
                · exact⟨fun h2=>by have:=h2.2;omega,fun hX=>by have:=Vk k hX;omega⟩
              rintro e' w7 ⟨rfl,v7,sj,wu,Vp,yI,hK7⟩;refine⟨_,rfl, ?_⟩;obtain⟨Vi,Ve,rfl⟩:=Kd.eW wu;have Vo:bH.Fx w0 w bo P (some ⟨g1,0,none⟩) c1 ws Vi Ve zs w7:=by
                refine⟨sj,Kd.dM wu (fun k hk=>hk.elim (fun h=>h.1) (fun h=> .inr aa)), ?_,yI,hK6.C9 hK7 (fun k hk=> ?_)⟩
                · rcases Vg with ⟨A,c,e1,e2⟩|⟨hv,b,hb,hle⟩
                  · injection e1 with e1 _ e3
                    subst e1 e2 e3;have h2:=Kd.l6 rfl (Kd.JE Vp (m:=ws.length) (by rw[ahu];omega));rw[List.take_left]at h2;exact h2
                  · refine Kd.Pk hv hK7 (fun k hk h=> ?_)
                    rcases h with h|h|h
                    · subst h
                      exact(nX _ hk.symm).2 (.inr rfl)
                    · exact h.1.elim (nX k hk.symm).1 (fun h3=>by have:=si k hk.symm;omega)
                    · rw[hb]at h
                      injection h with h
                      have:=si k hk.symm
                      omega
                · rcases hk with h|h|h
                  · exact .inl (.inl h)
                  · exact h.1.elim (fun h=> .inl (.inr (.inl h))) .inr
                  · exact(Vh k h).elim (fun h=> .inl (.inr (.inr h))) (fun h=> .inr aa)
              refine hK.out _ _ ?_;clear hK K;refine eH ?_;refine ja bI ?_;go_wp2;go_roundg q
              case measure=>omega
              case rel=>exact⟨wrap64 (e+1),zs,Vi,Ve,(by first|rfl|(simp;done)),⟨H⟩,⟨Vo⟩⟩
            | false=>
              rw[aj aG]at H3;have H:=H3;clear H3;refine aX 15 27 47 40959 ?_;refine aX 19 27 51 565247 ?_;refine aX 22 27 54 4759551 ?_;refine cX 13 27 45 4767743 hHeld ?_;refine cX 14 27 46 4784127 hHeld ?_;refine aX 16 27 48 4849663 ?_;refine aX 17 27 49 4980735 ?_;refine cX 18 27 50 5242879 hHeld ?_;refine aX 20 27 52 6291455 ?_;refine cX 21 27 53 8388607 hHeld ?_;refine aX 23 27 55 16777215 ?_;refine cX 24 27 56 33554431 hHeld ?_;refine aX 25 27 57 67108863 ?_;refine aX 26 27 58 134217727 ?_;refine ja (jC eA.1 bI) ?_;go_wp2;go_roundg q
              case measure=>omega
              case rel=>exact⟨wrap64 (e+1),ys,Ay,cy,(by first|rfl|(simp;done)),⟨H⟩,⟨U8⟩⟩
          | false=>
            rw[aj aG,Option.bind_some,aj aG]at H3;have H:=H3;clear H3;have l7:wr.drew.cell? ⟨bg,0,none⟩=some (.int .i64 n)∧wr.drew.cell? ⟨bg,1,none⟩=some (.slice A l.length c)∧wr.drew.cell? ⟨g1,ji.toNat,none⟩=some (.int .i64 (rd ws ji)):=⟨(cH (az hbg U7.2.2.2.1) 0).trans rfl,(cH (az hbg U7.2.2.2.1) 1).trans rfl,(Kd.oA 0 U7.2.2.1 ji (of_eq_true p8) (of_eq_true q8)).1⟩;refine jl (n:=27) (S:=fun w'=>w'.cell? ⟨bg,0,none⟩=some (.int .i64 n)∧w'.cell? ⟨bg,1,none⟩=some (.slice A l.length c)∧w'.cell? ⟨g1,ji.toNat,none⟩=some (.int .i64 (rd ws ji))) (ds:=[]) #[false,false,false,false,false,false,false,false,false,false,false,false,false,false,false,false,false,false,false,false,false,false,false,false,false,false,false] bI rfl rfl l7 (fun hHeld=> ?_);refine jU bH.yd bH.ye (fun eA jV=> ?_);clear l7;generalize wr.drew=w2 at U7 hHeld ⊢;refine aX 0 27 32 1 ?_;refine aX 1 27 33 3 ?_;refine aX 2 27 34 7 ?_;refine aX 4 27 36 23 ?_;refine aX 5 27 37 55 ?_;refine aX 6 27 38 119 ?_;refine aX 7 27 39 247 ?_;refine aX 9 27 41 759 ?_;refine cX 3 27 35 767 hHeld ?_;refine cX 8 27 40 1023 hHeld ?_;refine gi 10 27 (some 42) 2047 (fun K hK=> ?_);refine gI Try.func223 bI rfl #[.agg #[.int .i64 n, .slice A l.length c], .int .i64 (rd ws ji), .int .i64 e] (by rfl) rfl rfl iM ?_
            with_reducible refine(pH.calls n _ _ l (rd ws ji) e false _ ?av ?ax Ab.out).mono ?_
            (case av=>exact Kd.aC hr U7.2.2.2.1);(case ax=>exact hc);rintro e' w3 ⟨rfl,Vn⟩;refine⟨_,rfl, ?_⟩;have U8:=U7.below Vn;refine hK.out _ _ ⟨(cH (az hbg U8.2.2.2.1) 0).trans rfl,(cH (az hbg U8.2.2.2.1) 1).trans rfl,(Kd.oA 0 U8.2.2.1 ji (of_eq_true p8) (of_eq_true q8)).1⟩ (fun hHeld=> ?_);clear hK K;refine eH ?_;refine aX 11 27 43 4095 ?_;refine aX 12 27 44 8191 ?_;refine dV 13 27 45 16383 ?_;refine dV 14 27 46 32767 ?_;refine dV 15 27 47 65535 ?_;refine dV 16 27 48 131071 ?_;refine dV 17 27 49 262143 ?_;refine dV 18 27 50 524287 ?_;refine dV 19 27 51 1048575 ?_;refine dV 20 27 52 2097151 ?_;refine dV 21 27 53 4194303 ?_;refine dV 22 27 54 8388607 ?_;refine dV 23 27 55 16777215 ?_;refine dV 24 27 56 33554431 ?_;refine dV 25 27 57 67108863 ?_;refine aX 26 27 58 134217727 ?_;refine ja (jC eA.1 bI) ?_;go_wp2;go_roundg q
            case measure=>omega
            case rel=>exact⟨wrap64 (e+1),ys,Ay,cy,(by first|rfl|(simp;done)),⟨H⟩,⟨U8⟩⟩
      · rw[aj c5]at H2
        obtain rfl:=aiq H2;have gH:=cj c5;go_wp2
        go_end0
        obtain⟨h1,h2,h3,h4,h5⟩:=HF.1;exact⟨rfl,_,h1,h2,Kd.cL h3 (fun k hk=>hW.1 k hk.symm),h4,h5⟩

theorem bH.Pm {w:World} {base g n cap:Nat} {ok:Nat→Prop} {xs:List (List Int)} (h:Kd.S (Kd.slice 2 (Kd.int .i64)) 29 w base ok (.slice (some ⟨g,0,none⟩) n cap) xs) (i j:Int) (Bt:0≤i) (hi:i<n) (hj0:0≤j) (hj:j<((aH xs i).length:Int)):
    ∃hb c',w.cell? ⟨g,i.toNat,none⟩=some (.slice (some ⟨hb,0,none⟩) (aH xs i).length c')∧w.cell? ⟨hb,j.toNat,none⟩=some (.int .i64 (rd (aH xs i) j))∧w.frozen? ⟨hb,j.toNat,none⟩=false∧ok hb∧base≤hb∧hb≠g∧(∃cells,w.heap[hb]? =some (.cells cells 2 (0,0)))∧
      ∀u,Kd.S (Kd.slice 2 (Kd.int .i64)) 29 (w.setCell ⟨hb,j.toNat,none⟩ (.int .i64 u)) base ok (.slice (some ⟨g,0,none⟩) n cap) (xs.set i.toNat ((aH xs i).set j.toNat u)):=by
  obtain⟨fk,c,hcl,hM,hcc,hok,hbk⟩:=Kd.Fc h [] i Bt hi;obtain⟨v,rfl,hR⟩:=hM;replace hR:=(show Kd.R (Kd.int .i64) 2 w base fk v (aH xs i) from hR);obtain⟨hb,cap',rfl,hbase,hlt,hcells⟩:=Kd.qV hR aa;obtain⟨h1,h2⟩:=Kd.oA 0 hR j hj0 hj;have hcell:=hcc 0 _ rfl;rw[show(Kd.slice 2 (Kd.int .i64)).sz=1 from rfl,aiR,aiQ]at hcell;have hin:=hok hb (hR.1 hb rfl);refine⟨hb,cap',(by have e:(⟨g,0,none⟩:Addr).add i.toNat=⟨g,i.toNat,none⟩:=(by unfold Addr.add;split<;>simp<;>omega);rw[e]at hcell;exact hcell),h1,h2,hin.1,hbase,fun e=>hin.2 (by rw[e];rfl),hcells,fun u=> ?_⟩
  obtain⟨JF,wX⟩:=Kd.zI hR j u;exact hbk wX (fun k hk=>by injection hk with hk;subst hk;exact hR.1 _ rfl) ⟨_,rfl,JF⟩
def bH.l0 (m:Int):Nat→Int→List (List Int)→Option (List (List Int))
  | 0,_,_=>none
  | q+1,e,x=>if e<m then (if (0≤e∧e<(x.length:Int))∧e<((aH x e).length:Int) then bH.l0 m q (wrap64 (e+1)) (x.set e.toNat ((aH x e).set e.toNat 1)) else none) else some x
def bH.lc (i m:Int):Nat→Int→List (List Int)→Option (List (List Int))
  | 0,_,_=>none
  | q+1,f,x=>if f<m then (if (0≤i∧i<(x.length:Int))∧0≤f∧f<((aH x i).length:Int)∧((aH x i).length:Int)=m then bH.lc i m q (wrap64 (f+1)) (x.set i.toNat ((aH x i).set f.toNat (if 1<rd (aH x i) f then 1 else rd (aH x i) f))) else none) else some x
def bH.lr (m:Int):Nat→Int→List (List Int)→Option (List (List Int))
  | 0,_,_=>none
  | q+1,i,x=>if i<m then (if 0≤i∧i<(x.length:Int) then (bH.lc i ((aH x i).length:Int) ((aH x i).length+1) 0 x).bind fun y=>bH.lr m q (wrap64 (i+1)) y else none) else some x
def bH.lw (k:Nat) (mx:List (List Int)) (K:Int):Nat→Int→List (List (List Int))→Option (List (List (List Int)))
  | 0,_,_=>none
  | q+1,i,wy=>if i<K then (if 0≤i∧i<(wy.length:Int) then (fQ.f k (wy.getD i.toNat []) mx).bind fun nx=>(bH.lr (nx.length:Int) (nx.length+1) 0 nx).bind fun ny=>if wy.length<5864062014805 then bH.lw k mx K q (wrap64 (i+1)) (wy++[ny]) else none else none) else some wy
def bH.f (k:Nat) (ah:Int) (ag:List (List Int)) (a1:Int):Option (List (List Int)×Bool):=(qb.f k ah ag a1).bind fun t=>if t>400 then some ([],false) else
  (kF.f ah ag).bind fun s=>(kf.f k (wrap64 (2*s))).bind fun fst=>(fX.f k ah ag).bind fun mx=>(bH.l0 (fst.length:Int) (fst.length+1) 0 fst).bind fun d=>
  (bH.lw k mx a1 (a1.toNat+1) 0 [d]).bind fun wy=>if 0≤a1∧a1≤1000 then (bH.go ah ag wy a1 a1.toNat [] []).bind fun r=>some (r,true) else none
abbrev bH.Sg:=Value×Nat×Value×Nat×Nat

def bH.J (w0 wS:World) (fst mx:List (List Int)) (m3 m4 m6 m7:Bool) (s:bH.Sg) (w':World):Prop:=
  Below w0.heap.size w0 w'∧Below wS.heap.size wS w'∧(m3=true→Kd.S (Kd.slice 2 (Kd.int .i64)) 29 w' w0.heap.size (fun k=>wS.heap.size≤k∧(m6=true→k<s.2.2.2.1)) s.1 fst)∧
    (m4=true→w'.heap[s.2.1]? =some (.cells #[s.1] 24 (0,0))∧w0.heap.size≤s.2.1)∧
    (m6=true→Kd.S (Kd.slice 2 (Kd.int .i64)) 29 w' w0.heap.size (fun k=>s.2.2.2.1≤k) s.2.2.1 mx∧s.2.2.2.1≤w'.heap.size)∧
    (m7=true→w'.heap[s.2.2.2.2]? =some (.cells #[.slice none 0 0] 145 (0,0))∧w0.heap.size≤s.2.2.2.2)
section
variable {w0 wS w1 w2:World} {fst mx:List (List Int)} {m3 m4 m6 m7:Bool} {s:bH.Sg}
theorem bH.J.below (h:bH.J w0 wS fst mx m3 m4 m6 m7 s w1) (hb:Below w1.heap.size w1 w2):bH.J w0 wS fst mx m3 m4 m6 m7 s w2:=by
  obtain⟨h1,h2,h3,h4,h6,h7⟩:=h;have:=hb.size;exact⟨aI h1 hb,aI h2 hb,fun e=>Kd.bT (h3 e) hb,fun e=>⟨az (h4 e).1 hb,(h4 e).2⟩,fun e=>⟨Kd.bT (h6 e).1 hb,ahO (h6 e).2 this⟩,fun e=>⟨az (h7 e).1 hb,(h7 e).2⟩⟩
theorem bH.J.t3 (h:bH.J w0 wS fst mx false false false m7 s w1) (hb:Below w1.heap.size w1 w2) {v:Value} (hv:Kd.S (Kd.slice 2 (Kd.int .i64)) 29 w2 w1.heap.size (fun _=>True) v fst):bH.J w0 wS fst mx true false false m7 (v,s.2) w2:=by
  have hz:=h.1.size;have FF:=h.2.1.size;obtain⟨h1,h2,h3,h4,h6,h7⟩:=h.below hb;exact⟨h1,h2,fun _=>Kd.jo (Kd.dM (Kd.qY hv) (fun _ hk=>⟨ahO FF hk.2.1,fun e=>by cases e⟩)) hz,fun e=>(by cases e),fun e=>(by cases e),h7⟩
theorem bH.J.t4 (h:bH.J w0 wS fst mx true false m6 m7 s w1):bH.J w0 wS fst mx true true m6 m7 (s.1,w1.heap.size,s.2.2) (w1.alloc (.cells #[s.1] 24)):=by
  have hz:=h.1.size;obtain⟨h1,h2,h3,h4,h6,h7⟩:=h.below (kI (ait _ _) (.cells #[s.1] 24));exact⟨h1,h2,h3,fun _=>⟨FG w1 _,hz⟩,h6,h7⟩
theorem bH.J.t6 (h:bH.J w0 wS fst mx true m4 false m7 s w1) (hb:Below w1.heap.size w1 w2) {v:Value} (hv:Kd.S (Kd.slice 2 (Kd.int .i64)) 29 w2 w1.heap.size (fun _=>True) v mx):bH.J w0 wS fst mx true m4 true m7 (s.1,s.2.1,v,w1.heap.size,s.2.2.2.2) w2:=by
  have hz:=h.1.size;have hf:=Kd.Pc (h.2.2.1 rfl) hb;have hsz:=hb.size;obtain⟨h1,h2,h3,h4,h6,h7⟩:=h.below hb;exact⟨h1,h2,fun _=>Kd.dM hf (fun _ hk=>⟨hk.1.1,fun _=>hk.2⟩),h4,fun _=>⟨Kd.jo (Kd.dM (Kd.qY hv) (fun _ hk=>hk.2.1)) hz,hsz⟩,h7⟩
theorem bH.J.t7 (h:bH.J w0 wS fst mx m3 m4 m6 false s w1):bH.J w0 wS fst mx m3 m4 m6 true (s.1,s.2.1,s.2.2.1,s.2.2.2.1,w1.heap.size) (w1.alloc (.cells #[.slice none 0 0] 145)):=by
  have hz:=h.1.size;obtain⟨h1,h2,h3,h4,h6,h7⟩:=h.below (kI (ait _ _) (.cells #[.slice none 0 0] 145));exact⟨h1,h2,h3,h4,h6,fun _=>⟨FG w1 _,hz⟩⟩
end
def bH.T3:Bool×List (List Nat×List Nat):=(true,[([],[]),([0],[0]),([1],[1]),([2,1],[2]),([3],[3]),([],[]),([5,3],[5]),([],[]),([7,4,6,0,1,2,3,4,7],[4,7]),([6,8,0,1,2,3,4,5,6,7,8],[6])])
def bH.B3:List Nat:=[0,1,3,7,15,0,47,0,255,511]
theorem bH.acH:(aiu.info? 24).map (fun i=>(i.zero,i.size,i.bytes))=some (some (.slice none 0 0),1,24):=by kernel_rfl
theorem bH.acI:gC .any (opsOf Try.f130 3)=bH.T3:=by kernel_rfl
theorem bH.acJ:kY bH.T3.2 bH.B3=true:=by kernel_rfl
theorem bH.ok (n:Int) (A:Option Addr) (c:Nat) (l:List (List Int)) (Aw:Option Addr) (cw:Nat) (wy:List (List (List Int))) (w0:World) (hr:Kd.C (Kd.slice 2 (Kd.int .i64)) w0 A l.length l) (hc:l.length≤c) (hrw:Kd.C (Kd.slice 29 (Kd.slice 2 (Kd.int .i64))) w0 Aw wy.length wy) (K bk bo bg bw bx:Nat) (hlo:w0.heap.size≤bo)
    (hbk:w0.heap[bk]? =some (.cells #[.int .i64 K] 2 (0,0))) (hbg:w0.heap[bg]? =some (.cells #[.int .i64 n, .slice A l.length c] 26 (0,0))) (Ao:w0.heap[bw]? =some (.cells #[.slice Aw wy.length cw] 145 (0,0))): ∀d,bH.OK n l wy w0 K bk bo bg bw bx d
  | 0=>bH.ok0 n l wy w0 K bk bo bg bw bx hlo hbk
  | d+1=>bH.step n A c l Aw cw wy w0 hr hc hrw K bk bo bg bw bx hlo hbk hbg Ao d (bH.ok n A c l Aw cw wy w0 hr hc hrw K bk bo bg bw bx hlo hbk hbg Ao d)
theorem bH.acK {P:Program} {w:World} (a:Addr) (m:Mode) (fn:Fn) (first captured:Array Value):(store a (.func fn first captured) m).run P w=stored P w a (.func fn first captured) m:=run_store P w a _ m rfl
attribute [local go_sem] bH.acK
theorem bH.calls (k:Nat) (ah:Int) (aE:Option Addr) (aD:Nat) (ag:List (List Int)) (a1:Int) (r1:List (List Int)) (r2:Bool) (w:World) (cC:Kd.C (Kd.slice 2 (Kd.int .i64)) w aE ag.length ag) (cD:ag.length≤aD) (h:bH.f k ah ag a1=some (r1,r2)):
    Calls aiu 130 #[.agg #[.int .i64 ah, .slice aE ag.length aD], .int .i64 a1] w fun e w'=>∃dR:Value,e= .returned (.tuple #[dR, .bool r2])∧Kd.S (Kd.slice 2 (Kd.int .i64)) 29 w' w.heap.size (fun _=>True) dR r1∧Below w.heap.size w w':=by
  obtain⟨t,At,H⟩:=bE h;clear h
  by_cases c1:t>400
  · rw[ak c1]at H
    simp only[aiv,aiw]at H;obtain⟨rfl,rfl⟩:=H;have VZ:=aV c1;clear c1;go_enter ajc,Try.ntmps130;go_wp2_with (first
      | ((with_reducible refine bO (N:=2) rfl ?_);refine cF (N:=2) (cs:= #[.int .i64 ah, .slice aE ag.length aD]) (t:=26) ?_;intro g2 cW w2 hx2 hb;clear cW;have uC:=aI (ait w.heap.size w) hb;clear hb;have Ve:w2.cell? ⟨g2,0,none⟩=some (.int .i64 ah):=(cH hx2 0).trans rfl;have Vf:w2.cell? ⟨g2,1,none⟩=some (.slice aE ag.length aD):=(cH hx2 1).trans rfl)
      | ((with_reducible refine bO (N:=3) rfl ?_);refine cF (N:=3) (cs:= #[.int .i64 a1]) (t:=2) ?_;intro g3 cW w3 Vc hb;clear cW Ve Vf;have wj:=aI uC hb;replace hx2:=az hx2 hb;clear hb;have Ve:w3.cell? ⟨g2,0,none⟩=some (.int .i64 ah):=(cH hx2 0).trans rfl;have Vf:w3.cell? ⟨g2,1,none⟩=some (.slice aE ag.length aD):=(cH hx2 1).trans rfl;have Vk:w3.cell? ⟨g3,0,none⟩=some (.int .i64 a1):=(cH Vc 0).trans rfl)
      | ((with_reducible refine bp (f:=132) rfl ?_);refine uD (some 19) rfl rfl Try.func132 bI rfl #[.agg #[.int .i64 ah, .slice aE ag.length aD], .int .i64 a1] rfl (by(try simp only[aiO,ahl,aiP]);first|done|rfl) ?_;(with_reducible refine(qb.calls k ah _ _ ag a1 t _ ?av ?ax At.out).mono ?_);(case av=>exact Kd.aC cC wj);(case ax=>exact cD);rintro e w4 ⟨rfl,hb⟩;refine⟨_,rfl, ?_⟩;clear Ve Vf Vk;replace hx2:=az hx2 hb;replace Vc:=az Vc hb;have jq:=aI wj hb;clear hb))
    go_ret2
    exact⟨_,rfl,Kd.pJ _ _ _ _ _,jq⟩
  · rw[aj c1]at H
    have VZ:=cj c1;clear c1;obtain⟨s,As,H⟩:=bE H;obtain⟨fst,Af,H⟩:=bE H;obtain⟨mx,Am,H⟩:=bE H;obtain⟨dd,Ad,H⟩:=bE H;obtain⟨V0,Aw,H⟩:=bE H;obtain⟨⟨VL,hk1⟩,H⟩:=bJ H;obtain⟨K,rfl⟩:=Int.eq_ofNat_of_zero_le VL;obtain⟨rr,V6,H⟩:=bE H;simp only[aiv,aiw]at H;obtain⟨rfl,rfl⟩:=H;go_enter ajc,Try.ntmps130;go_wp2_with (first
      | ((with_reducible refine bO (N:=2) rfl ?_);refine cF (N:=2) (cs:= #[.int .i64 ah, .slice aE ag.length aD]) (t:=26) ?_;intro g2 cW w2 hx2 hb;clear cW;have uC:=aI (ait w.heap.size w) hb;clear hb;have Ve:w2.cell? ⟨g2,0,none⟩=some (.int .i64 ah):=(cH hx2 0).trans rfl;have Vf:w2.cell? ⟨g2,1,none⟩=some (.slice aE ag.length aD):=(cH hx2 1).trans rfl)
      | ((with_reducible refine bO (N:=3) rfl ?_);refine cF (N:=3) (cs:= #[.int .i64 (K:Int)]) (t:=2) ?_;intro g3 cW w3 Vc hb;clear cW Ve Vf;have wj:=aI uC hb;replace hx2:=az hx2 hb;clear hb;have Ve:w3.cell? ⟨g2,0,none⟩=some (.int .i64 ah):=(cH hx2 0).trans rfl;have Vf:w3.cell? ⟨g2,1,none⟩=some (.slice aE ag.length aD):=(cH hx2 1).trans rfl;have Vk:w3.cell? ⟨g3,0,none⟩=some (.int .i64 (K:Int)):=(cH Vc 0).trans rfl)
      | ((with_reducible refine bp (f:=132) rfl ?_);refine uD (some 19) rfl rfl Try.func132 bI rfl #[.agg #[.int .i64 ah, .slice aE ag.length aD], .int .i64 (K:Int)] rfl (by(try simp only[aiO,ahl,aiP]);first|done|rfl) ?_;(with_reducible refine(qb.calls k ah _ _ ag (K:Int) t _ ?av ?ax At.out).mono ?_);(case av=>exact Kd.aC cC wj);(case ax=>exact cD);rintro e w4 ⟨rfl,hb⟩;refine⟨_,rfl, ?_⟩;clear Ve Vf Vk;replace hx2:=az hx2 hb;replace Vc:=az Vc hb;have jq:=aI wj hb;clear hb))
    have l7:w4.drew.cell? ⟨g2,0,none⟩=some (.int .i64 ah)∧w4.drew.cell? ⟨g2,1,none⟩=some (.slice aE ag.length aD):=⟨(cH hx2 0).trans rfl,(cH hx2 1).trans rfl⟩;refine jl (n:=10) (S:=fun w'=>w'.cell? ⟨g2,0,none⟩=some (.int .i64 ah)∧w'.cell? ⟨g2,1,none⟩=some (.slice aE ag.length aD)) (ds:=[]) #[false,false,false,false,false,false,false,false,false,false] bI rfl rfl l7 (fun hHeld=> ?_);refine jU bH.acI bH.acJ (fun eA jV=> ?_);clear l7;have hg:=bM hx2;have hk:=bM Vc;have uC:Below w.heap.size w w4.drew:=iq jq;generalize w4.drew=w1 at hg hk uC hHeld ⊢;refine cX 0 10 21 1 hHeld ?_;refine cX 5 10 26 33 hHeld ?_;refine qW (σ:=bH.Sg) 2 #[true,true,true,true,true,true,true,true,false,false] (fun s_=>[(22, .int .i64 s),(23, .int .i64 (wrap64 (2*s))),(24,s_.1),(25, .slice (some ⟨s_.2.1,0,none⟩) 1 1),(27,s_.2.2.1),(6, .pointer (some ⟨s_.2.2.2.2,0,none⟩))]) (fun s_ w'=>bH.J w w1 fst mx true true true true s_ w') ?_ ?_
    rotate_left
    · intro Vs
      refine qW (σ:=bH.Sg) 3 #[true,true,true,true,true,true,true,false,false,false] (fun s_=>[(22, .int .i64 s),(23, .int .i64 (wrap64 (2*s))),(24,s_.1),(25, .slice (some ⟨s_.2.1,0,none⟩) 1 1),(27,s_.2.2.1)]) (fun s_ w'=>bH.J w w1 fst mx true true true false s_ w') ?_ ?_
      rotate_left
      · intro VC
        refine qW (σ:=bH.Sg) 3 #[true,true,true,true,false,true,true,true,false,false] (fun s_=>[(22, .int .i64 s),(23, .int .i64 (wrap64 (2*s))),(24,s_.1),(27,s_.2.2.1),(6, .pointer (some ⟨s_.2.2.2.2,0,none⟩))]) (fun s_ w'=>bH.J w w1 fst mx true false true true s_ w') ?_ ?_
        rotate_left
        · intro Vu
          refine qW (σ:=bH.Sg) 3 #[true,true,true,true,true,true,false,true,false,false] (fun s_=>[(22, .int .i64 s),(23, .int .i64 (wrap64 (2*s))),(24,s_.1),(25, .slice (some ⟨s_.2.1,0,none⟩) 1 1),(6, .pointer (some ⟨s_.2.2.2.2,0,none⟩))]) (fun s_ w'=>bH.J w w1 fst mx true true false true s_ w') ?_ ?_
          rotate_left
          · intro VH
            refine qW (σ:=bH.Sg) 4 #[true,true,true,true,false,true,true,false,false,false] (fun s_=>[(22, .int .i64 s),(23, .int .i64 (wrap64 (2*s))),(24,s_.1),(27,s_.2.2.1)]) (fun s_ w'=>bH.J w w1 fst mx true false true false s_ w') ?_ ?_
            rotate_left
            · intro VU
              refine qW (σ:=bH.Sg) 4 #[true,true,true,true,true,true,false,false,false,false] (fun s_=>[(22, .int .i64 s),(23, .int .i64 (wrap64 (2*s))),(24,s_.1),(25, .slice (some ⟨s_.2.1,0,none⟩) 1 1)]) (fun s_ w'=>bH.J w w1 fst mx true true false false s_ w') ?_ ?_
              rotate_left
              · intro V1
                refine qW (σ:=bH.Sg) 4 #[true,true,true,true,false,true,false,true,false,false] (fun s_=>[(22, .int .i64 s),(23, .int .i64 (wrap64 (2*s))),(24,s_.1),(6, .pointer (some ⟨s_.2.2.2.2,0,none⟩))]) (fun s_ w'=>bH.J w w1 fst mx true false false true s_ w') ?_ ?_
                rotate_left
                · intro VD
                  refine qW (σ:=bH.Sg) 5 #[true,true,true,true,false,true,false,false,false,false] (fun s_=>[(22, .int .i64 s),(23, .int .i64 (wrap64 (2*s))),(24,s_.1)]) (fun s_ w'=>bH.J w w1 fst mx true false false false s_ w') ?_ ?_
                  rotate_left
                  · intro V7
                    refine qW (σ:=bH.Sg) 5 #[true,true,true,false,false,true,false,true,false,false] (fun s_=>[(22, .int .i64 s),(23, .int .i64 (wrap64 (2*s))),(6, .pointer (some ⟨s_.2.2.2.2,0,none⟩))]) (fun s_ w'=>bH.J w w1 fst mx false false false true s_ w') ?_ ?_
                    rotate_left
                    · intro VF
                      refine qW (σ:=bH.Sg) 6 #[true,true,true,false,false,true,false,false,false,false] (fun s_=>[(22, .int .i64 s),(23, .int .i64 (wrap64 (2*s)))]) (fun s_ w'=>bH.J w w1 fst mx false false false false s_ w') ?_ ?_
                      rotate_left
                      · intro V3
                        refine qW (σ:=bH.Sg) 7 #[true,false,false,false,false,true,false,true,false,false] (fun s_=>[(6, .pointer (some ⟨s_.2.2.2.2,0,none⟩))]) (fun s_ w'=>bH.J w w1 fst mx false false false true s_ w') ?_ ?_
                        rotate_left
                        · intro VS
                          have hJ:bH.J w w1 fst mx false false false false (.nilFunc,0, .nilFunc,0,0) w1:=⟨uC,ait _ _,fun e=>(by cases e),fun e=>(by cases e),fun e=>(by cases e),fun e=>(by cases e)⟩;refine zK (i:=1) (j:=7) (Ni:=some 22) (Nj:=some 6) #[true,true,false,false,false,true,false,false,false,false] #[true,false,false,false,false,true,false,true,false,false] rfl rfl rfl rfl (zL eA.1 bI) aG aG (fun K hK=> ?_) (fun K hK=> ?_)
                          · skip
                            refine gI Try.func204 bI rfl #[.agg #[.int .i64 ah, .slice aE ag.length aD]] (by rfl) rfl rfl iM ?_
                            with_reducible refine(kF.calls ah _ _ ag s _ ?av ?ax As.out).mono ?_
                            (case av=>exact Kd.aC cC hJ.1);(case ax=>exact cD);rintro e w2 ⟨rfl,hb⟩;refine⟨_,rfl, ?_⟩;have U7:=hJ.below hb;refine hK.out _ _ ⟨(cH (az hg U7.2.1) 0).trans rfl,(cH (az hg U7.2.1) 1).trans rfl⟩ (fun hHeld=> ?_);clear hK K;refine eH ?_;refine aX 2 10 23 39 ?_;exact nI (V3 _ _ U7)
                          · skip
                            refine o9 (v:= .pointer (some ⟨w1.heap.size,0,none⟩)) (w1:=w1.alloc (.cells #[.slice none 0 0] 145 (0,0))) (by rfl) ?hr ?_;(case hr=>first|(go_simp;done)|(go_simp;rfl));have U7:=hJ.t7;refine hK.out _ _ ⟨(cH (az hg U7.2.1) 0).trans rfl,(cH (az hg U7.2.1) 1).trans rfl⟩ (fun hHeld=> ?_);clear hK K;refine eH ?_;exact nI (VS _ _ U7)
                        · skip
                          rintro⟨kO,U9,nJ,bm,g6⟩ w1 hJ;have hHeld:w1.cell? ⟨g2,0,none⟩=some (.int .i64 ah)∧w1.cell? ⟨g2,1,none⟩=some (.slice aE ag.length aD):=⟨(cH (az hg hJ.2.1) 0).trans rfl,(cH (az hg hJ.2.1) 1).trans rfl⟩;refine oC (a':= ?_) ?_ ?_
                          rotate_left
                          · simp only[mG,aiA,aiB,aiC,aiD]
                            rfl
                          refine gi 1 10 (some 22) 163 (fun K hK=> ?_);refine gI Try.func204 bI rfl #[.agg #[.int .i64 ah, .slice aE ag.length aD]] (by rfl) rfl rfl iM ?_
                          with_reducible refine(kF.calls ah _ _ ag s _ ?av ?ax As.out).mono ?_
                          (case av=>exact Kd.aC cC hJ.1);(case ax=>exact cD);rintro e w2 ⟨rfl,hb⟩;refine⟨_,rfl, ?_⟩;have U7:=hJ.below hb;refine hK.out _ _ ⟨(cH (az hg U7.2.1) 0).trans rfl,(cH (az hg U7.2.1) 1).trans rfl⟩ (fun hHeld=> ?_);clear hK K;refine eH ?_;refine aX 2 10 23 167 ?_;exact nI (VF _ _ U7)
                      · skip
                        rintro⟨kO,U9,nJ,bm,g6⟩ w1 hJ;have hHeld:w1.cell? ⟨g2,0,none⟩=some (.int .i64 ah)∧w1.cell? ⟨g2,1,none⟩=some (.slice aE ag.length aD):=⟨(cH (az hg hJ.2.1) 0).trans rfl,(cH (az hg hJ.2.1) 1).trans rfl⟩;refine oC (a':= ?_) ?_ ?_
                        rotate_left
                        · simp only[mG,aiA,aiB,aiC,aiD]
                          rfl
                        refine zK (i:=3) (j:=7) (Ni:=some 24) (Nj:=some 6) #[true,true,true,true,false,true,false,false,false,false] #[true,true,true,false,false,true,false,true,false,false] rfl rfl rfl rfl (zL eA.1 bI) aG aG (fun K hK=> ?_) (fun K hK=> ?_)
                        · skip
                          refine gI Try.func221 bI rfl #[.int .i64 (wrap64 (2*s))] (by rfl) rfl rfl iM ?_
                          with_reducible refine(kf.calls k (wrap64 (2*s)) fst _ Af.out).mono ?_
                          rintro e w2 ⟨v,rfl,hv,hb⟩;refine⟨_,rfl, ?_⟩;have U7:=hJ.t3 hb hv;refine hK.out _ _ ⟨(cH (az hg U7.2.1) 0).trans rfl,(cH (az hg U7.2.1) 1).trans rfl⟩ (fun hHeld=> ?_);clear hK K;refine eH ?_;exact nI (V7 _ _ U7)
                        · skip
                          refine o9 (v:= .pointer (some ⟨w1.heap.size,0,none⟩)) (w1:=w1.alloc (.cells #[.slice none 0 0] 145 (0,0))) (by rfl) ?hr ?_;(case hr=>first|(go_simp;done)|(go_simp;rfl));have U7:=hJ.t7;refine hK.out _ _ ⟨(cH (az hg U7.2.1) 0).trans rfl,(cH (az hg U7.2.1) 1).trans rfl⟩ (fun hHeld=> ?_);clear hK K;refine eH ?_;exact nI (VF _ _ U7)
                    · skip
                      rintro⟨kO,U9,nJ,bm,g6⟩ w1 hJ;have hHeld:w1.cell? ⟨g2,0,none⟩=some (.int .i64 ah)∧w1.cell? ⟨g2,1,none⟩=some (.slice aE ag.length aD):=⟨(cH (az hg hJ.2.1) 0).trans rfl,(cH (az hg hJ.2.1) 1).trans rfl⟩;refine oC (a':= ?_) ?_ ?_
                      rotate_left
                      · simp only[mG,aiA,aiB,aiC,aiD]
                        rfl
                      refine gi 3 10 (some 24) 175 (fun K hK=> ?_);refine gI Try.func221 bI rfl #[.int .i64 (wrap64 (2*s))] (by rfl) rfl rfl iM ?_
                      with_reducible refine(kf.calls k (wrap64 (2*s)) fst _ Af.out).mono ?_
                      rintro e w2 ⟨v,rfl,hv,hb⟩;refine⟨_,rfl, ?_⟩;have U7:=hJ.t3 hb hv;refine hK.out _ _ ⟨(cH (az hg U7.2.1) 0).trans rfl,(cH (az hg U7.2.1) 1).trans rfl⟩ (fun hHeld=> ?_);clear hK K;refine eH ?_;exact nI (VD _ _ U7)
                  · skip
                    rintro⟨kO,U9,nJ,bm,g6⟩ w1 hJ;obtain⟨iP,iR,U8⟩:=Kd.eW (hJ.2.2.1 rfl);replace U8:kO= .slice iP fst.length iR:=U8;subst U8;have hHeld:w1.cell? ⟨g2,0,none⟩=some (.int .i64 ah)∧w1.cell? ⟨g2,1,none⟩=some (.slice aE ag.length aD):=⟨(cH (az hg hJ.2.1) 0).trans rfl,(cH (az hg hJ.2.1) 1).trans rfl⟩;refine oC (a':= ?_) ?_ ?_
                    rotate_left
                    · simp only[mG,aiA,aiB,aiC,aiD]
                      rfl
                    refine acL (i:=4) (j:=6) (k:=7) (Ni:=some 25) (Nj:=some 27) (Nk:=some 6) #[true,true,true,true,true,true,false,false,false,false] #[true,true,true,true,false,true,true,false,false,false] #[true,true,true,true,false,true,false,true,false,false] rfl rfl rfl rfl rfl rfl (acM eA.1 bI) aG aG aG (fun K hK=> ?_) (fun K hK=> ?_) (fun K hK=> ?_)
                    · skip
                      refine o9 (v:= .slice (some ⟨w1.heap.size,0,none⟩) 1 1) (w1:=w1.alloc (.cells #[.slice iP fst.length iR] 24 (0,0))) (by rfl) ?hr ?_;(case hr=>first|(go_simp;done)|(go_simp;rfl));have U7:=hJ.t4;refine hK.out _ _ ⟨(cH (az hg U7.2.1) 0).trans rfl,(cH (az hg U7.2.1) 1).trans rfl⟩ (fun hHeld=> ?_);clear hK K;refine eH ?_;exact nI (V1 _ _ U7)
                    · skip
                      refine gI ajd bI rfl #[.agg #[.int .i64 ah, .slice aE ag.length aD]] (by rfl) rfl rfl iM ?_
                      with_reducible refine(fX.calls k ah _ _ ag mx _ ?av ?ax Am.out).mono ?_
                      (case av=>exact Kd.aC cC hJ.1);(case ax=>exact cD);rintro e w2 ⟨v,rfl,hv,hb⟩;refine⟨_,rfl, ?_⟩;have U7:=hJ.t6 hb hv;refine hK.out _ _ ⟨(cH (az hg U7.2.1) 0).trans rfl,(cH (az hg U7.2.1) 1).trans rfl⟩ (fun hHeld=> ?_);clear hK K;refine eH ?_;exact nI (VU _ _ U7)
                    · skip
                      refine o9 (v:= .pointer (some ⟨w1.heap.size,0,none⟩)) (w1:=w1.alloc (.cells #[.slice none 0 0] 145 (0,0))) (by rfl) ?hr ?_;(case hr=>first|(go_simp;done)|(go_simp;rfl));have U7:=hJ.t7;refine hK.out _ _ ⟨(cH (az hg U7.2.1) 0).trans rfl,(cH (az hg U7.2.1) 1).trans rfl⟩ (fun hHeld=> ?_);clear hK K;refine eH ?_;exact nI (VD _ _ U7)
                · skip
                  rintro⟨kO,U9,nJ,bm,g6⟩ w1 hJ;obtain⟨iP,iR,U8⟩:=Kd.eW (hJ.2.2.1 rfl);replace U8:kO= .slice iP fst.length iR:=U8;subst U8;have hHeld:w1.cell? ⟨g2,0,none⟩=some (.int .i64 ah)∧w1.cell? ⟨g2,1,none⟩=some (.slice aE ag.length aD):=⟨(cH (az hg hJ.2.1) 0).trans rfl,(cH (az hg hJ.2.1) 1).trans rfl⟩;refine oC (a':= ?_) ?_ ?_
                  rotate_left
                  · simp only[mG,aiA,aiB,aiC,aiD]
                    rfl
                  refine zK (i:=4) (j:=6) (Ni:=some 25) (Nj:=some 27) #[true,true,true,true,true,true,false,true,false,false] #[true,true,true,true,false,true,true,true,false,false] rfl rfl rfl rfl (zL eA.1 bI) aG aG (fun K hK=> ?_) (fun K hK=> ?_)
                  · skip
                    refine o9 (v:= .slice (some ⟨w1.heap.size,0,none⟩) 1 1) (w1:=w1.alloc (.cells #[.slice iP fst.length iR] 24 (0,0))) (by rfl) ?hr ?_;(case hr=>first|(go_simp;done)|(go_simp;rfl));have U7:=hJ.t4;refine hK.out _ _ ⟨(cH (az hg U7.2.1) 0).trans rfl,(cH (az hg U7.2.1) 1).trans rfl⟩ (fun hHeld=> ?_);clear hK K;refine eH ?_;exact nI (VH _ _ U7)
                  · skip
                    refine gI ajd bI rfl #[.agg #[.int .i64 ah, .slice aE ag.length aD]] (by rfl) rfl rfl iM ?_
                    with_reducible refine(fX.calls k ah _ _ ag mx _ ?av ?ax Am.out).mono ?_
                    (case av=>exact Kd.aC cC hJ.1);(case ax=>exact cD);rintro e w2 ⟨v,rfl,hv,hb⟩;refine⟨_,rfl, ?_⟩;have U7:=hJ.t6 hb hv;refine hK.out _ _ ⟨(cH (az hg U7.2.1) 0).trans rfl,(cH (az hg U7.2.1) 1).trans rfl⟩ (fun hHeld=> ?_);clear hK K;refine eH ?_;exact nI (Vu _ _ U7)
              · skip
                rintro⟨kO,U9,nJ,bm,g6⟩ w1 hJ;obtain⟨iP,iR,U8⟩:=Kd.eW (hJ.2.2.1 rfl);replace U8:kO= .slice iP fst.length iR:=U8;subst U8;have hHeld:w1.cell? ⟨g2,0,none⟩=some (.int .i64 ah)∧w1.cell? ⟨g2,1,none⟩=some (.slice aE ag.length aD):=⟨(cH (az hg hJ.2.1) 0).trans rfl,(cH (az hg hJ.2.1) 1).trans rfl⟩;refine oC (a':= ?_) ?_ ?_
                rotate_left
                · simp only[mG,aiA,aiB,aiC,aiD]
                  rfl
                refine zK (i:=6) (j:=7) (Ni:=some 27) (Nj:=some 6) #[true,true,true,true,true,true,true,false,false,false] #[true,true,true,true,true,true,false,true,false,false] rfl rfl rfl rfl (zL eA.1 bI) aG aG (fun K hK=> ?_) (fun K hK=> ?_)
                · skip
                  refine gI ajd bI rfl #[.agg #[.int .i64 ah, .slice aE ag.length aD]] (by rfl) rfl rfl iM ?_
                  with_reducible refine(fX.calls k ah _ _ ag mx _ ?av ?ax Am.out).mono ?_
                  (case av=>exact Kd.aC cC hJ.1);(case ax=>exact cD);rintro e w2 ⟨v,rfl,hv,hb⟩;refine⟨_,rfl, ?_⟩;have U7:=hJ.t6 hb hv;refine hK.out _ _ ⟨(cH (az hg U7.2.1) 0).trans rfl,(cH (az hg U7.2.1) 1).trans rfl⟩ (fun hHeld=> ?_);clear hK K;refine eH ?_;exact nI (VC _ _ U7)
                · skip
                  refine o9 (v:= .pointer (some ⟨w1.heap.size,0,none⟩)) (w1:=w1.alloc (.cells #[.slice none 0 0] 145 (0,0))) (by rfl) ?hr ?_;(case hr=>first|(go_simp;done)|(go_simp;rfl));have U7:=hJ.t7;refine hK.out _ _ ⟨(cH (az hg U7.2.1) 0).trans rfl,(cH (az hg U7.2.1) 1).trans rfl⟩ (fun hHeld=> ?_);clear hK K;refine eH ?_;exact nI (VH _ _ U7)
            · skip
              rintro⟨kO,U9,nJ,bm,g6⟩ w1 hJ;obtain⟨iP,iR,U8⟩:=Kd.eW (hJ.2.2.1 rfl);replace U8:kO= .slice iP fst.length iR:=U8;subst U8;obtain⟨qI,jd,Va⟩:=Kd.eW (hJ.2.2.2.2.1 rfl).1;replace Va:nJ= .slice qI mx.length jd:=Va;subst Va;have hHeld:w1.cell? ⟨g2,0,none⟩=some (.int .i64 ah)∧w1.cell? ⟨g2,1,none⟩=some (.slice aE ag.length aD):=⟨(cH (az hg hJ.2.1) 0).trans rfl,(cH (az hg hJ.2.1) 1).trans rfl⟩;refine oC (a':= ?_) ?_ ?_
              rotate_left
              · simp only[mG,aiA,aiB,aiC,aiD]
                rfl
              refine zK (i:=4) (j:=7) (Ni:=some 25) (Nj:=some 6) #[true,true,true,true,true,true,true,false,false,false] #[true,true,true,true,false,true,true,true,false,false] rfl rfl rfl rfl (zL eA.1 bI) aG aG (fun K hK=> ?_) (fun K hK=> ?_)
              · skip
                refine o9 (v:= .slice (some ⟨w1.heap.size,0,none⟩) 1 1) (w1:=w1.alloc (.cells #[.slice iP fst.length iR] 24 (0,0))) (by rfl) ?hr ?_;(case hr=>first|(go_simp;done)|(go_simp;rfl));have U7:=hJ.t4;refine hK.out _ _ ⟨(cH (az hg U7.2.1) 0).trans rfl,(cH (az hg U7.2.1) 1).trans rfl⟩ (fun hHeld=> ?_);clear hK K;refine eH ?_;exact nI (VC _ _ U7)
              · skip
                refine o9 (v:= .pointer (some ⟨w1.heap.size,0,none⟩)) (w1:=w1.alloc (.cells #[.slice none 0 0] 145 (0,0))) (by rfl) ?hr ?_;(case hr=>first|(go_simp;done)|(go_simp;rfl));have U7:=hJ.t7;refine hK.out _ _ ⟨(cH (az hg U7.2.1) 0).trans rfl,(cH (az hg U7.2.1) 1).trans rfl⟩ (fun hHeld=> ?_);clear hK K;refine eH ?_;exact nI (Vu _ _ U7)
          · skip
            rintro⟨kO,U9,nJ,bm,g6⟩ w1 hJ;obtain⟨iP,iR,U8⟩:=Kd.eW (hJ.2.2.1 rfl);replace U8:kO= .slice iP fst.length iR:=U8;subst U8;have hHeld:w1.cell? ⟨g2,0,none⟩=some (.int .i64 ah)∧w1.cell? ⟨g2,1,none⟩=some (.slice aE ag.length aD):=⟨(cH (az hg hJ.2.1) 0).trans rfl,(cH (az hg hJ.2.1) 1).trans rfl⟩;refine oC (a':= ?_) ?_ ?_
            rotate_left
            · simp only[mG,aiA,aiB,aiC,aiD]
              rfl
            refine gi 6 10 (some 27) 255 (fun K hK=> ?_);refine gI ajd bI rfl #[.agg #[.int .i64 ah, .slice aE ag.length aD]] (by rfl) rfl rfl iM ?_
            with_reducible refine(fX.calls k ah _ _ ag mx _ ?av ?ax Am.out).mono ?_
            (case av=>exact Kd.aC cC hJ.1);(case ax=>exact cD);rintro e w2 ⟨v,rfl,hv,hb⟩;refine⟨_,rfl, ?_⟩;have U7:=hJ.t6 hb hv;refine hK.out _ _ ⟨(cH (az hg U7.2.1) 0).trans rfl,(cH (az hg U7.2.1) 1).trans rfl⟩ (fun hHeld=> ?_);clear hK K;refine eH ?_;exact nI (Vs _ _ U7)
        · skip
          rintro⟨kO,U9,nJ,bm,g6⟩ w1 hJ;obtain⟨iP,iR,U8⟩:=Kd.eW (hJ.2.2.1 rfl);replace U8:kO= .slice iP fst.length iR:=U8;subst U8;obtain⟨qI,jd,Va⟩:=Kd.eW (hJ.2.2.2.2.1 rfl).1;replace Va:nJ= .slice qI mx.length jd:=Va;subst Va;have hHeld:w1.cell? ⟨g2,0,none⟩=some (.int .i64 ah)∧w1.cell? ⟨g2,1,none⟩=some (.slice aE ag.length aD):=⟨(cH (az hg hJ.2.1) 0).trans rfl,(cH (az hg hJ.2.1) 1).trans rfl⟩;refine oC (a':= ?_) ?_ ?_
          rotate_left
          · simp only[mG,aiA,aiB,aiC,aiD]
            rfl
          refine gi 4 10 (some 25) 255 (fun K hK=> ?_);refine o9 (v:= .slice (some ⟨w1.heap.size,0,none⟩) 1 1) (w1:=w1.alloc (.cells #[.slice iP fst.length iR] 24 (0,0))) (by rfl) ?hr ?_;(case hr=>first|(go_simp;done)|(go_simp;rfl));have U7:=hJ.t4;refine hK.out _ _ ⟨(cH (az hg U7.2.1) 0).trans rfl,(cH (az hg U7.2.1) 1).trans rfl⟩ (fun hHeld=> ?_);clear hK K;refine eH ?_;exact nI (Vs _ _ U7)
      · skip
        rintro⟨kO,U9,nJ,bm,g6⟩ w1 hJ;obtain⟨iP,iR,U8⟩:=Kd.eW (hJ.2.2.1 rfl);replace U8:kO= .slice iP fst.length iR:=U8;subst U8;obtain⟨qI,jd,Va⟩:=Kd.eW (hJ.2.2.2.2.1 rfl).1;replace Va:nJ= .slice qI mx.length jd:=Va;subst Va;have hHeld:w1.cell? ⟨g2,0,none⟩=some (.int .i64 ah)∧w1.cell? ⟨g2,1,none⟩=some (.slice aE ag.length aD):=⟨(cH (az hg hJ.2.1) 0).trans rfl,(cH (az hg hJ.2.1) 1).trans rfl⟩;refine oC (a':= ?_) ?_ ?_
        rotate_left
        · simp only[mG,aiA,aiB,aiC,aiD]
          rfl
        refine gi 7 10 (some 6) 255 (fun K hK=> ?_);refine o9 (v:= .pointer (some ⟨w1.heap.size,0,none⟩)) (w1:=w1.alloc (.cells #[.slice none 0 0] 145 (0,0))) (by rfl) ?hr ?_;(case hr=>first|(go_simp;done)|(go_simp;rfl));have U7:=hJ.t7;refine hK.out _ _ ⟨(cH (az hg U7.2.1) 0).trans rfl,(cH (az hg U7.2.1) 1).trans rfl⟩ (fun hHeld=> ?_);clear hK K;refine eH ?_;exact nI (Vs _ _ U7)
    rintro⟨kO,U9,nJ,bm,g6⟩ w1 hJ;obtain⟨iP,iR,U8⟩:=Kd.eW (hJ.2.2.1 rfl);replace U8:kO= .slice iP fst.length iR:=U8;subst U8;obtain⟨qI,jd,Va⟩:=Kd.eW (hJ.2.2.2.2.1 rfl).1;replace Va:nJ= .slice qI mx.length jd:=Va;subst Va;have hHeld:w1.cell? ⟨g2,0,none⟩=some (.int .i64 ah)∧w1.cell? ⟨g2,1,none⟩=some (.slice aE ag.length aD):=⟨(cH (az hg hJ.2.1) 0).trans rfl,(cH (az hg hJ.2.1) 1).trans rfl⟩;refine oC (a':= ?_) ?_ ?_
    rotate_left
    · simp only[mG,aiA,aiB,aiC,aiD]
      rfl
    obtain⟨VE,Vr,FD,hA0,VK,h70⟩:=hJ;have FF:g3<_:=ee hk;replace hg:=az hg Vr;replace hk:=az hk Vr;have hF:=Kd.dM (FD rfl) (fun k h=>(⟨Nat.lt_of_lt_of_le FF h.1,h.2 rfl⟩:g3<k∧k<bm));obtain⟨hA,Vx⟩:=hA0 rfl;obtain⟨hM,_⟩:=VK rfl;obtain⟨h7,Vn⟩:=h70 rfl;clear jq Vr FF FD hA0 VK h70;have jq:=VE;clear VE;dsimp only at hF hA Vx hM h7 Vn;refine gi 8 10 none 511 (fun K hK=> ?_);have VQ:w1.cell? ⟨g6,0,none⟩=some (.slice none 0 0):=(cH h7 0).trans rfl;have Wa:=aA h7 0;refine tW (w1:= ?_) (by rfl) rfl ?_ ?_
    rotate_left
    · go_simp
      rfl
    refine hK.out _ _ ⟨(cH (iO hg (p:=⟨g6,0,none⟩) (ru hg h7 aG) _) 0).trans rfl,(cH (iO hg (p:=⟨g6,0,none⟩) (ru hg h7 aG) _) 1).trans rfl⟩ (fun hHeld=> ?_);clear hK K VQ Wa;refine aX 9 10 7 1023 ?_;refine ja (jC eA.1 bI) ?_;replace hg:=iO hg (p:=⟨g6,0,none⟩) (ru hg h7 aG) (.slice (some ⟨U9,0,none⟩) 1 1);replace hk:=iO hk (p:=⟨g6,0,none⟩) (ru hk h7 aG) (.slice (some ⟨U9,0,none⟩) 1 1);replace hA:=iO hA (p:=⟨g6,0,none⟩) (ru hA h7 aG) (.slice (some ⟨U9,0,none⟩) 1 1);replace hF:=Kd.Al hF h7 aG 0 (.slice (some ⟨U9,0,none⟩) 1 1);replace hM:=Kd.Al hM h7 aG 0 (.slice (some ⟨U9,0,none⟩) 1 1);replace jq:Below w.heap.size w (w1.setCell ⟨g6,0,none⟩ (.slice (some ⟨U9,0,none⟩) 1 1)):=mF jq Vn;replace h7:(w1.setCell ⟨g6,0,none⟩ (.slice (some ⟨U9,0,none⟩) 1 1)).heap[g6]? =some (.cells #[.slice (some ⟨U9,0,none⟩) 1 1] 145 (0,0)):=dD (cs:= #[.slice none 0 0]) h7 0 _ rfl;clear hHeld;generalize w1.setCell ⟨g6,0,none⟩ (.slice (some ⟨U9,0,none⟩) 1 1)=w5 at hg hk hA hF hM jq h7 ⊢;have Vd:w5.cell? ⟨g6,0,none⟩=some (.slice (some ⟨U9,0,none⟩) 1 1):=(cH h7 0).trans rfl;have Vm:w5.cell? ⟨U9,0,none⟩=some (.slice iP fst.length iR):=(cH hA 0).trans rfl;go_wp2;clear Vd Vm;go_loopg [32] (fst.length+1) (fun kq JG w'=>∃(e:Int) (x:List (List Int)),JG= .int .i64 e∧au (bH.l0 (fst.length:Int) kq e x=some dd)∧au (w'.heap[g2]? =some (.cells #[.int .i64 ah, .slice aE ag.length aD] 26 (0,0)))∧au (w'.heap[g3]? =some (.cells #[.int .i64 (K:Int)] 2 (0,0)))∧au (w'.heap[U9]? =some (.cells #[.slice iP fst.length iR] 24 (0,0)))∧au (w'.heap[g6]? =some (.cells #[.slice (some ⟨U9,0,none⟩) 1 1] 145 (0,0)))∧
      au (Kd.S (Kd.slice 2 (Kd.int .i64)) 29 w' w.heap.size (fun k=>g3<k∧k<bm) (.slice iP fst.length iR) x)∧au (Kd.S (Kd.slice 2 (Kd.int .i64)) 29 w' w.heap.size (fun k=>bm≤k) (.slice qI mx.length jd) mx)∧au (Below w.heap.size w w'))
    case atStart=>exact⟨0,fst,(by first|rfl|(simp;done)),Ad,⟨hg⟩,⟨hk⟩,⟨hA⟩,⟨h7⟩,⟨hF⟩,⟨hM⟩,⟨jq⟩⟩
    case round=>
      clear hg hk hA h7 hF hM jq;obtain⟨e,x,rfl,⟨HA⟩,⟨hg⟩,⟨hk⟩,⟨hA⟩,⟨h7⟩,⟨hF⟩,⟨hM⟩,⟨jq⟩⟩:=hrel;cases gk with
      | zero=>exact absurd HA (by simp[bH.l0])
      | succ q=>
        simp only[bH.l0]at HA;have Vd:wr.cell? ⟨g6,0,none⟩=some (.slice (some ⟨U9,0,none⟩) 1 1):=(cH h7 0).trans rfl;have Vm:wr.cell? ⟨U9,0,none⟩=some (.slice iP fst.length iR):=(cH hA 0).trans rfl
        by_cases c5:e<(fst.length:Int)
        · rw[ak c5]at HA
          have gH:=aV c5;obtain⟨⟨⟨e0,e1⟩,e2⟩,H⟩:=bJ HA;clear HA;have hxl:=(Kd.fU hF).1;obtain⟨gF,c9,e9,_,_,_⟩:=Kd.qV (Kd.l8 hF) aa
          injection e9 with e9 Vq Da
          subst e9 Da;obtain⟨hb,c',hrow,hcell,hfz,hok,hbase,hne,⟨cells,hty⟩,hput⟩:=bH.Pm hF e e e0 c5 e0 e2;have Wt:=aJ e0;have Wn:=aJ c5;have Wh:=aJ e2;clear hxl e1 Vq c5;go_wp2;go_roundg q
          case measure=>omega
          case rel=>exact⟨wrap64 (e+1),_,(by first|rfl|(simp;done)),⟨H⟩,⟨iO hg (p:=⟨hb,e.toNat,none⟩) (ru hg hty aG) _⟩,⟨iO hk (p:=⟨hb,e.toNat,none⟩) (air hok.1) _⟩,⟨iO hA (p:=⟨hb,e.toNat,none⟩) (ru hA hty aG) _⟩,⟨iO h7 (p:=⟨hb,e.toNat,none⟩) (ru h7 hty aG) _⟩,⟨hput 1⟩,⟨Kd.fO hM (p:=⟨hb,e.toNat,none⟩) (fun k hk h=>by have h1:=hok.2;have h2:k=hb:=h;omega) _⟩,⟨jq.setCell hbase _⟩⟩
        · rw[aj c5]at HA
          obtain rfl:=aiq HA;have gH:=cj c5;clear Vd Vm;have hxl:=(Kd.fU hF).1;have hR:Kd.R (Kd.slice 29 (Kd.slice 2 (Kd.int .i64))) 24 wr w.heap.size (fun _=>True) (.slice (some ⟨U9,0,none⟩) [x].length 1) [x]:=by
            refine⟨fun _ _=>trivial,[.slice iP fst.length iR],⟨by simp[Kd.slice], .inr ⟨U9,1,#[.slice iP fst.length iR],rfl,Vx,hA,by simp,by decide,by simp[Kd.slice],by simp[Kd.slice]⟩⟩,bP.one ⟨_,rfl, ?_⟩ (bP.none _ _)⟩;exact Kd.cL (Kd.nT (Kd.l8 hF) hA aG) (fun k hk=>⟨trivial,fun e=>hk.2 (by injection e)⟩)
          have VN:wr.cell? ⟨g3,0,none⟩=some (.int .i64 (K:Int)):=(cH hk 0).trans rfl;go_wp2;clear VN hA hF hxl;have Vp:=Aw.out;rw[Int.toNat_natCast]at Vp;replace hM:=Kd.dM hM (fun _ _=>trivial);go_loopg [45] (K+1) (fun kq HM w'=>∃(i:Int) (wy:List (List (List Int))) (Aq:Option Addr) (cq:Nat),HM= .int .i64 i∧au (bH.lw k mx (K:Int) kq i wy=some V0)∧au (w'.heap[g2]? =some (.cells #[.int .i64 ah, .slice aE ag.length aD] 26 (0,0)))∧au (w'.heap[g3]? =some (.cells #[.int .i64 (K:Int)] 2 (0,0)))∧au (w'.heap[g6]? =some (.cells #[.slice Aq wy.length cq] 145 (0,0)))∧
            au (Kd.R (Kd.slice 29 (Kd.slice 2 (Kd.int .i64))) 24 w' w.heap.size (fun _=>True) (.slice Aq wy.length cq) wy)∧au (Kd.S (Kd.slice 2 (Kd.int .i64)) 29 w' w.heap.size (fun _=>True) (.slice qI mx.length jd) mx)∧au (Below w.heap.size w w'))
          case atStart=>exact⟨0,[x],some ⟨U9,0,none⟩,1,(by first|rfl|(simp;done)),⟨Vp⟩,⟨hg⟩,⟨hk⟩,⟨h7⟩,⟨hR⟩,⟨hM⟩,⟨jq⟩⟩
          case round=>
            clear hg hk h7 hR hM jq Vp;obtain⟨i,wy,Aq,cq,rfl,⟨HA⟩,⟨hg⟩,⟨hk⟩,⟨h7⟩,⟨hR⟩,⟨hM⟩,⟨jq⟩⟩:=hrel;obtain⟨wA,V2⟩: ∃z,z=wr:=⟨_,rfl⟩;subst V2;have Vd:wA.cell? ⟨g6,0,none⟩=some (.slice Aq wy.length cq):=(cH h7 0).trans rfl;cases gk with
            | zero=>exact absurd HA (by simp[bH.lw])
            | succ q=>
              simp only[bH.lw]at HA
              by_cases c5:i<(K:Int)
              · rw[ak c5]at HA
                have gH:=aV c5;clear c5;obtain⟨⟨i0,i1⟩,H⟩:=bJ HA;obtain⟨nx,An,H⟩:=bE H;obtain⟨ny,Ay,H⟩:=bE H;obtain⟨hlen,H⟩:=bJ H;clear HA;have tE:=Kd.dh hR;obtain⟨aq,cc,eq,hcl,VI,VJ⟩:=Kd.wo tE.2.2 [] i i0 i1;subst eq;obtain⟨ro,hro⟩: ∃z,z=wy.getD i.toNat []:=⟨_,rfl⟩;rw[← hro]at An VI;clear hro;obtain⟨A2,c2,rfl,hl2,sR⟩:=VI;have Vy:=VJ 0 _ rfl;rw[show(Kd.slice 29 (Kd.slice 2 (Kd.int .i64))).sz=1 from rfl,aiR,aiQ]at Vy;have Vh:=Kd.fU hM;have V9:=aJ i0;have VX:=aJ i1;clear hcl VJ;go_wp2_with (first
                  | ((with_reducible refine bp (f:=220) rfl ?_);refine uD (some 53) rfl rfl Try.func220 bI rfl #[.slice A2 ro.length c2, .slice qI mx.length jd] rfl (by(try simp only[aiO,ahl,aiP]);first|done|rfl) ?_;(with_reducible refine(fQ.calls k A2 c2 ro qI jd mx nx _ ?av ?ax ?cK ?cY An.out).mono ?_);(case av=>exact sR);(case ax=>exact hl2);(case cK=>exact Vh.2.2);(case cY=>exact Vh.2.1);rintro e w6 ⟨vn,rfl,hN,hb⟩;refine⟨_,rfl, ?_⟩;obtain⟨uB,c10,rfl⟩:=Kd.eW hN))
                clear tE Vh Vy V9 VX Vd sR hl2;go_loopg [56] (nx.length+1) (fun kq VO w'=>∃(j:Int) (x:List (List Int)),VO= .int .i64 j∧au (bH.lr (nx.length:Int) kq j x=some ny)∧au (Kd.S (Kd.slice 2 (Kd.int .i64)) 29 w' wA.heap.size (fun _=>True) (.slice uB nx.length c10) x)∧au (Below wA.heap.size wA w'))
                case atStart=>exact⟨0,nx,(by first|rfl|(simp;done)),⟨Ay.out⟩,⟨hN⟩,⟨hb⟩⟩
                case round=>
                  clear hN hb;obtain⟨j,x,rfl,⟨HA⟩,⟨hN⟩,⟨Vb⟩⟩:=hrel;obtain⟨wB,VR⟩: ∃z,z=wr:=⟨_,rfl⟩;subst VR;cases gk with
                  | zero=>exact absurd HA (by simp[bH.lr])
                  | succ q2=>
                    simp only[bH.lr]at HA
                    by_cases c6:j<(nx.length:Int)
                    · rw[ak c6]at HA
                      have gD:=aV c6;obtain⟨⟨j0,j1⟩,H2⟩:=bJ HA;obtain⟨y,Wc,H2⟩:=bE H2;clear HA;obtain⟨gN,c9,e9,_,_,_⟩:=Kd.qV (Kd.l8 hN) aa
                      injection e9 with e9 Vq Da
                      subst e9 Da;obtain⟨cr,hcl,Vh,hcell⟩:=Kd.uo hN [] j j0 c6;obtain⟨vr,rfl,tE⟩:=Vh;obtain⟨Ar,cr,rfl⟩:=Kd.eF tE;have hrow:=hcell 0 _ rfl;rw[show(Kd.slice 2 (Kd.int .i64)).sz=1 from rfl,aiR,aiQ,show(⟨gN,0,none⟩:Addr).add j.toNat=⟨gN,j.toNat,none⟩ from(by unfold Addr.add;split<;>simp<;>omega)]at hrow
                      replace hrow:wB.cell? ⟨gN,j.toNat,none⟩=some (.slice Ar (aH x j).length cr):=hrow;have Wp:=aJ j0;have Wl:=aJ c6;clear hcl hcell tE Vq;go_wp2;go_loopg [62] ((aH x j).length+1) (fun kq V5 w'=>∃(f:Int) (z:List (List Int)),V5= .int .i64 f∧au (bH.lc j ((aH x j).length:Int) kq f z=some y)∧au (Kd.S (Kd.slice 2 (Kd.int .i64)) 29 w' wA.heap.size (fun _=>True) (.slice (some ⟨gN,0,none⟩) nx.length c10) z)∧au (w'.cell? ⟨gN,j.toNat,none⟩=some (.slice Ar (aH x j).length cr))∧au (Below wA.heap.size wA w'))
                      case atStart=>exact⟨0,x,(by first|rfl|(simp;done)),⟨Wc.1⟩,⟨hN⟩,⟨hrow⟩,⟨Vb⟩⟩
                      case round=>
                        clear hN hrow Vb;obtain⟨f,z,rfl,⟨HA⟩,⟨hN⟩,⟨hrow⟩,⟨Vb⟩⟩:=hrel;cases gk with
                        | zero=>exact absurd HA (by simp[bH.lc])
                        | succ q3=>
                          simp only[bH.lc]at HA
                          by_cases c7:f<((aH x j).length:Int)
                          · rw[ak c7]at HA
                            have iN:=aV c7;obtain⟨⟨⟨z0,z1⟩,f0,f1,f2⟩,H3⟩:=bJ HA;clear HA;obtain⟨hb,c',Vv,hcell,hfz,hok,hbase,hne,⟨cells,hty⟩,hput⟩:=bH.Pm hN j f j0 c6 f0 f1;have e1:=aiq (hrow.symm.trans Vv)
                            injection e1 with e1 _ e3
                            subst e1 e3;have Wg:=aJ f0;have Wu:=aJ c7;obtain⟨mn,hmn⟩: ∃m_:Int,(if 1<rd (aH z j) f then 1 else rd (aH z j) f)=m_:=⟨_,rfl⟩;rw[hmn]at H3;clear f1 f2 Vv z1;go_wp2;go_roundg q3
                            case measure=>omega
                            case rel=>exact⟨wrap64 (f+1),_,(by first|rfl|(simp;done)),⟨H3⟩,⟨hput mn⟩,⟨(cell_far (p:=⟨hb,f.toNat,none⟩) (Ne.symm hne) _).trans hrow⟩,⟨Vb.setCell hbase _⟩⟩
                          · rw[aj c7]at HA
                            obtain rfl:=aiq HA;have iN:=cj c7;go_wp2;go_roundg q2
                            case measure=>omega
                            case rel=>exact⟨wrap64 (j+1),z,(by first|rfl|(simp;done)),⟨H2⟩,⟨hN⟩,⟨Vb⟩⟩
                    · rw[aj c6]at HA
                      obtain rfl:=aiq HA;have gD:=cj c6;have si:=Kd.gq hR;have hlow:=jq.size;replace hg:=az hg Vb;replace hk:=az hk Vb;replace h7:=az h7 Vb;replace hM:=Kd.bT hM Vb;replace hR:=Kd.bq hR Vb;replace jq:Below w.heap.size w wB:=aI jq Vb;have hbz:=Vb.size;have Vd:wB.cell? ⟨g6,0,none⟩=some (.slice (some aq) wy.length cq):=(cH h7 0).trans rfl;go_wp2_with (first
                        | ((with_reducible refine bO (N:=76) rfl ?_);refine Kd.JH (v:= .slice (some ⟨wB.heap.size,0,none⟩) 1 1) (w1:=wB.alloc (.cells [.slice uB nx.length c10].toArray 24 (0,0))) ?hg ?hr ?_;(case hg=>rfl);(case hr=>first|(go_simp;done)|(go_simp;rfl)))
                        | ((with_reducible refine bO (N:=77) rfl ?_);refine Kd.qn (Kd.slice 29 (Kd.slice 2 (Kd.int .i64))) (w0:=w) (W:=wB) w.heap.size rfl (.tmp 74) (.tmp 76) 145 24 (.slice none 0 0) 24 rfl Try.underlying145 bH.acH rfl aG aa (.slice (some aq) wy.length cq) wy x [.slice uB nx.length c10] (fun _=>True) (fun k=>wA.heap.size≤k) rfl rfl ?aP (fun k hk=>⟨trivial,fun e=>by have:=si k e.symm;omega⟩) (fun _ _=>trivial) hR jq ?aS ?aL ?_;(case aP=>exact⟨_,rfl,Kd.eu (Kd.cL (Kd.pg (Kd.l8 hN)) (fun k hk=>hk.2.1)) hlow⟩);(case aS=>exact jq.size);(case aL=>omega);intro v1 w8 Vw Vo Vj Wi;obtain⟨A8,c8,e8⟩:=Kd.eF Vw;rw[ahu,ahE]at e8;subst e8;have h78:=fV h7 Vj (Kd.kX hR h7 aG);have Wv:w8.cell? ⟨g6,0,none⟩=some (.slice (some aq) wy.length cq):=(cH h78 0).trans rfl;have Wm:=aA h78 0))
                      go_roundg q
                      case measure=>omega
                      case rel=>
                        have el:(wy++[x]).length=wy.length+1:=by rw[ahu,ahE]
                        refine⟨wrap64 (i+1),wy++[x],A8,c8,(by first|rfl|(simp;done)|(congr 1;unfold wrap64;omega)),⟨H⟩,⟨iO (fV hg Vj (Kd.kX hR hg aG)) (p:=⟨g6,0,none⟩) (ru hg h7 aG) _⟩,⟨iO (fV hk Vj (Kd.kX hR hk aG)) (p:=⟨g6,0,none⟩) (ru hk h7 aG) _⟩,⟨?_⟩,⟨?_⟩,⟨?_⟩,⟨mF Vo Vn⟩⟩
                        · rw[el]
                          exact dD (cs:= #[.slice (some aq) wy.length cq]) h78 0 _ rfl
                        · rw[el]
                          exact Kd.Pg Vw h78 aG 0 _
                        · exact Kd.Al (Kd.acN hM (Kd.Db hR) aG Vj) h78 aG 0 _
              · rw[aj c5]at HA
                obtain rfl:=aiq HA;have gH:=cj c5;clear Vd;have tE:=(Kd.dh hR).2.2;go_wp2_with (first
                  | ((with_reducible refine bO (N:=79) rfl ?_);refine Kd.yz (Kd.slice 2 (Kd.int .i64)) _ 29 ?hg (N:=79) ?hd (xs:=([]:List (List Int))) (inner:=[]) (ok:=fun k=>k=wA.heap.size) (cN:=fun k=>k=wA.heap.size) ?hr ?hp (fun _ hk=>hk) rfl (ait _ _) (agO _) bQ ?_;(case hd=>rfl);(case hg=>rfl);(case hr=>first|(go_simp;done)|(go_simp;rfl));(case hp=>exact(bP.none _ _));intro v11 z5 wq hb cW dH;clear cW;have VP:au (wA.heap.size<z5.heap.size):=⟨by obtain⟨b0,hb0,hb1⟩:=dH;have h1:=(Kd.l8 wq).1 b0 hb0;have h2:=Kd.yy wq b0 hb0;omega⟩;clear dH;have C6:=aI (ait wA.heap.size wA) hb;clear hb;obtain⟨Ax,cx,rfl⟩:=Kd.eW wq)
                  | ((with_reducible refine bO (N:=15) rfl ?_);refine cF (N:=15) (cs:= #[.slice none 0 0]) (t:=24) ?_;intro g15 cW z6 Dc hb;have Vt:=m_ cW;clear cW;have C5:=aI C6 hb;have C8:=Kd.bT wq hb;clear hb;have V4:z6.cell? ⟨g15,0,none⟩=some (.slice none 0 0):=(cH Dc 0).trans rfl;have VW:=aA Dc 0)
                  | ((with_reducible refine bO (N:=16) rfl ?_);have wu:=Kd.Al C8 Dc aG 0 (.slice Ax 0 cx);have yI:Below wA.heap.size wA (z6.setCell ⟨g15,0,none⟩ (.slice Ax 0 cx)):=mF C5 (by have h1:=Vt.1;have h2:=C6.size;omega);have Vl:(z6.setCell ⟨g15,0,none⟩ (.slice Ax 0 cx)).heap[g15]? =some (.cells #[.slice Ax 0 cx] 24 (0,0)):=dD (cs:= #[.slice none 0 0]) Dc 0 (.slice Ax 0 cx) rfl;
                      generalize z6.setCell ⟨g15,0,none⟩ (.slice Ax 0 cx)=z7 at wu yI Vl ⊢;clear V4 VW;refine cF (N:=16) (cs:= #[.nilFunc]) (t:=81) ?_;intro g16 cW z8 Vg hb;have Vz:=m_ cW;clear cW;have V8:=Kd.bT wu hb;have Vo:=aI yI hb;have VG:=az Vl hb;clear hb;have Ws:z8.cell? ⟨g16,0,none⟩=some .nilFunc:=(cH Vg 0).trans rfl;have Wq:=aA Vg 0)
                  | ((with_reducible refine qC (t:=81) rfl ?_);refine qD (some 82) rfl rfl ai9 bI rfl (lb:= #[.pointer (some ⟨g3,0,none⟩), .pointer (some ⟨g15,0,none⟩), .pointer (some ⟨g2,0,none⟩), .pointer (some ⟨g6,0,none⟩), .pointer (some ⟨g16,0,none⟩)]) #[.slice none 0 0, .pointer (some ⟨g3,0,none⟩), .pointer (some ⟨g15,0,none⟩), .pointer (some ⟨g2,0,none⟩), .pointer (some ⟨g6,0,none⟩), .pointer (some ⟨g16,0,none⟩)] rfl (by first|rfl|(simp;done)) (by(try simp only[aiO,ahl,aiP,aiS,aiT,ahN]);first|done|rfl) ?_;
                      have VM:=Kd.Al V8 Vg aG 0 (.func (.func 222) #[] #[.pointer (some ⟨g3,0,none⟩), .pointer (some ⟨g15,0,none⟩), .pointer (some ⟨g2,0,none⟩), .pointer (some ⟨g6,0,none⟩), .pointer (some ⟨g16,0,none⟩)]);have VY:Below wA.heap.size wA (z8.setCell ⟨g16,0,none⟩ (.func (.func 222) #[] #[.pointer (some ⟨g3,0,none⟩), .pointer (some ⟨g15,0,none⟩), .pointer (some ⟨g2,0,none⟩), .pointer (some ⟨g6,0,none⟩), .pointer (some ⟨g16,0,none⟩)])):=mF Vo (by have h1:=Vz.1;have h2:=yI.size;omega);have VV:(z8.setCell ⟨g16,0,none⟩ (.func (.func 222) #[] #[.pointer (some ⟨g3,0,none⟩), .pointer (some ⟨g15,0,none⟩), .pointer (some ⟨g2,0,none⟩), .pointer (some ⟨g6,0,none⟩), .pointer (some ⟨g16,0,none⟩)])).heap[g16]? =some (.cells #[(.func (.func 222) #[] #[.pointer (some ⟨g3,0,none⟩), .pointer (some ⟨g15,0,none⟩), .pointer (some ⟨g2,0,none⟩), .pointer (some ⟨g6,0,none⟩), .pointer (some ⟨g16,0,none⟩)])] 81 (0,0)):=dD (cs:= #[.nilFunc]) Vg 0 (.func (.func 222) #[] #[.pointer (some ⟨g3,0,none⟩), .pointer (some ⟨g15,0,none⟩), .pointer (some ⟨g2,0,none⟩), .pointer (some ⟨g6,0,none⟩), .pointer (some ⟨g16,0,none⟩)]) rfl;have We:=iO VG (p:=⟨g16,0,none⟩) (ru VG Vg aG) (.func (.func 222) #[] #[.pointer (some ⟨g3,0,none⟩), .pointer (some ⟨g15,0,none⟩), .pointer (some ⟨g2,0,none⟩), .pointer (some ⟨g6,0,none⟩), .pointer (some ⟨g16,0,none⟩)]);have hX: ∀k,k=wA.heap.size→¬bH.X g16 g15 k:=(by
                        have h1:=VP.1;have h2:=Vt.1;have h3:=Vz.1;have h9:=ee Vl;rintro k rfl (h|h)<;>omega);
                      have VT:=Kd.aC cC jq;refine(bH.ok ah aE aD ag _ _ _ wA VT cD tE K g3 g15 g2 g6 g16 (by have h1:=Vt.1;have h2:=C6.size;omega) hk hg h7 K [] [] rr (.slice none 0 0) _ (fun k=>k=wA.heap.size) (fun _=>True) _ (Nat.zero_add K) V6.1 VY VV We VM (Kd.nu _ _ _ _ _) hX (fun k hk=>by cases hk)).mono ?_;rintro e' z10 ⟨rfl,vo,VB,VA,_,Vi,_⟩;refine⟨_,rfl, ?_⟩;obtain⟨Ay,cy,rfl⟩:=Kd.eW VA;have Wf:z10.cell? ⟨g15,0,none⟩=some (.slice Ay rr.length cy):=(cH VB 0).trans rfl;have Wj:=aA VB 0))
                go_ret2
                exact⟨_,rfl,Kd.jo (Kd.dM VA (fun _ _=>trivial)) jq.size,⟨Vi.os.trans jq.os,Vi.tape.trans jq.tape,Vi.output.trans jq.output,ahO jq.size Vi.size,fun k hk=>(Vi.block k (Nat.lt_of_lt_of_le hk jq.size)).trans (jq.block k hk)⟩⟩

def xN.f (ah:Int):Option (Bool):=(rC.f ah).bind fun JI=>(some JI)
theorem xN.calls (pR:Nat) (ah:Int) (r:Bool) (w:World) (pT:w.heap[pR]? =some (.cells #[.int .i64 ah] 2 (0,0))) (h:xN.f ah=some r):
    Calls aiu 129 #[.pointer (some ⟨pR,0,none⟩)] w fun e w'=>e= .returned (.bool r)∧Below w.heap.size w w':=by
  have U7:=m_ pT;clear pT;have HB:=m_ (ait w.heap.size w);have H:=h;unfold xN.f at H;clear h;obtain⟨JI,A2,H⟩:=bE H;obtain rfl:=aiq H;have Ci:=aY U7.1;have Cj:=aA U7.1 0;go_enter Try.func129,Try.ntmps129;go_wp2_with (first|((with_reducible refine bp (f:=125) rfl ?_);refine bA (some 3) Try.func125 #[.int .i64 ah] ?_;(with_reducible refine(rC.calls ah JI _ A2.1).mono ?_);rintro e w' ⟨rfl,⟨nd,rfl⟩⟩;refine⟨_,rfl, ?_⟩));go_ret;exact⟨cG,ai⟩

def tI.f (k:Nat) (ah:Int) (ag:List (List Int)) (dA:Int):Option (Int):=(gY.f k ah ag).bind fun JJ=>(if JJ=true then ((xN.f dA).bind fun JK=>(if JK=true then (some 0) else (some 2))) else (some 1))
theorem tI.calls (k:Nat) (ah:Int) (aE:Option Addr) (aD:Nat) (ag:List (List Int)) (dQ:Nat) (dA:Int) (r:Int) (w:World) (cC:Kd.C (Kd.slice 2 (Kd.int .i64)) w aE ag.length ag) (cD:ag.length≤aD) (jW:w.heap[dQ]? =some (.cells #[.int .i64 dA] 2 (0,0))) (h:tI.f k ah ag dA=some r):
    Calls aiu 123 #[.agg #[.int .i64 ah, .slice aE ag.length aD], .func (.func 129) #[] #[.pointer (some ⟨dQ,0,none⟩)]] w fun e w'=>e= .returned (.int .i64 r)∧Below w.heap.size w w':=by
  have fq:=aiy;have bL:=m_ cC;have bU:=m_ cD;clear cC cD;have U8:=m_ jW;clear jW;have HB:=m_ (ait w.heap.size w);have H:=h;unfold tI.f at H;clear h;obtain⟨JJ,A3,H⟩:=bE H
  by_cases c4:JJ=true
  · subst c4
    rw[ak rfl]at H;obtain⟨JK,A5,H⟩:=bE H
    by_cases c6:JK=true
    · subst c6
      rw[ak rfl]at H;obtain rfl:=aiq H;go_enter aiL,Try.ntmps123;go_wp2_with (first|((with_reducible refine bO (N:=2) rfl ?_);refine cF (N:=2) (cs:= #[.int .i64 ah, .slice aE ag.length aD]) (t:=26) ?_;intro U9 hg w7 aN hb;have U7:=m_ (aN);have Vc:=m_ ((by rw[hg];exact(aM ai):w.heap.size≤U9));have Vd:=m_ ((by rw[hg];exact(aM ai):w.heap.size≤U9));replace HB:=m_ (aI ai hb);have Va:=m_ ((by rw[hg];exact air (ee (az U8.1 af)):dQ≠U9));have Vb:=m_ Va.1.symm;replace U8:=m_ (aQ U8.1 hb);clear hb aN hg;have xW:=Vb.1;have xX:=Va.1;have lE:=aY U7.1;have lF:=aZ U7.1;have lV:=aA U7.1 0;have lG:=aA U7.1 1)|((with_reducible refine bp (f:=136) rfl ?_);refine bA (some 7) Try.func136 #[.agg #[.int .i64 ah, .slice aE ag.length aD]] ?_;(with_reducible refine(gY.calls k ah _ _ ag true _ ?av ?ax A3.1).mono ?_);(case av=>exact Kd.aC (Kd.aC bL.1 HB.1) af);(case ax=>exact bU.1);rintro e jc ⟨rfl,hb⟩;refine⟨_,rfl, ?_⟩;replace U8:=m_ (aQ U8.1 hb);replace U7:=m_ (aQ U7.1 hb);replace HB:=m_ (aI ai hb);clear hb)|((with_reducible refine qC (t:=10) rfl ?_);refine qD (some 11) rfl rfl Try.func129 bI rfl (lb:= #[.pointer (some ⟨dQ,0,none⟩)]) #[.pointer (some ⟨dQ,0,none⟩)] rfl (by first|rfl|(simp;done)) (by(try simp only[aiO,ahl,aiP,aiS,aiT,ahN]);first|done|rfl|(simp only[ahP,ahG];rfl)) ?_;(with_reducible refine(xN.calls dQ dA true _ ?av A5.1).mono ?_);(case av=>exact(az U8.1 af));rintro e lW ⟨rfl,hb⟩;refine⟨_,rfl, ?_⟩;replace U8:=m_ (aQ U8.1 hb);replace U7:=m_ (aQ U7.1 hb);replace HB:=m_ (aI ai hb);clear hb));go_ret;exact⟨cG,ai⟩
    · replace c6:=aix.mpr c6
      subst c6;rw[aj (show ¬(false=true) by decide)]at H;obtain rfl:=aiq H;go_enter aiL,Try.ntmps123;go_wp2_with (first|((with_reducible refine bO (N:=2) rfl ?_);refine cF (N:=2) (cs:= #[.int .i64 ah, .slice aE ag.length aD]) (t:=26) ?_;intro U9 hg kW aN hb;have U7:=m_ (aN);have Vc:=m_ ((by rw[hg];exact(aM ai):w.heap.size≤U9));have Vd:=m_ ((by rw[hg];exact(aM ai):w.heap.size≤U9));replace HB:=m_ (aI ai hb);have Va:=m_ ((by rw[hg];exact air (ee (az U8.1 af)):dQ≠U9));have Vb:=m_ Va.1.symm;replace U8:=m_ (aQ U8.1 hb);clear hb aN hg;have EW:=Vb.1;have EX:=Va.1;have vI:=aY U7.1;have vJ:=aZ U7.1;have vK:=aA U7.1 0;have vL:=aA U7.1 1)|((with_reducible refine bp (f:=136) rfl ?_);refine bA (some 7) Try.func136 #[.agg #[.int .i64 ah, .slice aE ag.length aD]] ?_;(with_reducible refine(gY.calls k ah _ _ ag true _ ?av ?ax A3.1).mono ?_);(case av=>exact Kd.aC (Kd.aC bL.1 HB.1) af);(case ax=>exact bU.1);rintro e qE ⟨rfl,hb⟩;refine⟨_,rfl, ?_⟩;replace U8:=m_ (aQ U8.1 hb);replace U7:=m_ (aQ U7.1 hb);replace HB:=m_ (aI ai hb);clear hb)|((with_reducible refine qC (t:=10) rfl ?_);refine qD (some 11) rfl rfl Try.func129 bI rfl (lb:= #[.pointer (some ⟨dQ,0,none⟩)]) #[.pointer (some ⟨dQ,0,none⟩)] rfl (by first|rfl|(simp;done)) (by(try simp only[aiO,ahl,aiP,aiS,aiT,ahN]);first|done|rfl|(simp only[ahP,ahG];rfl)) ?_;(with_reducible refine(xN.calls dQ dA false _ ?av A5.1).mono ?_);(case av=>exact(az U8.1 af));rintro e oB ⟨rfl,hb⟩;refine⟨_,rfl, ?_⟩;replace U8:=m_ (aQ U8.1 hb);replace U7:=m_ (aQ U7.1 hb);replace HB:=m_ (aI ai hb);clear hb));go_ret;exact⟨cG,ai⟩
  · replace c4:=aix.mpr c4
    subst c4;rw[aj (show ¬(false=true) by decide)]at H;obtain rfl:=aiq H;go_enter aiL,Try.ntmps123;go_wp2_with (first|((with_reducible refine bO (N:=2) rfl ?_);refine cF (N:=2) (cs:= #[.int .i64 ah, .slice aE ag.length aD]) (t:=26) ?_;intro U9 hg pN aN hb;have U7:=m_ (aN);have Vc:=m_ ((by rw[hg];exact(aM ai):w.heap.size≤U9));have Vd:=m_ ((by rw[hg];exact(aM ai):w.heap.size≤U9));replace HB:=m_ (aI ai hb);have Va:=m_ ((by rw[hg];exact air (ee (az U8.1 af)):dQ≠U9));have Vb:=m_ Va.1.symm;replace U8:=m_ (aQ U8.1 hb);clear hb aN hg;have Cm:=Vb.1;have Cn:=Va.1;have rV:=aY U7.1;have rW:=aZ U7.1;have rX:=aA U7.1 0;have rY:=aA U7.1 1)|((with_reducible refine bp (f:=136) rfl ?_);refine bA (some 7) Try.func136 #[.agg #[.int .i64 ah, .slice aE ag.length aD]] ?_;(with_reducible refine(gY.calls k ah _ _ ag false _ ?av ?ax A3.1).mono ?_);(case av=>exact Kd.aC (Kd.aC bL.1 HB.1) af);(case ax=>exact bU.1);rintro e qo ⟨rfl,hb⟩;refine⟨_,rfl, ?_⟩;replace U8:=m_ (aQ U8.1 hb);replace U7:=m_ (aQ U7.1 hb);replace HB:=m_ (aI ai hb);clear hb));go_ret;exact⟨cG,ai⟩

def oX.f (k:Nat) (ah:Int) (ag:List (List Int)) (a1:Int):Option ((List (List Int))×Int):=(tI.f k ah ag a1).bind fun yJ=>(if yJ=0 then ((bH.f k ah ag a1).bind fun U7=>(if U7.2=true then (some (U7.1,0)) else (some (([]:List (List Int)),3)))) else (some (([]:List (List Int)),yJ)))
theorem oX.calls (k:Nat) (ah:Int) (aE:Option Addr) (aD:Nat) (ag:List (List Int)) (a1:Int) (r1:List (List Int)) (r2:Int) (w:World) (cC:Kd.C (Kd.slice 2 (Kd.int .i64)) w aE ag.length ag) (cD:ag.length≤aD) (h:oX.f k ah ag a1=some (r1,r2)):
    Calls aiu 22 #[.agg #[.int .i64 ah, .slice aE ag.length aD], .int .i64 a1] w fun e w'=>∃dR:Value,e= .returned (.tuple #[dR, .int .i64 r2])∧Kd.S (Kd.slice 2 (Kd.int .i64)) 29 w' w.heap.size (fun _=>True) dR r1∧Below w.heap.size w w':=by
  have fq:=aiy;have bL:=m_ cC;have bU:=m_ cD;clear cC cD;have HB:=m_ (ait w.heap.size w);have H:=h;unfold oX.f at H;clear h;obtain⟨yJ,A3,H⟩:=bE H
  by_cases c4:yJ=0
  · rw[ak c4]at H
    obtain⟨dL,ij⟩:=dJ c4;clear c4;obtain⟨⟨Ve,Vk⟩,A5,H⟩:=bE H;dsimp only at H
    by_cases c6:Vk=true
    · subst c6
      rw[ak rfl]at H;simp only[aiv,aiw]at H;obtain⟨rfl,rfl⟩:=H;go_enter aja,Try.ntmps22;go_wp2_with (first|((with_reducible refine bO (N:=2) rfl ?_);refine cF (N:=2) (cs:= #[.int .i64 ah, .slice aE ag.length aD]) (t:=26) ?_;intro Va hg w7 aN hb;have U7:=m_ (aN);have Vi:=m_ ((by rw[hg];exact(aM aU):w.heap.size≤Va));have Vf:=m_ ((by rw[hg];exact(aM aU):w.heap.size≤Va));replace HB:=m_ (aI aU hb);clear hb aN hg)|((with_reducible refine bO (N:=3) rfl ?_);refine cF (N:=3) (cs:= #[.int .i64 a1]) (t:=2) ?_;intro U9 hg w8 aN hb;have U8:=m_ (aN);have Vd:=m_ ((by rw[hg];exact(aM ai):w.heap.size≤U9));have Vg:=m_ ((by rw[hg];exact(aM ai):w.heap.size≤U9));replace HB:=m_ (aI ai hb);have Vb:=m_ ((by rw[hg];exact air (ee (az U7.1 af)):Va≠U9));have Vc:=m_ Vb.1.symm;replace U7:=m_ (aQ U7.1 hb);clear hb aN hg;have OD:=Vb.1;have OE:=Vc.1;have vB:=aY U7.1;have vC:=aZ U7.1;have vD:=aA U7.1 0;have vE:=aA U7.1 1)|((with_reducible refine bp (f:=123) rfl ?_);refine bA (some 11) aiL #[.agg #[.int .i64 ah, .slice aE ag.length aD], .func (.func 129) #[] #[.pointer (some ⟨U9,0,none⟩)]] ?_;(with_reducible refine(tI.calls k ah _ _ ag U9 a1 yJ _ ?av ?ax ?cK A3.1).mono ?_);(case av=>exact Kd.aC (Kd.aC bL.1 HB.1) af);(case ax=>exact bU.1);(case cK=>exact(az U8.1 af));rintro e lW ⟨rfl,hb⟩;refine⟨_,rfl, ?_⟩;replace U7:=m_ (aQ U7.1 hb);replace U8:=m_ (aQ U8.1 hb);replace HB:=m_ (aI ai hb);clear hb;have vF:=aY U7.1;have ym:=aZ U7.1;have vG:=aA U7.1 0;have yo:=aA U7.1 1;have zE:=aY U8.1;have zF:=aA U8.1 0)|((with_reducible refine bp (f:=130) rfl ?_);refine bA (some 18) ajc #[.agg #[.int .i64 ah, .slice aE ag.length aD], .int .i64 a1] ?_;(with_reducible refine(bH.calls k ah _ _ ag a1 Ve true _ ?av ?ax A5.1).mono ?_);(case av=>exact Kd.aC (Kd.aC bL.1 HB.1) af);(case ax=>exact bU.1);rintro e qm ⟨Vj,rfl,aW,hb⟩;refine⟨_,rfl, ?_⟩;have Vh:=m_ (Kd.jo (Kd.IC aW (g:=U9) (o:= .cells #[.int .i64 a1] 2 (0,0)) (az U8.1 af)) (aM ai));replace U7:=m_ (aQ U7.1 hb);replace U8:=m_ (aQ U8.1 hb);replace HB:=m_ (aI ai hb);clear hb;(try clear aW)))
      go_ret2
      exact⟨_,cG,by(with_reducible repeat (first|apply Kd.jv|apply Kd.jw|apply Kd.iB));exact Kd.dM Vh.1 (fun _ hk=>trivial),ai⟩
    · replace c6:=aix.mpr c6
      subst c6;rw[aj (show ¬(false=true) by decide)]at H;simp only[aiv,aiw]at H;obtain⟨rfl,rfl⟩:=H;go_enter aja,Try.ntmps22;go_wp2_with (first|((with_reducible refine bO (N:=2) rfl ?_);refine cF (N:=2) (cs:= #[.int .i64 ah, .slice aE ag.length aD]) (t:=26) ?_;intro Va hg qE aN hb;have U7:=m_ (aN);have Vi:=m_ ((by rw[hg];exact(aM aU):w.heap.size≤Va));have Vf:=m_ ((by rw[hg];exact(aM aU):w.heap.size≤Va));replace HB:=m_ (aI aU hb);clear hb aN hg)|((with_reducible refine bO (N:=3) rfl ?_);refine cF (N:=3) (cs:= #[.int .i64 a1]) (t:=2) ?_;intro U9 hg oB aN hb;have U8:=m_ (aN);have Vd:=m_ ((by rw[hg];exact(aM ai):w.heap.size≤U9));have Vg:=m_ ((by rw[hg];exact(aM ai):w.heap.size≤U9));replace HB:=m_ (aI ai hb);have Vb:=m_ ((by rw[hg];exact air (ee (az U7.1 af)):Va≠U9));have Vc:=m_ Vb.1.symm;replace U7:=m_ (aQ U7.1 hb);clear hb aN hg;have FH:=Vb.1;have FI:=Vc.1;have EI:=aY U7.1;have EJ:=aZ U7.1;have EK:=aA U7.1 0;have EL:=aA U7.1 1)|((with_reducible refine bp (f:=123) rfl ?_);refine bA (some 11) aiL #[.agg #[.int .i64 ah, .slice aE ag.length aD], .func (.func 129) #[] #[.pointer (some ⟨U9,0,none⟩)]] ?_;(with_reducible refine(tI.calls k ah _ _ ag U9 a1 yJ _ ?av ?ax ?cK A3.1).mono ?_);(case av=>exact Kd.aC (Kd.aC bL.1 HB.1) af);(case ax=>exact bU.1);(case cK=>exact(az U8.1 af));rintro e zQ ⟨rfl,hb⟩;refine⟨_,rfl, ?_⟩;replace U7:=m_ (aQ U7.1 hb);replace U8:=m_ (aQ U8.1 hb);replace HB:=m_ (aI ai hb);clear hb;have JL:=aY U7.1;have JM:=aZ U7.1;have JN:=aA U7.1 0;have JO:=aA U7.1 1;have Fh:=aY U8.1;have Fj:=aA U8.1 0)|((with_reducible refine bp (f:=130) rfl ?_);refine bA (some 18) ajc #[.agg #[.int .i64 ah, .slice aE ag.length aD], .int .i64 a1] ?_;(with_reducible refine(bH.calls k ah _ _ ag a1 Ve false _ ?av ?ax A5.1).mono ?_);(case av=>exact Kd.aC (Kd.aC bL.1 HB.1) af);(case ax=>exact bU.1);rintro e nP ⟨Vj,rfl,aW,hb⟩;refine⟨_,rfl, ?_⟩;have Vh:=m_ (Kd.jo (Kd.IC aW (g:=U9) (o:= .cells #[.int .i64 a1] 2 (0,0)) (az U8.1 af)) (aM ai));replace U7:=m_ (aQ U7.1 hb);replace U8:=m_ (aQ U8.1 hb);replace HB:=m_ (aI ai hb);clear hb;(try clear aW)))
      go_ret2
      exact⟨_,cG,by first|exact Kd.pJ _ _ _ _ _ |exact Kd.qQ _ _ _ _ _ |exact Kd.qR _ _ _ _ _ |exact Kd.qU _ _ _ _ _ |exact Kd.nu _ _ _ _ _,ai⟩
  · rw[aj c4]at H
    obtain⟨dL,ij⟩:=dK c4;simp only[aiv,aiw]at H;obtain⟨rfl,rfl⟩:=H;go_enter aja,Try.ntmps22;go_wp2_with (first|((with_reducible refine bO (N:=2) rfl ?_);refine cF (N:=2) (cs:= #[.int .i64 ah, .slice aE ag.length aD]) (t:=26) ?_;intro Va hg vA aN hb;have U7:=m_ (aN);have Vi:=m_ ((by rw[hg];exact(aM aU):w.heap.size≤Va));have Vf:=m_ ((by rw[hg];exact(aM aU):w.heap.size≤Va));replace HB:=m_ (aI aU hb);clear hb aN hg)|((with_reducible refine bO (N:=3) rfl ?_);refine cF (N:=3) (cs:= #[.int .i64 a1]) (t:=2) ?_;intro U9 hg zM aN hb;have U8:=m_ (aN);have Vd:=m_ ((by rw[hg];exact(aM ai):w.heap.size≤U9));have Vg:=m_ ((by rw[hg];exact(aM ai):w.heap.size≤U9));replace HB:=m_ (aI ai hb);have Vb:=m_ ((by rw[hg];exact air (ee (az U7.1 af)):Va≠U9));have Vc:=m_ Vb.1.symm;replace U7:=m_ (aQ U7.1 hb);clear hb aN hg;have Oz:=Vb.1;have OA:=Vc.1;have Ic:=aY U7.1;have Ie:=aZ U7.1;have Ig:=aA U7.1 0;have Ih:=aA U7.1 1)|((with_reducible refine bp (f:=123) rfl ?_);refine bA (some 11) aiL #[.agg #[.int .i64 ah, .slice aE ag.length aD], .func (.func 129) #[] #[.pointer (some ⟨U9,0,none⟩)]] ?_;(with_reducible refine(tI.calls k ah _ _ ag U9 a1 yJ _ ?av ?ax ?cK A3.1).mono ?_);(case av=>exact Kd.aC (Kd.aC bL.1 HB.1) af);(case ax=>exact bU.1);(case cK=>exact(az U8.1 af));rintro e zU ⟨rfl,hb⟩;refine⟨_,rfl, ?_⟩;replace U7:=m_ (aQ U7.1 hb);replace U8:=m_ (aQ U8.1 hb);replace HB:=m_ (aI ai hb);clear hb))
    go_ret2
    exact⟨_,cG,by first|exact Kd.pJ _ _ _ _ _ |exact Kd.qQ _ _ _ _ _ |exact Kd.qR _ _ _ _ _ |exact Kd.qU _ _ _ _ _ |exact Kd.nu _ _ _ _ _,ai⟩

def lT.l0:Nat→List Int→List Int→Int→Int→Option (Bool)
  | 0,_,_,_,_=>none
  | k+1,x0,x1,gJ,iF=>if iF<gJ then (if 0≤iF then (if iF<(x0.length:Int) then (if iF<(x1.length:Int) then (if (rd x0 iF)=(rd x1 iF) then (lT.l0 k x0 x1 gJ (wrap64 (iF+1))) else (some false)) else (none)) else (none)) else (none)) else (some true)
def lT.f (k:Nat) (l0:List Int) (l1:List Int):Option (Bool):=if (l0.length:Int)=(l1.length:Int) then (lT.l0 k l0 l1 (l0.length:Int) 0) else (some false)
theorem lT.calls (k:Nat) (A0:Option Addr) (c0:Nat) (l0:List Int) (A1:Option Addr) (c1:Nat) (l1:List Int) (r:Bool) (w:World) (hr0:Kd.C (Kd.int .i64) w A0 l0.length l0) (hc0:l0.length≤c0) (hr1:Kd.C (Kd.int .i64) w A1 l1.length l1) (hc1:l1.length≤c1) (h:lT.f k l0 l1=some r):
    Calls aiu 116 #[.slice A0 l0.length c0, .slice A1 l1.length c1] w fun e w'=>e= .returned (.bool r)∧bG w w':=by
  have dY:=m_ hr0;have fJ:=m_ hc0;clear hr0 hc0;have eM:=m_ hr1;have iA:=m_ hc1;clear hr1 hc1;have H:=h;unfold lT.f at H;clear h
  by_cases c3:(l0.length:Int)=(l1.length:Int)
  · rw[ak c3]at H
    obtain⟨iE,oy⟩:=dJ c3;have Ce:(l0.length == l1.length)=true:=by first|simpa using c3|(simp at c3 ⊢;omega)
    clear c3;have H':=m_ H;clear H;go_enter aje,Try.ntmps116;go_wp2;go_loopg [13] k (fun kq rL w'=>∃(hU:Int),rL= .int .i64 hU∧au (lT.l0 kq l0 l1 (l0.length:Int) hU=some r)∧au (kq≤k)∧bG w w')
    case atStart=>exact⟨(0),bh,H',⟨agO _⟩,by repeat (first|exact bG.refl _ |apply bG.step)⟩
    case round=>
      clear H';obtain⟨hU,rfl,HA,bF,⟨m1,rfl⟩⟩:=hrel;cases gk with
      | zero=>exact absurd HA.1 (by simp[lT.l0])
      | succ k1=>
        have H:=HA.1;clear HA;simp only[lT.l0]at H
        by_cases c4:hU<(l0.length:Int)
        · rw[ak c4]at H
          have dL:=aV c4;clear c4;obtain⟨c5,H⟩:=bJ H;have gH:=aV c5;clear c5;obtain⟨c6,H⟩:=bJ H;have gD:=aV c6;clear c6;obtain⟨c7,H⟩:=bJ H;have iN:=aV c7;clear c7
          by_cases c8:(rd l0 hU)=(rd l1 hU)
          · rw[ak c8]at H
            obtain⟨nQ,sH⟩:=dJ c8;clear c8;have H':=m_ H;clear H;have U9:0≤(hU:Int):=aT;have U7:hU<(l0.length:Int):=aT;obtain⟨Vf,Vb,Ve⟩:=Kd.dP dY.1 hU U9 U7;cases Vb;replace U9:=aJ U9;replace U7:=aJ U7;have U8:0≤(hU:Int):=aT;have Va:hU<(l1.length:Int):=aT;obtain⟨Vg,Vc,Vd⟩:=Kd.dP eM.1 hU U8 Va;cases Vc;replace U8:=aJ U8;replace Va:=aJ Va;go_wp2
            repeat (go_quiet (fail);try go_wp2)
            go_roundg k1
            case measure=>have:=bF.1;omega
            case rel=>exact⟨(wrap64 (hU+1)),bh,H',⟨by have:=bF.1;omega⟩,by repeat (first|exact bG.refl _ |apply bG.step)⟩
          · rw[aj c8]at H
            obtain⟨nQ,sH⟩:=dK c8;obtain rfl:=aiq H;have U9:0≤(hU:Int):=aT;have U7:hU<(l0.length:Int):=aT;obtain⟨Vf,Vb,Ve⟩:=Kd.dP dY.1 hU U9 U7;cases Vb;replace U9:=aJ U9;replace U7:=aJ U7;have U8:0≤(hU:Int):=aT;have Va:hU<(l1.length:Int):=aT;obtain⟨Vg,Vc,Vd⟩:=Kd.dP eM.1 hU U8 Va;cases Vc;replace U8:=aJ U8;replace Va:=aJ Va;go_wp2
            repeat (go_quiet (fail);try go_wp2)
            go_ret;exact⟨bh,by repeat (first|exact bG.refl _ |apply bG.step)⟩
        · rw[aj c4]at H
          have dL:=cj c4;clear c4;obtain rfl:=aiq H;go_wp2;go_ret;exact⟨bh,by repeat (first|exact bG.refl _ |apply bG.step)⟩
  · rw[aj c3]at H
    obtain⟨iE,oy⟩:=dK c3;have Ce:(l0.length == l1.length)=false:=by first|simpa using c3|(simp at c3 ⊢;omega)
    obtain rfl:=aiq H;go_enter aje,Try.ntmps116;go_wp2;go_ret;exact⟨bh,by repeat (first|exact bG.refl _ |apply bG.step)⟩

def m9.l0:Nat→List Int→List Int→Int→Int→Int→List (List Int)→Option (Bool)
  | 0,_,_,_,_,_,_=>none
  | k+1,x1,gJ,iF,mM,U7,U8=>if mM<iF then (if 0≤mM then (if mM<(gJ.length:Int) then (if (x1.length:Int)=0 then (none) else (if 0≤(Int.tmod (wrap64 (mM+1)) (x1.length:Int)) then (if (Int.tmod (wrap64 (mM+1)) (x1.length:Int))<(x1.length:Int) then ((jI.f U7 U8 (rd gJ mM)).bind fun JP=>((jI.f U7 U8 (rd x1 (Int.tmod (wrap64 (mM+1)) (x1.length:Int)))).bind fun JQ=>(if JQ.1=JP.2 then (if (rd x1 (Int.tmod (wrap64 (mM+1)) (x1.length:Int)))=(Go.bits .xor .i64 (rd gJ mM) 1) then (some false) else (m9.l0 k x1 gJ iF (wrap64 (mM+1)) U7 U8)) else (some false)))) else (none)) else (none))) else (none)) else (none)) else (some (decide ((x1.length:Int)>0)))
def m9.f (k:Nat) (ah:Int) (ag:List (List Int)) (l1:List Int):Option (Bool):=m9.l0 k l1 l1 (l1.length:Int) 0 ah ag
theorem m9.calls (k:Nat) (ah:Int) (aE:Option Addr) (aD:Nat) (ag:List (List Int)) (A1:Option Addr) (c1:Nat) (l1:List Int) (r:Bool) (w:World) (cC:Kd.C (Kd.slice 2 (Kd.int .i64)) w aE ag.length ag) (cD:ag.length≤aD) (hr1:Kd.C (Kd.int .i64) w A1 l1.length l1) (hc1:l1.length≤c1) (h:m9.f k ah ag l1=some r):
    Calls aiu 158 #[.agg #[.int .i64 ah, .slice aE ag.length aD], .slice A1 l1.length c1] w fun e w'=>e= .returned (.bool r)∧Below w.heap.size w w':=by
  have fq:=aiy;have bL:=m_ cC;have bU:=m_ cD;clear cC cD;have eM:=m_ hr1;have iA:=m_ hc1;clear hr1 hc1;have HB:=m_ (ait w.heap.size w);have H:=h;unfold m9.f at H;clear h;have H':=m_ H;clear H;go_enter Try.func158,Try.ntmps158;go_wp2_with (first|((with_reducible refine bO (N:=2) rfl ?_);refine cF (N:=2) (cs:= #[.int .i64 ah, .slice aE ag.length aD]) (t:=26) ?_;intro Vn hg w3 aN hb;have U7:=m_ (aN);have Vq:=m_ ((by rw[hg];exact(aM aU):w.heap.size≤Vn));have Vo:=m_ ((by rw[hg];exact(aM aU):w.heap.size≤Vn));replace HB:=m_ (aI aU hb);clear hb aN hg));go_loopg [14] k (fun kq Js w'=>∃(U8:Int),Js= .int .i64 U8∧au (m9.l0 kq l1 l1 (l1.length:Int) U8 ah ag=some r)∧au (kq≤k)∧au (w'.heap[Vn]? =some (.cells #[.int .i64 ah,(.slice aE ag.length aD)] 26 (0,0)))∧au (Below w.heap.size w w'))
  case atStart=>exact⟨(0),bh,H',⟨agO _⟩,⟨az U7.1 af⟩,⟨ai⟩⟩
  case round=>
    clear H';obtain⟨U8,rfl,HA,bF,U7,HB⟩:=hrel;cases gk with
    | zero=>exact absurd HA.1 (by simp[m9.l0])
    | succ k1=>
      have H:=HA.1;clear HA;simp only[m9.l0]at H
      by_cases c4:U8<(l1.length:Int)
      · rw[ak c4]at H
        have dL:=aV c4;clear c4;obtain⟨c5,H⟩:=bJ H;have gH:=aV c5;clear c5;obtain⟨c6,H⟩:=bJ H;have gD:=aV c6;clear c6
        by_cases c7:(l1.length:Int)=0
        · rw[ak c7]at H
          exact absurd H bQ
        · rw[aj c7]at H
          obtain⟨iN,pK⟩:=dK c7;have Vp: ¬(l1= []):=fun h_=>c7 (by rw[h_];rfl)
          obtain⟨eJ,gV⟩: ∃j_:Int,(Int.tmod (wrap64 (U8+1)) (l1.length:Int))=j_:=⟨_,rfl⟩;(try rw[gV]);replace H:(if 0≤(eJ) then (if (eJ)<(l1.length:Int) then ((jI.f ah ag (rd l1 U8)).bind fun JP=>((jI.f ah ag (rd l1 (eJ))).bind fun JQ=>(if JQ.1=JP.2 then (if (rd l1 (eJ))=(Go.bits .xor .i64 (rd l1 U8) 1) then (some false) else (m9.l0 k1 l1 l1 (l1.length:Int) (wrap64 (U8+1)) ah ag)) else (some false)))) else (none)) else (none))=some r:=by first|(rw[gV]at H;exact H)|(simp only[gV]at H ⊢;exact H)
          obtain⟨c9,H⟩:=bJ H;have mK:=aV c9;clear c9;obtain⟨c10,H⟩:=bJ H;have pQ:=aV c10;clear c10;obtain⟨⟨Vm,Vj⟩,yx,H⟩:=bE H;dsimp only at H;obtain⟨⟨Vk,Vl⟩,qG,H⟩:=bE H;dsimp only at H
          by_cases c13:Vk=Vj
          · rw[ak c13]at H
            obtain⟨q4,JR⟩:=dJ c13;clear c13
            by_cases c14:(rd l1 (eJ))=(Go.bits .xor .i64 (rd l1 U8) 1)
            · rw[ak c14]at H
              obtain⟨lY,FJ⟩:=dJ c14;clear c14;obtain rfl:=aiq H;have U9:0≤(U8:Int):=aT;have Vc:U8<(l1.length:Int):=aT;obtain⟨Vg,Vf,Vb⟩:=Kd.dP eM.1 U8 U9 Vc;cases Vf;(try replace Vb:=(HB.1.cell (aiK w _ Vb)).trans Vb);replace U9:=aJ U9;replace Vc:=aJ Vc;have Va:0≤((eJ):Int):=aT;have Vd:(eJ)<(l1.length:Int):=aT;obtain⟨Vi,Vh,Ve⟩:=Kd.dP eM.1 (eJ) Va Vd;obtain rfl:Vg=Vi:=(by injection Vh);(try replace Ve:=(HB.1.cell (aiK w _ Ve)).trans Ve);replace Va:=aJ Va;replace Vd:=aJ Vd;have xY:=aY U7.1;have zO:=aZ U7.1;have xZ:=aA U7.1 0;have zP:=aA U7.1 1;go_wp2_with (first|((with_reducible refine bp (f:=108) rfl ?_);refine bA (some 30) ai7 #[.agg #[.int .i64 ah, .slice aE ag.length aD], .int .i64 (rd l1 U8)] ?_;(with_reducible refine(jI.calls ah _ _ ag (rd l1 U8) Vm Vj _ ?av ?ax yx.1).mono ?_);(case av=>exact Kd.aC (Kd.aC bL.1 HB.1) af);(case ax=>exact bU.1);rintro e oB ⟨rfl,hb⟩;refine⟨_,rfl, ?_⟩;replace U7:=m_ (aQ U7.1 hb);replace HB:=m_ (aI ai hb);clear hb;have IJ:=aY U7.1;have IK:=aZ U7.1;have IL:=aA U7.1 0;have IM:=aA U7.1 1)|((with_reducible refine bp (f:=108) rfl ?_);refine uD (some 36) rfl rfl ai7 bI rfl #[.agg #[.int .i64 ah, .slice aE ag.length aD], .int .i64 (rd l1 (eJ))] rfl (by(try simp only[aiO,ahl,aiP]);first|done|(simp only[gV];rfl)|rfl|(simp only[ahP,ahG];rfl)) ?_;(with_reducible refine(jI.calls ah _ _ ag (rd l1 (eJ)) Vk Vl _ ?av ?ax qG.1).mono ?_);(case av=>exact Kd.aC (Kd.aC bL.1 HB.1) af);(case ax=>exact bU.1);rintro e ud ⟨rfl,hb⟩;refine⟨_,rfl, ?_⟩;replace U7:=m_ (aQ U7.1 hb);replace HB:=m_ (aI ai hb);clear hb));go_ret;exact⟨by first|rfl|(simp[iG,iH]<;>rfl)|(simp only[← gV];first|rfl|(simp[iG,iH]<;>rfl))|(simp[*,iG,iH]<;>rfl),ai⟩
            · rw[aj c14]at H
              obtain⟨lY,FJ⟩:=dK c14;have H':=m_ H;clear H;have U9:0≤(U8:Int):=aT;have Vc:U8<(l1.length:Int):=aT;obtain⟨Vg,Vf,Vb⟩:=Kd.dP eM.1 U8 U9 Vc;cases Vf;(try replace Vb:=(HB.1.cell (aiK w _ Vb)).trans Vb);replace U9:=aJ U9;replace Vc:=aJ Vc;have Va:0≤((eJ):Int):=aT;have Vd:(eJ)<(l1.length:Int):=aT;obtain⟨Vi,Vh,Ve⟩:=Kd.dP eM.1 (eJ) Va Vd;obtain rfl:Vg=Vi:=(by injection Vh);(try replace Ve:=(HB.1.cell (aiK w _ Ve)).trans Ve);replace Va:=aJ Va;replace Vd:=aJ Vd;have rV:=aY U7.1;have rW:=aZ U7.1;have rX:=aA U7.1 0;have rY:=aA U7.1 1;go_wp2_with (first|((with_reducible refine bp (f:=108) rfl ?_);refine bA (some 30) ai7 #[.agg #[.int .i64 ah, .slice aE ag.length aD], .int .i64 (rd l1 U8)] ?_;(with_reducible refine(jI.calls ah _ _ ag (rd l1 U8) Vm Vj _ ?av ?ax yx.1).mono ?_);(case av=>exact Kd.aC (Kd.aC bL.1 HB.1) af);(case ax=>exact bU.1);rintro e qo ⟨rfl,hb⟩;refine⟨_,rfl, ?_⟩;replace U7:=m_ (aQ U7.1 hb);replace HB:=m_ (aI ai hb);clear hb;have Fh:=aY U7.1;have Jg:=aZ U7.1;have Fj:=aA U7.1 0;have Jh:=aA U7.1 1)|((with_reducible refine bp (f:=108) rfl ?_);refine uD (some 36) rfl rfl ai7 bI rfl #[.agg #[.int .i64 ah, .slice aE ag.length aD], .int .i64 (rd l1 (eJ))] rfl (by(try simp only[aiO,ahl,aiP]);first|done|(simp only[gV];rfl)|rfl|(simp only[ahP,ahG];rfl)) ?_;(with_reducible refine(jI.calls ah _ _ ag (rd l1 (eJ)) Vk Vl _ ?av ?ax qG.1).mono ?_);(case av=>exact Kd.aC (Kd.aC bL.1 HB.1) af);(case ax=>exact bU.1);rintro e nP ⟨rfl,hb⟩;refine⟨_,rfl, ?_⟩;replace U7:=m_ (aQ U7.1 hb);replace HB:=m_ (aI ai hb);clear hb))
              first|(go_roundg k1)|((try subst gV);(go_roundg k1))
              case measure=>have:=bF.1;omega
              case rel=>exact⟨(wrap64 (U8+1)),bh,H',⟨by have:=bF.1;omega⟩,⟨az U7.1 af⟩,⟨ai⟩⟩
          · rw[aj c13]at H
            obtain⟨q4,JR⟩:=dK c13;obtain rfl:=aiq H;have U9:0≤(U8:Int):=aT;have Vc:U8<(l1.length:Int):=aT;obtain⟨Vg,Vf,Vb⟩:=Kd.dP eM.1 U8 U9 Vc;cases Vf;(try replace Vb:=(HB.1.cell (aiK w _ Vb)).trans Vb);replace U9:=aJ U9;replace Vc:=aJ Vc;have Va:0≤((eJ):Int):=aT;have Vd:(eJ)<(l1.length:Int):=aT;obtain⟨Vi,Vh,Ve⟩:=Kd.dP eM.1 (eJ) Va Vd;obtain rfl:Vg=Vi:=(by injection Vh);(try replace Ve:=(HB.1.cell (aiK w _ Ve)).trans Ve);replace Va:=aJ Va;replace Vd:=aJ Vd;have Vu:=aY U7.1;have Vt:=aZ U7.1;have Vs:=aA U7.1 0;have Vr:=aA U7.1 1;go_wp2_with (first|((with_reducible refine bp (f:=108) rfl ?_);refine bA (some 30) ai7 #[.agg #[.int .i64 ah, .slice aE ag.length aD], .int .i64 (rd l1 U8)] ?_;(with_reducible refine(jI.calls ah _ _ ag (rd l1 U8) Vm Vj _ ?av ?ax yx.1).mono ?_);(case av=>exact Kd.aC (Kd.aC bL.1 HB.1) af);(case ax=>exact bU.1);rintro e zM ⟨rfl,hb⟩;refine⟨_,rfl, ?_⟩;replace U7:=m_ (aQ U7.1 hb);replace HB:=m_ (aI ai hb);clear hb;have OW:=aY U7.1;have OX:=aZ U7.1;have OY:=aA U7.1 0;have OZ:=aA U7.1 1)|((with_reducible refine bp (f:=108) rfl ?_);refine uD (some 36) rfl rfl ai7 bI rfl #[.agg #[.int .i64 ah, .slice aE ag.length aD], .int .i64 (rd l1 (eJ))] rfl (by(try simp only[aiO,ahl,aiP]);first|done|(simp only[gV];rfl)|rfl|(simp only[ahP,ahG];rfl)) ?_;(with_reducible refine(jI.calls ah _ _ ag (rd l1 (eJ)) Vk Vl _ ?av ?ax qG.1).mono ?_);(case av=>exact Kd.aC (Kd.aC bL.1 HB.1) af);(case ax=>exact bU.1);rintro e Fp ⟨rfl,hb⟩;refine⟨_,rfl, ?_⟩;replace U7:=m_ (aQ U7.1 hb);replace HB:=m_ (aI ai hb);clear hb));go_ret;exact⟨by first|rfl|(simp[iG,iH]<;>rfl)|(simp only[← gV];first|rfl|(simp[iG,iH]<;>rfl))|(simp[*,iG,iH]<;>rfl),ai⟩
      · rw[aj c4]at H
        have dL:=cj c4;clear c4;obtain rfl:=aiq H;go_wp2;go_ret;exact⟨cG,ai⟩

theorem oV.grow (a1:Int) (w:World) (h0:0<a1) (h1:a1≤1000):
    Calls aiu 263 #[.slice none 0 0, .int .i64 a1] w fun e w'=>∃v:Value,e= .returned v∧Kd.R (Kd.int .i64) 2 w' w.heap.size (fun _=>True) v []∧Below w.heap.size w w':=by
  have HB:=m_ (ait w.heap.size w);have c1:decide (a1<0)=false:=cj aa;have c2:decide (0<a1)=true:=aV h0;have c3:IntKind.i64.wrap a1=a1:=(eV _).trans (by unfold wrap64;omega);have L1:=m_ h0;have L2:=m_ h1;clear h0 h1;obtain⟨U9,U7,_,Va,_⟩:=info_parts kr;go_enter Try.func263,Try.ntmps263;go_wp2_with (first|((with_reducible refine jk (b:= .append) (xs:= #[.tmp 20, .tmp 21]) rfl ?_);at_builtin;refine Kd.acO (Kd.int .i64) (w0:=w) w.heap.size rfl (.tmp 20) (.tmp 21) 29 3 2 (.int .i64 0) 8 rfl aiF Try.underlying3 kr rfl aG aa (.slice none 0 0) [] 0 a1 (fun _=>True) rfl rfl rfl (fun _ _=>trivial) (Kd.nu _ _ _ _ _) (Int.le_of_lt L1.out) HB.1 (agO _) (by have:=L2.out;simp;omega) ?_;intro v1 w3 ho hb hg hat;have HO:=m_ ho;clear HB;have HB:=m_ hb;clear ho hb hg hat;obtain⟨A1,U8,e1⟩:=Kd.eF HO.1;subst e1;have hr:=Kd.JE (m:=0) HO.1 aa;have hcut:=OM (P:=aiu) 29 2 .i64 aiF U7 A1 ([]++List.replicate a1.toNat (0:Int)).length U8 0 aa aa (Kd.dh HO.1).2.1;have HR:=m_ hr;clear hr HO));go_ret;exact⟨_,rfl,HR.1,HB.1⟩
theorem oV.concat (A1 A2:Option Addr) (c1 c2:Nat) (l1 l2:List Int) (g:Nat) (w:World) (hg:w.heap[g]? =some (.cells #[.slice A1 l1.length c1, .slice A2 l2.length c2] 29 (0,0))) (h1:Kd.C (Kd.int .i64) w A1 l1.length l1) (h2:Kd.C (Kd.int .i64) w A2 l2.length l2) (h0:0<l1.length+l2.length) (hm:l1.length+l2.length≤1000):
    Calls aiu 253 #[.slice (some ⟨g,0,none⟩) 2 2] w fun e w'=>∃v:Value,e= .returned v∧Kd.R (Kd.int .i64) 2 w' w.heap.size (fun _=>True) v (l1++l2)∧Below w.heap.size w w':=by
  have HB:=m_ (ait w.heap.size w);have BK:=m_ hg;have H1:=m_ h1;have H2:=m_ h2;have L0:=m_ h0;have L1:=m_ hm;obtain⟨s2,hs2⟩: ∃s2:Int,s2=(l1.length:Int)+(l2.length:Int):=⟨_,rfl⟩;have a1:wrap64 (l1.length:Int)=(l1.length:Int):=(by unfold wrap64;omega);have a2:wrap64 ((l1.length:Int)+(l2.length:Int))=s2:=(by unfold wrap64;omega);have b1:decide ((l1.length:Int)<0)=false:=cj aa;have b2:decide (s2<0)=false:=cj aa;have HS:=m_ hs2;clear hs2;clear hg h1 h2 h0 hm;go_enter Try.func253,Try.ntmps253;go_wp2;go_loopg [3,11] 2 (fun kq v3 v11 w'=>((kq=2∧v11= .int .i64 0∧v3= .int .i64 0)∨(kq=1∧v11= .int .i64 1∧v3= .int .i64 (l1.length:Int))∨(kq=0∧v11= .int .i64 2∧v3= .int .i64 s2))∧au (Below w.heap.size w w'))
  case atStart=>exact⟨.inl ⟨rfl,rfl,rfl⟩,HB⟩
  case round=>
    obtain⟨U8,HB⟩:=hrel;have U7:=m_ (az BK.out HB.1);have hx0:=(cH U7.1 0).trans (show #[(.slice A1 l1.length c1:Value), .slice A2 l2.length c2][0]? =some (.slice A1 l1.length c1) from rfl);have hx1:=(cH U7.1 1).trans (show #[(.slice A1 l1.length c1:Value), .slice A2 l2.length c2][1]? =some (.slice A2 l2.length c2) from rfl);rcases U8 with ⟨rfl,rfl,rfl⟩|⟨rfl,rfl,rfl⟩|⟨rfl,rfl,rfl⟩
    · go_wp2
      go_roundg 1
      case measure=>omega
      case rel=>exact⟨.inr (.inl ⟨rfl,rfl,by rw[a1]⟩),HB⟩
    · go_wp2
      go_roundg 0
      case measure=>omega
      case rel=>exact⟨.inr (.inr ⟨rfl,rfl,by rw[a2]⟩),HB⟩
    · go_wp2_with (first|((with_reducible refine bp (f:=263) rfl ?_);refine uD (some 24) rfl rfl Try.func263 bI rfl #[.slice none 0 0, .int .i64 s2] rfl (by(try simp only[aiO,ahl,aiP]);first|done|rfl) ?_;(with_reducible refine(oV.grow s2 _ ?av ?ax).mono ?_);(case av=>have:=HS.1;have:=L0.out;omega);(case ax=>have:=HS.1;have:=L1.out;omega);rintro e w5 ⟨kO,rfl,aW,hb⟩;refine⟨_,rfl, ?_⟩;have lI:=m_ (Kd.eu aW (aM HB.1));have lJ:=m_ (aI HB.1 hb);clear HB;have HO:=lI;have HB:=lJ;clear lI lJ aW hb))
      go_loopg [6,27] 2 (fun kq v6 nJ w'=>((kq=2∧nJ= .int .i64 0∧au (Kd.R (Kd.int .i64) 2 w' w.heap.size (fun _=>True) v6 []))∨(kq=1∧nJ= .int .i64 1∧au (Kd.R (Kd.int .i64) 2 w' w.heap.size (fun _=>True) v6 l1))∨(kq=0∧nJ= .int .i64 2∧au (Kd.R (Kd.int .i64) 2 w' w.heap.size (fun _=>True) v6 (l1++l2))))∧au (Below w.heap.size w w'))
      case atStart=>exact⟨.inl ⟨rfl,rfl,HO⟩,HB⟩
      case round=>
        clear hx0 hx1 U7 HO;obtain⟨U8,HB⟩:=hrel;have U7:=m_ (az BK.out HB.1);have hx0:=(cH U7.1 0).trans (show #[(.slice A1 l1.length c1:Value), .slice A2 l2.length c2][0]? =some (.slice A1 l1.length c1) from rfl);have hx1:=(cH U7.1 1).trans (show #[(.slice A1 l1.length c1:Value), .slice A2 l2.length c2][1]? =some (.slice A2 l2.length c2) from rfl);rcases U8 with ⟨rfl,rfl,HO⟩|⟨rfl,rfl,HO⟩|⟨rfl,rfl,HO⟩
        · go_wp2_with (first|((with_reducible refine jk (b:= .append) (xs:= #[.tmp 31, .tmp 32]) rfl ?_);at_builtin;refine Kd.Df (Kd.int .i64) (w0:=w) w.heap.size rfl (.tmp 31) (.tmp 32) 29 2 (.int .i64 0) 8 rfl aiF kr rfl aG aa u6 ([]) l1 _ _ _ (fun _=>True) (fun _=>False) rfl rfl ?aO ?aR (fun _ _ h=>h) (fun _ h=>h.elim) ?aF ?aB ?aS ?aL ?_;(case aR=>exact(Kd.aC H1.out HB.1));(case aB=>exact HB.1);(case aF=>exact(fun _ _=>trivial));(case aO=>exact HO.1);(case aS=>exact aM HB.1);(case aL=>have:=L1.out;simp;omega);intro FL w9 ho hb hg hat;have lI:=m_ hb;have lJ:=m_ ho;clear HB HO;have HB:=lI;have HO:=lJ;clear lI lJ ho hb hg hat))
          go_roundg 1
          case measure=>omega
          case rel=>exact⟨.inr (.inl ⟨rfl,rfl,HO⟩),HB⟩
        · go_wp2_with (first|((with_reducible refine jk (b:= .append) (xs:= #[.tmp 31, .tmp 32]) rfl ?_);at_builtin;refine Kd.Df (Kd.int .i64) (w0:=w) w.heap.size rfl (.tmp 31) (.tmp 32) 29 2 (.int .i64 0) 8 rfl aiF kr rfl aG aa u6 (l1) l2 _ _ _ (fun _=>True) (fun _=>False) rfl rfl ?aO ?aR (fun _ _ h=>h) (fun _ h=>h.elim) ?aF ?aB ?aS ?aL ?_;(case aR=>exact(Kd.aC H2.out HB.1));(case aB=>exact HB.1);(case aF=>exact(fun _ _=>trivial));(case aO=>exact HO.1);(case aS=>exact aM HB.1);(case aL=>have:=L1.out;simp;omega);intro FL w9 ho hb hg hat;have lI:=m_ hb;have lJ:=m_ ho;clear HB HO;have HB:=lI;have HO:=lJ;clear lI lJ ho hb hg hat))
          go_roundg 0
          case measure=>omega
          case rel=>exact⟨.inr (.inr ⟨rfl,rfl,HO⟩),HB⟩
        · go_wp2
          go_ret;exact⟨_,rfl,HO.1,HB.1⟩
def oV.f (l0:List Int) (a1:Int):Option (List Int):=if 0≤a1 then (if a1≤(l0.length:Int) then (if 0<l0.length then (if l0.length≤1000 then some (l0.drop a1.toNat++l0.take a1.toNat) else none) else none) else none) else none
theorem oV.calls (A0:Option Addr) (c0:Nat) (l0:List Int) (a1:Int) (r:List Int) (w:World) (hr0:Kd.C (Kd.int .i64) w A0 l0.length l0) (hc0:l0.length≤c0) (h:oV.f l0 a1=some r):
    Calls aiu 212 #[.slice A0 l0.length c0, .int .i64 a1] w fun e w'=>∃dR:Value,e= .returned (dR)∧Kd.R (Kd.int .i64) 2 w' w.heap.size (fun _=>True) dR r∧Below w.heap.size w w':=by
  unfold oV.f at h
  by_cases c1:0≤a1
  · rw[ak c1]at h
    by_cases c2:a1≤(l0.length:Int)
    · rw[ak c2]at h
      by_cases c3:0<l0.length
      · rw[ak c3]at h
        by_cases c4:l0.length≤1000
        · rw[ak c4]at h
          obtain rfl:=aiq h;clear h;have L3:=m_ c3;have L4:=m_ c4;have L1:=m_ c1;have L2:=m_ c2;have HB:=m_ (ait w.heap.size w);obtain⟨i0,Bt,_,hsz,_⟩:=info_parts kr;obtain⟨B1,Va,hA1,U9⟩:=O7 (P:=aiu) (Value.int .i64) 0 29 2 .i64 aiF Bt hsz A0 c0 l0 a1 c1 c2 hc0;obtain⟨Vb,hA2,sR⟩:=O8 (P:=aiu) (Value.int .i64) 0 29 2 .i64 aiF Bt hsz A0 c0 l0 a1 c1 c2 hc0;have H1:=m_ (Kd.FA (h1:=fun _=>rfl) (hA1 _ (Kd.yG hr0)));have H2:=m_ (Kd.FA (h1:=fun _=>rfl) (hA2 _ (Kd.yG hr0)));have ht:(l0.take a1.toNat).length=a1.toNat:=(by rw[ahG];omega);have hd:(l0.drop a1.toNat).length=l0.length - a1.toNat:=ahP;have LT:=m_ ht;have LD:=m_ hd;clear hr0 hc0 c1 c2 c3 c4 hA1 hA2 U9 sR hsz ht hd;go_enter ajb,Try.ntmps212;go_wp2;refine jl (n:=9) (S:=fun w'=>True) (ds:=[]) #[false,false,false,false,false,false,false,false,false] bI rfl rfl trivial (fun hHeld=> ?_);refine pV (i:=0) (N:=some 5) (v:= ?_) (a':= ?_) #[true,false,false,false,false,false,false,false,false] rfl rfl bI (fun _ _ _ h=>h) (ai3 ⟨by rfl, ?_⟩) ?_ ?_
          rotate_left
          · intro w'
            go_simp
            with_reducible rfl
          rotate_left
          · simp only[aiA,yK]
            rfl
          refine pV (i:=1) (N:=some 6) (v:= ?_) (a':= ?_) #[true,true,false,false,false,false,false,false,false] rfl rfl bI (fun _ _ _ h=>h) (ai3 ⟨by rfl, ?_⟩) ?_ ?_
          rotate_left
          · intro w'
            go_simp
            with_reducible rfl
          rotate_left
          · simp only[aiA,yK]
            rfl
          refine pV (i:=2) (N:=some 7) (v:= ?_) (a':= ?_) #[true,true,true,false,false,false,false,false,false] rfl rfl bI (fun _ _ _ h=>h) (ai3 ⟨by rfl, ?_⟩) ?_ ?_
          rotate_left
          · intro w'
            go_simp
            with_reducible rfl
          rotate_left
          · simp only[aiA,yK]
            rfl
          refine pV (i:=3) (N:=some 8) (v:= ?_) (a':= ?_) #[true,true,true,true,false,false,false,false,false] rfl rfl bI (fun _ _ _ h=>h) (ai3 ⟨by rfl, ?_⟩) ?_ ?_
          rotate_left
          · intro w'
            go_simp
            with_reducible rfl
          rotate_left
          · simp only[aiA,yK]
            rfl
          refine pV (i:=4) (N:=some 9) (v:= ?_) (a':= ?_) #[true,true,true,true,true,false,false,false,false] rfl rfl bI (fun _ _ _ h=>h) (ai3 ⟨by rfl, ?_⟩) ?_ ?_
          rotate_left
          · intro w'
            go_simp
            with_reducible rfl
          rotate_left
          · simp only[aiA,yK]
            rfl
          refine pV (i:=5) (N:=some 10) (v:= ?_) (a':= ?_) #[true,true,true,true,true,true,false,false,false] rfl rfl bI (fun _ _ _ h=>h) (ai3 ⟨by rfl, ?_⟩) ?_ ?_
          rotate_left
          · intro w'
            go_simp
            with_reducible rfl
          rotate_left
          · simp only[aiA,yK]
            rfl
          refine sQ (i:=6) (N:=some 11) #[true,true,true,true,true,true,true,false,false] rfl rfl bI aG (fun K hK=> ?_);refine o9 (by rfl) (v:= .slice (some ⟨w.drew.heap.size,0,none⟩) 2 2) (w1:=World.alloc w.drew (.cells #[.slice B1 (l0.drop a1.toNat).length (c0 - a1.toNat), .slice A0 (l0.take a1.toNat).length c0] 29 (0,0))) ?hr ?_
          case hr=>first|(go_simp;done)|(go_simp;rfl)
          have BK:=m_ (FG w.drew (.cells #[.slice B1 (l0.drop a1.toNat).length (c0 - a1.toNat), .slice A0 (l0.take a1.toNat).length c0] 29 (0,0)));have U7:=m_ (kI (iq HB.1) (.cells #[.slice B1 (l0.drop a1.toNat).length (c0 - a1.toNat), .slice A0 (l0.take a1.toNat).length c0] 29 (0,0)));refine hK.out _ _ trivial (fun hHeld=> ?_);clear hK K;refine eH ?_;refine sQ (i:=7) (N:=some 12) #[true,true,true,true,true,true,true,true,false] rfl rfl bI aG (fun K hK=> ?_);refine gI Try.func253 bI rfl #[.slice (some ⟨w.drew.heap.size,0,none⟩) 2 2] (by rfl) rfl rfl (by(try simp only[aiO,ahl,aiP]);first|done|rfl) ?_;refine(oV.concat B1 A0 (c0 - a1.toNat) c0 (l0.drop a1.toNat) (l0.take a1.toNat) w.drew.heap.size _ BK.out (Kd.aC H1.out U7.1) (Kd.aC H2.out U7.1) ?s1 ?s2).mono ?_
          case s1=>have:=L3.out;have:=LT.out;have:=LD.out;have:=L1.out;have:=L2.out;omega
          case s2=>have:=L4.out;have:=LT.out;have:=LD.out;have:=L1.out;have:=L2.out;omega
          rintro e pN ⟨Vc,rfl,aW,hb⟩;refine⟨_,rfl, ?_⟩;have HO:=m_ (Kd.eu aW (aM U7.1));have U8:=m_ (aI U7.1 hb);clear aW hb;refine hK.out _ _ trivial (fun hHeld=> ?_);clear hK K;refine eH ?_;refine pV (i:=8) (N:=some 4) (v:= ?_) (a':= ?_) #[true,true,true,true,true,true,true,true,true] rfl rfl bI (fun _ _ _ h=>h) (ai3 ⟨by rfl, ?_⟩) ?_ ?_
          rotate_left
          · intro w'
            go_simp
            with_reducible rfl
          rotate_left
          · simp only[aiA,yK]
            rfl
          refine ja bI ?_
          try go_wp2
          go_ret;exact⟨_,rfl,HO.1,U8.1⟩
        · rw[aj c4]at h;cases h
      · rw[aj c3]at h;cases h
    · rw[aj c2]at h;cases h
  · rw[aj c1]at h;cases h

def mC.l0:Nat→List Int→Int→Int→List (List Int)→Option (Bool)
  | 0,_,_,_,_=>none
  | k+1,x1,x5,yL,yM=>if x5<(x1.length:Int) then ((oV.f x1 x5).bind fun wv=>((lT.f k wv x1).bind fun JS=>(if JS=true then (some false) else (mC.l0 k x1 (wrap64 (x5+1)) yL yM)))) else ((m9.f k yL yM x1).bind fun ia=>(some ia))
def mC.f (k:Nat) (ah:Int) (ag:List (List Int)) (l1:List Int):Option (Bool):=mC.l0 k l1 1 ah ag
theorem mC.calls (k:Nat) (ah:Int) (aE:Option Addr) (aD:Nat) (ag:List (List Int)) (A1:Option Addr) (c1:Nat) (l1:List Int) (r:Bool) (w:World) (cC:Kd.C (Kd.slice 2 (Kd.int .i64)) w aE ag.length ag) (cD:ag.length≤aD) (hr1:Kd.C (Kd.int .i64) w A1 l1.length l1) (hc1:l1.length≤c1) (h:mC.f k ah ag l1=some r):
    Calls aiu 115 #[.agg #[.int .i64 ah, .slice aE ag.length aD], .slice A1 l1.length c1] w fun e w'=>e= .returned (.bool r)∧Below w.heap.size w w':=by
  have fq:=aiy;have bL:=m_ cC;have bU:=m_ cD;clear cC cD;have eM:=m_ hr1;have iA:=m_ hc1;clear hr1 hc1;have HB:=m_ (ait w.heap.size w);have H:=h;unfold mC.f at H;clear h;have H':=m_ H;clear H;go_enter ajf,Try.ntmps115;go_wp2_with (first|((with_reducible refine bO (N:=2) rfl ?_);refine cF (N:=2) (cs:= #[.int .i64 ah, .slice aE ag.length aD]) (t:=26) ?_;intro lf hg w3 aN hb;have eS:=m_ (aN);have Pn:=m_ ((by rw[hg];exact(aM aU):w.heap.size≤lf));have Po:=m_ ((by rw[hg];exact(aM aU):w.heap.size≤lf));replace HB:=m_ (aI aU hb);clear hb aN hg));go_loopg [5] k (fun kq v5 w'=>∃(cA:Int),v5= .int .i64 cA∧au (mC.l0 kq l1 cA ah ag=some r)∧au (kq≤k)∧au (w'.heap[lf]? =some (.cells #[.int .i64 ah,(.slice aE ag.length aD)] 26 (0,0)))∧au (Below w.heap.size w w'))
  case atStart=>exact⟨(1),bh,H',⟨agO _⟩,⟨az eS.1 af⟩,⟨ai⟩⟩
  case round=>
    clear H';obtain⟨cA,rfl,HA,bF,eS,HB⟩:=hrel;cases gk with
    | zero=>exact absurd HA.1 (by simp[mC.l0])
    | succ k1=>
      have H:=HA.1;clear HA;simp only[mC.l0]at H
      by_cases c4:cA<(l1.length:Int)
      · rw[ak c4]at H
        have dL:=aV c4;clear c4;obtain⟨wv,A5,H⟩:=bE H;obtain⟨JS,A6,H⟩:=bE H
        by_cases c7:JS=true
        · subst c7
          rw[ak rfl]at H;obtain rfl:=aiq H;go_wp2_with (first|((with_reducible refine bp (f:=212) rfl ?_);refine bA (some 14) ajb #[.slice A1 l1.length c1, .int .i64 cA] ?_;(with_reducible refine(oV.calls _ _ l1 cA wv _ ?av ?ax A5.1).mono ?_);(case av=>exact Kd.aC (Kd.aC eM.1 HB.1) af);(case ax=>exact iA.1);rintro e w8 ⟨U8,rfl,aW,hb⟩;refine⟨_,rfl, ?_⟩;have U7:=m_ (Kd.eu aW (aM ai));replace eS:=m_ (aQ eS.1 hb);replace HB:=m_ (aI ai hb);clear hb;(try clear aW);obtain⟨nG,kG,nB⟩:=Kd.eF U7.1;subst nB)|((with_reducible refine bp (f:=116) rfl ?_);refine bA (some 16) aje #[.slice nG wv.length kG, .slice A1 l1.length c1] ?_;(with_reducible refine(lT.calls k1 _ _ wv _ _ l1 true _ ?av ?ax ?cK ?cY A6.1).mono ?_);(case av=>exact Kd.aC (Kd.dh U7.1).2.2 af);(case ax=>exact(Kd.dh U7.1).2.1);(case cK=>exact Kd.aC (Kd.aC eM.1 HB.1) af);(case cY=>exact iA.1);rintro e w' ⟨rfl,⟨nd,rfl⟩⟩;refine⟨_,rfl, ?_⟩));go_ret;exact⟨cG,ai⟩
        · replace c7:=aix.mpr c7
          subst c7;rw[aj (show ¬(false=true) by decide)]at H;have H':=m_ H;clear H;go_wp2_with (first|((with_reducible refine bp (f:=212) rfl ?_);refine bA (some 14) ajb #[.slice A1 l1.length c1, .int .i64 cA] ?_;(with_reducible refine(oV.calls _ _ l1 cA wv _ ?av ?ax A5.1).mono ?_);(case av=>exact Kd.aC (Kd.aC eM.1 HB.1) af);(case ax=>exact iA.1);rintro e jc ⟨U8,rfl,aW,hb⟩;refine⟨_,rfl, ?_⟩;have U7:=m_ (Kd.eu aW (aM ai));replace eS:=m_ (aQ eS.1 hb);replace HB:=m_ (aI ai hb);clear hb;(try clear aW);obtain⟨fA,fj,rR⟩:=Kd.eF U7.1;subst rR)|((with_reducible refine bp (f:=116) rfl ?_);refine bA (some 16) aje #[.slice fA wv.length fj, .slice A1 l1.length c1] ?_;(with_reducible refine(lT.calls k1 _ _ wv _ _ l1 false _ ?av ?ax ?cK ?cY A6.1).mono ?_);(case av=>exact Kd.aC (Kd.dh U7.1).2.2 af);(case ax=>exact(Kd.dh U7.1).2.1);(case cK=>exact Kd.aC (Kd.aC eM.1 HB.1) af);(case cY=>exact iA.1);rintro e w' ⟨rfl,⟨nd,rfl⟩⟩;refine⟨_,rfl, ?_⟩));go_roundg k1
          case measure=>have:=bF.1;omega
          case rel=>exact⟨(wrap64 (cA+1)),bh,H',⟨by have:=bF.1;omega⟩,⟨az eS.1 af⟩,⟨ai⟩⟩
      · rw[aj c4]at H
        have dL:=cj c4;clear c4;obtain⟨ia,qG,H⟩:=bE H;obtain rfl:=aiq H;have zE:=aY eS.1;have BB:=aZ eS.1;have zF:=aA eS.1 0;have BC:=aA eS.1 1;go_wp2_with (first|((with_reducible refine bp (f:=158) rfl ?_);refine bA (some 19) Try.func158 #[.agg #[.int .i64 ah, .slice aE ag.length aD], .slice A1 l1.length c1] ?_;(with_reducible refine(m9.calls k1 ah _ _ ag _ _ l1 ia _ ?av ?ax ?cK ?cY qG.1).mono ?_);(case av=>exact Kd.aC (Kd.aC bL.1 HB.1) af);(case ax=>exact bU.1);(case cK=>exact Kd.aC (Kd.aC eM.1 HB.1) af);(case cY=>exact iA.1);rintro e qm ⟨rfl,hb⟩;refine⟨_,rfl, ?_⟩;replace eS:=m_ (aQ eS.1 hb);replace HB:=m_ (aI ai hb);clear hb));go_ret;exact⟨cG,ai⟩

def ni.f (a0:Int):Option (Bool):=some (a0 != a0)
theorem ni.calls (a0:Int) (r:Bool) (w:World) (h:ni.f a0=some r):
    Calls aiu 262 #[.int .i64 a0] w fun e w'=>e= .returned (.bool r)∧bG w w':=by
  have H:=h;unfold ni.f at H;clear h;obtain rfl:=aiq H;go_enter ai4,Try.ntmps262;go_wp2;go_ret;exact⟨bh,by repeat (first|exact bG.refl _ |apply bG.step)⟩

def uZ.f (a0:Int) (a1:Int):Option (Int):=(ni.f a0).bind fun JT=>((ni.f a1).bind fun Dh=>(if JT=true then (if Dh=true then (some 0) else (some (-1))) else (if Dh=true then (some 1) else (if a0<a1 then (some (-1)) else (if a0>a1 then (some 1) else (some 0))))))
theorem uZ.calls (a0:Int) (a1:Int) (r:Int) (w:World) (h:uZ.f a0 a1=some r):
    Calls aiu 254 #[.int .i64 a0, .int .i64 a1] w fun e w'=>e= .returned (.int .i64 r)∧bG w w':=by
  have H:=h;unfold uZ.f at H;clear h;obtain⟨JT,A3,H⟩:=bE H;obtain⟨Dh,A4,H⟩:=bE H
  by_cases c5:JT=true
  · subst c5
    rw[ak rfl]at H
    by_cases c6:Dh=true
    · subst c6
      rw[ak rfl]at H;obtain rfl:=aiq H;go_enter ai6,ai8;go_wp2_with (first|((with_reducible refine bp (f:=262) rfl ?_);refine bA (some 8) ai4 #[.int .i64 a0] ?_;(with_reducible refine(ni.calls a0 true _ A3.1).mono ?_);rintro e w' ⟨rfl,⟨nd,rfl⟩⟩;refine⟨_,rfl, ?_⟩)|((with_reducible refine bp (f:=262) rfl ?_);refine bA (some 10) ai4 #[.int .i64 a1] ?_;(with_reducible refine(ni.calls a1 true _ A4.1).mono ?_);rintro e w' ⟨rfl,⟨nd,rfl⟩⟩;refine⟨_,rfl, ?_⟩));go_ret;exact⟨bh,by repeat (first|exact bG.refl _ |apply bG.step)⟩
    · replace c6:=aix.mpr c6
      subst c6;rw[aj (show ¬(false=true) by decide)]at H;obtain rfl:=aiq H;go_enter ai6,ai8;go_wp2_with (first|((with_reducible refine bp (f:=262) rfl ?_);refine bA (some 8) ai4 #[.int .i64 a0] ?_;(with_reducible refine(ni.calls a0 true _ A3.1).mono ?_);rintro e w' ⟨rfl,⟨nd,rfl⟩⟩;refine⟨_,rfl, ?_⟩)|((with_reducible refine bp (f:=262) rfl ?_);refine bA (some 10) ai4 #[.int .i64 a1] ?_;(with_reducible refine(ni.calls a1 false _ A4.1).mono ?_);rintro e w' ⟨rfl,⟨nd,rfl⟩⟩;refine⟨_,rfl, ?_⟩));go_ret;exact⟨bh,by repeat (first|exact bG.refl _ |apply bG.step)⟩
  · replace c5:=aix.mpr c5
    subst c5;rw[aj (show ¬(false=true) by decide)]at H
    by_cases c7:Dh=true
    · subst c7
      rw[ak rfl]at H;obtain rfl:=aiq H;go_enter ai6,ai8;go_wp2_with (first|((with_reducible refine bp (f:=262) rfl ?_);refine bA (some 8) ai4 #[.int .i64 a0] ?_;(with_reducible refine(ni.calls a0 false _ A3.1).mono ?_);rintro e w' ⟨rfl,⟨nd,rfl⟩⟩;refine⟨_,rfl, ?_⟩)|((with_reducible refine bp (f:=262) rfl ?_);refine bA (some 10) ai4 #[.int .i64 a1] ?_;(with_reducible refine(ni.calls a1 true _ A4.1).mono ?_);rintro e w' ⟨rfl,⟨nd,rfl⟩⟩;refine⟨_,rfl, ?_⟩));go_ret;exact⟨bh,by repeat (first|exact bG.refl _ |apply bG.step)⟩
    · replace c7:=aix.mpr c7
      subst c7;rw[aj (show ¬(false=true) by decide)]at H
      by_cases c8:a0<a1
      · rw[ak c8]at H
        have nQ:=aV c8;clear c8;obtain rfl:=aiq H;go_enter ai6,ai8;go_wp2_with (first|((with_reducible refine bp (f:=262) rfl ?_);refine bA (some 8) ai4 #[.int .i64 a0] ?_;(with_reducible refine(ni.calls a0 false _ A3.1).mono ?_);rintro e w' ⟨rfl,⟨nd,rfl⟩⟩;refine⟨_,rfl, ?_⟩)|((with_reducible refine bp (f:=262) rfl ?_);refine bA (some 10) ai4 #[.int .i64 a1] ?_;(with_reducible refine(ni.calls a1 false _ A4.1).mono ?_);rintro e w' ⟨rfl,⟨nd,rfl⟩⟩;refine⟨_,rfl, ?_⟩));go_ret;exact⟨bh,by repeat (first|exact bG.refl _ |apply bG.step)⟩
      · rw[aj c8]at H
        have nQ:=cj c8;clear c8
        by_cases c9:a0>a1
        · rw[ak c9]at H
          have mK:=aV c9;clear c9;obtain rfl:=aiq H;go_enter ai6,ai8;go_wp2_with (first|((with_reducible refine bp (f:=262) rfl ?_);refine bA (some 8) ai4 #[.int .i64 a0] ?_;(with_reducible refine(ni.calls a0 false _ A3.1).mono ?_);rintro e w' ⟨rfl,⟨nd,rfl⟩⟩;refine⟨_,rfl, ?_⟩)|((with_reducible refine bp (f:=262) rfl ?_);refine bA (some 10) ai4 #[.int .i64 a1] ?_;(with_reducible refine(ni.calls a1 false _ A4.1).mono ?_);rintro e w' ⟨rfl,⟨nd,rfl⟩⟩;refine⟨_,rfl, ?_⟩));go_ret;exact⟨bh,by repeat (first|exact bG.refl _ |apply bG.step)⟩
        · rw[aj c9]at H
          have mK:=cj c9;clear c9;obtain rfl:=aiq H;go_enter ai6,ai8;go_wp2_with (first|((with_reducible refine bp (f:=262) rfl ?_);refine bA (some 8) ai4 #[.int .i64 a0] ?_;(with_reducible refine(ni.calls a0 false _ A3.1).mono ?_);rintro e w' ⟨rfl,⟨nd,rfl⟩⟩;refine⟨_,rfl, ?_⟩)|((with_reducible refine bp (f:=262) rfl ?_);refine bA (some 10) ai4 #[.int .i64 a1] ?_;(with_reducible refine(ni.calls a1 false _ A4.1).mono ?_);rintro e w' ⟨rfl,⟨nd,rfl⟩⟩;refine⟨_,rfl, ?_⟩));go_ret;exact⟨bh,by repeat (first|exact bG.refl _ |apply bG.step)⟩

def nM.l0:Nat→List Int→List Int→List Int→Int→Int→Option (Int)
  | 0,_,_,_,_,_=>none
  | k+1,x0,x1,x9,eC,dX=>if dX<eC then (if 0≤dX then (if dX<(x9.length:Int) then (if dX≥(x1.length:Int) then (some 1) else (if dX<(x1.length:Int) then ((uZ.f (rd x9 dX) (rd x1 dX)).bind fun oI=>(if oI=0 then (nM.l0 k x0 x1 x9 eC (wrap64 (dX+1))) else (some oI))) else (none))) else (none)) else (none)) else (if (x0.length:Int)<(x1.length:Int) then (some (-1)) else (some 0))
def nM.f (k:Nat) (l0:List Int) (l1:List Int):Option (Int):=nM.l0 k l0 l1 l0 (l0.length:Int) 0
theorem nM.calls (k:Nat) (A0:Option Addr) (c0:Nat) (l0:List Int) (A1:Option Addr) (c1:Nat) (l1:List Int) (r:Int) (w:World) (hr0:Kd.C (Kd.int .i64) w A0 l0.length l0) (hc0:l0.length≤c0) (hr1:Kd.C (Kd.int .i64) w A1 l1.length l1) (hc1:l1.length≤c1) (h:nM.f k l0 l1=some r):
    Calls aiu 214 #[.slice A0 l0.length c0, .slice A1 l1.length c1] w fun e w'=>e= .returned (.int .i64 r)∧bG w w':=by
  have dY:=m_ hr0;have fJ:=m_ hc0;clear hr0 hc0;have eM:=m_ hr1;have iA:=m_ hc1;clear hr1 hc1;have H:=h;unfold nM.f at H;clear h;have H':=m_ H;clear H;go_enter Try.func214,Try.ntmps214;go_wp2;go_loopg [11] k (fun kq v11 w'=>∃(fT:Int),v11= .int .i64 fT∧au (nM.l0 kq l0 l1 l0 (l0.length:Int) fT=some r)∧au (kq≤k)∧bG w w')
  case atStart=>exact⟨(0),bh,H',⟨agO _⟩,by repeat (first|exact bG.refl _ |apply bG.step)⟩
  case round=>
    clear H';obtain⟨fT,rfl,HA,bF,⟨m1,rfl⟩⟩:=hrel;cases gk with
    | zero=>exact absurd HA.1 (by simp[nM.l0])
    | succ k1=>
      have H:=HA.1;clear HA;simp only[nM.l0]at H
      by_cases c3:fT<(l0.length:Int)
      · rw[ak c3]at H
        have iE:=aV c3;clear c3;obtain⟨c4,H⟩:=bJ H;have dL:=aV c4;clear c4;obtain⟨c5,H⟩:=bJ H;have gH:=aV c5;clear c5
        by_cases c6:fT≥(l1.length:Int)
        · rw[ak c6]at H
          have gD:=aV c6;clear c6;obtain rfl:=aiq H;have jY:0≤(fT:Int):=aT;have jz:fT<(l0.length:Int):=aT;obtain⟨yN,sn,wz⟩:=Kd.dP dY.1 fT jY jz;cases sn;replace jY:=aJ jY;replace jz:=aJ jz;go_wp2;go_ret;exact⟨bh,by repeat (first|exact bG.refl _ |apply bG.step)⟩
        · rw[aj c6]at H
          have gD:=cj c6;clear c6;obtain⟨c7,H⟩:=bJ H;have iN:=aV c7;clear c7;obtain⟨oI,A8,H⟩:=bE H
          by_cases c9:oI=0
          · rw[ak c9]at H
            obtain⟨mK,CT⟩:=dJ c9;clear c9;have H':=m_ H;clear H;have jY:0≤(fT:Int):=aT;have jz:fT<(l0.length:Int):=aT;obtain⟨yN,sn,wz⟩:=Kd.dP dY.1 fT jY jz;cases sn;replace jY:=aJ jY;replace jz:=aJ jz;have U7:0≤(fT:Int):=aT;have U8:fT<(l1.length:Int):=aT;obtain⟨Vb,U9,Va⟩:=Kd.dP eM.1 fT U7 U8;cases U9;replace U7:=aJ U7;replace U8:=aJ U8;go_wp2_with (first|((with_reducible refine bp (f:=254) rfl ?_);refine bA (some 26) ai6 #[.int .i64 (rd l0 fT), .int .i64 (rd l1 fT)] ?_;(with_reducible refine(uZ.calls (rd l0 fT) (rd l1 fT) oI _ A8.1).mono ?_);rintro e w' ⟨rfl,⟨nd,rfl⟩⟩;refine⟨_,rfl, ?_⟩));go_roundg k1
            case measure=>have:=bF.1;omega
            case rel=>exact⟨(wrap64 (fT+1)),bh,H',⟨by have:=bF.1;omega⟩,by repeat (first|exact bG.refl _ |apply bG.step)⟩
          · rw[aj c9]at H
            obtain⟨mK,CT⟩:=dK c9;obtain rfl:=aiq H;have jY:0≤(fT:Int):=aT;have jz:fT<(l0.length:Int):=aT;obtain⟨yN,sn,wz⟩:=Kd.dP dY.1 fT jY jz;cases sn;replace jY:=aJ jY;replace jz:=aJ jz;have U7:0≤(fT:Int):=aT;have U8:fT<(l1.length:Int):=aT;obtain⟨Vb,U9,Va⟩:=Kd.dP eM.1 fT U7 U8;cases U9;replace U7:=aJ U7;replace U8:=aJ U8;go_wp2_with (first|((with_reducible refine bp (f:=254) rfl ?_);refine bA (some 26) ai6 #[.int .i64 (rd l0 fT), .int .i64 (rd l1 fT)] ?_;(with_reducible refine(uZ.calls (rd l0 fT) (rd l1 fT) oI _ A8.1).mono ?_);rintro e w' ⟨rfl,⟨nd,rfl⟩⟩;refine⟨_,rfl, ?_⟩));go_ret;exact⟨bh,by repeat (first|exact bG.refl _ |apply bG.step)⟩
      · rw[aj c3]at H
        have iE:=cj c3;clear c3
        by_cases c10:(l0.length:Int)<(l1.length:Int)
        · rw[ak c10]at H
          have pQ:=aV c10;have CU:decide (l0.length<l1.length)=true:=aV (Int.ofNat_lt.mp c10);clear c10;obtain rfl:=aiq H;go_wp2;go_ret;exact⟨bh,by repeat (first|exact bG.refl _ |apply bG.step)⟩
        · rw[aj c10]at H
          have pQ:=cj c10;have CU:decide (l0.length<l1.length)=false:=cj (fun h=>c10 (Int.ofNat_lt.mpr h));clear c10;obtain rfl:=aiq H;go_wp2;go_ret;exact⟨bh,by repeat (first|exact bG.refl _ |apply bG.step)⟩

def nk.l0:Nat→List Int→List Int→Int→Int→Option (List Int)
  | 0,_,_,_,_=>none
  | k+1,x0,x3,x9,eC=>if eC<x9 then ((oV.f x0 eC).bind fun sU=>((nM.f k sU x3).bind fun Di=>(if Di<0 then (nk.l0 k x0 sU x9 (wrap64 (eC+1))) else (nk.l0 k x0 x3 x9 (wrap64 (eC+1)))))) else (some x3)
def nk.f (k:Nat) (l0:List Int):Option (List Int):=(mS.f l0).bind fun FM=>(nk.l0 k l0 FM (l0.length:Int) 0)
theorem nk.calls (k:Nat) (A0:Option Addr) (c0:Nat) (l0:List Int) (r:List Int) (w:World) (hr0:Kd.C (Kd.int .i64) w A0 l0.length l0) (hc0:l0.length≤c0) (h:nk.f k l0=some r):
    Calls aiu 117 #[.slice A0 l0.length c0] w fun e w'=>∃dR:Value,e= .returned (dR)∧Kd.R (Kd.int .i64) 2 w' w.heap.size (fun _=>True) dR r∧Below w.heap.size w w':=by
  have dY:=m_ hr0;have fJ:=m_ hc0;clear hr0 hc0;have HB:=m_ (ait w.heap.size w);have H:=h;unfold nk.f at H;clear h;obtain⟨FM,A2,H⟩:=bE H;have H':=m_ H;clear H;go_enter Try.func117,Try.ntmps117;go_wp2_with (first|((with_reducible refine bp (f:=213) rfl ?_);refine bA (some 7) Try.func213 #[.slice A0 l0.length c0] ?_;(with_reducible refine(mS.calls _ _ l0 FM _ ?av ?ax A2.1).mono ?_);(case av=>exact Kd.aC dY.1 af);(case ax=>exact fJ.1);rintro e w3 ⟨U8,rfl,aW,hb⟩;refine⟨_,rfl, ?_⟩;have U7:=m_ (Kd.eu aW (aM aU));replace HB:=m_ (aI aU hb);clear hb;(try clear aW)));go_loopg [3,10] k (fun kq v3 v10 w'=>∃(eK:List Int) (cZ:Int),v10= .int .i64 cZ∧au (nk.l0 kq l0 eK (l0.length:Int) cZ=some r)∧au (kq≤k)∧au (Kd.R (Kd.int .i64) 2 w' w.heap.size (fun _=>True) v3 eK)∧au (Below w.heap.size w w'))
  case atStart=>exact⟨(FM),(0),bh,H',⟨agO _⟩,⟨Kd.bq U7.1 af⟩,⟨aU⟩⟩
  case round=>
    clear H';obtain⟨eK,cZ,rfl,HA,bF,dw,HB⟩:=hrel;cases gk with
    | zero=>exact absurd HA.1 (by simp[nk.l0])
    | succ k1=>
      have H:=HA.1;clear HA;simp only[nk.l0]at H
      by_cases c4:cZ<(l0.length:Int)
      · rw[ak c4]at H
        have dL:=aV c4;clear c4;obtain⟨sU,A5,H⟩:=bE H;obtain⟨Di,A6,H⟩:=bE H
        by_cases c7:Di<0
        · rw[ak c7]at H
          have iN:=aV c7;clear c7;have H':=m_ H;clear H;go_wp2_with (first|((with_reducible refine bp (f:=212) rfl ?_);refine bA (some 15) ajb #[.slice A0 l0.length c0, .int .i64 cZ] ?_;(with_reducible refine(oV.calls _ _ l0 cZ sU _ ?av ?ax A5.1).mono ?_);(case av=>exact Kd.aC (Kd.aC dY.1 HB.1) af);(case ax=>exact fJ.1);rintro e w8 ⟨Pq,rfl,aW,hb⟩;refine⟨_,rfl, ?_⟩;have sV:=m_ (Kd.eu (Kd.nr aW (Kd.gq (Kd.bq dw.1 af))) (aM aU));replace dw:=m_ (Kd.ko (Kd.bq dw.1 af) (Kd.dW aW) hb);replace HB:=m_ (aI aU hb);clear hb;(try clear aW);obtain⟨nG,kG,nB⟩:=Kd.eF sV.1;subst nB;obtain⟨qF,o5,um⟩:=Kd.eF dw.1;subst um)|((with_reducible refine bp (f:=214) rfl ?_);refine bA (some 18) Try.func214 #[.slice nG sU.length kG, .slice qF eK.length o5] ?_;(with_reducible refine(nM.calls k1 _ _ sU _ _ eK Di _ ?av ?ax ?cK ?cY A6.1).mono ?_);(case av=>exact Kd.aC (Kd.dh sV.1).2.2 af);(case ax=>exact(Kd.dh sV.1).2.1);(case cK=>exact Kd.aC (Kd.dh dw.1).2.2 af);(case cY=>exact(Kd.dh dw.1).2.1);rintro e w' ⟨rfl,⟨nd,rfl⟩⟩;refine⟨_,rfl, ?_⟩));go_roundg k1
          case measure=>have:=bF.1;omega
          case rel=>exact⟨(sU),(wrap64 (cZ+1)),bh,H',⟨by have:=bF.1;omega⟩,⟨by(with_reducible repeat (first|apply Kd.gr|apply Kd.gu|apply Kd.fM));exact Kd.cL sV.1 (fun _ hk=>trivial)⟩,⟨aU⟩⟩
        · rw[aj c7]at H
          have iN:=cj c7;clear c7;have H':=m_ H;clear H;go_wp2_with (first|((with_reducible refine bp (f:=212) rfl ?_);refine bA (some 15) ajb #[.slice A0 l0.length c0, .int .i64 cZ] ?_;(with_reducible refine(oV.calls _ _ l0 cZ sU _ ?av ?ax A5.1).mono ?_);(case av=>exact Kd.aC (Kd.aC dY.1 HB.1) af);(case ax=>exact fJ.1);rintro e lW ⟨Pq,rfl,aW,hb⟩;refine⟨_,rfl, ?_⟩;have sV:=m_ (Kd.eu (Kd.nr aW (Kd.gq (Kd.bq dw.1 af))) (aM aU));replace dw:=m_ (Kd.ko (Kd.bq dw.1 af) (Kd.dW aW) hb);replace HB:=m_ (aI aU hb);clear hb;(try clear aW);obtain⟨vO,uj,uk⟩:=Kd.eF sV.1;subst uk;obtain⟨vN,q6,rm⟩:=Kd.eF dw.1;subst rm)|((with_reducible refine bp (f:=214) rfl ?_);refine bA (some 18) Try.func214 #[.slice vO sU.length uj, .slice vN eK.length q6] ?_;(with_reducible refine(nM.calls k1 _ _ sU _ _ eK Di _ ?av ?ax ?cK ?cY A6.1).mono ?_);(case av=>exact Kd.aC (Kd.dh sV.1).2.2 af);(case ax=>exact(Kd.dh sV.1).2.1);(case cK=>exact Kd.aC (Kd.dh dw.1).2.2 af);(case cY=>exact(Kd.dh dw.1).2.1);rintro e w' ⟨rfl,⟨nd,rfl⟩⟩;refine⟨_,rfl, ?_⟩));go_roundg k1
          case measure=>have:=bF.1;omega
          case rel=>exact⟨(eK),(wrap64 (cZ+1)),bh,H',⟨by have:=bF.1;omega⟩,⟨by(with_reducible repeat (first|apply Kd.gr|apply Kd.gu|apply Kd.fM));exact Kd.cL dw.1 (fun _ hk=>trivial)⟩,⟨aU⟩⟩
      · rw[aj c4]at H
        have dL:=cj c4;clear c4;obtain rfl:=aiq H;go_wp2;go_ret;exact⟨_,cG,(Kd.bq dw.1 af),aU⟩

def gB.l0:Nat→List (List Int)→List (List Int)→Int→Int→Int→List (List Int)→Option ((List (List Int))×Int)
  | 0,_,_,_,_,_,_=>none
  | k+1,x6,x8,jM,nY,yL,yM=>if nY<jM then (if 0≤nY then (if nY<(x6.length:Int) then ((mC.f k yL yM (aH x6 nY)).bind fun JU=>(if JU=true then ((nk.f k (aH x6 nY)).bind fun oI=>((lT.f k (aH x6 nY) oI).bind fun JV=>(if JV=true then (if x8.length<5864062014805 then (gB.l0 k x6 (x8++[aH x6 nY]) jM (wrap64 (nY+1)) yL yM) else (none)) else (gB.l0 k x6 x8 jM (wrap64 (nY+1)) yL yM)))) else (gB.l0 k x6 x8 jM (wrap64 (nY+1)) yL yM))) else (none)) else (none)) else (some (x8,0))
def gB.f (k:Nat) (ah:Int) (ag:List (List Int)) (a1:Int):Option ((List (List Int))×Int):=(oX.f k ah ag a1).bind fun U7=>(if U7.2=0 then (gB.l0 k U7.1 (([]:List (List Int))) (U7.1.length:Int) 0 ah ag) else (some (([]:List (List Int)),U7.2)))
structure gB.Z (zs:List (List Int×Nat)) (xs:List (List Int)) (i:Int):Prop where
  eq:zs.map Prod.fst=xs
  pos:0≤i
  lt: ∀p∈zs,(p.2:Int)<i
  pw:zs.Pairwise (fun p q=>p.2<q.2)
theorem gB.Z.len {zs:List (List Int×Nat)} {xs:List (List Int)} {i:Int} (h:gB.Z zs xs i):zs.length=xs.length:=by rw[← h.eq,agZ]
theorem gB.acP {y:List (List Int)} (h:y= []):gB.Z [] y 0:=⟨h.symm,Int.le_refl _,fun _ h=>(List.not_mem_nil h).elim, .nil⟩
theorem gB.JW {zs:List (List Int×Nat)} {xs:List (List Int)} {i:Int} (h:gB.Z zs xs i) (j:Int) (n:Nat) (hj:j=i) (hn:j<(n:Int)) (hm:n≤9223372036854775807):
    gB.Z zs xs (wrap64 (j+1))∧∀{r:List Int} {y:List (List Int)},y=xs++[r]→gB.Z (zs++[(r,j.toNat)]) y (wrap64 (j+1)):=by
  subst hj;have hp:=h.pos;rw[show wrap64 (j+1)=j+1 by unfold wrap64;omega];refine⟨⟨h.eq,by omega,fun p hq=>by have:=h.lt p hq;omega,h.pw⟩,fun {r y} hy=>⟨?_,by omega,fun p hq=> ?_, ?_⟩⟩
  · rw[List.map_append,h.eq,hy];rfl
  · rcases List.mem_append.1 hq with hq|hq
    · have:=h.lt p hq;omega
    · rw[List.mem_singleton.1 hq]
      show((j.toNat:Nat):Int)<j+1
      omega
  · refine List.pairwise_append.2 ⟨h.pw,List.pairwise_singleton _ _,fun p hq q hr=> ?_⟩
    rw[List.mem_singleton.1 hr]
    show p.2<j.toNat
    have:=h.lt p hq
    omega
open Classical in
theorem gB.sel {α:Type} {d:Kd α} {f:Nat→Nat} {e:Nat} {w:World} {base:Nat} {ok:Nat→Prop} {v:Value} {zs:List (α×Nat)} (h:(Kd.tag f d).R e w base ok v zs) (hp:zs.Pairwise (fun p q=>p.2<q.2)):Kd.S d e w base ok v (zs.map Prod.fst):=by
  obtain⟨h0,inner,ho,hr⟩:=h;have hinj: ∀(i j:Nat) (p q:α×Nat),zs[i]? =some p→zs[j]? =some q→p.2=q.2→i=j:=by
    intro i j p q hi hj hpq;rw[List.pairwise_iff_getElem]at hp;obtain⟨hi1,hi2⟩:=aji.1 hi;obtain⟨zA,hj2⟩:=aji.1 hj;subst hi2 hj2;rcases Nat.lt_trichotomy i j with hl|hl|hl
    · have:=hp i j hi1 zA hl;omega
    · exact hl
    · have:=hp j i zA hi1 hl;omega
  refine⟨fun b=>if hx: ∃(j:Nat) (p:α×Nat),zs[j]? =some p∧p.2=f b then Classical.choose hx else 0,h0,inner,by rw[List.length_zipIdx,agZ];exact ho,by rw[List.length_zipIdx,agZ];exact hr.1,fun j p hj=> ?_⟩;rw[List.getElem?_zipIdx,Nat.zero_add]at hj;obtain⟨x,hx,rfl⟩:=ajg.1 hj;rw[List.getElem?_map]at hx;obtain⟨q,hq,rfl⟩:=ajg.1 hx;refine d.iC (fun b hb=>⟨hb.1, ?_⟩) (hr.2 j q hq);have h2:f b=q.2:=hb.2;have hex: ∃(j:Nat) (p:α×Nat),zs[j]? =some p∧p.2=f b:=⟨j,q,hq,h2.symm⟩
  show(if hx: ∃(j:Nat) (p:α×Nat),zs[j]? =some p∧p.2=f b then Classical.choose hx else 0)=j
  rw[dif_pos hex];obtain⟨p,JF,wX⟩:=Classical.choose_spec hex;exact hinj _ _ _ _ JF hq (wX.trans h2)
theorem gB.row {f:Nat→Nat} {w:World} {base n cap:Nat} {ok:Nat→Prop} {ad:Addr} {xs:List (List Int)} (h:(Kd.tag f (Kd.slice 2 (Kd.int .i64))).R 29 w base ok (.slice (some ad) n cap) xs.zipIdx) (i:Int) (h0:0≤i) (h1:i<(xs.length:Int)) {A:Option Addr} {m c:Nat} (hx:w.cell? (ad.add i.toNat)=some (.slice A m c)):
    (Kd.int .i64).R 2 w base (fun k=>(ok k∧some k≠(ai5 (some ad) n cap).ownBlock)∧f k=i.toNat) (.slice A m c) (aH xs i):=by
  have hn:=(Kd.fU ⟨f,h⟩).1;obtain⟨cs,_,hM,hc⟩:=Kd.Pv h ([],0) i h0 (by rw[hn];exact h1);have hil:i.toNat<xs.length:=by omega
  have he:xs.zipIdx.getD i.toNat ([],0)=(aH xs i,i.toNat):=by
    rw[aho,List.getElem?_zipIdx,Nat.zero_add,ahT hil]
    show(xs[i.toNat],i.toNat)=(xs.getD i.toNat [],i.toNat)
    rw[aho,ahT hil];rfl
  rw[he]at hM;obtain⟨v,rfl,hR⟩:=hM;have hv:=hc 0 v rfl;rw[aiQ,show((Kd.tag f (Kd.slice 2 (Kd.int .i64)))).sz=1 from rfl,aiR]at hv;have U7:=aiq (hv.symm.trans hx);subst U7;exact hR
theorem gB.calls (k:Nat) (ah:Int) (aE:Option Addr) (aD:Nat) (ag:List (List Int)) (a1:Int) (r1:List (List Int)) (r2:Int) (w:World) (cC:Kd.C (Kd.slice 2 (Kd.int .i64)) w aE ag.length ag) (cD:ag.length≤aD) (h:gB.f k ah ag a1=some (r1,r2)):
    Calls aiu 18 #[.agg #[.int .i64 ah, .slice aE ag.length aD], .int .i64 a1] w fun e w'=>∃dR:Value,e= .returned (.tuple #[dR, .int .i64 r2])∧Kd.S (Kd.slice 2 (Kd.int .i64)) 29 w' w.heap.size (fun _=>True) dR r1∧Below w.heap.size w w':=by
  have Vt:=aiy;have bL:=m_ cC;have bU:=m_ cD;clear cC cD;have HB:=m_ (ait w.heap.size w);have H:=h;unfold gB.f at H;clear h;obtain⟨⟨ia,Vm⟩,A3,H⟩:=bE H;dsimp only at H
  by_cases c4:Vm=0
  · rw[ak c4]at H
    obtain⟨dL,ij⟩:=dJ c4;clear c4;obtain⟨Vl,Vn,H⟩: ∃Vl:List (List Int),au (Vl=(([]:List (List Int))))∧(gB.l0 k ia Vl (ia.length:Int) 0 ah ag)=some (r1,r2):=⟨_,⟨rfl⟩,H⟩;have H':=m_ H;clear H;go_enter Try.func18,Try.ntmps18;go_wp2_with (first|((with_reducible refine bO (N:=2) rfl ?_);refine cF (N:=2) (cs:= #[.int .i64 ah, .slice aE ag.length aD]) (t:=26) ?_;intro lf hg w5 aN hb;have eS:=m_ (aN);have Pn:=m_ ((by rw[hg];exact(aM aU):w.heap.size≤lf));have Po:=m_ ((by rw[hg];exact(aM aU):w.heap.size≤lf));replace HB:=m_ (aI aU hb);clear hb aN hg;have Ft:=aY eS.1;have Fu:=aZ eS.1;have Fv:=aA eS.1 0;have Fw:=aA eS.1 1)|((with_reducible refine bp (f:=22) rfl ?_);refine bA (some 14) aja #[.agg #[.int .i64 ah, .slice aE ag.length aD], .int .i64 a1] ?_;(with_reducible refine(oX.calls k ah _ _ ag a1 ia Vm _ ?av ?ax A3.1).mono ?_);(case av=>exact Kd.aC (Kd.aC bL.1 HB.1) af);(case ax=>exact bU.1);rintro e w7 ⟨Vj,rfl,aW,hb⟩;refine⟨_,rfl, ?_⟩;obtain⟨f,aW⟩:=aW;have Vi:=m_ (Kd.eu (Kd.cL (ok':=fun k_=>(w.heap.size≤k_)∧k_≠lf) (Kd.pg aW) (fun k_ bW=>⟨(ahO (aM ai) bW.2.1),(Kd.fu (g:=lf) (o:= .cells #[.int .i64 ah, .slice aE ag.length aD] 26 (0,0)) (az eS.1 af) k_ bW.2.1)⟩)) (aM ai));replace eS:=m_ (aQ eS.1 hb);replace HB:=m_ (aI ai hb);clear hb;(try clear aW))|((with_reducible refine bO (N:=20) rfl ?_);refine Kd.jK (Kd.tag f (Kd.slice 2 (Kd.int .i64))) _ 29 ?hg (N:=20) ?hd (xs:=([]:List (List Int×Nat))) (inner:=[]) (ok:=(fun k_=>(w.heap.size≤k_)∧some k_≠(Vj:Value).ownBlock∧k_≠lf)) (cN:=(fun k_=>(w.heap.size≤k_)∧some k_≠(Vj:Value).ownBlock∧k_≠lf)) ?hr ?hp (fun _ hk=>hk) ((show ∀k_,w7.heap.size≤k_→(fun k_=>(w.heap.size≤k_)∧some k_≠(Vj:Value).ownBlock∧k_≠lf) k_ from fun k_ hk=>⟨(ahO (aM ai) hk),Kd.fresh' (Kd.gq (Kd.bq Vi.1 af)) k_ hk,Kd.fu (g:=lf) (o:= .cells #[.int .i64 ah, .slice aE ag.length aD] 26 (0,0)) (az eS.1 af) k_ hk⟩) _ (agO _)) (ait _ _) (agO _) bQ ?_;(case hd=>rfl);(case hg=>rfl);(case hr=>first|(go_simp;done)|(go_simp;rfl));(case hp=>exact(bP.none _ _));intro Vv w8 wC hb cW dH;clear cW dH;replace Vi:=m_ (Kd.ko (Kd.bq Vi.1 af) (Kd.dW wC) hb);have Vq:=m_ (Kd.eu wC (aM ai));replace eS:=m_ (aQ eS.1 hb);replace HB:=m_ (aI ai hb);clear hb wC;obtain⟨qF,o5,um⟩:=Kd.eW ⟨f,Vi.1⟩;subst um));go_loopg [8,23] k (fun kq v8 JD w'=>∃(zs:List (List Int×Nat)) (cl:List (List Int)) (U7:Int),JD= .int .i64 U7∧au (gB.Z zs cl U7)∧au (gB.l0 kq ia cl (ia.length:Int) U7 ah ag=some (r1,r2))∧au (kq≤k)∧au ((Kd.tag f (Kd.slice 2 (Kd.int .i64))).R 29 w' w.heap.size (fun k_=>(w.heap.size≤k_)∧some k_≠(v8:Value).ownBlock∧k_≠lf) (.slice qF ia.length o5) ia.zipIdx)∧au ((Kd.tag f (Kd.slice 2 (Kd.int .i64))).R 29 w' w.heap.size (fun k_=>(w.heap.size≤k_)∧some k_≠((.slice qF ia.length o5):Value).ownBlock∧k_≠lf) v8 zs)∧au (w'.heap[lf]? =some (.cells #[.int .i64 ah,(.slice aE ag.length aD)] 26 (0,0)))∧au (Below w.heap.size w w'))
    case atStart=>exact⟨[],Vl,(0),bh,⟨gB.acP Vn.1⟩,H',⟨agO _⟩,⟨by(with_reducible repeat (first|apply Kd.gr|apply Kd.gu|apply Kd.fM));exact Kd.cL Vi.1 (fun _ hk=>⟨hk.1.1,⟨hk.2,hk.1.2⟩⟩)⟩,⟨Kd.bq Vq.1 af⟩,⟨az eS.1 af⟩,⟨ai⟩⟩
    case round=>
      clear H';obtain⟨zs,cl,U7,rfl,HZ,HA,bF,dn,fC,eS,HB⟩:=hrel;cases gk with
      | zero=>exact absurd HA.1 (by simp[gB.l0])
      | succ k1=>
        have H:=HA.1;clear HA;simp only[gB.l0]at H
        by_cases c11:U7<(ia.length:Int)
        · rw[ak c11]at H
          have ku:=aV c11;clear c11;obtain⟨c12,H⟩:=bJ H;have rU:=aV c12;clear c12;obtain⟨c13,H⟩:=bJ H;have q4:=aV c13;clear c13;obtain⟨JU,vP,H⟩:=bE H
          by_cases c15:JU=true
          · subst c15
            rw[ak rfl]at H;obtain⟨oI,oE,H⟩:=bE H;obtain⟨JV,yc,H⟩:=bE H
            by_cases c18:JV=true
            · subst c18
              rw[ak rfl]at H;obtain⟨c19,H⟩:=bJ H;have Vo:=m_ c19;clear c19;obtain⟨Vk,Vp,H⟩: ∃Vk:List (List Int),au (Vk=(cl++[aH ia U7]))∧(gB.l0 k1 ia Vk (ia.length:Int) (wrap64 (U7+1)) ah ag)=some (r1,r2):=⟨_,⟨rfl⟩,H⟩;have H':=m_ H;clear H;have jY:0≤(U7:Int):=aT;have jz:U7<(ia.length:Int):=aT;obtain⟨yN,Vg,Vf,sn,wz,Vd,Ve⟩:=fK (Kd.fU ⟨f,dn.1⟩).2.2 U7 jY jz;cases sn;have U9:=m_ (gB.row dn.1 U7 jY jz wz);have Vc:=(Kd.fU ⟨f,dn.1⟩).2.2.2.1;have Vh:=gB.JW HZ.1 (U7) (ia.length) rfl jz Vc;clear Vc;have U8:=m_ Ve;have Vb:=m_ Vd;clear Ve Vd;replace jY:=aJ jY;replace jz:=aJ jz;have JL:=aY eS.1;have JM:=aZ eS.1;have JN:=aA eS.1 0;have JO:=aA eS.1 1;go_wp2_with (first|((with_reducible refine bp (f:=115) rfl ?_);refine bA (some 29) ajf #[.agg #[.int .i64 ah, .slice aE ag.length aD], .slice Vg (aH ia U7).length Vf] ?_;(with_reducible refine(mC.calls k1 ah _ _ ag _ _ (aH ia U7) true _ ?av ?ax ?cK ?cY vP.1).mono ?_);(case av=>exact Kd.aC (Kd.aC bL.1 HB.1) af);(case ax=>exact bU.1);(case cK=>repeat (first|exact(by repeat (first|(with_reducible exact U8.1)|(with_reducible refine Kd.eN ?_ _)|(with_reducible refine Kd.eO ?_ _)|(with_reducible refine Kd.eP ?_)|exact U8.1))|(with_reducible refine Kd.eN ?_ _)|(with_reducible refine Kd.eO ?_ _)|(with_reducible refine Kd.eP ?_)));(case cY=>exact Vb.1);rintro e vw ⟨rfl,hb⟩;refine⟨_,rfl, ?_⟩;replace dn:=m_ (Kd.bq (Kd.bq dn.1 af) hb);replace fC:=m_ (Kd.bq (Kd.bq fC.1 af) hb);replace U9:=m_ (Kd.bq (Kd.bq U9.1 af) hb);replace eS:=m_ (aQ eS.1 hb);replace U8:=m_ (Kd.aC (by repeat (first|(with_reducible exact U8.1)|(with_reducible refine Kd.eN ?_ _)|(with_reducible refine Kd.eO ?_ _)|(with_reducible refine Kd.eP ?_)|exact U8.1)) hb);replace HB:=m_ (aI ai hb);clear hb)|(go_at_call 117;(with_reducible refine(nk.calls k1 _ _ (aH ia U7) oI _ ?av ?ax oE.1).mono ?_);(case av=>repeat (first|exact(by repeat (first|(with_reducible exact U8.1)|(with_reducible refine Kd.eN ?_ _)|(with_reducible refine Kd.eO ?_ _)|(with_reducible refine Kd.eP ?_)|exact U8.1))|(with_reducible refine Kd.eN ?_ _)|(with_reducible refine Kd.eO ?_ _)|(with_reducible refine Kd.eP ?_)));(case ax=>exact Vb.1);rintro e nP ⟨Vr,rfl,aW,hb⟩;replace dn:=m_ (Kd.ko (Kd.bq dn.1 af) (Kd.dW aW) hb);replace fC:=m_ (Kd.ko (Kd.bq fC.1 af) (Kd.dW aW) hb);replace U9:=m_ (Kd.ko (Kd.bq U9.1 af) (Kd.dW aW) hb);have Va:=m_ (Kd.eu (Kd.qy (M:=fun k_=>(w.heap.size≤k_)) aW (aM ai) (fun k_ h_=>h_)) (aM ai));replace eS:=m_ (aQ eS.1 hb);replace U8:=m_ (Kd.aC (by repeat (first|(with_reducible exact U8.1)|(with_reducible refine Kd.eN ?_ _)|(with_reducible refine Kd.eO ?_ _)|(with_reducible refine Kd.eP ?_)|exact U8.1)) hb);replace HB:=m_ (aI ai hb);clear hb;(try clear aW);obtain⟨Ap,Au,JX⟩:=Kd.eF Va.1;subst JX)|(go_at_call 116;(with_reducible refine(lT.calls k1 _ _ (aH ia U7) _ _ oI true _ ?av ?ax ?cK ?cY yc.1).mono ?_);(case av=>repeat (first|exact(by repeat (first|(with_reducible exact U8.1)|(with_reducible refine Kd.eN ?_ _)|(with_reducible refine Kd.eO ?_ _)|(with_reducible refine Kd.eP ?_)|exact U8.1))|(with_reducible refine Kd.eN ?_ _)|(with_reducible refine Kd.eO ?_ _)|(with_reducible refine Kd.eP ?_)));(case ax=>exact Vb.1);(case cK=>exact Kd.aC (Kd.dh Va.1).2.2 af);(case cY=>exact(Kd.dh Va.1).2.1);rintro e w' ⟨rfl,⟨nd,rfl⟩⟩)|((with_reducible refine jk (b:= .append) (xs:= #[.tmp 36, .tmp 38]) rfl ?_);at_builtin;refine Kd.qn (Kd.tag f (Kd.slice 2 (Kd.int .i64))) (w0:=w) w.heap.size rfl (.tmp 36) (.tmp 38) 24 29 (.slice none 0 0) 24 rfl Try.underlying24 nF rfl Nat.one_pos aa u8 zs (aH ia U7,U7.toNat) [.slice Vg (aH ia U7).length Vf] (fun k_=>(w.heap.size≤k_)∧some k_≠(.slice (some yN) ia.length o5:Value).ownBlock∧some k_≠(.slice Ap oI.length Au:Value).ownBlock∧k_≠lf) (fun k_=>((fun k_=>(w.heap.size≤k_)∧some k_≠(.slice (some yN) ia.length o5:Value).ownBlock∧some k_≠(.slice Ap oI.length Au:Value).ownBlock∧k_≠lf)) k_∧some k_≠(u8:Value).ownBlock) rfl rfl ?aP (fun _ hk=>hk) ?aF ?aO ?aB ?aS ?aL ?_;(case aP=>exact⟨_,rfl,Kd.cL (Kd.bq U9.1 af) (fun k hk=>⟨⟨⟨hk.1.1.1.1,hk.1.1.2,hk.2,hk.1.1.1.2.2⟩,hk.1.1.1.2.1⟩,hk.1.2⟩)⟩);(case aB=>exact ai);(case aF=>exact(fun k_ hk=>⟨(ahO (aM ai) hk),Kd.fresh' (Kd.gq (Kd.bq dn.1 af)) k_ hk,Kd.fresh' (Kd.gq (Kd.bq Va.1 af)) k_ hk,Kd.fu (g:=lf) (o:= .cells #[.int .i64 ah, .slice aE ag.length aD] 26 (0,0)) (az eS.1 af) k_ hk⟩));(case aO=>exact(Kd.bq (Kd.cL fC.1 (fun _ hk=>⟨hk.1.1,⟨hk.1.2.1,⟨hk.2,hk.1.2.2⟩⟩⟩)) af));(case aS=>exact(aM ai));(case aL=>have:=Vo.1;have Vu:=HZ.1.len;omega);intro Pq zM ho hb hg hat;replace dn:=m_ (Kd.HC (ok:=(fun k_=>(w.heap.size≤k_)∧some k_≠(.slice Ap oI.length Au:Value).ownBlock∧k_≠lf)) (Kd.bq (Kd.cL dn.1 (fun _ hk=>⟨⟨hk.1.1,⟨hk.2,hk.1.2.2⟩⟩,hk.1.2.1⟩)) af) hg hat);replace eS:=m_ (fV (az eS.1 af) hg (Kd.kX fC.1 eS.1 aG));replace Va:=m_ (Kd.Cd (Kd.bq Va.1 af) (Kd.Db (Kd.bq fC.1 af)) aG hg);replace HB:=m_ (hb);have sV:=m_ (ho);clear fC U9;clear ho hb hg hat));go_roundg k1
              case measure=>have:=bF.1;omega
              case rel=>exact⟨_,Vk,(wrap64 (U7+1)),bh,⟨Vh.2 Vp.1⟩,H',⟨by have:=bF.1;omega⟩,⟨by(with_reducible repeat (first|apply Kd.gr|apply Kd.gu|apply Kd.fM));exact Kd.cL dn.1 (fun _ hk=>⟨hk.1.1,⟨hk.2,hk.1.2.2⟩⟩)⟩,⟨by(with_reducible repeat (first|apply Kd.gr|apply Kd.gu|apply Kd.fM));exact Kd.cL sV.1 (fun _ hk=>⟨hk.1,⟨hk.2.1,hk.2.2.2⟩⟩)⟩,⟨az eS.1 af⟩,⟨ai⟩⟩
            · replace c18:=aix.mpr c18
              subst c18;rw[aj (show ¬(false=true) by decide)]at H;have H':=m_ H;clear H;have jY:0≤(U7:Int):=aT;have jz:U7<(ia.length:Int):=aT;obtain⟨yN,Vg,Vf,sn,wz,Vd,Ve⟩:=fK (Kd.fU ⟨f,dn.1⟩).2.2 U7 jY jz;cases sn;have U9:=m_ (gB.row dn.1 U7 jY jz wz);have Vc:=(Kd.fU ⟨f,dn.1⟩).2.2.2.1;have Vh:=gB.JW HZ.1 (U7) (ia.length) rfl jz Vc;clear Vc;have U8:=m_ Ve;have Vb:=m_ Vd;clear Ve Vd;replace jY:=aJ jY;replace jz:=aJ jz;have OW:=aY eS.1;have OX:=aZ eS.1;have OY:=aA eS.1 0;have OZ:=aA eS.1 1;go_wp2_with (first|((with_reducible refine bp (f:=115) rfl ?_);refine bA (some 29) ajf #[.agg #[.int .i64 ah, .slice aE ag.length aD], .slice Vg (aH ia U7).length Vf] ?_;(with_reducible refine(mC.calls k1 ah _ _ ag _ _ (aH ia U7) true _ ?av ?ax ?cK ?cY vP.1).mono ?_);(case av=>exact Kd.aC (Kd.aC bL.1 HB.1) af);(case ax=>exact bU.1);(case cK=>repeat (first|exact(by repeat (first|(with_reducible exact U8.1)|(with_reducible refine Kd.eN ?_ _)|(with_reducible refine Kd.eO ?_ _)|(with_reducible refine Kd.eP ?_)|exact U8.1))|(with_reducible refine Kd.eN ?_ _)|(with_reducible refine Kd.eO ?_ _)|(with_reducible refine Kd.eP ?_)));(case cY=>exact Vb.1);rintro e Fp ⟨rfl,hb⟩;refine⟨_,rfl, ?_⟩;replace dn:=m_ (Kd.bq (Kd.bq dn.1 af) hb);replace fC:=m_ (Kd.bq (Kd.bq fC.1 af) hb);replace U9:=m_ (Kd.bq (Kd.bq U9.1 af) hb);replace eS:=m_ (aQ eS.1 hb);replace U8:=m_ (Kd.aC (by repeat (first|(with_reducible exact U8.1)|(with_reducible refine Kd.eN ?_ _)|(with_reducible refine Kd.eO ?_ _)|(with_reducible refine Kd.eP ?_)|exact U8.1)) hb);replace HB:=m_ (aI ai hb);clear hb)|(go_at_call 117;(with_reducible refine(nk.calls k1 _ _ (aH ia U7) oI _ ?av ?ax oE.1).mono ?_);(case av=>repeat (first|exact(by repeat (first|(with_reducible exact U8.1)|(with_reducible refine Kd.eN ?_ _)|(with_reducible refine Kd.eO ?_ _)|(with_reducible refine Kd.eP ?_)|exact U8.1))|(with_reducible refine Kd.eN ?_ _)|(with_reducible refine Kd.eO ?_ _)|(with_reducible refine Kd.eP ?_)));(case ax=>exact Vb.1);rintro e zU ⟨Vr,rfl,aW,hb⟩;replace dn:=m_ (Kd.ko (Kd.bq dn.1 af) (Kd.dW aW) hb);replace fC:=m_ (Kd.ko (Kd.bq fC.1 af) (Kd.dW aW) hb);replace U9:=m_ (Kd.ko (Kd.bq U9.1 af) (Kd.dW aW) hb);have Va:=m_ (Kd.eu (Kd.qy (M:=fun k_=>(w.heap.size≤k_)) aW (aM ai) (fun k_ h_=>h_)) (aM ai));replace eS:=m_ (aQ eS.1 hb);replace U8:=m_ (Kd.aC (by repeat (first|(with_reducible exact U8.1)|(with_reducible refine Kd.eN ?_ _)|(with_reducible refine Kd.eO ?_ _)|(with_reducible refine Kd.eP ?_)|exact U8.1)) hb);replace HB:=m_ (aI ai hb);clear hb;(try clear aW);obtain⟨Fe,CR,vS⟩:=Kd.eF Va.1;subst vS)|(go_at_call 116;(with_reducible refine(lT.calls k1 _ _ (aH ia U7) _ _ oI false _ ?av ?ax ?cK ?cY yc.1).mono ?_);(case av=>repeat (first|exact(by repeat (first|(with_reducible exact U8.1)|(with_reducible refine Kd.eN ?_ _)|(with_reducible refine Kd.eO ?_ _)|(with_reducible refine Kd.eP ?_)|exact U8.1))|(with_reducible refine Kd.eN ?_ _)|(with_reducible refine Kd.eO ?_ _)|(with_reducible refine Kd.eP ?_)));(case ax=>exact Vb.1);(case cK=>exact Kd.aC (Kd.dh Va.1).2.2 af);(case cY=>exact(Kd.dh Va.1).2.1);rintro e w' ⟨rfl,⟨nd,rfl⟩⟩));go_roundg k1
              case measure=>have:=bF.1;omega
              case rel=>exact⟨zs,cl,(wrap64 (U7+1)),bh,⟨Vh.1⟩,H',⟨by have:=bF.1;omega⟩,⟨by(with_reducible repeat (first|apply Kd.gr|apply Kd.gu|apply Kd.fM));exact Kd.cL dn.1 (fun _ hk=>⟨hk.1.1,⟨hk.1.2.1,hk.1.2.2⟩⟩)⟩,⟨by(with_reducible repeat (first|apply Kd.gr|apply Kd.gu|apply Kd.fM));exact Kd.cL fC.1 (fun _ hk=>⟨hk.1.1,⟨hk.1.2.1,hk.1.2.2⟩⟩)⟩,⟨az eS.1 af⟩,⟨ai⟩⟩
          · replace c15:=aix.mpr c15
            subst c15;rw[aj (show ¬(false=true) by decide)]at H;have H':=m_ H;clear H;have jY:0≤(U7:Int):=aT;have jz:U7<(ia.length:Int):=aT;obtain⟨yN,Vg,Vf,sn,wz,Vd,Ve⟩:=fK (Kd.fU ⟨f,dn.1⟩).2.2 U7 jY jz;cases sn;have U9:=m_ (gB.row dn.1 U7 jY jz wz);have Vc:=(Kd.fU ⟨f,dn.1⟩).2.2.2.1;have Vh:=gB.JW HZ.1 (U7) (ia.length) rfl jz Vc;clear Vc;have U8:=m_ Ve;have Vb:=m_ Vd;clear Ve Vd;replace jY:=aJ jY;replace jz:=aJ jz;have Px:=aY eS.1;have Py:=aZ eS.1;have Pz:=aA eS.1 0;have PA:=aA eS.1 1;go_wp2_with (first|((with_reducible refine bp (f:=115) rfl ?_);refine bA (some 29) ajf #[.agg #[.int .i64 ah, .slice aE ag.length aD], .slice Vg (aH ia U7).length Vf] ?_;(with_reducible refine(mC.calls k1 ah _ _ ag _ _ (aH ia U7) false _ ?av ?ax ?cK ?cY vP.1).mono ?_);(case av=>exact Kd.aC (Kd.aC bL.1 HB.1) af);(case ax=>exact bU.1);(case cK=>repeat (first|exact(by repeat (first|(with_reducible exact U8.1)|(with_reducible refine Kd.eN ?_ _)|(with_reducible refine Kd.eO ?_ _)|(with_reducible refine Kd.eP ?_)|exact U8.1))|(with_reducible refine Kd.eN ?_ _)|(with_reducible refine Kd.eO ?_ _)|(with_reducible refine Kd.eP ?_)));(case cY=>exact Vb.1);rintro e ER ⟨rfl,hb⟩;refine⟨_,rfl, ?_⟩;replace dn:=m_ (Kd.bq (Kd.bq dn.1 af) hb);replace fC:=m_ (Kd.bq (Kd.bq fC.1 af) hb);replace U9:=m_ (Kd.bq (Kd.bq U9.1 af) hb);replace eS:=m_ (aQ eS.1 hb);replace U8:=m_ (Kd.aC (by repeat (first|(with_reducible exact U8.1)|(with_reducible refine Kd.eN ?_ _)|(with_reducible refine Kd.eO ?_ _)|(with_reducible refine Kd.eP ?_)|exact U8.1)) hb);replace HB:=m_ (aI ai hb);clear hb));go_roundg k1
            case measure=>have:=bF.1;omega
            case rel=>exact⟨zs,cl,(wrap64 (U7+1)),bh,⟨Vh.1⟩,H',⟨by have:=bF.1;omega⟩,⟨Kd.bq dn.1 af⟩,⟨Kd.bq fC.1 af⟩,⟨az eS.1 af⟩,⟨ai⟩⟩
        · rw[aj c11]at H
          have ku:=cj c11;clear c11;simp only[aiv,aiw]at H;obtain⟨rfl,rfl⟩:=H;go_wp2
          go_ret2
          exact⟨_,cG,HZ.1.eq▸Kd.dM (gB.sel fC.1 HZ.1.pw) (fun _ _=>trivial),ai⟩
  · rw[aj c4]at H
    obtain⟨dL,ij⟩:=dK c4;simp only[aiv,aiw]at H;obtain⟨rfl,rfl⟩:=H;go_enter Try.func18,Try.ntmps18;go_wp2_with (first|((with_reducible refine bO (N:=2) rfl ?_);refine cF (N:=2) (cs:= #[.int .i64 ah, .slice aE ag.length aD]) (t:=26) ?_;intro lf hg Ij aN hb;have eS:=m_ (aN);have Pn:=m_ ((by rw[hg];exact(aM aU):w.heap.size≤lf));have Po:=m_ ((by rw[hg];exact(aM aU):w.heap.size≤lf));replace HB:=m_ (aI aU hb);clear hb aN hg;have Vx:=aY eS.1;have Vy:=aZ eS.1;have Vs:=aA eS.1 0;have Vw:=aA eS.1 1)|((with_reducible refine bp (f:=22) rfl ?_);refine bA (some 14) aja #[.agg #[.int .i64 ah, .slice aE ag.length aD], .int .i64 a1] ?_;(with_reducible refine(oX.calls k ah _ _ ag a1 ia Vm _ ?av ?ax A3.1).mono ?_);(case av=>exact Kd.aC (Kd.aC bL.1 HB.1) af);(case ax=>exact bU.1);rintro e wD ⟨Vj,rfl,aW,hb⟩;refine⟨_,rfl, ?_⟩;replace eS:=m_ (aQ eS.1 hb);replace HB:=m_ (aI ai hb);clear hb;(try clear aW)))
    go_ret2
    exact⟨_,cG,by exact Kd.pJ _ _ _ _ _,ai⟩

def kU.f (k:Nat) (ah:Int) (ag:List (List Int)) (a1:Int) (a2:Int):Option (Int):=(fR.f k ah ag).bind fun JY=>(if JY=true then ((m8.f a1 a2 12).bind fun JZ=>(if JZ=true then (some 0) else (some 2))) else (some 1))
theorem kU.calls (k:Nat) (ah:Int) (aE:Option Addr) (aD:Nat) (ag:List (List Int)) (a1:Int) (a2:Int) (r:Int) (w:World) (cC:Kd.C (Kd.slice 2 (Kd.int .i64)) w aE ag.length ag) (cD:ag.length≤aD) (h:kU.f k ah ag a1 a2=some r):
    Calls aiu 118 #[.agg #[.int .i64 ah, .slice aE ag.length aD], .int .i64 a1, .int .i64 a2] w fun e w'=>e= .returned (.int .i64 r)∧Below w.heap.size w w':=by
  have fq:=aiy;have bL:=m_ cC;have bU:=m_ cD;clear cC cD;have HB:=m_ (ait w.heap.size w);have H:=h;unfold kU.f at H;clear h;obtain⟨JY,A4,H⟩:=bE H
  by_cases c5:JY=true
  · subst c5
    rw[ak rfl]at H;obtain⟨JZ,A6,H⟩:=bE H
    by_cases c7:JZ=true
    · subst c7
      rw[ak rfl]at H;obtain rfl:=aiq H;go_enter Try.func118,Try.ntmps118;go_wp2_with (first|((with_reducible refine bO (N:=3) rfl ?_);refine cF (N:=3) (cs:= #[.int .i64 ah, .slice aE ag.length aD]) (t:=26) ?_;intro U8 hg w8 aN hb;have U7:=m_ (aN);have U9:=m_ ((by rw[hg];exact(aM aU):w.heap.size≤U8));have Va:=m_ ((by rw[hg];exact(aM aU):w.heap.size≤U8));replace HB:=m_ (aI aU hb);clear hb aN hg;have lE:=aY U7.1;have lF:=aZ U7.1;have lV:=aA U7.1 0;have lG:=aA U7.1 1)|((with_reducible refine bp (f:=137) rfl ?_);refine bA (some 9) Try.func137 #[.agg #[.int .i64 ah, .slice aE ag.length aD]] ?_;(with_reducible refine(fR.calls k ah _ _ ag true _ ?av ?ax A4.1).mono ?_);(case av=>exact Kd.aC (Kd.aC bL.1 HB.1) af);(case ax=>exact bU.1);rintro e jc ⟨rfl,hb⟩;refine⟨_,rfl, ?_⟩;replace U7:=m_ (aQ U7.1 hb);replace HB:=m_ (aI ai hb);clear hb)|((with_reducible refine bp (f:=150) rfl ?_);refine bA (some 14) Try.func150 #[.int .i64 a1, .int .i64 a2, .int .i64 12] ?_;(with_reducible refine(m8.calls a1 a2 12 true _ A6.1).mono ?_);rintro e w' ⟨rfl,⟨nd,rfl⟩⟩;refine⟨_,rfl, ?_⟩));go_ret;exact⟨cG,ai⟩
    · replace c7:=aix.mpr c7
      subst c7;rw[aj (show ¬(false=true) by decide)]at H;obtain rfl:=aiq H;go_enter Try.func118,Try.ntmps118;go_wp2_with (first|((with_reducible refine bO (N:=3) rfl ?_);refine cF (N:=3) (cs:= #[.int .i64 ah, .slice aE ag.length aD]) (t:=26) ?_;intro U8 hg lW aN hb;have U7:=m_ (aN);have U9:=m_ ((by rw[hg];exact(aM aU):w.heap.size≤U8));have Va:=m_ ((by rw[hg];exact(aM aU):w.heap.size≤U8));replace HB:=m_ (aI aU hb);clear hb aN hg;have vF:=aY U7.1;have ym:=aZ U7.1;have vG:=aA U7.1 0;have yo:=aA U7.1 1)|((with_reducible refine bp (f:=137) rfl ?_);refine bA (some 9) Try.func137 #[.agg #[.int .i64 ah, .slice aE ag.length aD]] ?_;(with_reducible refine(fR.calls k ah _ _ ag true _ ?av ?ax A4.1).mono ?_);(case av=>exact Kd.aC (Kd.aC bL.1 HB.1) af);(case ax=>exact bU.1);rintro e nA ⟨rfl,hb⟩;refine⟨_,rfl, ?_⟩;replace U7:=m_ (aQ U7.1 hb);replace HB:=m_ (aI ai hb);clear hb)|((with_reducible refine bp (f:=150) rfl ?_);refine bA (some 14) Try.func150 #[.int .i64 a1, .int .i64 a2, .int .i64 12] ?_;(with_reducible refine(m8.calls a1 a2 12 false _ A6.1).mono ?_);rintro e w' ⟨rfl,⟨nd,rfl⟩⟩;refine⟨_,rfl, ?_⟩));go_ret;exact⟨cG,ai⟩
  · replace c5:=aix.mpr c5
    subst c5;rw[aj (show ¬(false=true) by decide)]at H;obtain rfl:=aiq H;go_enter Try.func118,Try.ntmps118;go_wp2_with (first|((with_reducible refine bO (N:=3) rfl ?_);refine cF (N:=3) (cs:= #[.int .i64 ah, .slice aE ag.length aD]) (t:=26) ?_;intro U8 hg qm aN hb;have U7:=m_ (aN);have U9:=m_ ((by rw[hg];exact(aM aU):w.heap.size≤U8));have Va:=m_ ((by rw[hg];exact(aM aU):w.heap.size≤U8));replace HB:=m_ (aI aU hb);clear hb aN hg;have xY:=aY U7.1;have zO:=aZ U7.1;have xZ:=aA U7.1 0;have zP:=aA U7.1 1)|((with_reducible refine bp (f:=137) rfl ?_);refine bA (some 9) Try.func137 #[.agg #[.int .i64 ah, .slice aE ag.length aD]] ?_;(with_reducible refine(fR.calls k ah _ _ ag false _ ?av ?ax A4.1).mono ?_);(case av=>exact Kd.aC (Kd.aC bL.1 HB.1) af);(case ax=>exact bU.1);rintro e oB ⟨rfl,hb⟩;refine⟨_,rfl, ?_⟩;replace U7:=m_ (aQ U7.1 hb);replace HB:=m_ (aI ai hb);clear hb));go_ret;exact⟨cG,ai⟩

end Go.Proofs.Ytkadhadceongiaa.G
