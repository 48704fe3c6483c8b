-- printed by this repo's wip/printer out of the kit's print with its own changes
import Derived.Test.YtkadhadceongiaaProg
import Derived.Below
import Derived.Deep.Draws
import Derived.Deep.AppendLies
import Derived.Maps.AppendAt
import Derived.OwnWalk
import Derived.Laws.BytesArg
import Derived.Laws.MakeOwn
import Derived.Laws.OwnMore
import Derived.Deep.OwnRows
import Derived.Tactics
import Derived.Lib.ConvBytes
import Derived.Laws.Slices
import Derived.WalkKit
import Derived.KernelRfl
import Derived.RowKit3
import Derived.Deep.LoopGhost
import Derived.Deep.QuietTactic
import Derived.BigQuiet
import Derived.WideLaws
import Derived.Deep.DeepCutAuto
import Derived.Deep.CutBlock
import Derived.Deep.RegionHeld3
import Derived.Laws.Rows
import Derived.Lib.AppendStr
import Derived.ArgAppend
import Derived.Laws.IdiomCopy
import Derived.OrdersHeld
import Derived.Laws.BitsLemmas
import Derived.RowKit
import Derived.WalkSpells
import Derived.Test.YtkadhadceongiaaFns
import Derived.Test.YtkadhadceongiaaWWords
import Derived.Test.YtkadhadceongiaaWLast
import Derived.Test.YtkadhadceongiaaWTab
import Derived.Test.YtkadhadceongiaaWFour
import Derived.Test.YtkadhadceongiaaWQPut
import Derived.Test.YtkadhadceongiaaWApart
import Derived.Test.YtkadhadceongiaaWArr
import Derived.Test.YtkadhadceongiaaWZeros
import Derived.Test.YtkadhadceongiaaWFoot
import Derived.Test.YtkadhadceongiaaWKept
import Derived.Test.YtkadhadceongiaaWShare
import Derived.Test.YtkadhadceongiaaWN
import Derived.Test.YtkadhadceongiaaWFootNe
import Derived.Test.YtkadhadceongiaaWAt
import Derived.Test.YtkadhadceongiaaWEqStruct
import Derived.Test.YtkadhadceongiaaWRepsOne
import Derived.Test.YtkadhadceongiaaWInv
import Derived.Test.YtkadhadceongiaaWInvWords
import Derived.Test.YtkadhadceongiaaWGuard
import Derived.Test.YtkadhadceongiaaWNEv
import Derived.Test.YtkadhadceongiaaWMore
namespace Go.Proofs.Ytkadhadceongiaa.G
open Go.RowKit Go.Proofs.YtkadhadceongiaaW.PrintWords Go.Proofs.YtkadhadceongiaaW.PrintLast Go.Proofs.YtkadhadceongiaaW.PrintMore
attribute [local go_sem] vD vE vF vG vH vI vJ vK
set_option linter.unusedVariables false
set_option linter.unusedSimpArgs false

def Pq:Option Int→Value
  | none=> .nilIface
  | some c=> .iface 0 (.int .i64 c)
theorem js:Pq none= .nilIface:=rfl
theorem jt (c:Int):Pq (some c)= .iface 0 (.int .i64 c):=rfl

theorem kB:(Try.prog.info? 2).map (fun i=>(i.zero,i.size,i.bytes))=some (some (.int .i64 0),1,8):=by kernel_rfl
theorem Ol:(Try.prog.info? 4).map (fun i=>(i.zero,i.size,i.bytes))=some (some (.bool false),1,1):=by kernel_rfl
theorem adx:(Try.prog.info? 5).map (fun i=>(i.zero,i.size,i.bytes))=some (some (.int .u8 0),1,1):=by kernel_rfl
theorem Pa:(Try.prog.info? 9).map (fun i=>(i.zero,i.size,i.bytes))=some (some (.string ⟨#[]⟩),1,16):=by kernel_rfl
theorem mK:(Try.prog.info? 29).map (fun i=>(i.zero,i.size,i.bytes))=some (some (.slice none 0 0),1,24):=by kernel_rfl
theorem aah:(Try.prog.info? 80).map (fun i=>(i.zero,i.size,i.bytes))=some (some (.slice none 0 0),1,24):=by kernel_rfl

def aM (xs:List (List Int)) (i:Int):(List Int):=xs.getD i.toNat ([]:List Int)
theorem fH {w:World} {A:Option Addr} {n:Nat} {xs:List (List Int)} (h:Kd.C (Kd.slice 2 (Kd.int .i64)) w A n xs) (i:Int) (h0:0≤i) (h1:i<n): ∃ad A0 c0,A=some ad∧w.cell? (ad.add i.toNat)=some (.slice A0 (aM xs i).length c0)∧(aM xs i).length≤c0∧(Kd.int .i64).C w A0 (aM xs i).length (aM xs i):=by
  obtain⟨ad,c,e,_,hK,hc0⟩:=Kd.zl h ([]:List Int) i h0 h1;have hc: ∀j u,c[j]? =some u→w.cell? (ad.add (i.toNat*1+j))=some u:=hc0;obtain⟨A0,c0,rfl,l0,g0⟩:=hK;exact⟨ad,A0,c0,e,by have hq:=hc 0 _ rfl;rwa [Nat.mul_one,Nat.add_zero]at hq,l0,g0⟩

def F5 (xs:List (List (List Int))) (i:Int):(List (List Int)):=xs.getD i.toNat ([]:List (List Int))
theorem ady {w:World} {A:Option Addr} {n:Nat} {xs:List (List (List Int))} (h:Kd.C (Kd.slice 29 (Kd.slice 2 (Kd.int .i64))) w A n xs) (i:Int) (h0:0≤i) (h1:i<n): ∃ad A0 c0,A=some ad∧w.cell? (ad.add i.toNat)=some (.slice A0 (F5 xs i).length c0)∧(F5 xs i).length≤c0∧(Kd.slice 2 (Kd.int .i64)).C w A0 (F5 xs i).length (F5 xs i):=by
  obtain⟨ad,c,e,_,hK,hc0⟩:=Kd.zl h ([]:List (List Int)) i h0 h1;have hc: ∀j u,c[j]? =some u→w.cell? (ad.add (i.toNat*1+j))=some u:=hc0;obtain⟨A0,c0,rfl,l0,g0⟩:=hK;exact⟨ad,A0,c0,e,by have hq:=hc 0 _ rfl;rwa [Nat.mul_one,Nat.add_zero]at hq,l0,g0⟩

structure rD where
  f0:Int
  f1:(List (List Int))
def Pv:rD:=⟨(0:Int),([]:List (List Int))⟩
def k26:Kd rD:=Kd.iso (Kd.pair (Kd.int .i64) (Kd.slice 29 (Kd.slice 2 (Kd.int .i64)))) (fun x:rD=>(x.f0,x.f1))
theorem KN {w:World} {x:rD} {cs:List Value} (h:k26.K w x cs): ∃A1 c1,cs= [.int .i64 x.f0, .slice A1 x.f1.length c1]∧x.f1.length≤c1∧(Kd.slice 2 (Kd.int .i64)).C w A1 x.f1.length x.f1:=by
  obtain⟨_,_,rfl,rfl,⟨A1,c1,rfl,l1,g1⟩⟩:=h;exact⟨A1,c1,rfl,l1,g1⟩
theorem adz {w:World} {base:Nat} {ok:Nat→Prop} {x:rD} {cs:List Value} (h:k26.M w base ok x cs): ∃v1,cs= [.int .i64 x.f0,v1]∧(Kd.slice 2 (Kd.int .i64)).R 29 w base ok v1 x.f1:=by
  obtain⟨_,_,rfl,rfl,⟨v1,rfl,g1⟩⟩:=h;exact⟨v1,rfl,g1⟩
theorem abQ (w:World) (x:rD) {A1:Option Addr} {c1:Nat} (l1:x.f1.length≤c1) (g1:(Kd.slice 2 (Kd.int .i64)).C w A1 x.f1.length x.f1):k26.K w x [.int .i64 x.f0, .slice A1 x.f1.length c1]:=⟨[.int .i64 x.f0],[.slice A1 x.f1.length c1],rfl,rfl,⟨A1,c1,rfl,l1,g1⟩⟩
theorem adA (w:World) (base:Nat) (ok:Nat→Prop) (x:rD) {v1:Value} (g1:(Kd.slice 2 (Kd.int .i64)).R 29 w base ok v1 x.f1):k26.M w base ok x [.int .i64 x.f0,v1]:=⟨[.int .i64 x.f0],[v1],rfl,rfl,⟨v1,rfl,g1⟩⟩
theorem adB {W:World} {ok:Nat→Prop} {x:rD} {cs:List Value} (h:Kd.FK k26 W ok x cs): ∃A1 c1,cs= [.int .i64 x.f0, .slice A1 x.f1.length c1]∧x.f1.length≤c1∧Kd.F (Kd.slice 2 (Kd.int .i64)) W ok A1 x.f1.length x.f1:=by
  obtain⟨A1,c1,rfl,l1,_⟩:=KN (Kd.vl h);exact⟨A1,c1,rfl,l1,(fun W' hW=>by obtain⟨U7,KL,he,Va,U9⟩:=KN (h W' hW);injection (Option.some.inj (show some (Value.slice A1 x.f1.length c1)=some (Value.slice U7 x.f1.length KL) from congrArg (fun l=>l[1]?) he)) with U8 _ _;rw[U8];exact U9)⟩
theorem adC (W:World) (ok:Nat→Prop) (x:rD) {A1:Option Addr} {c1:Nat} (l1:x.f1.length≤c1) (g1:Kd.F (Kd.slice 2 (Kd.int .i64)) W ok A1 x.f1.length x.f1):Kd.FK k26 W ok x [.int .i64 x.f0, .slice A1 x.f1.length c1]:=fun W2 hW=>abQ W2 x l1 (g1 W2 hW)
def Ej (xs:List rD) (i:Int):rD:=xs.getD i.toNat Pv
theorem adD {w:World} {A:Option Addr} {n:Nat} {xs:List rD} (h:Kd.C k26 w A n xs) (i:Int) (h0:0≤i) (h1:i<n): ∃ad A1 c1,A=some ad∧w.cell? (ad.add (i.toNat*2))=some (.int .i64 (Ej xs i).f0)∧w.cell? ⟨(ad.add (i.toNat*2)).block,(ad.add (i.toNat*2)).off+1,none⟩=some (.slice A1 (Ej xs i).f1.length c1)∧(Ej xs i).f1.length≤c1∧(Kd.slice 2 (Kd.int .i64)).C w A1 (Ej xs i).f1.length (Ej xs i).f1:=by
  obtain⟨ad,c,e,_,hK,hc0⟩:=Kd.zl h Pv i h0 h1;have hc: ∀j u,c[j]? =some u→w.cell? (ad.add (i.toNat*2+j))=some u:=hc0;obtain⟨A1,c1,rfl,l1,g1⟩:=KN hK;exact⟨ad,A1,c1,e,hc 0 _ rfl,by rw[← abR _ _ 1 (by omega)];exact hc 1 _ rfl,l1,g1⟩

def iD (xs:List (List Bool)) (i:Int):(List Bool):=xs.getD i.toNat ([]:List Bool)
theorem Fy {w:World} {A:Option Addr} {n:Nat} {xs:List (List Bool)} (h:Kd.C (Kd.slice 4 Kd.bool) w A n xs) (i:Int) (h0:0≤i) (h1:i<n): ∃ad A0 c0,A=some ad∧w.cell? (ad.add i.toNat)=some (.slice A0 (iD xs i).length c0)∧(iD xs i).length≤c0∧Kd.bool.C w A0 (iD xs i).length (iD xs i):=by
  obtain⟨ad,c,e,_,hK,hc0⟩:=Kd.zl h ([]:List Bool) i h0 h1;have hc: ∀j u,c[j]? =some u→w.cell? (ad.add (i.toNat*1+j))=some u:=hc0;obtain⟨A0,c0,rfl,l0,g0⟩:=hK;exact⟨ad,A0,c0,e,by have hq:=hc 0 _ rfl;rwa [Nat.mul_one,Nat.add_zero]at hq,l0,g0⟩

end Go.Proofs.Ytkadhadceongiaa.G
