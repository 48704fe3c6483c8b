-- printed by this repo's wip/printer out of the kit's print with its own changes
import Derived.Test.YtkadhadceongiaaProg
import Derived.Below
import Derived.Deep.Draws
import Derived.Deep.AppendLies
import Derived.Maps.AppendAt
import Derived.OwnWalk
import Derived.Laws.BytesArg
import Derived.Laws.MakeOwn
import Derived.Laws.OwnMore
import Derived.Deep.OwnRows
import Derived.Tactics
import Derived.Lib.ConvBytes
import Derived.Laws.Slices
import Derived.WalkKit
import Derived.KernelRfl
import Derived.RowKit3
import Derived.Deep.LoopGhost
import Derived.Deep.QuietTactic
import Derived.BigQuiet
import Derived.WideLaws
import Derived.Deep.DeepCutAuto
import Derived.Deep.CutBlock
import Derived.Deep.RegionHeld3
import Derived.Laws.Rows
import Derived.Lib.AppendStr
import Derived.ArgAppend
import Derived.Laws.IdiomCopy
import Derived.OrdersHeld
import Derived.Laws.BitsLemmas
import Derived.RowKit
import Derived.WalkSpells
import Derived.Test.YtkadhadceongiaaFns
import Derived.Test.YtkadhadceongiaaWWords
import Derived.Test.YtkadhadceongiaaWLast
import Derived.Test.YtkadhadceongiaaWTab
import Derived.Test.YtkadhadceongiaaWFour
import Derived.Test.YtkadhadceongiaaWQPut
import Derived.Test.YtkadhadceongiaaWApart
import Derived.Test.YtkadhadceongiaaWArr
import Derived.Test.YtkadhadceongiaaWZeros
import Derived.Test.YtkadhadceongiaaWFoot
import Derived.Test.YtkadhadceongiaaWKept
import Derived.Test.YtkadhadceongiaaWShare
import Derived.Test.YtkadhadceongiaaWN
import Derived.Test.YtkadhadceongiaaWFootNe
import Derived.Test.YtkadhadceongiaaWAt
import Derived.Test.YtkadhadceongiaaWEqStruct
import Derived.Test.YtkadhadceongiaaWRepsOne
import Derived.Test.YtkadhadceongiaaWInv
import Derived.Test.YtkadhadceongiaaWInvWords
import Derived.Test.YtkadhadceongiaaWGuard
import Derived.Test.YtkadhadceongiaaWNEv
import Derived.Test.YtkadhadceongiaaWMore
namespace Go.Proofs.Ytkadhadceongiaa.G
open Go.RowKit Go.Proofs.YtkadhadceongiaaW.PrintWords Go.Proofs.YtkadhadceongiaaW.PrintLast Go.Proofs.YtkadhadceongiaaW.PrintMore
attribute [local go_sem] xO xP xQ xR xS xT xU xV
set_option linter.unusedVariables false
set_option linter.unusedSimpArgs false

def P2:Option Int→Value
  | none=> .nilIface
  | some c=> .iface 0 (.int .i64 c)
theorem iG:P2 none= .nilIface:=rfl
theorem iH (c:Int):P2 (some c)= .iface 0 (.int .i64 c):=rfl

theorem kr:(Try.prog.info? 2).map (fun i=>(i.zero,i.size,i.bytes))=some (some (.int .i64 0),1,8):=by kernel_rfl
theorem O4:(Try.prog.info? 4).map (fun i=>(i.zero,i.size,i.bytes))=some (some (.bool false),1,1):=by kernel_rfl
theorem P1:(Try.prog.info? 9).map (fun i=>(i.zero,i.size,i.bytes))=some (some (.string ⟨#[]⟩),1,16):=by kernel_rfl
theorem nF:(Try.prog.info? 29).map (fun i=>(i.zero,i.size,i.bytes))=some (some (.slice none 0 0),1,24):=by kernel_rfl
theorem acw:(Try.prog.info? 80).map (fun i=>(i.zero,i.size,i.bytes))=some (some (.slice none 0 0),1,24):=by kernel_rfl

def aH (xs:List (List Int)) (i:Int):(List Int):=xs.getD i.toNat ([]:List Int)
theorem fK {w:World} {A:Option Addr} {n:Nat} {xs:List (List Int)} (h:Kd.C (Kd.slice 2 (Kd.int .i64)) w A n xs) (i:Int) (h0:0≤i) (h1:i<n): ∃ad A0 c0,A=some ad∧w.cell? (ad.add i.toNat)=some (.slice A0 (aH xs i).length c0)∧(aH xs i).length≤c0∧(Kd.int .i64).C w A0 (aH xs i).length (aH xs i):=by
  obtain⟨ad,c,e,_,hK,hc0⟩:=Kd.wo h ([]:List Int) i h0 h1;have hc: ∀j u,c[j]? =some u→w.cell? (ad.add (i.toNat*1+j))=some u:=hc0;obtain⟨A0,c0,rfl,l0,g0⟩:=hK;exact⟨ad,A0,c0,e,by have hq:=hc 0 _ rfl;rwa [Nat.mul_one,Nat.add_zero]at hq,l0,g0⟩

def iV (xs:List (List Bool)) (i:Int):(List Bool):=xs.getD i.toNat ([]:List Bool)
theorem Fy {w:World} {A:Option Addr} {n:Nat} {xs:List (List Bool)} (h:Kd.C (Kd.slice 4 Kd.bool) w A n xs) (i:Int) (h0:0≤i) (h1:i<n): ∃ad A0 c0,A=some ad∧w.cell? (ad.add i.toNat)=some (.slice A0 (iV xs i).length c0)∧(iV xs i).length≤c0∧Kd.bool.C w A0 (iV xs i).length (iV xs i):=by
  obtain⟨ad,c,e,_,hK,hc0⟩:=Kd.wo h ([]:List Bool) i h0 h1;have hc: ∀j u,c[j]? =some u→w.cell? (ad.add (i.toNat*1+j))=some u:=hc0;obtain⟨A0,c0,rfl,l0,g0⟩:=hK;exact⟨ad,A0,c0,e,by have hq:=hc 0 _ rfl;rwa [Nat.mul_one,Nat.add_zero]at hq,l0,g0⟩

end Go.Proofs.Ytkadhadceongiaa.G
