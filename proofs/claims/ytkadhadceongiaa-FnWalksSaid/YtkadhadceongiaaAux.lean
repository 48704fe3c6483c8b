/- Plain lemmas on numbers, lists and rounds, shared by the pure proofs of this seat. -/
import Derived.Test.YtkadhadceongiaaWWords
import Derived.Test.YtkadhadceongiaaWMore
namespace Go.Proofs.Ytkadhadceongiaa.Aux
open Go.RowKit Go.Proofs.YtkadhadceongiaaW.PrintWords Go.Proofs.YtkadhadceongiaaW.PrintMore

theorem bq {α:Type} {c:Prop} [Decidable c] {f g:Nat→Option α} {r:α} (h:c) (e:Ev f r):Ev (fun k=>if c then f k else g k) r:=by
  refine PL (fun k=> ?_) e;exact if_pos h

theorem cD {α:Type} {c:Prop} [Decidable c] {f g:Nat→Option α} {r:α} (h: ¬c) (e:Ev g r):Ev (fun k=>if c then f k else g k) r:=by
  refine PL (fun k=> ?_) e;exact if_neg h

theorem cS {α:Type} {c:Prop} [Decidable c] {f g:Nat→Option α} {r:α} (e:Ev f r) (h:c:=by first|omega|rfl|assumption|decide):Ev (fun k=>if c then f k else g k) r:=bq h e

theorem cT {α:Type} {c:Prop} [Decidable c] {f g:Nat→Option α} {r:α} (e:Ev g r) (h: ¬c:=by first|omega|assumption|exact Bool.false_ne_true|exact fun e=>absurd e (by decide)):Ev (fun k=>if c then f k else g k) r:=cD h e

theorem bZ {α:Type} {g:Nat→Option α} {r:α} (e:Ev (fun k=>g (k+1)) r):Ev g r:=acz (fun _=>rfl) e

theorem bQ {α:Type} {o:Option α} {r:α} (h:o=some r):Ev (fun _=>o) r:=⟨0,fun _ _=>h⟩

theorem LN {α:Type} {f:Nat→Option α} {r s:α} (e:Ev f r) (h:r=s):Ev f s:=h▸e

theorem adH {α β:Type} {g:Nat→Option α} {f:Nat→α→Option β} {r:β} {P:α→Prop} (h: ∃a,Ev g a∧P a) (k: ∀a,P a→Ev (fun n=>f n a) r):Ev (fun n=>(g n).bind (f n)) r:=by
  obtain⟨a,h,p⟩:=h;exact bw h (k a p)

theorem bU {x:Int} (h0: -9223372036854775808≤x) (h1:x≤9223372036854775807):wrap64 x=x:=by
  unfold wrap64
  omega

theorem wf64 {x:Int} (h:(Lit.int .i64 x).wf=true): -9223372036854775808≤x∧x≤9223372036854775807:=by
  simpa [Lit.wf,IntKind.min,IntKind.max,IntKind.signed,IntKind.bits] using h

theorem adI (xs:List Int) (i:Nat):rd xs (i:Int)=xs.getD i 0:=rfl

theorem gf {xs:List Int} {i:Nat} (h:i<xs.length):rd xs (i:Int)=xs[i]:=by
  simp[rd,List.getD_eq_getElem?_getD,h]

theorem BB {xs:List Int} {i:Nat} (h:i<xs.length):rd xs (i:Int)∈xs:=by
  rw[gf h];exact List.getElem_mem h

theorem adJ {xs:List Int} {i:Int} (h:i.toNat<xs.length):rd xs i=xs[i.toNat]:=by
  simp[rd,List.getD_eq_getElem?_getD,h]

theorem adK {xs:List Int} {i:Nat} (h:xs.length≤i):rd xs (i:Int)=0:=by
  simp[rd,List.getD_eq_getElem?_getD,h]

theorem EM {xs:List Int} {i j:Nat} {v:Int} (h:i<xs.length):rd (xs.set i v) (j:Int)=if j=i then v else rd xs (j:Int):=by
  by_cases e:j=i
  · subst e
    rw[if_pos rfl,gf (by simpa using h)];simp
  · rw[if_neg e]
    simp only[rd,List.getD_eq_getElem?_getD,Int.toNat_natCast];rw[List.getElem?_set_ne (fun x=>e x.symm)]

theorem xp {xs ys:List Int} (h:xs.length=ys.length) (e: ∀j:Nat,j<xs.length→rd xs (j:Int)=rd ys (j:Int)):xs=ys:=by
  apply List.ext_getElem h;intro i h1 h2;rw[← gf h1,← gf h2];exact e i h1

theorem Mo (n j:Nat):rd (List.replicate n 0) (j:Int)=0:=by
  simp only[rd,List.getD_eq_getElem?_getD,Int.toNat_natCast,List.getElem?_replicate]
  split<;>rfl

theorem RD (f:Nat→Int) {n j:Nat} (h:j<n):rd ((List.range n).map f) (j:Int)=f j:=by
  rw[gf (by simpa using h)];simp

theorem xG {α:Type} (f:Nat→α) (n:Nat):(List.range (n+1)).map f=(List.range n).map f++[f n]:=by
  simp[List.range_succ]

theorem ep {i:Nat} (h:i<9223372036854775807):wrap64 ((i:Int)+1)=((i+1:Nat):Int):=by
  rw[bU (by omega) (by omega)];rfl

theorem adL {α:Type} {xs ys:List α} {i:Nat} {v:α} (hy:ys.length=xs.length) (hi:i<xs.length) (hv:v=xs[i]) (ht:ys.take i=xs.take i):(ys.set i v).take (i+1)=xs.take (i+1):=by
  rw[List.take_succ_eq_append_getElem (by simp;omega),List.take_succ_eq_append_getElem (by omega),List.take_set_of_le (Nat.le_refl _),ht];simp[hv]

theorem adM {α:Type} {xs ys:List α} {i:Nat} (hy:ys.length=xs.length) (hi:i=xs.length) (ht:ys.take i=xs.take i):ys=xs:=by
  rw[← List.take_length (l:=ys),← List.take_length (l:=xs),hy,← hi];exact ht

theorem LX {α:Type} [DecidableEq α] (x:α) (a b:List α):decide (x :: a=x :: b)=decide (a=b):=by
  by_cases h:a=b
  · subst h;simp
  · simp[h]

def marks:Int→Nat→List Int
  | _,0=>[]
  | a,n+1=>a :: marks (a+1) n

theorem adN (a:Int) (n:Nat):(marks a n).length=n:=by
  induction n generalizing a with
  | zero=>rfl
  | succ n ih=>simp[marks,ih]

theorem adO (a:Int) (n:Nat):marks a (n+1)=marks a n++[a+n]:=by
  induction n generalizing a with
  | zero=>simp[marks]
  | succ n ih=>
    rw[marks,ih,marks,List.cons_append]
    congr 2
    simp;omega

theorem adP (a:Int) (n i:Nat) (h:i<(marks a n).length):(marks a n)[i]=a+i:=by
  induction n generalizing a i with
  | zero=>simp[marks]at h
  | succ n ih=>
    cases i with
    | zero=>simp[marks]
    | succ i=>
      simp only[marks,List.getElem_cons_succ];rw[ih];simp;omega

end Go.Proofs.Ytkadhadceongiaa.Aux
