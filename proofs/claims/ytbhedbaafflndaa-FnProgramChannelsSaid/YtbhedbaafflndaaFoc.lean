/- Contracts of functions of the given program. -/
import Derived.Test.YtbhedbaafflndaaHelp
namespace Sk
open Go Go.Proofs Go.RowKit
set_option maxHeartbeats 400000
set_option maxRecDepth 100000
set_option linter.unusedVariables false
set_option linter.unusedSimpArgs false
def Mo(F:List Nat)(w w':World):Prop :=
 w'.heap.size=w.heap.size/\Ext {w with heap:=#[]} {w' with heap:=#[]} /\ (∀ b,b ∉ F->w'.heap[b]? = w.heap[b]?)/\∀ b,Fz w b->Fz w' b
theorem Mo.refl(F:List Nat)(w:World):Mo F w w:=⟨rfl,zr _,fun _ _=>rfl,fun _ h=>h⟩
theorem Mo.set{F:List Nat}{a b:World}(h:Mo F a b){p:Addr}(hp:p.block∈F)(u:Value):Mo F a (b.setCell p u):=by
 refine⟨by rw[<- h.1];simp,?_,fun x hx=>?_,fun x hx=>(h.2.2.2 x hx).set p u⟩
 ·obtain⟨h1,h2,h3,h4,h5⟩:=h.2.1;exact⟨h1,h2,h3,h4,h5⟩
 ·rw[zAe (fun e=>hx (by rw[e];exact hp))];exact h.2.2.1 x hx
theorem Mo.own{F G:List Nat}{L:Nat}{a b:World}(h:Mo F a b)(ho:Own L a G):Own L b G:=⟨ho.1,fun x hx=>⟨(ho.2 x hx).1,h.2.2.2 x (ho.2 x hx).2⟩⟩
def Mx(F:List Nat)(w w':World):Prop :=
 Ext {w with heap:=#[]} {w' with heap:=#[]} /\ w.heap.size<=w'.heap.size/\(∀ b,b < w.heap.size->b ∉ F->w'.heap[b]? = w.heap[b]?)/\∀ b,Fz w b->Fz w' b
theorem Mx.ofMo{F:List Nat}{w w':World}(h:Mo F w w'):Mx F w w':=⟨h.2.1,Nat.le_of_eq h.1.symm,fun b _ hn=>h.2.2.1 b hn,h.2.2.2⟩
theorem Mx.bk{F:List Nat}{a b:World}{p:Nat}{cs:List Value}{T:TypeId}(h:Mx F a b)(k:Bk a p cs T)(hp:p ∉ F):Bk b p cs T:=by
 have:=h.2.2.1 p k.lt hp
 unfold Bk at *;rw[this];exact k
end Sk
