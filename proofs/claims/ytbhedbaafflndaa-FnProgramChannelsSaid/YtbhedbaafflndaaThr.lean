/- Contracts of functions of the given program. -/
import Derived.Test.YtbhedbaafflndaaBuild
namespace Sk
open Go Go.Proofs Go.RowKit
set_option linter.unusedVariables false
set_option linter.unusedSimpArgs false
def Mw(F:List Nat)(w w':World):Prop :=
 Ext {w with heap:=#[]} {w' with heap:=#[]} /\ w.heap.size<=w'.heap.size/\∀ b,b < w.heap.size->b ∉ F->w'.heap[b]? = w.heap[b]?
theorem Mw.ofExt{F:List Nat}{w w':World}(h:Ext w w'):Mw F w w' :=
 ⟨⟨h.os,h.tape,h.output,Nat.le_refl _,fun b hb=>by cases hb⟩,h.sz,fun b hb _=>h.block b hb⟩
theorem Mw.ofMx{F:List Nat}{w w':World}(h:Mx F w w'):Mw F w w':=⟨h.1,h.2.1,h.2.2.1⟩
theorem Mw.ofMo{F:List Nat}{w w':World}(h:Mo F w w'):Mw F w w':=.ofMx (.ofMo h)
theorem Mw.tr{F:List Nat}{a b c:World}(h:Mw F a b)(k:Mw F b c):Mw F a c :=
 ⟨h.1.tr k.1,Nat.le_trans h.2.1 k.2.1,fun x hx hn=>(k.2.2 x (zl hx h.2.1) hn).trans (h.2.2 x hx hn)⟩
theorem Mw.ext{F:List Nat}{W a b:World}(h:Mw F a b)(he:Ext W a)(hF:∀ x∈F,W.heap.size<=x):Ext W b:=by
 obtain⟨h1,h2,h3,h4,h5⟩:=he;obtain⟨k1,k2,k3,k4,k5⟩:=h.1;exact⟨k1.trans h1,k2.trans h2,k3.trans h3,Nat.le_trans h4 h.2.1,fun b hb=>(h.2.2 b (zl hb h4) (fun hm=>by have:=hF b hm;omega)).trans (h5 b hb)⟩
theorem Mw.bk{F:List Nat}{a b:World}{p:Nat}{cs:List Value}{T:TypeId}(h:Mw F a b)(k:Bk a p cs T)(hp:p ∉ F):Bk b p cs T:=by
 have:=h.2.2 p k.lt hp
 unfold Bk at *;rw[this];exact k
theorem Mw.own{L:Nat}{F G:List Nat}{a b:World}(h:Mw F a b)(ho:Own L a G)(hG:∀ x∈G,x ∉ F):Own L b G :=
 ⟨ho.1,fun x hx=>⟨(ho.2 x hx).1,by obtain⟨cs,T,hb⟩:=(ho.2 x hx).2;exact⟨cs,T,h.bk hb (hG x hx)⟩⟩⟩
theorem Mw.size{F:List Nat}{a b:World}(h:Mw F a b):a.heap.size<=b.heap.size:=h.2.1
theorem Mw.trF{F G:List Nat}{a b c:World}(h:Mw F a b)(k:Mw G b c)(hG:∀ x∈G,x∈F\/a.heap.size<=x):Mw F a c :=
 ⟨h.1.tr k.1,Nat.le_trans h.2.1 k.2.1,fun x hx hn=>(k.2.2 x (zl hx h.2.1) (fun hm=>(hG x hm).elim hn (fun h2=>by omega))).trans (h.2.2 x hx hn)⟩
theorem Mw.set{F:List Nat}{a b:World}(h:Mw F a b){p:Addr}(hp:p.block∈F\/a.heap.size<=p.block)(u:Value):Mw F a (b.setCell p u) :=
 h.trF (Mw.ofMo ((Mo.refl [p.block] b).set (by simp) u)) (fun x hx=>by rw[List.mem_singleton] at hx;rw[hx];exact hp)
theorem Mw.ofGrown{F:List Nat}{b c:World}{row:Option Nat}(hg:b.grownBy c row)(hr:∀ k,row=some k->k∈F):Mw F b c :=
 ⟨⟨hg.os,hg.tape,hg.output,Nat.le_refl _,fun b hb=>by cases hb⟩,hg.size,fun x hx hn=>hg.block x hx (fun e=>hn (hr x e.symm))⟩
theorem Mw.sl{α:Type}[GT α]{F G:List Nat}{a b:World}{v:Value}{x:List α}(h:Mw F a b)(k:Sl a v x G)(hd:∀ y,y∈G->y∈F->False):Sl b v x G :=
 k.keep fun y hy=>h.2.2 y (k.inh y hy) (fun hf=>hd y hy hf)
section
variable {P:Program} {ops:Array Oper} {Q:Exit->Act->World->Prop}
end
end Sk
