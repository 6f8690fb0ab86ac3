/- Contracts of functions of the given program. -/
import Derived.Test.YtbhedbaafflndaaDrawW
import Derived.Test.YtbhedbaafflndaaPrgm
namespace Sk
open Go Go.Proofs Go.RowKit
set_option maxHeartbeats 1600000
set_option maxRecDepth 100000
set_option linter.unusedVariables false
set_option linter.unusedSimpArgs false
theorem zAp{c n X A B:Int} (h:(X=1/\(0<=A/\A < c)/\(0<=B/\B<=255))\/((X=2\/X=3)/\(0<=A/\A < c)/\(0<=B/\B < c)) \/
  (X=4/\(0<=A/\A < n)/\(0<=B/\B < c))\/((X=5\/X=6)/\(0<=A/\A < 8)/\(0<=B/\B < c)) \/
  (X=7/\(0<=A/\A < c)/\B=0)\/((X=0\/X=8)/\A=0/\B=0)):zBg c n ⟨X,A,B⟩=true:=by
 unfold zBg zAj;simp only
 split
 ·simp only[Bool.and_eq_true,zA5];omega
 split
 ·simp only[Bool.and_eq_true,zA5];omega
 split
 ·simp only[Bool.and_eq_true,zA5];omega
 split
 ·simp only[Bool.and_eq_true,zA5];omega
 split
 ·simp only[Bool.and_eq_true,zA5,beq_iff_eq];omega
 split
 ·simp only[Bool.and_eq_true,beq_iff_eq];omega
 ·omega
theorem zCf{u w':World}{b n:Nat}{zs:List Int}{T:TypeId}{k:Int}(hm:Mo [b] (u.alloc (.cells (zs.map fun z=>Value.int .i64 z).toArray T (0,0))) w')(hb:b < u.heap.size)(hk:0<=k/\k < n)(hn:n=zs.length) :
  ∃ z,w'.cell? ⟨u.heap.size,k.toNat,none⟩=some (.int .i64 z)/\z∈zs:=by
 have hk2:k.toNat < zs.length:=by omega
 refine⟨zs[k.toNat],?_,List.getElem_mem _⟩;rw[hm.cell (by simp;omega)]
 refine(Bk.new u (zs.map fun z=>Value.int .i64 z) T).cell ?_
 simp[hk2]
def OB(W wo:World)(b Q m:Nat)(X A B:Int)(u:World):Prop:=Mw [b] wo u/\Rd W u b m/\Bk u Q [.int .i64 X,.int .i64 A,.int .i64 B] 30
theorem OB.pick{W wo u u':World}{b Q m m':Nat}{X A B:Int}(h:OB W wo b Q m X A B u)(hm:Mo [b] u u')(hr:Rd W u' b m')(hbQ:b≠Q):OB W wo b Q m' X A B u' :=
 ⟨h.1.tr (Mw.ofMo hm),hr,hm.bk h.2.2 (by simpa using fun e=>hbQ e.symm)⟩
theorem OB.alloc{W wo u:World}{b Q m:Nat}{X A B:Int}(h:OB W wo b Q m X A B u)(o:Obj):OB W wo b Q m X A B (u.alloc o) :=
 ⟨h.1.tr (Mw.ofExt ((zr _).alloc _)),h.2.1.ext ((zr _).alloc _),h.2.2.ext ((zr _).alloc _)⟩
theorem OB.le{W wo u:World}{b Q m m':Nat}{X A B:Int}(h:OB W wo b Q m X A B u)(k:m'<=m):OB W wo b Q m' X A B u:=⟨h.1,h.2.1.le k,h.2.2⟩
theorem OB.putA{W wo u:World}{b Q m:Nat}{X A B:Int}(h:OB W wo b Q m X A B u)(h1:wo.heap.size<=Q)(h2:b≠Q)(h3:W.heap.size<=Q)(k:Int):OB W wo b Q m X k B (u.setCell ⟨Q,1,none⟩ (.int .i64 k)) :=
 ⟨h.1.set (.inr h1) _,h.2.1.set (p:=⟨Q,1,none⟩) h2 h3 _,by have:=h.2.2.set 1 (.int .i64 k);simpa using this⟩
theorem OB.putB{W wo u:World}{b Q m:Nat}{X A B:Int}(h:OB W wo b Q m X A B u)(h1:wo.heap.size<=Q)(h2:b≠Q)(h3:W.heap.size<=Q)(k:Int):OB W wo b Q m X A k (u.setCell ⟨Q,2,none⟩ (.int .i64 k)) :=
 ⟨h.1.set (.inr h1) _,h.2.1.set (p:=⟨Q,2,none⟩) h2 h3 _,by have:=h.2.2.set 2 (.int .i64 k);simpa using this⟩
end Sk
