/- Contracts of functions of the given program. -/
import Derived.Test.YtbhedbaafflndaaZdDrwP
import Derived.Test.YtbhedbaafflndaaRead
namespace Sk
open Go Go.Proofs Go.RowKit
set_option maxHeartbeats 1600000
set_option maxRecDepth 100000
set_option linter.unusedVariables false
set_option linter.unusedSimpArgs false
theorem Os.atO{L:Nat}{w:World}{a:Option Addr}{n c:Nat}{xs:List Order}(h:Os L w (.slice a n c) xs)(i:Nat)(hi:i < xs.length) :
  ∃ g s X A B,a=some ⟨g,s,none⟩/\Hid (xs[i]? = some ⟨X,A,B⟩)/\L<=g/\g < w.heap.size/\w.cell? ⟨g,s+i*3,none⟩=some (.int .i64 X)/\w.cell? ⟨g,s+i*3+1,none⟩=some (.int .i64 A)/\w.cell? ⟨g,s+i*3+2,none⟩=some (.int .i64 B)/\(∀ j,w.frozen? ⟨g,j,none⟩=false)/\rng X/\rng A/\rng B:=by
 obtain⟨g,s,cs,F,x,rfl,hx,hL,⟨rfl,r0,r1,r2,_⟩,hat,hf⟩:=h.at i hi;obtain⟨X,A,B⟩:=x;have hlt:=hat.lt (by simp)
 exact⟨g,s,X,A,B,rfl,hx,hL,hlt,by simpa [GT.sz] using hat 0 _ rfl,by simpa [GT.sz] using hat 1 _ rfl,by simpa [GT.sz] using hat 2 _ rfl,hf,r0,r1,r2⟩
theorem Os.setO{L:Nat}{w:World}{g s n c i:Nat}{xs:List Order}(h:Os L w (.slice (some ⟨g,s,none⟩) n c) xs)(hi:i < xs.length)(hL:L<=w.heap.size)(y:Order)(r0:rng y.Op)(r1:rng y.A)(r2:rng y.B) :
  Os L (((w.setCell ⟨g,s+i*3,none⟩ (.int .i64 y.Op)).setCell ⟨g,s+i*3+1,none⟩ (.int .i64 y.A)).setCell ⟨g,s+i*3+2,none⟩ (.int .i64 y.B)) (.slice (some ⟨g,s,none⟩) n c) (xs.set i y) :=
 Os.put (cs:=[.int .i64 y.Op,.int .i64 y.A,.int .i64 y.B]) h (zr _) hi hL ⟨[],⟨rfl,r0,r1,r2,rfl⟩,Own.nil _ _⟩
theorem Os.mw{α:Type}[GT α]{L:Nat}{w w':World}{v:Value}{xs:List α}{F:List Nat}(h:Os L w v xs)(k:Mw F w w')(hF:∀ x∈F,x < L):Os L w' v xs:=by
 obtain⟨G,h1,h2⟩:=h;have hd:∀ y∈G,y ∉ F:=fun y hy hm=>by have:=(h2.2 y hy).1;have:=hF y hm;omega
 exact⟨G,k.sl h1 (fun y hy hm=>hd y hy hm),k.own h2 hd⟩
end Sk
