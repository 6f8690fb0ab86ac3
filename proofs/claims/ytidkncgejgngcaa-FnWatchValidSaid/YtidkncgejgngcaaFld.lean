/- Contracts of functions of the given program. -/
import Derived.Test.YtidkncgejgngcaaLens
namespace Sk
open Go Go.RowKit
set_option linter.unusedVariables false
set_option linter.unusedSimpArgs false
theorem Om.cell{α:Type}[GT α]{L:Nat}{w:World}{b o:Nat}{xs:List α}{F:List Nat}(h:Om L w b o xs F):∃ a c,w.cell? ⟨b,o,none⟩=some (.slice a xs.length c)/\xs.length<=c/\xs.length<=9223372036854775807/\Sl w (.slice a xs.length c) xs F:=by
 obtain⟨cs,⟨v,rfl,hs⟩,hat,ho⟩:=h;have hs2:=hs;obtain⟨a,c,rfl,h1,h2,_⟩:=hs;unfold maxLen at h2;exact⟨a,c,by simpa using hat 0 _ rfl,h1,by omega,hs2⟩
def Osb{α:Type}[GT α](L M:Nat)(w:World)(v:Value)(xs:List α):Prop:=∃ F,Sl w v xs F/\Own L w F/\∀ k∈F,k < M
theorem Os.osb{α:Type}[GT α]{L:Nat}{w:World}{v:Value}{xs:List α}(h:Os L w v xs):Osb L w.heap.size w v xs:=by
 obtain⟨F,h1,h2⟩:=h;exact⟨F,h1,h2,fun k hk=>h2.lt hk⟩
theorem Osb.os{α:Type}[GT α]{L M:Nat}{w:World}{v:Value}{xs:List α}(h:Osb L M w v xs):Os L w v xs:=by
 obtain⟨F,h1,h2,_⟩:=h;exact⟨F,h1,h2⟩
theorem Om.lCoreCells{L:Nat}{w:World}{b o:Nat}{x:Core}{F:List Nat}(h:Om L w b o x F):∃ Fy,Lens w b o x F b (o+0) x.Cells Fy (fun y => { x with Cells:=y }):=by
 obtain⟨cs,⟨v0,rfl,h0,r1⟩,hat,ho⟩:=h;refine⟨F,?_⟩;have hl:=Lens.field (x:=x) (y:=x.Cells) (put:=fun y => { x with Cells:=y }) (A:=[]) (csy:=[v0]) (B:=[.int .i64 x.At,.bool x.Stopped]) (F1:=[]) (Fy:=F) (F2:=[]) 0 rfl rfl (by simpa using hat) (by simpa [List.append_assoc] using ho.1) (fun k hk=>ho.lt (by simpa [List.append_assoc] using hk)) ⟨_,rfl,h0⟩ ?_
 ·simpa [List.append_assoc] using hl
 ·intro w' csy' y' Fy' hk hy;obtain⟨v,rfl,k⟩:=hy;simp only[List.nil_append,List.append_nil];exact⟨_,rfl,k,r1⟩
theorem Om.lCoreAt{L:Nat}{w:World}{b o:Nat}{x:Core}{F:List Nat}(h:Om L w b o x F):∃ Fy,Lens w b o x F b (o+1) x.At Fy (fun y => { x with At:=y }):=by
 obtain⟨cs,⟨v0,rfl,h0,r1⟩,hat,ho⟩:=h;refine⟨[],?_⟩;have hl:=Lens.field (x:=x) (y:=x.At) (put:=fun y => { x with At:=y }) (A:=[v0]) (csy:=[.int .i64 x.At]) (B:=[.bool x.Stopped]) (F1:=F) (Fy:=[]) (F2:=[]) 1 rfl rfl (by simpa using hat) (by simpa [List.append_assoc] using ho.1) (fun k hk=>ho.lt (by simpa [List.append_assoc] using hk)) ⟨rfl,r1,rfl⟩ ?_
 ·simpa [List.append_assoc] using hl
 ·intro w' csy' y' Fy' hk hy;obtain⟨rfl,q,rfl⟩:=hy;simp only[List.nil_append,List.append_nil];exact⟨_,rfl,h0.keep (fun k h=>hk k (by simp[h])),q⟩
theorem Om.lCoreStopped{L:Nat}{w:World}{b o:Nat}{x:Core}{F:List Nat}(h:Om L w b o x F):∃ Fy,Lens w b o x F b (o+2) x.Stopped Fy (fun y => { x with Stopped:=y }):=by
 obtain⟨cs,⟨v0,rfl,h0,r1⟩,hat,ho⟩:=h;refine⟨[],?_⟩;have hl:=Lens.field (x:=x) (y:=x.Stopped) (put:=fun y => { x with Stopped:=y }) (A:=[v0,.int .i64 x.At]) (csy:=[.bool x.Stopped]) (B:=[]) (F1:=F) (Fy:=[]) (F2:=[]) 2 rfl rfl (by simpa using hat) (by simpa [List.append_assoc] using ho.1) (fun k hk=>ho.lt (by simpa [List.append_assoc] using hk)) ⟨rfl,rfl⟩ ?_
 ·simpa [List.append_assoc] using hl
 ·intro w' csy' y' Fy' hk hy;obtain⟨rfl,rfl⟩:=hy;simp only[List.nil_append,List.append_nil];exact⟨_,rfl,h0.keep (fun k h=>hk k (by simp[h])),r1⟩
theorem Om.lMachineCores{L:Nat}{w:World}{b o:Nat}{x:Machine}{F:List Nat}(h:Om L w b o x F):∃ Fy,Lens w b o x F b (o+4) x.Cores Fy (fun y => { x with Cores:=y }):=by
 obtain⟨cs,⟨v0,v1,v2,v3,v4,v5,F0,F1,F2,F3,F4,F5,rfl,h0,h1,h2,h3,h4,h5,r6,rfl⟩,hat,ho⟩:=h;refine⟨F4,?_⟩;have hl:=Lens.field (x:=x) (y:=x.Cores) (put:=fun y => { x with Cores:=y }) (A:=[v0,v1,v2,v3]) (csy:=[v4]) (B:=[v5,.int .i64 x.Tick]) (F1:=F0++(F1++(F2++F3))) (Fy:=F4) (F2:=F5) 4 rfl rfl (by simpa using hat) (by simpa [List.append_assoc] using ho.1) (fun k hk=>ho.lt (by simpa [List.append_assoc] using hk)) ⟨_,rfl,h4⟩ ?_
 ·simpa [List.append_assoc] using hl
 ·intro w' csy' y' Fy' hk hy;obtain⟨v,rfl,k⟩:=hy;exact⟨_,_,_,_,_,_,_,_,_,_,_,_,rfl,h0.keep (fun k h=>hk k (by simp[h])),h1.keep (fun k h=>hk k (by simp[h])),h2.keep (fun k h=>hk k (by simp[h])),h3.keep (fun k h=>hk k (by simp[h])),k,h5.keep (fun k h=>hk k (by simp[h])),r6,by simp[List.append_assoc]⟩
theorem Om.lMachineHolds{L:Nat}{w:World}{b o:Nat}{x:Machine}{F:List Nat}(h:Om L w b o x F):∃ Fy,Lens w b o x F b (o+5) x.Holds Fy (fun y => { x with Holds:=y }):=by
 obtain⟨cs,⟨v0,v1,v2,v3,v4,v5,F0,F1,F2,F3,F4,F5,rfl,h0,h1,h2,h3,h4,h5,r6,rfl⟩,hat,ho⟩:=h;refine⟨F5,?_⟩;have hl:=Lens.field (x:=x) (y:=x.Holds) (put:=fun y => { x with Holds:=y }) (A:=[v0,v1,v2,v3,v4]) (csy:=[v5]) (B:=[.int .i64 x.Tick]) (F1:=F0++(F1++(F2++(F3++F4)))) (Fy:=F5) (F2:=[]) 5 rfl rfl (by simpa using hat) (by simpa [List.append_assoc] using ho.1) (fun k hk=>ho.lt (by simpa [List.append_assoc] using hk)) ⟨_,rfl,h5⟩ ?_
 ·simpa [List.append_assoc] using hl
 ·intro w' csy' y' Fy' hk hy;obtain⟨v,rfl,k⟩:=hy;exact⟨_,_,_,_,_,_,_,_,_,_,_,_,rfl,h0.keep (fun k h=>hk k (by simp[h])),h1.keep (fun k h=>hk k (by simp[h])),h2.keep (fun k h=>hk k (by simp[h])),h3.keep (fun k h=>hk k (by simp[h])),h4.keep (fun k h=>hk k (by simp[h])),k,r6,by simp[List.append_assoc]⟩
theorem Om.lMachineTick{L:Nat}{w:World}{b o:Nat}{x:Machine}{F:List Nat}(h:Om L w b o x F):∃ Fy,Lens w b o x F b (o+6) x.Tick Fy (fun y => { x with Tick:=y }):=by
 obtain⟨cs,⟨v0,v1,v2,v3,v4,v5,F0,F1,F2,F3,F4,F5,rfl,h0,h1,h2,h3,h4,h5,r6,rfl⟩,hat,ho⟩:=h;refine⟨[],?_⟩;have hl:=Lens.field (x:=x) (y:=x.Tick) (put:=fun y => { x with Tick:=y }) (A:=[v0,v1,v2,v3,v4,v5]) (csy:=[.int .i64 x.Tick]) (B:=[]) (F1:=F0++(F1++(F2++(F3++(F4++F5))))) (Fy:=[]) (F2:=[]) 6 rfl rfl (by simpa using hat) (by simpa [List.append_assoc] using ho.1) (fun k hk=>ho.lt (by simpa [List.append_assoc] using hk)) ⟨rfl,r6,rfl⟩ ?_
 ·simpa [List.append_assoc] using hl
 ·intro w' csy' y' Fy' hk hy;obtain⟨rfl,q,rfl⟩:=hy;exact⟨_,_,_,_,_,_,_,_,_,_,_,_,rfl,h0.keep (fun k h=>hk k (by simp[h])),h1.keep (fun k h=>hk k (by simp[h])),h2.keep (fun k h=>hk k (by simp[h])),h3.keep (fun k h=>hk k (by simp[h])),h4.keep (fun k h=>hk k (by simp[h])),h5.keep (fun k h=>hk k (by simp[h])),q,by simp[List.append_assoc]⟩
theorem Om.lWatchBox{L:Nat}{w:World}{b o:Nat}{x:Watch}{F:List Nat}(h:Om L w b o x F):∃ Fy,Lens w b o x F b (o+0) x.Box Fy (fun y => { x with Box:=y }):=by
 obtain⟨cs,⟨v0,v1,v2,v3,v4,v5,v7,F0,F1,F2,F3,F4,F5,F7,rfl,h0,h1,h2,h3,h4,h5,h7,r6,rfl⟩,hat,ho⟩:=h;refine⟨F0++(F1++(F2++(F3++(F4++F5)))),?_⟩;have hl:=Lens.field (x:=x) (y:=x.Box) (put:=fun y => { x with Box:=y }) (A:=[]) (csy:=[v0,v1,v2,v3,v4,v5,.int .i64 x.Box.Tick]) (B:=[v7]) (F1:=[]) (Fy:=F0++(F1++(F2++(F3++(F4++F5))))) (F2:=F7) 0 rfl rfl (by simpa using hat) (by simpa [List.append_assoc] using ho.1) (fun k hk=>ho.lt (by simpa [List.append_assoc] using hk)) ⟨_,_,_,_,_,_,_,_,_,_,_,_,rfl,h0,h1,h2,h3,h4,h5,r6,rfl⟩ ?_
 ·simpa [List.append_assoc] using hl
 ·intro w' csy' y' Fy' hk hy;obtain⟨w0,w1,w2,w3,w4,w5,G0,G1,G2,G3,G4,G5,rfl,k0,k1,k2,k3,k4,k5,q6,rfl⟩:=hy;exact⟨_,_,_,_,_,_,_,_,_,_,_,_,_,_,rfl,k0,k1,k2,k3,k4,k5,h7.keep (fun k h=>hk k (by simp[h])),q6,by simp[List.append_assoc]⟩
theorem Om.lWatchStates{L:Nat}{w:World}{b o:Nat}{x:Watch}{F:List Nat}(h:Om L w b o x F):∃ Fy,Lens w b o x F b (o+7) x.States Fy (fun y => { x with States:=y }):=by
 obtain⟨cs,⟨v0,v1,v2,v3,v4,v5,v7,F0,F1,F2,F3,F4,F5,F7,rfl,h0,h1,h2,h3,h4,h5,h7,r6,rfl⟩,hat,ho⟩:=h;refine⟨F7,?_⟩;have hl:=Lens.field (x:=x) (y:=x.States) (put:=fun y => { x with States:=y }) (A:=[v0,v1,v2,v3,v4,v5,.int .i64 x.Box.Tick]) (csy:=[v7]) (B:=[]) (F1:=F0++(F1++(F2++(F3++(F4++F5))))) (Fy:=F7) (F2:=[]) 7 rfl rfl (by simpa using hat) (by simpa [List.append_assoc] using ho.1) (fun k hk=>ho.lt (by simpa [List.append_assoc] using hk)) ⟨_,rfl,h7⟩ ?_
 ·simpa [List.append_assoc] using hl
 ·intro w' csy' y' Fy' hk hy;obtain⟨v,rfl,k⟩:=hy;exact⟨_,_,_,_,_,_,_,_,_,_,_,_,_,_,rfl,h0.keep (fun k h=>hk k (by simp[h])),h1.keep (fun k h=>hk k (by simp[h])),h2.keep (fun k h=>hk k (by simp[h])),h3.keep (fun k h=>hk k (by simp[h])),h4.keep (fun k h=>hk k (by simp[h])),h5.keep (fun k h=>hk k (by simp[h])),k,r6,by simp[List.append_assoc]⟩
end Sk
