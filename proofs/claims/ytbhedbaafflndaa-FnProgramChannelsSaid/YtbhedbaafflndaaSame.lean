/- Contracts of functions of the given program. -/
import Derived.Deep.CutBlock
import Derived.Test.YtbhedbaafflndaaHelp
namespace Sk
open Go Go.Proofs Go.RowKit
set_option maxHeartbeats 400000
set_option maxRecDepth 100000
set_option linter.unusedVariables false
set_option linter.unusedSimpArgs false
theorem zCm{α:Type}[BEq α][LawfulBEq α](x y : α):(x=y/\(x == y)=true/\(x != y)=false)\/(x≠y/\(x == y)=false/\(x != y)=true):=by
 by_cases h:x=y
 ·exact .inl ⟨h,by simpa using h,by simpa using h⟩
 ·exact .inr ⟨h,by simpa using h,by simpa using h⟩
theorem law_sameInts(v1 v2:Value)(xs ys:List Int)(w:World)(hv1:Rs w v1 xs)(hv2:Rs w v2 ys) :
  Calls Try.prog 6 #[v1,v2] w fun e w'=>e = .returned (.bool (Eqb xs ys))/\Ext w w':=by
 obtain⟨a,c,rfl,hl⟩:=hv1.form;obtain⟨a2,c2,rfl,hl2⟩:=hv2.form;by_cases hne:xs.length=ys.length
 ·have H:=zh hne;rw[<- hne] at hv2 hl2 ⊢;clear hne;have H1:=zh hv1;have H2:=zh hv2;clear hv1 hv2;go_enter Try.func6,Try.ntmps6;go_wp2;go_loopw [5] (fun i wr => ∃ k:Nat,k<=xs.length/\i = .int .i64 k/\xs.take k=ys.take k/\Ext w wr) (fun i _=>xs.length - (intOf i).toNat)
  case atStart=>exact⟨0,Nat.zero_le _,rfl,rfl,.refl _⟩
  case round =>
   obtain⟨k,hk,rfl,he,hq⟩:=hrel;have HE:=zh he;have HQ:=zh hq;clear he hq;by_cases hlt:k < xs.length
   ·obtain⟨b,o,x,rfl,_,hx1,hc1,g0⟩:=(H1.out.ext HQ.out).atInt k hlt;obtain⟨b2,o2,y,rfl,_,hx2,hc2,g1⟩:=(H2.out.ext HQ.out).atInt k (by have:=H.out;omega)
    clear H1 H2;rcases zCm x y with ⟨hx,q1,q2⟩ | ⟨hx,q1,q2⟩
    ·have hx3:=zh hx;clear hx;go_wp2;go_quiet (fail)
     go_wp2;go_roundw
     case rel=>exact⟨k+1,by omega,by go_num,zC6 hx1.out (by first|exact hx2.out|exact hx3.out ▸ hx2.out) HE.out,HQ.out.drewN _⟩
     case measure=>simp[intOf];omega
    ·have HN:=zh (Eqb.f (ne_at hx1.out hx2.out hx));clear hx;go_wp2;go_quiet (fail)
     go_wp2;go_ret;exact⟨zA2 HN.out.symm,HQ.out.drewN _⟩
   ·have HN:=zh (Eqb.t (zCa xs ys k H.out (by omega) HE.out))
    clear H1 H2;go_wp2;go_ret;exact⟨zA2 HN.out.symm,HQ.out⟩
 ·have HN:=zh (Eqb.f (fun h=>hne (by rw[h]):xs≠ys))
  have hb:decide (xs.length=ys.length)=false:=by simpa using hne
  clear hv1 hv2;go_enter Try.func6,Try.ntmps6;go_wp2
  all_goals go_ret
  all_goals exact⟨zA2 HN.out.symm,.refl _⟩
end Sk
