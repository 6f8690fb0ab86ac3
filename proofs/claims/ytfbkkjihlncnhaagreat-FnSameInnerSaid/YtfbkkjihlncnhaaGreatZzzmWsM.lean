/- Contracts of functions of the given program. -/
import Derived.Test.YtfbkkjihlncnhaaGreatZyDm
namespace Sk
open Go Go.Proofs Go.RowKit
set_option maxHeartbeats 1000000
set_option linter.unusedVariables false
set_option linter.unusedSimpArgs false
theorem M.sameView_comm (a b:Machine) (n:Int):M.sameView a b n=M.sameView b a n:=by
 unfold M.sameView;have e:Eqb (M.viewN a n.toNat) (M.viewN b n.toNat)=Eqb (M.viewN b n.toNat) (M.viewN a n.toNat):=by
  by_cases h:M.viewN a n.toNat=M.viewN b n.toNat
  ·rw[Eqb.t h,Eqb.t h.symm]
  ·rw[Eqb.f h,Eqb.f (Ne.symm h)]
 rw[e,Bool.and_comm (M.seen a n)]
theorem M.sameView_self (a:Machine) (n:Int):M.sameView a a n=M.seen a n:=by
 unfold M.sameView;rw[Eqb.t rfl,Bool.and_true,Bool.and_self]
theorem M.SF.tickM {a b:Machine} {n:Nat} (h:M.SF a b n) (ht:a.Tick < 100000):M.SF (M.tickM a) (M.tickM b) n:=by
 have e1:M.tickM a=M.tick a:=if_pos ⟨M.mv_iff.2 h.ma,by omega⟩
 have e2:M.tickM b=M.tick b:=if_pos ⟨M.mv_iff.2 h.mb,by have:=h.tick;omega⟩
 rw[e1,e2];exact h.tickS ht
end Sk
