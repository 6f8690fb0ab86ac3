/- Contracts of functions of the given program. -/
import Derived.Test.YtbhedbaafflndaaZzzzmPrgG
namespace Sk
open Go Go.Proofs Go.RowKit
set_option maxHeartbeats 4000000
set_option maxRecDepth 100000
set_option linter.unusedVariables false
set_option linter.unusedSimpArgs false
theorem zAn(v:Value)(xs:List By)(w:World)(h:Rs w v xs) :
  Calls Try.prog 4 #[v] w fun e w' => ∃ v' ys z s,e = .returned (.tuple #[v',.int .i64 z,.bool s])/\Rs (α:=Order) w' v' ys/\ys.length<=21/\Ext w w':=by
 have H:=zh h;clear h;go_enter Try.func4,Try.ntmps4
 go_wp2_with (first
  | (go_at_call 9;refine(zC5 _ _ _ H.out).mono ?_;rintro e w1 ⟨b,rfl,hb,he,hr⟩;have HE:=zh he;have hb1:=hr.lt;have HR:Hid (Rd w w1 b (100+1+60+1)):=zh (hr.le (by omega));clear he hr)
  | (go_at_call 10;refine(zA0 w _ b (100+1+60) 4 HR.out (zA3 (by omega) (by omega))).mono ?_;rintro e w2 ⟨k,rfl,hk,hm,hr⟩;clear HR;obtain⟨hk1,hk2⟩:=hk.lt (by omega);obtain⟨j,rfl⟩:=Int.eq_ofNat_of_zero_le hk1;have HM2:=zh ((Mw.ofMo hm).ext HE.out (by simp;omega));have hb2:=hr.lt;have HR2:=zh hr;clear hk hm hr)
  | (go_at_call 11;refine(zBe w _ b (100+1) (1+j) 5 12 (zA3 (by omega) (by omega)) HR2.out (by omega) (by omega) (by omega)).mono ?_;rintro e w3 ⟨v3,ys,rfl,ho,⟨hl1,hl2⟩,hm,hr⟩;clear HR2;obtain⟨a3,c3,rfl,-⟩:=ho.rs.form;have HO:=zh ho;have HM3:=zh (hm.ext HM2.out (by simp;omega));have HR3:=zh hr;clear ho hm hr)
  | (go_at_call 10;refine(zA0 w _ b 100 2 HR3.out (zA3 (by omega) (by omega))).mono ?_;rintro e w4 ⟨k4,rfl,hk,hm,hr⟩;clear HR3;have HO4:=zh (HO.out.mw (Mw.ofMo hm) (by simp;omega));have HM4:=zh ((Mw.ofMo hm).ext HM3.out (by simp;omega));clear hk hm hr))
 refine bodyPost_ret (v:=.tuple #[.slice a3 ys.length c3,.int .i64 (1+(j:Int)),.bool (k4 == 0)]) (by simp[results,Try.results4,go_sem]) rfl ?_
 exact⟨_,ys,_,_,rfl,HO4.out.rs,hl2,HM4.out⟩
end Sk
