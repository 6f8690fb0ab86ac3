/- Contracts of functions of the given program. -/
import Derived.Test.YtfdeoepbnefckaaGreatFaultS
namespace Sk
open Go Go.Proofs Go.RowKit
set_option maxHeartbeats 1000000
set_option maxRecDepth 100000
set_option linter.unusedVariables false
set_option linter.unusedSimpArgs false
def zCr(xs:List Int):Bool:=xs.all (fun n=>zA4 n 0 255)
def zAr(x:Core)(n:Nat)(c:Int):Bool:=(x.Cells.length:Int) == c && (zA4 x.At 0 (n - 1) && zCr x.Cells)
noncomputable def zDy(x:Hold)(k s:Int):Bool:=zB6 k s && (decide ((x.Lst.length:Int)<=s) && zCr x.Lst)
theorem zEz(n:Int)(w:World):Calls Tryz.prog 70 #[.int .i64 n] w fun e w'=>e = .returned (.bool (!zA4 n 0 255))/\w=w':=by
 go_enter Tryz.func70,Tryz.ntmps70;go_wp2_with (go_at_call 71;refine(zEs _ _).mono ?_;rintro e w' ⟨rfl,rfl⟩)
 go_ret;exact⟨rfl,rfl⟩
theorem zF0(n:Int)(w:World):Calls Tryz.prog 73 #[.int .i64 n] w fun e w'=>e = .returned (.bool (!zA4 n 0 255))/\w=w':=by
 go_enter Tryz.func73,Tryz.ntmps73;go_wp2_with (go_at_call 71;refine(zEs _ _).mono ?_;rintro e w' ⟨rfl,rfl⟩)
 go_ret;exact⟨rfl,rfl⟩
theorem zCb(v vl:Value)(x:Core)(xs:List Order)(c:Int)(w:World)(h:Rv w v x)(hl:Rs w vl xs) :
  Calls Tryz.prog 32 #[v,vl,.int .i64 c] w fun e w'=>e = .returned (.bool (zAr x xs.length c))/\Ext w w':=by
 obtain⟨a0,c0,rfl,hr,hs,hl0⟩:=h.openCore;obtain⟨al,cl,rfl,hll⟩:=hl.form;clear h hl;have e0:=zh ((zr w).alloc (.cells #[.slice a0 x.Cells.length c0,.int .i64 x.At,.bool x.Stopped] 43));have hn0:0<=(xs.length:Int):=by omega
 by_cases h1:(x.Cells.length:Int)=c
 ·have h1':((x.Cells.length:Int) == c)=true:=by simpa using h1
  cases h2:zA4 x.At 0 (xs.length - 1)
  ·have hm:=zh (((zAj h1').trans (zAs h2)).symm:_=zAr x xs.length c);subst h1;go_enter Tryz.func32,Tryz.ntmps32;go_wp2_with (go_at_call 31;refine(zAc _ _ _ _).mono ?_;rintro e w' ⟨rfl,rfl⟩;rw[h2])
   go_ret;exact⟨zA1 hm.out,e0.out⟩
  ·have hm:=zh ((zBe (fun n=>zA4 n 0 255) x.Cells).trans ((zAj h1').trans (zAj h2)).symm:_=zAr x xs.length c)
   have HX:=zh (zJk 70 #[] (fun n => !zA4 n 0 255) _ x.Cells _ (hs.out.ext e0.out) (zC5 Tryz.func70 (by kernel_rfl) (by kernel_rfl))
    (fun w1 n _ _ _=>(zEz n w1).mono (by rintro e w' ⟨rfl,rfl⟩;exact⟨rfl,zr _⟩)))
   subst h1;go_enter Tryz.func32,Tryz.ntmps32;go_wp2_with (first|(go_at_call 31;refine(zAc _ _ _ _).mono ?_;rintro e w' ⟨rfl,rfl⟩;rw[h2])|(go_at_call 69;refine HX.out.mono ?_;rintro e w' ⟨rfl,he⟩))
   go_ret;exact⟨zA1 hm.out,e0.out.tr he⟩
 ·have h1':((x.Cells.length:Int) == c)=false:=by simpa using h1
  have hm:=zh ((zAs h1').symm:_=zAr x xs.length c);clear h1;go_enter Tryz.func32,Tryz.ntmps32;go_wp2;go_ret;exact⟨zA1 hm.out,e0.out⟩
theorem impl_CoreValid(v vl:Value)(x:Core)(xs:List Order)(c:Int)(w:World)(h:Rv w v x)(hl:Rs w vl xs) :
  Calls Tryz.prog 40 #[v,vl,.int .i64 c] w fun e w'=>e = .returned (.bool (zBg xs c && zAr x xs.length c))/\Ext w w':=by
 have H:=zh h;have HL:=zh hl;obtain⟨a0,c0,rfl,hr,hs,hl0⟩:=h.openCore;obtain⟨al,cl,rfl,hll⟩:=hl.form;clear h hl;have e0:=zh ((zr w).alloc (.cells #[.slice a0 x.Cells.length c0,.int .i64 x.At,.bool x.Stopped] 43));cases h1:zBg xs c
 ·have HP:=zh h1;go_enter Tryz.func40,Tryz.ntmps40;go_wp2_with (go_at_call 36;refine(zB9 _ xs c _ (HL.out.ext e0.out)).mono ?_;rintro e w1 ⟨rfl,he⟩;rw[HP.out];have HE:=zh he;clear he)
  go_ret;exact⟨rfl,e0.out.tr HE.out⟩
 ·have HP:=zh h1;go_enter Tryz.func40,Tryz.ntmps40;go_upto_region 1 with (fail)
  refine zA2 (fun W=>Ext w W/\Bk W w.heap.size [.slice a0 x.Cells.length c0,.int .i64 x.At,.bool x.Stopped] 43) ⟨(zr _).alloc _,Bk.new _ _ _⟩ ?_
  rintro W ⟨e1,kA⟩;have HE0:=zh e1;have KA:=zh kA;clear e1 kA
  go_wp2_with (first
   | (go_at_call 36;refine(zB9 _ xs c _ (HL.out.ext HE0.out)).mono ?_;rintro e w1 ⟨rfl,he⟩;rw[HP.out];have HE:=zh he;have k1:=KA.out.ext he;obtain⟨d0,d1,d2⟩:=Bk.k3 k1;clear he k1)
   | (go_at_call 32;refine(zCb _ _ x xs c _ (H.out.ext (HE0.out.tr HE.out)) (HL.out.ext (HE0.out.tr HE.out))).mono ?_;rintro e w2 ⟨rfl,he⟩;have HE2:=zh he;clear he))
  go_ret;exact⟨rfl,(HE0.out.tr HE.out).tr HE2.out⟩
theorem zDc(v vl:Value)(x:Core)(xs:List Order)(c:Int)(w:World)(h:Rv w v x)(hl:Rs w vl xs) :
  Calls Tryz.prog 62 #[v,vl,.int .i64 c] w fun e w'=>e = .returned (.bool (zBg xs c && zAr x xs.length c))/\Ext w w':=by
 have HL:=zh hl;obtain⟨a0,c0,rfl,hr,hs,hl0⟩:=h.openCore;obtain⟨al,cl,rfl,hll⟩:=hl.form;clear h hl;have hn0:0<=(xs.length:Int):=by omega
 go_enter Tryz.func62,Tryz.ntmps62;go_upto_region 1 with (fail)
 refine zA2 (fun W=>Ext w W/\Bk W w.heap.size [.slice a0 x.Cells.length c0,.int .i64 x.At,.bool x.Stopped] 43) ⟨(zr _).alloc _,Bk.new _ _ _⟩ ?_
 rintro W ⟨e1,kA⟩;have HE0:=zh e1;obtain⟨d0,d1⟩:=Bk.k2 kA;have hA:=kA.lt;replace HL:=zh (HL.out.ext e1);replace hs:=zh (hs.out.ext e1);clear e1 kA;go_wp2;go_loopw [7] (fun i wr => ∃ k:Nat,k<=x.Cells.length/\i = .int .i64 k/\(x.Cells.take k).all (fun n=>zA4 n 0 255)=true/\wr=W) (fun i _=>x.Cells.length - (intOf i).toNat)
 case atStart=>exact⟨0,Nat.zero_le _,rfl,rfl,rfl⟩
 case round =>
  obtain⟨k,hk,rfl,he,rfl⟩:=hrel;have HE:=zh he;clear he;by_cases hlt:k < x.Cells.length
  ·obtain⟨b,o,n,rfl,hb,hx,hc,hrn⟩:=hs.out.atInt k hlt;have HN:=zh (zB2 (fun n=>zA4 n 0 255) hx.out)
   cases h2:zA4 n 0 255
   ·have HF:Hid ((zBg xs c && zAr x xs.length c)=false):=zh (by unfold zAr zCr;rw[zAy (fun n=>zA4 n 0 255) hx.out h2];simp)
    go_wp2_with (go_at_call 61;refine(zAb _ _ _ _).mono ?_;rintro e w' ⟨rfl,rfl⟩;rw[h2])
    go_ret;exact⟨zA1 HF.out.symm,HE0.out⟩
   ·have H2:=zh h2;clear h2;go_wp2_with (go_at_call 61;refine(zAb _ _ _ _).mono ?_;rintro e w' ⟨rfl,rfl⟩;rw[H2.out])
    go_roundw
    case rel=>exact⟨k+1,by omega,by go_num,by rw[HN.out,HE.out,H2.out];rfl,by trivial⟩
    case measure=>simp[intOf];omega
  ·have HA:Hid (zCr x.Cells=true):=zh (by unfold zCr;rw[<- zB7 (fun n=>zA4 n 0 255) x.Cells k (by omega)];exact HE.out)
   have HF:Hid (zAr x xs.length c=((x.Cells.length:Int) == c && zA4 x.At 0 (xs.length - 1))):=zh (by unfold zAr;rw[HA.out,Bool.and_true])
   cases h1:zBg xs c
   ·have HP:=zh h1;clear h1;go_wp2_with (go_at_call 102;refine(zBl _ xs c _ HL.out).mono ?_;rintro e w1 ⟨rfl,he⟩;rw[HP.out];have HE1:=zh he;clear he)
    go_ret;exact⟨by rw[HP.out];rfl,HE0.out.tr HE1.out⟩
   ·have HP:=zh h1;clear h1;have hA2:=hA;by_cases h3:(x.Cells.length:Int)=c
    ·have h3':=zh (by simpa using h3:((x.Cells.length:Int) == c)=true)
     subst h3
     go_wp2_with (first
      | (go_at_call 102;refine(zBl _ xs _ _ HL.out).mono ?_;rintro e w1 ⟨rfl,he⟩;rw[HP.out];have f0:=(zA0 he hA2).trans d0;have f1:=(zA0 he hA2).trans d1;have HE1:=zh he;clear he)
      | (go_at_call 61;refine(zAb _ _ _ _).mono ?_;rintro e w' ⟨rfl,rfl⟩))
     go_ret;exact⟨by rw[HP.out,HF.out,h3'.out];simp,HE0.out.tr HE1.out⟩
    ·have h3':((x.Cells.length:Int) == c)=false:=by simpa using h3
     have HF2:=zh (HF.out.trans (zAs h3'));clear h3
     go_wp2_with (first
      | (go_at_call 102;refine(zBl _ xs _ _ HL.out).mono ?_;rintro e w1 ⟨rfl,he⟩;rw[HP.out];have f0:=(zA0 he hA2).trans d0;have f1:=(zA0 he hA2).trans d1;have HE1:=zh he;clear he))
     go_ret;exact⟨by rw[HP.out,HF2.out];first|done|rfl,HE0.out.tr HE1.out⟩
theorem zDb(v:Value)(x:Hold)(k s:Int)(w:World)(h:Rv w v x) :
  Calls Tryz.prog 33 #[v,.int .i64 k,.int .i64 s] w fun e w'=>e = .returned (.bool (zDy x k s))/\Ext w w':=by
 obtain⟨a0,c0,rfl,hs,hl0⟩:=h.openHold;clear h;have e0:=zh ((zr w).alloc (.cells #[.slice a0 x.Lst.length c0] 40));cases h1:zB6 k s
 ·have hm:=zh ((zAs h1).symm:_=zDy x k s);go_enter Tryz.func33,Tryz.ntmps33;go_wp2_with (go_at_call 72;refine(zBk _ _ _).mono ?_;rintro e w' ⟨rfl,rfl⟩;rw[h1])
  go_ret;exact⟨zA1 hm.out,e0.out⟩
 ·by_cases h2:(x.Lst.length:Int)<=s
  ·have hm:=zh ((zBe (fun n=>zA4 n 0 255) x.Lst).trans ((zAj h1).trans (zAj (decide_eq_true h2))).symm:_=zDy x k s)
   have HX:=zh (zJk 73 #[] (fun n => !zA4 n 0 255) _ x.Lst _ (hs.out.ext e0.out) (zC5 Tryz.func73 (by kernel_rfl) (by kernel_rfl))
    (fun w1 n _ _ _=>(zF0 n w1).mono (by rintro e w' ⟨rfl,rfl⟩;exact⟨rfl,zr _⟩)))
   have h2':decide ((x.Lst.length:Int)<=s)=true:=decide_eq_true h2;go_enter Tryz.func33,Tryz.ntmps33;go_wp2_with (first|(go_at_call 72;refine(zBk _ _ _).mono ?_;rintro e w' ⟨rfl,rfl⟩;rw[h1])|(go_at_call 69;refine HX.out.mono ?_;rintro e w' ⟨rfl,he⟩))
   go_ret;exact⟨zA1 hm.out,e0.out.tr he⟩
  ·have hm:=zh (((zAj h1).trans (zAs (decide_eq_false h2))).symm:_=zDy x k s);have h2':decide ((x.Lst.length:Int)<=s)=false:=decide_eq_false h2;go_enter Tryz.func33,Tryz.ntmps33;go_wp2_with (go_at_call 72;refine(zBk _ _ _).mono ?_;rintro e w' ⟨rfl,rfl⟩;rw[h1])
   go_ret;exact⟨zA1 hm.out,e0.out⟩
theorem zJa(k s:Int):zB6 k s=(zA4 k 1 3 && (zA4 s 1 4 && (!(k == 1) || (s == 1)))):=by
 rw[Bool.eq_iff_iff,zDj];simp only[Bool.and_eq_true,Bool.or_eq_true,zA7,Bool.not_eq_true',beq_eq_false_iff_ne,beq_iff_eq];omega
theorem zDd(v:Value)(x:Hold)(q s:Int)(w:World)(h:Rv w v x) :
  Calls Tryz.prog 63 #[v,.int .i64 q,.int .i64 s] w fun e w'=>e = .returned (.bool (zDy x q s))/\Ext w w':=by
 obtain⟨a0,c0,rfl,hs,hl0⟩:=h.openHold;clear h;go_enter Tryz.func63,Tryz.ntmps63;go_upto_region 1 with (fail)
 refine zA2 (fun W=>Ext w W/\Bk W w.heap.size [.slice a0 x.Lst.length c0] 40) ⟨(zr _).alloc _,Bk.new _ _ _⟩ ?_
 rintro W ⟨e1,kA⟩;have HE0:=zh e1;have d0:=kA.cell (j:=0) rfl;have hA:=kA.lt;replace hs:=zh (hs.out.ext e1);clear e1 kA;go_wp2;go_loopw [7] (fun i wr => ∃ k:Nat,k<=x.Lst.length/\i = .int .i64 k/\(x.Lst.take k).all (fun n=>zA4 n 0 255)=true/\wr=W) (fun i _=>x.Lst.length - (intOf i).toNat)
 case atStart=>exact⟨0,Nat.zero_le _,rfl,rfl,rfl⟩
 case round =>
  obtain⟨k,hk,rfl,he,rfl⟩:=hrel;have HE:=zh he;clear he;by_cases hlt:k < x.Lst.length
  ·obtain⟨b,o,n,rfl,hb,hx,hc,hrn⟩:=hs.out.atInt k hlt;have HN:=zh (zB2 (fun n=>zA4 n 0 255) hx.out)
   cases h2:zA4 n 0 255
   ·have HF:Hid (zDy x q s=false):=zh (by unfold zDy zCr;rw[zAy (fun n=>zA4 n 0 255) hx.out h2];simp)
    go_wp2_with (go_at_call 61;refine(zAb _ _ _ _).mono ?_;rintro e w' ⟨rfl,rfl⟩;rw[h2])
    go_ret;exact⟨zA1 HF.out.symm,HE0.out⟩
   ·have H2:=zh h2;clear h2;go_wp2_with (go_at_call 61;refine(zAb _ _ _ _).mono ?_;rintro e w' ⟨rfl,rfl⟩;rw[H2.out])
    go_roundw
    case rel=>exact⟨k+1,by omega,by go_num,by rw[HN.out,HE.out,H2.out];rfl,by trivial⟩
    case measure=>simp[intOf];omega
  ·have HA:Hid (zCr x.Lst=true):=zh (by unfold zCr;rw[<- zB7 (fun n=>zA4 n 0 255) x.Lst k (by omega)];exact HE.out)
   have HF:Hid (zDy x q s=(zA4 q 1 3 && (zA4 s 1 4 && ((!(q == 1) || (s == 1)) && decide ((x.Lst.length:Int)<=s))))):=zh (by unfold zDy;rw[HA.out,Bool.and_true,zJa];simp only[Bool.and_assoc])
   cases h1:zA4 q 1 3
   ·have HG:=zh (HF.out.trans (zAs h1));go_wp2_with (go_at_call 61;refine(zAb _ _ _ _).mono ?_;rintro e w' ⟨rfl,rfl⟩;rw[h1])
    go_ret;exact⟨by rw[HG.out];first|done|rfl,HE0.out⟩
   cases h2:zA4 s 1 4
   ·have HG:=zh (HF.out.trans ((zAj h1).trans (zAs h2)));go_wp2_with (go_at_call 61;refine(zAb _ _ _ _).mono ?_;rintro e w' ⟨rfl,rfl⟩;first|rw[h1]|rw[h2])
    go_ret;exact⟨by rw[HG.out];first|done|rfl,HE0.out⟩
   have HG:=zh (HF.out.trans ((zAj h1).trans (zAj h2)));clear HF;by_cases h3:q=1
   ·subst h3;by_cases h4:s=1
    ·subst h4;go_wp2_with (go_at_call 61;refine(zAb _ _ _ _).mono ?_;rintro e w' ⟨rfl,rfl⟩;first|rw[h1]|rw[h2])
     go_ret;exact⟨by rw[HG.out];first|done|rfl,HE0.out⟩
    ·have h4':(s == 1)=false:=by simpa using h4
     have HK:=zh (HG.out.trans (zAs (by rw[h4'];rfl)))
     clear h4;go_wp2_with (go_at_call 61;refine(zAb _ _ _ _).mono ?_;rintro e w' ⟨rfl,rfl⟩;first|rw[h1]|rw[h2])
     go_ret;exact⟨by rw[HK.out];first|done|rfl,HE0.out⟩
   ·have h3':(q == 1)=false:=by simpa using h3
    have HK:=zh (HG.out.trans (zAj (by rw[h3'];rfl)))
    have h3n:(q != 1)=true:=by simpa using h3
    go_wp2_with (go_at_call 61;refine(zAb _ _ _ _).mono ?_;rintro e w' ⟨rfl,rfl⟩;first|rw[h1]|rw[h2])
    go_ret;exact⟨by rw[HK.out];first|done|rfl,HE0.out⟩
end Sk
