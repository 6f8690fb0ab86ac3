/- Contracts of functions of the given program. -/
import Derived.Test.YtfdeoepbnefckaaGreatValid
namespace Sk
open Go Go.Proofs Go.RowKit
set_option maxHeartbeats 400000
set_option maxRecDepth 100000
set_option linter.unusedVariables false
set_option linter.unusedSimpArgs false
theorem not_f{b:Bool}(h:b=false):(!b)=true:=by rw[h];rfl
theorem not_t{b:Bool}(h:b=true):(!b)=false:=by rw[h];rfl
noncomputable def zGy(n:Int)(c:Channel):Bool:=zB6 c.Kind c.Size && (zA4 c.From 0 (n - 1) && (zA4 c.To 0 (n - 1) && !(c.From == c.To)))
noncomputable def zCt(xs:List Channel)(n:Int):Bool:=zA4 n 0 5 && (decide (xs.length<=8) && xs.all (zGy n))
theorem zDj{k s:Int}:zB6 k s=true ↔ (k=1/\s=1\/(k=2\/k=3)/\1<=s/\s<=4):=Bo.iff
theorem M.cv_iff{n:Int}{c:Channel}:zGy n c=true ↔ (c.Kind=1/\c.Size=1\/(c.Kind=2\/c.Kind=3)/\1<=c.Size/\c.Size<=4)/\(0<=c.From/\c.From<=n - 1)/\(0<=c.To/\c.To<=n - 1)/\c.From≠c.To:=by
 unfold zGy;simp only[Bool.and_eq_true,zDj,zA7,Bool.not_eq_true',beq_eq_false_iff_ne]
theorem zD9(v:Value)(x:Channel)(b:Nat)(n:Int)(w:World)(h:Rv w v x)(hb:b < w.heap.size)(hc:w.cell? ⟨b,0,none⟩=some (.int .i64 n))(hn1:0<=n)(hn2:n<=5) :
  Calls Tryz.prog 127 #[v,.pointer (some ⟨b,0,none⟩)] w fun e w'=>e = .returned (.bool (!zGy n x))/\Ext w w':=by
 obtain⟨rfl,hr0,hr1,hr2,hr3⟩:=h.openChannel;clear h;cases h1:zB6 x.Kind x.Size
 ·have hm:=zh (congrArg (! ·) (zAs h1:zGy n x=_))
  go_enter Tryz.func127,Tryz.ntmps127;go_wp2_with (first|(go_at_call 72;refine(zBk _ _ _).mono ?_;rintro e w' ⟨rfl,rfl⟩)|(go_at_call 31;refine(zAc _ _ _ _).mono ?_;rintro e w' ⟨rfl,rfl⟩))
  go_ret;exact⟨zA1 hm.out.symm,(zr w).alloc _⟩
 ·cases h2:zA4 x.From 0 (n - 1)
  ·have hm:=zh (congrArg (! ·) ((zAj h1).trans (zAs h2):zGy n x=_))
   go_enter Tryz.func127,Tryz.ntmps127;go_wp2_with (first|(go_at_call 72;refine(zBk _ _ _).mono ?_;rintro e w' ⟨rfl,rfl⟩)|(go_at_call 31;refine(zAc _ _ _ _).mono ?_;rintro e w' ⟨rfl,rfl⟩))
   go_ret;exact⟨zA1 hm.out.symm,(zr w).alloc _⟩
  ·cases h3:zA4 x.To 0 (n - 1)
   ·have hm:=zh (congrArg (! ·) ((zAj h1).trans ((zAj h2).trans (zAs h3)):zGy n x=_))
    go_enter Tryz.func127,Tryz.ntmps127;go_wp2_with (first|(go_at_call 72;refine(zBk _ _ _).mono ?_;rintro e w' ⟨rfl,rfl⟩)|(go_at_call 31;refine(zAc _ _ _ _).mono ?_;rintro e w' ⟨rfl,rfl⟩))
    go_ret;exact⟨zA1 hm.out.symm,(zr w).alloc _⟩
   ·have hm:Hid ((!zGy n x)=(x.From == x.To)):=zh (by unfold zGy;rw[h1,h2,h3];simp)
    go_enter Tryz.func127,Tryz.ntmps127;go_wp2_with (first|(go_at_call 72;refine(zBk _ _ _).mono ?_;rintro e w' ⟨rfl,rfl⟩)|(go_at_call 31;refine(zAc _ _ _ _).mono ?_;rintro e w' ⟨rfl,rfl⟩))
    all_goals go_ret
    all_goals exact⟨zA1 hm.out.symm,(zr w).alloc _⟩
theorem zC7(v:Value)(xs:List Channel)(n:Int)(w:World)(h:Rs w v xs) :
  Calls Tryz.prog 87 #[v,.int .i64 n] w fun e w'=>e = .returned (.bool (zCt xs n))/\Ext w w':=by
 have e0:=zh ((zr w).alloc (.cells #[.int .i64 n] 3));have H:=zh h;obtain⟨a,c,rfl,hl⟩:=h.form;clear h;cases h1:zA4 n 0 5
 ·have hm:=zh ((zAs h1).symm:_=zCt xs n);go_enter Tryz.func87,Tryz.ntmps87;go_wp2_with (go_at_call 31;refine(zAc _ _ _ _).mono ?_;rintro e w' ⟨rfl,rfl⟩)
  go_ret;exact⟨zA1 hm.out,e0.out⟩
 ·obtain⟨hn1,hn2⟩:=zA7.1 h1;have HX:=zh (zHz 127 #[.pointer (some ⟨w.heap.size,0,none⟩)] (fun x => !zGy n x) _ xs _ (H.out.ext e0.out) (zC5 Tryz.func127 (by kernel_rfl) (by kernel_rfl))
   (fun w1 v x he _ hv=>zD9 v x _ n w1 hv (zFe he).1 (zFe he).2 hn1 hn2))
  by_cases h2:xs.length<=8
  ·have hm:=zh ((zBe (zGy n) xs).trans ((zAj h1).trans (zAj (decide_eq_true h2))).symm:_=zCt xs n);go_enter Tryz.func87,Tryz.ntmps87;go_wp2_with (first|(go_at_call 31;refine(zAc _ _ _ _).mono ?_;rintro e w' ⟨rfl,rfl⟩)|(go_at_call 126;refine HX.out.mono ?_;rintro e w' ⟨rfl,he⟩))
   go_ret;exact⟨zA1 hm.out,e0.out.tr he⟩
  ·have hm:=zh (((zAj h1).trans (zAs (decide_eq_false h2))).symm:_=zCt xs n);go_enter Tryz.func87,Tryz.ntmps87;go_wp2_with (go_at_call 31;refine(zAc _ _ _ _).mono ?_;rintro e w' ⟨rfl,rfl⟩)
   go_ret;exact⟨zA1 hm.out,e0.out⟩
def M.cvs(n:Int)(c:Channel):Bool:=zA4 c.Kind 1 3 && (zA4 c.From 0 (n - 1) && (zA4 c.To 0 (n - 1) && (!(c.From == c.To) && (zA4 c.Size 1 4 && !(c.Kind == 1 && !(c.Size == 1))))))
theorem zI6(n:Int)(c:Channel):M.cvs n c=zGy n c:=by
 rw[Bool.eq_iff_iff,M.cv_iff];unfold M.cvs;simp only[Bool.and_eq_true,zA7,Bool.not_eq_true',beq_eq_false_iff_ne,Bool.and_eq_false_iff,Bool.not_eq_false',beq_iff_eq];omega
theorem zAn(v:Value)(xs:List Channel)(n:Int)(w:World)(h:Rs w v xs) :
    Calls Tryz.prog 59 #[v,.int .i64 n] w fun e w'=>e = .returned (.bool (zCt xs n))/\Ext w w':=by
  obtain⟨a,c,rfl,hl⟩:=h.form;have H:=zh h;clear h;cases h1:zA4 n 0 5
  · have HN:Hid (zCt xs n=false):=zh (zAs h1);go_enter Tryz.func59,Tryz.ntmps59;go_wp2;go_loopw [5,6] (fun i _ wr => ∃ k:Nat,k<=xs.length/\i = .int .i64 k/\Ext w wr) (fun i _ _=>xs.length - (intOf i).toNat)
    case atStart=>exact⟨0,Nat.zero_le _,rfl,.refl _⟩
    case round =>
      obtain⟨k,hk,rfl,hq⟩:=hrel;have HQ:=zh hq;clear hq;by_cases hlt:k < xs.length
      · obtain⟨b,o,x,rfl,hb,hx,hc0,hc1,hc2,hc3,hr0,hr1,hr2,hr3,hv⟩:=(H.out.ext HQ.out).atChannel k hlt;clear H;go_wp2_with (go_at_call 61;refine(zAb _ _ _ _).mono ?_;rintro e w' ⟨rfl,rfl⟩)
        all_goals first
          | (go_ret;exact⟨zA1 HN.out.symm,(HQ.out.alloc _).set (Nat.le_trans HQ.out.sz (by simp)) _⟩)
          | (go_ret;exact⟨zA1 HN.out.symm,HQ.out.alloc _⟩)
          | (go_roundw
             case rel=>exact⟨k+1,by omega,by go_num,HQ.out.alloc _⟩
             case measure=>simp[intOf];omega)
      · clear H;go_wp2_with (go_at_call 61;refine(zAb _ _ _ _).mono ?_;rintro e w' ⟨rfl,rfl⟩)
        all_goals go_ret
        all_goals exact⟨zA1 HN.out.symm,HQ.out⟩
  · obtain⟨hn1,hn2⟩:=zA7.1 h1;go_enter Tryz.func59,Tryz.ntmps59;go_wp2;go_loopw [5,6] (fun i _ wr => ∃ k:Nat,k<=xs.length/\i = .int .i64 k/\(xs.take k).all (zGy n)=true/\Ext w wr) (fun i _ _=>xs.length - (intOf i).toNat)
    case atStart=>exact⟨0,Nat.zero_le _,rfl,rfl,.refl _⟩
    case round =>
      obtain⟨k,hk,rfl,he,hq⟩:=hrel;have HE:=zh he;have HQ:=zh hq;clear he hq;by_cases hlt:k < xs.length
      · obtain⟨b,o,x,rfl,hb,hx,hc0,hc1,hc2,hc3,hr0,hr1,hr2,hr3,hv⟩:=(H.out.ext HQ.out).atChannel k hlt;clear H;have key:zGy n x=false->zCt xs n=false:=fun hp=>by unfold zCt;rw[zAy (zGy n) hx.out hp,Bool.and_false,Bool.and_false]
        rw[<- zI6] at key;have hst:=zh ((zB2 (zGy n) hx.out).trans (by rw[HE.out,<- zI6,Bool.true_and]))
        have KEY:=zh key;clear key;cases g1:zA4 x.Kind 1 3
        · have HN:=zh (KEY.out (zAs g1));go_wp2_with (go_at_call 61;refine(zAb _ _ _ _).mono ?_;rintro e w' ⟨rfl,rfl⟩)
          go_ret;exact⟨zA1 HN.out.symm,HQ.out.alloc _⟩
        · cases g2:zA4 x.From 0 (n - 1)
          · have HN:=zh (KEY.out ((zAj g1).trans (zAs g2)));go_wp2_with (go_at_call 61;refine(zAb _ _ _ _).mono ?_;rintro e w' ⟨rfl,rfl⟩)
            go_ret;exact⟨zA1 HN.out.symm,HQ.out.alloc _⟩
          · cases g3:zA4 x.To 0 (n - 1)
            · have HN:=zh (KEY.out ((zAj g1).trans ((zAj g2).trans (zAs g3))));go_wp2_with (go_at_call 61;refine(zAb _ _ _ _).mono ?_;rintro e w' ⟨rfl,rfl⟩)
              go_ret;exact⟨zA1 HN.out.symm,HQ.out.alloc _⟩
            · cases g4:(x.From == x.To)
              · cases g5:zA4 x.Size 1 4
                · have HN:=zh (KEY.out ((zAj g1).trans ((zAj g2).trans ((zAj g3).trans ((zAj (not_f g4)).trans (zAs g5))))));go_wp2_with (go_at_call 61;refine(zAb _ _ _ _).mono ?_;rintro e w' ⟨rfl,rfl⟩)
                  go_ret;exact⟨zA1 HN.out.symm,HQ.out.alloc _⟩
                · have hcvs:M.cvs n x = !(x.Kind == 1 && !(x.Size == 1)):=(zAj g1).trans ((zAj g2).trans ((zAj g3).trans ((zAj (not_f g4)).trans (zAj g5))));cases g6:(x.Kind == 1)
                  · have HN:=zh ((hst.out.trans (hcvs.trans (by simp[g6]))):_=true)
                    clear hcvs;go_wp2_with (go_at_call 61;refine(zAb _ _ _ _).mono ?_;rintro e w' ⟨rfl,rfl⟩)
                    go_roundw
                    case rel=>exact⟨k+1,by omega,by go_num,HN.out,HQ.out.alloc _⟩
                    case measure=>simp[intOf];omega
                  · cases g7:(x.Size == 1)
                    · have HN:=zh (KEY.out (hcvs.trans (by simp[g6,g7])))
                      clear hcvs;go_wp2_with (go_at_call 61;refine(zAb _ _ _ _).mono ?_;rintro e w' ⟨rfl,rfl⟩)
                      go_ret;exact⟨zA1 HN.out.symm,HQ.out.alloc _⟩
                    · have HN:=zh ((hst.out.trans (hcvs.trans (by simp[g6,g7]))):_=true)
                      clear hcvs;go_wp2_with (go_at_call 61;refine(zAb _ _ _ _).mono ?_;rintro e w' ⟨rfl,rfl⟩)
                      go_roundw
                      case rel=>exact⟨k+1,by omega,by go_num,HN.out,HQ.out.alloc _⟩
                      case measure=>simp[intOf];omega
              · have HN:=zh (KEY.out ((zAj g1).trans ((zAj g2).trans ((zAj g3).trans (zAs (not_t g4))))));go_wp2_with (go_at_call 61;refine(zAb _ _ _ _).mono ?_;rintro e w' ⟨rfl,rfl⟩)
                go_ret;exact⟨zA1 HN.out.symm,HQ.out.alloc _⟩
      · have HN:Hid (zCt xs n=decide (xs.length<=8)):=zh (by
          unfold zCt;rw[<- zB7 (zGy n) xs k (by omega),HE.out,Bool.and_true,h1,Bool.true_and])
        clear H;by_cases hle:xs.length<=8
        · go_wp2_with (go_at_call 61;refine(zAb _ _ _ _).mono ?_;rintro e w' ⟨rfl,rfl⟩)
          go_ret;exact⟨zA1 (HN.out.trans (decide_eq_true hle)).symm,HQ.out⟩
        · go_wp2_with (go_at_call 61;refine(zAb _ _ _ _).mono ?_;rintro e w' ⟨rfl,rfl⟩)
          go_ret;exact⟨zA1 (HN.out.trans (decide_eq_false hle)).symm,HQ.out⟩
noncomputable def zAx(s:Setup):Bool:=zDi s.Parts && (zCt s.Channels s.Parts.length && zCg s.Slots s.Parts.length)
theorem zBy(v:Value)(s:Setup)(w:World)(h:Rv w v s) :
  Calls Tryz.prog 51 #[v] w fun e w'=>e = .returned (.bool (zAx s))/\Ext w w':=by
 obtain⟨a0,c0,a1,c1,a2,c2,rfl,h0,hl0,h1,hl1,h2,hl2⟩:=h.openSetup;clear h;have e0:=zh ((zr w).alloc (.cells #[.slice a0 s.Parts.length c0,.slice a1 s.Channels.length c1,.slice a2 s.Slots.length c2] 27));cases g0:zDi s.Parts
 ·have hm:=zh ((zAs g0).symm:_=zAx s);go_enter Tryz.func51,Tryz.ntmps51;go_wp2_with fail
  refine(zBx _ _ _ (h0.out.ext e0.out)).mono ?_;rintro e w1 ⟨rfl,he1⟩;have E1:=zh (e0.out.tr he1);clear he1;go_wp2;go_ret;exact⟨zA1 hm.out,E1.out⟩
 ·cases g1:zCt s.Channels s.Parts.length
  ·have hm:=zh (((zAj g0).trans (zAs g1)).symm:_=zAx s);go_enter Tryz.func51,Tryz.ntmps51;go_wp2_with fail
   refine(zBx _ _ _ (h0.out.ext e0.out)).mono ?_;rintro e w1 ⟨rfl,he1⟩;have E1:=zh (e0.out.tr he1);obtain⟨hcb,hfb⟩:=zDm he1;go_wp2_with fail
   refine(zC7 _ _ _ _ (h1.out.ext E1.out)).mono ?_;rintro e w2 ⟨rfl,he2⟩;have E2:=zh (E1.out.tr he2);clear he1 he2 hcb hfb;go_wp2;go_ret;exact⟨zA1 hm.out,E2.out⟩
  ·have hm:=zh (((zAj g0).trans (zAj g1)).symm:_=zAx s);go_enter Tryz.func51,Tryz.ntmps51;go_wp2_with fail
   refine(zBx _ _ _ (h0.out.ext e0.out)).mono ?_;rintro e w1 ⟨rfl,he1⟩;have E1:=zh (e0.out.tr he1);obtain⟨hcb,hfb⟩:=zDm he1;go_wp2_with fail
   refine(zC7 _ _ _ _ (h1.out.ext E1.out)).mono ?_;rintro e w2 ⟨rfl,he2⟩;have E2:=zh (E1.out.tr he2);obtain⟨hcb2,hfb2⟩:=zDm (he1.tr he2);clear he1 he2 hcb hfb;go_wp2_with fail
   refine(zCx _ _ _ _ (h2.out.ext E2.out)).mono ?_;rintro e w3 ⟨rfl,he3⟩;have E3:=zh (E2.out.tr he3);clear he3;go_wp2;go_ret;exact⟨zA1 hm.out,E3.out⟩
theorem zAi(v:Value)(s:Setup)(w:World)(h:Rv w v s) :
  Calls Tryz.prog 26 #[v] w fun e w'=>e = .returned (.bool (zAx s))/\Ext w w':=by
 obtain⟨a0,c0,a1,c1,a2,c2,rfl,h0,hl0,h1,hl1,h2,hl2⟩:=h.openSetup;clear h;have e0:=zh ((zr w).alloc (.cells #[.slice a0 s.Parts.length c0,.slice a1 s.Channels.length c1,.slice a2 s.Slots.length c2] 27));cases g0:zDi s.Parts
 ·have hm:=zh ((zAs g0).symm:_=zAx s);go_enter Tryz.func26,Tryz.ntmps26;go_wp2_with fail
  refine(zC0 _ _ _ (h0.out.ext e0.out)).mono ?_;rintro e w1 ⟨rfl,he1⟩;have E1:=zh (e0.out.tr he1);clear he1;go_wp2;go_ret;exact⟨zA1 hm.out,E1.out⟩
 ·cases g1:zCt s.Channels s.Parts.length
  ·have hm:=zh (((zAj g0).trans (zAs g1)).symm:_=zAx s);go_enter Tryz.func26,Tryz.ntmps26;go_wp2_with fail
   refine(zC0 _ _ _ (h0.out.ext e0.out)).mono ?_;rintro e w1 ⟨rfl,he1⟩;have E1:=zh (e0.out.tr he1);obtain⟨hcb,hfb⟩:=zDm he1;go_wp2_with fail
   refine(zAn _ _ _ _ (h1.out.ext E1.out)).mono ?_;rintro e w2 ⟨rfl,he2⟩;have E2:=zh (E1.out.tr he2);clear he1 he2 hcb hfb;go_wp2;go_ret;exact⟨zA1 hm.out,E2.out⟩
  ·have hm:=zh (((zAj g0).trans (zAj g1)).symm:_=zAx s);go_enter Tryz.func26,Tryz.ntmps26;go_wp2_with fail
   refine(zC0 _ _ _ (h0.out.ext e0.out)).mono ?_;rintro e w1 ⟨rfl,he1⟩;have E1:=zh (e0.out.tr he1);obtain⟨hcb,hfb⟩:=zDm he1;go_wp2_with fail
   refine(zAn _ _ _ _ (h1.out.ext E1.out)).mono ?_;rintro e w2 ⟨rfl,he2⟩;have E2:=zh (E1.out.tr he2);obtain⟨hcb2,hfb2⟩:=zDm (he1.tr he2);clear he1 he2 hcb hfb;go_wp2_with fail
   refine(zFx _ _ _ _ (h2.out.ext E2.out)).mono ?_;rintro e w3 ⟨rfl,he3⟩;have E3:=zh (E2.out.tr he3);clear he3;go_wp2;go_ret;exact⟨zA1 hm.out,E3.out⟩
end Sk
