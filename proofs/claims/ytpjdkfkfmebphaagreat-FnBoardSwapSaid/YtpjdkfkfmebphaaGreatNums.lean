/- Contracts of functions of the given program. -/
import Derived.Test.YtpjdkfkfmebphaaGreatValid
namespace Sk
open Go Go.Proofs Go.RowKit
set_option maxHeartbeats 400000
set_option maxRecDepth 100000
set_option linter.unusedVariables false
set_option linter.unusedSimpArgs false
theorem zCj:El Tryz.prog 3 Int:=El.of (z:=.int .i64 0) (n:=1) (b:=8) (by kernel_rfl) rfl rfl (by decide)
def CI(w:World)(b:Nat):Nat->List Int->Prop
 | _,[]=>True
 | o,n::ns=>w.cell? ⟨b,o,none⟩=some (.int .i64 n)/\rng n/\CI w b (o+1) ns
theorem CI.row{w:World}{b:Nat}{ns:List Int}:∀ {o:Nat},CI w b o ns->Row w b o ns []:=by
 induction ns with
 | nil=>intro o _;rfl
 | cons n ns ih =>
  intro o h;exact⟨[.int .i64 n],[],[],⟨rfl,h.2.1,rfl⟩,fun j u hj=>by
   cases j with
   | zero=>simp at hj;subst hj;exact h.1
   | succ j=>simp at hj,rfl,ih h.2.2⟩
theorem zGa{n:Int}(h1 : -9223372036854775808<=n)(h2:n<=9223372036854775807):rng n:=⟨h1,h2⟩
def zMi(x:Window):List Int:=[x.Base,x.Size,zCv x.Write]
def zH3(p:Part):List Int:=[p.Cells,(p.Windows.length:Int)]++p.Windows.flatMap zMi
def zKb(c:Channel):List Int:=[c.Kind,c.From,c.To,c.Size]
def zM1(x:Slot):List Int:=[x.Who+1,x.Ticks]
def zEa(s:Setup):List Int :=
 ((((([(s.Parts.length:Int)]++s.Parts.flatMap zH3) ++ [(s.Channels.length:Int)])++s.Channels.flatMap zKb) ++ [(s.Slots.length:Int)])++s.Slots.flatMap zM1)
noncomputable def zAw(s:Setup):List Int:=if zAr s then zEa s else []
theorem zBg{α β:Type}(f : α -> List β){xs:List α}{k:Nat}{x : α}(h:xs[k]? = some x):(xs.take (k+1)).flatMap f=(xs.take k).flatMap f++f x:=by
 rw[zAg h,List.flatMap_append];simp
theorem zCs(v:Value)(xs:List Int)(w:World)(a:Option Addr)(c:Nat)(hv:v = .slice a xs.length c)(hc:xs.length<=c)(hl:c<=9223372036854775807) :
  Calls Tryz.prog 74 #[v] w fun e w'=>e = .returned (.slice a xs.length xs.length)/\w=w':=by
 subst hv;go_enter Tryz.func74,Tryz.ntmps74;go_wp2;go_ret;exact⟨rfl,rfl⟩
theorem box3{w w1:World}{c0 c1 c2:Value}{T:TypeId}(he:Ext (w.alloc (.cells #[c0,c1,c2] T)) w1) :
  w.heap.size < w1.heap.size/\w1.cell? ⟨w.heap.size,0,none⟩=some c0/\w1.cell? ⟨w.heap.size,1,none⟩=some c1/\w1.cell? ⟨w.heap.size,2,none⟩=some c2:=by
 have hs:w.heap.size < (w.alloc (.cells #[c0,c1,c2] T)).heap.size:=by simp
 refine⟨zl hs he.sz,?_,?_,?_⟩
 all_goals rw[(zD9 he).1 _ _ hs];simp
theorem zJa(b:Bool):rng (zCv b):=by cases b<;>exact⟨by decide,by decide⟩
theorem zAn{s:Setup}(h:zAr s=true):s.Parts.length<=5:=by
 simp only[zAr,zF8,Bool.and_eq_true,decide_eq_true_eq] at h;exact h.1.1
theorem zCp{α β:Type}(f : α -> List β)(xs:List α)(k B:Nat)(h:∀ x∈xs,(f x).length<=B):((xs.take k).flatMap f).length<=xs.length*B:=by
 have h2:∀ ys:List α,(∀ x∈ys,(f x).length<=B)->(ys.flatMap f).length<=ys.length*B:=by
  intro ys
  induction ys with
  | nil=>intro _;simp
  | cons y ys ih =>
   intro hy
   have:=ih (fun x hx=>hy x (List.mem_cons_of_mem _ hx))
   have:=hy y (List.mem_cons_self ..)
   rw[List.flatMap_cons,List.length_append,List.length_cons,Nat.succ_mul];omega
 refine Nat.le_trans (h2 _ fun x hx=>h x (List.mem_of_mem_take hx)) (Nat.mul_le_mul_right _ ?_)
 rw[List.length_take];omega
theorem zAu{s:Setup}(h:zAr s=true):s.Channels.length<=8:=by
 simp only[zAr,zCk,Bool.and_eq_true,decide_eq_true_eq] at h;exact h.2.1.2.1
theorem zDz{s:Setup}(h:zAr s=true):s.Slots.length<=12:=by
 simp only[zAr,zDo,Bool.and_eq_true,zA6] at h;omega
theorem zHl{s:Setup}(h:zAr s=true){x:Slot}(hx:x∈s.Slots) : -1<=x.Who/\x.Who<=5:=by
 have hp:=zAn h;simp only[zAr,zDo,Bool.and_eq_true,List.all_eq_true,zDv,zA6] at h
 have:=h.2.2.2.2 x hx;omega
theorem zOe{s:Setup}(h:zAr s=true){x:Part}(hx:x∈s.Parts):zGj x.Windows=true/\zA8 x.Cells 1 8=true:=by
 simp only[zAr,zF8,Bool.and_eq_true,List.all_eq_true] at h
 have:=h.1.2 x hx
 simpa only[zDl,Bool.and_eq_true] using this
theorem zEd{s:Setup}(h:zAr s=true){k:Nat}{x:Part}(hx:s.Parts[k]? = some x):x.Windows.length<=12:=by
 have:=(zOe h (List.mem_of_getElem? hx)).1
 simp only[zGj,Bool.and_eq_true,decide_eq_true_eq] at this;exact this.1
theorem zJ6{s:Setup}(h:zAr s=true){x:Part}(hx:x∈s.Parts):(zH3 x).length<=38:=by
 obtain⟨k,hk⟩:=List.getElem?_of_mem hx;have h1:=zEd h hk;have h2:=zCp zMi x.Windows x.Windows.length 3 (fun y _=>by simp[zMi])
 rw[List.take_length] at h2;simp only[zH3,List.length_append,List.length_cons,List.length_nil];omega
theorem zH8(v:Value)(s:Setup)(w:World)(h:Rv w v s) :
  Calls Tryz.prog 37 #[v] w fun e w' => ∃ v',e = .returned v'/\Os w.heap.size w' v' (zAw s)/\(∃ a,v' = .slice a (zAw s).length (zAw s).length)/\Ext w w':=by
 have H:=zh h;obtain⟨a0,c0,a1,c1,a2,c2,rfl,h0,hl0,h1,hl1,h2,hl2⟩:=h.openSetup;clear h;have e0:=zh ((zr w).alloc (.cells #[.slice a0 s.Parts.length c0,.slice a1 s.Channels.length c1,.slice a2 s.Slots.length c2] 27));cases g0:zAr s
 ·have hm:Hid (zAw s = []):=zh (by unfold zAw;rw[g0];rfl)
  go_enter Tryz.func37,Tryz.ntmps37;go_wp2_with fail
  refine(zC5 _ s _ (H.out.ext e0.out)).mono ?_;rintro e w1 ⟨rfl,he1⟩;have E1:=zh (e0.out.tr he1);clear he1;go_wp2;go_ret;exact⟨_,rfl,by rw[hm.out];exact(Oa.nil 3 w.heap.size _).os (Own.nil _ _),⟨none,by rw[hm.out];rfl⟩,E1.out⟩
 ·have hm:Hid (zAw s=zEa s):=zh (by unfold zAw;rw[g0];rfl)
  go_enter Tryz.func37,Tryz.ntmps37;go_wp2_with fail
  refine(zC5 _ s _ (H.out.ext e0.out)).mono ?_;rintro e w1 ⟨rfl,he1⟩;have E1:=zh (e0.out.tr he1);obtain⟨hz,hx0,hx1,hx2⟩:=box3 he1;clear he1;have hps:s.Parts.length<=5:=zAn g0;go_wp2;go_loopw [3,22] (fun out i wr => ∃ (k:Nat) (ao:Option Addr) (no co:Nat),k<=s.Parts.length/\i = .int .i64 k/\out = .slice ao no co/\Oa 3 w1.heap.size wr (.slice ao no co) ([(s.Parts.length:Int)]++(s.Parts.take k).flatMap zH3) []/\Ext w1 wr) (fun _ i _=>s.Parts.length - (intOf i).toNat)
  case atStart=>exact⟨0,_,_,_,Nat.zero_le _,rfl,rfl,Oa.lit 3 w1 [.int .i64 s.Parts.length] [(s.Parts.length:Int)] rfl rfl (by simp) (CI.row ⟨by simp,zGa (by omega) (by omega),trivial⟩) (by simp),(zr _).alloc _⟩
  case round =>
   obtain⟨k,ao,no,co,hk,rfl,rfl,ho,hq⟩:=hrel;have HO:=zh ho;have HQ:=zh hq;clear ho;have hzs:=hq.sz;obtain⟨hcb,hfb⟩:=zD9 hq;clear hq;by_cases hlt:k < s.Parts.length
   ·obtain⟨b,o,x,a3,c3,rfl,hb,hx,hc0,hc1,hr1,hs0,hl3,hv⟩:=(h0.out.ext E1.out).atPart k hlt;have hxw:x.Windows.length<=12:=zEd g0 hx.out;have hbd:=zh (zCp zH3 s.Parts k 38 (fun y hy=>zJ6 g0 hy))
    go_wp2_with (at_builtin;refine zC9 (α:=Int) rfl _ _ 41 rfl 3 Tryz.underlying41 zCj (v:=.slice ao no co) (ys:=[x.Cells,(x.Windows.length:Int)]) rfl (HO.out.ext (((zr _).alloc _).alloc _)) rfl rfl (CI.row ⟨by simp,hr1,by simp,zGa (by omega) (by omega),trivial⟩) (by omega) (by simp) (by have:=hbd.out;simp only[List.length_append,List.length_cons,List.length_nil];omega) (by simp;omega) ?_;intro v' w' hO' hgr;have hbx:=zAq (b:=wr.heap.size) (o:=0) (u:=.slice a3 x.Windows.length c3) hgr (zKe (by simp)) (by simp;omega) (fun k hk e=>by have:=HO.out.lt k hk;omega);have HO2:=zh hO';have HQ2:=zh (Ext.grown ((HQ.out.alloc _).alloc _) hgr HO.out.own);clear hO' hgr;obtain⟨ao2,co2,rfl,_⟩:=HO2.out.form)
    go_loopw [3,37] (fun out i wi => ∃ (j:Nat) (ao no co:_),j<=x.Windows.length/\i = .int .i64 j/\out = .slice ao no co/\Oa 3 w1.heap.size wi (.slice ao no co) ([(s.Parts.length:Int)]++(s.Parts.take k).flatMap zH3++([x.Cells,(x.Windows.length:Int)]++(x.Windows.take j).flatMap zMi)) []/\Ext w1 wi) (fun _ i _=>x.Windows.length - (intOf i).toNat)
    case atStart=>exact⟨0,_,_,_,Nat.zero_le _,rfl,rfl,by simpa using HO2.out,HQ2.out⟩
    case round =>
     obtain⟨j,ao,no,co,hj,rfl,rfl,ho,hq⟩:=hrel;have HO3:=zh ho;have HQ3:=zh hq;clear ho;have hzs3:=hq.sz;obtain⟨hcb3,hfb3⟩:=zD9 hq;clear hq;by_cases hjt:j < x.Windows.length
     ·obtain⟨b3,o3,y,rfl,hb3,hy,hd0,hd1,hd2,hs1,hs2,hv3⟩:=hs0.out.atWindow j hjt;have hbd3:=zh (zCp zMi x.Windows j 3 (fun y _=>by simp[zMi]))
      go_wp2;have hbx:=box3 (zr (wr.alloc (.cells #[.int .i64 y.Base,.int .i64 y.Size,.bool y.Write] 80)));have HX2:=zh ((zr wr).alloc (.cells #[.int .i64 y.Base,.int .i64 y.Size,.bool y.Write] 80))
      generalize wr.alloc (.cells #[.int .i64 y.Base,.int .i64 y.Size,.bool y.Write] 80)=W2 at *
      obtain⟨hz2,hy0,hy1,hy2⟩:=hbx
      go_region_held3 (fun u=>u.cell? ⟨wr.heap.size,0,none⟩=some (.int .i64 y.Base)/\u.cell? ⟨wr.heap.size,1,none⟩=some (.int .i64 y.Size)/\u.cell? ⟨wr.heap.size,2,none⟩=some (.bool y.Write))
       (first
        | go_keep
        | exact⟨zAq hgr (by go_keep) (by simp;omega) hne,zAq hgr (by go_keep) (by simp;omega) hne,zAq hgr (by go_keep) (by simp;omega) hne⟩)
       (first
        | (go_at_call 73;refine(zLp _ _).mono ?_;rintro e w' ⟨rfl,rfl⟩)
        | (refine step_app (α:=Int) rfl _ _ 41 rfl 3 Tryz.underlying41 zCj (v:=.slice ao no co) (ys:=[y.Base,y.Size,zCv y.Write]) rfl (HO3.out.ext (HX2.out.drew.alloc _)) rfl rfl (CI.row ⟨by simp,hs1,by simp,hs2,by simp,zJa _,trivial⟩) (by omega) (by simp) (by have:=hbd.out;have:=hbd3.out;simp only[List.length_append,List.length_cons,List.length_nil];omega) (by simp;omega) ?_;intro v' w' hO' hgr;have hne:∀ k,(Value.slice ao no co).ownBlock=some k->k≠wr.heap.size:=fun k hk e=>by have:=HO3.out.lt k hk;omega))
      have HO4:=zh hO';have HQ4:=zh (Ext.grown (HQ3.out.tr (HX2.out.drew.alloc _)) hgr HO3.out.own);clear hO' hgr;obtain⟨ao4,co4,rfl,_⟩:=HO4.out.form;go_wp2;go_roundw
      case rel=>exact⟨j+1,_,_,_,by omega,by go_num,rfl,by rw[zBg zMi hy.out];simpa [zMi] using HO4.out,HQ4.out⟩
      case measure=>simp[intOf];omega
     ·obtain rfl:j=x.Windows.length:=by omega
      go_wp2;go_roundw
      case rel=>exact⟨k+1,_,_,_,by omega,by go_num,rfl,by rw[zBg zH3 hx.out];simpa [zH3] using HO3.out,HQ3.out⟩
      case measure=>simp[intOf];omega
   ·obtain rfl:k=s.Parts.length:=by omega
    have hbd:=zh (zCp zH3 s.Parts s.Parts.length 38 (fun y hy=>zJ6 g0 hy))
    have HP:Hid (Oa 3 w1.heap.size wr (.slice ao no co) ([(s.Parts.length:Int)]++s.Parts.flatMap zH3) []):=by have:=HO.out;rwa [List.take_length] at this
    rw[List.take_length] at hbd;have hcl:s.Channels.length<=8:=zAu g0;have hsl:s.Slots.length<=12:=zDz g0;clear HO;go_wp2_with (at_builtin;refine zC9 (α:=Int) rfl _ _ 41 rfl 3 Tryz.underlying41 zCj (v:=.slice ao no co) (ys:=[(s.Channels.length:Int)]) rfl (HP.out.ext ((zr _).alloc _)) rfl rfl (CI.row ⟨by simp,zGa (by omega) (by omega),trivial⟩) (by omega) (by simp) (by have:=hbd.out;simp only[List.length_append,List.length_cons,List.length_nil];omega) (by simp;omega) ?_;intro v' w' hO' hgr;have HO2:=zh hO';have HQ2:=zh (Ext.grown (HQ.out.alloc _) hgr HP.out.own);obtain⟨hcb2,hfb2⟩:=zD9 HQ2.out;clear hO' hgr hcb hfb;obtain⟨ao2,co2,rfl,_⟩:=HO2.out.form)
    obtain⟨wp,rfl⟩:∃ wp:World,wp=wr:=⟨_,rfl⟩;go_loopw [3,9,62] (fun out _ i wr => ∃ (k:Nat) (ao:Option Addr) (no co:Nat),k<=s.Channels.length/\i = .int .i64 k/\out = .slice ao no co/\Oa 3 w1.heap.size wr (.slice ao no co) (([(s.Parts.length:Int)]++s.Parts.flatMap zH3) ++ [(s.Channels.length:Int)]++(s.Channels.take k).flatMap zKb) []/\Ext w1 wr) (fun _ _ i _=>s.Channels.length - (intOf i).toNat)
    case atStart=>exact⟨0,_,_,_,Nat.zero_le _,rfl,rfl,by simpa using HO2.out,HQ2.out⟩
    case round =>
     clear hcb2 hfb2 HO2 HQ2 HP HQ;obtain⟨k,ao,no,co,hk,rfl,rfl,ho,hq⟩:=hrel;have HO:=zh ho;have HQ:=zh hq;clear ho;have hzs:=hq.sz;obtain⟨hcb,hfb⟩:=zD9 hq;clear hq;have hbc:=zh (zCp zKb s.Channels k 4 (fun y _=>by simp[zKb]))
     by_cases hlt:k < s.Channels.length
     ·obtain⟨b,o,x,rfl,hb,hx,hc0,hc1,hc2,hc3,hr0,hr1,hr2,hr3,hv⟩:=(h1.out.ext E1.out).atChannel k hlt;go_wp2_with (at_builtin;refine zC9 (α:=Int) rfl _ _ 41 rfl 3 Tryz.underlying41 zCj (v:=.slice ao no co) (ys:=[x.Kind,x.From,x.To,x.Size]) rfl (HO.out.ext (((zr _).alloc _).alloc _)) rfl rfl (CI.row ⟨by simp,hr0,by simp,hr1,by simp,hr2,by simp,hr3,trivial⟩) (by omega) (by simp) (by have:=hbd.out;have:=hbc.out;simp only[List.length_append,List.length_cons,List.length_nil];omega) (by simp;omega) ?_;intro v' w' hO' hgr;have HO2:=zh hO';have HQ2:=zh (Ext.grown ((HQ.out.alloc _).alloc _) hgr HO.out.own);clear hO' hgr;obtain⟨ao2,co2,rfl,_⟩:=HO2.out.form)
      go_roundw
      case rel=>exact⟨k+1,_,_,_,by omega,by go_num,rfl,by rw[zBg zKb hx.out];simpa [zKb] using HO2.out,HQ2.out⟩
      case measure=>simp[intOf];omega
     ·obtain rfl:k=s.Channels.length:=by omega
      have HP:Hid (Oa 3 w1.heap.size wr (.slice ao no co) (([(s.Parts.length:Int)]++s.Parts.flatMap zH3) ++ [(s.Channels.length:Int)]++s.Channels.flatMap zKb) []):=by have:=HO.out;rwa [List.take_length] at this
      rw[List.take_length] at hbc;clear HO;go_wp2_with (at_builtin;refine zC9 (α:=Int) rfl _ _ 41 rfl 3 Tryz.underlying41 zCj (v:=.slice ao no co) (ys:=[(s.Slots.length:Int)]) rfl (HP.out.ext ((zr _).alloc _)) rfl rfl (CI.row ⟨by simp,zGa (by omega) (by omega),trivial⟩) (by omega) (by simp) (by have:=hbd.out;have:=hbc.out;simp only[List.length_append,List.length_cons,List.length_nil];omega) (by simp;omega) ?_;intro v' w' hO' hgr;have HO2:=zh hO';have HQ2:=zh (Ext.grown (HQ.out.alloc _) hgr HP.out.own);obtain⟨hcb2,hfb2⟩:=zD9 HQ2.out;clear hO' hgr hcb hfb;obtain⟨ao2,co2,rfl,_⟩:=HO2.out.form)
      obtain⟨wq,rfl⟩:∃ wq:World,wq=wr:=⟨_,rfl⟩;go_loopw [3,11,87] (fun out _ i wr => ∃ (k:Nat) (ao:Option Addr) (no co:Nat),k<=s.Slots.length/\i = .int .i64 k/\out = .slice ao no co/\Oa 3 w1.heap.size wr (.slice ao no co) (([(s.Parts.length:Int)]++s.Parts.flatMap zH3) ++ [(s.Channels.length:Int)]++s.Channels.flatMap zKb ++ [(s.Slots.length:Int)]++(s.Slots.take k).flatMap zM1) []/\Ext w1 wr) (fun _ _ i _=>s.Slots.length - (intOf i).toNat)
      case atStart=>exact⟨0,_,_,_,Nat.zero_le _,rfl,rfl,by simpa using HO2.out,HQ2.out⟩
      case round =>
       clear hcb2 hfb2 HO2 HQ2 HP HQ;obtain⟨k,ao,no,co,hk,rfl,rfl,ho,hq⟩:=hrel;have HO:=zh ho;have HQ:=zh hq;clear ho;have hzs:=hq.sz;obtain⟨hcb,hfb⟩:=zD9 hq;clear hq;have hbs:=zh (zCp zM1 s.Slots k 2 (fun y _=>by simp[zM1]))
       by_cases hlt:k < s.Slots.length
       ·obtain⟨b,o,x,rfl,hb,hx,hc0,hc1,hr0,hr1,hv⟩:=(h2.out.ext E1.out).atSlot k hlt;have hwb:=zHl g0 (List.mem_of_getElem? hx.out);obtain⟨hwb1,hwb2⟩:=hwb;go_wp2_with (at_builtin;refine zC9 (α:=Int) rfl _ _ 41 rfl 3 Tryz.underlying41 zCj (v:=.slice ao no co) (ys:=[x.Who+1,x.Ticks]) rfl (HO.out.ext (((zr _).alloc _).alloc _)) rfl rfl (CI.row ⟨by simp,zGa (by omega) (by omega),by simp,hr1,trivial⟩) (by omega) (by simp) (by have:=hbd.out;have:=hbc.out;have:=hbs.out;simp only[List.length_append,List.length_cons,List.length_nil];omega) (by simp;omega) ?_;intro v' w' hO' hgr;have HO2:=zh hO';have HQ2:=zh (Ext.grown ((HQ.out.alloc _).alloc _) hgr HO.out.own);clear hO' hgr;obtain⟨ao2,co2,rfl,_⟩:=HO2.out.form)
        go_roundw
        case rel=>exact⟨k+1,_,_,_,by omega,by go_num,rfl,by rw[zBg zM1 hx.out];simpa [zM1] using HO2.out,HQ2.out⟩
        case measure=>simp[intOf];omega
       ·obtain rfl:k=s.Slots.length:=by omega
        have HF:Hid (Oa 3 w1.heap.size wr (.slice ao no co) (zEa s) []):=by have:=HO.out;rw[List.take_length] at this;exact zh (by simpa [zEa] using this)
        clear HO;obtain⟨a9,c9,e9,_⟩:=HF.out.form;cases e9;have hcap:=zh HF.out.cap;go_wp2_with (go_at_call 74;refine(zCs _ (zEa s) _ _ _ rfl hcap.out.1 hcap.out.2).mono ?_;rintro e w9 ⟨rfl,rfl⟩)
        go_ret;exact⟨_,rfl,by rw[hm.out];exact((HF.out.mono E1.out.sz).os (Own.nil _ _)).clip,by rw[hm.out];exact⟨_,rfl⟩,E1.out.tr HQ.out⟩
theorem zEi(v:Value)(s:Setup)(w:World)(h:Rv w v s) :
  Calls Tryz.prog 37 #[v] w fun e w' => ∃ v',e = .returned v'/\Os w.heap.size w' v' (zAw s)/\Ext w w' :=
 (zH8 v s w h).mono fun e w' ⟨v',h1,h2,_,h4⟩=>⟨v',h1,h2,h4⟩
def Ov{α:Type}[GT α](L:Nat)(w:World)(v:Value)(x : α):Prop:=∃ cs F,v = .agg cs.toArray/\GT.enc w cs x F/\Own L w F
theorem Ov.rv{α:Type}[GT α]{L:Nat}{w:World}{v:Value}{x : α}(h:Ov L w v x):Rv w v x:=by obtain⟨cs,F,h1,h2,_⟩:=h;exact⟨cs,F,h1,h2⟩
theorem Ov.mono{α:Type}[GT α]{L L':Nat}{w:World}{v:Value}{x : α}(h:Ov L w v x)(hl:L'<=L):Ov L' w v x:=by
 obtain⟨cs,F,h1,h2,h3⟩:=h;exact⟨cs,F,h1,h2,h3.mono hl⟩
def Hi(n:Nat)(w w':World):Prop:=w'.heap.size=w.heap.size/\∀ b,n<=b->w'.heap[b]? = w.heap[b]?
theorem Hi.refl(n:Nat)(w:World):Hi n w w:=⟨rfl,fun _ _=>rfl⟩
theorem Hi.set{n:Nat}{w w':World}(h:Hi n w w'){p:Addr}(hp:p.block < n)(u:Value):Hi n w (w'.setCell p u) :=
 ⟨by rw[<- h.1];simp,fun b hb=>by rw[zA3 (by omega)];exact h.2 b hb⟩
def Seg(L M:Nat)(w:World)(F:List Nat):Prop:=Own L w F/\(∀ b∈F,b < M)/\L<=M
theorem Seg.hi{L M n:Nat}{w w':World}{F:List Nat}(h:Seg L M w F)(he:Hi n w w')(hn:n<=L):Seg L M w' F :=
 ⟨⟨h.1.1,fun b hb=>⟨(h.1.2 b hb).1,by
  obtain⟨cs,T,hk⟩:=(h.1.2 b hb).2;refine⟨cs,T,?_⟩;unfold Bk at *;rw[he.2 b (Nat.le_trans hn (h.1.2 b hb).1)];exact hk⟩⟩,h.2⟩
theorem Seg.wide{L M L' M':Nat}{w:World}{F:List Nat}(h:Seg L M w F)(hl:L'<=L)(hm:M<=M'):Seg L' M' w F :=
 ⟨h.1.mono hl,fun b hb=>zl (h.2.1 b hb) hm,Nat.le_trans hl (Nat.le_trans h.2.2 hm)⟩
def Oe{α:Type}[GT α](L M:Nat)(w:World)(cs:List Value)(x : α):Prop:=∃ F,GT.enc w cs x F/\Seg L M w F
theorem Oe.hi{α:Type}[GT α]{L M n:Nat}{w w':World}{cs:List Value}{x : α}(h:Oe L M w cs x)(he:Hi n w w')(hn:n<=L):Oe L M w' cs x:=by
 obtain⟨F,h,o⟩:=h;exact⟨F,GT.keep h (fun b hb=>he.2 b (Nat.le_trans hn (o.1.2 b hb).1)),o.hi he hn⟩
theorem Oe.wide{α:Type}[GT α]{L M L' M':Nat}{w:World}{cs:List Value}{x : α}(h:Oe L M w cs x)(hl:L'<=L)(hm:M<=M'):Oe L' M' w cs x:=by
 obtain⟨F,h,o⟩:=h;exact⟨F,h,o.wide hl hm⟩
theorem Oe.ofS{α:Type}[GT α]{L L':Nat}{w:World}{v:Value}{xs:List α}(h:Os L w v xs)(hl:L'<=L)(hl2:L'<=w.heap.size):Oe L' w.heap.size w [v] xs:=by
 obtain⟨F,h,o⟩:=h;exact⟨F,⟨v,rfl,h⟩,o.mono hl,h.inh,hl2⟩
theorem Oe.ov{α:Type}[GT α]{L M:Nat}{w:World}{cs:List Value}{x : α}(h:Oe L M w cs x):Ov L w (.agg cs.toArray) x:=by
 obtain⟨F,h,o⟩:=h;exact⟨cs,F,rfl,h,o.1⟩
theorem Bk.new1(w:World)(A:Obj)(cs:List Value)(T:TypeId):Bk ((w.alloc A).alloc (.cells cs.toArray T (0,0))) (w.heap.size+1) cs T:=by
 have h:=Bk.new (w.alloc A) cs T
 rwa [show(w.alloc A).heap.size=w.heap.size+1 by simp] at h
theorem Bk.new2(w:World)(A B:Obj)(cs:List Value)(T:TypeId):Bk (((w.alloc A).alloc B).alloc (.cells cs.toArray T (0,0))) (w.heap.size+1+1) cs T:=by
 have h:=Bk.new ((w.alloc A).alloc B) cs T
 rwa [show((w.alloc A).alloc B).heap.size=w.heap.size+1+1 by simp] at h
theorem Rv.mkSetup{w:World}{x:Setup}{v0 v1 v2:Value}(h0:Rs w v0 x.Parts)(h1:Rs w v1 x.Channels)(h2:Rs w v2 x.Slots)  : Rv w (.agg #[v0,v1,v2]) x:=by
 obtain⟨F0,h0⟩:=h0;obtain⟨F1,h1⟩:=h1;obtain⟨F2,h2⟩:=h2;exact⟨_,_,rfl,_,_,_,_,_,_,rfl,h0,h1,h2,rfl⟩
theorem Oe.mkCore{w:World}{x:Core}{v0:Value}{M0 M1:Nat}(p0:Oe M0 M1 w [v0] x.Cells)(r1:rng x.At):Oe M0 M1 w [v0,.int .i64 x.At,.bool x.Stopped] x:=by
 obtain⟨F0,⟨u0,e0,h0⟩,s0⟩:=p0;obtain rfl:v0=u0:=by simpa using e0
 have s:=s0;refine⟨_,⟨_,rfl,h0,r1⟩,?_⟩;exact s
theorem Oe.mkHold{w:World}{x:Hold}{v0:Value}{M0 M1:Nat}(p0:Oe M0 M1 w [v0] x.Lst):Oe M0 M1 w [v0] x:=by
 obtain⟨F0,⟨u0,e0,h0⟩,s0⟩:=p0;obtain rfl:v0=u0:=by simpa using e0
 have s:=s0;refine⟨_,⟨_,rfl,h0⟩,?_⟩;exact s
theorem Rv.mkMachine{w:World}{x:Machine}{v0 v1 v2 v3 v4 v5:Value}(h0:Rs w v0 x.Plan.Parts)(h1:Rs w v1 x.Plan.Channels)(h2:Rs w v2 x.Plan.Slots)(h3:Rs w v3 x.Programs)(h4:Rs w v4 x.Cores)(h5:Rs w v5 x.Holds)(r6:rng x.Tick):Rv w (.agg #[v0,v1,v2,v3,v4,v5,.int .i64 x.Tick]) x:=by
 obtain⟨F0,h0⟩:=h0;obtain⟨F1,h1⟩:=h1;obtain⟨F2,h2⟩:=h2;obtain⟨F3,h3⟩:=h3;obtain⟨F4,h4⟩:=h4;obtain⟨F5,h5⟩:=h5;exact⟨_,_,rfl,_,_,_,_,_,_,_,_,_,_,_,_,rfl,h0,h1,h2,h3,h4,h5,r6,rfl⟩
theorem Rv.mkBoard{w:World}{x:Board}{v0 v1:Value}(h0:Rs w v0 x.Boxes)(h1:Rs w v1 x.Wires)  : Rv w (.agg #[v0,v1]) x:=by
 obtain⟨F0,h0⟩:=h0;obtain⟨F1,h1⟩:=h1;exact⟨_,_,rfl,_,_,_,_,rfl,h0,h1,rfl⟩
theorem zPs:(Tryz.prog.info? 4).map (fun i=>(i.zero,i.size,i.bytes))=some (some (.bool false),1,1):=by kernel_rfl
theorem zPt:(Tryz.prog.info? 69).map (fun i=>(i.zero,i.size,i.bytes))=some (some (.agg #[.slice none 0 0]),1,24):=by kernel_rfl
def Mo(F:List Nat)(w w':World):Prop :=
 w'.heap.size=w.heap.size/\Ext {w with heap:=#[]} {w' with heap:=#[]} /\ (∀ b,b ∉ F->w'.heap[b]? = w.heap[b]?)/\∀ b,Fz w b->Fz w' b
theorem Mo.refl(F:List Nat)(w:World):Mo F w w:=⟨rfl,zr _,fun _ _=>rfl,fun _ h=>h⟩
theorem Mo.set{F:List Nat}{a b:World}(h:Mo F a b){p:Addr}(hp:p.block∈F)(u:Value):Mo F a (b.setCell p u):=by
 refine⟨by rw[<- h.1];simp,?_,fun x hx=>?_,fun x hx=>(h.2.2.2 x hx).set p u⟩
 ·obtain⟨h1,h2,h3,h4,h5⟩:=h.2.1;exact⟨h1,h2,h3,h4,h5⟩
 ·rw[zA3 (fun e=>hx (by rw[e];exact hp))];exact h.2.2.1 x hx
theorem Mo.ext{F:List Nat}{W a b:World}(h:Mo F a b)(he:Ext W a)(hF:∀ x∈F,W.heap.size<=x):Ext W b:=by
 obtain⟨h1,h2,h3,h4,h5⟩:=he;obtain⟨k1,k2,k3,k4,k5⟩:=h.2.1;exact⟨k1.trans h1,k2.trans h2,k3.trans h3,by rw[h.1];exact h4,fun b hb=>(h.2.2.1 b (fun hm=>by have:=hF b hm;omega)).trans (h5 b hb)⟩
theorem Mo.own{F G:List Nat}{L:Nat}{a b:World}(h:Mo F a b)(ho:Own L a G):Own L b G:=⟨ho.1,fun x hx=>⟨(ho.2 x hx).1,h.2.2.2 x (ho.2 x hx).2⟩⟩
def Mx(F:List Nat)(w w':World):Prop :=
 Ext {w with heap:=#[]} {w' with heap:=#[]} /\ w.heap.size<=w'.heap.size/\(∀ b,b < w.heap.size->b ∉ F->w'.heap[b]? = w.heap[b]?)/\∀ b,Fz w b->Fz w' b
theorem Mx.ofExt{F:List Nat}{w w':World}(h:Ext w w'):Mx F w w' :=
 ⟨⟨h.os,h.tape,h.output,Nat.le_refl _,fun b hb=>by cases hb⟩,h.sz,fun b hb _=>h.block b hb,fun b hb=>hb.ext h⟩
theorem Mx.ofMo{F:List Nat}{w w':World}(h:Mo F w w'):Mx F w w':=⟨h.2.1,Nat.le_of_eq h.1.symm,fun b _ hn=>h.2.2.1 b hn,h.2.2.2⟩
theorem Mx.tr{F:List Nat}{a b c:World}(h:Mx F a b)(k:Mx F b c):Mx F a c :=
 ⟨h.1.tr k.1,Nat.le_trans h.2.1 k.2.1,fun x hx hn=>(k.2.2.1 x (zl hx h.2.1) hn).trans (h.2.2.1 x hx hn),fun x hx=>k.2.2.2 x (h.2.2.2 x hx)⟩
theorem Mx.ext{F:List Nat}{W a b:World}(h:Mx F a b)(he:Ext W a)(hF:∀ x∈F,W.heap.size<=x):Ext W b:=by
 obtain⟨h1,h2,h3,h4,h5⟩:=he;obtain⟨k1,k2,k3,k4,k5⟩:=h.1;exact⟨k1.trans h1,k2.trans h2,k3.trans h3,Nat.le_trans h4 h.2.1,fun b hb=>(h.2.2.1 b (zl hb h4) (fun hm=>by have:=hF b hm;omega)).trans (h5 b hb)⟩
theorem Mx.enc{α:Type}[GT α]{F G:List Nat}{a b:World}{cs:List Value}{x : α}(h:Mx F a b)(k:GT.enc a cs x G)(hd:∀ y,y∈G->y∈F->False):GT.enc b cs x G :=
 GT.keep k fun y hy=>h.2.2.1 y (GT.inh k y hy) (fun hf=>hd y hy hf)
theorem Mx.sl{α:Type}[GT α]{F G:List Nat}{a b:World}{v:Value}{x:List α}(h:Mx F a b)(k:Sl a v x G)(hd:∀ y,y∈G->y∈F->False):Sl b v x G :=
 k.keep fun y hy=>h.2.2.1 y (k.inh y hy) (fun hf=>hd y hy hf)
theorem Mx.bk{F:List Nat}{a b:World}{p:Nat}{cs:List Value}{T:TypeId}(h:Mx F a b)(k:Bk a p cs T)(hp:p ∉ F):Bk b p cs T:=by
 have:=h.2.2.1 p k.lt hp
 unfold Bk at *;rw[this];exact k
end Sk
