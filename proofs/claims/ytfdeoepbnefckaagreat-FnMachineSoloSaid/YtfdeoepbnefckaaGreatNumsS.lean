/- Contracts of functions of the given program. -/
import Derived.Deep.CutRange
import Derived.Test.YtfdeoepbnefckaaGreatBuild
namespace Sk
open Go Go.Proofs Go.RowKit
set_option maxHeartbeats 8000000
set_option maxRecDepth 100000
set_option linter.unusedVariables false
set_option linter.unusedSimpArgs false
theorem zCj(v:Value)(s:Setup)(w:World)(h:Rv w v s) :
  Calls Tryz.prog 24 #[v] w fun e w' => ∃ v',e = .returned v'/\Oo 3 w.heap.size w' v' (zCe s)/\Ext w w':=by
 have H:=zh h;obtain⟨a0,c0,a1,c1,a2,c2,rfl,h0,hl0,h1,hl1,h2,hl2⟩:=h.openSetup;clear h;have e0:=zh ((zr w).alloc (.cells #[.slice a0 s.Parts.length c0,.slice a1 s.Channels.length c1,.slice a2 s.Slots.length c2] 27));cases g0:zAx s
 ·have hm:Hid (zCe s = []):=zh (by unfold zCe;rw[g0];rfl)
  go_enter Tryz.func24,Tryz.ntmps24;go_wp2_with fail
  refine(zAi _ s _ (H.out.ext e0.out)).mono ?_;rintro e w1 ⟨rfl,he1⟩;have E1:=zh (e0.out.tr he1);clear he1;go_wp2;go_ret;exact⟨_,rfl,by rw[hm.out];exact(Oo.lit0 (α:=Int) 3 w1).mono E1.out.sz,E1.out.alloc _⟩
 ·have hm:Hid (zCe s=zI8 s):=zh (by unfold zCe;rw[g0];rfl)
  go_enter Tryz.func24,Tryz.ntmps24;go_wp2_with fail
  refine(zAi _ s _ (H.out.ext e0.out)).mono ?_;rintro e w1 ⟨rfl,he1⟩;have E1:=zh (e0.out.tr he1);obtain⟨hz,hx0,hx1,hx2⟩:=box3 he1;clear he1;have hps:s.Parts.length<=5:=zAv g0;have hcl:s.Channels.length<=8:=zB5 g0;have hsl:s.Slots.length<=12:=zEq g0;go_wp2;go_loopw [3,4] (fun out i wr => ∃ (k:Nat) (ao:Option Addr) (no co:Nat),k<=s.Parts.length/\i = .int .i64 k/\out = .slice ao no co/\Oo 3 w1.heap.size wr (.slice ao no co) ([(s.Parts.length:Int)]++(s.Parts.take k).flatMap zHq)/\Ext w1 wr) (fun _ i _=>s.Parts.length - (intOf i).toNat)
  case atStart=>exact⟨0,_,_,_,Nat.zero_le _,rfl,rfl,Oo.ofA (Oa.lit 3 w1 [.int .i64 s.Parts.length] [(s.Parts.length:Int)] rfl rfl (by simp) (CI.row ⟨by simp,zHe (by omega) (by omega),trivial⟩) (by simp)),(zr _).alloc _⟩
  case round =>
   obtain⟨k,ao,no,co,hk,rfl,rfl,ho,hq⟩:=hrel;have f0:=(zA0 hq hz).trans hx0;have f1:=(zA0 hq hz).trans hx1;have f2:=(zA0 hq hz).trans hx2;have HO:=zh ho;have HQ:=zh hq;have hzs:=hq.sz;clear ho hq;by_cases hlt:k < s.Parts.length
   ·obtain⟨wo,rfl⟩:∃ wo,wo=wr:=⟨_,rfl⟩;obtain⟨b,o,x,a3,c3,rfl,hb,hx,hc0,hc1,hr1,hs0,hl3,hv⟩:=(h0.out.ext E1.out).atPart k hlt;have hxw:x.Windows.length<=12:=zE9 g0 hx.out;have hbd:=zh (zD3 zHq s.Parts k 38 (fun y hy=>zIa g0 hy))
    have p0:=(zA0 HQ.out hb).trans hc0;have p1:=(zA0 HQ.out hb).trans hc1;have hlO:=zh HO.out.lt;go_wp2_with (at_builtin;refine zHk (u:=wo) (α:=Int) rfl _ _ 38 rfl 3 Tryz.underlying38 zEa (v:=.slice ao no co) (ys:=[x.Cells,(x.Windows.length:Int)]) rfl HO.out (((zr _).alloc _).alloc _) hzs rfl rfl (CI.row ⟨by simp,hr1,by simp,zHe (by omega) (by omega),trivial⟩) (by simp) (Own.nil _ _) (by have:=hbd.out;simp only[List.length_append,List.length_cons,List.length_nil];omega) ?_;intro v' w' hO' hgr hxo;have HO2:=zh hO';have HK2:Hid (Bk w' wo.heap.size [.slice a3 x.Windows.length c3,.int .i64 x.Cells] 47):=zh (((Bk.new wo _ _).ext ((zr _).alloc _)).grown hgr (fun e=>by have:=hlO.out _ e;omega));have HQ2:=zh (Ext.grown ((HQ.out.alloc _).alloc _) hgr HO.out.own);have HN2:Hid (v'.ownBlock≠some wo.heap.size):=zh (fun e=>by rcases hxo with h|h;exact absurd (hlO.out _ (h.symm.trans e)) (by omega);exact absurd (Option.some.inj (h.symm.trans e)) (by simp;omega));clear hO' hgr hxo;obtain⟨ao2,no2,co2,rfl⟩:=HO2.out.sh)
    go_loopw [3,6] (fun out i wi => ∃ (j:Nat) (ao:Option Addr) (no co:Nat),j<=x.Windows.length/\i = .int .i64 j/\out = .slice ao no co/\Oo 3 w1.heap.size wi (.slice ao no co) ([(s.Parts.length:Int)]++(s.Parts.take k).flatMap zHq++([x.Cells,(x.Windows.length:Int)]++(x.Windows.take j).flatMap M.wn))/\(Value.slice ao no co).ownBlock≠some wo.heap.size/\Bk wi wo.heap.size [.slice a3 x.Windows.length c3,.int .i64 x.Cells] 47/\Ext w1 wi) (fun _ i _=>x.Windows.length - (intOf i).toNat)
    case atStart=>exact⟨0,_,_,_,Nat.zero_le _,rfl,rfl,by simpa using HO2.out,HN2.out,HK2.out,HQ2.out⟩
    case round =>
     clear HO2 HN2 HK2 HQ2;obtain⟨j,ao,no,co,hj,rfl,rfl,ho,hnb,hkb,hq⟩:=hrel;have f0:=(zA0 hq hz).trans hx0;have q0:=hkb.cell (j:=0) rfl;have hBl:=hkb.lt;have HO:=zh ho;have HQ:=zh hq;have HKB:=zh hkb;have HNB:=zh hnb;have hzs:=hq.sz;clear ho hq hkb hnb;by_cases hjt:j < x.Windows.length
     ·obtain⟨b3,o3,y,rfl,hb3,hy,hd0,hd1,hd2,hs1,hs2,hv3⟩:=hs0.out.atWindow j hjt;have hbd3:=zh (zD3 M.wn x.Windows j 3 (fun y _=>by simp[M.wn]))
      have r0:=(zA0 HQ.out hb3).trans hd0;have r1:=(zA0 HQ.out hb3).trans hd1;have r2:=(zA0 HQ.out hb3).trans hd2;have hlO2:=zh HO.out.lt;obtain⟨wi,rfl⟩:∃ wi,wi=wr:=⟨_,rfl⟩;have HST:=zh (zC6 M.wn hy.out);have hrb:=zJ3 y.Write;obtain⟨yb,yz,yw⟩:=y;simp only at r0 r1 r2 hs1 hs2 hrb HST;rcases Bool.eq_false_or_eq_true yw with hyw|hyw
      all_goals
       rw[hyw] at r2;replace hyw:=zh hyw;go_upto_region 15 with (fail)
       refine zAm rfl 16 [(52,[52]),(53,[53]),(54,[54]),(55,[55]),(56,[56]),(57,[57]),(58,[58]),(59,[59]),(60,[60]),(61,[61]),(62,[62]),(63,[63]),(64,[64]),(65,[65]),(66,[66]),(67,[67])]
        (fun i vs u F=>match i,vs with
         | 0,[y]=>y = .slice ao no co
         | 1,[y]=>y = .pointer (some ⟨wo.heap.size,0,none⟩)
         | 2,[y]=>y = .slice (some ⟨b3,o3,none⟩) x.Windows.length c3
         | 3,[y]=>y = .int .i64 j
         | 4,[y]=>y = .pointer (some ⟨b3,o3+j*3,none⟩)
         | 5,[y]=>y = .pointer (some ⟨b3,o3+j*3,none⟩)
         | 6,[y]=>y = .int .i64 yb
         | 7,[y]=>y = .pointer (some ⟨wo.heap.size,0,none⟩)
         | 8,[y]=>y = .slice (some ⟨b3,o3,none⟩) x.Windows.length c3
         | 9,[y]=>y = .int .i64 j
         | 10,[y]=>y = .pointer (some ⟨b3,o3+j*3,none⟩)
         | 11,[y]=>y = .pointer (some ⟨b3,o3+j*3+1,none⟩)
         | 12,[y]=>y = .int .i64 yz
         | 13,[y]=>y = .int .i64 (zE8 yw)
         | 14,[y] => ∃ B,y = .slice (some ⟨B,0,none⟩) 3 3/\Bk u B [.int .i64 yb,.int .i64 yz,.int .i64 (zE8 yw)] 3
         | 15,[y]=>Oo 3 w1.heap.size u y ([(s.Parts.length:Int)]++(s.Parts.take k).flatMap zHq++([x.Cells,(x.Windows.length:Int)]++(x.Windows.take j).flatMap M.wn) ++ [yb,yz,zE8 yw])/\y.ownBlock≠some wo.heap.size
         | _,_=>False) 15 (Value.slice ao no co).ownBlock HO.out.lt (by decide +kernel) ?_ ?_ ?_
       ·intro i hi hne oo ho U u F hG hd hap;have hE:=Ext.grown HQ.out hG HO.out.own;have e0:=zAe hG q0 hBl (fun j hj e=>HNB.out (hj.trans (congrArg some e)))
        have e1:=(zA0 hE hb3).trans hd0;have e2:=(zA0 hE hb3).trans hd1;rcases(by omega:i=0\/i=1\/i=2\/i=3\/i=4\/i=5\/i=6\/i=7\/i=8\/i=9\/i=10\/i=11\/i=12\/i=13\/i=14\/i=15) with rfl|rfl|rfl|rfl|rfl|rfl|rfl|rfl|rfl|rfl|rfl|rfl|rfl|rfl|rfl|rfl
        iterate 2 (·cases ho;simp only[fr];intro K hK;go_wp2;exact zk hK _ (fun _ _=>rfl))
        ·cases ho;simp only[fr];obtain⟨⟨d1,-⟩,-⟩:=fa [1] (by decide +kernel) hd
         simp only[fu] at d1;try simp only[d1]
         clear d1;intro K hK;go_wp2;exact zk hK _ (fun _ _=>rfl)
        ·cases ho;simp only[fr];intro K hK;go_wp2;exact zk hK _ (fun _ _=>rfl)
        ·cases ho;simp only[fr];obtain⟨⟨d1,-⟩,⟨d2,-⟩,⟨d3,-⟩,-⟩:=fa [1,2,3] (by decide +kernel) hd
         simp only[fu] at d1 d2 d3;try simp only[d1,d2,d3]
         clear d1 d2 d3;intro K hK;go_wp2;exact zk hK _ (fun _ _=>rfl)
        ·cases ho;simp only[fr];obtain⟨⟨d1,-⟩,⟨d2,-⟩,⟨d3,-⟩,⟨d4,-⟩,-⟩:=fa [1,2,3,4] (by decide +kernel) hd
         simp only[fu] at d1 d2 d3 d4;try simp only[d1,d2,d3,d4]
         clear d1 d2 d3 d4;intro K hK;go_wp2;exact zk hK _ (fun _ _=>rfl)
        ·cases ho;simp only[fr];obtain⟨⟨d1,-⟩,⟨d2,-⟩,⟨d3,-⟩,⟨d4,-⟩,⟨d5,-⟩,-⟩:=fa [1,2,3,4,5] (by decide +kernel) hd
         simp only[fu] at d1 d2 d3 d4 d5;try simp only[d1,d2,d3,d4,d5]
         clear d1 d2 d3 d4 d5;intro K hK;go_wp2;exact zk hK _ (fun _ _=>rfl)
        ·cases ho;simp only[fr];intro K hK;go_wp2;exact zk hK _ (fun _ _=>rfl)
        ·cases ho;simp only[fr];obtain⟨⟨d7,-⟩,-⟩:=fa [7] (by decide +kernel) hd
         simp only[fu] at d7;try simp only[d7]
         clear d7;intro K hK;go_wp2;exact zk hK _ (fun _ _=>rfl)
        ·cases ho;simp only[fr];intro K hK;go_wp2;exact zk hK _ (fun _ _=>rfl)
        ·cases ho;simp only[fr];obtain⟨⟨d7,-⟩,⟨d8,-⟩,⟨d9,-⟩,-⟩:=fa [7,8,9] (by decide +kernel) hd
         simp only[fu] at d7 d8 d9;try simp only[d7,d8,d9]
         clear d7 d8 d9;intro K hK;go_wp2;exact zk hK _ (fun _ _=>rfl)
        ·cases ho;simp only[fr];obtain⟨⟨d7,-⟩,⟨d8,-⟩,⟨d9,-⟩,⟨d10,-⟩,-⟩:=fa [7,8,9,10] (by decide +kernel) hd
         simp only[fu] at d7 d8 d9 d10;try simp only[d7,d8,d9,d10]
         clear d7 d8 d9 d10;intro K hK;go_wp2;exact zk hK _ (fun _ _=>rfl)
        ·cases ho;simp only[fr];obtain⟨⟨d7,-⟩,⟨d8,-⟩,⟨d9,-⟩,⟨d10,-⟩,⟨d11,-⟩,-⟩:=fa [7,8,9,10,11] (by decide +kernel) hd
         simp only[fu] at d7 d8 d9 d10 d11;try simp only[d7,d8,d9,d10,d11]
         clear d7 d8 d9 d10 d11;intro K hK;go_wp2;exact zk hK _ (fun _ _=>rfl)
        ·cases ho;simp only[fr];intro K hK;go_wp2;exact zk hK _ (fun _ h=>by rw[hyw.out];rfl)
        ·cases ho;simp only[fr];obtain⟨⟨d1,-⟩,⟨d2,-⟩,⟨d3,-⟩,⟨d4,-⟩,⟨d5,-⟩,⟨d6,-⟩,⟨d7,-⟩,⟨d8,-⟩,⟨d9,-⟩,⟨d10,-⟩,⟨d11,-⟩,⟨d12,-⟩,⟨d13,-⟩,-⟩:=fa [1,2,3,4,5,6,7,8,9,10,11,12,13] (by decide +kernel) hd
         simp only[fu] at d1 d2 d3 d4 d5 d6 d7 d8 d9 d10 d11 d12 d13;try simp only[d1,d2,d3,d4,d5,d6,d7,d8,d9,d10,d11,d12,d13]
         intro K hK;go_wp2;have b1:=Bk.new u [.int .i64 yb,.int .i64 yz,.int .i64 (zE8 yw)] 3;exact hK _ [] _ ((zr u).alloc _) (fun _ h=>⟨_,rfl,b1.grown h fun e=>by have:=HO.out.lt _ e;have:=hG.size;omega⟩) (Own.nil _ _)
        ·exact absurd rfl hne
       ·intro _ oo ho U u F hE hd hap;cases ho;simp only[fr];obtain⟨⟨d0,-⟩,⟨d1,-⟩,⟨d2,-⟩,⟨d3,-⟩,⟨d4,-⟩,⟨d5,-⟩,⟨d6,-⟩,⟨d7,-⟩,⟨d8,-⟩,⟨d9,-⟩,⟨d10,-⟩,⟨d11,-⟩,⟨d12,-⟩,⟨d13,-⟩,⟨d14,o14⟩,-⟩:=fa [0,1,2,3,4,5,6,7,8,9,10,11,12,13,14] (by decide +kernel) hd
        simp only[fu] at d0 d1 d2 d3 d4 d5 d6 d7 d8 d9 d10 d11 d12 d13 d14;try simp only[d0,d1,d2,d3,d4,d5,d6,d7,d8,d9,d10,d11,d12,d13]
        obtain⟨B4,d14,b14⟩:=d14;simp only[d14];intro K hK;refine zHk (u:=wi) (α:=Int) rfl _ _ 38 rfl 3 Tryz.underlying38 zEa (v:=.slice ao no co) (ys:=[yb,yz,zE8 yw]) rfl HO.out hE hzs rfl rfl (CI.row ⟨b14.cell (j:=0) rfl,hs1,b14.cell (j:=1) rfl,hs2,b14.cell (j:=2) rfl,hrb,trivial⟩) (by simp) (Own.nil _ _) (by have:=hbd.out;have:=hbd3.out;simp only[List.length_append,List.length_cons,List.length_nil];omega) ?_
        intro v2 w2 hO2 hg2 hx2;go_wp2;exact hK _ [] _ hg2 (fun _ h=>⟨hO2.ext h,fun e=>by
         rcases hx2 with h|h
         ·exact HNB.out (h.symm.trans e)
         ·have:=Option.some.inj (h.symm.trans e);have:=hE.sz;omega⟩) (Own.nil _ _)
       ·intro oo ho U u F hG hφ hap;cases ho;simp only[fr];obtain⟨⟨d0,-⟩,⟨d1,-⟩,⟨d2,-⟩,⟨d3,-⟩,⟨d4,-⟩,⟨d5,-⟩,⟨d6,-⟩,⟨d7,-⟩,⟨d8,-⟩,⟨d9,-⟩,⟨d10,-⟩,⟨d11,-⟩,⟨d12,-⟩,⟨d13,-⟩,⟨d14,o14⟩,⟨d15,o15⟩,-⟩:=fb [0,1,2,3,4,5,6,7,8,9,10,11,12,13,14,15] (by decide +kernel) hφ
        simp only[fu] at d0 d1 d2 d3 d4 d5 d6 d7 d8 d9 d10 d11 d12 d13 d14 d15;try simp only[d0,d1,d2,d3,d4,d5,d6,d7,d8,d9,d10,d11,d12,d13]
        obtain⟨d15,n15⟩:=d15;obtain⟨p15,m15,q15,g15⟩:=d15.sh;rw[g15] at d15 n15;simp only[g15];have HO4:=zh d15;have HN4:=zh n15;have HK4:=zh (HKB.out.grown hG HNB.out);have HQ4:=zh (Ext.grown HQ.out hG HO.out.own);clear d0 d1 d2 d3 d4 d5 d6 d7 d8 d9 d10 d11 d12 d13 d14 d15 n15 hφ hap hG g15;go_wp2;go_roundw
        case rel=>exact⟨j+1,_,_,_,by omega,by go_num,rfl,by rw[HST.out];simpa [M.wn] using HO4.out,HN4.out,HK4.out,HQ4.out⟩
        case measure=>simp[intOf];omega
     ·obtain rfl:j=x.Windows.length:=by omega
      go_wp2;go_roundw
      case rel=>exact⟨k+1,_,_,_,by omega,by go_num,rfl,by rw[zC6 zHq hx.out];simpa [zHq] using HO.out,HQ.out⟩
      case measure=>simp[intOf];omega
   ·obtain rfl:k=s.Parts.length:=by omega
    have hbd:=zh (zD3 zHq s.Parts s.Parts.length 38 (fun y hy=>zIa g0 hy))
    have HP:Hid (Oo 3 w1.heap.size wr (.slice ao no co) ([(s.Parts.length:Int)]++s.Parts.flatMap zHq)):=by have:=HO.out;rwa [List.take_length] at this
    rw[List.take_length] at hbd;clear HO;obtain⟨wp,rfl⟩:∃ wp:World,wp=wr:=⟨_,rfl⟩;go_wp2_with (at_builtin;refine zBi (u:=wp) (α:=Int) rfl _ _ 38 rfl 3 Tryz.underlying38 zEa (v:=.slice ao no co) (ys:=[(s.Channels.length:Int)]) rfl HP.out ((zr _).alloc _) hzs rfl rfl (CI.row ⟨by simp,zHe (by omega) (by omega),trivial⟩) (by simp) (Own.nil _ _) (by have:=hbd.out;simp only[List.length_append,List.length_cons,List.length_nil];omega) ?_;intro v' w' hO' hgr;have HO2:=zh hO';have HQ2:=zh (Ext.grown (HQ.out.alloc _) hgr HP.out.own);clear hO' hgr;obtain⟨ao2,no2,co2,rfl⟩:=HO2.out.sh)
    clear HP HQ f0 f1 f2;go_loopw [3,8] (fun out i wr => ∃ (k:Nat) (ao:Option Addr) (no co:Nat),k<=s.Channels.length/\i = .int .i64 k/\out = .slice ao no co/\Oo 3 w1.heap.size wr (.slice ao no co) (([(s.Parts.length:Int)]++s.Parts.flatMap zHq) ++ [(s.Channels.length:Int)]++(s.Channels.take k).flatMap M.cn)/\Ext w1 wr) (fun _ i _=>s.Channels.length - (intOf i).toNat)
    case atStart=>exact⟨0,_,_,_,Nat.zero_le _,rfl,rfl,by simpa using HO2.out,HQ2.out⟩
    case round =>
     clear HO2 HQ2;obtain⟨k,ao,no,co,hk,rfl,rfl,ho,hq⟩:=hrel;have f1:=(zA0 hq hz).trans hx1;have f2:=(zA0 hq hz).trans hx2;have HO:=zh ho;have HQ:=zh hq;have hzs:=hq.sz;clear ho hq;have hbc:=zh (zD3 M.cn s.Channels k 4 (fun y _=>by simp[M.cn]))
     by_cases hlt:k < s.Channels.length
     ·obtain⟨b,o,x,rfl,hb,hx,hc0,hc1,hc2,hc3,hr0,hr1,hr2,hr3,hv⟩:=(h1.out.ext E1.out).atChannel k hlt;have p0:=(zA0 HQ.out hb).trans hc0;have p1:=(zA0 HQ.out hb).trans hc1;have p2:=(zA0 HQ.out hb).trans hc2;have p3:=(zA0 HQ.out hb).trans hc3;obtain⟨wo,rfl⟩:∃ wo,wo=wr:=⟨_,rfl⟩;go_wp2_with (at_builtin;refine zBi (u:=wo) (α:=Int) rfl _ _ 38 rfl 3 Tryz.underlying38 zEa (v:=.slice ao no co) (ys:=[x.Kind,x.From,x.To,x.Size]) rfl HO.out (((zr _).alloc _).alloc _) hzs rfl rfl (CI.row ⟨by simp,hr0,by simp,hr1,by simp,hr2,by simp,hr3,trivial⟩) (by simp) (Own.nil _ _) (by have:=hbd.out;have:=hbc.out;simp only[List.length_append,List.length_cons,List.length_nil];omega) ?_;intro v' w' hO' hgr;have HO2:=zh hO';have HQ2:=zh (Ext.grown ((HQ.out.alloc _).alloc _) hgr HO.out.own);clear hO' hgr;obtain⟨ao2,no2,co2,rfl⟩:=HO2.out.sh)
      go_roundw
      case rel=>exact⟨k+1,_,_,_,by omega,by go_num,rfl,by rw[zC6 M.cn hx.out];simpa [M.cn] using HO2.out,HQ2.out⟩
      case measure=>simp[intOf];omega
     ·obtain rfl:k=s.Channels.length:=by omega
      have HP:Hid (Oo 3 w1.heap.size wr (.slice ao no co) (([(s.Parts.length:Int)]++s.Parts.flatMap zHq) ++ [(s.Channels.length:Int)]++s.Channels.flatMap M.cn)):=by have:=HO.out;rwa [List.take_length] at this
      rw[List.take_length] at hbc;clear HO;obtain⟨wq,rfl⟩:∃ wq:World,wq=wr:=⟨_,rfl⟩;go_wp2_with (at_builtin;refine zBi (u:=wq) (α:=Int) rfl _ _ 38 rfl 3 Tryz.underlying38 zEa (v:=.slice ao no co) (ys:=[(s.Slots.length:Int)]) rfl HP.out ((zr _).alloc _) hzs rfl rfl (CI.row ⟨by simp,zHe (by omega) (by omega),trivial⟩) (by simp) (Own.nil _ _) (by have:=hbd.out;have:=hbc.out;simp only[List.length_append,List.length_cons,List.length_nil];omega) ?_;intro v' w' hO' hgr;have HO2:=zh hO';have HQ2:=zh (Ext.grown (HQ.out.alloc _) hgr HP.out.own);clear hO' hgr;obtain⟨ao2,no2,co2,rfl⟩:=HO2.out.sh)
      clear HP HQ f1 f2;go_loopw [3,10] (fun out i wr => ∃ (k:Nat) (ao:Option Addr) (no co:Nat),k<=s.Slots.length/\i = .int .i64 k/\out = .slice ao no co/\Oo 3 w1.heap.size wr (.slice ao no co) (([(s.Parts.length:Int)]++s.Parts.flatMap zHq) ++ [(s.Channels.length:Int)]++s.Channels.flatMap M.cn ++ [(s.Slots.length:Int)]++(s.Slots.take k).flatMap M.sn)/\Ext w1 wr) (fun _ i _=>s.Slots.length - (intOf i).toNat)
      case atStart=>exact⟨0,_,_,_,Nat.zero_le _,rfl,rfl,by simpa using HO2.out,HQ2.out⟩
      case round =>
       clear HO2 HQ2;obtain⟨k,ao,no,co,hk,rfl,rfl,ho,hq⟩:=hrel;have f2:=(zA0 hq hz).trans hx2;have HO:=zh ho;have HQ:=zh hq;have hzs:=hq.sz;clear ho hq;have hbs:=zh (zD3 M.sn s.Slots k 2 (fun y _=>by simp[M.sn]))
       by_cases hlt:k < s.Slots.length
       ·obtain⟨b,o,x,rfl,hb,hx,hc0,hc1,hr0,hr1,hv⟩:=(h2.out.ext E1.out).atSlot k hlt;have hwb:=zIn g0 (List.mem_of_getElem? hx.out);obtain⟨hwb1,hwb2⟩:=hwb;have hbx:w.heap.size < wr.heap.size:=by omega
        have HST:=zh (zC6 M.sn hx.out);have hrw:rng (x.Who+1):=zHe (by omega) (by omega)
        obtain⟨wi,rfl⟩:∃ wi,wi=wr:=⟨_,rfl⟩;go_upto_region 26 with (fail)
        refine zAm rfl 16 [(110,[110]),(111,[111]),(112,[112]),(113,[113]),(114,[114]),(115,[115]),(116,[116]),(117,[117]),(118,[118]),(119,[119]),(120,[120]),(121,[121]),(122,[122]),(123,[123]),(124,[124]),(125,[125])]
         (fun i vs u F=>match i,vs with
          | 0,[y]=>y = .slice ao no co
          | 1,[y]=>y = .pointer (some ⟨w.heap.size,2,none⟩)
          | 2,[y]=>y = .slice (some ⟨b,o,none⟩) s.Slots.length c2
          | 3,[y]=>y = .int .i64 k
          | 4,[y]=>y = .pointer (some ⟨b,o+k*2,none⟩)
          | 5,[y]=>y = .pointer (some ⟨b,o+k*2,none⟩)
          | 6,[y]=>y = .int .i64 x.Who
          | 7,[y]=>y = .int .i64 (x.Who+1)
          | 8,[y]=>y = .pointer (some ⟨w.heap.size,2,none⟩)
          | 9,[y]=>y = .slice (some ⟨b,o,none⟩) s.Slots.length c2
          | 10,[y]=>y = .int .i64 k
          | 11,[y]=>y = .pointer (some ⟨b,o+k*2,none⟩)
          | 12,[y]=>y = .pointer (some ⟨b,o+k*2+1,none⟩)
          | 13,[y]=>y = .int .i64 x.Ticks
          | 14,[y] => ∃ B,y = .slice (some ⟨B,0,none⟩) 2 2/\Bk u B [.int .i64 (x.Who+1),.int .i64 x.Ticks] 3
          | 15,[y]=>Oo 3 w1.heap.size u y (([(s.Parts.length:Int)]++s.Parts.flatMap zHq) ++ [(s.Channels.length:Int)]++s.Channels.flatMap M.cn ++ [(s.Slots.length:Int)]++(s.Slots.take k).flatMap M.sn ++ [x.Who+1,x.Ticks])
          | _,_=>False) 15 (Value.slice ao no co).ownBlock HO.out.lt (by decide +kernel) ?_ ?_ ?_
        ·intro i hi hne oo ho U u F hG hd hap;have hE:=Ext.grown HQ.out hG HO.out.own;have e0:=(zA0 hE hz).trans hx2;have e1:=(zA0 hE hb).trans hc0;have e2:=(zA0 hE hb).trans hc1;rcases(by omega:i=0\/i=1\/i=2\/i=3\/i=4\/i=5\/i=6\/i=7\/i=8\/i=9\/i=10\/i=11\/i=12\/i=13\/i=14\/i=15) with rfl|rfl|rfl|rfl|rfl|rfl|rfl|rfl|rfl|rfl|rfl|rfl|rfl|rfl|rfl|rfl
         iterate 2 (·cases ho;simp only[fr];intro K hK;go_wp2;exact zk hK _ (fun _ _=>rfl))
         ·cases ho;simp only[fr];obtain⟨⟨d1,-⟩,-⟩:=fa [1] (by decide +kernel) hd
          simp only[fu] at d1;try simp only[d1]
          clear d1;intro K hK;go_wp2;exact zk hK _ (fun _ _=>rfl)
         ·cases ho;simp only[fr];intro K hK;go_wp2;exact zk hK _ (fun _ _=>rfl)
         ·cases ho;simp only[fr];obtain⟨⟨d1,-⟩,⟨d2,-⟩,⟨d3,-⟩,-⟩:=fa [1,2,3] (by decide +kernel) hd
          simp only[fu] at d1 d2 d3;try simp only[d1,d2,d3]
          clear d1 d2 d3;intro K hK;go_wp2;exact zk hK _ (fun _ _=>rfl)
         ·cases ho;simp only[fr];obtain⟨⟨d1,-⟩,⟨d2,-⟩,⟨d3,-⟩,⟨d4,-⟩,-⟩:=fa [1,2,3,4] (by decide +kernel) hd
          simp only[fu] at d1 d2 d3 d4;try simp only[d1,d2,d3,d4]
          clear d1 d2 d3 d4;intro K hK;go_wp2;exact zk hK _ (fun _ _=>rfl)
         ·cases ho;simp only[fr];obtain⟨⟨d1,-⟩,⟨d2,-⟩,⟨d3,-⟩,⟨d4,-⟩,⟨d5,-⟩,-⟩:=fa [1,2,3,4,5] (by decide +kernel) hd
          simp only[fu] at d1 d2 d3 d4 d5;try simp only[d1,d2,d3,d4,d5]
          clear d1 d2 d3 d4 d5;intro K hK;go_wp2;exact zk hK _ (fun _ _=>rfl)
         ·cases ho;simp only[fr];obtain⟨⟨d1,-⟩,⟨d2,-⟩,⟨d3,-⟩,⟨d4,-⟩,⟨d5,-⟩,⟨d6,-⟩,-⟩:=fa [1,2,3,4,5,6] (by decide +kernel) hd
          simp only[fu] at d1 d2 d3 d4 d5 d6;try simp only[d1,d2,d3,d4,d5,d6]
          clear d1 d2 d3 d4 d5 d6;intro K hK;go_wp2;exact zk hK _ (fun _ _=>rfl)
         ·cases ho;simp only[fr];intro K hK;go_wp2;exact zk hK _ (fun _ _=>rfl)
         ·cases ho;simp only[fr];obtain⟨⟨d8,-⟩,-⟩:=fa [8] (by decide +kernel) hd
          simp only[fu] at d8;try simp only[d8]
          clear d8;intro K hK;go_wp2;exact zk hK _ (fun _ _=>rfl)
         ·cases ho;simp only[fr];intro K hK;go_wp2;exact zk hK _ (fun _ _=>rfl)
         ·cases ho;simp only[fr];obtain⟨⟨d8,-⟩,⟨d9,-⟩,⟨d10,-⟩,-⟩:=fa [8,9,10] (by decide +kernel) hd
          simp only[fu] at d8 d9 d10;try simp only[d8,d9,d10]
          clear d8 d9 d10;intro K hK;go_wp2;exact zk hK _ (fun _ _=>rfl)
         ·cases ho;simp only[fr];obtain⟨⟨d8,-⟩,⟨d9,-⟩,⟨d10,-⟩,⟨d11,-⟩,-⟩:=fa [8,9,10,11] (by decide +kernel) hd
          simp only[fu] at d8 d9 d10 d11;try simp only[d8,d9,d10,d11]
          clear d8 d9 d10 d11;intro K hK;go_wp2;exact zk hK _ (fun _ _=>rfl)
         ·cases ho;simp only[fr];obtain⟨⟨d8,-⟩,⟨d9,-⟩,⟨d10,-⟩,⟨d11,-⟩,⟨d12,-⟩,-⟩:=fa [8,9,10,11,12] (by decide +kernel) hd
          simp only[fu] at d8 d9 d10 d11 d12;try simp only[d8,d9,d10,d11,d12]
          clear d8 d9 d10 d11 d12;intro K hK;go_wp2;exact zk hK _ (fun _ _=>rfl)
         ·cases ho;simp only[fr];obtain⟨⟨d1,-⟩,⟨d2,-⟩,⟨d3,-⟩,⟨d4,-⟩,⟨d5,-⟩,⟨d6,-⟩,⟨d7,-⟩,⟨d8,-⟩,⟨d9,-⟩,⟨d10,-⟩,⟨d11,-⟩,⟨d12,-⟩,⟨d13,-⟩,-⟩:=fa [1,2,3,4,5,6,7,8,9,10,11,12,13] (by decide +kernel) hd
          simp only[fu] at d1 d2 d3 d4 d5 d6 d7 d8 d9 d10 d11 d12 d13;try simp only[d1,d2,d3,d4,d5,d6,d7,d8,d9,d10,d11,d12,d13]
          intro K hK;go_wp2;have b1:=Bk.new u [.int .i64 (x.Who+1),.int .i64 x.Ticks] 3;exact hK _ [] _ ((zr u).alloc _) (fun _ h=>⟨_,rfl,b1.grown h fun e=>by have:=HO.out.lt _ e;have:=hG.size;omega⟩) (Own.nil _ _)
         ·exact absurd rfl hne
        ·intro _ oo ho U u F hE hd hap;cases ho;simp only[fr];obtain⟨⟨d0,-⟩,⟨d1,-⟩,⟨d2,-⟩,⟨d3,-⟩,⟨d4,-⟩,⟨d5,-⟩,⟨d6,-⟩,⟨d7,-⟩,⟨d8,-⟩,⟨d9,-⟩,⟨d10,-⟩,⟨d11,-⟩,⟨d12,-⟩,⟨d13,-⟩,⟨d14,o14⟩,-⟩:=fa [0,1,2,3,4,5,6,7,8,9,10,11,12,13,14] (by decide +kernel) hd
         simp only[fu] at d0 d1 d2 d3 d4 d5 d6 d7 d8 d9 d10 d11 d12 d13 d14;try simp only[d0,d1,d2,d3,d4,d5,d6,d7,d8,d9,d10,d11,d12,d13]
         obtain⟨B4,d14,b14⟩:=d14;simp only[d14];intro K hK;refine zBi (u:=wi) (α:=Int) rfl _ _ 38 rfl 3 Tryz.underlying38 zEa (v:=.slice ao no co) (ys:=[x.Who+1,x.Ticks]) rfl HO.out hE hzs rfl rfl (CI.row ⟨b14.cell (j:=0) rfl,hrw,b14.cell (j:=1) rfl,hr1,trivial⟩) (by simp) (Own.nil _ _) (by have:=hbd.out;have:=hbc.out;have:=hbs.out;simp only[List.length_append,List.length_cons,List.length_nil];omega) ?_
         intro v2 w2 hO2 hg2;go_wp2;exact hK _ [] _ hg2 (fun _ h=>hO2.ext h) (Own.nil _ _)
        ·intro oo ho U u F hG hφ hap;cases ho;simp only[fr];obtain⟨⟨d0,-⟩,⟨d1,-⟩,⟨d2,-⟩,⟨d3,-⟩,⟨d4,-⟩,⟨d5,-⟩,⟨d6,-⟩,⟨d7,-⟩,⟨d8,-⟩,⟨d9,-⟩,⟨d10,-⟩,⟨d11,-⟩,⟨d12,-⟩,⟨d13,-⟩,⟨d14,o14⟩,⟨d15,o15⟩,-⟩:=fb [0,1,2,3,4,5,6,7,8,9,10,11,12,13,14,15] (by decide +kernel) hφ
         simp only[fu] at d0 d1 d2 d3 d4 d5 d6 d7 d8 d9 d10 d11 d12 d13 d14 d15;try simp only[d0,d1,d2,d3,d4,d5,d6,d7,d8,d9,d10,d11,d12,d13]
         obtain⟨p15,m15,q15,g15⟩:=d15.sh;rw[g15] at d15;simp only[g15];have HO4:=zh d15;have HQ4:=zh (Ext.grown HQ.out hG HO.out.own);clear d0 d1 d2 d3 d4 d5 d6 d7 d8 d9 d10 d11 d12 d13 d14 d15 hφ hap hG g15;go_wp2;go_roundw
         case rel=>exact⟨k+1,_,_,_,by omega,by go_num,rfl,by rw[HST.out];simpa [M.sn] using HO4.out,HQ4.out⟩
         case measure=>simp[intOf];omega
       ·obtain rfl:k=s.Slots.length:=by omega
        have HF:Hid (Oo 3 w1.heap.size wr (.slice ao no co) (zI8 s)):=by have:=HO.out;rw[List.take_length] at this;exact zh (by simpa [zI8] using this)
        clear HO;go_wp2;go_ret;exact⟨_,rfl,by rw[hm.out];exact HF.out.mono E1.out.sz,E1.out.tr HQ.out⟩
end Sk
