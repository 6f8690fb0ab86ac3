/- Contracts of functions of the given program. -/
import Derived.Test.YtidkncgejgngcaaGreatVVModel
namespace Sk
open Go Go.Proofs Go.RowKit
set_option maxHeartbeats 4000000
set_option maxRecDepth 100000
set_option linter.unusedVariables false
set_option linter.unusedSimpArgs false
theorem zJf(v:Value)(m:Machine)(n:Int)(w:World)(h:Rv w v m) :
  Calls Tryz.prog 144 #[v,.int .i64 n] w fun e w' => ∃ v',e = .returned v'/\Os w.heap.size w' v' (zBw m n)/\Ext w w':=by
 have H:=zh h;obtain⟨a0,c0,a1,c1,a2,c2,a3,c3,a4,c4,a5,c5,rfl,rt,h0,l0,h1,l1,h2,l2,h3,l3,h4,l4,h5,l5⟩:=h.openMachine;clear h;go_enter Tryz.func144,Tryz.ntmps144;go_upto_region 1 with (fail)
 refine zA1 (fun W=>Ext w W/\Bk W w.heap.size [.slice a0 m.Plan.Parts.length c0,.slice a1 m.Plan.Channels.length c1,.slice a2 m.Plan.Slots.length c2,.slice a3 m.Programs.length c3,.slice a4 m.Cores.length c4,.slice a5 m.Holds.length c5,.int .i64 m.Tick] 32) ⟨(zr _).alloc _,Bk.new _ _ _⟩ ?_
 rintro W ⟨e1,kA⟩;have HE0:=zh e1;obtain⟨d0,d1,d2,d3,d4,d5,d6⟩:=Bk.k7 kA;have KA:=zh kA;clear e1 kA;cases g:zE9 m
 ·have g0:zB5 m n=false:=by unfold zB5;rw[g];rfl
  go_wp2_with (go_at_call 38;refine(zA3 _ m _ (H.out.ext HE0.out)).mono ?_;rintro e w0 ⟨rfl,he⟩;rw[g];have E:=zh (HE0.out.tr he);have KAx:=KA.out.ext he;have ltA:=KAx.lt;obtain⟨x0,x1,x2,x3,x4,x5,x6⟩:=Bk.k7 KAx;  clear he KAx)
  go_ret;exact⟨_,rfl,by rw[zHc g0];exact((Oo.lit0 (α:=Int) 3 _).mono E.out.sz).os,E.out.alloc _⟩
 have hmv:=zAu.1 g;have htk:=hmv.tick;cases g1:zA8 n 0 ((m.Cores.length:Int) - 1)
 ·have g0:zB5 m n=false:=by unfold zB5;rw[g,g1];rfl
  go_wp2_with (first
   | (go_at_call 38;refine(zA3 _ m _ (H.out.ext HE0.out)).mono ?_;rintro e w0 ⟨rfl,he⟩;rw[g];have E:=zh (HE0.out.tr he);have KAx:=KA.out.ext he;have ltA:=KAx.lt;obtain⟨x0,x1,x2,x3,x4,x5,x6⟩:=Bk.k7 KAx;  clear he KAx)
   | (go_at_call 55;refine(zA9 _ _ _ _).mono ?_;rintro e w9 ⟨rfl,rfl⟩;rw[g1]))
  go_ret;exact⟨_,rfl,by rw[zHc g0];exact((Oo.lit0 (α:=Int) 3 _).mono E.out.sz).os,E.out.alloc _⟩
 have g0:zB5 m n=true:=by unfold zB5;rw[g,g1];rfl
 obtain⟨n1,n2⟩:=zA6.1 g1;go_upto_region 3 with (first
  | (go_at_call 38;refine(zA3 _ m _ (H.out.ext HE0.out)).mono ?_;rintro e w0 ⟨rfl,he⟩;rw[g];have E:=zh (HE0.out.tr he);have KAx:=KA.out.ext he;have ltA:=KAx.lt;obtain⟨x0,x1,x2,x3,x4,x5,x6⟩:=Bk.k7 KAx;replace KA:=zh KAx;clear he KAx)
  | (go_at_call 55;refine(zA9 _ _ _ _).mono ?_;rintro e w9 ⟨rfl,rfl⟩;rw[g1]))
 obtain⟨N,rfl⟩:∃ N:Nat,n=N:=⟨n.toNat,by omega⟩
 have hN:N < m.Cores.length:=by omega
 have HV:=zh hmv;have hchn:=zAt hmv.pg.set;obtain⟨kc,pl,q,ek,ep,eq,hfit,hprv,gk,gp⟩:=hmv.at hN;obtain⟨kb,ko,kc',ca,cc,rfl,hcb,hk',kc0,kc1,kc2,hr1,rc,_,_⟩:=(h4.out.ext E.out).atCore N hN;obtain rfl:kc'=kc:=Option.some.inj (hk'.out.symm.trans ek);have hcl:=zH6 hmv ek;obtain⟨t,hto⟩:∃ t,zFx m.Plan.Slots N m.Tick=t:=⟨_,rfl⟩;have htb:0<=t/\t<=1000000:=by rw[<- hto];exact zGs (by omega)
 have hr3:rng t:=⟨by omega,by omega⟩
 have hr2:rng (zCb kc'.Stopped):=zGj _;have HT:=zh hto;have hhd:zDy m N=kc'.Cells ++ [kc'.At,zCb kc'.Stopped,t]:=by unfold zDy;rw[gk,hto]
 have HHD:=zh hhd;have HVL:Hid (∀ k,(kc'.Cells ++ [kc'.At,zCb kc'.Stopped,t]++((zKo m).take k).flatMap (zEg N)).length<=60):=zh (fun k=>by rw[<- hhd];exact zGa hmv hN k)
 have HVN:Hid (zBw m N=kc'.Cells ++ [kc'.At,zCb kc'.Stopped,t]++(zKo m).flatMap (zEg N)):=zh (by rw[zKc g0,<- hhd];rfl)
 have HVZ:=zh (zKp hmv);have HSV:=zh hmv.ssv;have HNP:Hid (m.Cores.length=m.Plan.Parts.length):=zh hmv.nc;have HNH:=zh hmv.nh;have hhl:m.Holds.length<=8:=by have:=hmv.nh;omega
 have hkl:m.Cores.length<=5:=by have:=hmv.nc;have:=zAk hmv.pg.set;omega
 have hNi:(N:Int) < m.Cores.length:=by omega
 have RC:=zh rc.out;have ltw0:w.heap.size < w0.heap.size:=ltA;clear hmv hto hhd gk gp hfit hprv hk' rc ek ep eq g g0 g1 n1 n2 d0 d1 d2 d3 d4 d5 d6 HE0 H KA;go_upto_region 5 with (fail)
 refine zA1 (fun W=>Ext w0 W/\Bk W w0.heap.size [.slice ca kc'.Cells.length cc,.int .i64 kc'.At,.bool kc'.Stopped] 47) ⟨(zr _).alloc _,Bk.new _ _ _⟩ ?_
 rintro w1 ⟨e1,kcb⟩;have X1:=zh e1;have KC:=zh kcb;obtain⟨k0,k1,k2⟩:=Bk.k3 kcb;have ltC:=kcb.lt;have s0:=(zA0 e1 ltA).trans x0;have b1:=(zA0 e1 ltA).trans x1;have b2:=(zA0 e1 ltA).trans x2;have b4:=(zA0 e1 ltA).trans x4;have b5:=(zA0 e1 ltA).trans x5;have b6:=(zA0 e1 ltA).trans x6;have ltA1:w.heap.size < w1.heap.size:=by have:=e1.sz;omega
 have hsz1:=e1.sz;have RC1:=zh (RC.out.ext e1);clear e1 kcb kc0 kc1 kc2 x0 x1 x2 x3 x4 x5 x6 s0 RC;have hbit:Hid ((Value.int .i64 (zCb kc'.Stopped))=if kc'.Stopped then .int .i64 1 else .int .i64 0):=zh (by cases kc'.Stopped<;>rfl)
 have key:∀ (Q:Prop),(∀ st,kc'.Stopped=st->Q)->Q:=fun Q h=>h _ rfl
 refine key _ ?_;clear key;intro st hst;rw[hst] at k2 hbit HVL HVN HHD hr2;have KC':=KC.out;rw[hst] at KC';clear KC;have KC:=zh KC';clear KC';cases st
 ·rw[show zCb false=0 from rfl] at HVL HVN HHD hr2
  go_upto_region 8 with (at_builtin;refine zBk (α:=Int) rfl _ _ 36 rfl 3 Tryz.underlying36 zC0 (L:=w1.heap.size) (v:=.slice (some ⟨w1.heap.size,0,none⟩) 0 0) (xs:=[]) (ys:=kc'.Cells) rfl (Oa.lit0 (α:=Int) 3 w1) rfl (RC1.out.ext ((zr _).alloc _)) (by simp only[List.length_nil];omega) ((zr w1).alloc _).sz ?_;intro v5 w5 hO5 hg5;have HO5:=zh hO5;have HE5:=zh ((((zr w1).alloc (.cells #[] 3)).grown hg5 (fun k hk=>by cases hk;exact Nat.le_refl _)));obtain⟨p5,n5,q5,rfl⟩:=Oa.sh0 hO5;clear hO5 hg5)
  have HO6:Hid (Oo 3 w1.heap.size w5 (.slice p5 n5 q5) kc'.Cells):=zh (Oo.ofA (by simpa using HO5.out))
  have hsz5:w1.heap.size<=w5.heap.size:=HE5.out.sz;have EW1:=zh (E.out.tr X1.out);have R21:=zh (h2.out.ext EW1.out);clear HO5 k0 k2 RC1;refine zB7 rfl 16 [(33,[33]),(34,[34]),(35,[35]),(36,[36]),(37,[37]),(38,[38]),(39,[39]),(40,[40]),(41,[41]),(42,[42]),(43,[43]),(44,[44]),(45,[45]),(46,[46]),(47,[47]),(48,[48])]
   (fun i vs u F=>match i,vs with
    | 0,[y]=>y = .slice p5 n5 q5
    | 1,[y]=>y = .pointer (some ⟨w0.heap.size,1,none⟩)
    | 2,[y]=>y = .int .i64 kc'.At
    | 3,[y]=>y = .int .i64 0
    | 4,[y]=>y = .pointer (some ⟨w.heap.size,0,none⟩)
    | 5,[y]=>y = .pointer (some ⟨w.heap.size,2,none⟩)
    | 6,[y]=>y = .slice a2 m.Plan.Slots.length c2
    | 7,[y]=>y = .pointer (some ⟨w.heap.size,4,none⟩)
    | 8,[y]=>y = .slice (some ⟨kb,ko,none⟩) m.Cores.length c4
    | 9,[y]=>y = .int .i64 m.Cores.length
    | 10,[y]=>y = .int .i64 N
    | 11,[y]=>y = .pointer (some ⟨w.heap.size,6,none⟩)
    | 12,[y]=>y = .int .i64 m.Tick
    | 13,[y]=>y = .int .i64 t
    | 14,[y] => ∃ B9,y = .slice (some ⟨B9,0,none⟩) 3 3/\Bk u B9 [.int .i64 kc'.At,.int .i64 0,.int .i64 t] 3
    | 15,[y]=>Oo 3 w1.heap.size u y (kc'.Cells ++ [kc'.At,0,t])
    | _,_=>False) 15 (Value.slice p5 n5 q5).ownBlock HO6.out.lt (by decide +kernel) ?_ ?_ ?_
  ·intro i hi hne oo hoo U u F hG hd hap;have hE:=Ext.grown HE5.out hG HO6.out.own;have j1:=(zA0 hE ltC).trans k1;have j2:=(zA0 hE ltA1).trans b2;have j4:=(zA0 hE ltA1).trans b4;have j6:=(zA0 hE ltA1).trans b6;rcases(by omega:i=0\/i=1\/i=2\/i=3\/i=4\/i=5\/i=6\/i=7\/i=8\/i=9\/i=10\/i=11\/i=12\/i=13\/i=14\/i=15) with rfl|rfl|rfl|rfl|rfl|rfl|rfl|rfl|rfl|rfl|rfl|rfl|rfl|rfl|rfl|rfl
   iterate 2 (·cases hoo;simp only[fr];intro K hK;go_wp2;exact zk hK _ (fun _ _=>rfl))
   ·cases hoo;simp only[fr];obtain⟨⟨d1,-⟩,-⟩:=fa [1] (by decide +kernel) hd
    simp only[fu] at d1;try simp only[d1]
    clear d1;intro K hK;go_wp2;exact zk hK _ (fun _ _=>rfl)
   iterate 2 (·cases hoo;simp only[fr];intro K hK;go_wp2;exact zk hK _ (fun _ _=>rfl))
   ·cases hoo;simp only[fr];obtain⟨⟨d4,-⟩,-⟩:=fa [4] (by decide +kernel) hd
    simp only[fu] at d4;try simp only[d4]
    clear d4;intro K hK;go_wp2;exact zk hK _ (fun _ _=>rfl)
   ·cases hoo;simp only[fr];obtain⟨⟨d4,-⟩,⟨d5,-⟩,-⟩:=fa [4,5] (by decide +kernel) hd
    simp only[fu] at d4 d5;try simp only[d4,d5]
    clear d4 d5;intro K hK;go_wp2;exact zk hK _ (fun _ _=>rfl)
   ·cases hoo;simp only[fr];intro K hK;go_wp2;exact zk hK _ (fun _ _=>rfl)
   ·cases hoo;simp only[fr];obtain⟨⟨d7,-⟩,-⟩:=fa [7] (by decide +kernel) hd
    simp only[fu] at d7;try simp only[d7]
    clear d7;intro K hK;go_wp2;exact zk hK _ (fun _ _=>rfl)
   ·cases hoo;simp only[fr];obtain⟨⟨d7,-⟩,⟨d8,-⟩,-⟩:=fa [7,8] (by decide +kernel) hd
    simp only[fu] at d7 d8;try simp only[d7,d8]
    clear d7 d8;intro K hK;go_wp2;exact zk hK _ (fun _ _=>rfl)
   iterate 2 (·cases hoo;simp only[fr];intro K hK;go_wp2;exact zk hK _ (fun _ _=>rfl))
   ·cases hoo;simp only[fr];obtain⟨⟨d11,-⟩,-⟩:=fa [11] (by decide +kernel) hd
    simp only[fu] at d11;try simp only[d11]
    clear d11;intro K hK;go_wp2;exact zk hK _ (fun _ _=>rfl)
   ·cases hoo;simp only[fr];obtain⟨⟨d4,-⟩,⟨d5,-⟩,⟨d6,-⟩,⟨d7,-⟩,⟨d8,-⟩,⟨d9,-⟩,⟨d10,-⟩,⟨d11,-⟩,⟨d12,-⟩,-⟩:=fa [4,5,6,7,8,9,10,11,12] (by decide +kernel) hd
    simp only[fu] at d4 d5 d6 d7 d8 d9 d10 d11 d12;try simp only[d4,d5,d6,d7,d8,d9,d10,d11,d12]
    intro K hK;go_wp2_with (go_at_call 126;refine(zEs _ m.Plan.Slots m.Cores.length N m.Tick _ (R21.out.ext hE) (by rw[HNP.out];exact HSV.out) (by omega) hNi htk.1 (by omega)).mono ?_;rintro e w' ⟨rfl,he⟩;rw[HT.out])
    exact hK _ [] _ he (fun _ _=>rfl) (Own.nil _ _)
   ·cases hoo;simp only[fr];obtain⟨⟨d1,-⟩,⟨d2,-⟩,⟨d3,-⟩,⟨d4,-⟩,⟨d5,-⟩,⟨d6,-⟩,⟨d7,-⟩,⟨d8,-⟩,⟨d9,-⟩,⟨d10,-⟩,⟨d11,-⟩,⟨d12,-⟩,⟨d13,-⟩,-⟩:=fa [1,2,3,4,5,6,7,8,9,10,11,12,13] (by decide +kernel) hd
    simp only[fu] at d1 d2 d3 d4 d5 d6 d7 d8 d9 d10 d11 d12 d13;try simp only[d1,d2,d3,d4,d5,d6,d7,d8,d9,d10,d11,d12,d13]
    intro K hK;go_wp2;have b1:=Bk.new u [.int .i64 kc'.At,.int .i64 0,.int .i64 t] 3;exact hK _ [] _ ((zr u).alloc _) (fun _ h=>⟨_,rfl,b1.grown h fun e=>by have:=HO6.out.lt _ e;have:=hG.size;omega⟩) (Own.nil _ _)
   ·exact absurd rfl hne
  ·intro _ oo hoo U u F hE hd hap;cases hoo;simp only[fr];obtain⟨⟨d0,-⟩,⟨d1,-⟩,⟨d2,-⟩,⟨d3,-⟩,⟨d4,-⟩,⟨d5,-⟩,⟨d6,-⟩,⟨d7,-⟩,⟨d8,-⟩,⟨d9,-⟩,⟨d10,-⟩,⟨d11,-⟩,⟨d12,-⟩,⟨d13,-⟩,⟨d14,o14⟩,-⟩:=fa [0,1,2,3,4,5,6,7,8,9,10,11,12,13,14] (by decide +kernel) hd
   simp only[fu] at d0 d1 d2 d3 d4 d5 d6 d7 d8 d9 d10 d11 d12 d13 d14;try simp only[d0,d1,d2,d3,d4,d5,d6,d7,d8,d9,d10,d11,d12,d13]
   obtain⟨B4,d14,b14⟩:=d14;simp only[d14];intro K hK;refine zFl (u:=w5) (α:=Int) rfl _ _ 36 rfl 3 Tryz.underlying36 zC0 (v:=.slice p5 n5 q5) (ys:=[kc'.At,0,t]) rfl HO6.out hE hsz5 rfl rfl (CI.row ⟨b14.cell (j:=0) rfl,hr1,b14.cell (j:=1) rfl,hr2,b14.cell (j:=2) rfl,hr3,trivial⟩) (by simp) (Own.nil _ _) (by omega) ?_
   intro v2 w2 hO2 hg2 hx2;go_wp2;exact hK _ [] _ hg2 (fun _ h=>hO2.ext h) (Own.nil _ _)
  ·intro oo hoo U u F hG hφ hap;cases hoo;simp only[fr];obtain⟨⟨d0,-⟩,⟨d1,-⟩,⟨d2,-⟩,⟨d3,-⟩,⟨d4,-⟩,⟨d5,-⟩,⟨d6,-⟩,⟨d7,-⟩,⟨d8,-⟩,⟨d9,-⟩,⟨d10,-⟩,⟨d11,-⟩,⟨d12,-⟩,⟨d13,-⟩,⟨d14,o14⟩,⟨d15,o15⟩,-⟩:=fb [0,1,2,3,4,5,6,7,8,9,10,11,12,13,14,15] (by decide +kernel) hφ
   simp only[fu] at d0 d1 d2 d3 d4 d5 d6 d7 d8 d9 d10 d11 d12 d13 d14 d15;try simp only[d0,d1,d2,d3,d4,d5,d6,d7,d8,d9,d10,d11,d12,d13]
   obtain⟨p15,m15,q15,g15⟩:=d15.sh;rw[g15] at d15;simp only[g15];have HO4:=zh d15.oa;have HQ4:=zh (Ext.grown HE5.out hG HO6.out.own);have m5:=(zA0 HQ4.out ltA1).trans b5;clear d0 d1 d2 d3 d4 d5 d6 d7 d8 d9 d10 d11 d12 d13 d14 d15 hφ hap hG g15 HO6 HE5 k1;go_wp2;go_loopw [7,8] (fun out i wr => ∃ (k:Nat) (ao:Option Addr) (no co:Nat),k<=m.Holds.length/\i = .int .i64 k/\out = .slice ao no co/\Oa (α:=Int) 3 w1.heap.size wr (.slice ao no co) (kc'.Cells ++ [kc'.At,0,t]++((zKo m).take k).flatMap (zEg N)) []/\Ext w1 wr) (fun _ i _=>m.Holds.length - (intOf i).toNat)
   case atStart=>exact⟨0,_,_,_,Nat.zero_le _,rfl,rfl,by simpa using HO4.out,HQ4.out⟩
   case round =>
    clear HO4 HQ4 m5;obtain⟨k,ao,no,co,hk,rfl,rfl,ho,hq⟩:=hrel;have HO:=zh ho;have HQ:=zh hq;have hsz:=hq.sz;have hb2:=HVL.out k;have m1:=(zA0 hq ltA1).trans b1;have m5:=(zA0 hq ltA1).trans b5;have ltAr:w.heap.size < wr.heap.size:=by omega
    clear ho hq;obtain⟨wo,rfl⟩:∃ wo:World,wo=wr:=⟨_,rfl⟩;by_cases hkt:k < m.Holds.length
    ·have hkc:k < m.Plan.Channels.length:=by rw[<- HNH.out];exact hkt
     obtain⟨hb,hoff,ch,rfl,hhb,hch,hc0,hc1,hc2,hc3,_,_,_,_,_⟩:=h1.out.atChannel k hkc;obtain⟨gb,go,x,xa,xc,rfl,hgb,hx,gx0,hxs,hxl,_⟩:=h5.out.atHold k hkt;have HN:=zh (zBg (zEg N) (zMf hch.out hx.out));have hx4:=zIo (HV.out.hv k x ch hx.out hch.out);have EWQ:=zh (EW1.out.tr HQ.out);have i2:=(zA0 EWQ.out hhb).trans hc2;clear hc0 hc1 hc2 hc3;by_cases hto:ch.To=(N:Int)
     ·have hto1:(ch.To == (N:Int))=true:=by simpa using hto
      rw[zMc hto] at HN;have gx1:=(zA0 EWQ.out hgb).trans gx0;clear hto;go_upto_region 14 with (at_builtin;refine zBk (α:=Int) rfl _ _ 36 rfl 3 Tryz.underlying36 zC0 (L:=w1.heap.size) (v:=.slice ao no co) (ys:=[(x.Lst.length:Int)]) rfl (HO.out.ext ((zr _).alloc _)) rfl (Os.lit1 wo _ ⟨by omega,by omega⟩).rs (by simp only[List.length_append,List.length_cons,List.length_nil] at hb2 ⊢;omega) (Nat.le_trans hsz ((zr wo).alloc _).sz) ?_;intro v5 w6 hO5 hg5;have HO5:=zh hO5;have HE6:=zh ((HQ.out.alloc (.cells #[.int .i64 (x.Lst.length:Nat)] 3)).grown hg5 (fun k hk=>HO.out.own k hk));obtain⟨p6,n6,q6,rfl⟩:=Oa.sh0 hO5;clear hO5 hg5)
      have z55:=(zA0 HE6.out ltA1).trans b5;have gx5:=(zA0 (EW1.out.tr HE6.out) hgb).trans gx0;have hsz6:=HE6.out.sz;have ltA6:w.heap.size < w6.heap.size:=by omega
      clear m1 m5 gx1 HO HQ i2 EWQ;go_wp2_with (at_builtin;refine zBk (α:=Int) rfl _ _ 36 rfl 3 Tryz.underlying36 zC0 (L:=w1.heap.size) (v:=.slice p6 n6 q6) (ys:=x.Lst) rfl HO5.out rfl (hxs.out.ext (EW1.out.tr HE6.out)) (by simp only[List.length_append,List.length_cons,List.length_nil] at hb2 ⊢;omega) hsz6 ?_;intro v6 w7 hO6 hg6;have HO6:=zh hO6;have HE7:=zh (HE6.out.grown hg6 (fun k hk=>HO5.out.own k hk));obtain⟨p7,n7,q7,rfl⟩:=Oa.sh0 hO6;clear hO6 hg6)
      go_roundw
      case rel=>exact⟨k+1,_,_,_,by omega,by go_num,rfl,by rw[HN.out];simpa using HO6.out,HE7.out⟩
      case measure=>simp[intOf];omega
     ·have hto1:(ch.To == (N:Int))=false:=by simpa using hto
      rw[zJ0 hto] at HN;clear hto;go_wp2;go_roundw
      case rel=>exact⟨k+1,_,_,_,by omega,by go_num,rfl,by rw[HN.out];simpa using HO.out,HQ.out⟩
      case measure=>simp[intOf];omega
    ·obtain rfl:k=m.Holds.length:=by omega
     have HO3:Hid (Oa (α:=Int) 3 w1.heap.size wo (.slice ao no co) (zBw m N) []):=zh (by have:=HO.out;rw[HNH.out,<- HVZ.out,List.take_length] at this;rwa [HVN.out])
     have EWQ:=zh (EW1.out.tr HQ.out);have hszw:=EW1.out.sz;go_wp2;go_ret;exact⟨_,rfl,(HO3.out.mono hszw).os (Own.nil _ _),EWQ.out⟩
 ·rw[show zCb true=1 from rfl] at HVL HVN HHD hr2
  go_upto_region 8 with (at_builtin;refine zBk (α:=Int) rfl _ _ 36 rfl 3 Tryz.underlying36 zC0 (L:=w1.heap.size) (v:=.slice (some ⟨w1.heap.size,0,none⟩) 0 0) (xs:=[]) (ys:=kc'.Cells) rfl (Oa.lit0 (α:=Int) 3 w1) rfl (RC1.out.ext ((zr _).alloc _)) (by simp only[List.length_nil];omega) ((zr w1).alloc _).sz ?_;intro v5 w5 hO5 hg5;have HO5:=zh hO5;have HE5:=zh ((((zr w1).alloc (.cells #[] 3)).grown hg5 (fun k hk=>by cases hk;exact Nat.le_refl _)));obtain⟨p5,n5,q5,rfl⟩:=Oa.sh0 hO5;clear hO5 hg5)
  have HO6:Hid (Oo 3 w1.heap.size w5 (.slice p5 n5 q5) kc'.Cells):=zh (Oo.ofA (by simpa using HO5.out))
  have hsz5:w1.heap.size<=w5.heap.size:=HE5.out.sz;have EW1:=zh (E.out.tr X1.out);have R21:=zh (h2.out.ext EW1.out);clear HO5 k0 k2 RC1;refine zB7 rfl 16 [(33,[33]),(34,[34]),(35,[35]),(36,[36]),(37,[37]),(38,[38]),(39,[39]),(40,[40]),(41,[41]),(42,[42]),(43,[43]),(44,[44]),(45,[45]),(46,[46]),(47,[47]),(48,[48])]
   (fun i vs u F=>match i,vs with
    | 0,[y]=>y = .slice p5 n5 q5
    | 1,[y]=>y = .pointer (some ⟨w0.heap.size,1,none⟩)
    | 2,[y]=>y = .int .i64 kc'.At
    | 3,[y]=>y = .int .i64 1
    | 4,[y]=>y = .pointer (some ⟨w.heap.size,0,none⟩)
    | 5,[y]=>y = .pointer (some ⟨w.heap.size,2,none⟩)
    | 6,[y]=>y = .slice a2 m.Plan.Slots.length c2
    | 7,[y]=>y = .pointer (some ⟨w.heap.size,4,none⟩)
    | 8,[y]=>y = .slice (some ⟨kb,ko,none⟩) m.Cores.length c4
    | 9,[y]=>y = .int .i64 m.Cores.length
    | 10,[y]=>y = .int .i64 N
    | 11,[y]=>y = .pointer (some ⟨w.heap.size,6,none⟩)
    | 12,[y]=>y = .int .i64 m.Tick
    | 13,[y]=>y = .int .i64 t
    | 14,[y] => ∃ B9,y = .slice (some ⟨B9,0,none⟩) 3 3/\Bk u B9 [.int .i64 kc'.At,.int .i64 1,.int .i64 t] 3
    | 15,[y]=>Oo 3 w1.heap.size u y (kc'.Cells ++ [kc'.At,1,t])
    | _,_=>False) 15 (Value.slice p5 n5 q5).ownBlock HO6.out.lt (by decide +kernel) ?_ ?_ ?_
  ·intro i hi hne oo hoo U u F hG hd hap;have hE:=Ext.grown HE5.out hG HO6.out.own;have j1:=(zA0 hE ltC).trans k1;have j2:=(zA0 hE ltA1).trans b2;have j4:=(zA0 hE ltA1).trans b4;have j6:=(zA0 hE ltA1).trans b6;rcases(by omega:i=0\/i=1\/i=2\/i=3\/i=4\/i=5\/i=6\/i=7\/i=8\/i=9\/i=10\/i=11\/i=12\/i=13\/i=14\/i=15) with rfl|rfl|rfl|rfl|rfl|rfl|rfl|rfl|rfl|rfl|rfl|rfl|rfl|rfl|rfl|rfl
   iterate 2 (·cases hoo;simp only[fr];intro K hK;go_wp2;exact zk hK _ (fun _ _=>rfl))
   ·cases hoo;simp only[fr];obtain⟨⟨d1,-⟩,-⟩:=fa [1] (by decide +kernel) hd
    simp only[fu] at d1;try simp only[d1]
    clear d1;intro K hK;go_wp2;exact zk hK _ (fun _ _=>rfl)
   iterate 2 (·cases hoo;simp only[fr];intro K hK;go_wp2;exact zk hK _ (fun _ _=>rfl))
   ·cases hoo;simp only[fr];obtain⟨⟨d4,-⟩,-⟩:=fa [4] (by decide +kernel) hd
    simp only[fu] at d4;try simp only[d4]
    clear d4;intro K hK;go_wp2;exact zk hK _ (fun _ _=>rfl)
   ·cases hoo;simp only[fr];obtain⟨⟨d4,-⟩,⟨d5,-⟩,-⟩:=fa [4,5] (by decide +kernel) hd
    simp only[fu] at d4 d5;try simp only[d4,d5]
    clear d4 d5;intro K hK;go_wp2;exact zk hK _ (fun _ _=>rfl)
   ·cases hoo;simp only[fr];intro K hK;go_wp2;exact zk hK _ (fun _ _=>rfl)
   ·cases hoo;simp only[fr];obtain⟨⟨d7,-⟩,-⟩:=fa [7] (by decide +kernel) hd
    simp only[fu] at d7;try simp only[d7]
    clear d7;intro K hK;go_wp2;exact zk hK _ (fun _ _=>rfl)
   ·cases hoo;simp only[fr];obtain⟨⟨d7,-⟩,⟨d8,-⟩,-⟩:=fa [7,8] (by decide +kernel) hd
    simp only[fu] at d7 d8;try simp only[d7,d8]
    clear d7 d8;intro K hK;go_wp2;exact zk hK _ (fun _ _=>rfl)
   iterate 2 (·cases hoo;simp only[fr];intro K hK;go_wp2;exact zk hK _ (fun _ _=>rfl))
   ·cases hoo;simp only[fr];obtain⟨⟨d11,-⟩,-⟩:=fa [11] (by decide +kernel) hd
    simp only[fu] at d11;try simp only[d11]
    clear d11;intro K hK;go_wp2;exact zk hK _ (fun _ _=>rfl)
   ·cases hoo;simp only[fr];obtain⟨⟨d4,-⟩,⟨d5,-⟩,⟨d6,-⟩,⟨d7,-⟩,⟨d8,-⟩,⟨d9,-⟩,⟨d10,-⟩,⟨d11,-⟩,⟨d12,-⟩,-⟩:=fa [4,5,6,7,8,9,10,11,12] (by decide +kernel) hd
    simp only[fu] at d4 d5 d6 d7 d8 d9 d10 d11 d12;try simp only[d4,d5,d6,d7,d8,d9,d10,d11,d12]
    intro K hK;go_wp2_with (go_at_call 126;refine(zEs _ m.Plan.Slots m.Cores.length N m.Tick _ (R21.out.ext hE) (by rw[HNP.out];exact HSV.out) (by omega) hNi htk.1 (by omega)).mono ?_;rintro e w' ⟨rfl,he⟩;rw[HT.out])
    exact hK _ [] _ he (fun _ _=>rfl) (Own.nil _ _)
   ·cases hoo;simp only[fr];obtain⟨⟨d1,-⟩,⟨d2,-⟩,⟨d3,-⟩,⟨d4,-⟩,⟨d5,-⟩,⟨d6,-⟩,⟨d7,-⟩,⟨d8,-⟩,⟨d9,-⟩,⟨d10,-⟩,⟨d11,-⟩,⟨d12,-⟩,⟨d13,-⟩,-⟩:=fa [1,2,3,4,5,6,7,8,9,10,11,12,13] (by decide +kernel) hd
    simp only[fu] at d1 d2 d3 d4 d5 d6 d7 d8 d9 d10 d11 d12 d13;try simp only[d1,d2,d3,d4,d5,d6,d7,d8,d9,d10,d11,d12,d13]
    intro K hK;go_wp2;have b1:=Bk.new u [.int .i64 kc'.At,.int .i64 1,.int .i64 t] 3;exact hK _ [] _ ((zr u).alloc _) (fun _ h=>⟨_,rfl,b1.grown h fun e=>by have:=HO6.out.lt _ e;have:=hG.size;omega⟩) (Own.nil _ _)
   ·exact absurd rfl hne
  ·intro _ oo hoo U u F hE hd hap;cases hoo;simp only[fr];obtain⟨⟨d0,-⟩,⟨d1,-⟩,⟨d2,-⟩,⟨d3,-⟩,⟨d4,-⟩,⟨d5,-⟩,⟨d6,-⟩,⟨d7,-⟩,⟨d8,-⟩,⟨d9,-⟩,⟨d10,-⟩,⟨d11,-⟩,⟨d12,-⟩,⟨d13,-⟩,⟨d14,o14⟩,-⟩:=fa [0,1,2,3,4,5,6,7,8,9,10,11,12,13,14] (by decide +kernel) hd
   simp only[fu] at d0 d1 d2 d3 d4 d5 d6 d7 d8 d9 d10 d11 d12 d13 d14;try simp only[d0,d1,d2,d3,d4,d5,d6,d7,d8,d9,d10,d11,d12,d13]
   obtain⟨B4,d14,b14⟩:=d14;simp only[d14];intro K hK;refine zFl (u:=w5) (α:=Int) rfl _ _ 36 rfl 3 Tryz.underlying36 zC0 (v:=.slice p5 n5 q5) (ys:=[kc'.At,1,t]) rfl HO6.out hE hsz5 rfl rfl (CI.row ⟨b14.cell (j:=0) rfl,hr1,b14.cell (j:=1) rfl,hr2,b14.cell (j:=2) rfl,hr3,trivial⟩) (by simp) (Own.nil _ _) (by omega) ?_
   intro v2 w2 hO2 hg2 hx2;go_wp2;exact hK _ [] _ hg2 (fun _ h=>hO2.ext h) (Own.nil _ _)
  ·intro oo hoo U u F hG hφ hap;cases hoo;simp only[fr];obtain⟨⟨d0,-⟩,⟨d1,-⟩,⟨d2,-⟩,⟨d3,-⟩,⟨d4,-⟩,⟨d5,-⟩,⟨d6,-⟩,⟨d7,-⟩,⟨d8,-⟩,⟨d9,-⟩,⟨d10,-⟩,⟨d11,-⟩,⟨d12,-⟩,⟨d13,-⟩,⟨d14,o14⟩,⟨d15,o15⟩,-⟩:=fb [0,1,2,3,4,5,6,7,8,9,10,11,12,13,14,15] (by decide +kernel) hφ
   simp only[fu] at d0 d1 d2 d3 d4 d5 d6 d7 d8 d9 d10 d11 d12 d13 d14 d15;try simp only[d0,d1,d2,d3,d4,d5,d6,d7,d8,d9,d10,d11,d12,d13]
   obtain⟨p15,m15,q15,g15⟩:=d15.sh;rw[g15] at d15;simp only[g15];have HO4:=zh d15.oa;have HQ4:=zh (Ext.grown HE5.out hG HO6.out.own);have m5:=(zA0 HQ4.out ltA1).trans b5;clear d0 d1 d2 d3 d4 d5 d6 d7 d8 d9 d10 d11 d12 d13 d14 d15 hφ hap hG g15 HO6 HE5 k1;go_wp2;go_loopw [7,8] (fun out i wr => ∃ (k:Nat) (ao:Option Addr) (no co:Nat),k<=m.Holds.length/\i = .int .i64 k/\out = .slice ao no co/\Oa (α:=Int) 3 w1.heap.size wr (.slice ao no co) (kc'.Cells ++ [kc'.At,1,t]++((zKo m).take k).flatMap (zEg N)) []/\Ext w1 wr) (fun _ i _=>m.Holds.length - (intOf i).toNat)
   case atStart=>exact⟨0,_,_,_,Nat.zero_le _,rfl,rfl,by simpa using HO4.out,HQ4.out⟩
   case round =>
    clear HO4 HQ4 m5;obtain⟨k,ao,no,co,hk,rfl,rfl,ho,hq⟩:=hrel;have HO:=zh ho;have HQ:=zh hq;have hsz:=hq.sz;have hb2:=HVL.out k;have m1:=(zA0 hq ltA1).trans b1;have m5:=(zA0 hq ltA1).trans b5;have ltAr:w.heap.size < wr.heap.size:=by omega
    clear ho hq;obtain⟨wo,rfl⟩:∃ wo:World,wo=wr:=⟨_,rfl⟩;by_cases hkt:k < m.Holds.length
    ·have hkc:k < m.Plan.Channels.length:=by rw[<- HNH.out];exact hkt
     obtain⟨hb,hoff,ch,rfl,hhb,hch,hc0,hc1,hc2,hc3,_,_,_,_,_⟩:=h1.out.atChannel k hkc;obtain⟨gb,go,x,xa,xc,rfl,hgb,hx,gx0,hxs,hxl,_⟩:=h5.out.atHold k hkt;have HN:=zh (zBg (zEg N) (zMf hch.out hx.out));have hx4:=zIo (HV.out.hv k x ch hx.out hch.out);have EWQ:=zh (EW1.out.tr HQ.out);have i2:=(zA0 EWQ.out hhb).trans hc2;clear hc0 hc1 hc2 hc3;by_cases hto:ch.To=(N:Int)
     ·have hto1:(ch.To == (N:Int))=true:=by simpa using hto
      rw[zMc hto] at HN;have gx1:=(zA0 EWQ.out hgb).trans gx0;clear hto;go_upto_region 14 with (at_builtin;refine zBk (α:=Int) rfl _ _ 36 rfl 3 Tryz.underlying36 zC0 (L:=w1.heap.size) (v:=.slice ao no co) (ys:=[(x.Lst.length:Int)]) rfl (HO.out.ext ((zr _).alloc _)) rfl (Os.lit1 wo _ ⟨by omega,by omega⟩).rs (by simp only[List.length_append,List.length_cons,List.length_nil] at hb2 ⊢;omega) (Nat.le_trans hsz ((zr wo).alloc _).sz) ?_;intro v5 w6 hO5 hg5;have HO5:=zh hO5;have HE6:=zh ((HQ.out.alloc (.cells #[.int .i64 (x.Lst.length:Nat)] 3)).grown hg5 (fun k hk=>HO.out.own k hk));obtain⟨p6,n6,q6,rfl⟩:=Oa.sh0 hO5;clear hO5 hg5)
      have z55:=(zA0 HE6.out ltA1).trans b5;have gx5:=(zA0 (EW1.out.tr HE6.out) hgb).trans gx0;have hsz6:=HE6.out.sz;have ltA6:w.heap.size < w6.heap.size:=by omega
      clear m1 m5 gx1 HO HQ i2 EWQ;go_wp2_with (at_builtin;refine zBk (α:=Int) rfl _ _ 36 rfl 3 Tryz.underlying36 zC0 (L:=w1.heap.size) (v:=.slice p6 n6 q6) (ys:=x.Lst) rfl HO5.out rfl (hxs.out.ext (EW1.out.tr HE6.out)) (by simp only[List.length_append,List.length_cons,List.length_nil] at hb2 ⊢;omega) hsz6 ?_;intro v6 w7 hO6 hg6;have HO6:=zh hO6;have HE7:=zh (HE6.out.grown hg6 (fun k hk=>HO5.out.own k hk));obtain⟨p7,n7,q7,rfl⟩:=Oa.sh0 hO6;clear hO6 hg6)
      go_roundw
      case rel=>exact⟨k+1,_,_,_,by omega,by go_num,rfl,by rw[HN.out];simpa using HO6.out,HE7.out⟩
      case measure=>simp[intOf];omega
     ·have hto1:(ch.To == (N:Int))=false:=by simpa using hto
      rw[zJ0 hto] at HN;clear hto;go_wp2;go_roundw
      case rel=>exact⟨k+1,_,_,_,by omega,by go_num,rfl,by rw[HN.out];simpa using HO.out,HQ.out⟩
      case measure=>simp[intOf];omega
    ·obtain rfl:k=m.Holds.length:=by omega
     have HO3:Hid (Oa (α:=Int) 3 w1.heap.size wo (.slice ao no co) (zBw m N) []):=zh (by have:=HO.out;rw[HNH.out,<- HVZ.out,List.take_length] at this;rwa [HVN.out])
     have EWQ:=zh (EW1.out.tr HQ.out);have hszw:=EW1.out.sz;go_wp2;go_ret;exact⟨_,rfl,(HO3.out.mono hszw).os (Own.nil _ _),EWQ.out⟩
end Sk
