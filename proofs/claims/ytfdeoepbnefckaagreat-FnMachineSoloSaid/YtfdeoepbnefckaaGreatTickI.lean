/- Contracts of functions of the given program. -/
import Derived.Test.YtfdeoepbnefckaaGreatTickB
import Derived.Test.YtfdeoepbnefckaaGreatTabt
namespace Sk
open Go Go.Proofs Go.RowKit
set_option maxHeartbeats 8000000
set_option maxRecDepth 100000
set_option linter.unusedVariables false
set_option linter.unusedSimpArgs false
theorem zIw(L b off:Nat)(m:Machine)(F:List Nat)(w:World)(h:Om L w b off m F)(hL:L<=w.heap.size)(hv:zDx m)(ht:m.Tick < 100000) :
  Calls Tryz.prog 35 #[.pointer (some ⟨b,off,none⟩)] w fun e w'=>e = .returned (.tuple #[.int .i64 (zBq m.Plan.Slots m.Tick),.int .i64 (zGb m)])/\∃ F',zB3 L b off F w w' (zB1 m) F':=by
 obtain⟨a0,c0,a1,c1,a2,c2,a3,c3,a4,c4,a5,c5,y0,y1,y2,y3,y4,y5,y6,r0,r1,r2,r3,r4,r5⟩:=h.openMo;have HV:=zh hv;have HSL:=zh (zJ0.of hv.ssv);have htk:=hv.tick;have hwho:=hv.who m.Tick;have TB0:=zh (zB3.refl h);have HR2:=zh r2;have ltb:=h.bk.1;clear r0 r2 r4 r5 y0 h hv;have ht0:0<=m.Tick:=htk.1;go_enter Tryz.func35,Tryz.ntmps35;go_upto_region 1 with (fail)
 refine zAa 9 (by kernel_rfl) (by kernel_rfl) ?_
 simp only[List.take_succ_cons,List.take_zero,List.drop_succ_cons,List.drop_zero]
 repeat (go_big_quiet_step (fail))
 refine wpQuiet_nil ?_
 change wpList _ _ _ _ _ w.drew
 have e0:=zh (zr w).drew
 generalize w.drew=w1 at e0 ⊢
 rcases hwho with hw | ⟨N,hw,hN⟩
 ·have HW:=zh hw;go_upto_region 5 with (go_at_call 74;refine(zIg _ m.Plan.Slots m.Tick w1 (HR2.out.ext e0.out) HSL.out ht0 (by omega)).mono ?_;rintro e w2 ⟨rfl,he⟩;rw[HW.out];have E2:=zh (e0.out.tr he);clear he)
  have TB2:=zh (TB0.out.ext E2.out);have gf:=TB2.out.fz;have z6:=(zA0 E2.out ltb).trans y6;obtain⟨F2,t2⟩:=TB2.out.tick (m.Tick+1) ⟨by omega,by omega⟩
  have T2:=zh t2;clear t2;go_wp2;refine bodyPost_ret (v:=.tuple #[.int .i64 (-1),.int .i64 (-1)]) (by simp[results,Tryz.results35,go_sem]) rfl ⟨by rw[HW.out,zHo (by rw[HW.out];decide)],F2,by rw[zHs (by rw[HW.out];decide)];exact T2.out⟩
 ·have HW:=zh hw;have HN:=zh hN;have hN5:N < 5:=by have h1:=HV.out.nc;have h2:=zAv HV.out.pg.set;omega
  have hn0:(0:Int)<=(N:Int):=by omega
  clear hw;go_upto_region 4 with (go_at_call 74;refine(zIg _ m.Plan.Slots m.Tick w1 (HR2.out.ext e0.out) HSL.out ht0 (by omega)).mono ?_;rintro e w2 ⟨rfl,he⟩;rw[HW.out];have E2:=zh (e0.out.tr he);clear he)
  have z2:=(zA0 E2.out ltb).trans y2;have z6:=(zA0 E2.out ltb).trans y6;refine zAa 10 (by kernel_rfl) (by kernel_rfl) ?_
  simp only[List.take_succ_cons,List.take_zero,List.drop_succ_cons,List.drop_zero]
  repeat (go_big_quiet_step (fail))
  refine wpQuiet_nil ?_
  change wpList _ _ _ _ _ w2.drew
  replace E2:=zh (E2.out.tr (zr w2).drew);clear z2 z6
  generalize w2.drew=w3 at E2 ⊢
  obtain⟨t,hto⟩:∃ t,zEx m.Plan.Slots N m.Tick=t:=⟨_,rfl⟩;have htb:0<=t/\t<=1000000:=by rw[<- hto];exact zI9 (by omega)
  have HT:=zh hto;clear hto;go_upto_region 5 with (go_at_call 44;refine(zIf _ m.Plan.Slots N m.Tick w3 (HR2.out.ext E2.out) HSL.out ht0 (by omega)).mono ?_;rintro e w4 ⟨rfl,he⟩;rw[HT.out];have E4:=zh (E2.out.tr he);clear he)
  have TB4:=TB0.out.ext E4.out;have gf:=TB4.fz;have z6:=(zA0 E4.out ltb).trans y6;obtain⟨F4,t4⟩:=TB4.tick (m.Tick+1) ⟨by omega,by omega⟩
  have T4:=zh t4;clear t4 TB4;go_upto_region 8 with (fail)
  -- the machine with its tick
  obtain⟨g4,s4,rfl⟩:∃ g s,a4=some ⟨g,s,none⟩:=by
   obtain⟨_,_,_,ho⟩:=id TB0.out.om;obtain⟨Fc,lc⟩:=TB0.out.om.lMachineCores;obtain⟨g',s',_,_,e,_⟩:=(lc.om ho).idxS y4 N HN.out;exact⟨g',s',e⟩
  refine zA2 (fun W=>zB3 L b off F w W ⟨m.Plan,m.Programs,m.Cores,m.Holds,m.Tick+1⟩ F4) T4.out ?_
  intro W1 t5;have T5:=zh t5;have hT4:=(t5.cl 4 (by decide)).trans y4
  have hT3:=(t5.cl 3 (by decide)).trans y3
  obtain⟨kc,p,q,ek,ep,eq,hfit,hprv,gk,gp⟩:=HV.out.at HN.out;obtain⟨k,Fy,ek2,omc,hsub,hback⟩:=t5.core y4 HN.out;obtain rfl:k=kc:=Option.some.inj (ek2.symm.trans ek);obtain⟨_,_,_,_,_,_,ap,cp,_,_,_,_,-,-,-,x3,-,-,-,-,-,-,R3,-,-⟩:=t5.om.openMo;obtain⟨rfl,rfl⟩:a3=ap/\c3=cp:=by
   have:=x3.symm.trans hT3
   injection this with this
   injection this with h1 h2 h3
   exact⟨h1.symm,h3.symm⟩
  obtain⟨pb,po,p',ap',cp',rfl,hpb,hp',hpc,hRp,hpl⟩:=R3.atList N (zAh ep);obtain rfl:p'=p:=Option.some.inj (hp'.out.symm.trans ep);have HST:=zh (show zBn m N=zBb k p' t by unfold zBn;rw[gk,gp,HT.out])
  have OMC:=zh omc;have HB:=zh hback;have HSUB:=zh hsub;have hNl:N < m.Programs.length:=zAh ep;clear t5 omc hback hsub ek ek2 ep hp' gk gp x3 T4;go_upto_region 10 with (go_at_call 42;refine(zG0 L g4 (s4+N*3) k p' q.Cells t Fy _ W1 OMC.out hRp.out hfit hprv htb.1 htb.2).mono ?_;rintro e w5 ⟨rfl,Fz,om5,ch5,sub5⟩;obtain⟨F5,t5⟩:=HB.out _ _ _ ch5 om5 (fun x hx => .inl (sub5 x hx));have TB5:=zh t5;clear t5 om5 ch5 sub5)
  have hfit1:=zFl hfit hprv htb.1;have hord:=zH3 (t:=t) hfit hprv;have HTK:Hid (zB1 m=⟨m.Plan,m.Programs,m.Cores.set N (zD7 m.Plan.Channels m.Holds N (zBb k p' t).1 (zBb k p' t).2).1,(zD7 m.Plan.Channels m.Holds N (zBb k p' t).1 (zBb k p' t).2).2.1,m.Tick+1⟩):=zh (by rw[zHu HW.out];unfold zCu zDg;rw[HST.out])
  have HOV:Hid (zGb m=(zD7 m.Plan.Channels m.Holds N (zBb k p' t).1 (zBb k p' t).2).2.2):=zh (by rw[zHp HW.out];unfold zDg;rw[HST.out])
  generalize zBb k p' t=r at *
  obtain⟨c1',op,oa,ob⟩:=r;simp only at *;refine zA2 (fun W=>zB3 L b off F w W ⟨m.Plan,m.Programs,m.Cores.set N c1',m.Holds,m.Tick+1⟩ F5/\Bk W w5.heap.size [.int .i64 op,.int .i64 oa,.int .i64 ob] 61/\Ext w5 W) ⟨TB5.out.ext ((zr _).alloc _),Bk.new _ _ _,(zr _).alloc _⟩ ?_
  rintro W6 ⟨t6,k6,e6⟩;have T6:=zh t6;have K6:=zh k6;have hB5:∀ z∈F5,z < w5.heap.size:=TB5.out.ltF;have hBb:b < w5.heap.size:=TB5.out.lt
  generalize w5.heap.size=B at *
  obtain⟨q0,q1,q2⟩:=Bk.k3 k6;have ltB:=k6.lt;have v1:=(t6.cl 1 (by decide)).trans y1
  have v4:=(t6.cl 4 (by decide)).trans y4
  have v5:=(t6.cl 5 (by decide)).trans y5
  obtain⟨_,_,ap,cp,_,_,_,_,_,_,_,_,-,x1,-,-,-,-,-,-,R1,-,-,-,-⟩:=t6.om.openMo;obtain⟨rfl,rfl⟩:a1=ap/\c1=cp:=by
   have:=x1.symm.trans v1
   injection this with this
   injection this with h1 h2 h3
   exact⟨h1.symm,h3.symm⟩
  have HR1:=zh R1;have TR:=zh (zB3.refl t6.om);clear x1 R1 t6 k6 e6 TB5 T5 HB OMC HSUB hNl hpc hRp hpl hT3 hT4 y3 r3 R3 hpb gf z6 HST HT HSL HR2 e0 E2 E4 TB0 y1 y2 y4 y5 y6 r1 ht;rcases zJ1 m.Plan.Channels m.Holds N c1' ⟨op,oa,ob⟩ with ⟨h5,h6,e⟩ | ⟨h56,hst,e⟩ | ⟨h5,ch,hc,hn,e⟩ | ⟨h6,ch,hc,hn,e⟩
  ·rw[e] at HTK HOV;have n5:(op != 5)=true:=by simpa using h5
   have n6:(op != 6)=true:=by simpa using h6
   clear h5 h6 e;go_wp2;refine bodyPost_ret (v:=.tuple #[.int .i64 N,.int .i64 (-1)]) (by simp[results,Tryz.results35,go_sem]) rfl ⟨by rw[HW.out,HOV.out],F5,by rw[HTK.out];exact T6.out⟩
  ·rw[e] at HTK HOV;simp only at h56 hst;have hov:zDw q.Cells p'.length ⟨op,oa,ob⟩=true:=by
    rcases hord with h|h
    ·cases h;rcases h56 with h|h<;>cases h
    ·exact h
   have hcs:=zCf hov;simp only at hcs;obtain⟨ia,rfl⟩:∃ ia:Nat,oa=ia:=⟨oa.toNat,by omega⟩
   rw[Int.toNat_natCast] at hst;clear hov hord e;rcases h56 with rfl|rfl
   ·rcases hst with hge | ⟨ch,hc,hst⟩
    ·have hd:decide (m.Plan.Channels.length<=ia)=true:=decide_eq_true hge;go_upto_region 12 with (fail)
     try simp only[List.append_eq,List.cons_append,List.nil_append]
     go_big_quiet (fail)
     go_upto_region 13 with (fail)
     refine zA2 (fun W=>Ext W6 W) ((zr _).drewN _) ?_
     intro W7 E7;have t7:=TR.out.ext E7;obtain⟨k7,Fy7,ec,omc,hsub7,hback7⟩:=t7.core v4 (by simpa using HN.out)
     obtain rfl:k7=c1':=Option.some.inj (ec.symm.trans (by simp[List.getElem?_set,HN.out]))
     have gf7:=omc.bk.2.2.2;obtain⟨_,_,_,_,st7,_,_⟩:=omc.openC;obtain⟨F8,om8,sub8,ch8⟩:=omc.putStop true;obtain⟨F9,t9⟩:=hback7 _ _ _ ch8 om8 (fun z hz => .inl (sub8 z hz))
     simp only[List.set_set] at t9;have T9:=zh (T6.out.trans t9);clear t9 ch8 om8 sub8 hback7 hsub7 omc t7;go_wp2;refine bodyPost_ret (v:=.tuple #[.int .i64 N,.int .i64 (-1)]) (by simp[results,Tryz.results35,go_sem]) rfl ⟨by rw[HW.out,HOV.out],F9,by rw[HTK.out];exact T9.out⟩
    ·obtain⟨cb,co,ch',rfl,hcb,hxc,j0,j1,j2,j3,_,_,_,_,_⟩:=HR1.out.atChannel ia (zAh hc);obtain rfl:ch'=ch:=Option.some.inj (hxc.out.symm.trans hc);have hil:=zAh hc;have hd:decide (m.Plan.Channels.length<=ia)=false:=decide_eq_false (by omega)
     have hne:(ch'.From != (N:Int))=true:=by
      rcases hst with ⟨h,h2⟩ | ⟨h,h2⟩
      iterate 2 (·first|(cases h;done)|simpa using h2)
     clear hst hxc hc;go_upto_region 12 with (fail)
     try simp only[List.append_eq,List.cons_append,List.nil_append]
     go_big_quiet (fail)
     go_upto_region 13 with (fail)
     refine zA2 (fun W=>Ext W6 W) ((zr _).drewN _) ?_
     intro W7 E7;have t7:=TR.out.ext E7;obtain⟨k7,Fy7,ec,omc,hsub7,hback7⟩:=t7.core v4 (by simpa using HN.out)
     obtain rfl:k7=c1':=Option.some.inj (ec.symm.trans (by simp[List.getElem?_set,HN.out]))
     have gf7:=omc.bk.2.2.2;obtain⟨_,_,_,_,st7,_,_⟩:=omc.openC;obtain⟨F8,om8,sub8,ch8⟩:=omc.putStop true;obtain⟨F9,t9⟩:=hback7 _ _ _ ch8 om8 (fun z hz => .inl (sub8 z hz))
     simp only[List.set_set] at t9;have T9:=zh (T6.out.trans t9);clear t9 ch8 om8 sub8 hback7 hsub7 omc t7;go_wp2;refine bodyPost_ret (v:=.tuple #[.int .i64 N,.int .i64 (-1)]) (by simp[results,Tryz.results35,go_sem]) rfl ⟨by rw[HW.out,HOV.out],F9,by rw[HTK.out];exact T9.out⟩
   ·rcases hst with hge | ⟨ch,hc,hst⟩
    ·have hd:decide (m.Plan.Channels.length<=ia)=true:=decide_eq_true hge;go_upto_region 12 with (fail)
     try simp only[List.append_eq,List.cons_append,List.nil_append]
     go_big_quiet (fail)
     go_upto_region 13 with (fail)
     refine zA2 (fun W=>Ext W6 W) ((zr _).drewN _) ?_
     intro W7 E7;have t7:=TR.out.ext E7;obtain⟨k7,Fy7,ec,omc,hsub7,hback7⟩:=t7.core v4 (by simpa using HN.out)
     obtain rfl:k7=c1':=Option.some.inj (ec.symm.trans (by simp[List.getElem?_set,HN.out]))
     have gf7:=omc.bk.2.2.2;obtain⟨_,_,_,_,st7,_,_⟩:=omc.openC;obtain⟨F8,om8,sub8,ch8⟩:=omc.putStop true;obtain⟨F9,t9⟩:=hback7 _ _ _ ch8 om8 (fun z hz => .inl (sub8 z hz))
     simp only[List.set_set] at t9;have T9:=zh (T6.out.trans t9);clear t9 ch8 om8 sub8 hback7 hsub7 omc t7;go_wp2;refine bodyPost_ret (v:=.tuple #[.int .i64 N,.int .i64 (-1)]) (by simp[results,Tryz.results35,go_sem]) rfl ⟨by rw[HW.out,HOV.out],F9,by rw[HTK.out];exact T9.out⟩
    ·obtain⟨cb,co,ch',rfl,hcb,hxc,j0,j1,j2,j3,_,_,_,_,_⟩:=HR1.out.atChannel ia (zAh hc);obtain rfl:ch'=ch:=Option.some.inj (hxc.out.symm.trans hc);have hil:=zAh hc;have hd:decide (m.Plan.Channels.length<=ia)=false:=decide_eq_false (by omega)
     have hne:(ch'.To != (N:Int))=true:=by
      rcases hst with ⟨h,h2⟩ | ⟨h,h2⟩
      iterate 2 (·first|(cases h;done)|simpa using h2)
     clear hst hxc hc;go_upto_region 12 with (fail)
     try simp only[List.append_eq,List.cons_append,List.nil_append]
     go_big_quiet (fail)
     go_upto_region 13 with (fail)
     refine zA2 (fun W=>Ext W6 W) ((zr _).drewN _) ?_
     intro W7 E7;have t7:=TR.out.ext E7;obtain⟨k7,Fy7,ec,omc,hsub7,hback7⟩:=t7.core v4 (by simpa using HN.out)
     obtain rfl:k7=c1':=Option.some.inj (ec.symm.trans (by simp[List.getElem?_set,HN.out]))
     have gf7:=omc.bk.2.2.2;obtain⟨_,_,_,_,st7,_,_⟩:=omc.openC;obtain⟨F8,om8,sub8,ch8⟩:=omc.putStop true;obtain⟨F9,t9⟩:=hback7 _ _ _ ch8 om8 (fun z hz => .inl (sub8 z hz))
     simp only[List.set_set] at t9;have T9:=zh (T6.out.trans t9);clear t9 ch8 om8 sub8 hback7 hsub7 omc t7;go_wp2;refine bodyPost_ret (v:=.tuple #[.int .i64 N,.int .i64 (-1)]) (by simp[results,Tryz.results35,go_sem]) rfl ⟨by rw[HW.out,HOV.out],F9,by rw[HTK.out];exact T9.out⟩
--@send
  ·rw[e] at HTK HOV;simp only at h5 hc hn;subst h5;have hov:zDw q.Cells p'.length ⟨5,oa,ob⟩=true:=by
    rcases hord with h|h
    ·cases h
    ·exact h
   have hcs:=zCf hov;simp only at hcs;obtain⟨ia,rfl⟩:∃ ia:Nat,oa=ia:=⟨oa.toNat,by omega⟩
   obtain⟨ib,rfl⟩:∃ ib:Nat,ob=ib:=⟨ob.toNat,by omega⟩
   rw[Int.toNat_natCast] at hc;have hib:ib < c1'.Cells.length:=by have:=(zAo.1 hfit1).1;omega
   clear hov hord e hcs;obtain⟨x,hx,hxv,hxd⟩:=HV.out.hold hc;have hil:=zAh hc;obtain⟨cb,co,ch',rfl,hcb,hxc,j0,j1,j2,j3,jr0,jr1,jr2,jr3,_⟩:=HR1.out.atChannel ia hil;obtain rfl:ch'=ch:=Option.some.inj (hxc.out.symm.trans hc);have hil2:ia < m.Holds.length:=zAh hx;have hd:decide (m.Plan.Channels.length<=ia)=false:=decide_eq_false (by omega)
   have hne:(ch'.From != (N:Int))=false:=by simpa using hn
   have HN2:=zh hn;clear hxc hc hn;go_upto_region 12 with (fail)
   try simp only[List.append_eq,List.cons_append,List.nil_append]
   go_big_quiet (fail)
   go_upto_region 15 with (fail)
   refine zA2 (fun W=>Ext W6 W) ((zr _).drewN _) ?_
   intro W7 E7;replace E7:=zh E7;obtain⟨g5,s5,rfl⟩:∃ g s,a5=some ⟨g,s,none⟩:=by
    obtain⟨_,_,_,ho⟩:=id T6.out.om;obtain⟨Fc,lc⟩:=T6.out.om.lMachineHolds;obtain⟨g',s',_,_,e,_⟩:=(lc.om ho).idxS v5 ia hil2;exact⟨g',s',e⟩
   refine zAk rfl 10 [(122,[122]),(123,[123]),(124,[124]),(125,[125]),(126,[126]),(127,[127]),(128,[128]),(129,[129]),(130,[130]),(8,[8])]
    (fun i vs u F=>match i,vs with
     | 0,[y]=>y = .pointer (some ⟨b,off,none⟩)
     | 1,[y]=>y = .pointer (some ⟨b,off,none⟩)
     | 2,[y]=>y = .pointer (some ⟨b,off,none⟩)
     | 3,[y]=>y = .pointer (some ⟨b,off+1,none⟩)
     | 4,[y]=>y = .slice (some ⟨cb,co,none⟩) m.Plan.Channels.length c1
     | 5,[y]=>y = .pointer (some ⟨B,1,none⟩)
     | 6,[y]=>y = .int .i64 ia
     | 7,[y]=>y = .pointer (some ⟨cb,co+ia*4,none⟩)
     | 8,[y]=>y = .agg #[.int .i64 ch'.Kind,.int .i64 ch'.From,.int .i64 ch'.To,.int .i64 ch'.Size]
     | 9,[y] => ∃ B8,y = .pointer (some ⟨B8,0,none⟩)/\F = [B8]/\Bk u B8 [.int .i64 0,.int .i64 0,.int .i64 0,.int .i64 0] 75
     | _,_=>False) (by decide +kernel) ?_ ?_
   ·intro i hi oo hoo U u F hE hd hap;have e1:=(zA0 (E7.out.tr hE) T6.out.lt).trans v1;have e2:=(zA0 (E7.out.tr hE) ltB).trans q1;have i0:=(zA0 (E7.out.tr hE) hcb).trans j0;have i1:=(zA0 (E7.out.tr hE) hcb).trans j1;have i2:=(zA0 (E7.out.tr hE) hcb).trans j2;have i3:=(zA0 (E7.out.tr hE) hcb).trans j3;rcases(by omega:i=0\/i=1\/i=2\/i=3\/i=4\/i=5\/i=6\/i=7\/i=8\/i=9) with rfl|rfl|rfl|rfl|rfl|rfl|rfl|rfl|rfl|rfl
    ·cases hoo;simp only[fr];intro K hK;go_wp2;exact zk hK _ (fun _ _=>rfl)
    ·cases hoo;simp only[fr];obtain⟨⟨d0,-⟩,-⟩:=fa [0] (by decide +kernel) hd
     simp only[fu] at d0;try simp only[d0]
     clear d0;intro K hK;go_wp2;exact zk hK _ (fun _ _=>rfl)
    ·cases hoo;simp only[fr];obtain⟨⟨d0,-⟩,⟨d1,-⟩,-⟩:=fa [0,1] (by decide +kernel) hd
     simp only[fu] at d0 d1;try simp only[d0,d1]
     clear d0 d1;intro K hK;go_wp2;exact zk hK _ (fun _ _=>rfl)
    ·cases hoo;simp only[fr];obtain⟨⟨d0,-⟩,⟨d1,-⟩,⟨d2,-⟩,-⟩:=fa [0,1,2] (by decide +kernel) hd
     simp only[fu] at d0 d1 d2;try simp only[d0,d1,d2]
     clear d0 d1 d2;intro K hK;go_wp2;exact zk hK _ (fun _ _=>rfl)
    ·cases hoo;simp only[fr];obtain⟨⟨d0,-⟩,⟨d1,-⟩,⟨d2,-⟩,⟨d3,-⟩,-⟩:=fa [0,1,2,3] (by decide +kernel) hd
     simp only[fu] at d0 d1 d2 d3;try simp only[d0,d1,d2,d3]
     clear d0 d1 d2 d3;intro K hK;go_wp2;exact zk hK _ (fun _ _=>rfl)
    ·cases hoo;simp only[fr];intro K hK;go_wp2;exact zk hK _ (fun _ _=>rfl)
    ·cases hoo;simp only[fr];obtain⟨⟨d5,-⟩,-⟩:=fa [5] (by decide +kernel) hd
     simp only[fu] at d5;try simp only[d5]
     clear d5;intro K hK;go_wp2;exact zk hK _ (fun _ _=>rfl)
    ·cases hoo;simp only[fr];obtain⟨⟨d0,-⟩,⟨d1,-⟩,⟨d2,-⟩,⟨d3,-⟩,⟨d4,-⟩,⟨d5,-⟩,⟨d6,-⟩,-⟩:=fa [0,1,2,3,4,5,6] (by decide +kernel) hd
     simp only[fu] at d0 d1 d2 d3 d4 d5 d6;try simp only[d0,d1,d2,d3,d4,d5,d6]
     clear d0 d1 d2 d3 d4 d5 d6;intro K hK;go_wp2;exact zk hK _ (fun _ _=>rfl)
    ·cases hoo;simp only[fr];obtain⟨⟨d0,-⟩,⟨d1,-⟩,⟨d2,-⟩,⟨d3,-⟩,⟨d4,-⟩,⟨d5,-⟩,⟨d6,-⟩,⟨d7,-⟩,-⟩:=fa [0,1,2,3,4,5,6,7] (by decide +kernel) hd
     simp only[fu] at d0 d1 d2 d3 d4 d5 d6 d7;try simp only[d0,d1,d2,d3,d4,d5,d6,d7]
     clear d0 d1 d2 d3 d4 d5 d6 d7;intro K hK;go_wp2;exact zk hK _ (fun _ _=>rfl)
    ·cases hoo;simp only[fr];intro K hK;go_wp2;have b1:=Bk.new u [.int .i64 0,.int .i64 0,.int .i64 0,.int .i64 0] 75;exact hK _ [u.heap.size] _ ((zr u).alloc _) (fun _ h=>⟨_,rfl,rfl,b1.ext h⟩) (b1.own (Nat.le_refl _))
   ·intro oo hoo U u G hE hφ hap;cases hoo;simp only[fr];obtain⟨⟨d0,-⟩,⟨d1,-⟩,⟨d2,-⟩,⟨d3,-⟩,⟨d4,-⟩,⟨d5,-⟩,⟨d6,-⟩,⟨d7,-⟩,⟨d8,-⟩,⟨d9,o9⟩,-⟩:=fb [0,1,2,3,4,5,6,7,8,9] (by decide +kernel) hφ
    simp only[fu] at d0 d1 d2 d3 d4 d5 d6 d7 d8 d9;try simp only[d0,d1,d2,d3,d4,d5,d6,d7,d8]
    obtain⟨B8,e8,eg8,k8⟩:=d9;rw[eg8] at o9;have lB8:W7.heap.size<=B8:=(o9.2 B8 (by simp)).1
    clear d0 d1 d2 d3 d4 d5 d6 d7 d8 hφ hap;simp only[e8];have k8f:=k8.fz;obtain⟨x80,x81,x82,x83⟩:=Bk.k4 k8;have KK:=zh ((((k8.set 0 (.int .i64 ch'.Kind)).set 1 (.int .i64 ch'.From)).set 2 (.int .i64 ch'.To)).set 3 (.int .i64 ch'.Size));have EE:=zh (((((E7.out.tr hE).set (p:=⟨B8,0,none⟩) (Nat.le_trans E7.out.sz lB8) (.int .i64 ch'.Kind)).set (p:=⟨B8,1,none⟩) (Nat.le_trans E7.out.sz lB8) (.int .i64 ch'.From)).set (p:=⟨B8,2,none⟩) (Nat.le_trans E7.out.sz lB8) (.int .i64 ch'.To)).set (p:=⟨B8,3,none⟩) (Nat.le_trans E7.out.sz lB8) (.int .i64 ch'.Size));clear k8 hE o9;go_upto_region 16 with (fail)
    refine zA2 (fun W=>Ext W6 W/\Bk W B8 [.int .i64 ch'.Kind,.int .i64 ch'.From,.int .i64 ch'.To,.int .i64 ch'.Size] 75) ⟨EE.out,KK.out⟩ ?_
    rintro W8 ⟨E8,K8⟩;clear KK EE x80 x81 x82 x83 k8f e8 eg8;have hB86:W6.heap.size<=B8:=Nat.le_trans E7.out.sz lB8;have T8:=TR.out.ext E8;have z0:=(zA0 E8 ltB).trans q0;have z1:=(zA0 E8 ltB).trans q1;have z2:=(zA0 E8 ltB).trans q2;have ltB8:=zl ltB E8.sz;have z5:=(T8.cl 5 (by decide)).trans v5
    have z4:=(T8.cl 4 (by decide)).trans v4
    have ltb8:=T8.lt;obtain⟨x',Fh,eh,omh,hsubh,hbackh⟩:=T8.hold v5 hil2;obtain rfl:x'=x:=Option.some.inj (eh.symm.trans hx);obtain⟨ah,nh,hcell,hrv⟩:=omh.openHs;have hltg:=omh.bk.1;obtain⟨k9,Fy9,ec9,omc9,hsub9,hback9⟩:=T8.core v4 (by simpa using HN.out)
    obtain rfl:k9=c1':=Option.some.inj (ec9.symm.trans (by simp[List.getElem?_set,HN.out]))
    obtain⟨ac,nc,xc0,_,_,_,_⟩:=omc9.openC;obtain⟨gc,sc,rfl,hgc,hgcF,hltc,hcc,hfc,hrc,_⟩:=omc9.cellC xc0 ib hib;have ltg4:=omc9.bk.1;have w80:=K8.cell (j:=0) rfl;have w83:=K8.cell (j:=3) rfl;have ltK8:=K8.lt;have hlen:x'.Lst.length<=1000:=by
     have:=(zC3.1 hxv);have:=zBt this.1;omega
    have OMH:=zh omh;have HBH:=zh hbackh;have HRV:=zh hrv;have KB8:=zh K8;have EW8:=zh E8;have hg5B:g5∈F5:=(hsubh g5 (List.mem_cons_self ..)).1;have hg5lt:=hB5 g5 hg5B;clear omh hbackh hrv K8 E8 T8 ec9 omc9 hsub9 hback9 eh hsubh E7;obtain⟨vv,hvv⟩:∃ vv,k9.Cells.getD ib 0=vv:=⟨_,rfl⟩;have HVV:=zh hvv;rw[hvv] at hcc hrc;clear hvv;obtain⟨r1,hr1⟩:∃ r1,(zBf x' ch'.Kind ch'.Size vv).1=r1:=⟨_,rfl⟩;obtain⟨r2,hr2⟩:∃ r2,(zBf x' ch'.Kind ch'.Size vv).2=r2:=⟨_,rfl⟩;have HR:=zh (And.intro hr1 hr2);have hr2b:0<=r2+1/\r2<=255:=by
     have:=zH1 (h:=x') (k:=ch'.Kind) (s:=ch'.Size) (u:=vv);omega
    go_upto_region 22 with (fail)
    refine zE7 rfl 25 [(168,[168]),(169,[169]),(170,[170]),(171,[171]),(172,[172]),(173,[173]),(174,[174]),(175,[175]),(176,[176]),(177,[177]),(178,[178]),(179,[179]),(180,[180]),(181,[181]),(182,[182]),(183,[183]),(184,[184]),(185,[185]),(186,[186]),(187,[187]),(188,[188]),(167,[167,188]),(189,[189,188]),(190,[190]),(11,[11])]
     (fun i vs u F=>match i,vs with
      | 0,[y]=>y = .pointer (some ⟨b,off,none⟩)
      | 1,[y]=>y = .pointer (some ⟨b,off,none⟩)
      | 2,[y]=>y = .pointer (some ⟨b,off+5,none⟩)
      | 3,[y]=>y = .slice (some ⟨g5,s5,none⟩) m.Holds.length c5
      | 4,[y]=>y = .pointer (some ⟨B,1,none⟩)
      | 5,[y]=>y = .int .i64 ia
      | 6,[y]=>y = .pointer (some ⟨g5,s5+ia,none⟩)
      | 7,[y]=>y = .agg #[.slice ah x'.Lst.length nh]
      | 8,[y]=>y = .pointer (some ⟨B8,0,none⟩)
      | 9,[y]=>y = .int .i64 ch'.Kind
      | 10,[y]=>y = .pointer (some ⟨B8,3,none⟩)
      | 11,[y]=>y = .int .i64 ch'.Size
      | 12,[y]=>y = .pointer (some ⟨g4,s4+N*3,none⟩)
      | 13,[y]=>y = .pointer (some ⟨g4,s4+N*3,none⟩)
      | 14,[y]=>y = .pointer (some ⟨g4,s4+N*3,none⟩)
      | 15,[y]=>y = .slice (some ⟨gc,sc,none⟩) k9.Cells.length nc
      | 16,[y]=>y = .pointer (some ⟨B,2,none⟩)
      | 17,[y]=>y = .int .i64 ib
      | 18,[y]=>y = .pointer (some ⟨gc,sc+ib,none⟩)
      | 19,[y]=>y = .int .i64 vv
      | 20,[y] => ∃ v',y = .tuple #[.agg #[v'],.int .i64 r2]/\GT.enc u [v'] r1 F
      | 21,[y,z]=>y=z
      | 22,[y,z] => ∃ v',z = .tuple #[.agg #[v'],.int .i64 r2]/\y = .agg #[v']
      | 23,[y]=>y = .int .i64 r2
      | 24,[y] => ∃ B9,y = .pointer (some ⟨B9,0,none⟩)/\F = [B9]/\Bk u B9 [.slice none 0 0] 40
      | _,_=>False) 23 (by decide +kernel) ?_ ?_ ?_
    ·intro i hi hif oo hoo U u F hE hd hap;have i5:=(zA0 hE ltb8).trans z5;have i1:=(zA0 hE ltB8).trans z1;have ih:=(zA0 hE hltg).trans hcell;have i8:=(zA0 hE ltK8).trans w80;have i83:=(zA0 hE ltK8).trans w83;have i2:=(zA0 hE ltB8).trans z2;have ic:=(zA0 hE ltg4).trans xc0;have iv:=(zA0 hE hltc).trans hcc;rcases(by omega:i=0\/i=1\/i=2\/i=3\/i=4\/i=5\/i=6\/i=7\/i=8\/i=9\/i=10\/i=11\/i=12\/i=13\/i=14\/i=15\/i=16\/i=17\/i=18\/i=19\/i=20\/i=21\/i=22\/i=23\/i=24) with rfl|rfl|rfl|rfl|rfl|rfl|rfl|rfl|rfl|rfl|rfl|rfl|rfl|rfl|rfl|rfl|rfl|rfl|rfl|rfl|rfl|rfl|rfl|rfl|rfl
     ·cases hoo;simp only[fr];intro K hK;go_wp2;exact zk hK _ (fun _ _=>rfl)
     ·cases hoo;simp only[fr];obtain⟨⟨d0,-⟩,-⟩:=fa [0] (by decide +kernel) hd
      simp only[fu] at d0;try simp only[d0]
      clear d0;intro K hK;go_wp2;exact zk hK _ (fun _ _=>rfl)
     ·cases hoo;simp only[fr];obtain⟨⟨d0,-⟩,⟨d1,-⟩,-⟩:=fa [0,1] (by decide +kernel) hd
      simp only[fu] at d0 d1;try simp only[d0,d1]
      clear d0 d1;intro K hK;go_wp2;exact zk hK _ (fun _ _=>rfl)
     ·cases hoo;simp only[fr];obtain⟨⟨d0,-⟩,⟨d1,-⟩,⟨d2,-⟩,-⟩:=fa [0,1,2] (by decide +kernel) hd
      simp only[fu] at d0 d1 d2;try simp only[d0,d1,d2]
      clear d0 d1 d2;intro K hK;go_wp2;exact zk hK _ (fun _ _=>rfl)
     ·cases hoo;simp only[fr];intro K hK;go_wp2;exact zk hK _ (fun _ _=>rfl)
     ·cases hoo;simp only[fr];obtain⟨⟨d4,-⟩,-⟩:=fa [4] (by decide +kernel) hd
      simp only[fu] at d4;try simp only[d4]
      clear d4;intro K hK;go_wp2;exact zk hK _ (fun _ _=>rfl)
     ·cases hoo;simp only[fr];obtain⟨⟨d0,-⟩,⟨d1,-⟩,⟨d2,-⟩,⟨d3,-⟩,⟨d4,-⟩,⟨d5,-⟩,-⟩:=fa [0,1,2,3,4,5] (by decide +kernel) hd
      simp only[fu] at d0 d1 d2 d3 d4 d5;try simp only[d0,d1,d2,d3,d4,d5]
      clear d0 d1 d2 d3 d4 d5;intro K hK;go_wp2;exact zk hK _ (fun _ _=>rfl)
     ·cases hoo;simp only[fr];obtain⟨⟨d0,-⟩,⟨d1,-⟩,⟨d2,-⟩,⟨d3,-⟩,⟨d4,-⟩,⟨d5,-⟩,⟨d6,-⟩,-⟩:=fa [0,1,2,3,4,5,6] (by decide +kernel) hd
      simp only[fu] at d0 d1 d2 d3 d4 d5 d6;try simp only[d0,d1,d2,d3,d4,d5,d6]
      clear d0 d1 d2 d3 d4 d5 d6;intro K hK;go_wp2;exact zk hK _ (fun _ _=>rfl)
     ·cases hoo;simp only[fr];intro K hK;go_wp2;exact zk hK _ (fun _ _=>rfl)
     ·cases hoo;simp only[fr];obtain⟨⟨d8,-⟩,-⟩:=fa [8] (by decide +kernel) hd
      simp only[fu] at d8;try simp only[d8]
      clear d8;intro K hK;go_wp2;exact zk hK _ (fun _ _=>rfl)
     ·cases hoo;simp only[fr];intro K hK;go_wp2;exact zk hK _ (fun _ _=>rfl)
     ·cases hoo;simp only[fr];obtain⟨⟨d10,-⟩,-⟩:=fa [10] (by decide +kernel) hd
      simp only[fu] at d10;try simp only[d10]
      clear d10;intro K hK;go_wp2;exact zk hK _ (fun _ _=>rfl)
     ·cases hoo;simp only[fr];intro K hK;go_wp2;exact zk hK _ (fun _ _=>rfl)
     ·cases hoo;simp only[fr];obtain⟨⟨d12,-⟩,-⟩:=fa [12] (by decide +kernel) hd
      simp only[fu] at d12;try simp only[d12]
      clear d12;intro K hK;go_wp2;exact zk hK _ (fun _ _=>rfl)
     ·cases hoo;simp only[fr];obtain⟨⟨d12,-⟩,⟨d13,-⟩,-⟩:=fa [12,13] (by decide +kernel) hd
      simp only[fu] at d12 d13;try simp only[d12,d13]
      clear d12 d13;intro K hK;go_wp2;exact zk hK _ (fun _ _=>rfl)
     ·cases hoo;simp only[fr];obtain⟨⟨d12,-⟩,⟨d13,-⟩,⟨d14,-⟩,-⟩:=fa [12,13,14] (by decide +kernel) hd
      simp only[fu] at d12 d13 d14;try simp only[d12,d13,d14]
      clear d12 d13 d14;intro K hK;go_wp2;exact zk hK _ (fun _ _=>rfl)
     ·cases hoo;simp only[fr];intro K hK;go_wp2;exact zk hK _ (fun _ _=>rfl)
     ·cases hoo;simp only[fr];obtain⟨⟨d16,-⟩,-⟩:=fa [16] (by decide +kernel) hd
      simp only[fu] at d16;try simp only[d16]
      clear d16;intro K hK;go_wp2;exact zk hK _ (fun _ _=>rfl)
     ·cases hoo;simp only[fr];obtain⟨⟨d12,-⟩,⟨d13,-⟩,⟨d14,-⟩,⟨d15,-⟩,⟨d16,-⟩,⟨d17,-⟩,-⟩:=fa [12,13,14,15,16,17] (by decide +kernel) hd
      simp only[fu] at d12 d13 d14 d15 d16 d17;try simp only[d12,d13,d14,d15,d16,d17]
      clear d12 d13 d14 d15 d16 d17;intro K hK;go_wp2;exact zk hK _ (fun _ _=>rfl)
     ·cases hoo;simp only[fr];obtain⟨⟨d12,-⟩,⟨d13,-⟩,⟨d14,-⟩,⟨d15,-⟩,⟨d16,-⟩,⟨d17,-⟩,⟨d18,-⟩,-⟩:=fa [12,13,14,15,16,17,18] (by decide +kernel) hd
      simp only[fu] at d12 d13 d14 d15 d16 d17 d18;try simp only[d12,d13,d14,d15,d16,d17,d18]
      clear d12 d13 d14 d15 d16 d17 d18;intro K hK;go_wp2;exact zk hK _ (fun _ _=>rfl)
     ·cases hoo;simp only[fr];obtain⟨⟨d0,-⟩,⟨d1,-⟩,⟨d2,-⟩,⟨d3,-⟩,⟨d4,-⟩,⟨d5,-⟩,⟨d6,-⟩,⟨d7,-⟩,⟨d8,-⟩,⟨d9,-⟩,⟨d10,-⟩,⟨d11,-⟩,⟨d12,-⟩,⟨d13,-⟩,⟨d14,-⟩,⟨d15,-⟩,⟨d16,-⟩,⟨d17,-⟩,⟨d18,-⟩,⟨d19,-⟩,-⟩:=fa [0,1,2,3,4,5,6,7,8,9,10,11,12,13,14,15,16,17,18,19] (by decide +kernel) hd
      simp only[fu] at d0 d1 d2 d3 d4 d5 d6 d7 d8 d9 d10 d11 d12 d13 d14 d15 d16 d17 d18 d19;try simp only[d0,d1,d2,d3,d4,d5,d6,d7,d8,d9,d10,d11,d12,d13,d14,d15,d16,d17,d18,d19]
      intro K hK;go_wp2_with (go_at_call 76;refine(zG1 _ x' ch'.Kind ch'.Size vv _ (HRV.out.ext hE) hlen hrc).mono ?_;rintro e w' ⟨v1,rfl,hov,ex1⟩;rw[hr2,hr1] at *;obtain⟨cs',F',rfl,hen,how⟩:=hov;obtain⟨v',rfl,hsl⟩:=id hen)
      exact hK _ F' _ ex1 (fun _ h=>⟨v',rfl,GT.ext hen h⟩) how
     ·cases hoo;simp only[fr];obtain⟨⟨d0,-⟩,⟨d1,-⟩,⟨d2,-⟩,⟨d3,-⟩,⟨d4,-⟩,⟨d5,-⟩,⟨d6,-⟩,⟨d7,-⟩,⟨d8,-⟩,⟨d9,-⟩,⟨d10,-⟩,⟨d11,-⟩,⟨d12,-⟩,⟨d13,-⟩,⟨d14,-⟩,⟨d15,-⟩,⟨d16,-⟩,⟨d17,-⟩,⟨d18,-⟩,⟨d19,-⟩,⟨d20,o20⟩,-⟩:=fa [0,1,2,3,4,5,6,7,8,9,10,11,12,13,14,15,16,17,18,19,20] (by decide +kernel) hd
      simp only[fu] at d0 d1 d2 d3 d4 d5 d6 d7 d8 d9 d10 d11 d12 d13 d14 d15 d16 d17 d18 d19 d20;try simp only[d0,d1,d2,d3,d4,d5,d6,d7,d8,d9,d10,d11,d12,d13,d14,d15,d16,d17,d18,d19]
      obtain⟨v',ev,_⟩:=d20;simp only[ev];intro K hK;go_wp2;exact zk hK _ (fun _ _=>by show Value.tuple _=U 188;rw[ev])
     ·cases hoo;simp only[fr];obtain⟨⟨d0,-⟩,⟨d1,-⟩,⟨d2,-⟩,⟨d3,-⟩,⟨d4,-⟩,⟨d5,-⟩,⟨d6,-⟩,⟨d7,-⟩,⟨d8,-⟩,⟨d9,-⟩,⟨d10,-⟩,⟨d11,-⟩,⟨d12,-⟩,⟨d13,-⟩,⟨d14,-⟩,⟨d15,-⟩,⟨d16,-⟩,⟨d17,-⟩,⟨d18,-⟩,⟨d19,-⟩,⟨d20,o20⟩,⟨d21,-⟩,-⟩:=fa [0,1,2,3,4,5,6,7,8,9,10,11,12,13,14,15,16,17,18,19,20,21] (by decide +kernel) hd
      simp only[fu] at d0 d1 d2 d3 d4 d5 d6 d7 d8 d9 d10 d11 d12 d13 d14 d15 d16 d17 d18 d19 d20 d21;try simp only[d0,d1,d2,d3,d4,d5,d6,d7,d8,d9,d10,d11,d12,d13,d14,d15,d16,d17,d18,d19,d21]
      obtain⟨v',ev,_⟩:=d20;have d21z:=d21;rw[ev] at d21z;simp only[d21z,ev];intro K hK;go_wp2;exact zk hK _ (fun _ _=>⟨v',ev,rfl⟩)
     ·exact absurd rfl hif
     ·cases hoo;simp only[fr];intro K hK;go_wp2;have b1:=Bk.new u [.slice none 0 0] 40;exact hK _ [u.heap.size] _ ((zr u).alloc _) (fun _ h=>⟨_,rfl,rfl,b1.ext h⟩) (b1.own (Nat.le_refl _))
    ·intro oo hoo U u F hE hd;cases hoo;simp only[fr];obtain⟨⟨d0,-⟩,⟨d1,-⟩,⟨d2,-⟩,⟨d3,-⟩,⟨d4,-⟩,⟨d5,-⟩,⟨d6,-⟩,⟨d7,-⟩,⟨d8,-⟩,⟨d9,-⟩,⟨d10,-⟩,⟨d11,-⟩,⟨d12,-⟩,⟨d13,-⟩,⟨d14,-⟩,⟨d15,-⟩,⟨d16,-⟩,⟨d17,-⟩,⟨d18,-⟩,⟨d19,-⟩,⟨d20,o20⟩,⟨d21,-⟩,-⟩:=fa [0,1,2,3,4,5,6,7,8,9,10,11,12,13,14,15,16,17,18,19,20,21] (by decide +kernel) hd
     simp only[fu] at d0 d1 d2 d3 d4 d5 d6 d7 d8 d9 d10 d11 d12 d13 d14 d15 d16 d17 d18 d19 d20 d21;try simp only[d0,d1,d2,d3,d4,d5,d6,d7,d8,d9,d10,d11,d12,d13,d14,d15,d16,d17,d18,d19,d21]
     obtain⟨v',ev,_⟩:=d20;have d21z:=d21;rw[ev] at d21z;exact⟨.int .i64 r2,fun w2=>by simp[execOp,Act.eval,d21z,ev,go_sem],fun _ _=>rfl⟩
    ·intro oo hoo U u G hE hφ hap K hK;cases hoo;obtain⟨⟨d0,-⟩,⟨d1,-⟩,⟨d2,-⟩,⟨d3,-⟩,⟨d4,-⟩,⟨d5,-⟩,⟨d6,-⟩,⟨d7,-⟩,⟨d8,-⟩,⟨d9,-⟩,⟨d10,-⟩,⟨d11,-⟩,⟨d12,-⟩,⟨d13,-⟩,⟨d14,-⟩,⟨d15,-⟩,⟨d16,-⟩,⟨d17,-⟩,⟨d18,-⟩,⟨d19,-⟩,⟨d20,o20⟩,⟨d21,-⟩,⟨d22,o22⟩,⟨d23,-⟩,⟨d24,o24⟩,-⟩:=fb [0,1,2,3,4,5,6,7,8,9,10,11,12,13,14,15,16,17,18,19,20,21,22,23,24] (by decide +kernel) hφ
     simp only[fu] at d0 d1 d2 d3 d4 d5 d6 d7 d8 d9 d10 d11 d12 d13 d14 d15 d16 d17 d18 d19 d20 d21 d22 d23 d24;try simp only[d0,d1,d2,d3,d4,d5,d6,d7,d8,d9,d10,d11,d12,d13,d14,d15,d16,d17,d18,d19,d21,d23]
     obtain⟨v',ev,hen⟩:=d20;obtain⟨v2,ev2,ex2⟩:=d22;obtain rfl:v2=v':=by
      have h:=ev.symm.trans ev2
      injection h with h
      have h:=congrArg Array.toList h;simp only[List.cons.injEq] at h
      injection h.1 with h
      have h:=congrArg Array.toList h;simp only[List.cons.injEq] at h;exact h.1.symm
     obtain⟨B9,e9,eg9,k9b⟩:=d24;have ap:=hap 20 24 (by omega) (by omega) (by omega)
     rw[eg9] at o24 ap;have lB9:W8.heap.size<=B9:=(o24.2 B9 (by simp)).1
     have nB9:B9 ∉ G 20:=ap.one;have how:=o20
     generalize G 20=GH at *
     obtain⟨v3,e3,hs3⟩:=id hen;obtain rfl:v2=v3:=by simpa using e3
     obtain⟨av,cv,rfl,_⟩:=id hs3;clear e3 hs3;simp only[fr];simp only[zCc,zCo,List.map_cons,List.map_nil,setL,List.set_cons_succ,List.set_cons_zero,Bd.d,List.getD_cons_succ,List.getD_cons_zero] at hK;simp only[e9,ex2,d23] at hK ⊢;have k9f:=k9b.fz;have x90:=k9b.cell (j:=0) rfl;have KK:=zh (k9b.set 0 (.slice av r1.Lst.length cv));have EN:=zh (GT.keep (w':=u.setCell ⟨B9,0,none⟩ (.slice av r1.Lst.length cv)) hen (fun k hk=>zA8 (fun e=>nB9 (by have e:k=B9:=e;rw[<- e];exact hk))))
     have OW:=zh (how.set ⟨B9,0,none⟩ (.slice av r1.Lst.length cv));have EE:=zh (hE.set (p:=⟨B9,0,none⟩) lB9 (.slice av r1.Lst.length cv));clear hE hφ hap ap d0 d1 d2 d3 d4 d5 d6 d7 d8 d9 d10 d11 d12 d13 d14 d15 d16 d17 d18 d19 d21 o20 o22 o24 ev ev2 hen how;go_upto_region 23 with (fail)
     refine zA2 (fun W=>Ext W8 W/\Bk W B9 [(.slice av r1.Lst.length cv)] 40/\GT.enc W [(.slice av r1.Lst.length cv)] r1 GH/\Own W8.heap.size W GH) ⟨EE.out,KK.out,EN.out,OW.out⟩ ?_
     rintro W9 ⟨E9,K9,EN9,OW9⟩;clear KK EN OW EE x90 k9f;have i5:=(zA0 E9 ltb8).trans z5;have i1:=(zA0 E9 ltB8).trans z1;have ih:=(zA0 E9 hltg).trans hcell;have i9:=K9.cell (j:=0) rfl;have gf9:=(OMH.out.ext E9).bk.2.2.2;have hLW:L<=W8.heap.size:=by have:=T6.out.ch.sz;have:=EW8.out.sz;omega
     obtain⟨pc1,pc2,pc3⟩:=OMH.out.putHold E9 hLW (Nat.le_refl _) EN9 OW9;obtain⟨F10,t10⟩:=HBH.out _ _ _ pc1 pc2 (fun z hz => .inr (pc3 z hz))
     have T10:=zh t10;have K810:=zh ((KB8.out.ext E9).set_ne (p:=⟨g5,s5+ia,none⟩) (by show B8≠g5;omega) (.slice av r1.Lst.length cv))
     clear t10 pc1 pc2 pc3 EN9 OW9;refine zAa 7 (by kernel_rfl) (by kernel_rfl) ?_
     simp only[List.take_succ_cons,List.take_zero,List.drop_succ_cons,List.drop_zero]
     repeat (go_big_quiet_step (fail))
     refine wpQuiet_nil ?_;go_upto_region 24 with (fail)
     refine zA2 (fun W => ∃ w9,W=w9/\zB3 L b off F5 W6 W ⟨m.Plan,m.Programs,m.Cores.set N k9,m.Holds.set ia r1,m.Tick+1⟩ F10/\Bk W B8 [.int .i64 ch'.Kind,.int .i64 ch'.From,.int .i64 ch'.To,.int .i64 ch'.Size] 75) ⟨_,rfl,T10.out.ext (zr _).drew,K810.out.ext (zr _).drew⟩ ?_
     rintro WA ⟨_,rfl,TA,KA8⟩;have hBF:B ∉ F5:=fun hm=>by have:=hB5 B hm;omega
     have KA:=TA.bk K6.out (by omega) hBF
     have wb1:=KA.cell (j:=1) rfl;have wb2:=KA.cell (j:=2) rfl;have wk0:=KA8.cell (j:=0) rfl;obtain⟨kA,FyA,ecA,omcA,hsubA,hbackA⟩:=TA.core v4 (by simpa using HN.out)
     obtain rfl:kA=k9:=Option.some.inj (ecA.symm.trans (by simp[List.getElem?_set,HN.out]))
     obtain⟨acA,ncA,xcA,_,_,_,_⟩:=omcA.openC;obtain⟨gcA,scA,rfl,hgcA,hgcFA,hltcA,hccA,hfcA,hrcA,hputA⟩:=omcA.cellC xcA ib hib;have hgB:B≠gcA:=fun e=>by
      have h1:=(hsubA gcA (List.mem_cons_of_mem _ hgcFA)).1;rw[<- e] at h1;rcases TA.sub B h1 with h2|h2
      ·exact hBF h2
      ·omega
     have TTA:=zh (T6.out.trans TA);have TA1:=zh TA;have HBA:=zh hbackA;have HPA:=zh hputA;have hr2r:rng r2:=⟨by omega,by omega⟩
     clear TA KA KA8 omcA hsubA hbackA hputA ecA T10 K810 i5 i1 ih i9 gf9 E9 K9 z0 z1 z2 z4 z5 hcell xc0 hcc w80 w83;by_cases hc0:ch'.Kind=3
     ·rw[hc0] at wk0;have HC0:=zh hc0;obtain⟨F11,om11,sub11,ch11⟩:=HPA.out r2 hr2r;obtain⟨F12,t12⟩:=HBA.out _ _ _ ch11 om11 (fun z hz => .inl (sub11 z hz))
      simp only[List.set_set] at t12;have T12:=zh (T6.out.trans t12);clear t12 om11 ch11 sub11 hc0;go_upto_region 25 with (fail)
      refine zAa 7 (by kernel_rfl) (by kernel_rfl) ?_
      simp only[List.take_succ_cons,List.take_zero,List.drop_succ_cons,List.drop_zero]
      repeat (go_big_quiet_step (fail))
      refine wpQuiet_nil ?_;go_upto_region 26 with (fail)
      refine zA2 (fun W=>zB3 L b off F w W ⟨m.Plan,m.Programs,m.Cores.set N { kA with Cells:=kA.Cells.set ib r2 },m.Holds.set ia r1,m.Tick+1⟩ F12/\W.cell? ⟨B,1,none⟩=some (.int .i64 ia)) ⟨T12.out.ext (Qt.ext ⟨1,rfl⟩),(zBv hgB).trans wb1⟩ ?_
      rintro WZ ⟨tz,bz1⟩;replace T12:=zh tz;clear tz wb1 wb2 wk0;go_upto_region 26 with (fail)
      go_quiet (fail)
      go_wp2;refine bodyPost_ret (v:=.tuple #[.int .i64 N,.int .i64 ia]) (by simp[results,Tryz.results35,go_sem]) rfl ⟨by rw[HW.out,HOV.out],F12,?_⟩
      rw[HTK.out];have hE:=zJ8 (h:=x') (c:=kA) (o:=⟨5,ia,ib⟩) (ch:=ch') (vv:=vv) HVV.out HC0.out HR.out.1 HR.out.2;rw[Int.toNat_natCast,hxd,hE];exact T12.out.ext (Qt.ext ⟨_,rfl⟩)
     ·have hdc:(ch'.Kind == 3)=false:=by simpa using hc0
      have HC0:=zh hc0;clear hc0;go_upto_region 26 with (fail)
      go_quiet (fail)
      go_wp2;refine bodyPost_ret (v:=.tuple #[.int .i64 N,.int .i64 ia]) (by simp[results,Tryz.results35,go_sem]) rfl ⟨by rw[HW.out,HOV.out],F10,?_⟩
      rw[HTK.out];have hE:=zJ7 (h:=x') (c:=kA) (o:=⟨5,ia,ib⟩) (ch:=ch') (vv:=vv) HVV.out (fun h=>by have:=HC0.out;omega) HR.out.1 HR.out.2
      rw[Int.toNat_natCast,hxd,hE];exact TTA.out.ext (Qt.ext ⟨_,rfl⟩)
  ·rw[e] at HTK HOV;simp only at h6 hc hn;subst h6;have hov:zDw q.Cells p'.length ⟨6,oa,ob⟩=true:=by
    rcases hord with h|h
    ·cases h
    ·exact h
   have hcs:=zCf hov;simp only at hcs;obtain⟨ia,rfl⟩:∃ ia:Nat,oa=ia:=⟨oa.toNat,by omega⟩
   obtain⟨ib,rfl⟩:∃ ib:Nat,ob=ib:=⟨ob.toNat,by omega⟩
   rw[Int.toNat_natCast] at hc;have hib:ib < c1'.Cells.length:=by have:=(zAo.1 hfit1).1;omega
   clear hov hord e hcs;obtain⟨x,hx,hxv,hxd⟩:=HV.out.hold hc;have hil:=zAh hc;obtain⟨cb,co,ch',rfl,hcb,hxc,j0,j1,j2,j3,jr0,jr1,jr2,jr3,_⟩:=HR1.out.atChannel ia hil;obtain rfl:ch'=ch:=Option.some.inj (hxc.out.symm.trans hc);have hil2:ia < m.Holds.length:=zAh hx;have hd:decide (m.Plan.Channels.length<=ia)=false:=decide_eq_false (by omega)
   have hne:(ch'.To != (N:Int))=false:=by simpa using hn
   have HN2:=zh hn;clear hxc hc hn;go_upto_region 12 with (fail)
   try simp only[List.append_eq,List.cons_append,List.nil_append]
   go_big_quiet (fail)
   go_upto_region 15 with (fail)
   refine zA2 (fun W=>Ext W6 W) ((zr _).drewN _) ?_
   intro W7 E7;replace E7:=zh E7;obtain⟨g5,s5,rfl⟩:∃ g s,a5=some ⟨g,s,none⟩:=by
    obtain⟨_,_,_,ho⟩:=id T6.out.om;obtain⟨Fc,lc⟩:=T6.out.om.lMachineHolds;obtain⟨g',s',_,_,e,_⟩:=(lc.om ho).idxS v5 ia hil2;exact⟨g',s',e⟩
   refine zAk rfl 10 [(122,[122]),(123,[123]),(124,[124]),(125,[125]),(126,[126]),(127,[127]),(128,[128]),(129,[129]),(130,[130]),(8,[8])]
    (fun i vs u F=>match i,vs with
     | 0,[y]=>y = .pointer (some ⟨b,off,none⟩)
     | 1,[y]=>y = .pointer (some ⟨b,off,none⟩)
     | 2,[y]=>y = .pointer (some ⟨b,off,none⟩)
     | 3,[y]=>y = .pointer (some ⟨b,off+1,none⟩)
     | 4,[y]=>y = .slice (some ⟨cb,co,none⟩) m.Plan.Channels.length c1
     | 5,[y]=>y = .pointer (some ⟨B,1,none⟩)
     | 6,[y]=>y = .int .i64 ia
     | 7,[y]=>y = .pointer (some ⟨cb,co+ia*4,none⟩)
     | 8,[y]=>y = .agg #[.int .i64 ch'.Kind,.int .i64 ch'.From,.int .i64 ch'.To,.int .i64 ch'.Size]
     | 9,[y] => ∃ B8,y = .pointer (some ⟨B8,0,none⟩)/\F = [B8]/\Bk u B8 [.int .i64 0,.int .i64 0,.int .i64 0,.int .i64 0] 75
     | _,_=>False) (by decide +kernel) ?_ ?_
   ·intro i hi oo hoo U u F hE hd hap;have e1:=(zA0 (E7.out.tr hE) T6.out.lt).trans v1;have e2:=(zA0 (E7.out.tr hE) ltB).trans q1;have i0:=(zA0 (E7.out.tr hE) hcb).trans j0;have i1:=(zA0 (E7.out.tr hE) hcb).trans j1;have i2:=(zA0 (E7.out.tr hE) hcb).trans j2;have i3:=(zA0 (E7.out.tr hE) hcb).trans j3;rcases(by omega:i=0\/i=1\/i=2\/i=3\/i=4\/i=5\/i=6\/i=7\/i=8\/i=9) with rfl|rfl|rfl|rfl|rfl|rfl|rfl|rfl|rfl|rfl
    ·cases hoo;simp only[fr];intro K hK;go_wp2;exact zk hK _ (fun _ _=>rfl)
    ·cases hoo;simp only[fr];obtain⟨⟨d0,-⟩,-⟩:=fa [0] (by decide +kernel) hd
     simp only[fu] at d0;try simp only[d0]
     clear d0;intro K hK;go_wp2;exact zk hK _ (fun _ _=>rfl)
    ·cases hoo;simp only[fr];obtain⟨⟨d0,-⟩,⟨d1,-⟩,-⟩:=fa [0,1] (by decide +kernel) hd
     simp only[fu] at d0 d1;try simp only[d0,d1]
     clear d0 d1;intro K hK;go_wp2;exact zk hK _ (fun _ _=>rfl)
    ·cases hoo;simp only[fr];obtain⟨⟨d0,-⟩,⟨d1,-⟩,⟨d2,-⟩,-⟩:=fa [0,1,2] (by decide +kernel) hd
     simp only[fu] at d0 d1 d2;try simp only[d0,d1,d2]
     clear d0 d1 d2;intro K hK;go_wp2;exact zk hK _ (fun _ _=>rfl)
    ·cases hoo;simp only[fr];obtain⟨⟨d0,-⟩,⟨d1,-⟩,⟨d2,-⟩,⟨d3,-⟩,-⟩:=fa [0,1,2,3] (by decide +kernel) hd
     simp only[fu] at d0 d1 d2 d3;try simp only[d0,d1,d2,d3]
     clear d0 d1 d2 d3;intro K hK;go_wp2;exact zk hK _ (fun _ _=>rfl)
    ·cases hoo;simp only[fr];intro K hK;go_wp2;exact zk hK _ (fun _ _=>rfl)
    ·cases hoo;simp only[fr];obtain⟨⟨d5,-⟩,-⟩:=fa [5] (by decide +kernel) hd
     simp only[fu] at d5;try simp only[d5]
     clear d5;intro K hK;go_wp2;exact zk hK _ (fun _ _=>rfl)
    ·cases hoo;simp only[fr];obtain⟨⟨d0,-⟩,⟨d1,-⟩,⟨d2,-⟩,⟨d3,-⟩,⟨d4,-⟩,⟨d5,-⟩,⟨d6,-⟩,-⟩:=fa [0,1,2,3,4,5,6] (by decide +kernel) hd
     simp only[fu] at d0 d1 d2 d3 d4 d5 d6;try simp only[d0,d1,d2,d3,d4,d5,d6]
     clear d0 d1 d2 d3 d4 d5 d6;intro K hK;go_wp2;exact zk hK _ (fun _ _=>rfl)
    ·cases hoo;simp only[fr];obtain⟨⟨d0,-⟩,⟨d1,-⟩,⟨d2,-⟩,⟨d3,-⟩,⟨d4,-⟩,⟨d5,-⟩,⟨d6,-⟩,⟨d7,-⟩,-⟩:=fa [0,1,2,3,4,5,6,7] (by decide +kernel) hd
     simp only[fu] at d0 d1 d2 d3 d4 d5 d6 d7;try simp only[d0,d1,d2,d3,d4,d5,d6,d7]
     clear d0 d1 d2 d3 d4 d5 d6 d7;intro K hK;go_wp2;exact zk hK _ (fun _ _=>rfl)
    ·cases hoo;simp only[fr];intro K hK;go_wp2;have b1:=Bk.new u [.int .i64 0,.int .i64 0,.int .i64 0,.int .i64 0] 75;exact hK _ [u.heap.size] _ ((zr u).alloc _) (fun _ h=>⟨_,rfl,rfl,b1.ext h⟩) (b1.own (Nat.le_refl _))
   ·intro oo hoo U u G hE hφ hap;cases hoo;simp only[fr];obtain⟨⟨d0,-⟩,⟨d1,-⟩,⟨d2,-⟩,⟨d3,-⟩,⟨d4,-⟩,⟨d5,-⟩,⟨d6,-⟩,⟨d7,-⟩,⟨d8,-⟩,⟨d9,o9⟩,-⟩:=fb [0,1,2,3,4,5,6,7,8,9] (by decide +kernel) hφ
    simp only[fu] at d0 d1 d2 d3 d4 d5 d6 d7 d8 d9;try simp only[d0,d1,d2,d3,d4,d5,d6,d7,d8]
    obtain⟨B8,e8,eg8,k8⟩:=d9;rw[eg8] at o9;have lB8:W7.heap.size<=B8:=(o9.2 B8 (by simp)).1
    clear d0 d1 d2 d3 d4 d5 d6 d7 d8 hφ hap;simp only[e8];have k8f:=k8.fz;obtain⟨x80,x81,x82,x83⟩:=Bk.k4 k8;have KK:=zh ((((k8.set 0 (.int .i64 ch'.Kind)).set 1 (.int .i64 ch'.From)).set 2 (.int .i64 ch'.To)).set 3 (.int .i64 ch'.Size));have EE:=zh (((((E7.out.tr hE).set (p:=⟨B8,0,none⟩) (Nat.le_trans E7.out.sz lB8) (.int .i64 ch'.Kind)).set (p:=⟨B8,1,none⟩) (Nat.le_trans E7.out.sz lB8) (.int .i64 ch'.From)).set (p:=⟨B8,2,none⟩) (Nat.le_trans E7.out.sz lB8) (.int .i64 ch'.To)).set (p:=⟨B8,3,none⟩) (Nat.le_trans E7.out.sz lB8) (.int .i64 ch'.Size));clear k8 hE o9;go_upto_region 16 with (fail)
    refine zA2 (fun W=>Ext W6 W/\Bk W B8 [.int .i64 ch'.Kind,.int .i64 ch'.From,.int .i64 ch'.To,.int .i64 ch'.Size] 75) ⟨EE.out,KK.out⟩ ?_
    rintro W8 ⟨E8,K8⟩;clear KK EE x80 x81 x82 x83 k8f e8 eg8;have hB86:W6.heap.size<=B8:=Nat.le_trans E7.out.sz lB8;have T8:=TR.out.ext E8;have z0:=(zA0 E8 ltB).trans q0;have z1:=(zA0 E8 ltB).trans q1;have z2:=(zA0 E8 ltB).trans q2;have ltB8:=zl ltB E8.sz;have z5:=(T8.cl 5 (by decide)).trans v5
    have z4:=(T8.cl 4 (by decide)).trans v4
    have ltb8:=T8.lt;obtain⟨x',Fh,eh,omh,hsubh,hbackh⟩:=T8.hold v5 hil2;obtain rfl:x'=x:=Option.some.inj (eh.symm.trans hx);obtain⟨ah,nh,hcell,hrv⟩:=omh.openHs;have hltg:=omh.bk.1;obtain⟨k9,Fy9,ec9,omc9,hsub9,hback9⟩:=T8.core v4 (by simpa using HN.out)
    obtain rfl:k9=c1':=Option.some.inj (ec9.symm.trans (by simp[List.getElem?_set,HN.out]))
    obtain⟨ac,nc,xc0,_,_,_,_⟩:=omc9.openC;obtain⟨gc,sc,rfl,hgc,hgcF,hltc,hcc,hfc,hrc,_⟩:=omc9.cellC xc0 ib hib;have ltg4:=omc9.bk.1;have w80:=K8.cell (j:=0) rfl;have w83:=K8.cell (j:=3) rfl;have ltK8:=K8.lt;have hlen:x'.Lst.length<=1000:=by
     have:=(zC3.1 hxv);have:=zBt this.1;omega
    have OMH:=zh omh;have HBH:=zh hbackh;have HRV:=zh hrv;have KB8:=zh K8;have EW8:=zh E8;have hg5B:g5∈F5:=(hsubh g5 (List.mem_cons_self ..)).1;have hg5lt:=hB5 g5 hg5B;clear omh hbackh hrv K8 E8 T8 ec9 omc9 hsub9 hback9 eh hsubh E7;obtain⟨r1,hr1⟩:∃ r1,(zBc x' ch'.Kind).1=r1:=⟨_,rfl⟩;obtain⟨r2,hr2⟩:∃ r2,(zBc x' ch'.Kind).2=r2:=⟨_,rfl⟩;have HR:=zh (And.intro hr1 hr2);have hr2b:0<=r2+1/\r2<=255:=by
     have:=zH4 hxv;omega
    go_upto_region 17 with (fail)
    refine zE7 rfl 15 [(135,[135]),(136,[136]),(137,[137]),(138,[138]),(139,[139]),(140,[140]),(141,[141]),(142,[142]),(143,[143]),(144,[144]),(145,[145]),(134,[134,145]),(146,[146,145]),(147,[147]),(9,[9])]
     (fun i vs u F=>match i,vs with
      | 0,[y]=>y = .pointer (some ⟨b,off,none⟩)
      | 1,[y]=>y = .pointer (some ⟨b,off,none⟩)
      | 2,[y]=>y = .pointer (some ⟨b,off+5,none⟩)
      | 3,[y]=>y = .slice (some ⟨g5,s5,none⟩) m.Holds.length c5
      | 4,[y]=>y = .pointer (some ⟨B,1,none⟩)
      | 5,[y]=>y = .int .i64 ia
      | 6,[y]=>y = .pointer (some ⟨g5,s5+ia,none⟩)
      | 7,[y]=>y = .agg #[.slice ah x'.Lst.length nh]
      | 8,[y]=>y = .pointer (some ⟨B8,0,none⟩)
      | 9,[y]=>y = .int .i64 ch'.Kind
      | 10,[y] => ∃ v',y = .tuple #[.agg #[v'],.int .i64 r2]/\GT.enc u [v'] r1 F
      | 11,[y,z]=>y=z
      | 12,[y,z] => ∃ v',z = .tuple #[.agg #[v'],.int .i64 r2]/\y = .agg #[v']
      | 13,[y]=>y = .int .i64 r2
      | 14,[y] => ∃ B9,y = .pointer (some ⟨B9,0,none⟩)/\F = [B9]/\Bk u B9 [.slice none 0 0] 40
      | _,_=>False) 13 (by decide +kernel) ?_ ?_ ?_
    ·intro i hi hif oo hoo U u F hE hd hap;have i5:=(zA0 hE ltb8).trans z5;have i1:=(zA0 hE ltB8).trans z1;have ih:=(zA0 hE hltg).trans hcell;have i8:=(zA0 hE ltK8).trans w80;rcases(by omega:i=0\/i=1\/i=2\/i=3\/i=4\/i=5\/i=6\/i=7\/i=8\/i=9\/i=10\/i=11\/i=12\/i=13\/i=14) with rfl|rfl|rfl|rfl|rfl|rfl|rfl|rfl|rfl|rfl|rfl|rfl|rfl|rfl|rfl
     ·cases hoo;simp only[fr];intro K hK;go_wp2;exact zk hK _ (fun _ _=>rfl)
     ·cases hoo;simp only[fr];obtain⟨⟨d0,-⟩,-⟩:=fa [0] (by decide +kernel) hd
      simp only[fu] at d0;try simp only[d0]
      clear d0;intro K hK;go_wp2;exact zk hK _ (fun _ _=>rfl)
     ·cases hoo;simp only[fr];obtain⟨⟨d0,-⟩,⟨d1,-⟩,-⟩:=fa [0,1] (by decide +kernel) hd
      simp only[fu] at d0 d1;try simp only[d0,d1]
      clear d0 d1;intro K hK;go_wp2;exact zk hK _ (fun _ _=>rfl)
     ·cases hoo;simp only[fr];obtain⟨⟨d0,-⟩,⟨d1,-⟩,⟨d2,-⟩,-⟩:=fa [0,1,2] (by decide +kernel) hd
      simp only[fu] at d0 d1 d2;try simp only[d0,d1,d2]
      clear d0 d1 d2;intro K hK;go_wp2;exact zk hK _ (fun _ _=>rfl)
     ·cases hoo;simp only[fr];intro K hK;go_wp2;exact zk hK _ (fun _ _=>rfl)
     ·cases hoo;simp only[fr];obtain⟨⟨d4,-⟩,-⟩:=fa [4] (by decide +kernel) hd
      simp only[fu] at d4;try simp only[d4]
      clear d4;intro K hK;go_wp2;exact zk hK _ (fun _ _=>rfl)
     ·cases hoo;simp only[fr];obtain⟨⟨d0,-⟩,⟨d1,-⟩,⟨d2,-⟩,⟨d3,-⟩,⟨d4,-⟩,⟨d5,-⟩,-⟩:=fa [0,1,2,3,4,5] (by decide +kernel) hd
      simp only[fu] at d0 d1 d2 d3 d4 d5;try simp only[d0,d1,d2,d3,d4,d5]
      clear d0 d1 d2 d3 d4 d5;intro K hK;go_wp2;exact zk hK _ (fun _ _=>rfl)
     ·cases hoo;simp only[fr];obtain⟨⟨d0,-⟩,⟨d1,-⟩,⟨d2,-⟩,⟨d3,-⟩,⟨d4,-⟩,⟨d5,-⟩,⟨d6,-⟩,-⟩:=fa [0,1,2,3,4,5,6] (by decide +kernel) hd
      simp only[fu] at d0 d1 d2 d3 d4 d5 d6;try simp only[d0,d1,d2,d3,d4,d5,d6]
      clear d0 d1 d2 d3 d4 d5 d6;intro K hK;go_wp2;exact zk hK _ (fun _ _=>rfl)
     ·cases hoo;simp only[fr];intro K hK;go_wp2;exact zk hK _ (fun _ _=>rfl)
     ·cases hoo;simp only[fr];obtain⟨⟨d8,-⟩,-⟩:=fa [8] (by decide +kernel) hd
      simp only[fu] at d8;try simp only[d8]
      clear d8;intro K hK;go_wp2;exact zk hK _ (fun _ _=>rfl)
     ·cases hoo;simp only[fr];obtain⟨⟨d0,-⟩,⟨d1,-⟩,⟨d2,-⟩,⟨d3,-⟩,⟨d4,-⟩,⟨d5,-⟩,⟨d6,-⟩,⟨d7,-⟩,⟨d8,-⟩,⟨d9,-⟩,-⟩:=fa [0,1,2,3,4,5,6,7,8,9] (by decide +kernel) hd
      simp only[fu] at d0 d1 d2 d3 d4 d5 d6 d7 d8 d9;try simp only[d0,d1,d2,d3,d4,d5,d6,d7,d8,d9]
      intro K hK;go_wp2_with (go_at_call 75;refine(zG2 _ x' ch'.Kind _ (HRV.out.ext hE) hlen).mono ?_;rintro e w' ⟨v1,rfl,hov,ex1⟩;rw[hr2,hr1] at *;obtain⟨cs',F',rfl,hen,how⟩:=hov;obtain⟨v',rfl,hsl⟩:=id hen)
      exact hK _ F' _ ex1 (fun _ h=>⟨v',rfl,GT.ext hen h⟩) how
     ·cases hoo;simp only[fr];obtain⟨⟨d0,-⟩,⟨d1,-⟩,⟨d2,-⟩,⟨d3,-⟩,⟨d4,-⟩,⟨d5,-⟩,⟨d6,-⟩,⟨d7,-⟩,⟨d8,-⟩,⟨d9,-⟩,⟨d10,o10⟩,-⟩:=fa [0,1,2,3,4,5,6,7,8,9,10] (by decide +kernel) hd
      simp only[fu] at d0 d1 d2 d3 d4 d5 d6 d7 d8 d9 d10;try simp only[d0,d1,d2,d3,d4,d5,d6,d7,d8,d9]
      obtain⟨v',ev,_⟩:=d10;simp only[ev];intro K hK;go_wp2;exact zk hK _ (fun _ _=>by show Value.tuple _=U 145;rw[ev])
     ·cases hoo;simp only[fr];obtain⟨⟨d0,-⟩,⟨d1,-⟩,⟨d2,-⟩,⟨d3,-⟩,⟨d4,-⟩,⟨d5,-⟩,⟨d6,-⟩,⟨d7,-⟩,⟨d8,-⟩,⟨d9,-⟩,⟨d10,o10⟩,⟨d11,-⟩,-⟩:=fa [0,1,2,3,4,5,6,7,8,9,10,11] (by decide +kernel) hd
      simp only[fu] at d0 d1 d2 d3 d4 d5 d6 d7 d8 d9 d10 d11;try simp only[d0,d1,d2,d3,d4,d5,d6,d7,d8,d9,d11]
      obtain⟨v',ev,_⟩:=d10;have d11z:=d11;rw[ev] at d11z;simp only[d11z,ev];intro K hK;go_wp2;exact zk hK _ (fun _ _=>⟨v',ev,rfl⟩)
     ·exact absurd rfl hif
     ·cases hoo;simp only[fr];intro K hK;go_wp2;have b1:=Bk.new u [.slice none 0 0] 40;exact hK _ [u.heap.size] _ ((zr u).alloc _) (fun _ h=>⟨_,rfl,rfl,b1.ext h⟩) (b1.own (Nat.le_refl _))
    ·intro oo hoo U u F hE hd;cases hoo;simp only[fr];obtain⟨⟨d0,-⟩,⟨d1,-⟩,⟨d2,-⟩,⟨d3,-⟩,⟨d4,-⟩,⟨d5,-⟩,⟨d6,-⟩,⟨d7,-⟩,⟨d8,-⟩,⟨d9,-⟩,⟨d10,o10⟩,⟨d11,-⟩,-⟩:=fa [0,1,2,3,4,5,6,7,8,9,10,11] (by decide +kernel) hd
     simp only[fu] at d0 d1 d2 d3 d4 d5 d6 d7 d8 d9 d10 d11;try simp only[d0,d1,d2,d3,d4,d5,d6,d7,d8,d9,d11]
     obtain⟨v',ev,_⟩:=d10;have d11z:=d11;rw[ev] at d11z;exact⟨.int .i64 r2,fun w2=>by simp[execOp,Act.eval,d11z,ev,go_sem],fun _ _=>rfl⟩
    ·intro oo hoo U u G hE hφ hap K hK;cases hoo;obtain⟨⟨d0,-⟩,⟨d1,-⟩,⟨d2,-⟩,⟨d3,-⟩,⟨d4,-⟩,⟨d5,-⟩,⟨d6,-⟩,⟨d7,-⟩,⟨d8,-⟩,⟨d9,-⟩,⟨d10,o10⟩,⟨d11,-⟩,⟨d12,o12⟩,⟨d13,-⟩,⟨d14,o14⟩,-⟩:=fb [0,1,2,3,4,5,6,7,8,9,10,11,12,13,14] (by decide +kernel) hφ
     simp only[fu] at d0 d1 d2 d3 d4 d5 d6 d7 d8 d9 d10 d11 d12 d13 d14;try simp only[d0,d1,d2,d3,d4,d5,d6,d7,d8,d9,d11,d13]
     obtain⟨v',ev,hen⟩:=d10;obtain⟨v2,ev2,ex2⟩:=d12;obtain rfl:v2=v':=by
      have h:=ev.symm.trans ev2
      injection h with h
      have h:=congrArg Array.toList h;simp only[List.cons.injEq] at h
      injection h.1 with h
      have h:=congrArg Array.toList h;simp only[List.cons.injEq] at h;exact h.1.symm
     obtain⟨B9,e9,eg9,k9b⟩:=d14;have ap:=hap 10 14 (by omega) (by omega) (by omega)
     rw[eg9] at o14 ap;have lB9:W8.heap.size<=B9:=(o14.2 B9 (by simp)).1
     have nB9:B9 ∉ G 10:=ap.one;have how:=o10
     generalize G 10=GH at *
     obtain⟨v3,e3,hs3⟩:=id hen;obtain rfl:v2=v3:=by simpa using e3
     obtain⟨av,cv,rfl,_⟩:=id hs3;clear e3 hs3;simp only[fr];simp only[zCc,zCo,List.map_cons,List.map_nil,setL,List.set_cons_succ,List.set_cons_zero,Bd.d,List.getD_cons_succ,List.getD_cons_zero] at hK;simp only[e9,ex2,d13] at hK ⊢;have k9f:=k9b.fz;have x90:=k9b.cell (j:=0) rfl;have KK:=zh (k9b.set 0 (.slice av r1.Lst.length cv));have EN:=zh (GT.keep (w':=u.setCell ⟨B9,0,none⟩ (.slice av r1.Lst.length cv)) hen (fun k hk=>zA8 (fun e=>nB9 (by have e:k=B9:=e;rw[<- e];exact hk))))
     have OW:=zh (how.set ⟨B9,0,none⟩ (.slice av r1.Lst.length cv));have EE:=zh (hE.set (p:=⟨B9,0,none⟩) lB9 (.slice av r1.Lst.length cv));clear hE hφ hap ap d0 d1 d2 d3 d4 d5 d6 d7 d8 d9 d11 o10 o12 o14 ev ev2 hen how;go_upto_region 18 with (fail)
     refine zA2 (fun W=>Ext W8 W/\Bk W B9 [(.slice av r1.Lst.length cv)] 40/\GT.enc W [(.slice av r1.Lst.length cv)] r1 GH/\Own W8.heap.size W GH) ⟨EE.out,KK.out,EN.out,OW.out⟩ ?_
     rintro W9 ⟨E9,K9,EN9,OW9⟩;clear KK EN OW EE x90 k9f;have i5:=(zA0 E9 ltb8).trans z5;have i1:=(zA0 E9 ltB8).trans z1;have ih:=(zA0 E9 hltg).trans hcell;have i9:=K9.cell (j:=0) rfl;have gf9:=(OMH.out.ext E9).bk.2.2.2;have hLW:L<=W8.heap.size:=by have:=T6.out.ch.sz;have:=EW8.out.sz;omega
     obtain⟨pc1,pc2,pc3⟩:=OMH.out.putHold E9 hLW (Nat.le_refl _) EN9 OW9;obtain⟨F10,t10⟩:=HBH.out _ _ _ pc1 pc2 (fun z hz => .inr (pc3 z hz))
     have T10:=zh t10;have K810:=zh ((KB8.out.ext E9).set_ne (p:=⟨g5,s5+ia,none⟩) (by show B8≠g5;omega) (.slice av r1.Lst.length cv))
     clear t10 pc1 pc2 pc3 EN9 OW9;refine zAa 7 (by kernel_rfl) (by kernel_rfl) ?_
     simp only[List.take_succ_cons,List.take_zero,List.drop_succ_cons,List.drop_zero]
     repeat (go_big_quiet_step (fail))
     refine wpQuiet_nil ?_;go_upto_region 19 with (fail)
     refine zA2 (fun W => ∃ w9,W=w9/\zB3 L b off F5 W6 W ⟨m.Plan,m.Programs,m.Cores.set N k9,m.Holds.set ia r1,m.Tick+1⟩ F10/\Bk W B8 [.int .i64 ch'.Kind,.int .i64 ch'.From,.int .i64 ch'.To,.int .i64 ch'.Size] 75) ⟨_,rfl,T10.out.ext (zr _).drew,K810.out.ext (zr _).drew⟩ ?_
     rintro WA ⟨_,rfl,TA,KA8⟩;have hBF:B ∉ F5:=fun hm=>by have:=hB5 B hm;omega
     have KA:=TA.bk K6.out (by omega) hBF
     have wb1:=KA.cell (j:=1) rfl;have wb2:=KA.cell (j:=2) rfl;have wk0:=KA8.cell (j:=0) rfl;obtain⟨kA,FyA,ecA,omcA,hsubA,hbackA⟩:=TA.core v4 (by simpa using HN.out)
     obtain rfl:kA=k9:=Option.some.inj (ecA.symm.trans (by simp[List.getElem?_set,HN.out]))
     obtain⟨acA,ncA,xcA,_,_,_,_⟩:=omcA.openC;obtain⟨gcA,scA,rfl,hgcA,hgcFA,hltcA,hccA,hfcA,hrcA,hputA⟩:=omcA.cellC xcA ib hib;have hgB:B≠gcA:=fun e=>by
      have h1:=(hsubA gcA (List.mem_cons_of_mem _ hgcFA)).1;rw[<- e] at h1;rcases TA.sub B h1 with h2|h2
      ·exact hBF h2
      ·omega
     have TTA:=zh (T6.out.trans TA);have TA1:=zh TA;have HBA:=zh hbackA;have HPA:=zh hputA;have hr2r:rng r2:=⟨by omega,by omega⟩
     clear TA KA KA8 omcA hsubA hbackA hputA ecA T10 K810 i5 i1 ih i9 gf9 E9 K9 z0 z1 z2 z4 z5 hcell xc0 hcc w80 w83;by_cases hc0:0<=r2
     ·have hdc:decide (r2 ≥ 0)=true:=decide_eq_true hc0;have hdd:decide (0<=r2)=true:=decide_eq_true hc0;have HC0:=zh hc0;obtain⟨F11,om11,sub11,ch11⟩:=HPA.out r2 hr2r;obtain⟨F12,t12⟩:=HBA.out _ _ _ ch11 om11 (fun z hz => .inl (sub11 z hz))
      simp only[List.set_set] at t12;have T12:=zh (T6.out.trans t12);clear t12 om11 ch11 sub11 hc0;go_upto_region 20 with (fail)
      refine zAa 7 (by kernel_rfl) (by kernel_rfl) ?_
      simp only[List.take_succ_cons,List.take_zero,List.drop_succ_cons,List.drop_zero]
      repeat (go_big_quiet_step (fail))
      refine wpQuiet_nil ?_;go_wp2;refine bodyPost_ret (v:=.tuple #[.int .i64 N,.int .i64 (-1)]) (by simp[results,Tryz.results35,go_sem]) rfl ⟨by rw[HW.out,HOV.out],F12,?_⟩
      rw[HTK.out];have hE:=zJc (h:=x') (c:=kA) (o:=⟨6,ia,ib⟩) (ch:=ch')  HC0.out HR.out.1 HR.out.2;rw[Int.toNat_natCast,hxd,hE];exact T12.out.ext (zr _).drew
     ·have hdc:decide (r2 ≥ 0)=false:=decide_eq_false hc0;have hdd:decide (0<=r2)=false:=decide_eq_false hc0;have HC0:=zh hc0;clear hc0;go_wp2;refine bodyPost_ret (v:=.tuple #[.int .i64 N,.int .i64 (-1)]) (by simp[results,Tryz.results35,go_sem]) rfl ⟨by rw[HW.out,HOV.out],F10,?_⟩
      rw[HTK.out];have hE:=zJb (h:=x') (c:=kA) (o:=⟨6,ia,ib⟩) (ch:=ch')  (fun h=>by have:=HC0.out;omega) HR.out.1 HR.out.2
      rw[Int.toNat_natCast,hxd,hE];exact TTA.out
--@end
theorem zJn(L b:Nat)(m:Machine)(F:List Nat)(w:World)(h:Om L w b 0 m F)(hL:L<=w.heap.size)(hv:zDx m)(ht:m.Tick < 100000) :
  Calls Tryz.prog 35 #[.pointer (some ⟨b,0,none⟩)] w fun e w'=>e = .returned (.tuple #[.int .i64 (zBq m.Plan.Slots m.Tick),.int .i64 (zGb m)])/\∃ F',zHl L b F w w' (zB1 m) F' :=
 (zIw L b 0 m F w h hL hv ht).mono fun e w' ⟨h1,F',h2⟩=>⟨h1,F',h2.tb⟩
end Sk
