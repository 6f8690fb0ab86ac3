/- Contracts of functions of the given program. -/
import Derived.Test.YtpjdkfkfmebphaaGreatZgFgT
import Derived.Test.YtpjdkfkfmebphaaGreatZfPrgs
namespace Sk
open Go Go.Proofs Go.RowKit
set_option maxHeartbeats 4000000
set_option maxRecDepth 100000
set_option linter.unusedVariables false
set_option linter.unusedSimpArgs false
theorem zLm{w:World}{A B o i j k:Nat}{u0 u1 u2 x:Value}(h:w.cell? ⟨B,o,none⟩=some x)(hne:B≠A):(((w.setCell ⟨A,i,none⟩ u0).setCell ⟨A,j,none⟩ u1).setCell ⟨A,k,none⟩ u2).cell? ⟨B,o,none⟩=some x :=
 (World.cell?_of_block (zA3 hne)).trans ((World.cell?_of_block (zA3 hne)).trans ((World.cell?_of_block (zA3 hne)).trans h))
theorem zI2(v:Value)(m:Machine)(n:Int)(w:World)(h:Rv w v m) :
  Calls Tryz.prog 8 #[v,.int .i64 n] w fun e w' => ∃ v',e = .returned v'/\Ov w.heap.size w' v' (zDc m n)/\Ext w w':=by
 have H:=zh h;obtain⟨a0,c0,a1,c1,a2,c2,a3,c3,a4,c4,a5,c5,rfl,rt,h0,l0,h1,l1,h2,l2,h3,l3,h4,l4,h5,l5⟩:=h.openMachine;have H0:=h0;have H1:=h1;clear h h0 h1 h2 h3 h4 h5;go_enter Tryz.func8,Tryz.ntmps8;go_upto_region 1 with (fail)
 refine zA1 (fun W=>Ext w W/\Bk W w.heap.size [.slice a0 m.Plan.Parts.length c0,.slice a1 m.Plan.Channels.length c1,.slice a2 m.Plan.Slots.length c2,.slice a3 m.Programs.length c3,.slice a4 m.Cores.length c4,.slice a5 m.Holds.length c5,.int .i64 m.Tick] 32/\Bk W (w.heap.size+1) [.slice none 0 0,.slice none 0 0,.slice none 0 0,.slice none 0 0,.slice none 0 0,.slice none 0 0,.int .i64 0] 32) ⟨((zr _).alloc _).alloc _,(Bk.new _ _ _).ext ((zr _).alloc _),Bk.new1 _ _ _ _⟩ ?_
 rintro W ⟨e1,kA,kB⟩;have HE0:=zh e1;obtain⟨d0,d1,d2,d3,d4,d5,d6⟩:=Bk.k7 kA;have KA:=zh kA;have KB:=zh kB;clear e1 kA kB;cases g:zG0 m
 ·have g0:zBs m n=false:=by unfold zBs;rw[g];rfl
  go_wp2_with (go_at_call 15;refine(zAi _ m _ (H.out.ext HE0.out)).mono ?_;rintro e w0 ⟨rfl,he⟩;rw[g];have E:=zh (HE0.out.tr he);have KAx:=KA.out.ext he;have ltA:=KAx.lt;obtain⟨x0,x1,x2,x3,x4,x5,x6⟩:=Bk.k7 KAx;have KBx:=KB.out.ext he;obtain⟨z0,z1,z2,z3,z4,z5,z6⟩:=Bk.k7 KBx;have zf:=KBx.fz;have ltZ:=KBx.lt;clear KBx;clear he KAx)
  refine bodyPost_ret (v:=.agg #[.slice none 0 0,.slice none 0 0,.slice none 0 0,.slice none 0 0,.slice none 0 0,.slice none 0 0,.int .i64 0]) (by simp[results,Tryz.results8,go_sem,z0,z1,z2,z3,z4,z5,z6]) rfl ⟨_,rfl,by rw[zFp g0];exact Ov.mz _ _,(((((((E.out).set (by simp) _).set (by simp) _).set (by simp) _).set (by simp) _).set (by simp) _).set (by simp) _).set (by simp) _⟩
 have hmv:=zCd.1 g;have hp5:=zAn hmv.pg.set;have hc8:=zAu hmv.pg.set;have hn5:m.Cores.length<=5:=by have:=hmv.nc;omega
 have hwr:IntKind.i64.wrap ((m.Cores.length:Int) - 1)=(m.Cores.length:Int) - 1:=zDh (by omega) (by omega)
 cases g1:zA8 n 0 ((m.Cores.length:Int) - 1)
 ·have g0:zBs m n=false:=by unfold zBs;rw[g,g1];rfl
  go_wp2_with (first
   | (go_at_call 15;refine(zAi _ m _ (H.out.ext HE0.out)).mono ?_;rintro e w0 ⟨rfl,he⟩;rw[g];have E:=zh (HE0.out.tr he);have KAx:=KA.out.ext he;have ltA:=KAx.lt;obtain⟨x0,x1,x2,x3,x4,x5,x6⟩:=Bk.k7 KAx;have KBx:=KB.out.ext he;obtain⟨z0,z1,z2,z3,z4,z5,z6⟩:=Bk.k7 KBx;have zf:=KBx.fz;have ltZ:=KBx.lt;clear KBx;clear he KAx)
   | (go_at_call 27;refine(zAe _ _ _ _).mono ?_;rintro e w9 ⟨rfl,rfl⟩;rw[g1]))
  refine bodyPost_ret (v:=.agg #[.slice none 0 0,.slice none 0 0,.slice none 0 0,.slice none 0 0,.slice none 0 0,.slice none 0 0,.int .i64 0]) (by simp[results,Tryz.results8,go_sem,z0,z1,z2,z3,z4,z5,z6]) rfl ⟨_,rfl,by rw[zFp g0];exact Ov.mz _ _,(((((((E.out).set (by simp) _).set (by simp) _).set (by simp) _).set (by simp) _).set (by simp) _).set (by simp) _).set (by simp) _⟩
 obtain⟨b1,b2⟩:=zA6.1 g1;obtain⟨n,rfl⟩:∃ k:Nat,n=k:=⟨n.toNat,by omega⟩
 have hn:n < m.Cores.length:=by omega
 have gs:zBs m n=true:=by unfold zBs;rw[g,g1];rfl
 have htot:GT.tot m<=1048576:=Nat.le_trans (zDx hmv) (by omega)
 have hres:=zh (zFq gs);have HNP:Hid (m.Programs.length=m.Cores.length):=zh (by have:=hmv.pg.np;have:=hmv.nc;omega)
 have HNC:=zh hmv.nc;have HNH:=zh hmv.nh;have HV:=zh hmv;have HCV:Hid (zCk m.Plan.Channels m.Cores.length=true):=zh (by rw[hmv.nc];exact hmv.csv)
 clear hmv gs;go_upto_region 3 with (first
  | (go_at_call 15;refine(zAi _ m _ (H.out.ext HE0.out)).mono ?_;rintro e w0 ⟨rfl,he⟩;rw[g];have E:=zh (HE0.out.tr he);have KAx:=KA.out.ext he;have ltA:=KAx.lt;obtain⟨x0,x1,x2,x3,x4,x5,x6⟩:=Bk.k7 KAx;replace KA:=zh (KA.out.ext he);replace KB:=zh (KB.out.ext he);clear he KAx)
  | (go_at_call 27;refine(zAe _ _ _ _).mono ?_;rintro e w9 ⟨rfl,rfl⟩;rw[g1]))
 have ltB0:=KB.out.lt;go_upto_region 4 with (go_at_call 28;refine(zIh _ m _ (H.out.ext E.out) htot).mono ?_;rintro e w5 ⟨v5,rfl,hov,ex⟩;obtain⟨cs5,F5,rfl,hen,how⟩:=hov;obtain⟨v0,v1,v2,v3,v4,v5,G0,G1,G2,G3,G4,G5,rfl,⟨t0,u0,rfl,_⟩,⟨t1,u1,rfl,_⟩,⟨t2,u2,rfl,_⟩,⟨t3,u3,rfl,_⟩,⟨t4,u4,rfl,_⟩,⟨t5,u5,rfl,_⟩,_,_⟩:=id hen;have HEN:=zh hen;have HOW:=zh how;have EX:=zh ex;replace KB:=zh (KB.out.ext ex);replace KA:=zh (KA.out.ext ex);clear hen how ex)
 refine zA1 (fun W6=>Ext w5 W6/\Bk W6 w5.heap.size [.slice t0 m.Plan.Parts.length u0,.slice t1 m.Plan.Channels.length u1,.slice t2 m.Plan.Slots.length u2,.slice t3 m.Programs.length u3,.slice t4 m.Cores.length u4,.slice t5 m.Holds.length u5,.int .i64 m.Tick] 32) ⟨(zr _).alloc _,Bk.new _ _ _⟩ ?_
 rintro W6 ⟨E6,K6⟩;have hs05:=EX.out.sz;have hw0:=E.out.sz;have ltB5:=KB.out.lt;have om:Om w0.heap.size W6 w5.heap.size 0 m F5:=⟨_,GT.ext HEN.out E6,fun j u hj=>by rw[Nat.zero_add];exact K6.cell hj,List.nodup_cons.2 ⟨fun hm=>Nat.lt_irrefl _ (HOW.out.lt hm),HOW.out.1⟩,fun k hk=>by
  rcases List.mem_cons.1 hk with rfl|hk
  ·exact⟨hs05,⟨_,_,K6⟩⟩
  ·exact⟨(HOW.out.2 k hk).1,((HOW.out.2 k hk).2).ext E6⟩⟩
 have E7:=zh ((E.out.tr EX.out).tr E6);have KB6:=zh (KB.out.ext E6);have KA6:=zh (KA.out.ext E6);have HF:Hid (∀ x∈F5,w0.heap.size<=x/\x < w5.heap.size):=zh (fun x hx=>⟨(HOW.out.2 x hx).1,HOW.out.lt hx⟩)
 have hs6:=E6.sz;have k3:=K6.cell (j:=3) rfl;have k4:=K6.cell (j:=4) rfl;have k5:=K6.cell (j:=5) rfl;have hBlt:=K6.lt;have OM6:=zh om
 generalize hB:w5.heap.size=B at *
 have hR0:w.heap.size+1 < w0.heap.size:=ltB0;clear om K6 E6 HEN HOW EX KB KA hB d0 d1 d2 d3 d4 d5 d6 x0 x1 x2 x3 x4 x5 x6;obtain⟨d0,d1⟩:=Bk.k2 KA6.out;have d4:=KA6.out.cell (j:=4) rfl;have ltA6:=KA6.out.lt;go_upto_region 5 with (go_at_call 29;refine(zMo _ m.Plan.Channels m.Cores.length n _ (H1.out.ext E7.out) HCV.out hn).mono ?_;rintro e w7 ⟨v7,rfl,ofl,he7⟩;obtain⟨fa,fc,rfl,hfl⟩:=ofl.form;have OFL:=zh ofl;have EF:=zh he7;clear ofl he7)
 rw[zC0] at *;have hsz7:=EF.out.sz;have TB0:=zh (zBz.refl (OM6.out.ext EF.out));have E8:=zh (E7.out.tr EF.out);have KB8:=zh (KB6.out.ext EF.out);have KA8:=zh (KA6.out.ext EF.out);replace k3:=(zA0 EF.out hBlt).trans k3;replace k4:=(zA0 EF.out hBlt).trans k4;replace k5:=(zA0 EF.out hBlt).trans k5;have hBlt7:B < w7.heap.size:=by omega
 have hL7:w0.heap.size<=w7.heap.size:=by omega
 obtain⟨GF,sfl,ofw⟩:=OFL.out;have HSL:=zh sfl;have hBG:B ∉ GF:=fun hm=>by have:=(ofw.2 B hm).1;omega
 have hFG:zBb GF F5:=fun x h2 h1=>by have:=(HF.out x h1).2;have:=(ofw.2 x h2).1;omega
 have hFB:B ∉ F5:=fun hm=>by have:=(HF.out B hm).2;omega
 obtain⟨FL,hFL⟩:∃ FL,zBc m.Plan.Channels m.Cores.length n=FL:=⟨_,rfl⟩;have hFN:FL.length=m.Cores.length:=by rw[<- hFL,zC0]
 have hfd:∀ k,zF0 m n k=FL.getD k false:=fun k=>by rw[<- hFL];rfl
 rw[hFL] at HSL;obtain⟨f,hf⟩:∃ f,zF0 m n=f:=⟨_,rfl⟩;rw[hf] at hres hfd;obtain⟨g3,s3,rfl⟩:∃ g s,t3=some ⟨g,s,none⟩:=by
  obtain⟨_,_,_,ho⟩:=id TB0.out.om;obtain⟨Fc,lc⟩:=TB0.out.om.lMachinePrograms;obtain⟨g',s',_,_,e,_⟩:=(lc.om ho).idxS (by rw[show 0+3=3 from rfl];exact k3) n (by have:=HNP.out;omega)
  exact⟨g',s',e⟩
 obtain⟨g4,s4,rfl⟩:∃ g s,t4=some ⟨g,s,none⟩:=by
  obtain⟨_,_,_,ho⟩:=id TB0.out.om;obtain⟨Fc,lc⟩:=TB0.out.om.lMachineCores;obtain⟨g',s',_,_,e,_⟩:=(lc.om ho).idxS (by rw[show 0+4=4 from rfl];exact k4) n hn
  exact⟨g',s',e⟩
 have hPA:w.heap.size ∉ F5:=fun hx=>by have:=(HF.out _ hx).1;omega
 go_wp2_with fail
 go_loopw [7] (fun v7 wr => ∃ (k:Nat) (Fk:List Nat),k<=m.Cores.length/\v7 = .int .i64 k/\zBz w0.heap.size B F5 w7 wr (zDa f m k) Fk) (fun v7 _=>m.Cores.length - (intOf v7).toNat)
 case atStart=>exact⟨0,_,Nat.zero_le _,rfl,TB0.out⟩
 case round =>
  obtain⟨k,Fk,hk,rfl,tb⟩:=hrel;have TBh:=zh tb;have hszr:=tb.ch.sz;clear tb;by_cases hkt:k < m.Cores.length
  ·obtain⟨fb,fo,fx,rfl,hfb,hx,hfc⟩:=Rs.atBool (⟨_,TBh.out.ch.sl HSL.out hBG hFG⟩:Rs wr _ FL) k (by omega)
   have hfk:f k=fx:=by rw[hfd,List.getD_eq_getElem?_getD,hx.out];rfl
   obtain⟨_,e2,e3,e4,_,_,e7,e8,_,_⟩:=zCl f m k;rw[e3] at e8;rw[e4] at e7;clear e3 e4;cases fx
   ·have hnext:=zh (show zDa f m (k+1)=zKv (zDa f m k) k by show(if f k then _ else _)=_;rw[hfk];rfl)
    obtain⟨x,hxx⟩:∃ x,zDa f m k=x:=⟨_,rfl⟩;rw[hxx] at TBh hnext e2 e7 e8;have hkp:k < x.Programs.length:=by have:=HNP.out;omega
    have hkm:k < m.Programs.length:=by have:=HNP.out;omega
    obtain⟨F2,tz⟩:=TBh.out.progZ (by omega) k3 hkp
    obtain⟨_,_,_,om3,hs3,_⟩:=TBh.out.prog k3 hkp;have gf3:=om3.bk.2.2.2;have hg3:=om3.bk.1;obtain⟨v30,hv30⟩:∃ v,wr.cell? ⟨g3,s3+k,none⟩=some v:=by
     obtain⟨vs,hen,hat,_⟩:=om3;cases vs with
     | nil=>have:=GT.len hen;simp[GT.sz] at this
     | cons v _=>exact⟨v,by simpa using hat 0 v rfl⟩
    have y3:=(TBh.out.cl 3 (by decide)).trans k3
    rw[World.setCell_alloc_past _ _ _ _ hg3] at tz;have TZ:=zh tz;have hkP:k < m.Plan.Parts.length:=by have:=HNC.out;omega
    obtain⟨pb,po,q,wa,wc,rfl,hpb,hq,hp0,hp1,hr1,_,_,_⟩:=H0.out.atPart k hkP;have hpc:=zh (show zM0 x k=q.Cells by simp only[zM0,e2,List.getD_eq_getElem?_getD,hq.out,Option.getD_some])
    have hkx:k < x.Cores.length:=by omega
    clear om3 hs3 tz e8 hxx e2 e7 hp0;go_upto_region 10 with (fail)
    refine zA1 (fun W9 => ∃ F2,zBz w0.heap.size B F5 w7 W9 { x with Programs:=x.Programs.set k [zJ5] } F2) ⟨F2,TZ.out⟩ ?_
    rintro W9 ⟨F9,t9⟩;have T9:=zh t9;have hs9:=t9.ch.sz;have E9:=zh (t9.ch.ext E8.out (by omega) (fun x hx=>by have:=(HF.out x hx).1;omega))
    have KA9:=t9.bk KA8.out (by omega) hPA
    have a90:=KA9.cell (j:=0) rfl;have ltA9:=KA9.lt;have y4:=(t9.cl 4 (by decide)).trans k4
    have ltB9:=t9.lt;have hp9:=(zA0 E9.out hpb).trans hp1;have hpb9:=zl hpb E9.out.sz;have hkx9:k < ({ x with Programs:=x.Programs.set k [zJ5] }:Machine).Cores.length:=hkx
    obtain⟨k0,Fy,ek0,omc,hsub,hback⟩:=t9.core k4 hkx9;obtain⟨_,_,c40,c41,c42,_,_⟩:=omc.openC;have gf9:=omc.bk.2.2.2;have hg4:=omc.bk.1;have OMC:=zh omc;have HBK:=zh hback;have hBg:B≠g4:=fun e=>(hsub g4 (List.mem_cons_self ..)).2 e.symm
    have hLg4:=omc.bk.2.1;have hAg:w.heap.size≠g4:=by omega
    have hpg:pb≠g4:=by omega
    obtain⟨kc,hkc⟩:∃ kc,zAo q.Cells=kc:=⟨_,rfl⟩;clear t9 TZ hsub omc hback KA9 ek0 y3 gf3 hv30 hfc
    go_region_held3 (fun u=>u.cell? ⟨B,4,none⟩=some (.slice (some ⟨g4,s4,none⟩) m.Cores.length u4)/\u.cell? ⟨w.heap.size,0,none⟩=some (.slice (some ⟨pb,po,none⟩) m.Plan.Parts.length c0)/\u.cell? ⟨pb,po+k*2+1,none⟩=some (.int .i64 q.Cells))
     (first
      | go_keep
      | exact⟨(zA0 XX.out ltB9).trans y4,(zA0 XX.out ltA9).trans a90,(zA0 XX.out hpb9).trans hp9⟩
      | exact⟨zLm ((zA0 XX.out ltB9).trans y4) hBg,zLm ((zA0 XX.out ltA9).trans a90) hAg,zLm ((zA0 XX.out hpb9).trans hp9) hpg⟩)
     ((go_at_call 30;refine(zIg q.Cells _).mono ?_;rintro e w11 ⟨v11,rfl,hov,he⟩;rw[hkc] at hov;obtain⟨cs11,FN,rfl,en11,ow11⟩:=hov;obtain⟨v0',rfl,s1,_⟩:=id en11;obtain⟨p9,q9,rfl,_⟩:=id s1;have XX:Hid (Ext W9 w11):=zh ((zr _).drew.tr he);have EN:=zh en11;have OWN:=zh ow11;replace c40:=(zA0 XX.out hg4).trans c40;replace c41:=(zA0 XX.out hg4).trans c41;replace c42:=(zA0 XX.out hg4).trans c42;replace gf9:=(OMC.out.ext XX.out).bk.2.2.2;have ltg:=(OMC.out.ext XX.out).bk.1;clear he en11 ow11 s1))
    obtain⟨pc1,pc2,pc3⟩:=OMC.out.putCore XX.out (M:=W9.heap.size) (by omega) (Nat.le_refl _) EN.out OWN.out
    obtain⟨F4,t10⟩:=HBK.out _ _ _ pc1 pc2 (fun z hz => .inr (pc3 z hz))
    go_wp2_with fail
    go_roundw
    case rel=>exact⟨k+1,F4,by omega,by go_num,by rw[hnext.out,zKv,hpc.out,hkc];exact t10⟩
    case measure=>simp[intOf];omega
   ·have hnext:=zh (show zDa f m (k+1)=zDa f m k by show(if f k then _ else _)=_;rw[hfk];rfl)
    clear e2 e7 e8;go_wp2;go_roundw
    case rel=>exact⟨k+1,Fk,by omega,by go_num,by rw[hnext.out];exact TBh.out⟩
    case measure=>simp[intOf];omega
  ·obtain rfl:k=m.Cores.length:=by omega
   have h10:=(zCl f m m.Cores.length).2.2.2.2.2.2.2.2.2;have hres2:=zh (hres.out.trans (M.fg_eq HV.out f).symm);obtain⟨X,hX⟩:∃ X,zDa f m m.Cores.length=X:=⟨_,rfl⟩;rw[hX] at h10 hres2 TBh;have TB1:Hid (zBz w0.heap.size B F5 w7 wr { X with Holds:=zEl f m.Plan.Channels m.Holds 0 } Fk):=zh (by
    have:({ X with Holds:=zEl f m.Plan.Channels m.Holds 0 }:Machine)=X:=by show({ X with Holds:=m.Holds }:Machine)=X;rw[<- h10]
    rw[this];exact TBh.out)
   have h5:=(TBh.out.cl 5 (by decide)).trans k5
   obtain⟨wa,rfl⟩:∃ wa:World,wa=wr:=⟨_,rfl⟩;clear hres h10 hX TBh hszr;replace hres:=hres2;clear hres2;go_wp2;go_loopw [8] (fun v8 wr => ∃ (j:Nat) (Fj:List Nat),j<=m.Holds.length/\v8 = .int .i64 j/\zBz w0.heap.size B F5 w7 wr { X with Holds:=zEl f m.Plan.Channels m.Holds j } Fj) (fun v8 _=>m.Holds.length - (intOf v8).toNat)
   case atStart=>exact⟨0,_,Nat.zero_le _,rfl,TB1.out⟩
   case round =>
    clear h5 TB1;obtain⟨j,Fk,hj,rfl,tb⟩:=hrel;have TBh:=zh tb;have hszr:=tb.ch.sz;have y5':=(tb.cl 5 (by decide)).trans k5
    clear tb;by_cases hjt:j < m.Holds.length
    ·have hjl:j < ({ X with Holds:=zEl f m.Plan.Channels m.Holds j }:Machine).Holds.length:=by show j < (zEl f m.Plan.Channels m.Holds j).length;rw[zM3];exact hjt
     obtain⟨g5,s5,rfl⟩:∃ g s,t5=some ⟨g,s,none⟩:=by
      obtain⟨_,_,_,ho⟩:=id TBh.out.om;obtain⟨Fc,lc⟩:=TBh.out.om.lMachineHolds;obtain⟨g',s',_,_,e,_⟩:=(lc.om ho).idxS (by rw[show 0+5=5 from rfl];exact y5') j hjl
      exact⟨g',s',e⟩
     have hjc:j < m.Plan.Channels.length:=by have:=HNH.out;omega
     obtain⟨cb,co,ch,rfl,hcb,hch,_,_,hc2,_,_,_,_,_,_⟩:=H1.out.atChannel j hjc;have EA:=TBh.out.ch.ext E8.out (by omega) (fun x hx=>by have:=(HF.out x hx).1;omega)
     have KA9:=TBh.out.bk KA8.out (by omega) hPA
     have a91:=KA9.cell (j:=1) rfl;have ltA9:=KA9.lt;have hc9:=(zA0 EA hcb).trans hc2;obtain⟨T,hT,hTN⟩:∃ T:Nat,ch.To=T/\T < m.Cores.length:=by
      have hv:=HCV.out;simp only[zCk,Bool.and_eq_true,List.all_eq_true] at hv;have hc:=hv.2.2 ch (List.mem_of_getElem? hch.out);simp only[zIk,Bool.and_eq_true,zA6] at hc;exact⟨ch.To.toNat,by omega,by omega⟩
     rw[hT] at hc9;obtain⟨fb,fo,fx,rfl,hfb,hx,hfc⟩:=Rs.atBool (⟨_,TBh.out.ch.sl HSL.out hBG hFG⟩:Rs wr _ FL) T (by omega)
     have hfk:f ch.To.toNat=fx:=by rw[hT,hfd,Int.toNat_natCast,List.getD_eq_getElem?_getD,hx.out];rfl
     obtain⟨_,_,ek,omh,hsubh,hbackh⟩:=TBh.out.hold k5 hjl;obtain⟨ha,hcc,hh0,_⟩:=omh.openHs;have gf5:=omh.bk.2.2.2;have hg5:=omh.bk.1;obtain⟨pc1,pc2,pc3⟩:=omh.putHold (y:=⟨[]⟩) (v:=.slice none 0 0) (G:=[]) (zr _) (M:=wr.heap.size) (by omega) (Nat.le_refl _) ⟨_,rfl,none,0,rfl,Nat.le_refl _,Nat.zero_le _,.inl ⟨rfl,rfl⟩⟩ (Own.nil _ _)
     obtain⟨F4,t10⟩:=hbackh _ _ _ pc1 pc2 (fun z hz => .inr (pc3 z hz))
     have T10:=zh t10;clear KA9 EA hc2 hT omh hsubh hbackh ek pc1 pc2 pc3 t10;cases fx
     ·have hnext:=zh (show zEl f m.Plan.Channels m.Holds (j+1)=(zEl f m.Plan.Channels m.Holds j).set j ⟨[]⟩ by show zF1 f m.Plan.Channels _ j=_;unfold zF1;rw[hch.out];simp only[hfk];rfl)
      go_wp2;go_roundw
      case rel=>exact⟨j+1,F4,by omega,by go_num,by rw[hnext.out];exact T10.out⟩
      case measure=>simp[intOf];omega
     ·have hnext:=zh (show zEl f m.Plan.Channels m.Holds (j+1)=zEl f m.Plan.Channels m.Holds j by show zF1 f m.Plan.Channels _ j=_;unfold zF1;rw[hch.out];simp only[hfk];rfl)
      go_wp2;go_roundw
      case rel=>exact⟨j+1,Fk,by omega,by go_num,by rw[hnext.out];exact TBh.out⟩
      case measure=>simp[intOf];omega
    ·obtain rfl:j=m.Holds.length:=by omega
     have KBx:=TBh.out.bk KB8.out (by omega) (fun hx=>by have:=(HF.out _ hx).1;omega)
     have EY:=zh (TBh.out.ch.ext E8.out (by omega) (fun x hx=>by have:=(HF.out x hx).1;omega))
     have SB:=zh TBh.out.sub;have OM7:=zh TBh.out.om;obtain⟨z0,z1,z2,z3,z4,z5,z6⟩:=Bk.k7 KBx;have zf:=KBx.fz;have ltZ:=KBx.lt;have hbf:=TBh.out.om.bk.2.2.2;have hb7:=TBh.out.lt;clear KBx;obtain⟨x,hx⟩:∃ x,({ X with Holds:=zEl f m.Plan.Channels m.Holds m.Holds.length }:Machine)=x:=⟨_,rfl⟩
     rw[hx] at OM7;obtain⟨p0,q0,p1,q1,p2,q2,p3,q3,p4,q4,_,_,y0,y1,y2,y3,y4,-,y6,_⟩:=OM7.out.openM;go_wp2;obtain⟨cs8,hen8,hat8,hown8⟩:=OM7.out;obtain⟨v0,v1,v2,v3,v4,v5,_,_,_,_,_,_,rfl,_⟩:=id hen8;obtain rfl:=Option.some.inj ((hat8 0 _ rfl).symm.trans y0);obtain rfl:=Option.some.inj ((hat8 1 _ rfl).symm.trans y1);obtain rfl:=Option.some.inj ((hat8 2 _ rfl).symm.trans y2);obtain rfl:=Option.some.inj ((hat8 3 _ rfl).symm.trans y3);obtain rfl:=Option.some.inj ((hat8 4 _ rfl).symm.trans y4);obtain rfl:=Option.some.inj ((hat8 5 _ rfl).symm.trans y5');have hZ:w.heap.size+1 ∉ Fk:=fun hm=>(SB.out _ hm).elim (fun h=>by have:=(HF.out _ h).1;omega) (fun h=>by omega)
     have OW:Own w0.heap.size wr Fk:=⟨(List.nodup_cons.1 hown8.1).2,fun k hk=>hown8.2 k (List.mem_cons_of_mem _ hk)⟩
     refine bodyPost_ret (v:=.agg #[.slice p0 x.Plan.Parts.length q0,.slice p1 x.Plan.Channels.length q1,.slice p2 x.Plan.Slots.length q2,.slice p3 x.Programs.length q3,.slice p4 x.Cores.length q4,.slice t5 m.Holds.length u5,.int .i64 x.Tick]) (by simp[results,Tryz.results8,go_sem,z0,z1,z2,z3,z4,z5,z6]) rfl ⟨_,rfl,by rw[hres.out,hx];exact⟨_,_,rfl,zBp (c:=w.heap.size+1) (o:=0) (ds:=[.slice p0 x.Plan.Parts.length q0,.slice p1 x.Plan.Channels.length q1,.slice p2 x.Plan.Slots.length q2,.slice p3 x.Programs.length q3,.slice p4 x.Cores.length q4,.slice t5 m.Holds.length u5,.int .i64 x.Tick]) hen8 hZ,((OW.mono (by omega)).put (b:=w.heap.size+1) (o:=0) (cs:=[.slice p0 x.Plan.Parts.length q0,.slice p1 x.Plan.Channels.length q1,.slice p2 x.Plan.Slots.length q2,.slice p3 x.Programs.length q3,.slice p4 x.Cores.length q4,.slice t5 m.Holds.length u5,.int .i64 x.Tick]))⟩,?_⟩
     exact(((((((EY.out).set (by simp) _).set (by simp) _).set (by simp) _).set (by simp) _).set (by simp) _).set (by simp) _).set (by simp) _
theorem Om.reput{α:Type}[GT α]{L:Nat}{u:World}{B:Nat}{cs:List Value}{F G:List Nat}{x y : α}(h:Om L u B 0 x F)(hen:GT.enc u cs y G)(how:Own L u G)(hB:B ∉ G):Om L (zAc u B 0 cs) B 0 y G:=by
 obtain⟨c0,e0,a0,ho⟩:=h;have hl:=GT.len hen;have hl0:=GT.len e0;have hat:At (zAc u B 0 cs) B 0 cs:=zEt (fun j hj=>⟨_,a0 j _ (List.getElem?_eq_getElem (by omega))⟩)
 have hfb:=ho.2 B (List.mem_cons_self ..);exact⟨cs,zBp hen hB,hat,List.nodup_cons.2 ⟨hB,how.1⟩,fun k hk2=>by
  rcases List.mem_cons.1 hk2 with rfl|hk2
  ·exact⟨hfb.1,zD1 hfb.2⟩
  ·exact⟨(how.2 k hk2).1,zD1 (how.2 k hk2).2⟩⟩
theorem Om.reput5{L:Nat}{u:World}{B:Nat}{F:List Nat}{x:Machine}(h:Om L u B 0 x F){u0 u1 u2 u3 u4 u5 u6:Value}:(zAc u B 0 [u0,u1,u2,u3,u4,u5,u6]).cell? ⟨B,5,none⟩=some u5:=by
 obtain⟨c0,e0,a0,ho⟩:=h;have hl0:c0.length=7:=GT.len e0;have hat:At (zAc u B 0 [u0,u1,u2,u3,u4,u5,u6]) B 0 [u0,u1,u2,u3,u4,u5,u6]:=zEt (fun j hj=>⟨_,a0 j _ (List.getElem?_eq_getElem (by simp at hj;omega))⟩)
 simpa using hat 5 _ rfl
theorem Sp.puts{e:TypeId}{z L b:Nat}{v:Value}(cs:List Value):∀ {w:World} {o:Nat},Sp e z L w v->Sp e z L (zAc w b o cs) v:=by
 induction cs with
 | nil=>intro w o h;exact h
 | cons c cs ih=>intro w o h;rw[zAc];exact ih (h.set ⟨b,o,none⟩ c)
theorem zMv{x:Machine}(h:zBl x)(ht:x.Tick=0){k:Nat}(hk:k < 40):zNm x k=zC1 x k/\zBl (zC1 x k)/\(zC1 x k).Plan=x.Plan :=
 ⟨zNn (zEc.2 ⟨h,⟨by omega,by omega⟩,by omega⟩),(zEo h k (by omega)).1,(zEo h k (by omega)).2.2.1⟩
theorem Om.mw{α:Type}[GT α]{L:Nat}{w w':World}{b o:Nat}{x : α}{F G:List Nat}(h:Om L w b o x F)(k:Mw G w w')(hG:∀ y∈G,y < L):Om L w' b o x F:=by
 obtain⟨cs,h1,h2,h3⟩:=h;have hd:∀ y,y∈b::F->y ∉ G:=fun y hy hm=>by have:=(h3.2 y hy).1;have:=hG y hm;omega
 exact⟨cs,k.enc h1 (fun y hy hm=>hd y (List.mem_cons_of_mem _ hy) hm),h2.keep (k.2.2 b (h3.lt (List.mem_cons_self ..)) (hd b (List.mem_cons_self ..))),k.own h3 hd⟩
theorem Sp.mw{e:TypeId}{z L:Nat}{w w':World}{v:Value}{G:List Nat}(h:Sp e z L w v)(k:Mw G w w')(hG:∀ y∈G,y < L):Sp e z L w' v:=by
 rcases h with h | ⟨g,n,cap,cs,h1,h2,h3,h4,h5,h6⟩
 ·exact .inl h
 ·exact .inr ⟨g,n,cap,cs,h1,h2,h3,h4,k.bk h5 (fun hm=>by have:=hG g hm;omega),h6⟩
theorem SpH.mono{e:TypeId}{L L':Nat}{w:World}{v:Value}(h:SpH e L w v)(k:L'<=L):SpH e L' w v:=by
 obtain⟨a,b,c,d,f,h',t,e1,s⟩:=h;exact⟨a,b,c,d,f,h',t,e1,s.mono k⟩
theorem SpH.mw{e:TypeId}{L:Nat}{w w':World}{v:Value}{G:List Nat}(h:SpH e L w v)(k:Mw G w w')(hG:∀ y∈G,y < L):SpH e L w' v:=by
 obtain⟨a,b,c,d,f,h',t,e1,s⟩:=h;exact⟨a,b,c,d,f,h',t,e1,s.mw k hG⟩
theorem Mw.puts{F:List Nat}{a:World}{b:Nat}(hb:b∈F\/a.heap.size<=b)(cs:List Value):∀ {w:World} {o:Nat},Mw F a w->Mw F a (zAc w b o cs):=by
 induction cs with
 | nil=>intro w o h;exact h
 | cons c cs ih=>intro w o h;rw[zAc];exact ih (h.set (p:=⟨b,o,none⟩) hb c)
theorem Rd.puts{W:World}{b c m:Nat}(h1:b≠c)(h2:W.heap.size<=c)(cs:List Value):∀ {w:World} {o:Nat},Rd W w b m->Rd W (zAc w c o cs) b m:=by
 induction cs with
 | nil=>intro w o h;exact h
 | cons x cs ih=>intro w o h;rw[zAc];exact ih (h.set (p:=⟨c,o,none⟩) h1 h2 x)
theorem Rvb.puts{α:Type}[GT α]{L A:Nat}{v:Value}{x : α}(hA:A < L)(cs:List Value):∀ {w:World} {o:Nat},Rvb L w v x->Rvb L (zAc w A o cs) v x:=by
 induction cs with
 | nil=>intro w o h;exact h
 | cons c cs ih=>intro w o h;rw[zAc];exact ih (h.set (p:=⟨A,o,none⟩) hA c)
theorem zPx(W w:World)(b m:Nat)(n:Int)(h:Rd W w b (m+1))(hn:rng n) :
  Calls Tryz.prog 95 #[.pointer (some ⟨b,0,none⟩),.int .i64 n] w fun e w' => ∃ q:Bool,e = .returned (.bool q)/\(n=0->q=false)/\Mo [b] w w'/\Rd W w' b m:=by
 by_cases h0:n=0
 ·subst h0;exact(zDu W w b m (h.le (by omega))).mono fun e w' ⟨h1,h2,h3⟩=>⟨false,h1,fun _=>rfl,h2,h3⟩
 ·exact(zLy W w b m n h hn).mono fun e w' ⟨⟨q,h1⟩,h2,h3⟩=>⟨q,h1,fun e=>absurd e h0,h2,h3⟩
theorem Rsb.tail{α:Type}[GT α]{L:Nat}{w:World}{g s n c:Nat}{x : α}{xs:List α}(h:Rsb L w (.slice (some ⟨g,s,none⟩) n c) (x::xs)):Rsb L w (.slice (some ⟨g,s+GT.sz α,none⟩) (n - 1) (c - 1)) xs:=by
 obtain⟨F,⟨a',c',he,hl,hc,hr⟩,hL⟩:=h;have he':some ⟨g,s,none⟩=a'/\n=(x::xs).length/\c=c':=by simpa using he
 obtain⟨rfl,rfl,rfl⟩:=he';simp only[List.length_cons] at hl ⊢;rcases hr with ⟨h,_⟩ | ⟨_,b,o,F',e',rfl,hr⟩
 ·cases h
 ·have e8:g=b/\s=o:=by simpa using e'
  obtain⟨rfl,rfl⟩:=e8;obtain⟨cs,F1,F2,h1,h2,rfl,h3⟩:=hr;by_cases hx:xs = []
  ·subst hx;exact⟨[],⟨_,c - 1,rfl,by simp,by omega,.inl ⟨rfl,rfl⟩⟩,fun k hk=>by cases hk⟩
  ·exact⟨g::F2,⟨_,c - 1,by simp,by omega,by omega,.inr ⟨hx,g,s+GT.sz α,F2,rfl,rfl,h3⟩⟩,fun k hk=>hL k (by
    rcases List.mem_cons.1 hk with rfl|hk
    ·exact List.mem_cons_self ..
    ·exact List.mem_cons_of_mem _ (List.mem_append_right _ hk))⟩
theorem Rvb.mkM{L:Nat}{w:World}{v0 v1 v2 v3 v4 v5:Value}{m:Machine}(h0:Rsb L w v0 m.Plan.Parts)(h1:Rsb L w v1 m.Plan.Channels)(h2:Rsb L w v2 m.Plan.Slots)(h3:Rsb L w v3 m.Programs)(h4:Rsb L w v4 m.Cores)(h5:Rsb L w v5 m.Holds)(r:rng m.Tick):Rvb L w (.agg #[v0,v1,v2,v3,v4,v5,.int .i64 m.Tick]) m:=by
 obtain⟨F0,s0,b0⟩:=h0;obtain⟨F1,s1,b1⟩:=h1;obtain⟨F2,s2,b2⟩:=h2;obtain⟨F3,s3,b3⟩:=h3;obtain⟨F4,s4,b4⟩:=h4;obtain⟨F5,s5,b5⟩:=h5;exact⟨_,_,rfl,⟨_,_,_,_,_,_,_,_,_,_,_,_,rfl,s0,s1,s2,s3,s4,s5,r,rfl⟩,fun k hk=>by
  simp only[List.mem_append] at hk;rcases hk with hk|hk|hk|hk|hk|hk
  ·exact b0 k hk
  ·exact b1 k hk
  ·exact b2 k hk
  ·exact b3 k hk
  ·exact b4 k hk
  ·exact b5 k hk⟩
theorem Om.lists{L:Nat}{w:World}{b:Nat}{m:Machine}{F:List Nat}(h:Om L w b 0 m F):∃ a0 c0 a1 c1 a2 c2 a3 c3 a4 c4 a5 c5,
  w.cell? ⟨b,0,none⟩=some (.slice a0 m.Plan.Parts.length c0)/\w.cell? ⟨b,1,none⟩=some (.slice a1 m.Plan.Channels.length c1)/\w.cell? ⟨b,2,none⟩=some (.slice a2 m.Plan.Slots.length c2)/\w.cell? ⟨b,3,none⟩=some (.slice a3 m.Programs.length c3)/\w.cell? ⟨b,4,none⟩=some (.slice a4 m.Cores.length c4)/\w.cell? ⟨b,5,none⟩=some (.slice a5 m.Holds.length c5)/\w.cell? ⟨b,6,none⟩=some (.int .i64 m.Tick)/\rng m.Tick /\
  Hid (GT.enc w [.slice a0 m.Plan.Parts.length c0,.slice a1 m.Plan.Channels.length c1,.slice a2 m.Plan.Slots.length c2,.slice a3 m.Programs.length c3,.slice a4 m.Cores.length c4,.slice a5 m.Holds.length c5,.int .i64 m.Tick] m F)/\Hid (Own L w F)/\Hid (Os L w (.slice a0 m.Plan.Parts.length c0) m.Plan.Parts/\Os L w (.slice a1 m.Plan.Channels.length c1) m.Plan.Channels/\Os L w (.slice a2 m.Plan.Slots.length c2) m.Plan.Slots/\Os L w (.slice a3 m.Programs.length c3) m.Programs/\Os L w (.slice a4 m.Cores.length c4) m.Cores/\Os L w (.slice a5 m.Holds.length c5) m.Holds):=by
 obtain⟨cs,hen,hat,ho⟩:=h;obtain⟨v0,v1,v2,v3,v4,v5,G0,G1,G2,G3,G4,G5,rfl,s0,s1,s2,s3,s4,s5,r,rfl⟩:=id hen;obtain⟨t0,u0,rfl,-⟩:=id s0;obtain⟨t1,u1,rfl,-⟩:=id s1;obtain⟨t2,u2,rfl,-⟩:=id s2;obtain⟨t3,u3,rfl,-⟩:=id s3;obtain⟨t4,u4,rfl,-⟩:=id s4;obtain⟨t5,u5,rfl,-⟩:=id s5;have hnd:=(List.nodup_cons.1 ho.1).2;have hO:∀ G,G.Sublist (G0++(G1++(G2++(G3++(G4++G5)))))->Own L w G:=fun G hs=>⟨hs.nodup hnd,fun k hk=>ho.2 k (List.mem_cons_of_mem _ (hs.subset hk))⟩
 refine⟨_,_,_,_,_,_,_,_,_,_,_,_,by simpa using hat 0 _ rfl,by simpa using hat 1 _ rfl,by simpa using hat 2 _ rfl,by simpa using hat 3 _ rfl,by simpa using hat 4 _ rfl,by simpa using hat 5 _ rfl,by simpa using hat 6 _ rfl,r,zh hen,zh ⟨hnd,fun k hk=>ho.2 k (List.mem_cons_of_mem _ hk)⟩,zh ⟨⟨_,s0,hO _ ?_⟩,⟨_,s1,hO _ ?_⟩,⟨_,s2,hO _ ?_⟩,⟨_,s3,hO _ ?_⟩,⟨_,s4,hO _ ?_⟩,⟨_,s5,hO _ ?_⟩⟩⟩
 ·exact(List.sublist_append_left _ _)
 ·exact((List.sublist_append_left _ _).trans (List.sublist_append_right _ _))
 ·exact(((List.sublist_append_left _ _).trans (List.sublist_append_right _ _)).trans (List.sublist_append_right _ _))
 ·exact((((List.sublist_append_left _ _).trans (List.sublist_append_right _ _)).trans (List.sublist_append_right _ _)).trans (List.sublist_append_right _ _))
 ·exact(((((List.sublist_append_left _ _).trans (List.sublist_append_right _ _)).trans (List.sublist_append_right _ _)).trans (List.sublist_append_right _ _)).trans (List.sublist_append_right _ _))
 ·exact(((((List.sublist_append_right _ _).trans (List.sublist_append_right _ _)).trans (List.sublist_append_right _ _)).trans (List.sublist_append_right _ _)).trans (List.sublist_append_right _ _))
theorem tot_set{α:Type}[GT α](xs:List α)(y : α):∀ i:Nat,GT.tot (xs.set i y)<=GT.tot xs+GT.tot y:=by
 intro i
 show(xs.set i y).length+((xs.set i y).map GT.tot).sum<=xs.length+(xs.map GT.tot).sum+GT.tot y
 have h:((xs.set i y).map GT.tot).sum<=(xs.map GT.tot).sum+GT.tot y:=by
  induction xs generalizing i with
  | nil=>simp
  | cons x xs ih =>
   cases i with
   | zero=>simp only[List.set_cons_zero,List.map_cons,List.sum_cons];omega
   | succ i=>have:=ih i;simp only[List.set_cons_succ,List.map_cons,List.sum_cons];omega
 simp only[List.length_set];omega
theorem tot_tail{α:Type}[GT α](x : α)(xs:List α):GT.tot xs<=GT.tot (x::xs):=by
 show xs.length+(xs.map GT.tot).sum<=(x::xs).length+((x::xs).map GT.tot).sum
 simp only[List.length_cons,List.map_cons,List.sum_cons];omega
theorem tot_snoc{α:Type}[GT α](x : α)(xs:List α):GT.tot (xs ++ [x])=GT.tot xs+1+GT.tot x:=by
 show(xs ++ [x]).length+((xs ++ [x]).map GT.tot).sum=xs.length+(xs.map GT.tot).sum+1+GT.tot x
 simp;omega
theorem zBl.tick100{m:Machine}(h:zBl m):zBl { m with Tick:=100000 }:=⟨h.pg,h.nc,h.nh,h.fits,h.hv,⟨by show(0:Int)<=100000;decide,by show(100000:Int)<=100000;decide⟩⟩
structure zNd (T:TypeId) (W w:World) (b m A B:Nat) (x:Machine) (u:World):Prop where
 mw:Mw [b] w u
 rd:Rd W u b m
 ka:Bk u A [.slice none 0 0,.slice none 0 0,.slice none 0 0,.slice none 0 0,.slice none 0 0,.slice none 0 0,.int .i64 0] T
 lt:B < u.heap.size
 cl:∃ p0 q0 p1 q1 p2 q2 p3 q3 p4 q4 p5 q5 n4 n5,u.cell? ⟨B,0,none⟩=some (.slice p0 x.Plan.Parts.length q0)/\u.cell? ⟨B,1,none⟩=some (.slice p1 x.Plan.Channels.length q1)/\u.cell? ⟨B,2,none⟩=some (.slice p2 x.Plan.Slots.length q2)/\u.cell? ⟨B,3,none⟩=some (.slice p3 x.Programs.length q3)/\u.cell? ⟨B,4,none⟩=some (.slice p4 n4 q4)/\u.cell? ⟨B,5,none⟩=some (.slice p5 n5 q5)/\u.cell? ⟨B,6,none⟩=some (.int .i64 x.Tick) /\
  Rvb (A+1) u (.agg #[.slice p0 x.Plan.Parts.length q0,.slice p1 x.Plan.Channels.length q1,.slice p2 x.Plan.Slots.length q2,.slice p3 x.Programs.length q3,.slice p4 n4 q4,.slice p5 n5 q5,.int .i64 x.Tick]) x
theorem zNd.om{T:TypeId}{W w:World}{b m A B:Nat}{x:Machine}{u:World}{F:List Nat}(h1:Mw [b] w u)(h2:Rd W u b m)(h3:Bk u A [.slice none 0 0,.slice none 0 0,.slice none 0 0,.slice none 0 0,.slice none 0 0,.slice none 0 0,.int .i64 0] T)(h:Om (A+1) u B 0 x F):zNd T W w b m A B x u:=by
 obtain⟨p0,q0,p1,q1,p2,q2,p3,q3,p4,q4,p5,q5,y0,y1,y2,y3,y4,y5,y6,-,en,ow,-⟩:=h.lists;exact⟨h1,h2,h3,h.bk.1,p0,q0,p1,q1,p2,q2,p3,q3,p4,q4,p5,q5,_,_,y0,y1,y2,y3,y4,y5,y6,_,_,rfl,en.out,fun k hk=>(ow.out.2 k hk).1⟩
theorem zM8{L B:Nat}{w:World}{m:Machine}{F:List Nat}{e:TypeId}{v0 v1 v2 v3 v4 v5 t:Value}(hen:GT.enc w [v0,v1,v2,v3,v4,v5,t] m F)(ho:Own L w F)(hB:B ∉ F)(hsp:Sp e 1 L w v5) :
  ∀ w',Mw (B::v5.ownBlock.toList) w w'->Rsb L w' v0 m.Plan.Parts/\Rsb L w' v1 m.Plan.Channels/\Rsb L w' v2 m.Plan.Slots/\Rsb L w' v3 m.Programs/\Rsb L w' v4 m.Cores:=by
 obtain⟨_,_,_,_,_,_,G0,G1,G2,G3,G4,G5,e9,s0,s1,s2,s3,s4,s5,r,rfl⟩:=hen;simp only[List.cons.injEq] at e9;obtain⟨rfl,rfl,rfl,rfl,rfl,rfl,_⟩:=e9;have hg:∀ k,v5.ownBlock=some k->k∈G5:=fun k hk=>by
  rcases hsp with h | ⟨g,n,cap,cs,h1,h2,h3,h4,h5,h6⟩
  ·rw[h] at hk;cases hk
  ·subst h1;have hl:n=m.Holds.length:=by
    obtain⟨a,c,e8,_⟩:=id s5;have h':(some ⟨g,0,none⟩:Option Addr)=a/\n=m.Holds.length/\cap=c:=by simpa using e8
    exact h'.2.1
   have:=Sl.hd s5 (by omega)
   simp[Value.ownBlock] at hk
   rwa [<- hk]
 have hn:=ho.1;simp only[List.nodup_append,List.mem_append] at hn;have hx:∀ k,k∈G0\/k∈G1\/k∈G2\/k∈G3\/k∈G4->k∈G5->False:=fun k h1 h2=>by
  obtain⟨_,⟨_,⟨_,⟨_,⟨_,_,a4⟩,a3⟩,a2⟩,a1⟩,a0⟩:=hn;rcases h1 with h|h|h|h|h
  ·exact a0 k h k (.inr (.inr (.inr (.inr h2)))) rfl
  ·exact a1 k h k (.inr (.inr (.inr h2))) rfl
  ·exact a2 k h k (.inr (.inr h2)) rfl
  ·exact a3 k h k (.inr h2) rfl
  ·exact a4 k h k h2 rfl
 intro w' hm;have hk:∀ k,k∈G0\/k∈G1\/k∈G2\/k∈G3\/k∈G4->k∈B::v5.ownBlock.toList->False:=fun k h1 h2=>by
  rcases List.mem_cons.1 h2 with rfl|h2
  ·exact hB (by simp only[List.mem_append];rcases h1 with h|h|h|h|h<;>simp[h])
  ·exact hx k h1 (hg k (by simpa using h2))
 refine⟨⟨G0,hm.sl s0 fun y a=>hk y (.inl a),fun k a=>(ho.2 k ?_).1⟩,⟨G1,hm.sl s1 fun y a=>hk y (.inr (.inl a)),fun k a=>(ho.2 k ?_).1⟩,⟨G2,hm.sl s2 fun y a=>hk y (.inr (.inr (.inl a))),fun k a=>(ho.2 k ?_).1⟩,⟨G3,hm.sl s3 fun y a=>hk y (.inr (.inr (.inr (.inl a)))),fun k a=>(ho.2 k ?_).1⟩,⟨G4,hm.sl s4 fun y a=>hk y (.inr (.inr (.inr (.inr a)))),fun k a=>(ho.2 k ?_).1⟩⟩<;>simp[a]
theorem zJ3{L b:Nat}{w:World}{m:Machine}{F:List Nat}{v0 v1 v2 v3 v4 v5 t:Value}(hen:GT.enc w [v0,v1,v2,v3,v4,v5,t] m F)(how:Own L w F)(hb:b ∉ F)(j:Nat)(u:Value) :
  Rsb L (w.setCell ⟨b,j,none⟩ u) v0 m.Plan.Parts/\Rsb L (w.setCell ⟨b,j,none⟩ u) v1 m.Plan.Channels/\Rsb L (w.setCell ⟨b,j,none⟩ u) v2 m.Plan.Slots/\Rsb L (w.setCell ⟨b,j,none⟩ u) v3 m.Programs/\Rsb L (w.setCell ⟨b,j,none⟩ u) v4 m.Cores/\Rsb L (w.setCell ⟨b,j,none⟩ u) v5 m.Holds:=by
 obtain⟨_,_,_,_,_,_,G0,G1,G2,G3,G4,G5,e9,s0,s1,s2,s3,s4,s5,r,rfl⟩:=hen;simp only[List.cons.injEq] at e9;obtain⟨rfl,rfl,rfl,rfl,rfl,rfl,_⟩:=e9;exact⟨⟨G0,s0.set (p:=⟨b,j,none⟩) (fun hm=>hb (by have hm:b∈G0:=hm;simp[hm])) u,fun k hk=>(how.2 k (by simp[hk])).1⟩,⟨G1,s1.set (p:=⟨b,j,none⟩) (fun hm=>hb (by have hm:b∈G1:=hm;simp[hm])) u,fun k hk=>(how.2 k (by simp[hk])).1⟩,⟨G2,s2.set (p:=⟨b,j,none⟩) (fun hm=>hb (by have hm:b∈G2:=hm;simp[hm])) u,fun k hk=>(how.2 k (by simp[hk])).1⟩,⟨G3,s3.set (p:=⟨b,j,none⟩) (fun hm=>hb (by have hm:b∈G3:=hm;simp[hm])) u,fun k hk=>(how.2 k (by simp[hk])).1⟩,⟨G4,s4.set (p:=⟨b,j,none⟩) (fun hm=>hb (by have hm:b∈G4:=hm;simp[hm])) u,fun k hk=>(how.2 k (by simp[hk])).1⟩,⟨G5,s5.set (p:=⟨b,j,none⟩) (fun hm=>hb (by have hm:b∈G5:=hm;simp[hm])) u,fun k hk=>(how.2 k (by simp[hk])).1⟩⟩
theorem zO4{L:Nat}{w:World}{m:Machine}{F:List Nat}{v0 v1 v2 v3 v4 v5 t:Value}(hen:GT.enc w [v0,v1,v2,v3,v4,v5,t] m F)(how:Own L w F):Os L w v5 m.Holds:=by
 obtain⟨_,_,_,_,_,_,G0,G1,G2,G3,G4,G5,e9,s0,s1,s2,s3,s4,s5,r,rfl⟩:=hen;simp only[List.cons.injEq] at e9;obtain⟨rfl,rfl,rfl,rfl,rfl,rfl,_⟩:=e9;have hn:=how.1;simp only[List.nodup_append] at hn;exact⟨G5,s5,hn.2.1.2.1.2.1.2.1.2.1,fun k hk=>how.2 k (by simp[hk])⟩
theorem Rsb.set9{α:Type}[GT α]{L:Nat}{w:World}{v:Value}{xs:List α}(h:Rsb L w v xs){p:Addr}(hp:p.block < L)(u:Value):Rsb L (w.setCell p u) v xs:=by
 obtain⟨F,s,b⟩:=h;exact⟨F,s.set (fun hm=>by have:=b _ hm;omega) u,b⟩
theorem zD4(m:Machine):GT.tot m=GT.tot m.Plan+GT.tot m.Programs+GT.tot m.Cores+GT.tot m.Holds+GT.tot m.Tick:=rfl
end Sk
