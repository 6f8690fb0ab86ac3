/- Contracts of functions of the given program. -/
import Derived.Test.YtbekofpkcahbkaaGreatWTick
namespace Sk
open Go Go.Proofs Go.RowKit
set_option maxHeartbeats 4000000
set_option maxRecDepth 100000
set_option linter.unusedVariables false
set_option linter.unusedSimpArgs false
theorem FzK.puts{b:Nat}(cs:List Value):∀ {a w:World} {o:Nat},FzK a w->FzK a (zAa w b o cs):=by
 induction cs with
 | nil=>intro a w o h;exact h
 | cons c cs ih=>intro a w o h;rw[zAa];exact ih (h.set ⟨b,o,none⟩ c)
theorem zEe(v:Value)(m:Machine)(t:Int)(w:World)(h:Rv w v m)(hrt:rng t) :
  Calls Tryz.prog 42 #[v,.int .i64 t] w fun e w' => ∃ v',e = .returned v'/\Ov w.heap.size w' v' (zI9 m t)/\Ext w w'/\SpH 80 w.heap.size w' v':=by
 have H:=zh h;obtain⟨a0,c0,a1,c1,a2,c2,a3,c3,a4,c4,a5,c5,rfl,rt,h0,l0,h1,l1,h2,l2,h3,l3,h4,l4,h5,l5⟩:=h.openMachine;clear h h0 h1 h2 h3 h4 h5;go_enter Tryz.func42,Tryz.ntmps42;go_upto_region 1 with (fail)
 refine zA1 (fun W=>Ext w W/\Bk W w.heap.size [.slice a0 m.Plan.Parts.length c0,.slice a1 m.Plan.Channels.length c1,.slice a2 m.Plan.Slots.length c2,.slice a3 m.Programs.length c3,.slice a4 m.Cores.length c4,.slice a5 m.Holds.length c5,.int .i64 m.Tick] 46/\Bk W (w.heap.size+1) [.slice none 0 0,.slice none 0 0,.slice none 0 0,.slice none 0 0,.slice none 0 0,.slice none 0 0,.int .i64 0] 46) ⟨((zr _).alloc _).alloc _,(Bk.new _ _ _).ext ((zr _).alloc _),Bk.new1 _ _ _ _⟩ ?_
 rintro W ⟨e1,kA,kB⟩;have HE0:=zh e1;obtain⟨d0,d1,d2,d3,d4,d5,d6⟩:=Bk.k7 kA;have KA:=zh kA;have KB:=zh kB;clear e1 kA kB;cases g:zF5 m
 ·have g0:zC9 m t 400=false:=by unfold zC9;rw[g];rfl
  go_wp2_with (go_at_call 26;refine(zAh _ m _ (H.out.ext HE0.out)).mono ?_;rintro e w0 ⟨rfl,he⟩;rw[g];have E:=zh (HE0.out.tr he);have KAx:=KA.out.ext he;have ltA:=KAx.lt;obtain⟨x0,x1,x2,x3,x4,x5,x6⟩:=Bk.k7 KAx;have KBx:=KB.out.ext he;obtain⟨z0,z1,z2,z3,z4,z5,z6⟩:=Bk.k7 KBx;have zf:=KBx.fz;have ltZ:=KBx.lt;clear KBx;clear he KAx)
  refine bodyPost_ret (v:=.agg #[.slice none 0 0,.slice none 0 0,.slice none 0 0,.slice none 0 0,.slice none 0 0,.slice none 0 0,.int .i64 0]) (by simp[results,Tryz.results42,go_sem,z0,z1,z2,z3,z4,z5,z6]) rfl ⟨_,rfl,by rw[zHz g0];exact Ov.mz _ _,(((((((E.out).set (by simp) _).set (by simp) _).set (by simp) _).set (by simp) _).set (by simp) _).set (by simp) _).set (by simp) _,SpH.mk (Sp.nil _ _ _ _)⟩
 have hmv:=zCz.1 g;have htk:=hmv.tick;cases g1:zA8 t 0 400
 ·have g0:zC9 m t 400=false:=by unfold zC9;rw[g,g1];rfl
  go_wp2_with (first
   | (go_at_call 26;refine(zAh _ m _ (H.out.ext HE0.out)).mono ?_;rintro e w0 ⟨rfl,he⟩;rw[g];have E:=zh (HE0.out.tr he);have KAx:=KA.out.ext he;have ltA:=KAx.lt;obtain⟨x0,x1,x2,x3,x4,x5,x6⟩:=Bk.k7 KAx;have KBx:=KB.out.ext he;obtain⟨z0,z1,z2,z3,z4,z5,z6⟩:=Bk.k7 KBx;have zf:=KBx.fz;have ltZ:=KBx.lt;clear KBx;clear he KAx)
   | (go_at_call 39;refine(zAb _ _ _ _).mono ?_;rintro e w9 ⟨rfl,rfl⟩;rw[g1]))
  refine bodyPost_ret (v:=.agg #[.slice none 0 0,.slice none 0 0,.slice none 0 0,.slice none 0 0,.slice none 0 0,.slice none 0 0,.int .i64 0]) (by simp[results,Tryz.results42,go_sem,z0,z1,z2,z3,z4,z5,z6]) rfl ⟨_,rfl,by rw[zHz g0];exact Ov.mz _ _,(((((((E.out).set (by simp) _).set (by simp) _).set (by simp) _).set (by simp) _).set (by simp) _).set (by simp) _).set (by simp) _,SpH.mk (Sp.nil _ _ _ _)⟩
 obtain⟨ht0,ht4⟩:=zA5.1 g1;obtain⟨T,rfl⟩:∃ T:Nat,t=T:=⟨t.toNat,by omega⟩
 by_cases hT:m.Tick+T<=100000
 case neg =>
  have g0:zC9 m T 400=false:=by unfold zC9;rw[g,g1,show decide (m.Tick+(T:Int)<=100000)=false from decide_eq_false hT];rfl
  have hgt:decide (m.Tick+(T:Int) > 100000)=true:=decide_eq_true (by omega)
  have hgt2:decide ((100000:Int) < m.Tick+(T:Int))=true:=decide_eq_true (by omega)
  go_wp2_with (first
   | (go_at_call 26;refine(zAh _ m _ (H.out.ext HE0.out)).mono ?_;rintro e w0 ⟨rfl,he⟩;rw[g];have E:=zh (HE0.out.tr he);have KAx:=KA.out.ext he;have ltA:=KAx.lt;obtain⟨x0,x1,x2,x3,x4,x5,x6⟩:=Bk.k7 KAx;have KBx:=KB.out.ext he;obtain⟨z0,z1,z2,z3,z4,z5,z6⟩:=Bk.k7 KBx;have zf:=KBx.fz;have ltZ:=KBx.lt;clear KBx;clear he KAx)
   | (go_at_call 39;refine(zAb _ _ _ _).mono ?_;rintro e w9 ⟨rfl,rfl⟩;rw[g1]))
  refine bodyPost_ret (v:=.agg #[.slice none 0 0,.slice none 0 0,.slice none 0 0,.slice none 0 0,.slice none 0 0,.slice none 0 0,.int .i64 0]) (by simp[results,Tryz.results42,go_sem,z0,z1,z2,z3,z4,z5,z6]) rfl ⟨_,rfl,by rw[zHz g0];exact Ov.mz _ _,(((((((E.out).set (by simp) _).set (by simp) _).set (by simp) _).set (by simp) _).set (by simp) _).set (by simp) _).set (by simp) _,SpH.mk (Sp.nil _ _ _ _)⟩
 have g0:zC9 m T 400=true:=zDx.2 ⟨hmv,⟨ht0,ht4⟩,hT⟩;have htot:GT.tot m<=1048576:=Nat.le_trans (zC0 hmv) (by omega)
 have HV:=zh hmv;have hres:=zh (zFx g0);have hgt:decide (m.Tick+(T:Int) > 100000)=false:=decide_eq_false (by omega)
 have hgt2:decide ((100000:Int) < m.Tick+(T:Int))=false:=decide_eq_false (by omega)
 go_upto_region 3 with (first
  | (go_at_call 26;refine(zAh _ m _ (H.out.ext HE0.out)).mono ?_;rintro e w0 ⟨rfl,he⟩;rw[g];have E:=zh (HE0.out.tr he);have KAx:=KA.out.ext he;have ltA:=KAx.lt;obtain⟨x0,x1,x2,x3,x4,x5,x6⟩:=Bk.k7 KAx;replace KB:=zh (KB.out.ext he);clear he KAx)
  | (go_at_call 39;refine(zAb _ _ _ _).mono ?_;rintro e w9 ⟨rfl,rfl⟩;rw[g1]))
 have ltB0:=KB.out.lt;go_upto_region 4 with (go_at_call 25;refine(zE9 _ m _ (H.out.ext E.out) htot).mono ?_;rintro e w5 ⟨v5,rfl,hov,ex,hsp⟩;obtain⟨cs5,F5,rfl,hen,how⟩:=hov;obtain⟨v0,v1,v2,v3,v4,v5,G0,G1,G2,G3,G4,G5,rfl,⟨t0,u0,rfl,_⟩,⟨t1,u1,rfl,_⟩,⟨t2,u2,rfl,_⟩,⟨t3,u3,rfl,_⟩,⟨t4,u4,rfl,_⟩,⟨t5,u5,rfl,_⟩,_,_⟩:=id hen;have SP5:=zh (hsp.get.mono E.out.sz);clear hsp;have HEN:=zh hen;have HOW:=zh how;have EX:=zh ex;replace KB:=zh (KB.out.ext ex);clear hen how ex)
 refine zA1 (fun W6=>Ext w5 W6/\Bk W6 w5.heap.size [.slice t0 m.Plan.Parts.length u0,.slice t1 m.Plan.Channels.length u1,.slice t2 m.Plan.Slots.length u2,.slice t3 m.Programs.length u3,.slice t4 m.Cores.length u4,.slice t5 m.Holds.length u5,.int .i64 m.Tick] 46) ⟨(zr _).alloc _,Bk.new _ _ _⟩ ?_
 rintro W6 ⟨E6,K6⟩;have hs05:=EX.out.sz;have hw0:=E.out.sz;have ltB5:=KB.out.lt;have om:Om w0.heap.size W6 w5.heap.size 0 m F5:=⟨_,GT.ext HEN.out E6,fun j u hj=>by rw[Nat.zero_add];exact K6.cell hj,List.nodup_cons.2 ⟨fun hm=>Nat.lt_irrefl _ (HOW.out.lt hm),HOW.out.1⟩,fun k hk=>by
  rcases List.mem_cons.1 hk with rfl|hk
  ·exact⟨hs05,⟨_,_,K6⟩⟩
  ·exact⟨(HOW.out.2 k hk).1,((HOW.out.2 k hk).2).ext E6⟩⟩
 have E7:=zh ((E.out.tr EX.out).tr E6);have KB6:=zh (KB.out.ext E6);have HF:Hid (∀ x∈F5,w0.heap.size<=x):=zh (fun x hx=>(HOW.out.2 x hx).1)
 have hs6:=E6.sz;have BX0:Bx w0.heap.size W6 w5.heap.size m 46:=⟨_,F5,K6,GT.ext HEN.out E6,HOW.out.ext E6⟩;have BXh:=zh BX0;have K5:=zh (K6.cell (j:=5) rfl);have SP6:=zh (SP5.out.ext E6);clear SP5;have hB0:w0.heap.size<=w5.heap.size:=hs05;have hRB:w.heap.size+1 < w5.heap.size:=by omega
 have hwB:w.heap.size<=w5.heap.size:=by omega
 generalize hB:w5.heap.size=B at *
 have hR0:w.heap.size+1 < w0.heap.size:=ltB0;clear om K6 E6 hmv hgt hgt2 KB KA d0 d1 d2 d3 d4 d5 d6 x0 x1 x2 x3 x4 x5 x6 HEN HOW EX E HE0 hB BX0 HF;go_wp2;go_loopw [6] (fun i wr => ∃ (k:Nat),k<=T/\i = .int .i64 k/\Ext w wr/\Bx w0.heap.size wr B (zBd m k) 46/\Bk wr (w.heap.size+1) [.slice none 0 0,.slice none 0 0,.slice none 0 0,.slice none 0 0,.slice none 0 0,.slice none 0 0,.int .i64 0] 46/\∃ hv,wr.cell? ⟨B,5,none⟩=some hv/\Sp 80 1 w.heap.size wr hv) (fun i _=>T - (intOf i).toNat)
 case atStart=>exact⟨0,Nat.zero_le _,rfl,E7.out,BXh.out,KB6.out,_,K5.out,SP6.out⟩
 case round =>
  obtain⟨k,hk,rfl,er,bx,kz,hv5,hc5,hsp⟩:=hrel;obtain⟨p0,q0,p1,q1,p2,q2,p3,q3,p4,q4,p5,q5,Fk,kb,hen,how⟩:=bx.openM;have ER:=zh er;have KR:=zh kz;have KBB:=zh kb;have HEN:=zh hen;have HOW:=zh how;obtain⟨y0,y1,y2,y3,y4,y5,y6⟩:=Bk.k7 kb;have bf:=kb.fz;rw[Option.some.inj (hc5.symm.trans y5)] at hsp;have SPR:=zh hsp;clear hsp hc5;have ltB:=kb.lt;clear er kz kb hen how bx;by_cases hkt:k < T
  ·obtain⟨hrv,hrt2,-⟩:=zDn HV.out k (by omega)
   have hne:¬ (zBd m k).Tick=100000:=by rw[hrt2];omega
   have HS:=zh (show zCw (zBd m k)=zBd m (k+1) from zKn (zCz.2 hrv) hne)
   obtain⟨mn,hmn⟩:∃ mn,zBd m (k+1)=mn:=⟨_,rfl⟩;have HC:=zH2 _ (zBd m k) wr ⟨_,Fk,rfl,HEN.out⟩;rw[HS.out,hmn] at HC;replace HC:=zh HC;have hszr:=ER.out.sz;have hRBn:w.heap.size+1≠B:=by omega
   have hR0w:w0.heap.size<=wr.heap.size:=by omega
   have HMN:=zh hmn;clear hrv hrt2 hne HS hmn
   generalize zBd m k=mk at *
   go_wp2_with (go_at_call 71;refine HC.out.mono ?_;rintro e w7 ⟨v7,rfl,hov,ex,hsp7⟩;obtain⟨r0,s0,r1,s1,r2,s2,r3,s3,r4,s4,r5,s5,F7,rfl,hen7,how7⟩:=hov.openE;have SP7:=zh (hsp7.get.mono hszr);clear hsp7;have EX7:=zh ex;have HEN7:=zh hen7;have HOW7:=zh how7;obtain⟨c70,c71,c72,c73,c74,c75,c76⟩:=Bk.k7 (KBB.out.ext ex);have bf7:=(KBB.out.ext ex).fz;have lt7:=(KBB.out.ext ex).lt;clear ex hen7 how7 hov)
   exact⟨⟨k+1,by omega,by go_num,Ext.puts (b:=B) (o:=0) hwB [.slice r0 mn.Plan.Parts.length s0,.slice r1 mn.Plan.Channels.length s1,.slice r2 mn.Plan.Slots.length s2,.slice r3 mn.Programs.length s3,.slice r4 mn.Cores.length s4,.slice r5 mn.Holds.length s5,.int .i64 mn.Tick] (ER.out.tr EX7.out),(by rw[HMN.out];exact Bx.put (cs:=[.slice r0 mn.Plan.Parts.length s0,.slice r1 mn.Plan.Channels.length s1,.slice r2 mn.Plan.Slots.length s2,.slice r3 mn.Programs.length s3,.slice r4 mn.Cores.length s4,.slice r5 mn.Holds.length s5,.int .i64 mn.Tick]) (KBB.out.ext EX7.out) rfl HEN7.out HOW7.out hR0w ltB),Bk.puts_ne (c:=B) (o:=0) (ds:=[.slice r0 mn.Plan.Parts.length s0,.slice r1 mn.Plan.Channels.length s1,.slice r2 mn.Plan.Slots.length s2,.slice r3 mn.Programs.length s3,.slice r4 mn.Cores.length s4,.slice r5 mn.Holds.length s5,.int .i64 mn.Tick]) (KR.out.ext EX7.out) hRBn,_,((KBB.out.ext EX7.out).puts [.slice r0 mn.Plan.Parts.length s0,.slice r1 mn.Plan.Channels.length s1,.slice r2 mn.Plan.Slots.length s2,.slice r3 mn.Programs.length s3,.slice r4 mn.Cores.length s4,.slice r5 mn.Holds.length s5,.int .i64 mn.Tick] rfl).cell (j:=5) rfl,SP7.out.fzk (FzK.puts (b:=B) (o:=0) [.slice r0 mn.Plan.Parts.length s0,.slice r1 mn.Plan.Channels.length s1,.slice r2 mn.Plan.Slots.length s2,.slice r3 mn.Programs.length s3,.slice r4 mn.Cores.length s4,.slice r5 mn.Holds.length s5,.int .i64 mn.Tick] (FzK.refl _))⟩,by simp[intOf];omega⟩
  ·obtain rfl:k=T:=by omega
   have hZ:w.heap.size+1 ∉ Fk:=fun hm=>by have:=(HOW.out.2 _ hm).1;omega
   obtain⟨z0,z1,z2,z3,z4,z5,z6⟩:=Bk.k7 KR.out;have zf:=KR.out.fz;have ltZ:=KR.out.lt
   generalize zBd m k=m2 at *
   go_wp2;refine bodyPost_ret (v:=.agg #[.slice p0 m2.Plan.Parts.length q0,.slice p1 m2.Plan.Channels.length q1,.slice p2 m2.Plan.Slots.length q2,.slice p3 m2.Programs.length q3,.slice p4 m2.Cores.length q4,.slice p5 m2.Holds.length q5,.int .i64 m2.Tick]) (by simp[results,Tryz.results42,go_sem,z0,z1,z2,z3,z4,z5,z6]) rfl ⟨_,rfl,by rw[hres.out];exact⟨_,_,rfl,zB3 (c:=w.heap.size+1) (o:=0) (ds:=[.slice p0 m2.Plan.Parts.length q0,.slice p1 m2.Plan.Channels.length q1,.slice p2 m2.Plan.Slots.length q2,.slice p3 m2.Programs.length q3,.slice p4 m2.Cores.length q4,.slice p5 m2.Holds.length q5,.int .i64 m2.Tick]) HEN.out hZ,((HOW.out.mono (by omega)).put (b:=w.heap.size+1) (o:=0) (cs:=[.slice p0 m2.Plan.Parts.length q0,.slice p1 m2.Plan.Channels.length q1,.slice p2 m2.Plan.Slots.length q2,.slice p3 m2.Programs.length q3,.slice p4 m2.Cores.length q4,.slice p5 m2.Holds.length q5,.int .i64 m2.Tick]))⟩,?_,?_⟩
   ·exact(((((((ER.out).set (by simp) _).set (by simp) _).set (by simp) _).set (by simp) _).set (by simp) _).set (by simp) _).set (by simp) _
   ·exact SpH.mk ((((((((SPR.out).set _ _).set _ _).set _ _).set _ _).set _ _).set _ _).set _ _)
theorem zIr(v:Value)(m:Machine)(t:Int)(w:World)(h:Rv w v m)(hrt:rng t) :
  Calls Tryz.prog 42 #[v,.int .i64 t] w fun e w' => ∃ v',e = .returned v'/\Ov w.heap.size w' v' (zI9 m t)/\Ext w w' :=
 (zEe v m t w h hrt).mono fun _ _ ⟨v',h1,h2,h3,_⟩=>⟨v',h1,h2,h3⟩
set_option maxHeartbeats 1600000
theorem zDj(W w:World)(b m:Nat)(h:Rd W w b m) :
  Calls Tryz.prog 53 #[.pointer (some ⟨b,0,none⟩),.int .i64 0] w fun e w'=>e = .returned (.bool false)/\Mo [b] w w'/\Rd W w' b m:=by
 have H:=zh h;clear h;go_enter Tryz.func53,Tryz.ntmps53;go_wp2;go_ret;exact⟨rfl,Mo.refl _ _,H.out⟩
def WBoxV(W w:World)(b B0 Q m:Nat)(u:World):Prop:=Mw [b] w u/\Rd W u b m/\Bk u B0 [.int .i64 0,.int .i64 0,.bool false] 63 /\
 ∃ (X Y:Int) (Z:Bool),Bk u Q [.int .i64 X,.int .i64 Y,.bool Z] 63/\(0<=X/\X<=4095/\1<=Y/\Y<=12/\X+Y<=4096)
theorem zIu(W w:World)(b m:Nat)(h:Rd W w b (m+8)) :
  Calls Tryz.prog 169 #[.pointer (some ⟨b,0,none⟩),.int .i64 0] w fun e w' => ∃ x:Window,e = .returned (.agg #[.int .i64 x.Base,.int .i64 x.Size,.bool x.Write])/\rng x.Base/\rng x.Size/\zIy x=true/\Mw [b] w w'/\Rd W w' b m:=by
 have H:=zh h;have hbl:=h.lt;have hbW:=h.1;have hWw:=h.2.1.sz;clear h;go_enter Tryz.func169,Tryz.ntmps169;go_upto_region 1 with (fail)
 refine zA1 (fun W0=>Ext w W0/\Bk W0 w.heap.size [.int .i64 0,.int .i64 0,.bool false] 63) ⟨(zr _).alloc _,Bk.new _ _ _⟩ ?_
 rintro W0 ⟨e0,KB⟩;have hlB:=KB.lt;have HRD:=zh (H.out.ext e0);have HMW:Hid (Mw [b] w W0):=zh (Mw.ofExt e0);replace KB:=zh KB;clear e0 H
 generalize hB0:w.heap.size=B0 at *
 replace hB0:=zh hB0;go_upto_region 2 with (go_at_call 35;refine(zA9 W _ b _ _ HRD.out (zAf (by omega) (by omega))).mono ?_;rintro e w1 ⟨k,rfl,hk,hm,hr⟩;have hkb:=hk.lt (by omega);have hsz:=Nat.le_of_eq hm.lt.symm;replace HMW:=zh (HMW.out.tr (Mw.ofMo hm));replace KB:=zh (hm.bk KB.out (by simp;omega));replace HRD:=zh hr;clear hk hm hr)
 obtain⟨Q,hQ⟩:∃ Q,Q=w1.heap.size:=⟨_,rfl⟩;have hBQ:B0 < Q:=by omega
 refine zA1 (WBoxV W w b B0 Q (m+5)) ⟨HMW.out.tr (Mw.ofExt ((zr _).alloc _)),HRD.out.ext ((zr _).alloc _),KB.out.ext ((zr _).alloc _),_,_,_,by rw[hQ];exact Bk.new _ _ _,by omega⟩ ?_
 rw[<- hQ];clear HMW HRD KB hQ hlB;have hbQ:b < Q:=by omega
 rintro W1 ⟨mw1,rd1,kb1,X,Y,Z,kq1,hxy⟩;have HMW:=zh mw1;have HRD:=zh rd1;have KB:=zh kb1;have KQ:=zh kq1;clear mw1 rd1 kb1 kq1;go_upto_if 16 with (go_at_call 53;refine(zI3 W _ b _ _ HRD.out (zAf (by omega) (by omega))).mono ?_;rintro e w2 ⟨⟨q,rfl⟩,hm,hr⟩;replace HMW:=zh (HMW.out.tr (Mw.ofMo hm));replace KB:=zh (hm.bk KB.out (by simp;omega));replace KQ:=zh (hm.bk KQ.out (by simp;omega));replace HRD:=zh hr;clear hm hr)
 go_cut [] from 6 (fun wc=>WBoxV W w b B0 Q (m+4) wc)
 case first =>
  obtain⟨q0,q1⟩:=Bk.k2 KQ.out;have qf:=KQ.out.fz;have ql:=KQ.out.lt;cases q
  ·go_wp2;go_meet
   exact⟨HMW.out,HRD.out,KB.out,X,Y,Z,KQ.out,by omega⟩
  ·go_wp2;go_meet
   exact⟨HMW.out.set (.inr (by show _<=Q;have:=hB0.out;omega)) _,HRD.out.set (by show b≠Q;omega) (by show _<=Q;have:=hB0.out;omega) _,KB.out.set_ne (by show B0≠Q;omega) _,4096 - Y,Y,Z,by have:=KQ.out.set 0 (.int .i64 (4096 - Y));simpa using this,by omega⟩
 case rest =>
  clear HMW HRD KB KQ hxy;obtain⟨mw1,rd1,kb1,X,Y,Z,kq1,hxy⟩:=hcut;have HMW:=zh mw1;have HRD:=zh rd1;have KB:=zh kb1;have KQ:=zh kq1;clear mw1 rd1 kb1 kq1;go_upto_if 23 with (go_at_call 53;refine(zDj W _ b _ HRD.out).mono ?_;rintro e w2 ⟨rfl,hm,hr⟩;replace HMW:=zh (HMW.out.tr (Mw.ofMo hm));replace KB:=zh (hm.bk KB.out (by simp;omega));replace KQ:=zh (hm.bk KQ.out (by simp;omega));replace HRD:=zh hr;clear hm hr)
  obtain⟨b0,b1,b2⟩:=Bk.k3 KB.out;have bf:=KB.out.fz;have bl:=KB.out.lt;obtain⟨q0,q1,q2⟩:=Bk.k3 KQ.out;have hwv:zIy ⟨X,Y,Z⟩=true:=by simp only[zIy,Bool.and_eq_true,zA5];omega
  clear KB KQ;go_wp2;refine bodyPost_ret (v:=.agg #[.int .i64 X,.int .i64 Y,.bool Z]) (by simp[results,Tryz.results169,go_sem,b0,b1,b2]) rfl ⟨⟨X,Y,Z⟩,rfl,zAf (by show _<=X;omega) (by show X<=_;omega),zAf (by show _<=Y;omega) (by show Y<=_;omega),hwv,?_,?_⟩
  ·exact((HMW.out.set (.inr (by show _<=B0;have:=hB0.out;omega)) _).set (.inr (by show _<=B0;have:=hB0.out;omega)) _).set (.inr (by show _<=B0;have:=hB0.out;omega)) _
  ·exact(((HRD.out.set (by show b≠B0;omega) (by show _<=B0;have:=hB0.out;omega) _).set (by show b≠B0;omega) (by show _<=B0;have:=hB0.out;omega) _).set (by show b≠B0;omega) (by show _<=B0;have:=hB0.out;omega) _).le (by omega)
theorem zHw(W w:World)(b m:Nat)(most:Int)(h:Rd W w b (m+60))(hm1:0<=most)(hm2:most<=4) :
  Calls Tryz.prog 161 #[.pointer (some ⟨b,0,none⟩),.int .i64 most,.int .i64 0] w fun e w' => ∃ v xs,e = .returned v/\Os (α:=Window) w.heap.size w' v xs/\(xs.length<=4/\∀ x∈xs,zIy x=true)/\Mw [b] w w'/\Rd W w' b m:=by
 have H:=zh h;have hbl:=h.lt;have hbW:=h.1;have hWw:=h.2.1.sz;clear h;go_enter Tryz.func161,Tryz.ntmps161;go_upto_region 2 with (fail)
 refine zA1 (fun W0=>Ext w W0/\Oo (α:=Window) 63 w.heap.size W0 (.slice (some ⟨w.heap.size,0,none⟩) 0 0) []) ⟨(zr _).alloc _,Oo.lit0 _ _⟩ ?_
 rintro W0 ⟨e0,ho0⟩;have HRD:=zh (H.out.ext e0);have HMW:Hid (Mw [b] w W0):=zh (Mw.ofExt e0);have HO:=zh ho0;clear e0 H ho0;go_upto_block 0 with (go_at_call 35;refine(zA9 W _ b _ _ HRD.out (zAf (by omega) (by omega))).mono ?_;rintro e w1 ⟨k,rfl,hk,hm,hr⟩;have hkb:=hk.lt (by omega);replace HMW:=zh (HMW.out.tr (Mw.ofMo hm));replace HO:=zh (HO.out.mo hm (by simp;omega));replace HRD:=zh hr;clear hk hm hr)
 obtain⟨hk1,hk2⟩:=hkb;obtain⟨K,rfl⟩:∃ K:Nat,k=K:=⟨k.toNat,by omega⟩
 have hK:K<=4:=by omega
 go_cut [7] from 9 (fun v7 wc => ∃ (ao:Option Addr) (no co:Nat) (xs:List Window),v7 = .slice ao no co/\Oo 63 w.heap.size wc (.slice ao no co) xs/\xs.length<=4/\(∀ x∈xs,zIy x=true)/\Mw [b] w wc/\Rd W wc b (m+20))
 case first =>
  go_wp2_with fail
  go_loopw [7,8] (fun v7 i wr => ∃ (j:Nat) (ao:Option Addr) (no co:Nat) (xs:List Window),j<=K/\i = .int .i64 (K - j:Int)/\v7 = .slice ao no co/\Oo 63 w.heap.size wr (.slice ao no co) xs/\xs.length=j/\(∀ x∈xs,zIy x=true)/\Mw [b] w wr/\Rd W wr b (m+59 - 8*j)) (fun _ i _=>(intOf i).toNat)
  case atStart=>exact⟨0,_,_,_,[],Nat.zero_le _,by simp,rfl,HO.out,rfl,(fun x hx=>by cases hx),HMW.out,HRD.out⟩
  case round =>
   obtain⟨j,ao,no,co,xs,hj,rfl,rfl,hoo,hxl,hxv,hmw,hrd⟩:=hrel;have HXV:=zh hxv;clear hxv;have HMW2:=zh hmw;have HO2:=zh hoo;have HRD2:Hid (Rd W wr b ((m+51 - 8*j)+8)):=zh (hrd.le (by omega))
   clear hmw hoo hrd;by_cases hjt:j < K
   ·go_wp2_with (first
     | (go_at_call 169;refine(zIu W _ b _ HRD2.out).mono ?_;rintro e w2 ⟨x,rfl,rx,ry,hwv,hm,hr⟩;have HWV:=zh hwv;clear hwv;have HM2:=zh (HMW2.out.tr hm);have HO3:=zh (HO2.out.ob.of (w':=w2) (fun k h1 h2=>hm.2.2 k (by omega) (by simp;omega)));have hs2:=hm.size;have HR2:=zh hr;clear hm hr)
     | (at_builtin;refine zF4 (α:=Window) rfl _ _ 64 rfl 63 Tryz.underlying64 zI2 (v:=.slice ao no co) (ys:=[x]) rfl (HO3.out.of (fun k _ h=>((zr w2).alloc _).block k (by omega))) (by have:=HMW2.out.size;omega) (by simp;omega) rfl rfl (Row.lit1 (cs:=[_,_,_]) ⟨rfl,rx,ry,rfl⟩) (by simp) (Own.nil _ _) (by omega) ?_;intro v5 w5 hO5 hg5;have hrow5:=HO3.out.own;have HG5:=zh ((HM2.out.tr (Mw.ofExt ((zr _).alloc _))).trF hg5 (fun x hx => .inr (hrow5 x (Option.mem_toList.1 hx)).1));have HR5:=zh ((HR2.out.ext ((zr _).alloc _)).mw hg5 (fun hm=>by have:=hrow5 _ (Option.mem_toList.1 hm);omega) (fun x hx=>by have:=hrow5 x (Option.mem_toList.1 hx);omega));have HO5:=zh hO5;obtain⟨p5,k5,q5,rfl⟩:=hO5.sh;clear hO5 hg5))
    go_roundw
    case rel=>exact⟨j+1,_,_,_,_,by omega,congrArg _ (by omega),rfl,HO5.out,by simp[hxl],(fun y hy=>by rcases List.mem_append.1 hy with hy|hy;exact HXV.out y hy;rw[List.mem_singleton] at hy;subst hy;exact HWV.out),HG5.out,HR5.out.le (by omega)⟩
    case measure=>simp[intOf];omega
   ·obtain rfl:j=K:=by omega
    go_wp2;go_meet
    exact⟨_,_,_,_,rfl,HO2.out,by omega,HXV.out,HMW2.out,HRD2.out.le (by omega)⟩
 case rest =>
  clear HMW HO HRD;obtain⟨ao,no,co,xs,rfl,hoo,hxl,hxv,hmw,hrd⟩:=hcut;have HMW:=zh hmw;have HO:=zh hoo;have HRD:=zh hrd;have HXV:=zh hxv;have hsc:=hmw.size;clear hmw hoo hrd hxv;go_upto_if 25 with (go_at_call 53;refine(zDj W _ b _ HRD.out).mono ?_;rintro e w2 ⟨rfl,hm,hr⟩;replace HMW:=zh (HMW.out.tr (Mw.ofMo hm));replace HO:=zh (HO.out.mo hm (by simp;omega));replace HRD:=zh hr;clear hm hr)
  go_wp2;go_ret;exact⟨_,xs,rfl,HO.out.os,⟨hxl,HXV.out⟩,HMW.out,HRD.out.le (by omega)⟩
theorem M.pv1_of{ws:List Window}{c:Int}(h:ws.length<=4)(hv:∀ x∈ws,zIy x=true)(h1:1<=c)(h2:c<=8):zD8 ⟨ws,c⟩=true:=by
 simp only[zD8,zFm,Bool.and_eq_true,decide_eq_true_eq,List.all_eq_true,zA5];exact⟨⟨by omega,hv⟩,h1,h2⟩
theorem zJb(W w:World)(b m:Nat)(h:Rd W w b (m+400)) :
  Calls Tryz.prog 131 #[.pointer (some ⟨b,0,none⟩),.int .i64 0] w fun e w' => ∃ v xs,e = .returned v/\Rsb (α:=Part) w.heap.size w' v xs/\(1<=xs.length/\xs.length<=4/\∀ x∈xs,zD8 x=true)/\Mw [b] w w'/\Rd W w' b m:=by
 have H:=zh h;have hbl:=h.lt;have hbW:=h.1;have hWw:=h.2.1.sz;clear h;go_enter Tryz.func131,Tryz.ntmps131;go_upto_region 2 with (fail)
 refine zA1 (fun W0=>Ext w W0/\Oo (α:=Part) 93 w.heap.size W0 (.slice (some ⟨w.heap.size,0,none⟩) 0 0) []) ⟨(zr _).alloc _,Oo.lit0 _ _⟩ ?_
 rintro W0 ⟨e0,ho0⟩;have HRD:=zh (H.out.ext e0);have HMW:Hid (Mw [b] w W0):=zh (Mw.ofExt e0);have HO:=zh ho0;clear e0 H ho0;go_upto_block 0 with (go_at_call 35;refine(zA9 W _ b _ _ HRD.out (zAf (by omega) (by omega))).mono ?_;rintro e w1 ⟨k,rfl,hk,hm,hr⟩;have hkb:=hk.lt (by omega);replace HMW:=zh (HMW.out.tr (Mw.ofMo hm));replace HO:=zh (HO.out.mo hm (by simp;omega));replace HRD:=zh hr;clear hk hm hr)
 obtain⟨hk1,hk2⟩:=hkb;obtain⟨J,hJ⟩:∃ J:Nat,1+k=J:=⟨(1+k).toNat,by omega⟩
 rw[hJ];have hJ1:1<=J:=by omega
 have hJ4:J<=4:=by omega
 clear hk1 hk2 hJ;go_cut [5] from 7 (fun v5 wc => ∃ (ao:Option Addr) (no co:Nat) (xs:List Part),v5 = .slice ao no co/\Oo 93 w.heap.size wc (.slice ao no co) xs/\(1<=xs.length/\xs.length<=4/\∀ x∈xs,zD8 x=true)/\Mw [b] w wc/\Rd W wc b (m+100))
 case first =>
  go_wp2_with fail
  go_loopw [5,6] (fun v5 i wr => ∃ (j:Nat) (ao:Option Addr) (no co:Nat) (xs:List Part),j<=J/\i = .int .i64 (J - j:Int)/\v5 = .slice ao no co/\Oo 93 w.heap.size wr (.slice ao no co) xs/\xs.length=j/\(∀ x∈xs,zD8 x=true)/\Mw [b] w wr/\Rd W wr b (m+399 - 61*j)) (fun _ i _=>(intOf i).toNat)
  case atStart=>exact⟨0,_,_,_,[],Nat.zero_le _,by simp,rfl,HO.out,rfl,(fun x hx=>by cases hx),HMW.out,HRD.out⟩
  case round =>
   obtain⟨j,ao,no,co,xs,hj,rfl,rfl,hoo,hxl,hxw,hmw,hrd⟩:=hrel;have HMW2:=zh hmw;have HO2:=zh hoo;have HXL:=zh hxl;have HXW:=zh hxw;have hs1:=hmw.size;have hxl4:xs.length<=4:=by omega
   have HRD2:Hid (Rd W wr b ((m+339 - 61*j)+60)):=zh (hrd.le (by omega))
   clear hmw hoo hrd hxl hxw;by_cases hjt:j < J
   ·go_wp2_with (first
     | (go_at_call 161;refine(zHw W _ b _ _ HRD2.out (by omega) (by omega)).mono ?_;rintro e w2 ⟨v2,ws,rfl,hw,hwl,hm,hr⟩;have HWL:=zh hwl;clear hwl;obtain⟨pw,cw,rfl,hcw⟩:=hw.form;have HM2:=zh (HMW2.out.tr hm);have HO3:=zh (HO2.out.ob.of (w':=w2) (fun k h1 h2=>hm.2.2 k h2 (by simp;omega)));have hs2:=hm.size;have HR2:=zh hr;have HW2:=zh hw.osb;clear hm hr hw)
     | (go_at_call 35;refine(zA9 W _ b (m+338 - 61*j) _ (HR2.out.le (by omega)) (zAf (by omega) (by omega))).mono ?_;rintro e w3 ⟨k2,rfl,hk,hm,hr⟩;have hkb2:=hk.lt (by omega);have HM3:=zh (HM2.out.tr (Mw.ofMo hm));have HO4:=zh (HO3.out.of (w':=w3) (fun k h1 h2=>(Mw.ofMo hm).2.2 k (by omega) (by simp;omega)));have hs3:=(Mw.ofMo hm).size;have HR3:=zh hr;obtain⟨FW,hsw,how⟩:=(HW2.out.of (w':=w3) (fun k h1 h2=>(Mw.ofMo hm).2.2 k h2 (by simp;omega))).os;have HSW:=zh hsw;have HOW:=zh how;clear hk hm hr hsw how)
     | (at_builtin;refine zF4 (α:=Part) rfl _ _ 37 rfl 93 Tryz.underlying37 zMb (v:=.slice ao no co) (ys:=[⟨ws,1+k2⟩]) (Fy:=FW) rfl (HO4.out.of (fun k _ h=>((zr w3).alloc _).block k (by omega))) (by omega) (by simp;omega) rfl rfl (Row.lit1 (cs:=[_,_]) ⟨_,rfl,HSW.out,zAf (by show _<=1+k2;omega) (by show 1+k2<=_;omega)⟩) (by simp) (HOW.out.ext ((zr w3).alloc _)) (by omega) ?_;intro v5 w5 hO5 hg5;have hrow5:=HO4.out.own;have HG5:=zh ((HM3.out.tr (Mw.ofExt ((zr _).alloc _))).trF hg5 (fun x hx => .inr (hrow5 x (Option.mem_toList.1 hx)).1));have HR5:=zh ((HR3.out.ext ((zr _).alloc _)).mw hg5 (fun hm=>by have:=hrow5 _ (Option.mem_toList.1 hm);omega) (fun x hx=>by have:=hrow5 x (Option.mem_toList.1 hx);omega));have HO5:=zh hO5;obtain⟨p5,k5,q5,rfl⟩:=HO5.sh;clear hO5 hg5))
    go_roundw
    case rel=>exact⟨j+1,_,_,_,_,by omega,congrArg _ (by omega),rfl,HO5.out,by simp[HXL.out],(fun x hx=>by rcases List.mem_append.1 hx with hx|hx;exact HXW.out x hx;rw[List.mem_singleton] at hx;subst hx;exact M.pv1_of HWL.out.1 HWL.out.2 (by show 1<=1+k2;omega) (by show 1+k2<=8;omega)),HG5.out,HR5.out.le (by omega)⟩
    case measure=>simp[intOf];omega
   ·obtain rfl:j=J:=by omega
    go_wp2;go_meet
    exact⟨_,_,_,_,rfl,HO2.out,⟨by have:=HXL.out;omega,hxl4,HXW.out⟩,HMW2.out,HRD2.out.le (by omega)⟩
 case rest =>
  clear HMW HO HRD;obtain⟨ao,no,co,xs,rfl,hoo,⟨hx1,hx4,hxw⟩,hmw,hrd⟩:=hcut;have HMW:=zh hmw;have HO:=zh hoo;have HRD:=zh hrd;have HXW:=zh hxw;have hsc:=hmw.size;clear hmw hoo hrd hxw;go_upto_if 26 with (go_at_call 53;refine(zDj W _ b _ HRD.out).mono ?_;rintro e w2 ⟨rfl,hm,hr⟩;have hs2:=(Mw.ofMo hm).size;replace HMW:=zh (HMW.out.tr (Mw.ofMo hm));replace HO:=zh (HO.out.mo hm (by simp;omega));replace HRD:=zh hr;clear hm hr)
  go_wp2;go_ret;exact⟨_,xs,rfl,HO.out.rsb,⟨hx1,hx4,HXW.out⟩,HMW.out,HRD.out.le (by omega)⟩
theorem zJd(W w:World)(b m K:Nat)(h:Rd W w b (m+20))(hK1:1<=K)(hK:K<=1000) :
  Calls Tryz.prog 133 #[.pointer (some ⟨b,0,none⟩),.int .i64 K,.int .i64 0] w fun e w' => ∃ v xs,e = .returned v/\Rsb (α:=Slot) w.heap.size w' v xs/\(1<=xs.length/\xs.length<=6/\∀ x∈xs,zDk K x=true)/\Mw [b] w w'/\Rd W w' b m:=by
 have H:=zh h;have hbl:=h.lt;have hbW:=h.1;have hWw:=h.2.1.sz;clear h;go_enter Tryz.func133,Tryz.ntmps133;go_upto_region 2 with (fail)
 refine zA1 (fun W0=>Ext w W0/\Oo (α:=Slot) 107 w.heap.size W0 (.slice (some ⟨w.heap.size,0,none⟩) 0 0) []) ⟨(zr _).alloc _,Oo.lit0 _ _⟩ ?_
 rintro W0 ⟨e0,ho0⟩;have HRD:=zh (H.out.ext e0);have HMW:Hid (Mw [b] w W0):=zh (Mw.ofExt e0);have HO:=zh ho0;clear e0 H ho0;go_upto_block 0 with (go_at_call 35;refine(zA9 W _ b _ _ HRD.out (zAf (by omega) (by omega))).mono ?_;rintro e w1 ⟨k,rfl,hk,hm,hr⟩;have hkb:=hk.lt (by omega);replace HMW:=zh (HMW.out.tr (Mw.ofMo hm));replace HO:=zh (HO.out.mo hm (by simp;omega));replace HRD:=zh hr;clear hk hm hr)
 obtain⟨hk1,hk2⟩:=hkb;obtain⟨J,hJ⟩:∃ J:Nat,1+k=J:=⟨(1+k).toNat,by omega⟩
 rw[hJ];have hJ1:1<=J:=by omega
 have hJ6:J<=6:=by omega
 clear hk1 hk2 hJ;go_cut [7] from 9 (fun v7 wc => ∃ (ao:Option Addr) (no co:Nat) (xs:List Slot),v7 = .slice ao no co/\Oo 107 w.heap.size wc (.slice ao no co) xs/\1<=xs.length/\xs.length<=6/\(∀ x∈xs,zDk K x=true)/\Mw [b] w wc/\Rd W wc b (m+5))
 case first =>
  go_wp2_with fail
  go_loopw [7,8] (fun v7 i wr => ∃ (j:Nat) (ao:Option Addr) (no co:Nat) (xs:List Slot),j<=J/\i = .int .i64 (J - j:Int)/\v7 = .slice ao no co/\Oo 107 w.heap.size wr (.slice ao no co) xs/\xs.length=j/\(∀ x∈xs,zDk K x=true)/\Mw [b] w wr/\Rd W wr b (m+19 - 2*j)) (fun _ i _=>(intOf i).toNat)
  case atStart=>exact⟨0,_,_,_,[],Nat.zero_le _,by simp,rfl,HO.out,rfl,(fun x hx=>by cases hx),HMW.out,HRD.out⟩
  case round =>
   obtain⟨j,ao,no,co,xs,hj,rfl,rfl,hoo,hxl,hxv,hmw,hrd⟩:=hrel;have HXV:=zh hxv;clear hxv;have HMW2:=zh hmw;have HO2:=zh hoo;have hs1:=hmw.size;have HRD2:Hid (Rd W wr b ((m+18 - 2*j)+1)):=zh (hrd.le (by omega))
   clear hmw hoo hrd;by_cases hjt:j < J
   ·go_wp2_with (first
     | (go_at_call 35;refine(zA9 W _ b (m+17 - 2*j) _ (HR2.out.le (by omega)) (zAf (by omega) (by omega))).mono ?_;rintro e w3 ⟨k2,rfl,hk,hm,hr⟩;have hkb2:=hk.lt (by omega);have HM3:=zh (HM2.out.tr (Mw.ofMo hm));have HO4:=zh (HO3.out.of (w':=w3) (fun k h1 h2=>(Mw.ofMo hm).2.2 k (by omega) (by simp;omega)));have hs3:=(Mw.ofMo hm).size;have HR3:=zh hr;clear hk hm hr)
     | (go_at_call 35;refine(zA9 W _ b _ _ HRD2.out (zAf (by omega) (by omega))).mono ?_;rintro e w2 ⟨k1,rfl,hk,hm,hr⟩;have hkb1:=hk.lt (by omega);have HM2:=zh (HMW2.out.tr (Mw.ofMo hm));have HO3:=zh (HO2.out.ob.of (w':=w2) (fun k h1 h2=>(Mw.ofMo hm).2.2 k h2 (by simp;omega)));have hs2:=(Mw.ofMo hm).size;have HR2:=zh hr;clear hk hm hr)
     | (at_builtin;refine zF4 (α:=Slot) rfl _ _ 39 rfl 107 Tryz.underlying39 zMc (v:=.slice ao no co) (ys:=[⟨k1 - 1,1+k2⟩]) rfl (HO4.out.of (fun k _ h=>((zr w3).alloc _).block k (by omega))) (by omega) (by simp;omega) rfl rfl (Row.lit1 (cs:=[_,_]) ⟨rfl,zAf (by show _<=k1 - 1;omega) (by show k1 - 1<=_;omega),zAf (by show _<=1+k2;omega) (by show 1+k2<=_;omega),rfl⟩) (by simp) (Own.nil _ _) (by omega) ?_;intro v5 w5 hO5 hg5;have hrow5:=HO4.out.own;have HG5:=zh ((HM3.out.tr (Mw.ofExt ((zr _).alloc _))).trF hg5 (fun x hx => .inr (hrow5 x (Option.mem_toList.1 hx)).1));have HR5:=zh ((HR3.out.ext ((zr _).alloc _)).mw hg5 (fun hm=>by have:=hrow5 _ (Option.mem_toList.1 hm);omega) (fun x hx=>by have:=hrow5 x (Option.mem_toList.1 hx);omega));have HO5:=zh hO5;obtain⟨p5,k5,q5,rfl⟩:=HO5.sh;clear hO5 hg5))
    go_roundw
    case rel=>exact⟨j+1,_,_,_,_,by omega,congrArg _ (by omega),rfl,HO5.out,by simp[hxl],(fun y hy=>by rcases List.mem_append.1 hy with hy|hy;exact HXV.out y hy;rw[List.mem_singleton] at hy;subst hy;simp only[zDk,Bool.and_eq_true,zA5];omega),HG5.out,HR5.out.le (by omega)⟩
    case measure=>simp[intOf];omega
   ·obtain rfl:j=J:=by omega
    go_wp2;go_meet
    exact⟨_,_,_,_,rfl,HO2.out,by omega,by omega,HXV.out,HMW2.out,HRD2.out.le (by omega)⟩
 case rest =>
  clear HMW HO HRD;obtain⟨ao,no,co,xs,rfl,hoo,hx1,hx6,hxv,hmw,hrd⟩:=hcut;have HMW:=zh hmw;have HO:=zh hoo;have HRD:=zh hrd;have HXV:=zh hxv;have hsc:=hmw.size;clear hmw hoo hrd hxv;go_upto_if 31 with (go_at_call 53;refine(zDj W _ b _ HRD.out).mono ?_;rintro e w2 ⟨rfl,hm,hr⟩;have hs2:=(Mw.ofMo hm).size;replace HMW:=zh (HMW.out.tr (Mw.ofMo hm));replace HO:=zh (HO.out.mo hm (by simp;omega));replace HRD:=zh hr;clear hm hr)
  go_wp2;go_ret;exact⟨_,xs,rfl,HO.out.rsb,⟨hx1,hx6,HXV.out⟩,HMW.out,HRD.out.le (by omega)⟩
end Sk
