/- Contracts of functions of the given program. -/
import Derived.Test.YtbekofpkcahbkaaWTick
namespace Sk
open Go Go.Proofs Go.RowKit
set_option maxHeartbeats 4000000
set_option maxRecDepth 100000
set_option linter.unusedVariables false
set_option linter.unusedSimpArgs false
theorem FzK.puts{b:Nat}(cs:List Value):∀ {a w:World} {o:Nat},FzK a w->FzK a (zA8 w b o cs):=by
 induction cs with
 | nil=>intro a w o h;exact h
 | cons c cs ih=>intro a w o h;rw[zA8];exact ih (h.set ⟨b,o,none⟩ c)
theorem zEw(v:Value)(m:Machine)(t:Int)(w:World)(h:Rv w v m)(hrt:rng t) :
  Calls Try.prog 39 #[v,.int .i64 t] w fun e w' => ∃ v',e = .returned v'/\Ov w.heap.size w' v' (zHu m t)/\Ext w w'/\SpH 71 w.heap.size w' v':=by
 have H:=zh h;obtain⟨a0,c0,a1,c1,a2,c2,a3,c3,a4,c4,a5,c5,rfl,rt,h0,l0,h1,l1,h2,l2,h3,l3,h4,l4,h5,l5⟩:=h.openMachine;clear h h0 h1 h2 h3 h4 h5;go_enter Try.func39,Try.ntmps39;go_upto_region 1 with (fail)
 refine zA2 (fun W=>Ext w W/\Bk W w.heap.size [.slice a0 m.Plan.Parts.length c0,.slice a1 m.Plan.Channels.length c1,.slice a2 m.Plan.Slots.length c2,.slice a3 m.Programs.length c3,.slice a4 m.Cores.length c4,.slice a5 m.Holds.length c5,.int .i64 m.Tick] 47/\Bk W (w.heap.size+1) [.slice none 0 0,.slice none 0 0,.slice none 0 0,.slice none 0 0,.slice none 0 0,.slice none 0 0,.int .i64 0] 47) ⟨((zr _).alloc _).alloc _,(Bk.new _ _ _).ext ((zr _).alloc _),Bk.new1 _ _ _ _⟩ ?_
 rintro W ⟨e1,kA,kB⟩;have HE0:=zh e1;obtain⟨d0,d1,d2,d3,d4,d5,d6⟩:=Bk.k7 kA;have KA:=zh kA;have KB:=zh kB;clear e1 kA kB;cases g:zDm m
 ·have g0:zD3 m t 400=false:=by unfold zD3;rw[g];rfl
  go_wp2_with (go_at_call 17;refine(zAd _ m _ (H.out.ext HE0.out)).mono ?_;rintro e w0 ⟨rfl,he⟩;rw[g];have E:=zh (HE0.out.tr he);have KAx:=KA.out.ext he;have ltA:=KAx.lt;obtain⟨x0,x1,x2,x3,x4,x5,x6⟩:=Bk.k7 KAx;have KBx:=KB.out.ext he;obtain⟨z0,z1,z2,z3,z4,z5,z6⟩:=Bk.k7 KBx;have zf:=KBx.fz;have ltZ:=KBx.lt;clear KBx;clear he KAx)
  refine bodyPost_ret (v:=.agg #[.slice none 0 0,.slice none 0 0,.slice none 0 0,.slice none 0 0,.slice none 0 0,.slice none 0 0,.int .i64 0]) (by simp[results,Try.results39,go_sem,z0,z1,z2,z3,z4,z5,z6]) rfl ⟨_,rfl,by rw[zG7 g0];exact Ov.mz _ _,(((((((E.out).set (by simp) _).set (by simp) _).set (by simp) _).set (by simp) _).set (by simp) _).set (by simp) _).set (by simp) _,SpH.mk (Sp.nil _ _ _ _)⟩
 have hmv:=zDe.1 g;have htk:=hmv.tick;cases g1:zA5 t 0 400
 ·have g0:zD3 m t 400=false:=by unfold zD3;rw[g,g1];rfl
  go_wp2_with (first
   | (go_at_call 17;refine(zAd _ m _ (H.out.ext HE0.out)).mono ?_;rintro e w0 ⟨rfl,he⟩;rw[g];have E:=zh (HE0.out.tr he);have KAx:=KA.out.ext he;have ltA:=KAx.lt;obtain⟨x0,x1,x2,x3,x4,x5,x6⟩:=Bk.k7 KAx;have KBx:=KB.out.ext he;obtain⟨z0,z1,z2,z3,z4,z5,z6⟩:=Bk.k7 KBx;have zf:=KBx.fz;have ltZ:=KBx.lt;clear KBx;clear he KAx)
   | (go_at_call 31;refine(zAa _ _ _ _).mono ?_;rintro e w9 ⟨rfl,rfl⟩;rw[g1]))
  refine bodyPost_ret (v:=.agg #[.slice none 0 0,.slice none 0 0,.slice none 0 0,.slice none 0 0,.slice none 0 0,.slice none 0 0,.int .i64 0]) (by simp[results,Try.results39,go_sem,z0,z1,z2,z3,z4,z5,z6]) rfl ⟨_,rfl,by rw[zG7 g0];exact Ov.mz _ _,(((((((E.out).set (by simp) _).set (by simp) _).set (by simp) _).set (by simp) _).set (by simp) _).set (by simp) _).set (by simp) _,SpH.mk (Sp.nil _ _ _ _)⟩
 obtain⟨ht0,ht4⟩:=zA4.1 g1;obtain⟨T,rfl⟩:∃ T:Nat,t=T:=⟨t.toNat,by omega⟩
 by_cases hT:m.Tick+T<=100000
 case neg =>
  have g0:zD3 m T 400=false:=by unfold zD3;rw[g,g1,show decide (m.Tick+(T:Int)<=100000)=false from decide_eq_false hT];rfl
  have hgt:decide (m.Tick+(T:Int) > 100000)=true:=decide_eq_true (by omega)
  have hgt2:decide ((100000:Int) < m.Tick+(T:Int))=true:=decide_eq_true (by omega)
  go_wp2_with (first
   | (go_at_call 17;refine(zAd _ m _ (H.out.ext HE0.out)).mono ?_;rintro e w0 ⟨rfl,he⟩;rw[g];have E:=zh (HE0.out.tr he);have KAx:=KA.out.ext he;have ltA:=KAx.lt;obtain⟨x0,x1,x2,x3,x4,x5,x6⟩:=Bk.k7 KAx;have KBx:=KB.out.ext he;obtain⟨z0,z1,z2,z3,z4,z5,z6⟩:=Bk.k7 KBx;have zf:=KBx.fz;have ltZ:=KBx.lt;clear KBx;clear he KAx)
   | (go_at_call 31;refine(zAa _ _ _ _).mono ?_;rintro e w9 ⟨rfl,rfl⟩;rw[g1]))
  refine bodyPost_ret (v:=.agg #[.slice none 0 0,.slice none 0 0,.slice none 0 0,.slice none 0 0,.slice none 0 0,.slice none 0 0,.int .i64 0]) (by simp[results,Try.results39,go_sem,z0,z1,z2,z3,z4,z5,z6]) rfl ⟨_,rfl,by rw[zG7 g0];exact Ov.mz _ _,(((((((E.out).set (by simp) _).set (by simp) _).set (by simp) _).set (by simp) _).set (by simp) _).set (by simp) _).set (by simp) _,SpH.mk (Sp.nil _ _ _ _)⟩
 have g0:zD3 m T 400=true:=zFv.2 ⟨hmv,⟨ht0,ht4⟩,hT⟩;have htot:GT.tot m<=1048576:=Nat.le_trans (zE2 hmv) (by omega)
 have HV:=zh hmv;have hres:=zh (zHv g0);have hgt:decide (m.Tick+(T:Int) > 100000)=false:=decide_eq_false (by omega)
 have hgt2:decide ((100000:Int) < m.Tick+(T:Int))=false:=decide_eq_false (by omega)
 go_upto_region 3 with (first
  | (go_at_call 17;refine(zAd _ m _ (H.out.ext HE0.out)).mono ?_;rintro e w0 ⟨rfl,he⟩;rw[g];have E:=zh (HE0.out.tr he);have KAx:=KA.out.ext he;have ltA:=KAx.lt;obtain⟨x0,x1,x2,x3,x4,x5,x6⟩:=Bk.k7 KAx;replace KB:=zh (KB.out.ext he);clear he KAx)
  | (go_at_call 31;refine(zAa _ _ _ _).mono ?_;rintro e w9 ⟨rfl,rfl⟩;rw[g1]))
 have ltB0:=KB.out.lt;go_upto_region 4 with (go_at_call 58;refine(zD0 _ m _ (H.out.ext E.out) htot).mono ?_;rintro e w5 ⟨v5,rfl,hov,ex,hsp⟩;obtain⟨cs5,F5,rfl,hen,how⟩:=hov;obtain⟨v0,v1,v2,v3,v4,v5,G0,G1,G2,G3,G4,G5,rfl,⟨t0,u0,rfl,_⟩,⟨t1,u1,rfl,_⟩,⟨t2,u2,rfl,_⟩,⟨t3,u3,rfl,_⟩,⟨t4,u4,rfl,_⟩,⟨t5,u5,rfl,_⟩,_,_⟩:=id hen;have SP5:=zh (hsp.get.mono E.out.sz);clear hsp;have HEN:=zh hen;have HOW:=zh how;have EX:=zh ex;replace KB:=zh (KB.out.ext ex);clear hen how ex)
 refine zA2 (fun W6=>Ext w5 W6/\Bk W6 w5.heap.size [.slice t0 m.Plan.Parts.length u0,.slice t1 m.Plan.Channels.length u1,.slice t2 m.Plan.Slots.length u2,.slice t3 m.Programs.length u3,.slice t4 m.Cores.length u4,.slice t5 m.Holds.length u5,.int .i64 m.Tick] 47) ⟨(zr _).alloc _,Bk.new _ _ _⟩ ?_
 rintro W6 ⟨E6,K6⟩;have hs05:=EX.out.sz;have hw0:=E.out.sz;have ltB5:=KB.out.lt;have om:Om w0.heap.size W6 w5.heap.size 0 m F5:=⟨_,GT.ext HEN.out E6,fun j u hj=>by rw[Nat.zero_add];exact K6.cell hj,List.nodup_cons.2 ⟨fun hm=>Nat.lt_irrefl _ (HOW.out.lt hm),HOW.out.1⟩,fun k hk=>by
  rcases List.mem_cons.1 hk with rfl|hk
  ·exact⟨hs05,⟨_,_,K6⟩⟩
  ·exact⟨(HOW.out.2 k hk).1,((HOW.out.2 k hk).2).ext E6⟩⟩
 have E7:=zh ((E.out.tr EX.out).tr E6);have KB6:=zh (KB.out.ext E6);have HF:Hid (∀ x∈F5,w0.heap.size<=x):=zh (fun x hx=>(HOW.out.2 x hx).1)
 have hs6:=E6.sz;have BX0:Bx w0.heap.size W6 w5.heap.size m 47:=⟨_,F5,K6,GT.ext HEN.out E6,HOW.out.ext E6⟩;have BXh:=zh BX0;have K5:=zh (K6.cell (j:=5) rfl);have SP6:=zh (SP5.out.ext E6);clear SP5;have hB0:w0.heap.size<=w5.heap.size:=hs05;have hRB:w.heap.size+1 < w5.heap.size:=by omega
 have hwB:w.heap.size<=w5.heap.size:=by omega
 generalize hB:w5.heap.size=B at *
 have hR0:w.heap.size+1 < w0.heap.size:=ltB0;clear om K6 E6 hmv hgt hgt2 KB KA d0 d1 d2 d3 d4 d5 d6 x0 x1 x2 x3 x4 x5 x6 HEN HOW EX E HE0 hB BX0 HF;go_wp2;go_loopw [6] (fun i wr => ∃ (k:Nat),k<=T/\i = .int .i64 k/\Ext w wr/\Bx w0.heap.size wr B (zCt m k) 47/\Bk wr (w.heap.size+1) [.slice none 0 0,.slice none 0 0,.slice none 0 0,.slice none 0 0,.slice none 0 0,.slice none 0 0,.int .i64 0] 47/\∃ hv,wr.cell? ⟨B,5,none⟩=some hv/\Sp 71 1 w.heap.size wr hv) (fun i _=>T - (intOf i).toNat)
 case atStart=>exact⟨0,Nat.zero_le _,rfl,E7.out,BXh.out,KB6.out,_,K5.out,SP6.out⟩
 case round =>
  obtain⟨k,hk,rfl,er,bx,kz,hv5,hc5,hsp⟩:=hrel;obtain⟨p0,q0,p1,q1,p2,q2,p3,q3,p4,q4,p5,q5,Fk,kb,hen,how⟩:=bx.openM;have ER:=zh er;have KR:=zh kz;have KBB:=zh kb;have HEN:=zh hen;have HOW:=zh how;obtain⟨y0,y1,y2,y3,y4,y5,y6⟩:=Bk.k7 kb;have bf:=kb.fz;rw[Option.some.inj (hc5.symm.trans y5)] at hsp;have SPR:=zh hsp;clear hsp hc5;have ltB:=kb.lt;clear er kz kb hen how bx;by_cases hkt:k < T
  ·obtain⟨hrv,hrt2,-⟩:=zG8 HV.out k (by omega)
   have hne:¬ (zCt m k).Tick=100000:=by rw[hrt2];omega
   have HS:=zh (show zBz (zCt m k)=zCt m (k+1) from zGv (zDe.2 hrv) hne)
   obtain⟨mn,hmn⟩:∃ mn,zCt m (k+1)=mn:=⟨_,rfl⟩;have HC:=zEj _ (zCt m k) wr ⟨_,Fk,rfl,HEN.out⟩;rw[HS.out,hmn] at HC;replace HC:=zh HC;have hszr:=ER.out.sz;have hRBn:w.heap.size+1≠B:=by omega
   have hR0w:w0.heap.size<=wr.heap.size:=by omega
   have HMN:=zh hmn;clear hrv hrt2 hne HS hmn
   generalize zCt m k=mk at *
   go_wp2_with (go_at_call 61;refine HC.out.mono ?_;rintro e w7 ⟨v7,rfl,hov,ex,hsp7⟩;obtain⟨r0,s0,r1,s1,r2,s2,r3,s3,r4,s4,r5,s5,F7,rfl,hen7,how7⟩:=hov.openE;have SP7:=zh (hsp7.get.mono hszr);clear hsp7;have EX7:=zh ex;have HEN7:=zh hen7;have HOW7:=zh how7;obtain⟨c70,c71,c72,c73,c74,c75,c76⟩:=Bk.k7 (KBB.out.ext ex);have bf7:=(KBB.out.ext ex).fz;have lt7:=(KBB.out.ext ex).lt;clear ex hen7 how7 hov)
   exact⟨⟨k+1,by omega,by go_num,Ext.puts (b:=B) (o:=0) hwB [.slice r0 mn.Plan.Parts.length s0,.slice r1 mn.Plan.Channels.length s1,.slice r2 mn.Plan.Slots.length s2,.slice r3 mn.Programs.length s3,.slice r4 mn.Cores.length s4,.slice r5 mn.Holds.length s5,.int .i64 mn.Tick] (ER.out.tr EX7.out),(by rw[HMN.out];exact Bx.put (cs:=[.slice r0 mn.Plan.Parts.length s0,.slice r1 mn.Plan.Channels.length s1,.slice r2 mn.Plan.Slots.length s2,.slice r3 mn.Programs.length s3,.slice r4 mn.Cores.length s4,.slice r5 mn.Holds.length s5,.int .i64 mn.Tick]) (KBB.out.ext EX7.out) rfl HEN7.out HOW7.out hR0w ltB),Bk.puts_ne (c:=B) (o:=0) (ds:=[.slice r0 mn.Plan.Parts.length s0,.slice r1 mn.Plan.Channels.length s1,.slice r2 mn.Plan.Slots.length s2,.slice r3 mn.Programs.length s3,.slice r4 mn.Cores.length s4,.slice r5 mn.Holds.length s5,.int .i64 mn.Tick]) (KR.out.ext EX7.out) hRBn,_,((KBB.out.ext EX7.out).puts [.slice r0 mn.Plan.Parts.length s0,.slice r1 mn.Plan.Channels.length s1,.slice r2 mn.Plan.Slots.length s2,.slice r3 mn.Programs.length s3,.slice r4 mn.Cores.length s4,.slice r5 mn.Holds.length s5,.int .i64 mn.Tick] rfl).cell (j:=5) rfl,SP7.out.fzk (FzK.puts (b:=B) (o:=0) [.slice r0 mn.Plan.Parts.length s0,.slice r1 mn.Plan.Channels.length s1,.slice r2 mn.Plan.Slots.length s2,.slice r3 mn.Programs.length s3,.slice r4 mn.Cores.length s4,.slice r5 mn.Holds.length s5,.int .i64 mn.Tick] (FzK.refl _))⟩,by simp[intOf];omega⟩
  ·obtain rfl:k=T:=by omega
   have hZ:w.heap.size+1 ∉ Fk:=fun hm=>by have:=(HOW.out.2 _ hm).1;omega
   obtain⟨z0,z1,z2,z3,z4,z5,z6⟩:=Bk.k7 KR.out;have zf:=KR.out.fz;have ltZ:=KR.out.lt
   generalize zCt m k=m2 at *
   go_wp2;refine bodyPost_ret (v:=.agg #[.slice p0 m2.Plan.Parts.length q0,.slice p1 m2.Plan.Channels.length q1,.slice p2 m2.Plan.Slots.length q2,.slice p3 m2.Programs.length q3,.slice p4 m2.Cores.length q4,.slice p5 m2.Holds.length q5,.int .i64 m2.Tick]) (by simp[results,Try.results39,go_sem,z0,z1,z2,z3,z4,z5,z6]) rfl ⟨_,rfl,by rw[hres.out];exact⟨_,_,rfl,zCo (c:=w.heap.size+1) (o:=0) (ds:=[.slice p0 m2.Plan.Parts.length q0,.slice p1 m2.Plan.Channels.length q1,.slice p2 m2.Plan.Slots.length q2,.slice p3 m2.Programs.length q3,.slice p4 m2.Cores.length q4,.slice p5 m2.Holds.length q5,.int .i64 m2.Tick]) HEN.out hZ,((HOW.out.mono (by omega)).put (b:=w.heap.size+1) (o:=0) (cs:=[.slice p0 m2.Plan.Parts.length q0,.slice p1 m2.Plan.Channels.length q1,.slice p2 m2.Plan.Slots.length q2,.slice p3 m2.Programs.length q3,.slice p4 m2.Cores.length q4,.slice p5 m2.Holds.length q5,.int .i64 m2.Tick]))⟩,?_,?_⟩
   ·exact(((((((ER.out).set (by simp) _).set (by simp) _).set (by simp) _).set (by simp) _).set (by simp) _).set (by simp) _).set (by simp) _
   ·exact SpH.mk ((((((((SPR.out).set _ _).set _ _).set _ _).set _ _).set _ _).set _ _).set _ _)
end Sk
