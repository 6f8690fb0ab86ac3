/- Contracts of functions of the given program. -/
import Derived.Test.YtidkncgejgngcaaGreatWTick
import Derived.Test.YtidkncgejgngcaaGreatVWSeen
import Derived.Test.YtidkncgejgngcaaGreatVViewS
namespace Sk
open Go Go.Proofs Go.RowKit
set_option maxHeartbeats 4000000
set_option maxRecDepth 100000
set_option linter.unusedVariables false
set_option linter.unusedSimpArgs false
theorem FzK.puts{b:Nat}(cs:List Value):∀ {a w:World} {o:Nat},FzK a w->FzK a (zAb w b o cs):=by
 induction cs with
 | nil=>intro a w o h;exact h
 | cons c cs ih=>intro a w o h;rw[zAb];exact ih (h.set ⟨b,o,none⟩ c)
theorem zIi(v:Value)(m:Machine)(t:Int)(w:World)(h:Rv w v m)(hrt:rng t) :
  Calls Tryz.prog 163 #[v,.int .i64 t] w fun e w' => ∃ v',e = .returned v'/\Ov w.heap.size w' v' (zMu m t)/\Ext w w'/\SpH 52 w.heap.size w' v':=by
 have H:=zh h;obtain⟨a0,c0,a1,c1,a2,c2,a3,c3,a4,c4,a5,c5,rfl,rt,h0,l0,h1,l1,h2,l2,h3,l3,h4,l4,h5,l5⟩:=h.openMachine;clear h h0 h1 h2 h3 h4 h5;go_enter Tryz.func163,Tryz.ntmps163;go_upto_region 1 with (fail)
 refine zA1 (fun W=>Ext w W/\Bk W w.heap.size [.slice a0 m.Plan.Parts.length c0,.slice a1 m.Plan.Channels.length c1,.slice a2 m.Plan.Slots.length c2,.slice a3 m.Programs.length c3,.slice a4 m.Cores.length c4,.slice a5 m.Holds.length c5,.int .i64 m.Tick] 32/\Bk W (w.heap.size+1) [.slice none 0 0,.slice none 0 0,.slice none 0 0,.slice none 0 0,.slice none 0 0,.slice none 0 0,.int .i64 0] 32) ⟨((zr _).alloc _).alloc _,(Bk.new _ _ _).ext ((zr _).alloc _),Bk.new1 _ _ _ _⟩ ?_
 rintro W ⟨e1,kA,kB⟩;have HE0:=zh e1;obtain⟨d0,d1,d2,d3,d4,d5,d6⟩:=Bk.k7 kA;have KA:=zh kA;have KB:=zh kB;clear e1 kA kB;cases g:zE9 m
 ·have g0:zBi m t 400=false:=by unfold zBi;rw[g];rfl
  go_wp2_with (go_at_call 38;refine(zA3 _ m _ (H.out.ext HE0.out)).mono ?_;rintro e w0 ⟨rfl,he⟩;rw[g];have E:=zh (HE0.out.tr he);have KAx:=KA.out.ext he;have ltA:=KAx.lt;obtain⟨x0,x1,x2,x3,x4,x5,x6⟩:=Bk.k7 KAx;have KBx:=KB.out.ext he;obtain⟨z0,z1,z2,z3,z4,z5,z6⟩:=Bk.k7 KBx;have zf:=KBx.fz;have ltZ:=KBx.lt;clear KBx;clear he KAx)
  refine bodyPost_ret (v:=.agg #[.slice none 0 0,.slice none 0 0,.slice none 0 0,.slice none 0 0,.slice none 0 0,.slice none 0 0,.int .i64 0]) (by simp[results,Tryz.results163,go_sem,z0,z1,z2,z3,z4,z5,z6]) rfl ⟨_,rfl,by rw[zKl g0];exact Ov.mz _ _,(((((((E.out).set (by simp) _).set (by simp) _).set (by simp) _).set (by simp) _).set (by simp) _).set (by simp) _).set (by simp) _,SpH.mk (Sp.nil _ _ _ _)⟩
 have hmv:=zAu.1 g;have htk:=hmv.tick;cases g1:zA8 t 0 400
 ·have g0:zBi m t 400=false:=by unfold zBi;rw[g,g1];rfl
  go_wp2_with (first
   | (go_at_call 38;refine(zA3 _ m _ (H.out.ext HE0.out)).mono ?_;rintro e w0 ⟨rfl,he⟩;rw[g];have E:=zh (HE0.out.tr he);have KAx:=KA.out.ext he;have ltA:=KAx.lt;obtain⟨x0,x1,x2,x3,x4,x5,x6⟩:=Bk.k7 KAx;have KBx:=KB.out.ext he;obtain⟨z0,z1,z2,z3,z4,z5,z6⟩:=Bk.k7 KBx;have zf:=KBx.fz;have ltZ:=KBx.lt;clear KBx;clear he KAx)
   | (go_at_call 55;refine(zA9 _ _ _ _).mono ?_;rintro e w9 ⟨rfl,rfl⟩;rw[g1]))
  refine bodyPost_ret (v:=.agg #[.slice none 0 0,.slice none 0 0,.slice none 0 0,.slice none 0 0,.slice none 0 0,.slice none 0 0,.int .i64 0]) (by simp[results,Tryz.results163,go_sem,z0,z1,z2,z3,z4,z5,z6]) rfl ⟨_,rfl,by rw[zKl g0];exact Ov.mz _ _,(((((((E.out).set (by simp) _).set (by simp) _).set (by simp) _).set (by simp) _).set (by simp) _).set (by simp) _).set (by simp) _,SpH.mk (Sp.nil _ _ _ _)⟩
 obtain⟨ht0,ht4⟩:=zA6.1 g1;obtain⟨T,rfl⟩:∃ T:Nat,t=T:=⟨t.toNat,by omega⟩
 by_cases hT:m.Tick+T<=100000
 case neg =>
  have g0:zBi m T 400=false:=by unfold zBi;rw[g,g1,show decide (m.Tick+(T:Int)<=100000)=false from decide_eq_false hT];rfl
  have hgt:decide (m.Tick+(T:Int) > 100000)=true:=decide_eq_true (by omega)
  have hgt2:decide ((100000:Int) < m.Tick+(T:Int))=true:=decide_eq_true (by omega)
  go_wp2_with (first
   | (go_at_call 38;refine(zA3 _ m _ (H.out.ext HE0.out)).mono ?_;rintro e w0 ⟨rfl,he⟩;rw[g];have E:=zh (HE0.out.tr he);have KAx:=KA.out.ext he;have ltA:=KAx.lt;obtain⟨x0,x1,x2,x3,x4,x5,x6⟩:=Bk.k7 KAx;have KBx:=KB.out.ext he;obtain⟨z0,z1,z2,z3,z4,z5,z6⟩:=Bk.k7 KBx;have zf:=KBx.fz;have ltZ:=KBx.lt;clear KBx;clear he KAx)
   | (go_at_call 55;refine(zA9 _ _ _ _).mono ?_;rintro e w9 ⟨rfl,rfl⟩;rw[g1]))
  refine bodyPost_ret (v:=.agg #[.slice none 0 0,.slice none 0 0,.slice none 0 0,.slice none 0 0,.slice none 0 0,.slice none 0 0,.int .i64 0]) (by simp[results,Tryz.results163,go_sem,z0,z1,z2,z3,z4,z5,z6]) rfl ⟨_,rfl,by rw[zKl g0];exact Ov.mz _ _,(((((((E.out).set (by simp) _).set (by simp) _).set (by simp) _).set (by simp) _).set (by simp) _).set (by simp) _).set (by simp) _,SpH.mk (Sp.nil _ _ _ _)⟩
 have g0:zBi m T 400=true:=zCm.2 ⟨hmv,⟨ht0,ht4⟩,hT⟩;have htot:GT.tot m<=1048576:=Nat.le_trans (zD7 hmv) (by omega)
 have HV:=zh hmv;have hres:=zh (zMv g0);have hgt:decide (m.Tick+(T:Int) > 100000)=false:=decide_eq_false (by omega)
 have hgt2:decide ((100000:Int) < m.Tick+(T:Int))=false:=decide_eq_false (by omega)
 go_upto_region 3 with (first
  | (go_at_call 38;refine(zA3 _ m _ (H.out.ext HE0.out)).mono ?_;rintro e w0 ⟨rfl,he⟩;rw[g];have E:=zh (HE0.out.tr he);have KAx:=KA.out.ext he;have ltA:=KAx.lt;obtain⟨x0,x1,x2,x3,x4,x5,x6⟩:=Bk.k7 KAx;replace KB:=zh (KB.out.ext he);clear he KAx)
  | (go_at_call 55;refine(zA9 _ _ _ _).mono ?_;rintro e w9 ⟨rfl,rfl⟩;rw[g1]))
 have ltB0:=KB.out.lt;go_upto_region 4 with (go_at_call 57;refine(zEu _ m _ (H.out.ext E.out) htot).mono ?_;rintro e w5 ⟨v5,rfl,hov,ex,hsp⟩;obtain⟨cs5,F5,rfl,hen,how⟩:=hov;obtain⟨v0,v1,v2,v3,v4,v5,G0,G1,G2,G3,G4,G5,rfl,⟨t0,u0,rfl,_⟩,⟨t1,u1,rfl,_⟩,⟨t2,u2,rfl,_⟩,⟨t3,u3,rfl,_⟩,⟨t4,u4,rfl,_⟩,⟨t5,u5,rfl,_⟩,_,_⟩:=id hen;have SP5:=zh (hsp.get.mono E.out.sz);clear hsp;have HEN:=zh hen;have HOW:=zh how;have EX:=zh ex;replace KB:=zh (KB.out.ext ex);clear hen how ex)
 refine zA1 (fun W6=>Ext w5 W6/\Bk W6 w5.heap.size [.slice t0 m.Plan.Parts.length u0,.slice t1 m.Plan.Channels.length u1,.slice t2 m.Plan.Slots.length u2,.slice t3 m.Programs.length u3,.slice t4 m.Cores.length u4,.slice t5 m.Holds.length u5,.int .i64 m.Tick] 32) ⟨(zr _).alloc _,Bk.new _ _ _⟩ ?_
 rintro W6 ⟨E6,K6⟩;have hs05:=EX.out.sz;have hw0:=E.out.sz;have ltB5:=KB.out.lt;have om:Om w0.heap.size W6 w5.heap.size 0 m F5:=⟨_,GT.ext HEN.out E6,fun j u hj=>by rw[Nat.zero_add];exact K6.cell hj,List.nodup_cons.2 ⟨fun hm=>Nat.lt_irrefl _ (HOW.out.lt hm),HOW.out.1⟩,fun k hk=>by
  rcases List.mem_cons.1 hk with rfl|hk
  ·exact⟨hs05,⟨_,_,K6⟩⟩
  ·exact⟨(HOW.out.2 k hk).1,((HOW.out.2 k hk).2).ext E6⟩⟩
 have E7:=zh ((E.out.tr EX.out).tr E6);have KB6:=zh (KB.out.ext E6);have HF:Hid (∀ x∈F5,w0.heap.size<=x):=zh (fun x hx=>(HOW.out.2 x hx).1)
 have hs6:=E6.sz;have BX0:Bx w0.heap.size W6 w5.heap.size m 32:=⟨_,F5,K6,GT.ext HEN.out E6,HOW.out.ext E6⟩;have BXh:=zh BX0;have K5:=zh (K6.cell (j:=5) rfl);have SP6:=zh (SP5.out.ext E6);clear SP5;have hB0:w0.heap.size<=w5.heap.size:=hs05;have hRB:w.heap.size+1 < w5.heap.size:=by omega
 have hwB:w.heap.size<=w5.heap.size:=by omega
 generalize hB:w5.heap.size=B at *
 have hR0:w.heap.size+1 < w0.heap.size:=ltB0;clear om K6 E6 hmv hgt hgt2 KB KA d0 d1 d2 d3 d4 d5 d6 x0 x1 x2 x3 x4 x5 x6 HEN HOW EX E HE0 hB BX0 HF;go_wp2;go_loopw [6] (fun i wr => ∃ (k:Nat),k<=T/\i = .int .i64 k/\Ext w wr/\Bx w0.heap.size wr B (zAj m k) 32/\Bk wr (w.heap.size+1) [.slice none 0 0,.slice none 0 0,.slice none 0 0,.slice none 0 0,.slice none 0 0,.slice none 0 0,.int .i64 0] 32/\∃ hv,wr.cell? ⟨B,5,none⟩=some hv/\Sp 52 1 w.heap.size wr hv) (fun i _=>T - (intOf i).toNat)
 case atStart=>exact⟨0,Nat.zero_le _,rfl,E7.out,BXh.out,KB6.out,_,K5.out,SP6.out⟩
 case round =>
  obtain⟨k,hk,rfl,er,bx,kz,hv5,hc5,hsp⟩:=hrel;obtain⟨p0,q0,p1,q1,p2,q2,p3,q3,p4,q4,p5,q5,Fk,kb,hen,how⟩:=bx.openM;have ER:=zh er;have KR:=zh kz;have KBB:=zh kb;have HEN:=zh hen;have HOW:=zh how;obtain⟨y0,y1,y2,y3,y4,y5,y6⟩:=Bk.k7 kb;have bf:=kb.fz;rw[Option.some.inj (hc5.symm.trans y5)] at hsp;have SPR:=zh hsp;clear hsp hc5;have ltB:=kb.lt;clear er kz kb hen how bx;by_cases hkt:k < T
  ·obtain⟨hrv,hrt2,-⟩:=zDh HV.out k (by omega)
   have hne:¬ (zAj m k).Tick=100000:=by rw[hrt2];omega
   have HS:=zh (show zC4 (zAj m k)=zAj m (k+1) from zFd (zAu.2 hrv) hne)
   obtain⟨mn,hmn⟩:∃ mn,zAj m (k+1)=mn:=⟨_,rfl⟩;have HC:=zEl _ (zAj m k) wr ⟨_,Fk,rfl,HEN.out⟩;rw[HS.out,hmn] at HC;replace HC:=zh HC;have hszr:=ER.out.sz;have hRBn:w.heap.size+1≠B:=by omega
   have hR0w:w0.heap.size<=wr.heap.size:=by omega
   have HMN:=zh hmn;clear hrv hrt2 hne HS hmn
   generalize zAj m k=mk at *
   go_wp2_with (go_at_call 71;refine HC.out.mono ?_;rintro e w7 ⟨v7,rfl,hov,ex,hsp7⟩;obtain⟨r0,s0,r1,s1,r2,s2,r3,s3,r4,s4,r5,s5,F7,rfl,hen7,how7⟩:=hov.openE;have SP7:=zh (hsp7.get.mono hszr);clear hsp7;have EX7:=zh ex;have HEN7:=zh hen7;have HOW7:=zh how7;obtain⟨c70,c71,c72,c73,c74,c75,c76⟩:=Bk.k7 (KBB.out.ext ex);have bf7:=(KBB.out.ext ex).fz;have lt7:=(KBB.out.ext ex).lt;clear ex hen7 how7 hov)
   exact⟨⟨k+1,by omega,by go_num,Ext.puts (b:=B) (o:=0) hwB [.slice r0 mn.Plan.Parts.length s0,.slice r1 mn.Plan.Channels.length s1,.slice r2 mn.Plan.Slots.length s2,.slice r3 mn.Programs.length s3,.slice r4 mn.Cores.length s4,.slice r5 mn.Holds.length s5,.int .i64 mn.Tick] (ER.out.tr EX7.out),(by rw[HMN.out];exact Bx.put (cs:=[.slice r0 mn.Plan.Parts.length s0,.slice r1 mn.Plan.Channels.length s1,.slice r2 mn.Plan.Slots.length s2,.slice r3 mn.Programs.length s3,.slice r4 mn.Cores.length s4,.slice r5 mn.Holds.length s5,.int .i64 mn.Tick]) (KBB.out.ext EX7.out) rfl HEN7.out HOW7.out hR0w ltB),Bk.puts_ne (c:=B) (o:=0) (ds:=[.slice r0 mn.Plan.Parts.length s0,.slice r1 mn.Plan.Channels.length s1,.slice r2 mn.Plan.Slots.length s2,.slice r3 mn.Programs.length s3,.slice r4 mn.Cores.length s4,.slice r5 mn.Holds.length s5,.int .i64 mn.Tick]) (KR.out.ext EX7.out) hRBn,_,((KBB.out.ext EX7.out).puts [.slice r0 mn.Plan.Parts.length s0,.slice r1 mn.Plan.Channels.length s1,.slice r2 mn.Plan.Slots.length s2,.slice r3 mn.Programs.length s3,.slice r4 mn.Cores.length s4,.slice r5 mn.Holds.length s5,.int .i64 mn.Tick] rfl).cell (j:=5) rfl,SP7.out.fzk (FzK.puts (b:=B) (o:=0) [.slice r0 mn.Plan.Parts.length s0,.slice r1 mn.Plan.Channels.length s1,.slice r2 mn.Plan.Slots.length s2,.slice r3 mn.Programs.length s3,.slice r4 mn.Cores.length s4,.slice r5 mn.Holds.length s5,.int .i64 mn.Tick] (FzK.refl _))⟩,by simp[intOf];omega⟩
  ·obtain rfl:k=T:=by omega
   have hZ:w.heap.size+1 ∉ Fk:=fun hm=>by have:=(HOW.out.2 _ hm).1;omega
   obtain⟨z0,z1,z2,z3,z4,z5,z6⟩:=Bk.k7 KR.out;have zf:=KR.out.fz;have ltZ:=KR.out.lt
   generalize zAj m k=m2 at *
   go_wp2;refine bodyPost_ret (v:=.agg #[.slice p0 m2.Plan.Parts.length q0,.slice p1 m2.Plan.Channels.length q1,.slice p2 m2.Plan.Slots.length q2,.slice p3 m2.Programs.length q3,.slice p4 m2.Cores.length q4,.slice p5 m2.Holds.length q5,.int .i64 m2.Tick]) (by simp[results,Tryz.results163,go_sem,z0,z1,z2,z3,z4,z5,z6]) rfl ⟨_,rfl,by rw[hres.out];exact⟨_,_,rfl,zBp (c:=w.heap.size+1) (o:=0) (ds:=[.slice p0 m2.Plan.Parts.length q0,.slice p1 m2.Plan.Channels.length q1,.slice p2 m2.Plan.Slots.length q2,.slice p3 m2.Programs.length q3,.slice p4 m2.Cores.length q4,.slice p5 m2.Holds.length q5,.int .i64 m2.Tick]) HEN.out hZ,((HOW.out.mono (by omega)).put (b:=w.heap.size+1) (o:=0) (cs:=[.slice p0 m2.Plan.Parts.length q0,.slice p1 m2.Plan.Channels.length q1,.slice p2 m2.Plan.Slots.length q2,.slice p3 m2.Programs.length q3,.slice p4 m2.Cores.length q4,.slice p5 m2.Holds.length q5,.int .i64 m2.Tick]))⟩,?_,?_⟩
   ·exact(((((((ER.out).set (by simp) _).set (by simp) _).set (by simp) _).set (by simp) _).set (by simp) _).set (by simp) _).set (by simp) _
   ·exact SpH.mk ((((((((SPR.out).set _ _).set _ _).set _ _).set _ _).set _ _).set _ _).set _ _)
theorem zKm(a b:Machine)(n:Int):zAx a b n=(decide (zBw a n ≠ []) && Eqb (zBw a n) (zBw b n)):=by
 have key:∀ x:Machine,(zB5 x n=false/\zBw x n = [])\/(zB5 x n=true/\zBw x n=zAe x n.toNat/\zBw x n ≠ []):=fun x=>by
  cases h:zB5 x n;·exact .inl ⟨rfl,zHc h⟩
  ·obtain⟨hv,h0,h1⟩:=zBb.1 h;obtain⟨N,rfl⟩:∃ N:Nat,n=N:=⟨n.toNat,by omega⟩
   have e:zBw x N=zAe x (N:Int).toNat:=by rw[zKc h,Int.toNat_natCast]
   refine .inr ⟨rfl,e,fun h2=>?_⟩
   have:=(zMe hv (show N < x.Cores.length by omega)).1
   rw[e,Int.toNat_natCast] at h2;rw[h2] at this;exact absurd this (by decide)
 unfold zAx;rcases key a with ⟨h1,h2⟩ | ⟨h1,h2,h3⟩
 ·rw[h1,h2];simp
 ·rcases key b with ⟨k1,k2⟩ | ⟨k1,k2,k3⟩
  ·rw[h1,k1,k2,Eqb.f h3];simp
  ·rw[h1,k1,<- h2,<- k2,decide_eq_true h3];simp
theorem zEt(v v2:Value)(m p:Machine)(n:Int)(w:World)(h:Rv w v m)(hk:Rv w v2 p) :
  Calls Tryz.prog 87 #[v,v2,.int .i64 n] w fun e w'=>e = .returned (.bool (zAx m p n))/\Ext w w':=by
 have H:=zh h;have KP:=zh hk;obtain⟨a0,c0,a1,c1,a2,c2,a3,c3,a4,c4,a5,c5,rfl,rt,-,l0,-,l1,-,l2,-,l3,-,l4,-,l5⟩:=h.openMachine;obtain⟨f0,h0,f1,h1,f2,h2,f3,h3,f4,h4,f5,h5,rfl,rt',-,l0',-,l1',-,l2',-,l3',-,l4',-,l5'⟩:=hk.openMachine;clear h hk;go_enter Tryz.func87,Tryz.ntmps87;go_upto_region 1 with (fail)
 refine zA1 (fun W=>Ext w W/\Bk W w.heap.size [.slice a0 m.Plan.Parts.length c0,.slice a1 m.Plan.Channels.length c1,.slice a2 m.Plan.Slots.length c2,.slice a3 m.Programs.length c3,.slice a4 m.Cores.length c4,.slice a5 m.Holds.length c5,.int .i64 m.Tick] 32/\Bk W (w.heap.size+1) [.slice f0 p.Plan.Parts.length h0,.slice f1 p.Plan.Channels.length h1,.slice f2 p.Plan.Slots.length h2,.slice f3 p.Programs.length h3,.slice f4 p.Cores.length h4,.slice f5 p.Holds.length h5,.int .i64 p.Tick] 32) ⟨((zr _).alloc _).alloc _,(Bk.new _ _ _).ext ((zr _).alloc _),Bk.new1 _ _ _ _⟩ ?_
 rintro W ⟨e1,kA,kB⟩;have HE0:=zh e1;have KA:=zh kA;have KB:=zh kB;have x0:=kA.cell (j:=0) rfl;have y0:=kB.cell (j:=0) rfl;have x1:=kA.cell (j:=1) rfl;have y1:=kB.cell (j:=1) rfl;have x2:=kA.cell (j:=2) rfl;have y2:=kB.cell (j:=2) rfl;have x3:=kA.cell (j:=3) rfl;have y3:=kB.cell (j:=3) rfl;have x4:=kA.cell (j:=4) rfl;have y4:=kB.cell (j:=4) rfl;have x5:=kA.cell (j:=5) rfl;have y5:=kB.cell (j:=5) rfl;have x6:=kA.cell (j:=6) rfl;have y6:=kB.cell (j:=6) rfl;have ltA:=kA.lt;have ltB:=kB.lt;clear e1 kA kB;have hres:=zh (zKm m p n);go_upto_region 3 with (first
  | (go_at_call 144;have _t:=E1;refine(zJf _ p n _ (KP.out.ext E1.out)).mono ?_;rintro e w2 ⟨v2',rfl,ho,he⟩;obtain⟨ay,cy,rfl,_⟩:=ho.rs.form;have HY:=zh ho.rs;have HX2:=zh (HX.out.ext he);have E2:=zh (E1.out.tr he);clear ho he)
  | (go_at_call 144;refine(zJf _ m n _ (H.out.ext HE0.out)).mono ?_;rintro e w1 ⟨v1,rfl,ho,he⟩;obtain⟨ax,cx,rfl,_⟩:=ho.rs.form;have HX:=zh ho.rs;have E1:=zh (HE0.out.tr he);have kb:=KB.out.ext he;obtain⟨z0,z1,z2,z3,z4,z5,z6⟩:=Bk.k7 kb;have ltz:=kb.lt;clear ho he kb))
 generalize zBw m n=xs at *
 generalize zBw p n=ys at *
 by_cases h0:xs = []
 ·have hr:Hid (zAx m p n=false):=zh (by rw[hres.out,h0];rfl)
  clear hres;subst h0;go_wp2;go_ret;exact⟨zA2 hr.out.symm,E2.out⟩
 have hr:Hid (zAx m p n=Eqb xs ys):=zh (by rw[hres.out,decide_eq_true h0,Bool.true_and])
 have hp:0 < xs.length:=List.length_pos_iff.2 h0;have hz1:decide (xs.length=0)=false:=decide_eq_false (by omega)
 have hz2:((xs.length:Int) == 0)=false:=beq_eq_false_iff_ne.2 (by omega)
 clear hres h0;by_cases hne:xs.length=ys.length
 ·have HL:=zh hne;rw[<- hne] at HY ⊢;clear hne HX;go_wp2;go_loopw [9] (fun i wr => ∃ k:Nat,k<=xs.length/\i = .int .i64 k/\xs.take k=ys.take k/\Ext w2 wr) (fun i _=>xs.length - (intOf i).toNat)
  case atStart=>exact⟨0,Nat.zero_le _,rfl,rfl,.refl _⟩
  case round =>
   obtain⟨k,hk,rfl,he,hq⟩:=hrel;have HE:=zh he;have HQ:=zh hq;clear he hq;by_cases hlt:k < xs.length
   ·obtain⟨b,o,x,rfl,_,hx1,hc1,g0⟩:=(HX2.out.ext HQ.out).atInt k hlt;obtain⟨b2,o2,y,rfl,_,hx2,hc2,g1⟩:=(HY.out.ext HQ.out).atInt k (by have:=HL.out;omega)
    clear HX2 HY;rcases zBu x y with ⟨hx,q1,q2⟩ | ⟨hx,q1,q2⟩
    ·have hx3:=zh hx;clear hx;go_wp2;go_quiet (fail)
     go_wp2;go_roundw
     case rel=>exact⟨k+1,by omega,by go_num,zDb hx1.out (by first|exact hx2.out|exact hx3.out ▸ hx2.out) HE.out,HQ.out.drewN _⟩
     case measure=>simp[intOf];omega
    ·have HN:=zh (Eqb.f (zOm hx1.out hx2.out hx));clear hx;go_wp2;go_quiet (fail)
     go_wp2;go_ret;exact⟨zA2 (hr.out.trans HN.out).symm,(E2.out.tr HQ.out).drewN _⟩
   ·have HN:=zh (Eqb.t (zE2 xs ys k HL.out (by omega) HE.out))
    clear HX2 HY;go_wp2;go_ret;exact⟨zA2 (hr.out.trans HN.out).symm,E2.out.tr HQ.out⟩
 ·have HN:=zh (Eqb.f (fun h=>hne (by rw[h]):xs≠ys))
  have hb:decide (xs.length=ys.length)=false:=by simpa using hne
  have hb2:((xs.length:Int) != (ys.length:Int))=true:=bne_iff_ne.2 (by omega)
  clear HX HX2 HY;go_wp2;go_ret;exact⟨zA2 (hr.out.trans HN.out).symm,E2.out⟩
end Sk
