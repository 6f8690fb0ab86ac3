/- Contracts of functions of the given program. -/
import Derived.Test.YtbekofpkcahbkaaGreatZzzzhBdM
namespace Sk
open Go Go.Proofs Go.RowKit
set_option maxHeartbeats 8000000
set_option maxRecDepth 100000
set_option linter.unusedVariables false
set_option linter.unusedSimpArgs false
theorem Bk.j7{w:World}{b:Nat}{c0 c1 c2 c3 c4 c5 c6:Value}{l:List Value}{T:TypeId}(h:Bk w b (c0::c1::c2::c3::c4::c5::c6::l) T):w.cell? ⟨b,0,none⟩=some c0/\w.cell? ⟨b,1,none⟩=some c1/\w.cell? ⟨b,2,none⟩=some c2/\w.cell? ⟨b,3,none⟩=some c3/\w.cell? ⟨b,4,none⟩=some c4/\w.cell? ⟨b,5,none⟩=some c5/\w.cell? ⟨b,6,none⟩=some c6/\b < w.heap.size:=⟨h.cell (j:=0) rfl,h.cell (j:=1) rfl,h.cell (j:=2) rfl,h.cell (j:=3) rfl,h.cell (j:=4) rfl,h.cell (j:=5) rfl,h.cell (j:=6) rfl,h.lt⟩
theorem lawBoardFrame(v:Value)(xs:List By)(w:World)(h:Rs w v xs) :
  Calls Tryz.prog 5 #[v] w fun e w'=>e = .returned (.bool true)/\Ext w w':=by
 obtain⟨a,c,rfl,hl⟩:=h.form;have H:=zh h;clear h;by_cases hx:xs.length<=1048576
 case neg =>
  have hx2:1048576 < xs.length:=by omega
  clear hx;go_enter Tryz.func5,Tryz.ntmps5;go_wp2;go_ret;exact⟨rfl,zr w⟩
 go_enter Tryz.func5,Tryz.ntmps5;go_upto_region 4 with (go_at_call 16;refine(zLw _ _ _ H.out).mono ?_;rintro e w1 ⟨v1,x,rfl,hv,htt,he⟩;obtain⟨p0,q0,p1,q1,rfl,s0,-,s1,-⟩:=hv.openBoard;have HV:=zh hv;have HTT:=zh htt;have HE:=zh he;clear hv htt he)
 obtain⟨A,hA⟩:∃ A,A=w1.heap.size:=⟨_,rfl⟩;refine zA1 (fun u=>Ext w1 u/\Bk u A [.slice p0 x.Boxes.length q0,.slice p1 x.Wires.length q1] 26) ⟨(zr _).alloc _,by rw[hA];exact Bk.new _ _ _⟩ ?_
 rw[<- hA];rintro W1 ⟨e1,kA⟩;clear hA H;replace HV:=zh (HV.out.ext e1);replace s0:=zh (s0.out.ext e1);replace s1:=zh (s1.out.ext e1);replace HE:=zh (HE.out.tr e1);have KA:=zh kA;clear e1 kA;have E:=zh (zr W1);have ht9:GT.tot x=GT.tot x.Boxes+GT.tot x.Wires:=rfl;have hxb:x.Boxes.length<=1000000:=by have:=zAk (xs:=x.Boxes);have:=HTT.out;omega
 have hxw:x.Wires.length<=1000000:=by have:=zAk (xs:=x.Wires);have:=HTT.out;omega
 clear ht9;obtain⟨y,hy⟩:∃ y,zGg x=y:=⟨_,rfl⟩;have CI:=zh (fun(v:Value) (u:World) (h:Rv u v x)=>zO1 v x u h)
 have CS:=zh (fun(v:Value) (u:World) (h:Rv u v x)=>zIp v x u h (by have:=HTT.out;omega))
 rw[hy] at CI CS;have HY:=zh hy;clear hy;obtain⟨fa0,fa1,faL⟩:=Bk.j2 (KA.out.ext E.out);go_upto_region 5 with (go_at_call 17;refine(CI.out _ _ HV.out).mono ?_;rintro e w2 ⟨v2,rfl,ho,he⟩;obtain⟨b0,d0,b1,d1,rfl,t0,-⟩:=ho.rv.openBoard;have HR:=zh ho.rv;replace E:=zh (E.out.tr he);clear ho he)
 obtain⟨B,hB⟩:∃ B,B=w2.heap.size:=⟨_,rfl⟩;refine zA1 (fun u=>Ext w2 u/\Bk u B [.slice b0 y.Boxes.length d0,.slice b1 y.Wires.length d1] 26) ⟨(zr _).alloc _,by rw[hB];exact Bk.new _ _ _⟩ ?_
 rw[<- hB];rintro W3 ⟨eb,kb⟩;clear hB;have EB:=zh (E.out.tr eb);replace HV:=zh (HV.out.ext EB.out);replace KA:=zh (KA.out.ext EB.out);replace s0:=zh (s0.out.ext EB.out);replace s1:=zh (s1.out.ext EB.out);replace HR:=zh (HR.out.ext eb);replace t0:=zh (t0.out.ext eb);replace HE:=zh (HE.out.tr EB.out);have KB:=zh kb;clear eb kb EB E;have E:=zh (zr W3);clear fa0 fa1 faL;obtain⟨ga0,ga1,gaL⟩:=Bk.j2 (KA.out.ext E.out);obtain⟨gb0,gb1,gbL⟩:=Bk.j2 (KB.out.ext E.out)
 go_region_held3 (fun u=>u.cell? ⟨A,0,none⟩=some (.slice p0 x.Boxes.length q0)/\u.cell? ⟨A,1,none⟩=some (.slice p1 x.Wires.length q1)/\u.cell? ⟨B,0,none⟩=some (.slice b0 y.Boxes.length d0)/\u.cell? ⟨B,1,none⟩=some (.slice b1 y.Wires.length d1))
  (go_keep)
  (first
   | (go_at_call 18;refine(CS.out _ _ (HV.out.ext E.out.drew)).mono ?_;rintro e wa ⟨v4,rfl,ho,he⟩;replace E:=zh (E.out.drew.tr he);have HR4:=zh ho.rv;clear ho;obtain⟨r0a0,r0a1,r0aL⟩:=Bk.j2 (KA.out.ext E.out);obtain⟨r0b0,r0b1,r0bL⟩:=Bk.j2 (KB.out.ext E.out);clear he)
   | (go_at_call 8;refine(law_sameBoard _ _ y _ (HR.out.ext E.out) HR4.out).mono ?_;rintro e wb ⟨rfl,he⟩;replace E:=zh (E.out.tr he);obtain⟨r1a0,r1a1,r1aL⟩:=Bk.j2 (KA.out.ext E.out);obtain⟨r1b0,r1b1,r1bL⟩:=Bk.j2 (KB.out.ext E.out);clear he;clear r0a0 r0a1 r0b0 r0b1 r0aL r0bL))
 clear ga0 ga1 gb0 gb1 gaL gbL;clear CI CS;by_cases hy0:0 < y.Boxes.length
 case neg =>
  have hb0:((y.Boxes.length:Int) == 0)=true:=by rw[show y.Boxes.length=0 by omega];rfl
  obtain⟨ha0,ha1,haL⟩:=Bk.j2 (KB.out.ext E.out);go_wp2_with (go_at_call 11;refine(law_alive _).mono ?_;rintro e w9 ⟨rfl,he⟩;replace E:=zh (E.out.tr he);clear he)
  go_ret;exact⟨rfl,HE.out.tr E.out⟩
 have hb0:((y.Boxes.length:Int) == 0)=false:=by rw[beq_eq_false_iff_ne];omega
 obtain⟨hyv,hyl,hzl,hall⟩:=M.frB_all (x:=x) (by rw[HY.out];exact hy0)
 rw[HY.out] at hyv hyl hall;obtain⟨z,hz⟩:∃ z,zGg ⟨x.Boxes,[]⟩=z:=⟨_,rfl⟩;rw[hz] at hzl hall;have CZ:=zh (fun(v:Value) (u:World) (h:Rv u v (⟨x.Boxes,[]⟩:Board))=>zO1 v _ u h)
 rw[hz] at CZ;have HYV:=zh hyv;have HALL:=zh hall;have hyl1:x.Boxes.length<=y.Boxes.length:=by omega
 have hzl1:x.Boxes.length<=z.Boxes.length:=by omega
 have hzl2:z.Boxes.length<=1000000:=by omega
 have HPL:=zh (Rv.mkBoard (x:=⟨x.Boxes,[]⟩) s0.out (⟨[],none,0,rfl,Nat.le_refl _,Nat.zero_le _,.inl ⟨rfl,rfl⟩⟩:Rs W3 (.slice none 0 0) []));clear hyv hyl hzl hall hz HY;obtain⟨ha0,ha1,haL⟩:=Bk.j2 (KA.out.ext E.out);obtain⟨hb0,hb1,hbL⟩:=Bk.j2 (KB.out.ext E.out);go_upto_region 10 with (go_at_call 17;refine(CZ.out _ _ (HPL.out.ext E.out)).mono ?_;rintro e w6 ⟨v6,rfl,ho,he⟩;obtain⟨z0,e0,z1,e1,rfl,u0,-⟩:=ho.rv.openBoard;replace E:=zh (E.out.tr he);clear ho he CZ HPL)
 clear ha0 ha1 hb0 hb1 haL hbL;obtain⟨C,hC⟩:∃ B,B=w6.heap.size:=⟨_,rfl⟩;refine zA1 (fun u=>Ext w6 u/\Bk u C [.slice z0 z.Boxes.length e0,.slice z1 z.Wires.length e1] 26) ⟨(zr _).alloc _,by rw[hC];exact Bk.new _ _ _⟩ ?_
 rw[<- hC];rintro W5 ⟨eb,kb⟩;clear hC;have EB:=zh (E.out.tr eb);replace HV:=zh (HV.out.ext EB.out);replace HR:=zh (HR.out.ext EB.out);replace KA:=zh (KA.out.ext EB.out);replace KB:=zh (KB.out.ext EB.out);replace s0:=zh (s0.out.ext EB.out);replace t0:=zh (t0.out.ext EB.out);replace u0:=zh (u0.out.ext eb);replace HE:=zh (HE.out.tr EB.out);have KC:=zh kb;clear eb kb EB E;have E:=zh (zr W5);obtain⟨ia0,ia1,iaL⟩:=Bk.j2 (KA.out.ext E.out);obtain⟨ib0,ib1,ibL⟩:=Bk.j2 (KB.out.ext E.out);obtain⟨ic0,ic1,icL⟩:=Bk.j2 (KC.out.ext E.out);go_wp2;go_loopw [6] (fun i wr => ∃ k:Nat,k<=x.Boxes.length/\i = .int .i64 k/\Ext W5 wr) (fun i _=>x.Boxes.length - (intOf i).toNat)
 case atStart=>exact⟨0,Nat.zero_le _,rfl,E.out⟩
 case round =>
  obtain⟨k,hk,rfl,er⟩:=hrel;replace E:=zh er;clear er ia0 ia1 ib0 ib1 ic0 ic1 iaL ibL icL;by_cases hkt:k < x.Boxes.length
  ·have hky:k < y.Boxes.length:=by omega
   have hkz:k < z.Boxes.length:=by omega
   obtain⟨gm,om,mm,ma0,mc0,ma1,mc1,ma2,mc2,ma3,mc3,ma4,mc4,ma5,mc5,rfl,hlm,hxm,hm0,hm1,hm2,hm3,hm4,hm5,hm6,-,hSm0,-,hSm1,-,hSm2,-,hSm3,-,hSm4,-,hSm5,-,HVm⟩:=s0.out.atMachine k hkt;obtain⟨gn,on,mn,na0,nc0,na1,nc1,na2,nc2,na3,nc3,na4,nc4,na5,nc5,rfl,hln,hxn,-,-,-,-,-,-,hn6,-,-,-,-,-,-,-,-,-,-,-,-,-,-⟩:=t0.out.atMachine k hky;obtain⟨gr,oo,mr,ra0,rc0,ra1,rc1,ra2,rc2,ra3,rc3,ra4,rc4,ra5,rc5,rfl,hlr,hxr,hr0,hr1,hr2,hr3,hr4,hr5,hr6,-,hSr0,-,hSr1,-,hSr2,-,hSr3,-,hSr4,-,hSr5,-,HVr⟩:=u0.out.atMachine k hkz;obtain⟨hmv,⟨htk,hfl⟩,⟨m2,hm2,htick⟩,hr2⟩:=HALL.out k mm hxm.out;obtain rfl:mn=m2:=by have h2:=hxn.out;rw[hm2] at h2;exact(Option.some.inj h2).symm
   obtain⟨N,hN⟩:∃ N:Nat,zGe mm=N:=⟨_,rfl⟩;rw[hN] at htk hfl htick hr2;have HRR:Hid (mr=zI9 mm N):=zh (by have h2:=hxr.out;rw[hr2] at h2;exact(Option.some.inj h2).symm)
   have HMV:=zh hmv;have htk0:=hmv.tick.1;rw[htick] at hn6;have hcs:mm.Cores.length<=5:=hmv.cores5;have HSV:Hid (zCv mm.Plan.Slots (mm.Cores.length:Int)=true):=zh (by rw[hmv.nc];exact hmv.ssv)
   have HFL:Hid (zJ0 mm.Plan.Slots=N):=zh hN;clear hm2 htick hr2 hxm hxn hxr hmv hN;have gm0:=(zA0 E.out hlm).trans hm0;have gm1:=(zA0 E.out hlm).trans hm1;have gm2:=(zA0 E.out hlm).trans hm2;have gm3:=(zA0 E.out hlm).trans hm3;have gm4:=(zA0 E.out hlm).trans hm4;have gm5:=(zA0 E.out hlm).trans hm5;have gm6:=(zA0 E.out hlm).trans hm6;have glm:=zl hlm E.out.sz;have jaK:=KA.out.ext E.out;have ja0:=jaK.cell (j:=0) rfl;have jaL:=jaK.lt;clear jaK;obtain⟨D,hD⟩:∃ D,D=wr.heap.size:=⟨_,rfl⟩;go_upto_region 15 with (go_at_call 19;refine(zO2 _ mm.Plan.Slots mm.Cores.length _ (hSm2.out.ext (E.out.alloc _)) HSV.out).mono ?_;rintro e wz ⟨rfl,he⟩;rw[HFL.out];have E7:=zh ((E.out.alloc _).tr he);have KD7:=zh ((Bk.new wr [.slice ma0 mm.Plan.Parts.length mc0,.slice ma1 mm.Plan.Channels.length mc1,.slice ma2 mm.Plan.Slots.length mc2,.slice ma3 mm.Programs.length mc3,.slice ma4 mm.Cores.length mc4,.slice ma5 mm.Holds.length mc5,.int .i64 mm.Tick] 46).ext he);clear he)
   clear gm0 gm1 gm2 gm3 gm4 gm5 gm6 glm ja0 jaL;refine zA1 (fun u=>Ext W5 u/\Bk u D [.slice ma0 mm.Plan.Parts.length mc0,.slice ma1 mm.Plan.Channels.length mc1,.slice ma2 mm.Plan.Slots.length mc2,.slice ma3 mm.Programs.length mc3,.slice ma4 mm.Cores.length mc4,.slice ma5 mm.Holds.length mc5,.int .i64 mm.Tick] 46) ⟨E7.out,by rw[hD];exact KD7.out⟩ ?_
   rw[<- hD];rintro W6 ⟨e6,kD⟩;clear E7 KD7 hD;have E6:=zh e6;replace HVm:=zh (HVm.out.ext E6.out);replace HVr:=zh (HVr.out.ext E6.out);replace hSm2:=zh (hSm2.out.ext E6.out);replace KB:=zh (KB.out.ext E6.out);replace KC:=zh (KC.out.ext E6.out);have KD:=zh kD;replace hn6:=(zA0 E6.out hln).trans hn6;replace hln:=zl hln E6.out.sz;replace hr0:=(zA0 E6.out hlr).trans hr0;replace hr1:=(zA0 E6.out hlr).trans hr1;replace hr2:=(zA0 E6.out hlr).trans hr2;replace hr3:=(zA0 E6.out hlr).trans hr3;replace hr4:=(zA0 E6.out hlr).trans hr4;replace hr5:=(zA0 E6.out hlr).trans hr5;replace hr6:=(zA0 E6.out hlr).trans hr6;replace hlr:=zl hlr E6.out.sz;clear e6 kD E;have E:=zh (zr W6);have hwr:IntKind.i64.wrap (mm.Tick+(N:Int))=mm.Tick+(N:Int):=zH7 (by omega) (by omega)
   have hne:((mm.Tick+(N:Int)) != (mm.Tick+(N:Int)))=false:=by simp
   have hge:decide ((k:Int) ≥ (z.Boxes.length:Int))=false:=decide_eq_false (by omega)
   have hge2:decide ((z.Boxes.length:Int)<=(k:Int))=false:=decide_eq_false (by omega)
   have hge3:decide (z.Boxes.length<=k)=false:=decide_eq_false (by omega)
   have hge4:¬ (z.Boxes.length<=k):=by omega
   have hkzi:(k:Int) < (z.Boxes.length:Int):=by omega
   have hkyi:(k:Int) < (y.Boxes.length:Int):=by omega
   have naK:=KB.out.ext E.out;have na0:=naK.cell (j:=0) rfl;have naL:=naK.lt;clear naK;have nbK:=KC.out.ext E.out;have nb0:=nbK.cell (j:=0) rfl;have nbL:=nbK.lt;clear nbK;obtain⟨nc0,nc1,nc2,nc3,nc4,nc5,nc6,ncL⟩:=Bk.j7 (KD.out.ext E.out);have ex0:=(zA0 E.out hln).trans hn6;have ex1:=(zA0 E.out hlr).trans hr0;have ex2:=(zA0 E.out hlr).trans hr1;have ex3:=(zA0 E.out hlr).trans hr2;have ex4:=(zA0 E.out hlr).trans hr3;have ex5:=(zA0 E.out hlr).trans hr4;have ex6:=(zA0 E.out hlr).trans hr5;have ex7:=(zA0 E.out hlr).trans hr6;refine wp_region_held_drew (S:=fun u=>u.cell? ⟨B,0,none⟩=some (.slice (some ⟨gn,on,none⟩) y.Boxes.length d0)/\u.cell? ⟨C,0,none⟩=some (.slice (some ⟨gr,oo,none⟩) z.Boxes.length e0)/\u.cell? ⟨D,0,none⟩=some (.slice ma0 mm.Plan.Parts.length mc0)/\u.cell? ⟨D,1,none⟩=some (.slice ma1 mm.Plan.Channels.length mc1)/\u.cell? ⟨D,2,none⟩=some (.slice ma2 mm.Plan.Slots.length mc2)/\u.cell? ⟨D,3,none⟩=some (.slice ma3 mm.Programs.length mc3)/\u.cell? ⟨D,4,none⟩=some (.slice ma4 mm.Cores.length mc4)/\u.cell? ⟨D,5,none⟩=some (.slice ma5 mm.Holds.length mc5)/\u.cell? ⟨D,6,none⟩=some (.int .i64 mm.Tick)/\u.cell? ⟨gn,on+k*7+6,none⟩=some (.int .i64 (mm.Tick+(N:Int)))/\u.cell? ⟨gr,oo+k*7,none⟩=some (.slice ra0 mr.Plan.Parts.length rc0)/\u.cell? ⟨gr,oo+k*7+1,none⟩=some (.slice ra1 mr.Plan.Channels.length rc1)/\u.cell? ⟨gr,oo+k*7+2,none⟩=some (.slice ra2 mr.Plan.Slots.length rc2)/\u.cell? ⟨gr,oo+k*7+3,none⟩=some (.slice ra3 mr.Programs.length rc3)/\u.cell? ⟨gr,oo+k*7+4,none⟩=some (.slice ra4 mr.Cores.length rc4)/\u.cell? ⟨gr,oo+k*7+5,none⟩=some (.slice ra5 mr.Holds.length rc5)/\u.cell? ⟨gr,oo+k*7+6,none⟩=some (.int .i64 mr.Tick)) (by kernel_rfl) ?_ (fun hHeld=>?_)
   ·(try dsimp only)<;>go_keep
   refine hT 0 ?_;refine hT 1 ?_;refine hT 2 ?_;refine hT 3 ?_;refine hT 4 ?_;refine hT 5 ?_;refine hT 6 ?_;refine hT 7 ?_;refine hT 8 ?_;refine hT 9 ?_;refine hT 10 ?_;refine hT 11 ?_;refine hT 12 ?_;refine hT 13 ?_;refine hT 14 ?_;refine hT 15 ?_;refine hT 16 ?_;refine hT 17 ?_;refine hT 18 ?_;refine hT 19 ?_;refine hT 20 ?_;refine hT 21 ?_;refine hT 22 ?_;refine hT 23 ?_;refine hT 24 ?_;refine hT 25 ?_;refine hC 26 fun K hK=>?_
   go_simp;(go_at_call 21;refine(zO3 _ mm N _ (HVm.out.ext E.out.drew)).mono ?_;rintro e wa ⟨v8,rfl,ho,he⟩;replace E:=zh (E.out.drew.tr he);have HO8:=zh ho.rv;rw[<- HRR.out] at HO8;clear ho;have r0aK:=KB.out.ext E.out;have r0a0:=r0aK.cell (j:=0) rfl;have r0aL:=r0aK.lt;clear r0aK;have r0bK:=KC.out.ext E.out;have r0b0:=r0bK.cell (j:=0) rfl;have r0bL:=r0bK.lt;clear r0bK;obtain⟨r0c0,r0c1,r0c2,r0c3,r0c4,r0c5,r0c6,r0cL⟩:=Bk.j7 (KD.out.ext E.out);have r0x0:=(zA0 E.out hln).trans hn6;have r0x1:=(zA0 E.out hlr).trans hr0;have r0x2:=(zA0 E.out hlr).trans hr1;have r0x3:=(zA0 E.out hlr).trans hr2;have r0x4:=(zA0 E.out hlr).trans hr3;have r0x5:=(zA0 E.out hlr).trans hr4;have r0x6:=(zA0 E.out hlr).trans hr5;have r0x7:=(zA0 E.out hlr).trans hr6;clear he);try go_wp2_with fail
   refine hK.out _ _ ?_ (fun hHeld=>?_)
   ·(try dsimp only)<;>go_keep
   clear hK K;try simp only[Act.put,zs]
   refine hC 27 fun K hK=>?_
   go_simp;(go_at_call 20;refine(law_sameMachine _ _ mr _ (HVr.out.ext E.out) HO8.out).mono ?_;rintro e wb ⟨rfl,he⟩;replace E:=zh (E.out.tr he);have r1aK:=KB.out.ext E.out;have r1a0:=r1aK.cell (j:=0) rfl;have r1aL:=r1aK.lt;clear r1aK;have r1bK:=KC.out.ext E.out;have r1b0:=r1bK.cell (j:=0) rfl;have r1bL:=r1bK.lt;clear r1bK;obtain⟨r1c0,r1c1,r1c2,r1c3,r1c4,r1c5,r1c6,r1cL⟩:=Bk.j7 (KD.out.ext E.out);have r1x0:=(zA0 E.out hln).trans hn6;have r1x1:=(zA0 E.out hlr).trans hr0;have r1x2:=(zA0 E.out hlr).trans hr1;have r1x3:=(zA0 E.out hlr).trans hr2;have r1x4:=(zA0 E.out hlr).trans hr3;have r1x5:=(zA0 E.out hlr).trans hr4;have r1x6:=(zA0 E.out hlr).trans hr5;have r1x7:=(zA0 E.out hlr).trans hr6;clear he;clear r0a0 r0b0 r0c0 r0c1 r0c2 r0c3 r0c4 r0c5 r0c6 r0aL r0bL r0cL r0x0 r0x1 r0x2 r0x3 r0x4 r0x5 r0x6 r0x7);try go_wp2_with fail
   refine hK.out _ _ ?_ (fun hHeld=>?_)
   ·(try dsimp only)<;>go_keep
   clear hK K;try simp only[Act.put,zs]
   refine hT 28 ?_;refine hT 29 ?_;refine wpAnyH_done (by kernel_rfl) ?_ _
   go_wp2;exact⟨⟨k+1,by omega,by go_num,E6.out.tr E.out⟩,by simp[intOf];omega⟩
  obtain rfl:k=x.Boxes.length:=by omega
  obtain⟨la0,la1,laL⟩:=Bk.j2 (KA.out.ext E.out);obtain⟨lb0,lb1,lbL⟩:=Bk.j2 (KB.out.ext E.out);go_wp2_with (go_at_call 12;refine(zB6 _ y _ (HR.out.ext E.out)).mono ?_;rintro e wz ⟨rfl,he⟩;rw[HYV.out];replace E:=zh (E.out.tr he);clear he)
  go_ret;exact⟨rfl,HE.out.tr E.out⟩
end Sk
