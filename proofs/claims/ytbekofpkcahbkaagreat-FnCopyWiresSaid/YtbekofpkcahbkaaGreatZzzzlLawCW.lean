/- Contracts of functions of the given program. -/
import Derived.Test.YtbekofpkcahbkaaGreatZzzzhBdM
namespace Sk
open Go Go.Proofs Go.RowKit
set_option maxHeartbeats 8000000
set_option maxRecDepth 100000
set_option linter.unusedVariables false
set_option linter.unusedSimpArgs false
theorem zKv(v:Value)(xs:List By)(w:World)(h:Rs w v xs) :
  Calls Tryz.prog 3 #[v] w fun e w'=>e = .returned (.bool true)/\Ext w w':=by
 obtain⟨a,c,rfl,hl⟩:=h.form;have H:=zh h;clear h;by_cases hx:xs.length<=1048576
 case neg =>
  have hx2:1048576 < xs.length:=by omega
  clear hx;go_enter Tryz.func3,Tryz.ntmps3;go_wp2;go_ret;exact⟨rfl,zr w⟩
 go_enter Tryz.func3,Tryz.ntmps3;go_upto_region 4 with (go_at_call 6;refine(zG8 _ _ _ H.out).mono ?_;rintro e w1 ⟨v1,x,rfl,hv,htt,he⟩;obtain⟨p0,q0,p1,q1,rfl,s0,-,s1,-⟩:=hv.openBoard;have HV:=zh hv;have HTT:=zh htt;have HE:=zh he;clear hv htt he)
 obtain⟨A,hA⟩:∃ A,A=w1.heap.size:=⟨_,rfl⟩;refine zA1 (fun u=>Ext w1 u/\Bk u A [.slice p0 x.Boxes.length q0,.slice p1 x.Wires.length q1] 26) ⟨(zr _).alloc _,by rw[hA];exact Bk.new _ _ _⟩ ?_
 rw[<- hA];rintro W1 ⟨e1,kA⟩;clear hA H;replace HV:=zh (HV.out.ext e1);replace s0:=zh (s0.out.ext e1);replace s1:=zh (s1.out.ext e1);replace HE:=zh (HE.out.tr e1);have KA:=zh kA;clear e1 kA;have E:=zh (zr W1);have ht9:GT.tot x=GT.tot x.Boxes+GT.tot x.Wires:=rfl;have hxb:x.Boxes.length<=1000000:=by have:=zAk (xs:=x.Boxes);have:=HTT.out;omega
 have hxw:x.Wires.length<=1000000:=by have:=zAk (xs:=x.Wires);have:=HTT.out;omega
 clear ht9;obtain⟨y,hy⟩:∃ y,zCj x=y:=⟨_,rfl⟩;have CI:=zh (fun(v:Value) (u:World) (h:Rv u v x)=>zJ3 v x u h)
 have CS:=zh (fun(v:Value) (u:World) (h:Rv u v x)=>zFf v x u h)
 rw[hy] at CI CS;have HY:=zh hy;clear hy;obtain⟨fa0,fa1,faL⟩:=Bk.j2 (KA.out.ext E.out);go_upto_region 5 with (go_at_call 7;refine(CI.out _ _ HV.out).mono ?_;rintro e w2 ⟨v2,rfl,ho,he⟩;obtain⟨b0,d0,b1,d1,rfl,t0,-⟩:=ho.rv.openBoard;have HR:=zh ho.rv;replace E:=zh (E.out.tr he);clear ho he)
 obtain⟨B,hB⟩:∃ B,B=w2.heap.size:=⟨_,rfl⟩;refine zA1 (fun u=>Ext w2 u/\Bk u B [.slice b0 y.Boxes.length d0,.slice b1 y.Wires.length d1] 26) ⟨(zr _).alloc _,by rw[hB];exact Bk.new _ _ _⟩ ?_
 rw[<- hB];rintro W3 ⟨eb,kb⟩;clear hB;have EB:=zh (E.out.tr eb);replace HV:=zh (HV.out.ext EB.out);replace KA:=zh (KA.out.ext EB.out);replace s0:=zh (s0.out.ext EB.out);replace s1:=zh (s1.out.ext EB.out);replace HR:=zh (HR.out.ext eb);replace t0:=zh (t0.out.ext eb);replace HE:=zh (HE.out.tr EB.out);have KB:=zh kb;clear eb kb EB E;have E:=zh (zr W3);clear fa0 fa1 faL;obtain⟨ga0,ga1,gaL⟩:=Bk.j2 (KA.out.ext E.out);obtain⟨gb0,gb1,gbL⟩:=Bk.j2 (KB.out.ext E.out)
 go_region_held3 (fun u=>u.cell? ⟨A,0,none⟩=some (.slice p0 x.Boxes.length q0)/\u.cell? ⟨A,1,none⟩=some (.slice p1 x.Wires.length q1)/\u.cell? ⟨B,0,none⟩=some (.slice b0 y.Boxes.length d0)/\u.cell? ⟨B,1,none⟩=some (.slice b1 y.Wires.length d1))
  (go_keep)
  (first
   | (go_at_call 9;refine(CS.out _ _ (HV.out.ext E.out.drew)).mono ?_;rintro e wa ⟨v4,rfl,ho,he⟩;replace E:=zh (E.out.drew.tr he);have HR4:=zh ho.rv;clear ho;obtain⟨r0a0,r0a1,r0aL⟩:=Bk.j2 (KA.out.ext E.out);obtain⟨r0b0,r0b1,r0bL⟩:=Bk.j2 (KB.out.ext E.out);clear he)
   | (go_at_call 8;refine(law_sameBoard _ _ y _ (HR.out.ext E.out) HR4.out).mono ?_;rintro e wb ⟨rfl,he⟩;replace E:=zh (E.out.tr he);obtain⟨r1a0,r1a1,r1aL⟩:=Bk.j2 (KA.out.ext E.out);obtain⟨r1b0,r1b1,r1bL⟩:=Bk.j2 (KB.out.ext E.out);clear he;clear r0a0 r0a1 r0b0 r0b1 r0aL r0bL))
 clear ga0 ga1 gb0 gb1 gaL gbL;clear CI CS;obtain⟨bv,hbv⟩:∃ q,zE2 x=q:=⟨_,rfl⟩;obtain⟨ha0,ha1,haL⟩:=Bk.j2 (KA.out.ext E.out);obtain⟨hb0,hb1,hbL⟩:=Bk.j2 (KB.out.ext E.out);cases bv
 ·have hyz:y.Boxes.length=0:=by rw[<- HY.out,zE3 hbv];rfl
  have hb0:((y.Boxes.length:Int) == 0)=true:=by rw[hyz];rfl
  clear hyz
  go_wp2_with (first
   | (go_at_call 10;refine(zAp _ x _ (HV.out.ext E.out)).mono ?_;rintro e wz ⟨rfl,he⟩;rw[hbv];replace E:=zh (E.out.tr he);clear he;obtain⟨ua0,ua1,uaL⟩:=Bk.j2 (KA.out.ext E.out);obtain⟨ub0,ub1,ubL⟩:=Bk.j2 (KB.out.ext E.out))
   | (go_at_call 11;refine(law_alive _).mono ?_;rintro e w9 ⟨rfl,he⟩;replace E:=zh (E.out.tr he);clear he))
  go_ret;exact⟨rfl,HE.out.tr E.out⟩
 have HCW:Hid (M.CW x y):=zh (by rw[<- HY.out];exact M.CW.of hbv)
 have hnw:=HCW.out.nw;have hnb:=HCW.out.nb;have hham:=HCW.out.ham;go_upto_region 9 with (go_at_call 10;refine(zAp _ x _ (HV.out.ext E.out)).mono ?_;rintro e wz ⟨rfl,he⟩;rw[hbv];replace E:=zh (E.out.tr he);clear he;obtain⟨ua0,ua1,uaL⟩:=Bk.j2 (KA.out.ext E.out);obtain⟨ub0,ub1,ubL⟩:=Bk.j2 (KB.out.ext E.out))
 clear hbv HY;go_wp2;go_loopw [6] (fun i wr => ∃ k:Nat,k<=x.Wires.length/\i = .int .i64 k/\Ext W3 wr) (fun i _=>x.Wires.length - (intOf i).toNat)
 case atStart=>exact⟨0,Nat.zero_le _,rfl,E.out⟩
 case round =>
  obtain⟨k,hk,rfl,er⟩:=hrel;replace E:=zh er;clear er ua0 ua1 ub0 ub1 uaL ubL ha0 ha1 hb0 hb1 haL hbL;by_cases hkt:k < x.Wires.length
  ·obtain⟨gw,ow,v,rfl,hlw,hxv,w0,w1,w2,w3,w4,w5,-,-,-,-,-,-,-⟩:=s1.out.atWire k hkt;obtain⟨X,Y,Z,X2,Y2,Z2,m,m2,c,c2,⟨e1,e2,e3⟩,⟨f1,f2,f3⟩,hm,hc,hm2,hc2,hzz,hz1,hz2⟩:=HCW.out.wire k v hxv.out;rw[e1] at w0;rw[e2] at w1;rw[e3] at w2;rw[f1] at w3;rw[f2] at w4;rw[f3] at w5;clear e1 e2 e3 f1 f2 f3 hxv;have hX:=zA3 hm;have hY:=zA3 hc;have hX2:=zA3 hm2;have hY2:=zA3 hc2;obtain⟨gm,om,mm,ma0,mc0,ma1,mc1,ma2,mc2,ma3,mc3,ma4,mc4,ma5,mc5,rfl,hlm,hxm,-,-,-,-,hm4,-,-,-,-,-,-,-,-,-,-,-,hSm,-,-,-,-⟩:=s0.out.atMachine X hX;obtain rfl:mm=m:=by have h9:=hxm.out;rw[hm] at h9;exact(Option.some.inj h9).symm
   obtain⟨gc,oc,mc,ca0,cc0,rfl,hlc,hxc,hc0,-,-,-,hSc,-,-⟩:=hSm.out.atCore Y hY;obtain rfl:mc=c:=by have h9:=hxc.out;rw[hc] at h9;exact(Option.some.inj h9).symm
   obtain⟨gi,oi,mi,rfl,hli,hxi,hi0,-⟩:=hSc.out.atInt Z hz1;obtain⟨gn,on,mn,na0,nc0,na1,nc1,na2,nc2,na3,nc3,na4,nc4,na5,nc5,rfl,hln,hxn,-,-,-,-,hn4,-,-,-,-,-,-,-,-,-,-,-,hSn,-,-,-,-⟩:=t0.out.atMachine X2 hX2;obtain rfl:mn=m2:=by have h9:=hxn.out;rw[hm2] at h9;exact(Option.some.inj h9).symm
   obtain⟨gd,od,md,da0,dc0,rfl,hld,hxd,hd0,-,-,-,hSd,-,-⟩:=hSn.out.atCore Y2 hY2;obtain rfl:md=c2:=by have h9:=hxd.out;rw[hc2] at h9;exact(Option.some.inj h9).symm
   obtain⟨gj,oj,mj,rfl,hlj,hxj,hj0,-⟩:=hSd.out.atInt Z2 hz2;obtain rfl:mi=mj:=by rw[hxi.out,hxj.out] at hzz;exact(Option.some.inj hzz).symm
   clear hm hc hm2 hc2 hzz hxm hxc hxi hxn hxd hxj hSm hSc hSn hSd;have jaK:=KA.out.ext E.out;have ja1:=jaK.cell (j:=1) rfl;have jaL:=jaK.lt;clear jaK;have g0:=(zA0 E.out hlw).trans w0;have g1:=(zA0 E.out hlw).trans w1;have g2:=(zA0 E.out hlw).trans w2;have g3:=(zA0 E.out hlw).trans w3;have g4:=(zA0 E.out hlw).trans w4;have g5:=(zA0 E.out hlw).trans w5;have gL:=zl hlw E.out.sz;go_upto_region 14 with (fail)
   clear g0 g1 g2 g3 g4 g5 gL ja1 jaL;obtain⟨D,hD⟩:∃ D,D=wr.heap.size:=⟨_,rfl⟩;refine zA1 (fun u=>Ext W3 u/\Bk u D [.int .i64 X,.int .i64 Y,.int .i64 Z,.int .i64 X2,.int .i64 Y2,.int .i64 Z2] 33) ⟨E.out.alloc _,by rw[hD];exact Bk.new _ _ _⟩ ?_
   rw[<- hD];rintro W6 ⟨e6,kD⟩;clear hD E;have E:=zh e6;obtain⟨n0,n1,n2,n3⟩:=Bk.k4 kD;have n4':=kD.cell (j:=4) rfl;have n5:=kD.cell (j:=5) rfl;have nL:=kD.lt;clear e6 kD w0 w1 w2 w3 w4 w5;have oaK:=KA.out.ext E.out;have oa0:=oaK.cell (j:=0) rfl;have oaL:=oaK.lt;clear oaK;have obK:=KB.out.ext E.out;have ob0:=obK.cell (j:=0) rfl;have obL:=obK.lt;clear obK;have om4:=(zA0 E.out hlm).trans hm4;have oc0:=(zA0 E.out hlc).trans hc0;have oi0:=(zA0 E.out hli).trans hi0;have on4:=(zA0 E.out hln).trans hn4;have od0:=(zA0 E.out hld).trans hd0;have oj0:=(zA0 E.out hlj).trans hj0;have omL:=zl hlm E.out.sz;have ocL:=zl hlc E.out.sz;have oiL:=zl hli E.out.sz;have onL:=zl hln E.out.sz;have odL:=zl hld E.out.sz;have ojL:=zl hlj E.out.sz;have hne:(mi != mi)=false:=by simp
   have hXi:(X:Int) < (x.Boxes.length:Int):=by omega
   have hX2i:(X2:Int) < (y.Boxes.length:Int):=by omega
   have hYi:(Y:Int) < (mm.Cores.length:Int):=by omega
   have hY2i:(Y2:Int) < (mn.Cores.length:Int):=by omega
   have hZi:(Z:Int) < (mc.Cells.length:Int):=by omega
   have hZ2i:(Z2:Int) < (md.Cells.length:Int):=by omega
   go_big_quiet (fail)
   go_wp2;exact⟨⟨k+1,by omega,by go_num,E.out.drewN _⟩,by simp[intOf];omega⟩
  obtain rfl:k=x.Wires.length:=by omega
  obtain⟨qa0,qa1,qaL⟩:=Bk.j2 (KA.out.ext E.out);obtain⟨qb0,qb1,qbL⟩:=Bk.j2 (KB.out.ext E.out);go_wp2;go_loopw [5,8] (fun ch iv wr => ∃ i:Nat,i<=x.Boxes.length/\iv = .int .i64 i/\ch = .int .i64 ((zBe (x.Boxes.take i) (y.Boxes.take i):Nat):Int)/\Ext W3 wr) (fun _ iv _=>x.Boxes.length - (intOf iv).toNat)
  case atStart=>exact⟨0,Nat.zero_le _,rfl,rfl,E.out⟩
  case round =>
   obtain⟨i,hi,rfl,rfl,er⟩:=hrel;obtain⟨wo,rfl⟩:∃ wo,wo=wr:=⟨_,rfl⟩;replace E:=zh er;clear er qa0 qa1 qb0 qb1 qaL qbL
   generalize hcb:zBe (x.Boxes.take i) (y.Boxes.take i)=cb
   by_cases hit:i < x.Boxes.length
   ·obtain⟨m,hm⟩:∃ m,x.Boxes[i]? = some m:=⟨_,List.getElem?_eq_getElem hit⟩;obtain⟨hmc,m2,hm2,hco⟩:=HCW.out.box i m hm;have hi2:=zA3 hm2;obtain⟨gm,om,mm,ma0,mc0,ma1,mc1,ma2,mc2,ma3,mc3,ma4,mc4,ma5,mc5,rfl,hlm,hxm,-,-,-,-,hm4,-,-,-,-,-,-,-,-,-,-,-,hSm,-,-,-,-⟩:=s0.out.atMachine i hit;obtain rfl:mm=m:=by have h9:=hxm.out;rw[hm] at h9;exact(Option.some.inj h9).symm
    obtain⟨gn,on,mn,na0,nc0,na1,nc1,na2,nc2,na3,nc3,na4,nc4,na5,nc5,rfl,hln,hxn,-,-,-,-,hn4,-,-,-,-,-,-,-,-,-,-,-,hSn,-,-,-,-⟩:=t0.out.atMachine i hi2;obtain rfl:mn=m2:=by have h9:=hxn.out;rw[hm2] at h9;exact(Option.some.inj h9).symm
    have hct:zBe (x.Boxes.take (i+1)) (y.Boxes.take (i+1))=cb+zB5 mm.Cores mn.Cores:=by rw[zLg hm hm2,hcb]
    have hcb6:cb+zB5 mm.Cores mn.Cores<=6:=by rw[<- hct];exact Nat.le_trans (zFa _ _ _) (by omega)
    have HCT:=zh hct;have HCO:=zh hco;have hii:(i:Int) < (x.Boxes.length:Int):=by omega
    have hii2:(i:Int) < (y.Boxes.length:Int):=by omega
    clear hm hm2 hxm hxn hct hco hcb;have raK:=KA.out.ext E.out;have ra0:=raK.cell (j:=0) rfl;have raL:=raK.lt;clear raK;have rbK:=KB.out.ext E.out;have rb0:=rbK.cell (j:=0) rfl;have rbL:=rbK.lt;clear rbK;have rm4:=(zA0 E.out hlm).trans hm4;have rn4:=(zA0 E.out hln).trans hn4;have rmL:=zl hlm E.out.sz;have rnL:=zl hln E.out.sz;go_wp2;go_loopw [5,9] (fun ch jv wr => ∃ j:Nat,j<=mm.Cores.length/\jv = .int .i64 j/\ch = .int .i64 ((cb+zB5 (mm.Cores.take j) (mn.Cores.take j):Nat):Int)/\Ext W3 wr) (fun _ jv _=>mm.Cores.length - (intOf jv).toNat)
    case atStart=>exact⟨0,Nat.zero_le _,rfl,rfl,E.out⟩
    case round =>
     obtain⟨j,hj,rfl,rfl,er⟩:=hrel;obtain⟨wp,rfl⟩:∃ wp,wp=wr:=⟨_,rfl⟩;replace E:=zh er;clear er ra0 rb0 raL rbL rm4 rn4 rmL rnL
     generalize hcd:cb+zB5 (mm.Cores.take j) (mn.Cores.take j)=cd
     by_cases hjt:j < mm.Cores.length
     ·obtain⟨c,hc⟩:∃ c,mm.Cores[j]? = some c:=⟨_,List.getElem?_eq_getElem hjt⟩;obtain⟨hcc,c2,hc2,hcl⟩:=HCO.out j c hc;have hj2:=zA3 hc2;obtain⟨gc,oc,mc,ca0,cc0,rfl,hlc,hxc,hc0,-,-,-,hSc,-,-⟩:=hSm.out.atCore j hjt;obtain rfl:mc=c:=by have h9:=hxc.out;rw[hc] at h9;exact(Option.some.inj h9).symm
      obtain⟨gd,od,md,da0,dc0,rfl,hld,hxd,hd0,-,-,-,hSd,-,-⟩:=hSn.out.atCore j hj2;obtain rfl:md=c2:=by have h9:=hxd.out;rw[hc2] at h9;exact(Option.some.inj h9).symm
      have hjj:cb+zB5 (mm.Cores.take (j+1)) (mn.Cores.take (j+1))=cd+zCi mc.Cells md.Cells:=by rw[zLe hc hc2,<- hcd];omega
      have hcd6:cd+zCi mc.Cells md.Cells<=6:=by
       rw[<- hjj]
       have:=zJ1 mm.Cores mn.Cores (j+1)
       omega
      have HJJ:=zh hjj;have HCL:=zh hcl;have hml1:mc.Cells.length<=md.Cells.length:=by omega
      have hml2:md.Cells.length<=mc.Cells.length:=by omega
      have hji:(j:Int) < (mm.Cores.length:Int):=by omega
      have hji2:(j:Int) < (mn.Cores.length:Int):=by omega
      clear hc hc2 hxc hxd hjj hcd hcl;have saK:=KA.out.ext E.out;have sa0:=saK.cell (j:=0) rfl;have saL:=saK.lt;clear saK;have sbK:=KB.out.ext E.out;have sb0:=sbK.cell (j:=0) rfl;have sbL:=sbK.lt;clear sbK;have sm4:=(zA0 E.out hlm).trans hm4;have sn4:=(zA0 E.out hln).trans hn4;have sc0:=(zA0 E.out hlc).trans hc0;have sd0:=(zA0 E.out hld).trans hd0;have smL:=zl hlm E.out.sz;have snL:=zl hln E.out.sz;have scL:=zl hlc E.out.sz;have sdL:=zl hld E.out.sz;go_wp2;go_loopw [5,10] (fun ch kv wr => ∃ k:Nat,k<=mc.Cells.length/\kv = .int .i64 k/\ch = .int .i64 ((cd+zCi (mc.Cells.take k) (md.Cells.take k):Nat):Int)/\Ext W3 wr) (fun _ kv _=>mc.Cells.length - (intOf kv).toNat)
      case atStart=>exact⟨0,Nat.zero_le _,rfl,rfl,E.out⟩
      case round =>
       obtain⟨k,hk,rfl,rfl,er⟩:=hrel;replace E:=zh er;clear er sa0 sb0 saL sbL sm4 sn4 sc0 sd0 smL snL scL sdL
       generalize hcq:cd+zCi (mc.Cells.take k) (md.Cells.take k)=cq
       by_cases hkt:k < mc.Cells.length
       ·have hk2:k < md.Cells.length:=by omega
        obtain⟨gi,oi,mi,rfl,hli,hxi,hi0,-⟩:=hSc.out.atInt k hkt;obtain⟨gj,oj,mj,rfl,hlj,hxj,hj0,-⟩:=hSd.out.atInt k hk2;have hkk:=zMq hxi.out hxj.out;have hq6:cq<=6:=by have:=zJu mc.Cells md.Cells k;omega
        have HKK:Hid (cd+zCi (mc.Cells.take (k+1)) (md.Cells.take (k+1))=cq+(if mi=mj then 0 else 1)):=zh (by rw[hkk,<- hcq];omega)
        have hki:(k:Int) < (mc.Cells.length:Int):=by omega
        have hki2:(k:Int) < (md.Cells.length:Int):=by omega
        clear hkk hcq hxi hxj;have vaK:=KA.out.ext E.out;have va0:=vaK.cell (j:=0) rfl;have vaL:=vaK.lt;clear vaK;have vbK:=KB.out.ext E.out;have vb0:=vbK.cell (j:=0) rfl;have vbL:=vbK.lt;clear vbK;have vm4:=(zA0 E.out hlm).trans hm4;have vn4:=(zA0 E.out hln).trans hn4;have vc0:=(zA0 E.out hlc).trans hc0;have vd0:=(zA0 E.out hld).trans hd0;have vi0:=(zA0 E.out hli).trans hi0;have vj0:=(zA0 E.out hlj).trans hj0;have vmL:=zl hlm E.out.sz;have vnL:=zl hln E.out.sz;have vcL:=zl hlc E.out.sz;have vdL:=zl hld E.out.sz;have viL:=zl hli E.out.sz;have vjL:=zl hlj E.out.sz;by_cases hmm:mi=mj
        ·have hne:(mj != mi)=false:=by rw[hmm];simp
         have HK2:Hid (cd+zCi (mc.Cells.take (k+1)) (md.Cells.take (k+1))=cq):=zh (by rw[HKK.out,if_pos hmm];rfl)
         clear hmm HKK;go_wp2;go_big_quiet (fail)
         go_wp2;exact⟨⟨k+1,by omega,by go_num,by rw[HK2.out],E.out.drewN _⟩,by simp[intOf];omega⟩
        ·have hne:(mj != mi)=true:=by simpa using fun e:mj=mi=>hmm e.symm
         have HK2:Hid (cd+zCi (mc.Cells.take (k+1)) (md.Cells.take (k+1))=cq+1):=zh (by rw[HKK.out,if_neg hmm])
         clear hmm HKK;go_wp2;go_big_quiet (fail)
         go_wp2;exact⟨⟨k+1,by omega,by go_num,by rw[HK2.out];go_num,E.out.drewN _⟩,by simp[intOf];omega⟩
       ·obtain rfl:k=mc.Cells.length:=by omega
        have HQ:Hid (cb+zB5 (mm.Cores.take (j+1)) (mn.Cores.take (j+1))=cq):=zh (by rw[HJJ.out,<- hcq,List.take_of_length_le (Nat.le_refl _),List.take_of_length_le hml2])
        clear hcq;have saK:=KA.out.ext E.out;have sa0:=saK.cell (j:=0) rfl;have saL:=saK.lt;clear saK;have sbK:=KB.out.ext E.out;have sb0:=sbK.cell (j:=0) rfl;have sbL:=sbK.lt;clear sbK;have sm4:=(zA0 E.out hlm).trans hm4;have sn4:=(zA0 E.out hln).trans hn4;have sc0:=(zA0 E.out hlc).trans hc0;have sd0:=(zA0 E.out hld).trans hd0;have smL:=zl hlm E.out.sz;have snL:=zl hln E.out.sz;have scL:=zl hlc E.out.sz;have sdL:=zl hld E.out.sz;go_wp2;exact⟨⟨j+1,by omega,by go_num,by rw[HQ.out],E.out⟩,by simp[intOf];omega⟩
     ·obtain rfl:j=mm.Cores.length:=by omega
      have hmn:mn.Cores.length<=mm.Cores.length\/True:=.inr trivial;have HQ:Hid (zBe (x.Boxes.take (i+1)) (y.Boxes.take (i+1))=cd):=zh (by rw[HCT.out,<- hcd,zLc])
      clear hcd hmn;have raK:=KA.out.ext E.out;have ra0:=raK.cell (j:=0) rfl;have raL:=raK.lt;clear raK;have rbK:=KB.out.ext E.out;have rb0:=rbK.cell (j:=0) rfl;have rbL:=rbK.lt;clear rbK;have rm4:=(zA0 E.out hlm).trans hm4;have rn4:=(zA0 E.out hln).trans hn4;have rmL:=zl hlm E.out.sz;have rnL:=zl hln E.out.sz;go_wp2;exact⟨⟨i+1,by omega,by go_num,by rw[HQ.out],E.out⟩,by simp[intOf];omega⟩
   ·obtain rfl:i=x.Boxes.length:=by omega
    have hcb6:cb<=x.Wires.length:=by rw[<- hcb];exact Nat.le_trans (zFa _ _ _) hham
    have hle:decide ((cb:Int)<=(x.Wires.length:Int))=true:=decide_eq_true (by omega)
    have hle2:decide (cb<=x.Wires.length)=true:=decide_eq_true hcb6;have HBV:=zh HCW.out.bv;clear hcb;obtain⟨qa0,qa1,qaL⟩:=Bk.j2 (KA.out.ext E.out);obtain⟨qb0,qb1,qbL⟩:=Bk.j2 (KB.out.ext E.out);go_wp2_with (go_at_call 12;refine(zB6 _ y _ (HR.out.ext E.out)).mono ?_;rintro e wz ⟨rfl,he⟩;rw[HBV.out];replace E:=zh (E.out.tr he);clear he)
    go_ret;exact⟨rfl,HE.out.tr E.out⟩
end Sk
