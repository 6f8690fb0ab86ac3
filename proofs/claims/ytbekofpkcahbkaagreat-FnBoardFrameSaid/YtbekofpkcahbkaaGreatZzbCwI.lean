/- Contracts of functions of the given program. -/
import Derived.Test.YtbekofpkcahbkaaGreatZyBdT
namespace Sk
open Go Go.Proofs Go.RowKit
set_option maxHeartbeats 4000000
set_option maxRecDepth 100000
set_option linter.unusedVariables false
set_option linter.unusedSimpArgs false
theorem zFe(v:Value)(x:Board)(w:World)(h:Rv w v x)(hv:zGd x) :
  Calls Tryz.prog 24 #[v] w fun e w' => ∃ v',e = .returned v'/\Ov w.heap.size w' v' (zJt x)/\Ext w w':=by
 obtain⟨a0,c0,a1,c1,rfl,h0,l0,h1,l1⟩:=h.openBoard;clear h;have HV:=zh hv;have HN:Hid (∀ m∈x.Boxes,GT.tot m<=1048576):=zh fun m hm=>Nat.le_trans (zC0 (hv.box m hm)) (by omega)
 have hb3:=hv.nb;have hw6:=hv.nw;clear hv;go_enter Tryz.func24,Tryz.ntmps24;go_upto_region 1 with (fail)
 refine zA1 (fun W=>Ext w W/\Bk W w.heap.size [.slice a0 x.Boxes.length c0,.slice a1 x.Wires.length c1] 26/\Bk W (w.heap.size+1) [.slice none 0 0,.slice none 0 0] 26) ⟨((zr _).alloc _).alloc _,(Bk.new _ _ _).ext ((zr _).alloc _),Bk.new1 _ _ _ _⟩ ?_
 rintro W ⟨e1,kA,kB⟩;have E:=zh e1;have KA:=zh kA;have KB:=zh kB;obtain⟨d0,d1⟩:=Bk.k2 kA;have LTB:=zh kB.lt;clear e1 kA kB;go_upto_region 2 with (go_at_call 37;refine(zCm _ x _ (Rv.mkBoard (h0.out.ext E.out) (h1.out.ext E.out)) HN.out (by omega) (by omega)).mono ?_;rintro e w1 ⟨v1,rfl,hov,he⟩;obtain⟨p0,q0,p1,q1,F1,rfl,hen,how⟩:=hov.openBd;have E1:=zh he;have HEN:=zh hen;have HOW:=zh how;clear hen how he hov)
 refine zA1 (fun u=>Ext w1 u/\Bk u w1.heap.size [.slice p0 x.Boxes.length q0,.slice p1 x.Wires.length q1] 26) ⟨(zr _).alloc _,Bk.new _ _ _⟩ ?_
 rintro W2 ⟨e2,k2⟩;have OM0:Hid (Om W.heap.size W2 w1.heap.size 0 (Board.mk (zD3 x 0) x.Wires) F1):=zh (Om.ofBkO (x:=x) (GT.ext HEN.out e2) (HOW.out.ext e2) k2 E1.out.sz (fun hm=>by have:=HOW.out.lt hm;omega))
 have E2:=zh (E1.out.tr e2);have f1:=(KA.out.ext E2.out).cell (j:=1) rfl
 generalize w1.heap.size=B at *
 clear e2 k2 HEN HOW d0 d1;go_wp2;go_loopw [11] (fun i wr => ∃ (k:Nat) (F:List Nat),k<=x.Wires.length/\i = .int .i64 k/\Ext W wr/\Om W.heap.size wr B 0 (Board.mk (zD3 x k) x.Wires) F) (fun i _=>x.Wires.length - (intOf i).toNat)
 case atStart=>exact⟨0,F1,Nat.zero_le _,rfl,E2.out,OM0.out⟩
 case round =>
  obtain⟨k,Fk,hk,rfl,er,om⟩:=hrel;have ER:=zh er;have OMk:=zh om;clear er om;by_cases hkt:k < x.Wires.length
  ·obtain⟨bw,ow,v,rfl,hbw,hxv,j0,j1,j2,j3,j4,j5,jr0,jr1,jr2,jr3,jr4,jr5,-⟩:=(h1.out.ext (E.out.tr ER.out)).atWire k hkt;obtain⟨X,Y,Z,m,c,e1,e2,e3,hm,hc,hz,hcv,hv1,hv2⟩:=HV.out.src hxv.out;obtain⟨X',Y',Z',m',c',e4,e5,e6,hm',hc',hz',hstep⟩:=HV.out.dst hxv.out;go_upto_region 5 with (fail)
   refine zA1 (fun W=>Ext wr W/\Bk W wr.heap.size [.int .i64 X,.int .i64 Y,.int .i64 Z,.int .i64 X',.int .i64 Y',.int .i64 Z'] 33) ⟨(zr _).alloc _,Bk.new _ _ _⟩ ?_
   rintro W5 ⟨ex5,k5⟩;obtain⟨i0,i1,i2,i3,i4,i5⟩:=Bk.k6 k5;have d0:=(KA.out.ext (ER.out.tr ex5)).cell (j:=0) rfl;obtain⟨g0,s0,n0,g1,s1,n1,g2,s2,n2,y0,y1,y2,y3,yf,hL2,hn2,hput⟩:=(OMk.out.ext (ex5.tr (zr W5).drew)).bcell (x:=(Board.mk (zD3 x k) x.Wires)) hm' hc' hz';obtain⟨b9,o9,mm,aa0,cc0,aa1,cc1,aa2,cc2,aa3,cc3,aa4,cc4,aa5,cc5,rfl,hb9,hx9,-,-,-,-,q4,-,-,-,-,-,-,-,-,-,-,-,hs4,-,-,-,-⟩:=(h0.out.ext (E.out.tr (ER.out.tr ex5))).atMachine X (zA3 hm);obtain rfl:mm=m:=Option.some.inj (hx9.out.symm.trans hm);obtain⟨b8,o8,cc,wa,wc,rfl,hb8,hx8,q0,-,-,-,hs8,-,-⟩:=hs4.out.atCore Y (zA3 hc);obtain rfl:cc=c:=Option.some.inj (hx8.out.symm.trans hc);obtain⟨b7,o7,z7,rfl,hb7,hx7,q7,-⟩:=hs8.out.atInt Z hz;obtain rfl:z7=zDc x v:=Option.some.inj (hx7.out.symm.trans hcv);obtain⟨F5,om5⟩:=hput (zDc x v) ⟨by omega,by omega⟩
   rw[<- hstep] at om5;have OM5:=zh om5;have X1:=zA3 hm;have X2:=zA3 hc;have X3:=zA3 hm';have X4:=zA3 hc';have y0':W5.cell? ⟨B,0,none⟩=_:=y0;have y1':W5.cell? ⟨g0,s0+X'*7+4,none⟩=_:=y1;have y2':W5.cell? ⟨g1,s1+Y'*3,none⟩=_:=y2;have EX5:=zh (ER.out.tr (ex5.tr (zr W5).drew));have hs5:=E.out.sz;clear om5 hput hstep ex5 k5 hs4 hs8 hxv j0 j1 j2 j3 j4 j5 hcv e1 e2 e3 e4 e5 e6 hm hc hm' hc';refine zA7 30 (by kernel_rfl) (by kernel_rfl) ?_
   simp only[List.take_succ_cons,List.take_zero,List.drop_succ_cons,List.drop_zero]
   repeat (go_big_quiet_step (fail))
   refine wpQuiet_nil ?_
   change wpList _ _ _ _ _ W5.drew
   clear y0' y1' y2' y0 y1 y2 d0 i0 i1 i2 i3 i4 i5 q0 q4 q7;go_wp2;exact⟨⟨k+1,F5,by omega,by go_num,EX5.out.set (p:=⟨g2,s2+Z',none⟩) hL2 _,OM5.out⟩,by simp[intOf];omega⟩
  ·obtain rfl:k=x.Wires.length:=by omega
   obtain⟨p0,q0,p1,q1,y0,y1,hen,how,hBF⟩:=OMk.out.openBd;have bf:=OMk.out.bk.2.2.2;have ltB:=OMk.out.bk.1;have hLB:=OMk.out.bk.2.1;have KBx:=KB.out.ext ER.out;obtain⟨z0,z1⟩:=Bk.k2 KBx;have zf:=KBx.fz;have ltZ:=KBx.lt;have hs5:=E.out.sz;have hs6:=LTB.out;have hZ:w.heap.size+1 ∉ Fk:=fun hm=>by have:=(how.out.2 _ hm).1;omega
   clear KBx;obtain⟨r,hr⟩:∃ r,zJt x=r:=⟨_,rfl⟩;have hr2:Board.mk (zD3 x x.Wires.length) x.Wires=r:=hr;rw[hr2] at y0 y1 hen;have EQ:=zh hr;clear hr hr2;go_wp2;refine bodyPost_ret (v:=.agg #[.slice p0 r.Boxes.length q0,.slice p1 r.Wires.length q1]) (by simp[results,Tryz.results24,go_sem,z0,z1]) rfl ⟨_,rfl,by rw[EQ.out];exact⟨_,_,rfl,zB3 (c:=w.heap.size+1) (o:=0) (ds:=[.slice p0 r.Boxes.length q0,.slice p1 r.Wires.length q1]) hen.out hZ,((how.out.mono (by omega)).puts (b:=w.heap.size+1) (o:=0) [.slice p0 r.Boxes.length q0,.slice p1 r.Wires.length q1])⟩,?_⟩
   exact Ext.puts (b:=w.heap.size+1) (o:=0) (by omega) [.slice p0 r.Boxes.length q0,.slice p1 r.Wires.length q1] (E.out.tr ER.out)
theorem zKs(v:Value)(x:Board)(w:World)(h:Rv w v x)(hv:zGd x) :
  Calls Tryz.prog 38 #[v] w fun e w' => ∃ v',e = .returned (.tuple #[v',.bool (zC2 x)])/\Ov w.heap.size w' v' (zNc x)/\Ext w w':=by
 obtain⟨a0,c0,a1,c1,rfl,h0,l0,h1,l1⟩:=h.openBoard;clear h;have HV:=zh hv;have HN:Hid (∀ m∈x.Boxes,GT.tot m<=1048576):=zh fun m hm=>Nat.le_trans (zC0 (hv.box m hm)) (by omega)
 have hb3:=hv.nb;have hw6:=hv.nw;clear hv;go_enter Tryz.func38,Tryz.ntmps38;go_upto_region 1 with (fail)
 refine zA1 (fun W=>Ext w W/\Bk W w.heap.size [.slice a0 x.Boxes.length c0,.slice a1 x.Wires.length c1] 26/\Bk W (w.heap.size+1) [.slice none 0 0,.slice none 0 0] 26) ⟨((zr _).alloc _).alloc _,(Bk.new _ _ _).ext ((zr _).alloc _),Bk.new1 _ _ _ _⟩ ?_
 rintro W ⟨e1,kA,kB⟩;have E:=zh e1;have KA:=zh kA;have KB:=zh kB;obtain⟨d0,d1⟩:=Bk.k2 kA;have LTB:=zh kB.lt;clear e1 kA kB;go_upto_region 2 with (go_at_call 37;refine(zCm _ x _ (Rv.mkBoard (h0.out.ext E.out) (h1.out.ext E.out)) HN.out (by omega) (by omega)).mono ?_;rintro e w1 ⟨v1,rfl,hov,he⟩;obtain⟨p0,q0,p1,q1,F1,rfl,hen,how⟩:=hov.openBd;have E1:=zh he;have HEN:=zh hen;have HOW:=zh how;clear hen how he hov)
 refine zA1 (fun u=>Ext w1 u/\Bk u w1.heap.size [.slice p0 x.Boxes.length q0,.slice p1 x.Wires.length q1] 26) ⟨(zr _).alloc _,Bk.new _ _ _⟩ ?_
 rintro W2 ⟨e2,k2⟩;have OM0:Hid (Om W.heap.size W2 w1.heap.size 0 (Board.mk (zC8 x 0) x.Wires) F1):=zh (by rw[zLn];exact Om.ofBkO (x:=x) (GT.ext HEN.out e2) (HOW.out.ext e2) k2 E1.out.sz (fun hm=>by have:=HOW.out.lt hm;omega))
 have E2:=zh (E1.out.tr e2);have f0:=k2.cell (j:=0) rfl
 generalize w1.heap.size=B at *
 clear e2 k2 HEN HOW d0 d1;go_wp2;go_loopw [12] (fun i wr => ∃ (k:Nat) (F:List Nat),k<=x.Boxes.length/\i = .int .i64 k/\Ext W wr/\Om W.heap.size wr B 0 (Board.mk (zC8 x k) x.Wires) F/\∀ j m,j < k->x.Boxes[j]? = some m->m.Tick+zGe m<=100000) (fun i _=>x.Boxes.length - (intOf i).toNat)
 case atStart=>exact⟨0,F1,Nat.zero_le _,rfl,E2.out,OM0.out,fun j m hj=>by omega⟩
 case round =>
  obtain⟨k,Fk,hk,rfl,er,om,hall⟩:=hrel;have ER:=zh er;have OMk:=zh om;have HALL:=zh hall;clear er om hall;by_cases hkt:k < x.Boxes.length
  ·obtain⟨m,hm⟩:∃ m,x.Boxes[k]? = some m:=⟨_,List.getElem?_eq_getElem hkt⟩;have hmv:=HV.out.box m (List.mem_of_getElem? hm);have HMV:=zh hmv;have hfl:=zLa hmv;have hti:=hmv.tick;have HS:=zh (zKd.of hmv.ssv);have hkr:k < (zC8 x k).length:=by rw[zGk];exact hkt
   obtain⟨g,s,c,m',Fm,y0,hm',omm,-,-⟩:=OMk.out.bbox (X:=k) hkr;simp only at y0;obtain rfl:m'=m:=Option.some.inj (hm'.symm.trans (zKg hm));obtain⟨_,_,_,_,s2,n2,_,_,_,_,_,_,-,-,y2,-,-,-,y6,-,-,R2,-,-,-⟩:=omm.openMo;have ltB:=OMk.out.bk.1;have ltg:=omm.bk.1;have HR2:=zh R2;have HM:=zh hm;clear hmv R2 omm hm' hm;obtain⟨N,hN⟩:∃ N,(zAo m'.Plan.Slots).length=N:=⟨_,rfl⟩;have hN2:zGe m'=N:=hN;rw[hN2] at hfl;have HN2:=zh hN2;go_upto_region 6 with (go_at_call 44;refine(zF2 _ m'.Plan.Slots _ HR2.out HS.out.tk HS.out.len.2).mono ?_;rintro e w5 ⟨v5,rfl,hr,he⟩;obtain⟨p5,q5,rfl,-⟩:=hr.form;rw[hN];have E5:=zh he;clear hr he)
   have z0:=(zA0 E5.out ltB).trans y0;have z6:=(zA0 E5.out ltg).trans y6;have ER5:=zh (ER.out.tr E5.out);have OM5:=zh (OMk.out.ext E5.out);clear y0 y2 y6 hN hN2 ltB ltg OMk ER E5;obtain⟨t,ht⟩:∃ t,m'.Tick=t:=⟨_,rfl⟩;have HTK:=zh ht;rw[ht] at z6 hti;clear ht;by_cases hT:t+N<=100000
   ·have hgt:decide (t+(N:Int) > 100000)=false:=decide_eq_false (by omega)
    have hgt2:decide ((100000:Int) < t+(N:Int))=false:=decide_eq_false (by omega)
    have OMS:Hid (Om W.heap.size w5 B 0 (Board.mk ((zC8 x k).set k (zBd m' 0)) x.Wires) Fk):=zh (by rw[zLm HM.out];exact OM5.out)
    have HALL2:Hid (∀ j m,j < k+1->x.Boxes[j]? = some m->m.Tick+zGe m<=100000):=zh (fun j mj hj hx=>by
     by_cases e:j=k
     ·subst e;obtain rfl:mj=m':=Option.some.inj (hx.symm.trans HM.out);rw[HN2.out,HTK.out];exact hT
     ·exact HALL.out j mj (by omega) hx)
    clear HALL OM5;go_upto_region 8 with (fail)
    obtain⟨wo,rfl⟩:∃ wo,wo=wr:=⟨_,rfl⟩;go_wp2;go_loopw [35] (fun i wr => ∃ (j:Nat) (F:List Nat),j<=N/\i = .int .i64 j/\Ext W wr/\Om W.heap.size wr B 0 (Board.mk ((zC8 x k).set k (zBd m' j)) x.Wires) F) (fun i _=>N - (intOf i).toNat)
    case atStart=>exact⟨0,Fk,Nat.zero_le _,rfl,ER5.out,OMS.out⟩
    case round =>
     obtain⟨j,Fj,hj,rfl,er,om⟩:=hrel;have ER:=zh er;have OMj:=zh om;clear er om;by_cases hjt:j < N
     ·have hrv:=zDn HMV.out j (by rw[HTK.out];omega)
      have hkr2:k < ((zC8 x k).set k (zBd m' j)).length:=by rw[List.length_set,zGk];exact hkt
      obtain⟨g,s,c,m2,Fm,y0,hm2,omm,-,back⟩:=OMj.out.bbox (X:=k) hkr2;simp only at y0 hm2;obtain rfl:m2=zBd m' j:=by
       rw[List.getElem?_set,if_pos rfl,if_pos (by rw[zGk];exact hkt)] at hm2
       exact(Option.some.inj hm2).symm
      have HR:=zh (zJq W.heap.size g (s+k*7) (zBd m' j) Fm wr omm ER.out.sz hrv.1 (by rw[hrv.2.1,HTK.out];omega))
      have HBK:=zh back;clear hrv omm back hm2;go_wp2_with (go_at_call 51;go_loud (refine HR.out.mono ?_;rintro e w7 ⟨rfl,F7,t7⟩;obtain⟨F8,om8,sub8,ch8⟩:=HBK.out _ _ _ t7.ch t7.om t7.sub;have OM8:=zh om8;have E8:=zh (ch8.ext ER.out OMj.out.bk.2.1 (fun y hy=>by obtain⟨_,_,_,ho⟩:=OMj.out;exact(ho.2 y (List.mem_cons_of_mem _ hy)).1));clear t7 om8 sub8 ch8))
      exact⟨⟨j+1,F8,by omega,by go_num,E8.out,by have:=OM8.out;simp only[List.set_set] at this;exact this⟩,by simp[intOf];omega⟩
     ·obtain rfl:j=N:=by omega
      have OMN:Hid (Om W.heap.size wr B 0 (Board.mk (zC8 x (k+1)) x.Wires) Fj):=zh (by rw[<- zLl HM.out,HN2.out];exact OMj.out)
      go_wp2;exact⟨⟨k+1,Fj,by omega,by go_num,ER.out,OMN.out,HALL2.out⟩,by simp[intOf];omega⟩
   ·have hgt:decide (t+(N:Int) > 100000)=true:=decide_eq_true (by omega)
    have hgt2:decide ((100000:Int) < t+(N:Int))=true:=decide_eq_true (by omega)
    have hok:Hid (zC2 x=false):=zh (by
     cases e:zC2 x
     ·rfl
     ·have:=zD6.1 e m' (List.mem_of_getElem? HM.out)
      rw[HN2.out,HTK.out] at this;exact absurd this hT)
    have KBx:=KB.out.ext ER5.out;obtain⟨z00,z01⟩:=Bk.k2 KBx;have zf:=KBx.fz;have ltZ:=KBx.lt;clear KBx;go_wp2;refine bodyPost_ret (v:=.tuple #[.agg #[.slice none 0 0,.slice none 0 0],.bool false]) (by simp[results,Tryz.results38,go_sem,z00,z01]) rfl ⟨_,by rw[hok.out],by rw[M.frO_f hok.out];exact Ov.bz _ _,((E.out.tr ER5.out).set (by simp) _).set (by simp) _⟩
  ·obtain rfl:k=x.Boxes.length:=by omega
   have hok:zC2 x=true:=zD6.2 fun m hm=>by
    obtain⟨j,hj,rfl⟩:=List.getElem_of_mem hm;exact HALL.out j _ hj (List.getElem?_eq_getElem hj)
   have HOK:=zh hok;have HBV:=zh (zEo HV.out hok);have OMF:Hid (Om W.heap.size wr B 0 (zEc x) Fk):=zh (by have:=OMk.out;rw[zMs] at this;exact this)
   obtain⟨r,hr⟩:∃ r,zEc x=r:=⟨_,rfl⟩;have hr5:zNc x=zJt r:=by rw[zNd hok,<- hr];rfl
   have EQ:=zh hr5;rw[hr] at OMF HBV;obtain⟨p0,q0,p1,q1,y0,y1,hen,how,hBF⟩:=OMF.out.openBd;clear hr hr5 hok OMk HALL;have ltB:=OMF.out.bk.1;go_wp2_with (go_at_call 24;refine(zFe _ r _ ⟨_,_,rfl,hen.out⟩ HBV.out).mono ?_;rintro e w6 ⟨v6,rfl,hov,he⟩;obtain⟨b0,n0,b1,n1,F6,rfl,hen6,how6⟩:=hov.openBd;have E6:=zh (ER.out.tr he);have HEN6:=zh hen6;have HOW6:=zh how6;have KBx:=KB.out.ext E6.out;obtain⟨z0,z1⟩:=Bk.k2 KBx;have zf:=KBx.fz;have ltZ:=KBx.lt;have hsz6:=he.sz;clear hov he hen6 how6 KBx)
   have hs5:=E.out.sz;have hs6:=LTB.out;have hs7:=ER.out.sz;have hZ:w.heap.size+1 ∉ F6:=fun hm=>by have:=(HOW6.out.2 _ hm).1;omega
   refine bodyPost_ret (v:=.tuple #[.agg #[.slice b0 (zJt r).Boxes.length n0,.slice b1 (zJt r).Wires.length n1],.bool true]) (by simp[results,Tryz.results38,go_sem,z0,z1]) rfl ⟨_,by rw[HOK.out],by rw[EQ.out];exact⟨_,_,rfl,zB3 (c:=w.heap.size+1) (o:=0) (ds:=[.slice b0 (zJt r).Boxes.length n0,.slice b1 (zJt r).Wires.length n1]) HEN6.out hZ,((HOW6.out.mono (by omega)).puts (b:=w.heap.size+1) (o:=0) [.slice b0 (zJt r).Boxes.length n0,.slice b1 (zJt r).Wires.length n1])⟩,?_⟩
   exact Ext.puts (b:=w.heap.size+1) (o:=0) (by omega) [.slice b0 (zJt r).Boxes.length n0,.slice b1 (zJt r).Wires.length n1] (E.out.tr E6.out)
theorem zCd(v:Value)(x:Board)(n:Int)(w:World)(h:Rv w v x) :
  Calls Tryz.prog 14 #[v,.int .i64 n] w fun e w' => ∃ v',e = .returned v'/\Ov w.heap.size w' v' (zAy x n)/\Ext w w':=by
 obtain⟨a0,c0,a1,c1,rfl,h0,l0,h1,l1⟩:=h.openBoard;clear h;go_enter Tryz.func14,Tryz.ntmps14;go_upto_region 1 with (fail)
 refine zA1 (fun W=>Ext w W/\Bk W w.heap.size [.slice a0 x.Boxes.length c0,.slice a1 x.Wires.length c1] 26/\Bk W (w.heap.size+1) [.slice none 0 0,.slice none 0 0] 26) ⟨((zr _).alloc _).alloc _,(Bk.new _ _ _).ext ((zr _).alloc _),Bk.new1 _ _ _ _⟩ ?_
 rintro W ⟨e1,kA,kB⟩;have E:=zh e1;have KA:=zh kA;have KB:=zh kB;obtain⟨d0,d1⟩:=Bk.k2 kA;have LTB:=zh kB.lt;clear e1 kA kB;cases g:zE2 x
 ·go_wp2_with (go_at_call 12;refine(zB6 _ x _ (Rv.mkBoard (h0.out.ext E.out) (h1.out.ext E.out))).mono ?_;rintro e w1 ⟨rfl,he⟩;rw[g];have E1:=zh (E.out.tr he);have KA1:=zh (KA.out.ext he);have KB1:=zh (KB.out.ext he);obtain⟨x0,x1⟩:=Bk.k2 KA1.out;have ltA1:=KA1.out.lt;obtain⟨z0,z1⟩:=Bk.k2 KB1.out;have zf:=KB1.out.fz;have ltZ:=KB1.out.lt;clear he)
  refine bodyPost_ret (v:=.agg #[.slice none 0 0,.slice none 0 0]) (by simp[results,Tryz.results14,go_sem,z0,z1]) rfl ⟨_,rfl,by rw[zBp (.inl g)];exact Ov.bz _ _,(E1.out.set (by simp) _).set (by simp) _⟩
 cases g1:zA8 n 0 10
 ·go_wp2_with (first
   | (go_at_call 12;refine(zB6 _ x _ (Rv.mkBoard (h0.out.ext E.out) (h1.out.ext E.out))).mono ?_;rintro e w1 ⟨rfl,he⟩;rw[g];have E1:=zh (E.out.tr he);have KA1:=zh (KA.out.ext he);have KB1:=zh (KB.out.ext he);obtain⟨x0,x1⟩:=Bk.k2 KA1.out;have ltA1:=KA1.out.lt;obtain⟨z0,z1⟩:=Bk.k2 KB1.out;have zf:=KB1.out.fz;have ltZ:=KB1.out.lt;clear he)
   | (go_at_call 36;refine(zAi _ _ _ _).mono ?_;rintro e w9 ⟨rfl,rfl⟩;rw[g1]))
  refine bodyPost_ret (v:=.agg #[.slice none 0 0,.slice none 0 0]) (by simp[results,Tryz.results14,go_sem,z0,z1]) rfl ⟨_,rfl,by rw[zBp (.inr g1)];exact Ov.bz _ _,(E1.out.set (by simp) _).set (by simp) _⟩
 obtain⟨T,rfl,hT10⟩:∃ T:Nat,n=T/\T<=10:=by have:=zA5.1 g1;exact⟨n.toNat,by omega,by omega⟩
 have hbv:=zB2.1 g;have HV:=zh hbv;have HG:=zh g;have HN:Hid (∀ m∈x.Boxes,GT.tot m<=1048576):=zh fun m hm=>Nat.le_trans (zC0 (hbv.box m hm)) (by omega)
 have hb3:=hbv.nb;have hw6:=hbv.nw;clear hbv;go_upto_region 4 with (first
  | (go_at_call 12;refine(zB6 _ x _ (Rv.mkBoard (h0.out.ext E.out) (h1.out.ext E.out))).mono ?_;rintro e w1 ⟨rfl,he⟩;rw[g];have E1:=zh (E.out.tr he);have KA1:=zh (KA.out.ext he);have KB1:=zh (KB.out.ext he);obtain⟨x0,x1⟩:=Bk.k2 KA1.out;have ltA1:=KA1.out.lt;obtain⟨z0,z1⟩:=Bk.k2 KB1.out;have zf:=KB1.out.fz;have ltZ:=KB1.out.lt;clear he)
  | (go_at_call 36;refine(zAi _ _ _ _).mono ?_;rintro e w9 ⟨rfl,rfl⟩;rw[g1])
  | (go_at_call 37;refine(zCm _ x _ (Rv.mkBoard (h0.out.ext E1.out) (h1.out.ext E1.out)) HN.out (by omega) (by omega)).mono ?_;rintro e w2 ⟨v2,rfl,hov,he⟩;obtain⟨p0,q0,p1,q1,F1,rfl,hen,how⟩:=hov.openBd;have E2:=zh he;have HEN:=zh hen;have HOW:=zh how;clear hen how he hov))
 refine zA1 (fun u=>Ext w2 u/\Bk u w2.heap.size [.slice p0 x.Boxes.length q0,.slice p1 x.Wires.length q1] 26) ⟨(zr _).alloc _,Bk.new _ _ _⟩ ?_
 rintro W2 ⟨e2,k2⟩;have BX0:Hid (Bx w1.heap.size W2 w2.heap.size x 26):=zh ⟨_,F1,k2,GT.ext HEN.out e2,HOW.out.ext e2⟩;have E3:=zh (E1.out.tr (E2.out.tr e2));have hB1:w1.heap.size<=w2.heap.size:=E2.out.sz;have hW1:=E1.out.sz;have KB3:=zh (KB1.out.ext (E2.out.tr e2));have X3:=zh (E2.out.tr e2)
 generalize w2.heap.size=B at *
 clear e2 k2 HEN HOW d0 d1 x0 x1 z0 z1 zf ltZ;go_wp2;go_loopw [20] (fun i wr => ∃ (k:Nat) (y:Board),k<=T/\i = .int .i64 k/\Ext w1 wr/\zAz x k=some y/\Bx w1.heap.size wr B y 26) (fun i _=>T - (intOf i).toNat)
 case atStart=>exact⟨0,x,Nat.zero_le _,rfl,X3.out,rfl,BX0.out⟩
 case round =>
  obtain⟨k,y,hk,rfl,er,hy,bx⟩:=hrel;obtain⟨p0,q0,p1,q1,Fk,kb,hen,how⟩:=bx.openBd;have ER:=zh er;have HY:=zh hy;have KBB:=zh kb;have HEN:=zh hen;have HOW:=zh how;obtain⟨y0,y1⟩:=Bk.k2 kb;have bf:=kb.fz;have ltB:=kb.lt;clear er kb hen how bx hy;by_cases hkt:k < T
  ·have HBV:=zh (zEx HV.out HY.out).1;obtain⟨r,hr⟩:∃ r,zNc y=r:=⟨_,rfl⟩;have HR:=zh hr;obtain⟨q,hq⟩:∃ q,zC2 y=q:=⟨_,rfl⟩;have HQ:=zh hq;go_upto_region 7 with (go_at_call 38;refine(zKs _ y _ ⟨_,Fk,rfl,HEN.out⟩ HBV.out).mono ?_;rintro e w7 ⟨v7,rfl,hov,he⟩;rw[hr] at hov;rw[hq];obtain⟨b0,n0,b1,n1,F7,rfl,hen7,how7⟩:=hov.openBd;have EX7:=zh he;have HEN7:=zh hen7;have HOW7:=zh how7;clear hov he hen7 how7)
   refine zA1 (fun u=>Ext w7 u/\Bk u w7.heap.size [.slice b0 r.Boxes.length n0,.slice b1 r.Wires.length n1] 26) ⟨(zr _).alloc _,Bk.new _ _ _⟩ ?_
   rintro W7 ⟨e7,k7⟩;have E7:=zh (EX7.out.tr e7);obtain⟨u0,u1⟩:=Bk.k2 k7;have lt7:=k7.lt;have HEN8:=zh (GT.ext HEN7.out e7);have HOW8:=zh (HOW7.out.ext e7);have KB7:=zh (KBB.out.ext E7.out);have hs7:=EX7.out.sz;clear e7 k7 hr hq y0 y1 bf HEN7 HOW7 HEN;cases q
   ·have hnone:=zH8 (n:=T) (zEk HY.out HQ.out) (by omega)
    have KBx:=KB1.out.ext (ER.out.tr E7.out);obtain⟨z0,z1⟩:=Bk.k2 KBx;have zf:=KBx.fz;have ltZ:=KBx.lt;have HNO:=zh hnone;clear KBx hnone u0 u1;go_wp2;refine bodyPost_ret (v:=.agg #[.slice none 0 0,.slice none 0 0]) (by simp[results,Tryz.results14,go_sem,z0,z1]) rfl ⟨_,rfl,by rw[zDl HNO.out];exact Ov.bz _ _,((E1.out.tr (ER.out.tr E7.out)).set (by simp) _).set (by simp) _⟩
   ·have hnext:=zEj HY.out HQ.out;rw[<- zNd HQ.out,HR.out] at hnext;have HNX:=zh hnext;have bf:=KB7.out.fz;obtain⟨y0,y1⟩:=Bk.k2 KB7.out;have ltB7:=KB7.out.lt;have hBl:B < wr.heap.size:=ltB;have hs8:=ER.out.sz;clear hnext;go_wp2;exact⟨⟨k+1,r,by omega,by go_num,Ext.puts (b:=B) (o:=0) hB1 [.slice b0 r.Boxes.length n0,.slice b1 r.Wires.length n1] (ER.out.tr E7.out),HNX.out,Bx.put (cs:=[.slice b0 r.Boxes.length n0,.slice b1 r.Wires.length n1]) KB7.out rfl HEN8.out HOW8.out (by omega) (by omega)⟩,by simp[intOf];omega⟩
  ·obtain rfl:k=T:=by omega
   have hres:=zh (zBq HG.out hT10 HY.out);have KBx:=KB1.out.ext ER.out;obtain⟨z0,z1⟩:=Bk.k2 KBx;have zf:=KBx.fz;have ltZ:=KBx.lt;have hs5:=E.out.sz;have hs6:=LTB.out;have hZ:w.heap.size+1 ∉ Fk:=fun hm=>by have:=(HOW.out.2 _ hm).1;have:=KB1.out.lt;omega
   clear KBx;go_wp2;refine bodyPost_ret (v:=.agg #[.slice p0 y.Boxes.length q0,.slice p1 y.Wires.length q1]) (by simp[results,Tryz.results14,go_sem,z0,z1]) rfl ⟨_,rfl,by rw[hres.out];exact⟨_,_,rfl,zB3 (c:=w.heap.size+1) (o:=0) (ds:=[.slice p0 y.Boxes.length q0,.slice p1 y.Wires.length q1]) HEN.out hZ,((HOW.out.mono (by omega)).puts (b:=w.heap.size+1) (o:=0) [.slice p0 y.Boxes.length q0,.slice p1 y.Wires.length q1])⟩,?_⟩
   exact Ext.puts (b:=w.heap.size+1) (o:=0) (by omega) [.slice p0 y.Boxes.length q0,.slice p1 y.Wires.length q1] (E1.out.tr ER.out)
theorem zJ3(v:Value)(x:Board)(w:World)(h:Rv w v x) :
  Calls Tryz.prog 7 #[v] w fun e w' => ∃ v',e = .returned v'/\Ov w.heap.size w' v' (zCj x)/\Ext w w':=by
 obtain⟨a0,c0,a1,c1,rfl,h0,l0,h1,l1⟩:=h.openBoard;clear h;go_enter Tryz.func7,Tryz.ntmps7;go_upto_region 1 with (fail)
 refine zA1 (fun W=>Ext w W/\Bk W w.heap.size [.slice a0 x.Boxes.length c0,.slice a1 x.Wires.length c1] 26/\Bk W (w.heap.size+1) [.slice none 0 0,.slice none 0 0] 26) ⟨((zr _).alloc _).alloc _,(Bk.new _ _ _).ext ((zr _).alloc _),Bk.new1 _ _ _ _⟩ ?_
 rintro W ⟨e1,kA,kB⟩;have E:=zh e1;have KA:=zh kA;have KB:=zh kB;obtain⟨d0,d1⟩:=Bk.k2 kA;have LTB:=zh kB.lt;clear e1 kA kB;cases g:zE2 x
 ·go_wp2_with (go_at_call 12;refine(zB6 _ x _ (Rv.mkBoard (h0.out.ext E.out) (h1.out.ext E.out))).mono ?_;rintro e w1 ⟨rfl,he⟩;rw[g];have E1:=zh (E.out.tr he);have KA1:=zh (KA.out.ext he);have KB1:=zh (KB.out.ext he);obtain⟨x0,x1⟩:=Bk.k2 KA1.out;have ltA1:=KA1.out.lt;obtain⟨z0,z1⟩:=Bk.k2 KB1.out;have zf:=KB1.out.fz;have ltZ:=KB1.out.lt;clear he)
  refine bodyPost_ret (v:=.agg #[.slice none 0 0,.slice none 0 0]) (by simp[results,Tryz.results7,go_sem,z0,z1]) rfl ⟨_,rfl,by rw[zE3 g];exact Ov.bz _ _,(E1.out.set (by simp) _).set (by simp) _⟩
 have HV:=zh (zB2.1 g);obtain⟨r,hr⟩:∃ r,zJt x=r:=⟨_,rfl⟩;have EQ:=zh ((zCy g).trans hr)
 go_wp2_with (first
  | (go_at_call 12;refine(zB6 _ x _ (Rv.mkBoard (h0.out.ext E.out) (h1.out.ext E.out))).mono ?_;rintro e w1 ⟨rfl,he⟩;rw[g];have E1:=zh (E.out.tr he);have KA1:=zh (KA.out.ext he);have KB1:=zh (KB.out.ext he);obtain⟨x0,x1⟩:=Bk.k2 KA1.out;have ltA1:=KA1.out.lt;obtain⟨z0,z1⟩:=Bk.k2 KB1.out;have zf:=KB1.out.fz;have ltZ:=KB1.out.lt;clear he)
  | (go_at_call 24;refine(zFe _ x _ (Rv.mkBoard (h0.out.ext E1.out) (h1.out.ext E1.out)) HV.out).mono ?_;rintro e w6 ⟨v6,rfl,hov,he⟩;rw[hr] at hov;obtain⟨b0,n0,b1,n1,F6,rfl,hen6,how6⟩:=hov.openBd;have E6:=zh (E1.out.tr he);have HEN6:=zh hen6;have HOW6:=zh how6;clear x0 x1 z0 z1 zf ltZ;have KBx:=KB1.out.ext he;obtain⟨z0,z1⟩:=Bk.k2 KBx;have zf:=KBx.fz;have ltZ:=KBx.lt;have hsz6:=he.sz;have hsz7:=E1.out.sz;clear hov he hen6 how6 KBx))
 have hs6:=KB1.out.lt;have hZ:w.heap.size+1 ∉ F6:=fun hm=>by have:=(HOW6.out.2 _ hm).1;omega
 refine bodyPost_ret (v:=.agg #[.slice b0 r.Boxes.length n0,.slice b1 r.Wires.length n1]) (by simp[results,Tryz.results7,go_sem,z0,z1]) rfl ⟨_,rfl,by rw[EQ.out];exact⟨_,_,rfl,zB3 (c:=w.heap.size+1) (o:=0) (ds:=[.slice b0 r.Boxes.length n0,.slice b1 r.Wires.length n1]) HEN6.out hZ,((HOW6.out.mono (by omega)).puts (b:=w.heap.size+1) (o:=0) [.slice b0 r.Boxes.length n0,.slice b1 r.Wires.length n1])⟩,?_⟩
 exact Ext.puts (b:=w.heap.size+1) (o:=0) (by omega) [.slice b0 r.Boxes.length n0,.slice b1 r.Wires.length n1] (E6.out)
theorem zO1(v:Value)(x:Board)(w:World)(h:Rv w v x) :
  Calls Tryz.prog 17 #[v] w fun e w' => ∃ v',e = .returned v'/\Ov w.heap.size w' v' (zGg x)/\Ext w w':=by
 obtain⟨a0,c0,a1,c1,rfl,h0,l0,h1,l1⟩:=h.openBoard;clear h;go_enter Tryz.func17,Tryz.ntmps17;go_upto_region 1 with (fail)
 refine zA1 (fun W=>Ext w W/\Bk W w.heap.size [.slice a0 x.Boxes.length c0,.slice a1 x.Wires.length c1] 26/\Bk W (w.heap.size+1) [.slice none 0 0,.slice none 0 0] 26) ⟨((zr _).alloc _).alloc _,(Bk.new _ _ _).ext ((zr _).alloc _),Bk.new1 _ _ _ _⟩ ?_
 rintro W ⟨e1,kA,kB⟩;have E:=zh e1;have KA:=zh kA;have KB:=zh kB;obtain⟨d0,d1⟩:=Bk.k2 kA;have LTB:=zh kB.lt;clear e1 kA kB;obtain⟨r,hr⟩:∃ r,zAy x 1=r:=⟨_,rfl⟩;have EQ:=zh ((zL6 x).symm.trans hr);go_wp2_with (go_at_call 14;refine(zCd _ x 1 _ (Rv.mkBoard (h0.out.ext E.out) (h1.out.ext E.out))).mono ?_;rintro e w6 ⟨v6,rfl,hov,he⟩;rw[hr] at hov;obtain⟨b0,n0,b1,n1,F6,rfl,hen6,how6⟩:=hov.openBd;have E6:=zh (E.out.tr he);have HEN6:=zh hen6;have HOW6:=zh how6;have KBx:=KB.out.ext he;obtain⟨z0,z1⟩:=Bk.k2 KBx;have zf:=KBx.fz;have ltZ:=KBx.lt;have hsz6:=he.sz;clear hov he hen6 how6 KBx)
 have hs5:=E.out.sz;have hs6:=LTB.out;have hZ:w.heap.size+1 ∉ F6:=fun hm=>by have:=(HOW6.out.2 _ hm).1;omega
 refine bodyPost_ret (v:=.agg #[.slice b0 r.Boxes.length n0,.slice b1 r.Wires.length n1]) (by simp[results,Tryz.results17,go_sem,z0,z1]) rfl ⟨_,rfl,by rw[EQ.out];exact⟨_,_,rfl,zB3 (c:=w.heap.size+1) (o:=0) (ds:=[.slice b0 r.Boxes.length n0,.slice b1 r.Wires.length n1]) HEN6.out hZ,((HOW6.out.mono (by omega)).puts (b:=w.heap.size+1) (o:=0) [.slice b0 r.Boxes.length n0,.slice b1 r.Wires.length n1])⟩,?_⟩
 exact Ext.puts (b:=w.heap.size+1) (o:=0) (by omega) [.slice b0 r.Boxes.length n0,.slice b1 r.Wires.length n1] (E6.out)
end Sk
