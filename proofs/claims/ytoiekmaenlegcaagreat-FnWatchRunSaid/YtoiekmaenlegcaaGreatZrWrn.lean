/- Contracts of functions of the given program. -/
import Derived.Test.YtoiekmaenlegcaaGreatZpWfS
namespace Sk
open Go Go.Proofs Go.RowKit
set_option maxHeartbeats 4000000
set_option maxRecDepth 100000
set_option linter.unusedVariables false
set_option linter.unusedSimpArgs false
theorem zKd{x:Watch}(h:zK3 x)(ht:x.Box.Tick < 100000)(t:List Int):zK3 (zBd x t)/\(zBd x t).Box.Tick=x.Box.Tick+1:=by
 have h1:=zIz h ht;unfold zBd
 split
 ·rename_i hc
  rcases h.box.who x.Box.Tick with e | ⟨N,e,hN⟩
  ·rw[e] at hc;exact absurd hc.1 (by decide)
  ·rw[e,Int.toNat_natCast];have hNs:N < (⟨zAk x.Box,x.States⟩:Watch).States.length:=by show N < x.States.length;have:=h.ns;omega
   refine⟨zMd h1 hNs t 1,?_⟩
   show(zCj (zAk x.Box) N _).Tick=_
   rw[(zF8 _ _ _).2.2.1,zFy]
 ·exact⟨h1,zFy _⟩
noncomputable def zBo(x:Watch)(t:List Int):Nat->Watch
 | 0=>x
 | k+1=>zBd (zBo x t k) t
theorem zGg{x:Watch}(h:zK3 x)(t:List Int):∀ k:Nat,x.Box.Tick+k<=100000->zK3 (zBo x t k)/\(zBo x t k).Box.Tick=x.Box.Tick+k:=by
 intro k
 induction k with
 | zero=>intro _;exact⟨h,(Int.add_zero _).symm⟩
 | succ k ih =>
  intro hk;obtain⟨h1,h2⟩:=ih (by omega)
  obtain⟨h3,h4⟩:=zKd h1 (by omega) t
  exact⟨h3,by show(zBd _ t).Box.Tick=_;rw[h4,h2];omega⟩
noncomputable def zAo(x:Watch)(t:List Int)(T q:Int):Watch:=if zBh x && (zD8 t && zB5 x.Box T q) then zBo x t T.toNat else ⟨zI2,[]⟩
theorem zBs{x:Watch}{t:List Int}{T q:Int}(h:(zBh x && (zD8 t && zB5 x.Box T q))=false):zAo x t T q=⟨zI2,[]⟩:=if_neg (by rw[h];decide)
theorem zCv{x:Watch}{t:List Int}{T:Nat}{q:Int}(h0:zBh x=true)(h1:zD8 t=true)(h2:zB5 x.Box T q=true):zAo x t T q=zBo x t T:=by
 unfold zAo;rw[h0,h1,h2];rfl
theorem zHw(v vt:Value)(x:Watch)(t:List Int)(T q:Int)(w:World)(h:Rv w v x)(ht:Rs w vt t)(hq:q<=1000) :
  Calls Tryz.prog 49 #[v,vt,.int .i64 T,.int .i64 q] w fun e w' => ∃ v',e = .returned v'/\Ov w.heap.size w' v' (zAo x t T q)/\Ext w w':=by
 have H:=zh h;have HT:=zh ht;obtain⟨ta,tc,rfl,htl⟩:=ht.form;obtain⟨a0,c0,a1,c1,a2,c2,a3,c3,a4,c4,a5,c5,a7,c7,rfl,r6,h0,l0,h1,l1,h2,l2,h3,l3,h4,l4,h5,l5,h7,l7⟩:=h.openWatch;clear h ht;go_enter Tryz.func49,Tryz.ntmps49;go_upto_region 1 with (fail)
 refine zA1 (fun W=>Ext w W/\Bk W w.heap.size [.slice a0 x.Box.Plan.Parts.length c0,.slice a1 x.Box.Plan.Channels.length c1,.slice a2 x.Box.Plan.Slots.length c2,.slice a3 x.Box.Programs.length c3,.slice a4 x.Box.Cores.length c4,.slice a5 x.Box.Holds.length c5,.int .i64 x.Box.Tick,.slice a7 x.States.length c7] 35/\Bk W (w.heap.size+1) [.slice none 0 0,.slice none 0 0,.slice none 0 0,.slice none 0 0,.slice none 0 0,.slice none 0 0,.int .i64 0,.slice none 0 0] 35) ⟨((zr _).alloc _).alloc _,(Bk.new _ _ _).ext ((zr _).alloc _),Bk.new1 _ _ _ _⟩ ?_
 rintro W ⟨e1,kA,kB⟩;have HE0:=zh e1;have KA0:=zh kA;have KB0:=zh kB;obtain⟨d0,d1,d2,d3,d4,d5,d6,d7⟩:=Bk.k8 kA;have ltA:=kA.lt;clear e1 kA kB;cases g0:zBh x
 ·have g:(zBh x && (zD8 t && zB5 x.Box T q))=false:=by rw[g0];simp
  go_wp2_with (first
   | (go_at_call 13;refine(zAn _ x _ (H.out.ext HE0.out)).mono ?_;rintro e w0 ⟨rfl,he⟩;rw[g0];have E:=zh (HE0.out.tr he);have KA:=zh (KA0.out.ext he);have KB:=zh (KB0.out.ext he);obtain⟨x0,x1,x2,x3,x4,x5,x6,x7⟩:=Bk.k8 KA.out;have ltA:=KA.out.lt;obtain⟨z0,z1,z2,z3,z4,z5,z6,z7⟩:=Bk.k8 KB.out;have zf:=KB.out.fz;have ltZ:=KB.out.lt;clear he)
   | (go_at_call 29;refine(zB0 _ t _ (HT.out.ext E.out)).mono ?_;rintro e w0' ⟨rfl,he⟩;rw[g1];replace E:=zh (E.out.tr he);replace KA:=zh (KA.out.ext he);replace KB:=zh (KB.out.ext he);obtain⟨x0,x1,x2,x3,x4,x5,x6,x7⟩:=Bk.k8 KA.out;have ltA:=KA.out.lt;obtain⟨z0,z1,z2,z3,z4,z5,z6,z7⟩:=Bk.k8 KB.out;have zf:=KB.out.fz;have ltZ:=KB.out.lt;clear he)
   | (go_at_call 57;refine(zE7 _ x.Box T q _ (Rv.mkMachine (h0.out.ext E.out) (h1.out.ext E.out) (h2.out.ext E.out) (h3.out.ext E.out) (h4.out.ext E.out) (h5.out.ext E.out) r6) hq).mono ?_;rintro e w0'' ⟨rfl,he⟩;rw[g2];replace E:=zh (E.out.tr he);replace KA:=zh (KA.out.ext he);replace KB:=zh (KB.out.ext he);obtain⟨x0,x1,x2,x3,x4,x5,x6,x7⟩:=Bk.k8 KA.out;have ltA:=KA.out.lt;obtain⟨z0,z1,z2,z3,z4,z5,z6,z7⟩:=Bk.k8 KB.out;have zf:=KB.out.fz;have ltZ:=KB.out.lt;clear he))
  refine bodyPost_ret (v:=.agg #[.slice none 0 0,.slice none 0 0,.slice none 0 0,.slice none 0 0,.slice none 0 0,.slice none 0 0,.int .i64 0,.slice none 0 0]) (by simp[results,Tryz.results49,go_sem,z0,z1,z2,z3,z4,z5,z6,z7]) rfl ⟨_,rfl,by rw[zBs g];exact Ov.wz _ _,((((((((E.out).set (by simp) _).set (by simp) _).set (by simp) _).set (by simp) _).set (by simp) _).set (by simp) _).set (by simp) _).set (by simp) _⟩
 cases g1:zD8 t
 ·have g:(zBh x && (zD8 t && zB5 x.Box T q))=false:=by rw[g1];simp
  go_wp2_with (first
   | (go_at_call 13;refine(zAn _ x _ (H.out.ext HE0.out)).mono ?_;rintro e w0 ⟨rfl,he⟩;rw[g0];have E:=zh (HE0.out.tr he);have KA:=zh (KA0.out.ext he);have KB:=zh (KB0.out.ext he);obtain⟨x0,x1,x2,x3,x4,x5,x6,x7⟩:=Bk.k8 KA.out;have ltA:=KA.out.lt;obtain⟨z0,z1,z2,z3,z4,z5,z6,z7⟩:=Bk.k8 KB.out;have zf:=KB.out.fz;have ltZ:=KB.out.lt;clear he)
   | (go_at_call 29;refine(zB0 _ t _ (HT.out.ext E.out)).mono ?_;rintro e w0' ⟨rfl,he⟩;rw[g1];replace E:=zh (E.out.tr he);replace KA:=zh (KA.out.ext he);replace KB:=zh (KB.out.ext he);obtain⟨x0,x1,x2,x3,x4,x5,x6,x7⟩:=Bk.k8 KA.out;have ltA:=KA.out.lt;obtain⟨z0,z1,z2,z3,z4,z5,z6,z7⟩:=Bk.k8 KB.out;have zf:=KB.out.fz;have ltZ:=KB.out.lt;clear he)
   | (go_at_call 57;refine(zE7 _ x.Box T q _ (Rv.mkMachine (h0.out.ext E.out) (h1.out.ext E.out) (h2.out.ext E.out) (h3.out.ext E.out) (h4.out.ext E.out) (h5.out.ext E.out) r6) hq).mono ?_;rintro e w0'' ⟨rfl,he⟩;rw[g2];replace E:=zh (E.out.tr he);replace KA:=zh (KA.out.ext he);replace KB:=zh (KB.out.ext he);obtain⟨x0,x1,x2,x3,x4,x5,x6,x7⟩:=Bk.k8 KA.out;have ltA:=KA.out.lt;obtain⟨z0,z1,z2,z3,z4,z5,z6,z7⟩:=Bk.k8 KB.out;have zf:=KB.out.fz;have ltZ:=KB.out.lt;clear he))
  refine bodyPost_ret (v:=.agg #[.slice none 0 0,.slice none 0 0,.slice none 0 0,.slice none 0 0,.slice none 0 0,.slice none 0 0,.int .i64 0,.slice none 0 0]) (by simp[results,Tryz.results49,go_sem,z0,z1,z2,z3,z4,z5,z6,z7]) rfl ⟨_,rfl,by rw[zBs g];exact Ov.wz _ _,((((((((E.out).set (by simp) _).set (by simp) _).set (by simp) _).set (by simp) _).set (by simp) _).set (by simp) _).set (by simp) _).set (by simp) _⟩
 cases g2:zB5 x.Box T q
 ·have g:(zBh x && (zD8 t && zB5 x.Box T q))=false:=by rw[g2];simp
  go_wp2_with (first
   | (go_at_call 13;refine(zAn _ x _ (H.out.ext HE0.out)).mono ?_;rintro e w0 ⟨rfl,he⟩;rw[g0];have E:=zh (HE0.out.tr he);have KA:=zh (KA0.out.ext he);have KB:=zh (KB0.out.ext he);obtain⟨x0,x1,x2,x3,x4,x5,x6,x7⟩:=Bk.k8 KA.out;have ltA:=KA.out.lt;obtain⟨z0,z1,z2,z3,z4,z5,z6,z7⟩:=Bk.k8 KB.out;have zf:=KB.out.fz;have ltZ:=KB.out.lt;clear he)
   | (go_at_call 29;refine(zB0 _ t _ (HT.out.ext E.out)).mono ?_;rintro e w0' ⟨rfl,he⟩;rw[g1];replace E:=zh (E.out.tr he);replace KA:=zh (KA.out.ext he);replace KB:=zh (KB.out.ext he);obtain⟨x0,x1,x2,x3,x4,x5,x6,x7⟩:=Bk.k8 KA.out;have ltA:=KA.out.lt;obtain⟨z0,z1,z2,z3,z4,z5,z6,z7⟩:=Bk.k8 KB.out;have zf:=KB.out.fz;have ltZ:=KB.out.lt;clear he)
   | (go_at_call 57;refine(zE7 _ x.Box T q _ (Rv.mkMachine (h0.out.ext E.out) (h1.out.ext E.out) (h2.out.ext E.out) (h3.out.ext E.out) (h4.out.ext E.out) (h5.out.ext E.out) r6) hq).mono ?_;rintro e w0'' ⟨rfl,he⟩;rw[g2];replace E:=zh (E.out.tr he);replace KA:=zh (KA.out.ext he);replace KB:=zh (KB.out.ext he);obtain⟨x0,x1,x2,x3,x4,x5,x6,x7⟩:=Bk.k8 KA.out;have ltA:=KA.out.lt;obtain⟨z0,z1,z2,z3,z4,z5,z6,z7⟩:=Bk.k8 KB.out;have zf:=KB.out.fz;have ltZ:=KB.out.lt;clear he))
  refine bodyPost_ret (v:=.agg #[.slice none 0 0,.slice none 0 0,.slice none 0 0,.slice none 0 0,.slice none 0 0,.slice none 0 0,.int .i64 0,.slice none 0 0]) (by simp[results,Tryz.results49,go_sem,z0,z1,z2,z3,z4,z5,z6,z7]) rfl ⟨_,rfl,by rw[zBs g];exact Ov.wz _ _,((((((((E.out).set (by simp) _).set (by simp) _).set (by simp) _).set (by simp) _).set (by simp) _).set (by simp) _).set (by simp) _).set (by simp) _⟩
 have hwv:=zBf.1 g0;obtain⟨_,⟨hT0,hTq⟩,hTT⟩:=zBq.1 g2;obtain⟨T,rfl⟩:∃ k:Nat,T=k:=⟨T.toNat,by omega⟩
 have hres:=zh (zCv g0 g1 g2);have htot:GT.tot x.Box<=1048576:=Nat.le_trans (zC1 hwv.box) (by omega)
 have hsl:x.States.length<=100000000:=by have:=hwv.ns;have:=hwv.box.nc;have:=zAc hwv.box.pg.set;omega
 have HWV:=zh hwv;clear hwv;go_upto_region 3 with (first
   | (go_at_call 13;refine(zAn _ x _ (H.out.ext HE0.out)).mono ?_;rintro e w0 ⟨rfl,he⟩;rw[g0];have E:=zh (HE0.out.tr he);have KA:=zh (KA0.out.ext he);have KB:=zh (KB0.out.ext he);obtain⟨x0,x1,x2,x3,x4,x5,x6,x7⟩:=Bk.k8 KA.out;have ltA:=KA.out.lt;obtain⟨z0,z1,z2,z3,z4,z5,z6,z7⟩:=Bk.k8 KB.out;have zf:=KB.out.fz;have ltZ:=KB.out.lt;clear he)
   | (go_at_call 29;refine(zB0 _ t _ (HT.out.ext E.out)).mono ?_;rintro e w0' ⟨rfl,he⟩;rw[g1];replace E:=zh (E.out.tr he);replace KA:=zh (KA.out.ext he);replace KB:=zh (KB.out.ext he);obtain⟨x0,x1,x2,x3,x4,x5,x6,x7⟩:=Bk.k8 KA.out;have ltA:=KA.out.lt;obtain⟨z0,z1,z2,z3,z4,z5,z6,z7⟩:=Bk.k8 KB.out;have zf:=KB.out.fz;have ltZ:=KB.out.lt;clear he)
   | (go_at_call 57;refine(zE7 _ x.Box T q _ (Rv.mkMachine (h0.out.ext E.out) (h1.out.ext E.out) (h2.out.ext E.out) (h3.out.ext E.out) (h4.out.ext E.out) (h5.out.ext E.out) r6) hq).mono ?_;rintro e w0'' ⟨rfl,he⟩;rw[g2];replace E:=zh (E.out.tr he);replace KA:=zh (KA.out.ext he);replace KB:=zh (KB.out.ext he);obtain⟨x0,x1,x2,x3,x4,x5,x6,x7⟩:=Bk.k8 KA.out;have ltA:=KA.out.lt;obtain⟨z0,z1,z2,z3,z4,z5,z6,z7⟩:=Bk.k8 KB.out;have zf:=KB.out.fz;have ltZ:=KB.out.lt;clear he))
 have ltB0:=KB.out.lt;go_upto_region 4 with (go_at_call 32;go_loud (refine(zE6 _ x _ (H.out.ext E.out) htot hsl).mono ?_;rintro e w5 ⟨v5,rfl,hov,ex⟩;obtain⟨cs5,F5,rfl,hen,how⟩:=hov;obtain⟨v0,v1,v2,v3,v4,v5,v7,G0,G1,G2,G3,G4,G5,G7,rfl,⟨t0,u0,rfl,_⟩,⟨t1,u1,rfl,_⟩,⟨t2,u2,rfl,_⟩,⟨t3,u3,rfl,_⟩,⟨t4,u4,rfl,_⟩,⟨t5,u5,rfl,_⟩,⟨t7,u7,rfl,_⟩,_,_⟩:=id hen;have HEN:=zh hen;have HOW:=zh how;have EX:=zh ex;replace KB:=zh (KB.out.ext ex);replace KA:=zh (KA.out.ext ex);clear hen how ex))
 refine zA1 (fun W6=>Ext w5 W6/\Bk W6 w5.heap.size [.slice t0 x.Box.Plan.Parts.length u0,.slice t1 x.Box.Plan.Channels.length u1,.slice t2 x.Box.Plan.Slots.length u2,.slice t3 x.Box.Programs.length u3,.slice t4 x.Box.Cores.length u4,.slice t5 x.Box.Holds.length u5,.int .i64 x.Box.Tick,.slice t7 x.States.length u7] 35) ⟨(zr _).alloc _,Bk.new _ _ _⟩ ?_
 rintro W6 ⟨E6,K6⟩;have hs05:=EX.out.sz;have hw0:=E.out.sz;have ltB5:=KB.out.lt;have om:Om w0''.heap.size W6 w5.heap.size 0 x F5:=⟨_,GT.ext HEN.out E6,fun j u hj=>by rw[Nat.zero_add];exact K6.cell hj,List.nodup_cons.2 ⟨fun hm=>Nat.lt_irrefl _ (HOW.out.lt hm),HOW.out.1⟩,fun k hk=>by
  rcases List.mem_cons.1 hk with rfl|hk
  ·exact⟨hs05,⟨_,_,K6⟩⟩
  ·exact⟨(HOW.out.2 k hk).1,((HOW.out.2 k hk).2).ext E6⟩⟩
 have E7:=zh ((E.out.tr EX.out).tr E6);have KB6:=zh (KB.out.ext E6);have KA6:=zh (KA.out.ext E6);have HF:Hid (∀ y∈F5,w0''.heap.size<=y/\y < w5.heap.size):=zh (fun y hy=>⟨(HOW.out.2 y hy).1,HOW.out.lt hy⟩)
 have hs6:=E6.sz;have hBlt:=K6.lt;have OM6:=zh om
 generalize hB:w5.heap.size=B at *
 have hR0:w.heap.size+1 < w0''.heap.size:=ltB0;have EX6:=zh (EX.out.tr E6);clear om K6 E6 HEN HOW EX KB KA hB d0 d1 d2 d3 d4 d5 d6 d7 x0 x1 x2 x3 x4 x5 x6 x7 z0 z1 z2 z3 z4 z5 z6 z7 zf ltZ;have WB0:=zh (zDc.refl OM6.out);have EB:Hid (Ext w w0''):=E;go_wp2_with fail
 go_loopw [30] (fun v30 wr => ∃ (k:Nat) (Fk:List Nat),k<=T/\v30 = .int .i64 k/\zNd w0''.heap.size B F5 W6 wr (zBo x t k) Fk) (fun v30 _=>T - (intOf v30).toNat)
 case atStart=>exact⟨0,_,Nat.zero_le _,rfl,WB0.out.wc⟩
 case round =>
  obtain⟨k,Fk,hk,rfl,wc⟩:=hrel;have WC:=zh wc;have hszr:=wc.ch.sz;clear wc;by_cases hkt:k < T
  ·obtain⟨h1,h2⟩:=zGg HWV.out t k (by omega)
   have hlt:(zBo x t k).Box.Tick < 100000:=by omega
   have HEr:=zh (WC.out.ch.ext E7.out (by omega) (fun y hy=>by have:=(HF.out y hy).1;omega))
   have HE0r:Hid (Ext w0'' wr):=zh (WC.out.ch.ext (W:=w0'') EX6.out (by omega) (fun y hy=>(HF.out y hy).1))
   have HC:=zh (zN7 w0''.heap.size B (zBo x t k) Fk _ t w0'' wr WC.out.om (HT.out.ext EB.out) HE0r.out (Nat.le_refl _) (by omega) h1 g1 hlt)
   have hnext:=zh (show zBo x t (k+1)=zBd (zBo x t k) t from rfl)
   clear h1 h2 hlt;go_wp2_with (go_at_call 87;refine HC.out.mono ?_;rintro e w7 ⟨⟨vr,rfl⟩,F9,wb⟩;have WC9:Hid (zNd w0''.heap.size B F5 W6 w7 _ F9):=zh ⟨wb.om,WC.out.ch.trF wb.ch WC.out.sub,fun y hy=>(wb.sub y hy).elim (fun h1=>WC.out.sub y h1) (fun h1 => .inr (Nat.le_trans hszr h1))⟩;clear wb)
   go_roundw
   case rel=>exact⟨k+1,F9,by omega,by go_num,by rw[hnext.out];exact WC9.out⟩
   case measure=>simp[intOf];omega
  ·obtain rfl:k=T:=by omega
   obtain⟨y,hy⟩:∃ y,zBo x t k=y:=⟨_,rfl⟩;have hry:Hid (zAo x t k q=y):=zh (hres.out.trans hy);rw[hy] at WC;clear hres hy;have KBx:=WC.out.bk KB6.out (by omega) (fun hx=>by have:=(HF.out _ hx).1;omega)
   have EY:=zh (WC.out.ch.ext E7.out (by omega) (fun y hy=>by have:=(HF.out y hy).1;omega))
   have SB:=zh WC.out.sub;have hbf:=WC.out.om.bk.2.2.2;have hb7:=WC.out.lt;obtain⟨p0,q0,p1,q1,p2,q2,p3,q3,p4,q4,p5,q5,p7,q7,y0,y1,y2,y3,y4,y5,y6,y7,hen8,OW⟩:=WC.out.om.openW;obtain⟨z0,z1,z2,z3,z4,z5,z6,z7⟩:=Bk.k8 KBx;have zf:=KBx.fz;have ltZ:=KBx.lt;clear KBx;have HEN:=zh hen8;have HOW:=zh OW;clear hen8 OW;go_wp2;have hZ:w.heap.size+1 ∉ Fk:=fun hm=>(SB.out _ hm).elim (fun h=>by have:=(HF.out _ h).1;omega) (fun h=>by omega)
   refine bodyPost_ret (v:=.agg #[.slice p0 y.Box.Plan.Parts.length q0,.slice p1 y.Box.Plan.Channels.length q1,.slice p2 y.Box.Plan.Slots.length q2,.slice p3 y.Box.Programs.length q3,.slice p4 y.Box.Cores.length q4,.slice p5 y.Box.Holds.length q5,.int .i64 y.Box.Tick,.slice p7 y.States.length q7]) (by simp[results,Tryz.results49,go_sem,z0,z1,z2,z3,z4,z5,z6,z7]) rfl ⟨_,rfl,by rw[hry.out];exact⟨_,_,rfl,zAt (c:=w.heap.size+1) (o:=0) (ds:=[.slice p0 y.Box.Plan.Parts.length q0,.slice p1 y.Box.Plan.Channels.length q1,.slice p2 y.Box.Plan.Slots.length q2,.slice p3 y.Box.Programs.length q3,.slice p4 y.Box.Cores.length q4,.slice p5 y.Box.Holds.length q5,.int .i64 y.Box.Tick,.slice p7 y.States.length q7]) HEN.out hZ,((HOW.out.mono (by omega)).puts (b:=w.heap.size+1) (o:=0) [.slice p0 y.Box.Plan.Parts.length q0,.slice p1 y.Box.Plan.Channels.length q1,.slice p2 y.Box.Plan.Slots.length q2,.slice p3 y.Box.Programs.length q3,.slice p4 y.Box.Cores.length q4,.slice p5 y.Box.Holds.length q5,.int .i64 y.Box.Tick,.slice p7 y.States.length q7])⟩,?_⟩
   exact Ext.puts (b:=w.heap.size+1) (o:=0) (by omega) [.slice p0 y.Box.Plan.Parts.length q0,.slice p1 y.Box.Plan.Channels.length q1,.slice p2 y.Box.Plan.Slots.length q2,.slice p3 y.Box.Programs.length q3,.slice p4 y.Box.Cores.length q4,.slice p5 y.Box.Holds.length q5,.int .i64 y.Box.Tick,.slice p7 y.States.length q7] EY.out
theorem Ov.openW{L:Nat}{w:World}{v:Value}{y:Watch}(h:Ov L w v y):∃ p0 q0 p1 q1 p2 q2 p3 q3 p4 q4 p5 q5 p7 q7 F,v = .agg #[.slice p0 y.Box.Plan.Parts.length q0,.slice p1 y.Box.Plan.Channels.length q1,.slice p2 y.Box.Plan.Slots.length q2,.slice p3 y.Box.Programs.length q3,.slice p4 y.Box.Cores.length q4,.slice p5 y.Box.Holds.length q5,.int .i64 y.Box.Tick,.slice p7 y.States.length q7]/\GT.enc w [.slice p0 y.Box.Plan.Parts.length q0,.slice p1 y.Box.Plan.Channels.length q1,.slice p2 y.Box.Plan.Slots.length q2,.slice p3 y.Box.Programs.length q3,.slice p4 y.Box.Cores.length q4,.slice p5 y.Box.Holds.length q5,.int .i64 y.Box.Tick,.slice p7 y.States.length q7] y F/\Own L w F:=by
 obtain⟨cs,F,rfl,hen,ho⟩:=h;obtain⟨v0,v1,v2,v3,v4,v5,v7,G0,G1,G2,G3,G4,G5,G7,rfl,⟨t0,u0,rfl,_⟩,⟨t1,u1,rfl,_⟩,⟨t2,u2,rfl,_⟩,⟨t3,u3,rfl,_⟩,⟨t4,u4,rfl,_⟩,⟨t5,u5,rfl,_⟩,⟨t7,u7,rfl,_⟩,_,_⟩:=id hen;exact⟨_,_,_,_,_,_,_,_,_,_,_,_,_,_,F,rfl,hen,ho⟩
theorem impl_WatchTick(v vt:Value)(x:Watch)(t:List Int)(w:World)(h:Rv w v x)(ht:Rs w vt t) :
  Calls Tryz.prog 17 #[v,vt] w fun e w' => ∃ v',e = .returned v'/\Ov w.heap.size w' v' (zAo x t 1 1)/\Ext w w':=by
 have H:=zh h;have HT:=zh ht;obtain⟨ta,tc,rfl,htl⟩:=ht.form;obtain⟨a0,c0,a1,c1,a2,c2,a3,c3,a4,c4,a5,c5,a7,c7,rfl,r6,h0,l0,h1,l1,h2,l2,h3,l3,h4,l4,h5,l5,h7,l7⟩:=h.openWatch;clear h ht;go_enter Tryz.func17,Tryz.ntmps17;go_upto_region 1 with (fail)
 refine zA1 (fun W=>Ext w W/\Bk W w.heap.size [.slice a0 x.Box.Plan.Parts.length c0,.slice a1 x.Box.Plan.Channels.length c1,.slice a2 x.Box.Plan.Slots.length c2,.slice a3 x.Box.Programs.length c3,.slice a4 x.Box.Cores.length c4,.slice a5 x.Box.Holds.length c5,.int .i64 x.Box.Tick,.slice a7 x.States.length c7] 35/\Bk W (w.heap.size+1) [.slice none 0 0,.slice none 0 0,.slice none 0 0,.slice none 0 0,.slice none 0 0,.slice none 0 0,.int .i64 0,.slice none 0 0] 35) ⟨((zr _).alloc _).alloc _,(Bk.new _ _ _).ext ((zr _).alloc _),Bk.new1 _ _ _ _⟩ ?_
 rintro W ⟨e1,kA,kB⟩;have HE0:=zh e1;have KA0:=zh kA;have KB0:=zh kB;obtain⟨d0,d1,d2,d3,d4,d5,d6,d7⟩:=Bk.k8 kA;have ltA:=kA.lt;clear e1 kA kB;have hw0:=HE0.out.sz;obtain⟨y,hy⟩:∃ y,zAo x t 1 1=y:=⟨_,rfl⟩;have HC:=zHw _ _ x t 1 1 W (H.out.ext HE0.out) (HT.out.ext HE0.out) (by decide)
 rw[hy] at HC;replace HC:=zh HC;have HY:=zh hy;have ltB0:=KB0.out.lt;clear hy;go_wp2_with (go_at_call 49;refine HC.out.mono ?_;rintro e w5 ⟨v5,rfl,hov,he⟩;obtain⟨p0,q0,p1,q1,p2,q2,p3,q3,p4,q4,p5,q5,p7,q7,F5,rfl,hen,how⟩:=hov.openW;have HEN:=zh hen;have HOW:=zh how;have EX:=zh he;have KBx:=KB0.out.ext he;obtain⟨z0,z1,z2,z3,z4,z5,z6,z7⟩:=Bk.k8 KBx;have zf:=KBx.fz;have ltZ:=KBx.lt;clear KBx hen how he hov)
 have hZ:w.heap.size+1 ∉ F5:=fun hm=>by have:=(HOW.out.2 _ hm).1;omega
 refine bodyPost_ret (v:=.agg #[.slice p0 y.Box.Plan.Parts.length q0,.slice p1 y.Box.Plan.Channels.length q1,.slice p2 y.Box.Plan.Slots.length q2,.slice p3 y.Box.Programs.length q3,.slice p4 y.Box.Cores.length q4,.slice p5 y.Box.Holds.length q5,.int .i64 y.Box.Tick,.slice p7 y.States.length q7]) (by simp[results,Tryz.results17,go_sem,z0,z1,z2,z3,z4,z5,z6,z7]) rfl ⟨_,rfl,by rw[HY.out];exact⟨_,_,rfl,zAt (c:=w.heap.size+1) (o:=0) (ds:=[.slice p0 y.Box.Plan.Parts.length q0,.slice p1 y.Box.Plan.Channels.length q1,.slice p2 y.Box.Plan.Slots.length q2,.slice p3 y.Box.Programs.length q3,.slice p4 y.Box.Cores.length q4,.slice p5 y.Box.Holds.length q5,.int .i64 y.Box.Tick,.slice p7 y.States.length q7]) HEN.out hZ,((HOW.out.mono (by omega)).puts (b:=w.heap.size+1) (o:=0) [.slice p0 y.Box.Plan.Parts.length q0,.slice p1 y.Box.Plan.Channels.length q1,.slice p2 y.Box.Plan.Slots.length q2,.slice p3 y.Box.Programs.length q3,.slice p4 y.Box.Cores.length q4,.slice p5 y.Box.Holds.length q5,.int .i64 y.Box.Tick,.slice p7 y.States.length q7])⟩,?_⟩
 exact Ext.puts (b:=w.heap.size+1) (o:=0) (by omega) [.slice p0 y.Box.Plan.Parts.length q0,.slice p1 y.Box.Plan.Channels.length q1,.slice p2 y.Box.Plan.Slots.length q2,.slice p3 y.Box.Programs.length q3,.slice p4 y.Box.Cores.length q4,.slice p5 y.Box.Holds.length q5,.int .i64 y.Box.Tick,.slice p7 y.States.length q7] (HE0.out.tr EX.out)
theorem zDb(v vt:Value)(x:Watch)(t:List Int)(T:Int)(w:World)(h:Rv w v x)(ht:Rs w vt t) :
  Calls Tryz.prog 22 #[v,vt,.int .i64 T] w fun e w' => ∃ v',e = .returned v'/\Ov w.heap.size w' v' (zAo x t T 400)/\Ext w w':=by
 have H:=zh h;have HT:=zh ht;obtain⟨ta,tc,rfl,htl⟩:=ht.form;obtain⟨a0,c0,a1,c1,a2,c2,a3,c3,a4,c4,a5,c5,a7,c7,rfl,r6,h0,l0,h1,l1,h2,l2,h3,l3,h4,l4,h5,l5,h7,l7⟩:=h.openWatch;clear h ht;go_enter Tryz.func22,Tryz.ntmps22;go_upto_region 1 with (fail)
 refine zA1 (fun W=>Ext w W/\Bk W w.heap.size [.slice a0 x.Box.Plan.Parts.length c0,.slice a1 x.Box.Plan.Channels.length c1,.slice a2 x.Box.Plan.Slots.length c2,.slice a3 x.Box.Programs.length c3,.slice a4 x.Box.Cores.length c4,.slice a5 x.Box.Holds.length c5,.int .i64 x.Box.Tick,.slice a7 x.States.length c7] 35/\Bk W (w.heap.size+1) [.slice none 0 0,.slice none 0 0,.slice none 0 0,.slice none 0 0,.slice none 0 0,.slice none 0 0,.int .i64 0,.slice none 0 0] 35) ⟨((zr _).alloc _).alloc _,(Bk.new _ _ _).ext ((zr _).alloc _),Bk.new1 _ _ _ _⟩ ?_
 rintro W ⟨e1,kA,kB⟩;have HE0:=zh e1;have KA0:=zh kA;have KB0:=zh kB;obtain⟨d0,d1,d2,d3,d4,d5,d6,d7⟩:=Bk.k8 kA;have ltA:=kA.lt;clear e1 kA kB;have hw0:=HE0.out.sz;obtain⟨y,hy⟩:∃ y,zAo x t T 400=y:=⟨_,rfl⟩;have HC:=zHw _ _ x t T 400 W (H.out.ext HE0.out) (HT.out.ext HE0.out) (by decide)
 rw[hy] at HC;replace HC:=zh HC;have HY:=zh hy;have ltB0:=KB0.out.lt;clear hy;go_wp2_with (go_at_call 49;refine HC.out.mono ?_;rintro e w5 ⟨v5,rfl,hov,he⟩;obtain⟨p0,q0,p1,q1,p2,q2,p3,q3,p4,q4,p5,q5,p7,q7,F5,rfl,hen,how⟩:=hov.openW;have HEN:=zh hen;have HOW:=zh how;have EX:=zh he;have KBx:=KB0.out.ext he;obtain⟨z0,z1,z2,z3,z4,z5,z6,z7⟩:=Bk.k8 KBx;have zf:=KBx.fz;have ltZ:=KBx.lt;clear KBx hen how he hov)
 have hZ:w.heap.size+1 ∉ F5:=fun hm=>by have:=(HOW.out.2 _ hm).1;omega
 refine bodyPost_ret (v:=.agg #[.slice p0 y.Box.Plan.Parts.length q0,.slice p1 y.Box.Plan.Channels.length q1,.slice p2 y.Box.Plan.Slots.length q2,.slice p3 y.Box.Programs.length q3,.slice p4 y.Box.Cores.length q4,.slice p5 y.Box.Holds.length q5,.int .i64 y.Box.Tick,.slice p7 y.States.length q7]) (by simp[results,Tryz.results22,go_sem,z0,z1,z2,z3,z4,z5,z6,z7]) rfl ⟨_,rfl,by rw[HY.out];exact⟨_,_,rfl,zAt (c:=w.heap.size+1) (o:=0) (ds:=[.slice p0 y.Box.Plan.Parts.length q0,.slice p1 y.Box.Plan.Channels.length q1,.slice p2 y.Box.Plan.Slots.length q2,.slice p3 y.Box.Programs.length q3,.slice p4 y.Box.Cores.length q4,.slice p5 y.Box.Holds.length q5,.int .i64 y.Box.Tick,.slice p7 y.States.length q7]) HEN.out hZ,((HOW.out.mono (by omega)).puts (b:=w.heap.size+1) (o:=0) [.slice p0 y.Box.Plan.Parts.length q0,.slice p1 y.Box.Plan.Channels.length q1,.slice p2 y.Box.Plan.Slots.length q2,.slice p3 y.Box.Programs.length q3,.slice p4 y.Box.Cores.length q4,.slice p5 y.Box.Holds.length q5,.int .i64 y.Box.Tick,.slice p7 y.States.length q7])⟩,?_⟩
 exact Ext.puts (b:=w.heap.size+1) (o:=0) (by omega) [.slice p0 y.Box.Plan.Parts.length q0,.slice p1 y.Box.Plan.Channels.length q1,.slice p2 y.Box.Plan.Slots.length q2,.slice p3 y.Box.Programs.length q3,.slice p4 y.Box.Cores.length q4,.slice p5 y.Box.Holds.length q5,.int .i64 y.Box.Tick,.slice p7 y.States.length q7] (HE0.out.tr EX.out)
theorem zHr{m:Machine}{j:Nat}(h:zC6 m.Plan.Slots m.Tick≠j):(zAk m).Cores[j]? = m.Cores[j]?:=by
 unfold zAk
 split
 ·rfl
 ·rename_i hn
  unfold zEp;simp only;rw[List.getElem?_set,if_neg (by omega)]
theorem zJ4{x:Watch}{t:List Int}{j:Nat}{a c:Core}(ha:x.Box.Cores[j]? = some a)(hc:(zAk x.Box).Cores[j]? = some c)(h1:a.Stopped=false)(h2:c.Stopped=true):zBd x t=(zEx ⟨zAk x.Box,x.States⟩ t j 1).1:=by
 have hw:zC6 x.Box.Plan.Slots x.Box.Tick=j:=by
  refine Classical.byContradiction fun hn=>?_
  have:=zHr (m:=x.Box) hn
  rw[hc,ha] at this;obtain rfl:=Option.some.inj this;rw[h1] at h2;cases h2
 refine(if_pos ?_).trans (by rw[hw,Int.toNat_natCast])
 rw[hw,Int.toNat_natCast,List.getD_eq_getElem?_getD,List.getD_eq_getElem?_getD,ha,hc];exact⟨Int.natCast_nonneg j,h1,h2⟩
theorem zHs{x:Watch}(hv:zK3 x){t:List Int}(h:∀ (j:Nat) (a c:Core),j < x.States.length->x.Box.Cores[j]? = some a->(zAk x.Box).Cores[j]? = some c->¬ (a.Stopped=false/\c.Stopped=true)):zBd x t=⟨zAk x.Box,x.States⟩:=by
 refine if_neg ?_;rintro⟨h0,h1,h2⟩;rcases hv.box.who x.Box.Tick with e | ⟨N,e,hN⟩
 ·rw[e] at h0;exact absurd h0 (by decide)
 ·rw[e,Int.toNat_natCast] at h1 h2;have hN2:N < (zAk x.Box).Cores.length:=by rw[zCk];exact hN
  have e1:=List.getElem?_eq_getElem hN;have e2:=List.getElem?_eq_getElem hN2;rw[List.getD_eq_getElem?_getD,e1] at h1;rw[List.getD_eq_getElem?_getD,e2] at h2;exact h N _ _ (by have:=hv.ns;omega) e1 e2 ⟨h1,h2⟩
theorem zH1{x:Watch}{t:List Int}(h0:zBh x=true)(h1:zD8 t=true)(h2:x.Box.Tick < 100000):zAo x t 1 1=zBd x t:=by
 have hr:zB5 x.Box ((1:Nat):Int) 1=true:=zBq.2 ⟨(zBf.1 h0).box,⟨by decide,by decide⟩,by show x.Box.Tick+1<=100000;omega⟩
 exact zCv (T:=1) h0 h1 hr
theorem zDt{x:Watch}{t:List Int}(h:zBh x=false\/zD8 t=false\/x.Box.Tick=100000):zAo x t 1 1=⟨zI2,[]⟩:=by
 refine zBs ?_;rcases h with h|h|h
 ·rw[h];rfl
 ·rw[h];simp
 ·have:zB5 x.Box 1 1=false:=by
   cases e:zB5 x.Box 1 1
   ·rfl
   ·have:=(zBq.1 e).2.2;omega
  rw[this];simp
end Sk
