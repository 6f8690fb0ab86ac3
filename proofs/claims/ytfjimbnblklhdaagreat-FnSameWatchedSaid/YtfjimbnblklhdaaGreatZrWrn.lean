/- Contracts of functions of the given program. -/
import Derived.Test.YtfjimbnblklhdaaGreatZkWch
namespace Sk
open Go Go.Proofs Go.RowKit
set_option maxHeartbeats 4000000
set_option maxRecDepth 100000
set_option linter.unusedVariables false
set_option linter.unusedSimpArgs false
theorem zOg{x:Watch}(h:zO2 x)(ht:x.Box.Tick < 100000)(t:List Int):zO2 (zCf x t)/\(zCf x t).Box.Tick=x.Box.Tick+1:=by
 have h1:=zH6 h ht;unfold zCf
 split
 ·rename_i hc
  rcases h.box.who x.Box.Tick with e | ⟨N,e,hN⟩
  ·rw[e] at hc;exact absurd hc.1 (by decide)
  ·rw[e,Int.toNat_natCast];have hNs:N < (⟨zAk x.Box,x.States⟩:Watch).States.length:=by show N < x.States.length;have:=h.ns;omega
   refine⟨zJc h1 hNs t 1,?_⟩
   show(zCe (zAk x.Box) N _).Tick=_
   rw[(zD5 _ _ _).2.2.1,zE0]
 ·exact⟨h1,zE0 _⟩
noncomputable def zEq(x:Watch)(t:List Int):Nat->Watch
 | 0=>x
 | k+1=>zCf (zEq x t k) t
theorem zMf{x:Watch}(h:zO2 x)(t:List Int):∀ k:Nat,x.Box.Tick+k<=100000->zO2 (zEq x t k)/\(zEq x t k).Box.Tick=x.Box.Tick+k:=by
 intro k
 induction k with
 | zero=>intro _;exact⟨h,(Int.add_zero _).symm⟩
 | succ k ih =>
  intro hk;obtain⟨h1,h2⟩:=ih (by omega)
  obtain⟨h3,h4⟩:=zOg h1 (by omega) t
  exact⟨h3,by show(zCf _ t).Box.Tick=_;rw[h4,h2];omega⟩
noncomputable def zC9(x:Watch)(t:List Int)(T q:Int):Watch:=if zG3 x && (zJ8 t && zC1 x.Box T q) then zEq x t T.toNat else ⟨zNl,[]⟩
theorem zGj{x:Watch}{t:List Int}{T q:Int}(h:(zG3 x && (zJ8 t && zC1 x.Box T q))=false):zC9 x t T q=⟨zNl,[]⟩:=if_neg (by rw[h];decide)
theorem zGk{x:Watch}{t:List Int}{T:Nat}{q:Int}(h0:zG3 x=true)(h1:zJ8 t=true)(h2:zC1 x.Box T q=true):zC9 x t T q=zEq x t T:=by
 unfold zC9;rw[h0,h1,h2];rfl
theorem zMj(v vt:Value)(x:Watch)(t:List Int)(T q:Int)(w:World)(h:Rv w v x)(ht:Rs w vt t)(hq:q<=1000) :
  Calls Tryz.prog 28 #[v,vt,.int .i64 T,.int .i64 q] w fun e w' => ∃ v',e = .returned v'/\Ov w.heap.size w' v' (zC9 x t T q)/\Ext w w':=by
 have H:=zh h;have HT:=zh ht;obtain⟨ta,tc,rfl,htl⟩:=ht.form;obtain⟨a0,c0,a1,c1,a2,c2,a3,c3,a4,c4,a5,c5,a7,c7,rfl,r6,h0,l0,h1,l1,h2,l2,h3,l3,h4,l4,h5,l5,h7,l7⟩:=h.openWatch;clear h ht;go_enter Tryz.func28,Tryz.ntmps28;go_upto_region 1 with (fail)
 refine zA1 (fun W=>Ext w W/\Bk W w.heap.size [.slice a0 x.Box.Plan.Parts.length c0,.slice a1 x.Box.Plan.Channels.length c1,.slice a2 x.Box.Plan.Slots.length c2,.slice a3 x.Box.Programs.length c3,.slice a4 x.Box.Cores.length c4,.slice a5 x.Box.Holds.length c5,.int .i64 x.Box.Tick,.slice a7 x.States.length c7] 42/\Bk W (w.heap.size+1) [.slice none 0 0,.slice none 0 0,.slice none 0 0,.slice none 0 0,.slice none 0 0,.slice none 0 0,.int .i64 0,.slice none 0 0] 42) ⟨((zr _).alloc _).alloc _,(Bk.new _ _ _).ext ((zr _).alloc _),Bk.new1 _ _ _ _⟩ ?_
 rintro W ⟨e1,kA,kB⟩;have HE0:=zh e1;have KA0:=zh kA;have KB0:=zh kB;obtain⟨d0,d1,d2,d3,d4,d5,d6,d7⟩:=Bk.k8 kA;have ltA:=kA.lt;clear e1 kA kB;cases g0:zG3 x
 ·have g:(zG3 x && (zJ8 t && zC1 x.Box T q))=false:=by rw[g0];simp
  go_wp2_with (first
   | (go_at_call 51;refine(zCx _ x _ (H.out.ext HE0.out)).mono ?_;rintro e w0 ⟨rfl,he⟩;rw[g0];have E:=zh (HE0.out.tr he);have KA:=zh (KA0.out.ext he);have KB:=zh (KB0.out.ext he);obtain⟨x0,x1,x2,x3,x4,x5,x6,x7⟩:=Bk.k8 KA.out;have ltA:=KA.out.lt;obtain⟨z0,z1,z2,z3,z4,z5,z6,z7⟩:=Bk.k8 KB.out;have zf:=KB.out.fz;have ltZ:=KB.out.lt;clear he)
   | (go_at_call 52;refine(zCk _ t _ (HT.out.ext E.out)).mono ?_;rintro e w0' ⟨rfl,he⟩;rw[g1];replace E:=zh (E.out.tr he);replace KA:=zh (KA.out.ext he);replace KB:=zh (KB.out.ext he);obtain⟨x0,x1,x2,x3,x4,x5,x6,x7⟩:=Bk.k8 KA.out;have ltA:=KA.out.lt;obtain⟨z0,z1,z2,z3,z4,z5,z6,z7⟩:=Bk.k8 KB.out;have zf:=KB.out.fz;have ltZ:=KB.out.lt;clear he)
   | (go_at_call 53;refine(zHe _ x.Box T q _ (Rv.mkMachine (h0.out.ext E.out) (h1.out.ext E.out) (h2.out.ext E.out) (h3.out.ext E.out) (h4.out.ext E.out) (h5.out.ext E.out) r6) hq).mono ?_;rintro e w0'' ⟨rfl,he⟩;rw[g2];replace E:=zh (E.out.tr he);replace KA:=zh (KA.out.ext he);replace KB:=zh (KB.out.ext he);obtain⟨x0,x1,x2,x3,x4,x5,x6,x7⟩:=Bk.k8 KA.out;have ltA:=KA.out.lt;obtain⟨z0,z1,z2,z3,z4,z5,z6,z7⟩:=Bk.k8 KB.out;have zf:=KB.out.fz;have ltZ:=KB.out.lt;clear he))
  refine bodyPost_ret (v:=.agg #[.slice none 0 0,.slice none 0 0,.slice none 0 0,.slice none 0 0,.slice none 0 0,.slice none 0 0,.int .i64 0,.slice none 0 0]) (by simp[results,Tryz.results28,go_sem,z0,z1,z2,z3,z4,z5,z6,z7]) rfl ⟨_,rfl,by rw[zGj g];exact Ov.wz _ _,((((((((E.out).set (by simp) _).set (by simp) _).set (by simp) _).set (by simp) _).set (by simp) _).set (by simp) _).set (by simp) _).set (by simp) _⟩
 cases g1:zJ8 t
 ·have g:(zG3 x && (zJ8 t && zC1 x.Box T q))=false:=by rw[g1];simp
  go_wp2_with (first
   | (go_at_call 51;refine(zCx _ x _ (H.out.ext HE0.out)).mono ?_;rintro e w0 ⟨rfl,he⟩;rw[g0];have E:=zh (HE0.out.tr he);have KA:=zh (KA0.out.ext he);have KB:=zh (KB0.out.ext he);obtain⟨x0,x1,x2,x3,x4,x5,x6,x7⟩:=Bk.k8 KA.out;have ltA:=KA.out.lt;obtain⟨z0,z1,z2,z3,z4,z5,z6,z7⟩:=Bk.k8 KB.out;have zf:=KB.out.fz;have ltZ:=KB.out.lt;clear he)
   | (go_at_call 52;refine(zCk _ t _ (HT.out.ext E.out)).mono ?_;rintro e w0' ⟨rfl,he⟩;rw[g1];replace E:=zh (E.out.tr he);replace KA:=zh (KA.out.ext he);replace KB:=zh (KB.out.ext he);obtain⟨x0,x1,x2,x3,x4,x5,x6,x7⟩:=Bk.k8 KA.out;have ltA:=KA.out.lt;obtain⟨z0,z1,z2,z3,z4,z5,z6,z7⟩:=Bk.k8 KB.out;have zf:=KB.out.fz;have ltZ:=KB.out.lt;clear he)
   | (go_at_call 53;refine(zHe _ x.Box T q _ (Rv.mkMachine (h0.out.ext E.out) (h1.out.ext E.out) (h2.out.ext E.out) (h3.out.ext E.out) (h4.out.ext E.out) (h5.out.ext E.out) r6) hq).mono ?_;rintro e w0'' ⟨rfl,he⟩;rw[g2];replace E:=zh (E.out.tr he);replace KA:=zh (KA.out.ext he);replace KB:=zh (KB.out.ext he);obtain⟨x0,x1,x2,x3,x4,x5,x6,x7⟩:=Bk.k8 KA.out;have ltA:=KA.out.lt;obtain⟨z0,z1,z2,z3,z4,z5,z6,z7⟩:=Bk.k8 KB.out;have zf:=KB.out.fz;have ltZ:=KB.out.lt;clear he))
  refine bodyPost_ret (v:=.agg #[.slice none 0 0,.slice none 0 0,.slice none 0 0,.slice none 0 0,.slice none 0 0,.slice none 0 0,.int .i64 0,.slice none 0 0]) (by simp[results,Tryz.results28,go_sem,z0,z1,z2,z3,z4,z5,z6,z7]) rfl ⟨_,rfl,by rw[zGj g];exact Ov.wz _ _,((((((((E.out).set (by simp) _).set (by simp) _).set (by simp) _).set (by simp) _).set (by simp) _).set (by simp) _).set (by simp) _).set (by simp) _⟩
 cases g2:zC1 x.Box T q
 ·have g:(zG3 x && (zJ8 t && zC1 x.Box T q))=false:=by rw[g2];simp
  go_wp2_with (first
   | (go_at_call 51;refine(zCx _ x _ (H.out.ext HE0.out)).mono ?_;rintro e w0 ⟨rfl,he⟩;rw[g0];have E:=zh (HE0.out.tr he);have KA:=zh (KA0.out.ext he);have KB:=zh (KB0.out.ext he);obtain⟨x0,x1,x2,x3,x4,x5,x6,x7⟩:=Bk.k8 KA.out;have ltA:=KA.out.lt;obtain⟨z0,z1,z2,z3,z4,z5,z6,z7⟩:=Bk.k8 KB.out;have zf:=KB.out.fz;have ltZ:=KB.out.lt;clear he)
   | (go_at_call 52;refine(zCk _ t _ (HT.out.ext E.out)).mono ?_;rintro e w0' ⟨rfl,he⟩;rw[g1];replace E:=zh (E.out.tr he);replace KA:=zh (KA.out.ext he);replace KB:=zh (KB.out.ext he);obtain⟨x0,x1,x2,x3,x4,x5,x6,x7⟩:=Bk.k8 KA.out;have ltA:=KA.out.lt;obtain⟨z0,z1,z2,z3,z4,z5,z6,z7⟩:=Bk.k8 KB.out;have zf:=KB.out.fz;have ltZ:=KB.out.lt;clear he)
   | (go_at_call 53;refine(zHe _ x.Box T q _ (Rv.mkMachine (h0.out.ext E.out) (h1.out.ext E.out) (h2.out.ext E.out) (h3.out.ext E.out) (h4.out.ext E.out) (h5.out.ext E.out) r6) hq).mono ?_;rintro e w0'' ⟨rfl,he⟩;rw[g2];replace E:=zh (E.out.tr he);replace KA:=zh (KA.out.ext he);replace KB:=zh (KB.out.ext he);obtain⟨x0,x1,x2,x3,x4,x5,x6,x7⟩:=Bk.k8 KA.out;have ltA:=KA.out.lt;obtain⟨z0,z1,z2,z3,z4,z5,z6,z7⟩:=Bk.k8 KB.out;have zf:=KB.out.fz;have ltZ:=KB.out.lt;clear he))
  refine bodyPost_ret (v:=.agg #[.slice none 0 0,.slice none 0 0,.slice none 0 0,.slice none 0 0,.slice none 0 0,.slice none 0 0,.int .i64 0,.slice none 0 0]) (by simp[results,Tryz.results28,go_sem,z0,z1,z2,z3,z4,z5,z6,z7]) rfl ⟨_,rfl,by rw[zGj g];exact Ov.wz _ _,((((((((E.out).set (by simp) _).set (by simp) _).set (by simp) _).set (by simp) _).set (by simp) _).set (by simp) _).set (by simp) _).set (by simp) _⟩
 have hwv:=zJp.1 g0;obtain⟨_,⟨hT0,hTq⟩,hTT⟩:=zEl.1 g2;obtain⟨T,rfl⟩:∃ k:Nat,T=k:=⟨T.toNat,by omega⟩
 have hres:=zh (zGk g0 g1 g2);have htot:GT.tot x.Box<=1048576:=Nat.le_trans (zE6 hwv.box) (by omega)
 have hsl:x.States.length<=100000000:=by have:=hwv.ns;have:=hwv.box.nc;have:=zAh hwv.box.pg.set;omega
 have HWV:=zh hwv;clear hwv;go_upto_region 3 with (first
   | (go_at_call 51;refine(zCx _ x _ (H.out.ext HE0.out)).mono ?_;rintro e w0 ⟨rfl,he⟩;rw[g0];have E:=zh (HE0.out.tr he);have KA:=zh (KA0.out.ext he);have KB:=zh (KB0.out.ext he);obtain⟨x0,x1,x2,x3,x4,x5,x6,x7⟩:=Bk.k8 KA.out;have ltA:=KA.out.lt;obtain⟨z0,z1,z2,z3,z4,z5,z6,z7⟩:=Bk.k8 KB.out;have zf:=KB.out.fz;have ltZ:=KB.out.lt;clear he)
   | (go_at_call 52;refine(zCk _ t _ (HT.out.ext E.out)).mono ?_;rintro e w0' ⟨rfl,he⟩;rw[g1];replace E:=zh (E.out.tr he);replace KA:=zh (KA.out.ext he);replace KB:=zh (KB.out.ext he);obtain⟨x0,x1,x2,x3,x4,x5,x6,x7⟩:=Bk.k8 KA.out;have ltA:=KA.out.lt;obtain⟨z0,z1,z2,z3,z4,z5,z6,z7⟩:=Bk.k8 KB.out;have zf:=KB.out.fz;have ltZ:=KB.out.lt;clear he)
   | (go_at_call 53;refine(zHe _ x.Box T q _ (Rv.mkMachine (h0.out.ext E.out) (h1.out.ext E.out) (h2.out.ext E.out) (h3.out.ext E.out) (h4.out.ext E.out) (h5.out.ext E.out) r6) hq).mono ?_;rintro e w0'' ⟨rfl,he⟩;rw[g2];replace E:=zh (E.out.tr he);replace KA:=zh (KA.out.ext he);replace KB:=zh (KB.out.ext he);obtain⟨x0,x1,x2,x3,x4,x5,x6,x7⟩:=Bk.k8 KA.out;have ltA:=KA.out.lt;obtain⟨z0,z1,z2,z3,z4,z5,z6,z7⟩:=Bk.k8 KB.out;have zf:=KB.out.fz;have ltZ:=KB.out.lt;clear he))
 have ltB0:=KB.out.lt;go_upto_region 4 with (go_at_call 54;go_loud (refine(zI0 _ x _ (H.out.ext E.out) htot hsl).mono ?_;rintro e w5 ⟨v5,rfl,hov,ex⟩;obtain⟨cs5,F5,rfl,hen,how⟩:=hov;obtain⟨v0,v1,v2,v3,v4,v5,v7,G0,G1,G2,G3,G4,G5,G7,rfl,⟨t0,u0,rfl,_⟩,⟨t1,u1,rfl,_⟩,⟨t2,u2,rfl,_⟩,⟨t3,u3,rfl,_⟩,⟨t4,u4,rfl,_⟩,⟨t5,u5,rfl,_⟩,⟨t7,u7,rfl,_⟩,_,_⟩:=id hen;have HEN:=zh hen;have HOW:=zh how;have EX:=zh ex;replace KB:=zh (KB.out.ext ex);replace KA:=zh (KA.out.ext ex);clear hen how ex))
 refine zA1 (fun W6=>Ext w5 W6/\Bk W6 w5.heap.size [.slice t0 x.Box.Plan.Parts.length u0,.slice t1 x.Box.Plan.Channels.length u1,.slice t2 x.Box.Plan.Slots.length u2,.slice t3 x.Box.Programs.length u3,.slice t4 x.Box.Cores.length u4,.slice t5 x.Box.Holds.length u5,.int .i64 x.Box.Tick,.slice t7 x.States.length u7] 42) ⟨(zr _).alloc _,Bk.new _ _ _⟩ ?_
 rintro W6 ⟨E6,K6⟩;have hs05:=EX.out.sz;have hw0:=E.out.sz;have ltB5:=KB.out.lt;have om:Om w0''.heap.size W6 w5.heap.size 0 x F5:=⟨_,GT.ext HEN.out E6,fun j u hj=>by rw[Nat.zero_add];exact K6.cell hj,List.nodup_cons.2 ⟨fun hm=>Nat.lt_irrefl _ (HOW.out.lt hm),HOW.out.1⟩,fun k hk=>by
  rcases List.mem_cons.1 hk with rfl|hk
  ·exact⟨hs05,⟨_,_,K6⟩⟩
  ·exact⟨(HOW.out.2 k hk).1,((HOW.out.2 k hk).2).ext E6⟩⟩
 have E7:=zh ((E.out.tr EX.out).tr E6);have KB6:=zh (KB.out.ext E6);have KA6:=zh (KA.out.ext E6);have HF:Hid (∀ y∈F5,w0''.heap.size<=y/\y < w5.heap.size):=zh (fun y hy=>⟨(HOW.out.2 y hy).1,HOW.out.lt hy⟩)
 have hs6:=E6.sz;have hBlt:=K6.lt;have OM6:=zh om
 generalize hB:w5.heap.size=B at *
 have hR0:w.heap.size+1 < w0''.heap.size:=ltB0;have EX6:=zh (EX.out.tr E6);clear om K6 E6 HEN HOW EX KB KA hB d0 d1 d2 d3 d4 d5 d6 d7 x0 x1 x2 x3 x4 x5 x6 x7 z0 z1 z2 z3 z4 z5 z6 z7 zf ltZ;have WB0:=zh (zFt.refl OM6.out);have EB:Hid (Ext w w0''):=E;go_wp2_with fail
 go_loopw [30] (fun v30 wr => ∃ (k:Nat) (Fk:List Nat),k<=T/\v30 = .int .i64 k/\M.WC w0''.heap.size B F5 W6 wr (zEq x t k) Fk) (fun v30 _=>T - (intOf v30).toNat)
 case atStart=>exact⟨0,_,Nat.zero_le _,rfl,WB0.out.wc⟩
 case round =>
  obtain⟨k,Fk,hk,rfl,wc⟩:=hrel;have WC:=zh wc;have hszr:=wc.ch.sz;clear wc;by_cases hkt:k < T
  ·obtain⟨h1,h2⟩:=zMf HWV.out t k (by omega)
   have hlt:(zEq x t k).Box.Tick < 100000:=by omega
   have HEr:=zh (WC.out.ch.ext E7.out (by omega) (fun y hy=>by have:=(HF.out y hy).1;omega))
   have HE0r:Hid (Ext w0'' wr):=zh (WC.out.ch.ext (W:=w0'') EX6.out (by omega) (fun y hy=>(HF.out y hy).1))
   have HC:=zh (zOq w0''.heap.size B (zEq x t k) Fk _ t w0'' wr WC.out.om (HT.out.ext EB.out) HE0r.out (Nat.le_refl _) (by omega) h1 g1 hlt)
   have hnext:=zh (show zEq x t (k+1)=zCf (zEq x t k) t from rfl)
   clear h1 h2 hlt;go_wp2_with (go_at_call 55;refine HC.out.mono ?_;rintro e w7 ⟨⟨vr,rfl⟩,F9,wb⟩;have WC9:Hid (M.WC w0''.heap.size B F5 W6 w7 _ F9):=zh ⟨wb.om,WC.out.ch.trF wb.ch WC.out.sub,fun y hy=>(wb.sub y hy).elim (fun h1=>WC.out.sub y h1) (fun h1 => .inr (Nat.le_trans hszr h1))⟩;clear wb)
   go_roundw
   case rel=>exact⟨k+1,F9,by omega,by go_num,by rw[hnext.out];exact WC9.out⟩
   case measure=>simp[intOf];omega
  ·obtain rfl:k=T:=by omega
   obtain⟨y,hy⟩:∃ y,zEq x t k=y:=⟨_,rfl⟩;have hry:Hid (zC9 x t k q=y):=zh (hres.out.trans hy);rw[hy] at WC;clear hres hy;have KBx:=WC.out.bk KB6.out (by omega) (fun hx=>by have:=(HF.out _ hx).1;omega)
   have EY:=zh (WC.out.ch.ext E7.out (by omega) (fun y hy=>by have:=(HF.out y hy).1;omega))
   have SB:=zh WC.out.sub;have hbf:=WC.out.om.bk.2.2.2;have hb7:=WC.out.lt;obtain⟨p0,q0,p1,q1,p2,q2,p3,q3,p4,q4,p5,q5,p7,q7,y0,y1,y2,y3,y4,y5,y6,y7,hen8,OW⟩:=WC.out.om.openW;obtain⟨z0,z1,z2,z3,z4,z5,z6,z7⟩:=Bk.k8 KBx;have zf:=KBx.fz;have ltZ:=KBx.lt;clear KBx;have HEN:=zh hen8;have HOW:=zh OW;clear hen8 OW;go_wp2;have hZ:w.heap.size+1 ∉ Fk:=fun hm=>(SB.out _ hm).elim (fun h=>by have:=(HF.out _ h).1;omega) (fun h=>by omega)
   refine bodyPost_ret (v:=.agg #[.slice p0 y.Box.Plan.Parts.length q0,.slice p1 y.Box.Plan.Channels.length q1,.slice p2 y.Box.Plan.Slots.length q2,.slice p3 y.Box.Programs.length q3,.slice p4 y.Box.Cores.length q4,.slice p5 y.Box.Holds.length q5,.int .i64 y.Box.Tick,.slice p7 y.States.length q7]) (by simp[results,Tryz.results28,go_sem,z0,z1,z2,z3,z4,z5,z6,z7]) rfl ⟨_,rfl,by rw[hry.out];exact⟨_,_,rfl,zC3 (c:=w.heap.size+1) (o:=0) (ds:=[.slice p0 y.Box.Plan.Parts.length q0,.slice p1 y.Box.Plan.Channels.length q1,.slice p2 y.Box.Plan.Slots.length q2,.slice p3 y.Box.Programs.length q3,.slice p4 y.Box.Cores.length q4,.slice p5 y.Box.Holds.length q5,.int .i64 y.Box.Tick,.slice p7 y.States.length q7]) HEN.out hZ,((HOW.out.mono (by omega)).puts (b:=w.heap.size+1) (o:=0) [.slice p0 y.Box.Plan.Parts.length q0,.slice p1 y.Box.Plan.Channels.length q1,.slice p2 y.Box.Plan.Slots.length q2,.slice p3 y.Box.Programs.length q3,.slice p4 y.Box.Cores.length q4,.slice p5 y.Box.Holds.length q5,.int .i64 y.Box.Tick,.slice p7 y.States.length q7])⟩,?_⟩
   exact Ext.puts (b:=w.heap.size+1) (o:=0) (by omega) [.slice p0 y.Box.Plan.Parts.length q0,.slice p1 y.Box.Plan.Channels.length q1,.slice p2 y.Box.Plan.Slots.length q2,.slice p3 y.Box.Programs.length q3,.slice p4 y.Box.Cores.length q4,.slice p5 y.Box.Holds.length q5,.int .i64 y.Box.Tick,.slice p7 y.States.length q7] EY.out
theorem Ov.openW{L:Nat}{w:World}{v:Value}{y:Watch}(h:Ov L w v y):∃ p0 q0 p1 q1 p2 q2 p3 q3 p4 q4 p5 q5 p7 q7 F,v = .agg #[.slice p0 y.Box.Plan.Parts.length q0,.slice p1 y.Box.Plan.Channels.length q1,.slice p2 y.Box.Plan.Slots.length q2,.slice p3 y.Box.Programs.length q3,.slice p4 y.Box.Cores.length q4,.slice p5 y.Box.Holds.length q5,.int .i64 y.Box.Tick,.slice p7 y.States.length q7]/\GT.enc w [.slice p0 y.Box.Plan.Parts.length q0,.slice p1 y.Box.Plan.Channels.length q1,.slice p2 y.Box.Plan.Slots.length q2,.slice p3 y.Box.Programs.length q3,.slice p4 y.Box.Cores.length q4,.slice p5 y.Box.Holds.length q5,.int .i64 y.Box.Tick,.slice p7 y.States.length q7] y F/\Own L w F:=by
 obtain⟨cs,F,rfl,hen,ho⟩:=h;obtain⟨v0,v1,v2,v3,v4,v5,v7,G0,G1,G2,G3,G4,G5,G7,rfl,⟨t0,u0,rfl,_⟩,⟨t1,u1,rfl,_⟩,⟨t2,u2,rfl,_⟩,⟨t3,u3,rfl,_⟩,⟨t4,u4,rfl,_⟩,⟨t5,u5,rfl,_⟩,⟨t7,u7,rfl,_⟩,_,_⟩:=id hen;exact⟨_,_,_,_,_,_,_,_,_,_,_,_,_,_,F,rfl,hen,ho⟩
theorem zHc(v vt:Value)(x:Watch)(t:List Int)(T:Int)(w:World)(h:Rv w v x)(ht:Rs w vt t) :
  Calls Tryz.prog 10 #[v,vt,.int .i64 T] w fun e w' => ∃ v',e = .returned v'/\Ov w.heap.size w' v' (zC9 x t T 400)/\Ext w w':=by
 have H:=zh h;have HT:=zh ht;obtain⟨ta,tc,rfl,htl⟩:=ht.form;obtain⟨a0,c0,a1,c1,a2,c2,a3,c3,a4,c4,a5,c5,a7,c7,rfl,r6,h0,l0,h1,l1,h2,l2,h3,l3,h4,l4,h5,l5,h7,l7⟩:=h.openWatch;clear h ht;go_enter Tryz.func10,Tryz.ntmps10;go_upto_region 1 with (fail)
 refine zA1 (fun W=>Ext w W/\Bk W w.heap.size [.slice a0 x.Box.Plan.Parts.length c0,.slice a1 x.Box.Plan.Channels.length c1,.slice a2 x.Box.Plan.Slots.length c2,.slice a3 x.Box.Programs.length c3,.slice a4 x.Box.Cores.length c4,.slice a5 x.Box.Holds.length c5,.int .i64 x.Box.Tick,.slice a7 x.States.length c7] 42/\Bk W (w.heap.size+1) [.slice none 0 0,.slice none 0 0,.slice none 0 0,.slice none 0 0,.slice none 0 0,.slice none 0 0,.int .i64 0,.slice none 0 0] 42) ⟨((zr _).alloc _).alloc _,(Bk.new _ _ _).ext ((zr _).alloc _),Bk.new1 _ _ _ _⟩ ?_
 rintro W ⟨e1,kA,kB⟩;have HE0:=zh e1;have KA0:=zh kA;have KB0:=zh kB;obtain⟨d0,d1,d2,d3,d4,d5,d6,d7⟩:=Bk.k8 kA;have ltA:=kA.lt;clear e1 kA kB;have hw0:=HE0.out.sz;obtain⟨y,hy⟩:∃ y,zC9 x t T 400=y:=⟨_,rfl⟩;have HC:=zMj _ _ x t T 400 W (H.out.ext HE0.out) (HT.out.ext HE0.out) (by decide)
 rw[hy] at HC;replace HC:=zh HC;have HY:=zh hy;have ltB0:=KB0.out.lt;clear hy;go_wp2_with (go_at_call 28;refine HC.out.mono ?_;rintro e w5 ⟨v5,rfl,hov,he⟩;obtain⟨p0,q0,p1,q1,p2,q2,p3,q3,p4,q4,p5,q5,p7,q7,F5,rfl,hen,how⟩:=hov.openW;have HEN:=zh hen;have HOW:=zh how;have EX:=zh he;have KBx:=KB0.out.ext he;obtain⟨z0,z1,z2,z3,z4,z5,z6,z7⟩:=Bk.k8 KBx;have zf:=KBx.fz;have ltZ:=KBx.lt;clear KBx hen how he hov)
 have hZ:w.heap.size+1 ∉ F5:=fun hm=>by have:=(HOW.out.2 _ hm).1;omega
 refine bodyPost_ret (v:=.agg #[.slice p0 y.Box.Plan.Parts.length q0,.slice p1 y.Box.Plan.Channels.length q1,.slice p2 y.Box.Plan.Slots.length q2,.slice p3 y.Box.Programs.length q3,.slice p4 y.Box.Cores.length q4,.slice p5 y.Box.Holds.length q5,.int .i64 y.Box.Tick,.slice p7 y.States.length q7]) (by simp[results,Tryz.results10,go_sem,z0,z1,z2,z3,z4,z5,z6,z7]) rfl ⟨_,rfl,by rw[HY.out];exact⟨_,_,rfl,zC3 (c:=w.heap.size+1) (o:=0) (ds:=[.slice p0 y.Box.Plan.Parts.length q0,.slice p1 y.Box.Plan.Channels.length q1,.slice p2 y.Box.Plan.Slots.length q2,.slice p3 y.Box.Programs.length q3,.slice p4 y.Box.Cores.length q4,.slice p5 y.Box.Holds.length q5,.int .i64 y.Box.Tick,.slice p7 y.States.length q7]) HEN.out hZ,((HOW.out.mono (by omega)).puts (b:=w.heap.size+1) (o:=0) [.slice p0 y.Box.Plan.Parts.length q0,.slice p1 y.Box.Plan.Channels.length q1,.slice p2 y.Box.Plan.Slots.length q2,.slice p3 y.Box.Programs.length q3,.slice p4 y.Box.Cores.length q4,.slice p5 y.Box.Holds.length q5,.int .i64 y.Box.Tick,.slice p7 y.States.length q7])⟩,?_⟩
 exact Ext.puts (b:=w.heap.size+1) (o:=0) (by omega) [.slice p0 y.Box.Plan.Parts.length q0,.slice p1 y.Box.Plan.Channels.length q1,.slice p2 y.Box.Plan.Slots.length q2,.slice p3 y.Box.Programs.length q3,.slice p4 y.Box.Cores.length q4,.slice p5 y.Box.Holds.length q5,.int .i64 y.Box.Tick,.slice p7 y.States.length q7] (HE0.out.tr EX.out)
end Sk
