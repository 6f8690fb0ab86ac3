/- Contracts of functions of the given program. -/
import Derived.Test.YtoiekmaenlegcaaGreatZkWch
import Derived.Test.YtoiekmaenlegcaaGreatRsP
namespace Sk
open Go Go.Proofs Go.RowKit
set_option maxHeartbeats 4000000
set_option maxRecDepth 100000
set_option linter.unusedVariables false
set_option linter.unusedSimpArgs false
theorem Om.openW{L:Nat}{w:World}{b:Nat}{x:Watch}{F:List Nat}(h:Om L w b 0 x F):∃ p0 q0 p1 q1 p2 q2 p3 q3 p4 q4 p5 q5 p7 q7,
  w.cell? ⟨b,0,none⟩=some (.slice p0 x.Box.Plan.Parts.length q0)/\w.cell? ⟨b,1,none⟩=some (.slice p1 x.Box.Plan.Channels.length q1)/\w.cell? ⟨b,2,none⟩=some (.slice p2 x.Box.Plan.Slots.length q2)/\w.cell? ⟨b,3,none⟩=some (.slice p3 x.Box.Programs.length q3)/\w.cell? ⟨b,4,none⟩=some (.slice p4 x.Box.Cores.length q4)/\w.cell? ⟨b,5,none⟩=some (.slice p5 x.Box.Holds.length q5)/\w.cell? ⟨b,6,none⟩=some (.int .i64 x.Box.Tick)/\w.cell? ⟨b,7,none⟩=some (.slice p7 x.States.length q7) /\
  GT.enc w [.slice p0 x.Box.Plan.Parts.length q0,.slice p1 x.Box.Plan.Channels.length q1,.slice p2 x.Box.Plan.Slots.length q2,.slice p3 x.Box.Programs.length q3,.slice p4 x.Box.Cores.length q4,.slice p5 x.Box.Holds.length q5,.int .i64 x.Box.Tick,.slice p7 x.States.length q7] x F/\Own L w F:=by
 obtain⟨cs,hen,hat,ho⟩:=h;obtain⟨v0,v1,v2,v3,v4,v5,v7,G0,G1,G2,G3,G4,G5,G7,rfl,⟨t0,u0,rfl,_⟩,⟨t1,u1,rfl,_⟩,⟨t2,u2,rfl,_⟩,⟨t3,u3,rfl,_⟩,⟨t4,u4,rfl,_⟩,⟨t5,u5,rfl,_⟩,⟨t7,u7,rfl,_⟩,_,_⟩:=id hen;exact⟨_,_,_,_,_,_,_,_,_,_,_,_,_,_,by simpa using hat 0 _ rfl,by simpa using hat 1 _ rfl,by simpa using hat 2 _ rfl,by simpa using hat 3 _ rfl,by simpa using hat 4 _ rfl,by simpa using hat 5 _ rfl,by simpa using hat 6 _ rfl,by simpa using hat 7 _ rfl,hen,(List.nodup_cons.1 ho.1).2,fun k hk=>ho.2 k (List.mem_cons_of_mem _ hk)⟩
noncomputable def zAu(x:Watch)(t:List Int)(n f:Int):Watch × Int :=
 if zBh x && (zD8 t && (zA6 n 0 ((x.States.length:Int) - 1) && zA6 f 0 3)) then zEx x t n.toNat f else (⟨zI2,[]⟩,-1)
theorem zAl{x:Watch}{t:List Int}{n f:Int}(h:(zBh x && (zD8 t && (zA6 n 0 ((x.States.length:Int) - 1) && zA6 f 0 3)))=false):zAu x t n f=(⟨zI2,[]⟩,-1):=if_neg (by rw[h];decide)
theorem zD2{x:Watch}{t:List Int}{n:Nat}{f:Int}(h0:zBh x=true)(h1:zD8 t=true)(h2:zA6 n 0 ((x.States.length:Int) - 1)=true)(h3:zA6 f 0 3=true):zAu x t n f=zEx x t n f:=by
 unfold zAu;rw[h0,h1,h2,h3];rfl
theorem zJ7(v vt:Value)(x:Watch)(t:List Int)(n f:Int)(w:World)(h:Rv w v x)(ht:Rs w vt t) :
  Calls Tryz.prog 7 #[v,vt,.int .i64 n,.int .i64 f] w fun e w' => ∃ v',e = .returned (.tuple #[v',.int .i64 (zAu x t n f).2])/\Ov w.heap.size w' v' (zAu x t n f).1/\Ext w w':=by
 have H:=zh h;have HT:=zh ht;obtain⟨ta,tc,rfl,htl⟩:=ht.form;obtain⟨a0,c0,a1,c1,a2,c2,a3,c3,a4,c4,a5,c5,a7,c7,rfl,r6,h0,l0,h1,l1,h2,l2,h3,l3,h4,l4,h5,l5,h7,l7⟩:=h.openWatch;clear h ht;go_enter Tryz.func7,Tryz.ntmps7;go_upto_region 1 with (fail)
 refine zA1 (fun W=>Ext w W/\Bk W w.heap.size [.slice a0 x.Box.Plan.Parts.length c0,.slice a1 x.Box.Plan.Channels.length c1,.slice a2 x.Box.Plan.Slots.length c2,.slice a3 x.Box.Programs.length c3,.slice a4 x.Box.Cores.length c4,.slice a5 x.Box.Holds.length c5,.int .i64 x.Box.Tick,.slice a7 x.States.length c7] 35/\Bk W (w.heap.size+1) [.slice none 0 0,.slice none 0 0,.slice none 0 0,.slice none 0 0,.slice none 0 0,.slice none 0 0,.int .i64 0,.slice none 0 0] 35) ⟨((zr _).alloc _).alloc _,(Bk.new _ _ _).ext ((zr _).alloc _),Bk.new1 _ _ _ _⟩ ?_
 rintro W ⟨e1,kA,kB⟩;have HE0:=zh e1;have KA0:=zh kA;have KB0:=zh kB;obtain⟨d0,d1,d2,d3,d4,d5,d6,d7⟩:=Bk.k8 kA;have ltA:=kA.lt;clear e1 kA kB;have hwr:IntKind.i64.wrap ((x.States.length:Int) - 1)=(x.States.length:Int) - 1:=zAx (by omega) (by omega)
 cases g0:zBh x
 ·have g:(zBh x && (zD8 t && (zA6 n 0 ((x.States.length:Int) - 1) && zA6 f 0 3)))=false:=by rw[g0];simp
  go_wp2_with (first
   | (go_at_call 13;refine(zAn _ x _ (H.out.ext HE0.out)).mono ?_;rintro e w0 ⟨rfl,he⟩;rw[g0];have E:=zh (HE0.out.tr he);have KA:=zh (KA0.out.ext he);have KB:=zh (KB0.out.ext he);obtain⟨x0,x1,x2,x3,x4,x5,x6,x7⟩:=Bk.k8 KA.out;have ltA:=KA.out.lt;obtain⟨z0,z1,z2,z3,z4,z5,z6,z7⟩:=Bk.k8 KB.out;have zf:=KB.out.fz;have ltZ:=KB.out.lt;clear he)
   | (go_at_call 29;refine(zB0 _ t _ (HT.out.ext E.out)).mono ?_;rintro e w0' ⟨rfl,he⟩;rw[g1];replace E:=zh (E.out.tr he);replace KA:=zh (KA.out.ext he);replace KB:=zh (KB.out.ext he);obtain⟨x0,x1,x2,x3,x4,x5,x6,x7⟩:=Bk.k8 KA.out;have ltA:=KA.out.lt;obtain⟨z0,z1,z2,z3,z4,z5,z6,z7⟩:=Bk.k8 KB.out;have zf:=KB.out.fz;have ltZ:=KB.out.lt;clear he)
   | (go_at_call 30;refine(zAe _ _ _ _).mono ?_;rintro e w9 ⟨rfl,rfl⟩;rw[g2])
   | (go_at_call 31;refine(zD6 _ _).mono ?_;rintro e w9 ⟨rfl,rfl⟩;rw[g3]))
  refine bodyPost_ret (v:=.tuple #[.agg #[.slice none 0 0,.slice none 0 0,.slice none 0 0,.slice none 0 0,.slice none 0 0,.slice none 0 0,.int .i64 0,.slice none 0 0],.int .i64 (-1)]) (by simp[results,Tryz.results7,go_sem,z0,z1,z2,z3,z4,z5,z6,z7]) rfl ⟨_,by rw[zAl g],by rw[zAl g];exact Ov.wz _ _,((((((((E.out).set (by simp) _).set (by simp) _).set (by simp) _).set (by simp) _).set (by simp) _).set (by simp) _).set (by simp) _).set (by simp) _⟩
 cases g1:zD8 t
 ·have g:(zBh x && (zD8 t && (zA6 n 0 ((x.States.length:Int) - 1) && zA6 f 0 3)))=false:=by rw[g1];simp
  go_wp2_with (first
   | (go_at_call 13;refine(zAn _ x _ (H.out.ext HE0.out)).mono ?_;rintro e w0 ⟨rfl,he⟩;rw[g0];have E:=zh (HE0.out.tr he);have KA:=zh (KA0.out.ext he);have KB:=zh (KB0.out.ext he);obtain⟨x0,x1,x2,x3,x4,x5,x6,x7⟩:=Bk.k8 KA.out;have ltA:=KA.out.lt;obtain⟨z0,z1,z2,z3,z4,z5,z6,z7⟩:=Bk.k8 KB.out;have zf:=KB.out.fz;have ltZ:=KB.out.lt;clear he)
   | (go_at_call 29;refine(zB0 _ t _ (HT.out.ext E.out)).mono ?_;rintro e w0' ⟨rfl,he⟩;rw[g1];replace E:=zh (E.out.tr he);replace KA:=zh (KA.out.ext he);replace KB:=zh (KB.out.ext he);obtain⟨x0,x1,x2,x3,x4,x5,x6,x7⟩:=Bk.k8 KA.out;have ltA:=KA.out.lt;obtain⟨z0,z1,z2,z3,z4,z5,z6,z7⟩:=Bk.k8 KB.out;have zf:=KB.out.fz;have ltZ:=KB.out.lt;clear he)
   | (go_at_call 30;refine(zAe _ _ _ _).mono ?_;rintro e w9 ⟨rfl,rfl⟩;rw[g2])
   | (go_at_call 31;refine(zD6 _ _).mono ?_;rintro e w9 ⟨rfl,rfl⟩;rw[g3]))
  refine bodyPost_ret (v:=.tuple #[.agg #[.slice none 0 0,.slice none 0 0,.slice none 0 0,.slice none 0 0,.slice none 0 0,.slice none 0 0,.int .i64 0,.slice none 0 0],.int .i64 (-1)]) (by simp[results,Tryz.results7,go_sem,z0,z1,z2,z3,z4,z5,z6,z7]) rfl ⟨_,by rw[zAl g],by rw[zAl g];exact Ov.wz _ _,((((((((E.out).set (by simp) _).set (by simp) _).set (by simp) _).set (by simp) _).set (by simp) _).set (by simp) _).set (by simp) _).set (by simp) _⟩
 cases g2:zA6 n 0 ((x.States.length:Int) - 1)
 ·have g:(zBh x && (zD8 t && (zA6 n 0 ((x.States.length:Int) - 1) && zA6 f 0 3)))=false:=by rw[g2];simp
  go_wp2_with (first
   | (go_at_call 13;refine(zAn _ x _ (H.out.ext HE0.out)).mono ?_;rintro e w0 ⟨rfl,he⟩;rw[g0];have E:=zh (HE0.out.tr he);have KA:=zh (KA0.out.ext he);have KB:=zh (KB0.out.ext he);obtain⟨x0,x1,x2,x3,x4,x5,x6,x7⟩:=Bk.k8 KA.out;have ltA:=KA.out.lt;obtain⟨z0,z1,z2,z3,z4,z5,z6,z7⟩:=Bk.k8 KB.out;have zf:=KB.out.fz;have ltZ:=KB.out.lt;clear he)
   | (go_at_call 29;refine(zB0 _ t _ (HT.out.ext E.out)).mono ?_;rintro e w0' ⟨rfl,he⟩;rw[g1];replace E:=zh (E.out.tr he);replace KA:=zh (KA.out.ext he);replace KB:=zh (KB.out.ext he);obtain⟨x0,x1,x2,x3,x4,x5,x6,x7⟩:=Bk.k8 KA.out;have ltA:=KA.out.lt;obtain⟨z0,z1,z2,z3,z4,z5,z6,z7⟩:=Bk.k8 KB.out;have zf:=KB.out.fz;have ltZ:=KB.out.lt;clear he)
   | (go_at_call 30;refine(zAe _ _ _ _).mono ?_;rintro e w9 ⟨rfl,rfl⟩;rw[g2])
   | (go_at_call 31;refine(zD6 _ _).mono ?_;rintro e w9 ⟨rfl,rfl⟩;rw[g3]))
  refine bodyPost_ret (v:=.tuple #[.agg #[.slice none 0 0,.slice none 0 0,.slice none 0 0,.slice none 0 0,.slice none 0 0,.slice none 0 0,.int .i64 0,.slice none 0 0],.int .i64 (-1)]) (by simp[results,Tryz.results7,go_sem,z0,z1,z2,z3,z4,z5,z6,z7]) rfl ⟨_,by rw[zAl g],by rw[zAl g];exact Ov.wz _ _,((((((((E.out).set (by simp) _).set (by simp) _).set (by simp) _).set (by simp) _).set (by simp) _).set (by simp) _).set (by simp) _).set (by simp) _⟩
 cases g3:zA6 f 0 3
 ·have g:(zBh x && (zD8 t && (zA6 n 0 ((x.States.length:Int) - 1) && zA6 f 0 3)))=false:=by rw[g3];simp
  go_wp2_with (first
   | (go_at_call 13;refine(zAn _ x _ (H.out.ext HE0.out)).mono ?_;rintro e w0 ⟨rfl,he⟩;rw[g0];have E:=zh (HE0.out.tr he);have KA:=zh (KA0.out.ext he);have KB:=zh (KB0.out.ext he);obtain⟨x0,x1,x2,x3,x4,x5,x6,x7⟩:=Bk.k8 KA.out;have ltA:=KA.out.lt;obtain⟨z0,z1,z2,z3,z4,z5,z6,z7⟩:=Bk.k8 KB.out;have zf:=KB.out.fz;have ltZ:=KB.out.lt;clear he)
   | (go_at_call 29;refine(zB0 _ t _ (HT.out.ext E.out)).mono ?_;rintro e w0' ⟨rfl,he⟩;rw[g1];replace E:=zh (E.out.tr he);replace KA:=zh (KA.out.ext he);replace KB:=zh (KB.out.ext he);obtain⟨x0,x1,x2,x3,x4,x5,x6,x7⟩:=Bk.k8 KA.out;have ltA:=KA.out.lt;obtain⟨z0,z1,z2,z3,z4,z5,z6,z7⟩:=Bk.k8 KB.out;have zf:=KB.out.fz;have ltZ:=KB.out.lt;clear he)
   | (go_at_call 30;refine(zAe _ _ _ _).mono ?_;rintro e w9 ⟨rfl,rfl⟩;rw[g2])
   | (go_at_call 31;refine(zD6 _ _).mono ?_;rintro e w9 ⟨rfl,rfl⟩;rw[g3]))
  refine bodyPost_ret (v:=.tuple #[.agg #[.slice none 0 0,.slice none 0 0,.slice none 0 0,.slice none 0 0,.slice none 0 0,.slice none 0 0,.int .i64 0,.slice none 0 0],.int .i64 (-1)]) (by simp[results,Tryz.results7,go_sem,z0,z1,z2,z3,z4,z5,z6,z7]) rfl ⟨_,by rw[zAl g],by rw[zAl g];exact Ov.wz _ _,((((((((E.out).set (by simp) _).set (by simp) _).set (by simp) _).set (by simp) _).set (by simp) _).set (by simp) _).set (by simp) _).set (by simp) _⟩
 obtain⟨b1,b2⟩:=zA5.1 g2;obtain⟨n,rfl⟩:∃ k:Nat,n=k:=⟨n.toNat,by omega⟩
 have hn:n < x.States.length:=by omega
 have hres:=zh (zD2 g0 g1 g2 g3);have hwv:=zBf.1 g0;have hff:=zA5.1 g3;have htot:GT.tot x.Box<=1048576:=Nat.le_trans (zC1 hwv.box) (by omega)
 have hsl:x.States.length<=100000000:=by have:=hwv.ns;have:=hwv.box.nc;have:=zAc hwv.box.pg.set;omega
 have HWV:=zh hwv;have HFF:=zh hff;clear hwv hff;go_upto_region 3 with (first
   | (go_at_call 13;refine(zAn _ x _ (H.out.ext HE0.out)).mono ?_;rintro e w0 ⟨rfl,he⟩;rw[g0];have E:=zh (HE0.out.tr he);have KA:=zh (KA0.out.ext he);have KB:=zh (KB0.out.ext he);obtain⟨x0,x1,x2,x3,x4,x5,x6,x7⟩:=Bk.k8 KA.out;have ltA:=KA.out.lt;obtain⟨z0,z1,z2,z3,z4,z5,z6,z7⟩:=Bk.k8 KB.out;have zf:=KB.out.fz;have ltZ:=KB.out.lt;clear he)
   | (go_at_call 29;refine(zB0 _ t _ (HT.out.ext E.out)).mono ?_;rintro e w0' ⟨rfl,he⟩;rw[g1];replace E:=zh (E.out.tr he);replace KA:=zh (KA.out.ext he);replace KB:=zh (KB.out.ext he);obtain⟨x0,x1,x2,x3,x4,x5,x6,x7⟩:=Bk.k8 KA.out;have ltA:=KA.out.lt;obtain⟨z0,z1,z2,z3,z4,z5,z6,z7⟩:=Bk.k8 KB.out;have zf:=KB.out.fz;have ltZ:=KB.out.lt;clear he)
   | (go_at_call 30;refine(zAe _ _ _ _).mono ?_;rintro e w9 ⟨rfl,rfl⟩;rw[g2])
   | (go_at_call 31;refine(zD6 _ _).mono ?_;rintro e w9 ⟨rfl,rfl⟩;rw[g3]))
 have ltB0:=KB.out.lt;go_upto_region 4 with (go_at_call 32;go_loud (refine(zE6 _ x _ (H.out.ext E.out) htot hsl).mono ?_;rintro e w5 ⟨v5,rfl,hov,ex⟩;obtain⟨cs5,F5,rfl,hen,how⟩:=hov;obtain⟨v0,v1,v2,v3,v4,v5,v7,G0,G1,G2,G3,G4,G5,G7,rfl,⟨t0,u0,rfl,_⟩,⟨t1,u1,rfl,_⟩,⟨t2,u2,rfl,_⟩,⟨t3,u3,rfl,_⟩,⟨t4,u4,rfl,_⟩,⟨t5,u5,rfl,_⟩,⟨t7,u7,rfl,_⟩,_,_⟩:=id hen;have HEN:=zh hen;have HOW:=zh how;have EX:=zh ex;replace KB:=zh (KB.out.ext ex);replace KA:=zh (KA.out.ext ex);clear hen how ex))
 refine zA1 (fun W6=>Ext w5 W6/\Bk W6 w5.heap.size [.slice t0 x.Box.Plan.Parts.length u0,.slice t1 x.Box.Plan.Channels.length u1,.slice t2 x.Box.Plan.Slots.length u2,.slice t3 x.Box.Programs.length u3,.slice t4 x.Box.Cores.length u4,.slice t5 x.Box.Holds.length u5,.int .i64 x.Box.Tick,.slice t7 x.States.length u7] 35) ⟨(zr _).alloc _,Bk.new _ _ _⟩ ?_
 rintro W6 ⟨E6,K6⟩;have hs05:=EX.out.sz;have hw0:=E.out.sz;have ltB5:=KB.out.lt;have om:Om w0'.heap.size W6 w5.heap.size 0 x F5:=⟨_,GT.ext HEN.out E6,fun j u hj=>by rw[Nat.zero_add];exact K6.cell hj,List.nodup_cons.2 ⟨fun hm=>Nat.lt_irrefl _ (HOW.out.lt hm),HOW.out.1⟩,fun k hk=>by
  rcases List.mem_cons.1 hk with rfl|hk
  ·exact⟨hs05,⟨_,_,K6⟩⟩
  ·exact⟨(HOW.out.2 k hk).1,((HOW.out.2 k hk).2).ext E6⟩⟩
 have E7:=zh ((E.out.tr EX.out).tr E6);have KB6:=zh (KB.out.ext E6);have KA6:=zh (KA.out.ext E6);have HF:Hid (∀ y∈F5,w0'.heap.size<=y/\y < w5.heap.size):=zh (fun y hy=>⟨(HOW.out.2 y hy).1,HOW.out.lt hy⟩)
 have hs6:=E6.sz;have hBlt:=K6.lt;have OM6:=zh om
 generalize hB:w5.heap.size=B at *
 have hR0:w.heap.size+1 < w0'.heap.size:=ltB0;clear om K6 E6 HEN HOW EX KB KA hB d0 d1 d2 d3 d4 d5 d6 d7 x0 x1 x2 x3 x4 x5 x6 x7 z0 z1 z2 z3 z4 z5 z6 z7 zf ltZ;obtain⟨r,hr⟩:∃ r,zEx x t n f=r:=⟨_,rfl⟩;have HC:=zKh w0'.heap.size B n x F5 (.slice ta t.length tc) t f W6 OM6.out (HT.out.ext E7.out) (by omega) HWV.out g1 hn HFF.out
 rw[hr] at HC hres;obtain⟨y,act⟩:=r;simp only at HC;replace HC:=zh HC;go_upto_region 5 with (go_at_call 33;refine HC.out.mono ?_;rintro e w7 ⟨rfl,F7,wb⟩;have WBh:=zh wb;have hsz7:=wb.ch.sz;clear wb)
 have KBx:=WBh.out.bk KB6.out (by omega) (fun hx=>by have:=(HF.out _ hx).1;omega)
 have EY:=zh (WBh.out.ch.ext E7.out (by omega) (fun y hy=>by have:=(HF.out y hy).1;omega))
 have SB:=zh WBh.out.sub;have hbf:=WBh.out.om.bk.2.2.2;have hb7:=WBh.out.lt;obtain⟨p0,q0,p1,q1,p2,q2,p3,q3,p4,q4,p5,q5,p7,q7,y0,y1,y2,y3,y4,y5,y6,y7,hen8,OW⟩:=WBh.out.om.openW;obtain⟨z0,z1,z2,z3,z4,z5,z6,z7⟩:=Bk.k8 KBx;have zf:=KBx.fz;have ltZ:=KBx.lt;clear KBx;have HEN:=zh hen8;have HOW:=zh OW;clear hen8 OW;go_wp2;have hZ:w.heap.size+1 ∉ F7:=fun hm=>(SB.out _ hm).elim (fun h=>by have:=(HF.out _ h).1;omega) (fun h=>by omega)
 refine bodyPost_ret (v:=.tuple #[.agg #[.slice p0 y.Box.Plan.Parts.length q0,.slice p1 y.Box.Plan.Channels.length q1,.slice p2 y.Box.Plan.Slots.length q2,.slice p3 y.Box.Programs.length q3,.slice p4 y.Box.Cores.length q4,.slice p5 y.Box.Holds.length q5,.int .i64 y.Box.Tick,.slice p7 y.States.length q7],.int .i64 act]) (by simp[results,Tryz.results7,go_sem,z0,z1,z2,z3,z4,z5,z6,z7]) rfl ⟨_,by rw[hres.out],by rw[hres.out];exact⟨_,_,rfl,zAt (c:=w.heap.size+1) (o:=0) (ds:=[.slice p0 y.Box.Plan.Parts.length q0,.slice p1 y.Box.Plan.Channels.length q1,.slice p2 y.Box.Plan.Slots.length q2,.slice p3 y.Box.Programs.length q3,.slice p4 y.Box.Cores.length q4,.slice p5 y.Box.Holds.length q5,.int .i64 y.Box.Tick,.slice p7 y.States.length q7]) HEN.out hZ,((HOW.out.mono (by omega)).puts (b:=w.heap.size+1) (o:=0) [.slice p0 y.Box.Plan.Parts.length q0,.slice p1 y.Box.Plan.Channels.length q1,.slice p2 y.Box.Plan.Slots.length q2,.slice p3 y.Box.Programs.length q3,.slice p4 y.Box.Cores.length q4,.slice p5 y.Box.Holds.length q5,.int .i64 y.Box.Tick,.slice p7 y.States.length q7])⟩,?_⟩
 exact Ext.puts (b:=w.heap.size+1) (o:=0) (by omega) [.slice p0 y.Box.Plan.Parts.length q0,.slice p1 y.Box.Plan.Channels.length q1,.slice p2 y.Box.Plan.Slots.length q2,.slice p3 y.Box.Programs.length q3,.slice p4 y.Box.Cores.length q4,.slice p5 y.Box.Holds.length q5,.int .i64 y.Box.Tick,.slice p7 y.States.length q7] EY.out
set_option maxHeartbeats 1600000
theorem Chg.puts{b n:Nat}{F:List Nat}{a:World}(cs:List Value):∀ {c:World} {o:Nat},Chg b 0 n F a c->o+cs.length<=n->Chg b 0 n F a (zA9 c b o cs):=by
 induction cs with
 | nil=>intro c o h _;exact h
 | cons x cs ih =>
  intro c o h hl;rw[zA9];simp only[List.length_cons] at hl;exact ih (h.set ⟨Nat.zero_le _,by omega⟩ x) (by omega)
structure zNd (L b:Nat) (F:List Nat) (w W:World) (x:Watch) (F':List Nat):Prop where
 om:Om L W b 0 x F'
 ch:Chg b 0 8 F w W
 sub:∀ k∈F',k∈F\/w.heap.size<=k
theorem zDc.wc{L b:Nat}{F F':List Nat}{w W:World}{x:Watch}(h:zDc L b F w W x F'):zNd L b F w W x F':=⟨h.om,h.ch,h.sub⟩
theorem zNd.lt{L b:Nat}{F F':List Nat}{w W:World}{x:Watch}(h:zNd L b F w W x F'):b < W.heap.size:=h.om.bk.1
theorem zNd.bk{L b:Nat}{F F':List Nat}{w W:World}{x:Watch}(h:zNd L b F w W x F'){k:Nat}{cs:List Value}{T:TypeId}(hk:Bk w k cs T)(hb:k≠b)(hF:k ∉ F):Bk W k cs T:=h.ch.bk hk hb hF
theorem zDc.boxNew{L b:Nat}{F F':List Nat}{w W W2:World}{x:Watch}(h:zDc L b F w W x F')(he:Ext W W2){m':Machine}{cs:List Value}{K:List Nat}(hen:GT.enc W2 cs m' K)(how:Own W.heap.size W2 K)(hL:L<=W.heap.size) :
  ∃ F2,zNd L b F w (zA9 W2 b 0 cs) { x with Box:=m' } F2:=by
 obtain⟨_,_,_,ho⟩:=id h.om;obtain⟨Fm,lb⟩:=h.om.lWatchBox;have hl:=GT.len hen;have hlt:=h.lt;have hbK:b ∉ K:=fun hm=>by have:=(how.2 b hm).1;omega
 obtain⟨c0,e0,a0⟩:=lb.enc;have hl0:=GT.len e0;have hat:At (zA9 W2 b 0 cs) b (0+0) cs:=zEh (fun j hj=>by
  obtain⟨v,hv⟩:∃ v,c0[j]? = some v:=⟨_,List.getElem?_eq_getElem (by omega)⟩
  have:=a0 j v hv
  rw[Nat.add_zero] at this;exact⟨v,(zA0 he hlt).trans this⟩)
 have hfb:=(h.om.own0.ext he);obtain⟨F2,h1,h2,h3⟩:=lb.back L (zA9 W2 b 0 cs) m' K ho (Chg.puts cs (Chg.ofExt he hlt) (by rw[hl];exact Nat.le_refl _)) ⟨cs,zAt hen hbK,hat,List.nodup_cons.2 ⟨hbK,how.1⟩,fun k hk=>by
  rcases List.mem_cons.1 hk with rfl|hk
  ·exact⟨h.om.bk.2.1,zBw hfb⟩
  ·exact⟨Nat.le_trans hL (how.2 k hk).1,zBw (how.2 k hk).2⟩⟩ (fun k hk => .inr (how.2 k hk).1)
 refine⟨F2,h1,h.ch.trF h3 h.sub,fun k hk=>?_⟩
 rcases h2 k hk with h4|h4
 ·exact h.sub k h4
 ·exact .inr (Nat.le_trans h.ch.sz (how.2 k h4).1)
theorem Om.newW{L:Nat}{u:World}{B:Nat}{cs:List Value}{F:List Nat}{x:Watch}{T:TypeId}{c0:List Value}(hen:GT.enc u cs x F)(how:Own L u F)(hb:Bk u B c0 T)(h0:c0.length=8)(hL:L<=B)(hB:B ∉ F):Om L (zA9 u B 0 cs) B 0 x F:=by
 have hl:=GT.len hen;have hk:=hb.puts cs (by rw[h0,hl];rfl)
 exact⟨cs,zAt hen hB,fun j v hj=>by rw[Nat.zero_add];exact hk.cell hj,List.nodup_cons.2 ⟨hB,how.1⟩,fun k hk2=>by
  rcases List.mem_cons.1 hk2 with rfl|hk2
  ·exact⟨hL,_,_,hk⟩
  ·exact⟨(how.2 k hk2).1,zBw (how.2 k hk2).2⟩⟩
end Sk
