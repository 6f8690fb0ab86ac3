/- Contracts of functions of the given program. -/
import Derived.Test.YtoiekmaenlegcaaGreatNewW
namespace Sk
open Go Go.Proofs Go.RowKit
set_option maxHeartbeats 4000000
set_option maxRecDepth 100000
set_option linter.unusedVariables false
set_option linter.unusedSimpArgs false
noncomputable def zBg(m:Machine)(n:Int):Machine:=if zEm m=true/\zA6 n 0 ((m.Cores.length:Int) - 1)=true then zB1 m n.toNat (zAp ((m.Plan.Parts[n.toNat]?).getD ⟨[],0⟩).Cells) m.Plan.Channels.length else zI2
theorem zEn{m:Machine}{n:Int}(h:zEm m=false):zBg m n=zI2:=if_neg (fun k=>by rw[h] at k;cases k.1)
theorem zEo{m:Machine}{n:Int}(h:zA6 n 0 ((m.Cores.length:Int) - 1)=false):zBg m n=zI2:=if_neg (fun k=>by rw[h] at k;cases k.2)
theorem zCl{m:Machine}{n:Nat}{q:Part}(h:zEm m=true)(hn:n < m.Cores.length)(hq:m.Plan.Parts[n]? = some q):zBg m n=zB1 m n (zAp q.Cells) m.Plan.Channels.length:=by
 have h2:zA6 (n:Int) 0 ((m.Cores.length:Int) - 1)=true:=zA5.2 ⟨by omega,by omega⟩
 unfold zBg;rw[if_pos ⟨h,h2⟩];simp[hq]
theorem zI7(v:Value)(m:Machine)(ni:Int)(w:World)(h:Rv w v m) :
  Calls Tryz.prog 15 #[v,.int .i64 ni] w fun e w' => ∃ v',e = .returned v'/\Ov w.heap.size w' v' (zBg m ni)/\Ext w w':=by
 have H:=zh h;obtain⟨a0,c0,a1,c1,a2,c2,a3,c3,a4,c4,a5,c5,rfl,rt,h0,l0,h1,l1,h2,l2,h3,l3,h4,l4,h5,l5⟩:=h.openMachine;clear h h0 h1 h2 h3 h4 h5;have hwr:IntKind.i64.wrap ((m.Cores.length:Int) - 1)=(m.Cores.length:Int) - 1:=zAx (by omega) (by omega)
 go_enter Tryz.func15,Tryz.ntmps15;go_upto_region 1 with (fail)
 refine zA1 (fun W=>Ext w W/\Bk W w.heap.size [.slice a0 m.Plan.Parts.length c0,.slice a1 m.Plan.Channels.length c1,.slice a2 m.Plan.Slots.length c2,.slice a3 m.Programs.length c3,.slice a4 m.Cores.length c4,.slice a5 m.Holds.length c5,.int .i64 m.Tick] 32/\Bk W (w.heap.size+1) [.slice none 0 0,.slice none 0 0,.slice none 0 0,.slice none 0 0,.slice none 0 0,.slice none 0 0,.int .i64 0] 32) ⟨((zr _).alloc _).alloc _,(Bk.new _ _ _).ext ((zr _).alloc _),Bk.new1 _ _ _ _⟩ ?_
 rintro W ⟨e1,kA,kB⟩;have HE0:=zh e1;obtain⟨d0,d1,d2,d3,d4,d5,d6⟩:=Bk.k7 kA;have KA:=zh kA;have KB:=zh kB;clear e1 kA kB;cases g:zEm m
 ·go_wp2_with (go_at_call 41;refine(zAj _ m _ (H.out.ext HE0.out)).mono ?_;rintro e w0 ⟨rfl,he⟩;rw[g];have E:=zh (HE0.out.tr he);have KAx:=KA.out.ext he;have ltA:=KAx.lt;obtain⟨x0,x1,x2,x3,x4,x5,x6⟩:=Bk.k7 KAx;have KBx:=KB.out.ext he;obtain⟨z0,z1,z2,z3,z4,z5,z6⟩:=Bk.k7 KBx;have zf:=KBx.fz;have ltZ:=KBx.lt;clear KBx;clear he KAx)
  refine bodyPost_ret (v:=.agg #[.slice none 0 0,.slice none 0 0,.slice none 0 0,.slice none 0 0,.slice none 0 0,.slice none 0 0,.int .i64 0]) (by simp[results,Tryz.results15,go_sem,z0,z1,z2,z3,z4,z5,z6]) rfl ⟨_,rfl,by rw[zEn g];exact Ov.mz _ _,(((((((E.out).set (by simp) _).set (by simp) _).set (by simp) _).set (by simp) _).set (by simp) _).set (by simp) _).set (by simp) _⟩
 have hmv:=zBj.1 g;have hnc:=hmv.nc;have hp5:=zAc hmv.pg.set;have hc8:=zBi hmv.pg.set;have htot:GT.tot m<=1048576:=Nat.le_trans (zC1 hmv) (by omega)
 cases g1:zA6 ni 0 ((m.Cores.length:Int) - 1)
 ·clear hnc
  go_wp2_with (first
   | (go_at_call 41;refine(zAj _ m _ (H.out.ext HE0.out)).mono ?_;rintro e w0 ⟨rfl,he⟩;rw[g];have E:=zh (HE0.out.tr he);have KAx:=KA.out.ext he;have ltA:=KAx.lt;obtain⟨x0,x1,x2,x3,x4,x5,x6⟩:=Bk.k7 KAx;have KBx:=KB.out.ext he;obtain⟨z0,z1,z2,z3,z4,z5,z6⟩:=Bk.k7 KBx;have zf:=KBx.fz;have ltZ:=KBx.lt;clear KBx;clear he KAx)
   | (go_at_call 30;refine(zAe _ _ _ _).mono ?_;rintro e w9 ⟨rfl,rfl⟩;rw[g1]))
  refine bodyPost_ret (v:=.agg #[.slice none 0 0,.slice none 0 0,.slice none 0 0,.slice none 0 0,.slice none 0 0,.slice none 0 0,.int .i64 0]) (by simp[results,Tryz.results15,go_sem,z0,z1,z2,z3,z4,z5,z6]) rfl ⟨_,rfl,by rw[zEo g1];exact Ov.mz _ _,(((((((E.out).set (by simp) _).set (by simp) _).set (by simp) _).set (by simp) _).set (by simp) _).set (by simp) _).set (by simp) _⟩
 obtain⟨b1,b2⟩:=zA5.1 g1;obtain⟨n,rfl⟩:∃ n:Nat,ni=n:=⟨ni.toNat,by omega⟩
 have hn:n < m.Cores.length:=by omega
 have hq:m.Plan.Parts[n]? = some m.Plan.Parts[n]:=List.getElem?_eq_getElem (by omega)
 generalize m.Plan.Parts[n]=q at hq
 have hh:m.Plan.Channels.length<=m.Holds.length:=by have:=hmv.nh;omega
 have hn5:n<=5:=by omega
 clear hnc;go_upto_region 3 with (first
  | (go_at_call 41;refine(zAj _ m _ (H.out.ext HE0.out)).mono ?_;rintro e w0 ⟨rfl,he⟩;rw[g];have E:=zh (HE0.out.tr he);have KAx:=KA.out.ext he;have ltA:=KAx.lt;obtain⟨x0,x1,x2,x3,x4,x5,x6⟩:=Bk.k7 KAx;replace KB:=zh (KB.out.ext he);clear he KAx)
  | (go_at_call 30;refine(zAe _ _ _ _).mono ?_;rintro e w9 ⟨rfl,rfl⟩;rw[g1]))
 have ltB0:=KB.out.lt;go_upto_region 4 with (go_at_call 47;refine(zBu _ m _ (H.out.ext E.out) htot).mono ?_;rintro e w5 ⟨v5,rfl,hov,ex⟩;obtain⟨cs5,F5,rfl,hen,how⟩:=hov;obtain⟨v0,v1,v2,v3,v4,v5,G0,G1,G2,G3,G4,G5,rfl,⟨t0,u0,rfl,_⟩,⟨t1,u1,rfl,_⟩,⟨t2,u2,rfl,_⟩,⟨t3,u3,rfl,_⟩,⟨t4,u4,rfl,_⟩,⟨t5,u5,rfl,_⟩,_,_⟩:=id hen;have HEN:=zh hen;have HOW:=zh how;have EX:=zh ex;replace KB:=zh (KB.out.ext ex);clear hen how ex)
 refine zA1 (fun W6=>Ext w5 W6/\Bk W6 w5.heap.size [.slice t0 m.Plan.Parts.length u0,.slice t1 m.Plan.Channels.length u1,.slice t2 m.Plan.Slots.length u2,.slice t3 m.Programs.length u3,.slice t4 m.Cores.length u4,.slice t5 m.Holds.length u5,.int .i64 m.Tick] 32) ⟨(zr _).alloc _,Bk.new _ _ _⟩ ?_
 rintro W6 ⟨E6,K6⟩;have hs05:=EX.out.sz;have hw0:=E.out.sz;have ltB5:=KB.out.lt;have om:Om w0.heap.size W6 w5.heap.size 0 m F5:=⟨_,GT.ext HEN.out E6,fun j u hj=>by rw[Nat.zero_add];exact K6.cell hj,List.nodup_cons.2 ⟨fun hm=>Nat.lt_irrefl _ (HOW.out.lt hm),HOW.out.1⟩,fun k hk=>by
  rcases List.mem_cons.1 hk with rfl|hk
  ·exact⟨hs05,⟨_,_,K6⟩⟩
  ·exact⟨(HOW.out.2 k hk).1,((HOW.out.2 k hk).2).ext E6⟩⟩
 have HR:=zh (zHv w0.heap.size w5.heap.size n m F5 q W6 om (by have:=E6.sz;omega) hn hq hh hc8 hn5)
 have E7:=zh ((E.out.tr EX.out).tr E6);have KB6:=zh (KB.out.ext E6);have HF:Hid (∀ x∈F5,w0.heap.size<=x):=zh (fun x hx=>(HOW.out.2 x hx).1)
 have hs6:=E6.sz;clear om K6 E6;obtain⟨kc,hkc⟩:∃ kc,zAp q.Cells=kc:=⟨_,rfl⟩;rw[hkc] at HR;have hres:=zCl g hn hq;rw[hkc] at hres;replace hres:=zh hres;have ltA0:=ltA;go_wp2_with (go_at_call 48;go_loud (refine HR.out.mono ?_;rintro e w7 ⟨F7,om7,ch7,sub7,⟨v7,rfl⟩,bx7⟩;obtain⟨p0,q0,p1,q1,p2,q2,p3,q3,p4,q4,p5,q5,y0,y1,y2,y3,y4,y5,y6,_⟩:=om7.openM;have EY:=zh (ch7.ext E7.out (by omega) (fun x hx=>by have:=HF.out x hx;omega));have OM7:=zh om7;have SB:=zh sub7;have hb7:=om7.bk.1;have KBx:=ch7.bk KB6.out (by omega) (fun hx=>by have:=HF.out _ hx;omega);obtain⟨z0,z1,z2,z3,z4,z5,z6⟩:=Bk.k7 KBx;have zf:=KBx.fz;have ltZ:=KBx.lt;clear om7 ch7 sub7 bx7 KBx))
 obtain⟨cs8,hen8,hat8,hown8⟩:=OM7.out;obtain⟨v0,v1,v2,v3,v4,v5,_,_,_,_,_,_,rfl,_⟩:=id hen8;obtain rfl:=Option.some.inj ((hat8 0 _ rfl).symm.trans y0);obtain rfl:=Option.some.inj ((hat8 1 _ rfl).symm.trans y1);obtain rfl:=Option.some.inj ((hat8 2 _ rfl).symm.trans y2);obtain rfl:=Option.some.inj ((hat8 3 _ rfl).symm.trans y3);obtain rfl:=Option.some.inj ((hat8 4 _ rfl).symm.trans y4);obtain rfl:=Option.some.inj ((hat8 5 _ rfl).symm.trans y5);have hZ:w.heap.size+1 ∉ F7:=fun hm=>(SB.out _ hm).elim (fun h=>by have:=HF.out _ h;omega) (fun h=>by omega)
 have OW:Own w0.heap.size w7 F7:=⟨(List.nodup_cons.1 hown8.1).2,fun k hk=>hown8.2 k (List.mem_cons_of_mem _ hk)⟩
 refine bodyPost_ret (v:=.agg #[.slice p0 (zB1 m n kc m.Plan.Channels.length).Plan.Parts.length q0,.slice p1 (zB1 m n kc m.Plan.Channels.length).Plan.Channels.length q1,.slice p2 (zB1 m n kc m.Plan.Channels.length).Plan.Slots.length q2,.slice p3 (zB1 m n kc m.Plan.Channels.length).Programs.length q3,.slice p4 (zB1 m n kc m.Plan.Channels.length).Cores.length q4,.slice p5 (zB1 m n kc m.Plan.Channels.length).Holds.length q5,.int .i64 (zB1 m n kc m.Plan.Channels.length).Tick]) (by simp[results,Tryz.results15,go_sem,z0,z1,z2,z3,z4,z5,z6]) rfl ⟨_,rfl,by rw[hres.out];exact⟨_,_,rfl,zAt (c:=w.heap.size+1) (o:=0) (ds:=[.slice p0 (zB1 m n kc m.Plan.Channels.length).Plan.Parts.length q0,.slice p1 (zB1 m n kc m.Plan.Channels.length).Plan.Channels.length q1,.slice p2 (zB1 m n kc m.Plan.Channels.length).Plan.Slots.length q2,.slice p3 (zB1 m n kc m.Plan.Channels.length).Programs.length q3,.slice p4 (zB1 m n kc m.Plan.Channels.length).Cores.length q4,.slice p5 (zB1 m n kc m.Plan.Channels.length).Holds.length q5,.int .i64 (zB1 m n kc m.Plan.Channels.length).Tick]) hen8 hZ,((OW.mono (by omega)).put (b:=w.heap.size+1) (o:=0) (cs:=[.slice p0 (zB1 m n kc m.Plan.Channels.length).Plan.Parts.length q0,.slice p1 (zB1 m n kc m.Plan.Channels.length).Plan.Channels.length q1,.slice p2 (zB1 m n kc m.Plan.Channels.length).Plan.Slots.length q2,.slice p3 (zB1 m n kc m.Plan.Channels.length).Programs.length q3,.slice p4 (zB1 m n kc m.Plan.Channels.length).Cores.length q4,.slice p5 (zB1 m n kc m.Plan.Channels.length).Holds.length q5,.int .i64 (zB1 m n kc m.Plan.Channels.length).Tick]))⟩,?_⟩
 exact(((((((EY.out).set (by simp) _).set (by simp) _).set (by simp) _).set (by simp) _).set (by simp) _).set (by simp) _).set (by simp) _
theorem zIf(v:Value)(m:Machine)(ni:Int)(w:World)(h:Rv w v m) :
  Calls Tryz.prog 38 #[v,.int .i64 ni] w fun e w' => ∃ v',e = .returned v'/\Ov w.heap.size w' v' (zBg m ni)/\Ext w w':=by
 have H:=zh h;obtain⟨a0,c0,a1,c1,a2,c2,a3,c3,a4,c4,a5,c5,rfl,rt,h0,l0,h1,l1,h2,l2,h3,l3,h4,l4,h5,l5⟩:=h.openMachine;clear h h2 h3 h4 h5;have hwr:IntKind.i64.wrap ((m.Cores.length:Int) - 1)=(m.Cores.length:Int) - 1:=zAx (by omega) (by omega)
 go_enter Tryz.func38,Tryz.ntmps38;go_upto_region 1 with (fail)
 refine zA1 (fun W=>Ext w W/\Bk W w.heap.size [.slice a0 m.Plan.Parts.length c0,.slice a1 m.Plan.Channels.length c1,.slice a2 m.Plan.Slots.length c2,.slice a3 m.Programs.length c3,.slice a4 m.Cores.length c4,.slice a5 m.Holds.length c5,.int .i64 m.Tick] 32/\Bk W (w.heap.size+1) [.slice none 0 0,.slice none 0 0,.slice none 0 0,.slice none 0 0,.slice none 0 0,.slice none 0 0,.int .i64 0] 32) ⟨((zr _).alloc _).alloc _,(Bk.new _ _ _).ext ((zr _).alloc _),Bk.new1 _ _ _ _⟩ ?_
 rintro W ⟨e1,kA,kB⟩;have HE0:=zh e1;obtain⟨d0,d1,d2,d3,d4,d5,d6⟩:=Bk.k7 kA;have KA:=zh kA;have KB:=zh kB;clear e1 kA kB;cases g:zEm m
 ·go_wp2_with (go_at_call 67;refine(zAb _ m _ (H.out.ext HE0.out)).mono ?_;rintro e w0 ⟨rfl,he⟩;rw[g];have E:=zh (HE0.out.tr he);have KAx:=KA.out.ext he;have ltA:=KAx.lt;obtain⟨x0,x1,x2,x3,x4,x5,x6⟩:=Bk.k7 KAx;have KBx:=KB.out.ext he;obtain⟨z0,z1,z2,z3,z4,z5,z6⟩:=Bk.k7 KBx;have zf:=KBx.fz;have ltZ:=KBx.lt;clear KBx;clear he KAx)
  refine bodyPost_ret (v:=.agg #[.slice none 0 0,.slice none 0 0,.slice none 0 0,.slice none 0 0,.slice none 0 0,.slice none 0 0,.int .i64 0]) (by simp[results,Tryz.results38,go_sem,z0,z1,z2,z3,z4,z5,z6]) rfl ⟨_,rfl,by rw[zEn g];exact Ov.mz _ _,(((((((E.out).set (by simp) _).set (by simp) _).set (by simp) _).set (by simp) _).set (by simp) _).set (by simp) _).set (by simp) _⟩
 have hmv:=zBj.1 g;have hnc:=hmv.nc;have hp5:=zAc hmv.pg.set;have hc8:=zBi hmv.pg.set;have htot:GT.tot m<=1048576:=Nat.le_trans (zC1 hmv) (by omega)
 cases g1:zA6 ni 0 ((m.Cores.length:Int) - 1)
 ·clear hnc
  go_wp2_with (first
   | (go_at_call 67;refine(zAb _ m _ (H.out.ext HE0.out)).mono ?_;rintro e w0 ⟨rfl,he⟩;rw[g];have E:=zh (HE0.out.tr he);have KAx:=KA.out.ext he;have ltA:=KAx.lt;obtain⟨x0,x1,x2,x3,x4,x5,x6⟩:=Bk.k7 KAx;have KBx:=KB.out.ext he;obtain⟨z0,z1,z2,z3,z4,z5,z6⟩:=Bk.k7 KBx;have zf:=KBx.fz;have ltZ:=KBx.lt;clear KBx;clear he KAx)
   | (go_at_call 35;refine(zA8 _ _ _ _).mono ?_;rintro e w9 ⟨rfl,rfl⟩;rw[g1]))
  refine bodyPost_ret (v:=.agg #[.slice none 0 0,.slice none 0 0,.slice none 0 0,.slice none 0 0,.slice none 0 0,.slice none 0 0,.int .i64 0]) (by simp[results,Tryz.results38,go_sem,z0,z1,z2,z3,z4,z5,z6]) rfl ⟨_,rfl,by rw[zEo g1];exact Ov.mz _ _,(((((((E.out).set (by simp) _).set (by simp) _).set (by simp) _).set (by simp) _).set (by simp) _).set (by simp) _).set (by simp) _⟩
 obtain⟨b1,b2⟩:=zA5.1 g1;obtain⟨n,rfl⟩:∃ n:Nat,ni=n:=⟨ni.toNat,by omega⟩
 have hn:n < m.Cores.length:=by omega
 have hq:m.Plan.Parts[n]? = some m.Plan.Parts[n]:=List.getElem?_eq_getElem (by omega)
 generalize m.Plan.Parts[n]=q at hq
 have hh:m.Plan.Channels.length<=m.Holds.length:=by have:=hmv.nh;omega
 have hn5:n<=5:=by omega
 clear hnc;go_upto_region 3 with (first
  | (go_at_call 67;refine(zAb _ m _ (H.out.ext HE0.out)).mono ?_;rintro e w0 ⟨rfl,he⟩;rw[g];have E:=zh (HE0.out.tr he);have KAx:=KA.out.ext he;have ltA:=KAx.lt;obtain⟨x0,x1,x2,x3,x4,x5,x6⟩:=Bk.k7 KAx;replace KB:=zh (KB.out.ext he);replace KA:=zh (KA.out.ext he);clear he KAx)
  | (go_at_call 35;refine(zA8 _ _ _ _).mono ?_;rintro e w9 ⟨rfl,rfl⟩;rw[g1]))
 have ltB0:=KB.out.lt;go_upto_region 4 with (go_at_call 37;refine(zD7 _ m _ (H.out.ext E.out) htot).mono ?_;rintro e w5 ⟨v5,rfl,hov,ex⟩;obtain⟨cs5,F5,rfl,hen,how⟩:=hov;obtain⟨v0,v1,v2,v3,v4,v5,G0,G1,G2,G3,G4,G5,rfl,⟨t0,u0,rfl,_⟩,⟨t1,u1,rfl,_⟩,⟨t2,u2,rfl,_⟩,⟨t3,u3,rfl,_⟩,⟨t4,u4,rfl,_⟩,⟨t5,u5,rfl,_⟩,_,_⟩:=id hen;have HEN:=zh hen;have HOW:=zh how;have EX:=zh ex;replace KB:=zh (KB.out.ext ex);replace KA:=zh (KA.out.ext ex);clear hen how ex)
 refine zA1 (fun W6=>Ext w5 W6/\Bk W6 w5.heap.size [.slice t0 m.Plan.Parts.length u0,.slice t1 m.Plan.Channels.length u1,.slice t2 m.Plan.Slots.length u2,.slice t3 m.Programs.length u3,.slice t4 m.Cores.length u4,.slice t5 m.Holds.length u5,.int .i64 m.Tick] 32) ⟨(zr _).alloc _,Bk.new _ _ _⟩ ?_
 rintro W6 ⟨E6,K6⟩;have hs05:=EX.out.sz;have hw0:=E.out.sz;have ltB5:=KB.out.lt;have om:Om w0.heap.size W6 w5.heap.size 0 m F5:=⟨_,GT.ext HEN.out E6,fun j u hj=>by rw[Nat.zero_add];exact K6.cell hj,List.nodup_cons.2 ⟨fun hm=>Nat.lt_irrefl _ (HOW.out.lt hm),HOW.out.1⟩,fun k hk=>by
  rcases List.mem_cons.1 hk with rfl|hk
  ·exact⟨hs05,⟨_,_,K6⟩⟩
  ·exact⟨(HOW.out.2 k hk).1,((HOW.out.2 k hk).2).ext E6⟩⟩
 have HF:Hid (∀ x∈F5,w0.heap.size<=x):=zh (fun x hx=>(HOW.out.2 x hx).1)
 have hs6:=E6.sz;have E7:=zh ((E.out.tr EX.out).tr E6);have KB6:=zh (KB.out.ext E6);have KA6:=zh (KA.out.ext E6);obtain⟨kc,hkc⟩:∃ kc,zAp q.Cells=kc:=⟨_,rfl⟩;have hres:=zCl g hn hq;rw[hkc] at hres;replace hres:=zh hres;have hr0:rng kc.At:=by
  rw[<- hkc];unfold zAp;split<;>exact⟨by show(-9223372036854775808:Int)<=0;decide,by show(0:Int)<=9223372036854775807;decide⟩
 have y1:=K6.cell (j:=1) rfl;have y4:=K6.cell (j:=4) rfl;have y5:=K6.cell (j:=5) rfl;have y0:=K6.cell (j:=0) rfl;have y2:=K6.cell (j:=2) rfl;have y3:=K6.cell (j:=3) rfl;have y6:=K6.cell (j:=6) rfl
 generalize hB:w5.heap.size=B at *
 clear HEN HOW EX KB KA K6 E6;have hnp:n < m.Plan.Parts.length:=(List.getElem?_eq_some_iff.1 hq).1;obtain⟨pb,po,x,wa,wc,rfl,hpb,hx,hp0,hp1,hr1,_,_,_⟩:=h0.out.atPart n hnp;obtain rfl:x=q:=Option.some.inj (hx.out.symm.trans hq);obtain⟨ltb,hLb,nbF,hfz⟩:=om.bk;obtain⟨cs0,hen0,hat0,hown⟩:=id om;obtain⟨Fc,lc⟩:=om.lMachineCores;obtain⟨g2,s,Fy,xq0,rfl,hx0,hsubc,li⟩:=(lc.om hown).idxS (by simpa using y4) n hn
 have LC:=zh (lc.comp li);have hsub:∀ k∈g2::Fy,k∈F5/\k≠B:=fun k hk=>Lens.fsub lc hown k (hsubc k hk)
 have hgb:g2≠B:=(hsub g2 (List.mem_cons_self ..)).2;obtain⟨ltg,hLg,ngF,gfz⟩:=(LC.out.om hown).bk;obtain⟨csx,⟨vx,rfl,_,_⟩,hatx⟩:=LC.out.enc;have wc0:=hatx 0 _ rfl;have wc1:=hatx 1 _ rfl;have wc2:=hatx 2 _ rfl;simp only[GT.sz,Nat.add_zero] at wc0 wc1 wc2;have ltA6:=KA6.out.lt;obtain⟨za0,za1⟩:=Bk.k2 KA6.out;have hp1':=(zA0 E7.out hpb).trans hp1;have hpb':=zl hpb E7.out.sz;clear hatx lc li hen0 hat0 hp0 x0 x1 x2 x3 x4 x5 x6;refine zAi rfl 12 [(22,[22]),(23,[23]),(24,[24]),(25,[25]),(26,[26]),(27,[27]),(28,[28]),(29,[29]),(30,[30]),(31,[31]),(32,[32]),(33,[33])]
  (fun i vs u F=>match i,vs with
   | 0,[y]=>y = .pointer (some ⟨B,4,none⟩)
   | 1,[y]=>y = .slice (some ⟨g2,s,none⟩) m.Cores.length u4
   | 2,[y]=>y = .int .i64 n
   | 3,[y]=>y = .pointer (some ⟨w.heap.size,0,none⟩)
   | 4,[y]=>y = .pointer (some ⟨w.heap.size,0,none⟩)
   | 5,[y]=>y = .slice (some ⟨pb,po,none⟩) m.Plan.Parts.length c0
   | 6,[y]=>y = .int .i64 n
   | 7,[y]=>y = .pointer (some ⟨pb,po+n*2,none⟩)
   | 8,[y]=>y = .pointer (some ⟨pb,po+n*2+1,none⟩)
   | 9,[y]=>y = .int .i64 x.Cells
   | 10,[y] => ∃ p q,y = .agg #[.slice p kc.Cells.length q,.int .i64 kc.At,.bool kc.Stopped]/\Sl u (.slice p kc.Cells.length q) kc.Cells F
   | 11,[y]=>y = .pointer (some ⟨g2,s+n*3,none⟩)
   | _,_=>False) (by decide +kernel) ?_ ?_
 ·intro i hi o ho U u F hE hd hap;have e4:=(zA0 hE ltb).trans y4;have e0:=(zA0 hE ltA6).trans za0;have e1:=(zA0 hE hpb').trans hp1';rcases(by omega:i=0\/i=1\/i=2\/i=3\/i=4\/i=5\/i=6\/i=7\/i=8\/i=9\/i=10\/i=11) with rfl|rfl|rfl|rfl|rfl|rfl|rfl|rfl|rfl|rfl|rfl|rfl
  ·cases ho;simp only[fr];intro K hK;go_wp2;exact zk hK _ (fun _ _=>rfl)
  ·cases ho;simp only[fr];obtain⟨⟨d0,-⟩,-⟩:=fa [0] (by decide +kernel) hd
   simp only[fu] at d0;try simp only[d0]
   clear d0;intro K hK;go_wp2;exact zk hK _ (fun _ _=>rfl)
  iterate 2 (·cases ho;simp only[fr];intro K hK;go_wp2;exact zk hK _ (fun _ _=>rfl))
  ·cases ho;simp only[fr];obtain⟨⟨d3,-⟩,-⟩:=fa [3] (by decide +kernel) hd
   simp only[fu] at d3;try simp only[d3]
   clear d3;intro K hK;go_wp2;exact zk hK _ (fun _ _=>rfl)
  ·cases ho;simp only[fr];obtain⟨⟨d3,-⟩,⟨d4,-⟩,-⟩:=fa [3,4] (by decide +kernel) hd
   simp only[fu] at d3 d4;try simp only[d3,d4]
   clear d3 d4;intro K hK;go_wp2;exact zk hK _ (fun _ _=>rfl)
  ·cases ho;simp only[fr];intro K hK;go_wp2;exact zk hK _ (fun _ _=>rfl)
  ·cases ho;simp only[fr];obtain⟨⟨d3,-⟩,⟨d4,-⟩,⟨d5,-⟩,⟨d6,-⟩,-⟩:=fa [3,4,5,6] (by decide +kernel) hd
   simp only[fu] at d3 d4 d5 d6;try simp only[d3,d4,d5,d6]
   clear d3 d4 d5 d6;intro K hK;go_wp2;exact zk hK _ (fun _ _=>rfl)
  ·cases ho;simp only[fr];obtain⟨⟨d3,-⟩,⟨d4,-⟩,⟨d5,-⟩,⟨d6,-⟩,⟨d7,-⟩,-⟩:=fa [3,4,5,6,7] (by decide +kernel) hd
   simp only[fu] at d3 d4 d5 d6 d7;try simp only[d3,d4,d5,d6,d7]
   clear d3 d4 d5 d6 d7;intro K hK;go_wp2;exact zk hK _ (fun _ _=>rfl)
  ·cases ho;simp only[fr];obtain⟨⟨d3,-⟩,⟨d4,-⟩,⟨d5,-⟩,⟨d6,-⟩,⟨d7,-⟩,⟨d8,-⟩,-⟩:=fa [3,4,5,6,7,8] (by decide +kernel) hd
   simp only[fu] at d3 d4 d5 d6 d7 d8;try simp only[d3,d4,d5,d6,d7,d8]
   clear d3 d4 d5 d6 d7 d8;intro K hK;go_wp2;exact zk hK _ (fun _ _=>rfl)
  ·cases ho;simp only[fr];obtain⟨⟨d3,-⟩,⟨d4,-⟩,⟨d5,-⟩,⟨d6,-⟩,⟨d7,-⟩,⟨d8,-⟩,⟨d9,-⟩,-⟩:=fa [3,4,5,6,7,8,9] (by decide +kernel) hd
   simp only[fu] at d3 d4 d5 d6 d7 d8 d9;try simp only[d3,d4,d5,d6,d7,d8,d9]
   intro K hK;go_wp2_with (go_at_call 69;refine(zHz x.Cells _).mono ?_;rintro e w' ⟨v',rfl,hov,ex1⟩;rw[hkc] at hov;obtain⟨cs,F',rfl,⟨v0,rfl,s1,_⟩,ow1⟩:=hov;obtain⟨p9,q9,rfl,_⟩:=id s1)
   exact hK _ F' _ ex1 (fun _ h=>⟨_,_,rfl,s1.ext h⟩) ow1
  ·cases ho;simp only[fr];obtain⟨⟨d0,-⟩,⟨d1,-⟩,⟨d2,-⟩,⟨d3,-⟩,⟨d4,-⟩,⟨d5,-⟩,⟨d6,-⟩,⟨d7,-⟩,⟨d8,-⟩,⟨d9,-⟩,-⟩:=fa [0,1,2,3,4,5,6,7,8,9] (by decide +kernel) hd
   simp only[fu] at d0 d1 d2 d3 d4 d5 d6 d7 d8 d9;try simp only[d0,d1,d2,d3,d4,d5,d6,d7,d8,d9]
   clear d0 d1 d2 d3 d4 d5 d6 d7 d8 d9;intro K hK;go_wp2;exact zk hK _ (fun _ _=>rfl)
 ·intro o ho U u G hE hφ hap;cases ho;simp only[fr];obtain⟨⟨d0,-⟩,⟨d1,-⟩,⟨d2,-⟩,⟨d3,-⟩,⟨d4,-⟩,⟨d5,-⟩,⟨d6,-⟩,⟨d7,-⟩,⟨d8,-⟩,⟨d9,-⟩,⟨d10,o10⟩,⟨d11,-⟩,-⟩:=fb [0,1,2,3,4,5,6,7,8,9,10,11] (by decide +kernel) hφ
  simp only[fu] at d0 d1 d2 d3 d4 d5 d6 d7 d8 d9 d10 d11;try simp only[d0,d1,d2,d3,d4,d5,d6,d7,d8,d9,d11]
  obtain⟨p9,q9,e9,s9⟩:=d10;simp only[e9];have k0:=(zA0 hE ltg).trans wc0;have k1:=(zA0 hE ltg).trans wc1;have k2:=(zA0 hE ltg).trans wc2;have gfu:∀ j,u.frozen? ⟨g2,j,none⟩=false:=(((LC.out.om hown).ext hE).bk).2.2.2;have ltgu:=zl ltg hE.sz;have ngN:g2 ∉ G 10:=fun hm=>by have:=(o10.2 g2 hm).1;omega
  generalize G 10=GN at *
  clear d0 d1 d2 d3 d4 d5 d6 d7 d8 d9 d11 hφ hap e9;go_upto_region 5 with (fail)
  have CG:Chg g2 (s+n*3) 3 Fy W6 (((u.setCell ⟨g2,s+n*3,none⟩ (.slice p9 kc.Cells.length q9)).setCell ⟨g2,s+n*3+1,none⟩ (.int .i64 kc.At)).setCell ⟨g2,s+n*3+2,none⟩ (.bool kc.Stopped)):=(((Chg.ofExt hE ltg).set ⟨by omega,by omega⟩ _).set ⟨by omega,by omega⟩ _).set ⟨by omega,by omega⟩ _
  have SG:=((s9.set (p:=⟨g2,s+n*3,none⟩) ngN (.slice p9 kc.Cells.length q9)).set (p:=⟨g2,s+n*3+1,none⟩) ngN (.int .i64 kc.At)).set (p:=⟨g2,s+n*3+2,none⟩) ngN (.bool kc.Stopped);have AG:At (((u.setCell ⟨g2,s+n*3,none⟩ (.slice p9 kc.Cells.length q9)).setCell ⟨g2,s+n*3+1,none⟩ (.int .i64 kc.At)).setCell ⟨g2,s+n*3+2,none⟩ (.bool kc.Stopped)) g2 (s+n*3) [.slice p9 kc.Cells.length q9,.int .i64 kc.At,.bool kc.Stopped]:=fun j y hj=>by
   match j,hj with
   | 0,hj=>cases hj;exact(zA3 (by omega)).trans ((zA3 (by omega)).trans (zAs k0))
   | 1,hj=>cases hj;exact(zA3 (by omega)).trans (zAs ((zA3 (by omega)).trans k1))
   | 2,hj=>cases hj;exact zAs ((zA3 (by omega)).trans ((zA3 (by omega)).trans k2))
  have OGu:Own w0.heap.size u (g2::GN):=⟨List.nodup_cons.2 ⟨ngN,o10.1⟩,fun k hk=>by
   rcases List.mem_cons.1 hk with rfl|hk
   ·exact⟨hLg,((LC.out.om hown).ext hE).own0⟩
   ·exact⟨by have:=(o10.2 k hk).1;omega,(o10.2 k hk).2⟩⟩
  have OG:=((OGu.set ⟨g2,s+n*3,none⟩ (.slice p9 kc.Cells.length q9)).set ⟨g2,s+n*3+1,none⟩ (.int .i64 kc.At)).set ⟨g2,s+n*3+2,none⟩ (.bool kc.Stopped);obtain⟨F1,om1,sub1,chg1⟩:=LC.out.back w0.heap.size _ kc GN hown CG ⟨_,⟨_,rfl,SG,hr0⟩,AG,OG⟩ (fun k hk => .inr (o10.2 k hk).1)
  have bx:∀ j,(((u.setCell ⟨g2,s+n*3,none⟩ (.slice p9 kc.Cells.length q9)).setCell ⟨g2,s+n*3+1,none⟩ (.int .i64 kc.At)).setCell ⟨g2,s+n*3+2,none⟩ (.bool kc.Stopped)).cell? ⟨B,j,none⟩=W6.cell? ⟨B,j,none⟩:=fun j=>World.cell?_of_block (CG.keep ltb (fun e=>hgb e.symm) (fun hm=>(hsub B (List.mem_cons_of_mem _ hm)).2 rfl))
  have sub2:∀ k∈F1,k∈F5\/W6.heap.size<=k:=fun k hk=>(sub1 k hk).imp (fun h=>h) (fun h=>(o10.2 k h).1)
  refine zA1 (fun W=>Om w0.heap.size W B 0 (zB1 m n kc 0) F1/\Chg B 0 7 F5 W6 W/\∀ j,W.cell? ⟨B,j,none⟩=W6.cell? ⟨B,j,none⟩) ⟨om1,chg1,bx⟩ ?_
  rintro W1 ⟨OM1,CH1,BX1⟩;clear CG SG AG OGu OG om1 sub1 chg1 bx k0 k1 k2 gfu ltgu ngN hE s9 o10 wc0 wc1 wc2 LC hsubc hsub gfz ltg hLg ngF hp1 hp1' om;go_wp2;have lenH:m.Holds.length=m.Plan.Channels.length:=hmv.nh;go_loopw [6] (fun i wr => ∃ (k:Nat) (Fr:List Nat),k<=m.Holds.length/\i = .int .i64 k/\Om w0.heap.size wr B 0 (zB1 m n kc k) Fr/\Chg B 0 7 F5 W6 wr/\(∀ j,wr.cell? ⟨B,j,none⟩=W6.cell? ⟨B,j,none⟩)/\∀ z∈Fr,z∈F5\/W6.heap.size<=z) (fun i _=>m.Holds.length - (intOf i).toNat)
  case atStart=>exact⟨0,F1,Nat.zero_le _,rfl,OM1,CH1,BX1,sub2⟩
  case round =>
   replace lenH:=zh lenH;obtain⟨k,Fr,hk,rfl,om,ch,bxr,subr⟩:=hrel;have OMr:=zh om;have CHr:=zh ch;have BXr:=zh bxr;have v5:=(bxr 5).trans y5;have ltbr:=zl ltb ch.sz;have KAr:=ch.bk KA6.out (by omega) (fun hx=>by have:=HF.out _ hx;omega)
   have KBr:=zh (ch.bk KB6.out (by omega) (fun hx=>by have:=HF.out _ hx;omega))
   have ar1:=KAr.cell (j:=1) rfl;have ltAr:=KAr.lt;have EWr:=zh (ch.ext E7.out (by omega) (fun x hx=>by have:=HF.out x hx;omega))
   have lw2:W6.heap.size<=wr.heap.size:=ch.sz;clear om ch bxr KAr;by_cases hkt:k < m.Holds.length
   ·obtain⟨cb,co,xc,rfl,hcb,hxc,_,_,q2',_,_,_,_,_,_⟩:=h1.out.atChannel k (by have:=lenH.out;omega)
    have hxc':m.Plan.Channels[k]? = some xc:=hxc.out;have hkc:k < m.Plan.Channels.length:=by have:=lenH.out;omega
    have to2:=(zA0 EWr.out hcb).trans q2';by_cases hto:xc.To=(n:Int)
    ·have hte:(xc.To == (n:Int))=true:=by simp[hto]
     have hkl:k < (zD5 n m.Plan.Channels m.Holds k).length:=by rw[zE2];omega
     obtain⟨Fh,lh⟩:=OMr.out.lMachineHolds;obtain⟨_,_,_,ho2⟩:=id OMr.out;have v5':wr.cell? ⟨B,0+5,none⟩=some (.slice t5 m.Holds.length u5):=v5;obtain⟨g3,s3,Fy2,x2h,rfl,hx2,hsub2,lj⟩:=(lh.om ho2).idxS v5' k hkl;have L2:=zh (lh.comp lj);have hs2:∀ z∈g3::Fy2,z∈Fr/\z≠B:=fun z hz=>Lens.fsub lh ho2 z (hsub2 z hz)
     obtain⟨ltg2,hLg2,ngF2,gf2⟩:=(L2.out.om ho2).bk;obtain⟨cs2,⟨vh,rfl,_⟩,hat2⟩:=L2.out.enc;have uc0:=hat2 0 _ rfl;simp only[GT.sz,Nat.add_zero,Nat.mul_one] at uc0;clear lh lj hat2 v5';have hst:zB1 m n kc (k+1)=⟨(zB1 m n kc k).Plan,(zB1 m n kc k).Programs,(zB1 m n kc k).Cores,(zB1 m n kc k).Holds.set k ⟨[]⟩,(zB1 m n kc k).Tick⟩:=by
      simp only[zB1,zCg];unfold zFk;rw[if_pos (by rw[hxc'];simp[hto])]
     have CG2:Chg g3 (s3+k*1) 1 Fy2 wr (wr.setCell ⟨g3,s3+k,none⟩ (.slice none 0 0)):=(Chg.refl _ _ _ _ _).set ⟨by omega,by omega⟩ _
     have OH:Om w0.heap.size (wr.setCell ⟨g3,s3+k,none⟩ (.slice none 0 0)) g3 (s3+k*1) (⟨[]⟩:Hold) []:=⟨[.slice none 0 0],⟨_,rfl,none,0,rfl,Nat.le_refl _,Nat.zero_le _,.inl ⟨rfl,rfl⟩⟩,(fun j y hj=>by
      match j,hj with
      | 0,hj=>cases hj;rw[Nat.mul_one];exact zAs uc0),⟨by simp,fun z hz=>by
      rw[List.mem_singleton] at hz;subst hz;exact⟨hLg2,(L2.out.om ho2).own0.set _ _⟩⟩⟩
     obtain⟨F9,om9,sub9,chg9⟩:=L2.out.back w0.heap.size _ ⟨[]⟩ [] ho2 CG2 OH (fun z hz=>by cases hz)
     have bx9:∀ j,(wr.setCell ⟨g3,s3+k,none⟩ (.slice none 0 0)).cell? ⟨B,j,none⟩=W6.cell? ⟨B,j,none⟩:=fun j=>(World.cell?_of_block (CG2.keep ltbr (fun e=>(hs2 g3 (List.mem_cons_self ..)).2 e.symm) (fun hm=>(hs2 B (List.mem_cons_of_mem _ hm)).2 rfl))).trans (BXr.out j)
     have CH9:Chg B 0 7 F5 W6 (wr.setCell ⟨g3,s3+k,none⟩ (.slice none 0 0)):=CHr.out.trF chg9 (fun z hz=>subr z hz)
     replace om9:Om w0.heap.size (wr.setCell ⟨g3,s3+k,none⟩ (.slice none 0 0)) B 0 (zB1 m n kc (k+1)) F9:=by rw[hst];exact om9
     replace om9:=zh om9;replace CH9:=zh CH9;replace bx9:=zh bx9;clear CG2 OH chg9 hst;go_wp2;exact⟨⟨k+1,F9,by omega,by go_num,om9.out,CH9.out,bx9.out,fun z hz=>(sub9 z hz).elim (fun h=>subr z h) (fun h=>by cases h)⟩,by simp[intOf];omega⟩
    ·have hte:(xc.To == (n:Int))=false:=by simp[hto]
     have hst:zB1 m n kc (k+1)=zB1 m n kc k:=by
      simp only[zB1,zCg];unfold zFk;rw[if_neg (by rw[hxc'];simp[hto])]
     have om9:=OMr.out;rw[<- hst] at om9;replace om9:=zh om9;clear hst;go_wp2;exact⟨⟨k+1,Fr,by omega,by go_num,om9.out,CHr.out,BXr.out,subr⟩,by simp[intOf];omega⟩
   ·obtain rfl:k=m.Holds.length:=by omega
    have e9:zB1 m n kc m.Holds.length=zB1 m n kc m.Plan.Channels.length:=by rw[lenH.out]
    rw[e9] at OMr;have bz0:=(BXr.out 0).trans y0;have bz1:=(BXr.out 1).trans y1;have bz2:=(BXr.out 2).trans y2;have bz3:=(BXr.out 3).trans y3;have bz4:=(BXr.out 4).trans y4;have bz6:=(BXr.out 6).trans y6;have KBx:=KBr.out;obtain⟨z0,z1,z2,z3,z4,z5,z6⟩:=Bk.k7 KBx;have zf:=KBx.fz;have ltZ:=KBx.lt;clear KBx;go_wp2;obtain⟨cs8,hen8,hat8,hown8⟩:=OMr.out;obtain⟨v0,v1,v2,v3,v4,v5,_,_,_,_,_,_,rfl,_⟩:=id hen8;obtain rfl:=Option.some.inj ((hat8 0 _ rfl).symm.trans bz0);obtain rfl:=Option.some.inj ((hat8 1 _ rfl).symm.trans bz1);obtain rfl:=Option.some.inj ((hat8 2 _ rfl).symm.trans bz2);obtain rfl:=Option.some.inj ((hat8 3 _ rfl).symm.trans bz3);obtain rfl:=Option.some.inj ((hat8 4 _ rfl).symm.trans bz4);obtain rfl:=Option.some.inj ((hat8 5 _ rfl).symm.trans ((BXr.out 5).trans y5));have hZ:w.heap.size+1 ∉ Fr:=fun hm=>(subr _ hm).elim (fun h=>by have:=HF.out _ h;omega) (fun h=>by omega)
    have OW:Own w0.heap.size wr Fr:=⟨(List.nodup_cons.1 hown8.1).2,fun k hk=>hown8.2 k (List.mem_cons_of_mem _ hk)⟩
    refine bodyPost_ret (v:=.agg #[.slice t0 m.Plan.Parts.length u0,.slice t1 m.Plan.Channels.length u1,.slice t2 m.Plan.Slots.length u2,.slice t3 m.Programs.length u3,.slice (some ⟨g2,s,none⟩) m.Cores.length u4,.slice t5 m.Holds.length u5,.int .i64 m.Tick]) (by simp[results,Tryz.results38,go_sem,z0,z1,z2,z3,z4,z5,z6]) rfl ⟨_,rfl,by rw[hres.out];exact⟨_,_,rfl,zAt (c:=w.heap.size+1) (o:=0) (ds:=[.slice t0 m.Plan.Parts.length u0,.slice t1 m.Plan.Channels.length u1,.slice t2 m.Plan.Slots.length u2,.slice t3 m.Programs.length u3,.slice (some ⟨g2,s,none⟩) m.Cores.length u4,.slice t5 m.Holds.length u5,.int .i64 m.Tick]) hen8 hZ,((OW.mono (by omega)).put (b:=w.heap.size+1) (o:=0) (cs:=[.slice t0 m.Plan.Parts.length u0,.slice t1 m.Plan.Channels.length u1,.slice t2 m.Plan.Slots.length u2,.slice t3 m.Programs.length u3,.slice (some ⟨g2,s,none⟩) m.Cores.length u4,.slice t5 m.Holds.length u5,.int .i64 m.Tick]))⟩,?_⟩
    exact(((((((EWr.out).set (by simp) _).set (by simp) _).set (by simp) _).set (by simp) _).set (by simp) _).set (by simp) _).set (by simp) _
end Sk
