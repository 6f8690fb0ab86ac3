/- Contracts of functions of the given program. -/
import Derived.Test.YtbekofpkcahbkaaVStep
import Derived.Test.YtbekofpkcahbkaaVHoldS
import Derived.Test.YtbekofpkcahbkaaL18M
namespace Sk
open Go Go.Proofs Go.RowKit
set_option maxHeartbeats 8000000
set_option maxRecDepth 100000
set_option linter.unusedVariables false
set_option linter.unusedSimpArgs false
theorem Om.putCore{L M:Nat}{w W:World}{g o:Nat}{x y:Core}{F G:List Nat}{v:Value}(h:Om L w g o x F)(he:Ext w W)(hL:L<=M)(hM:w.heap.size<=M)(hy:GT.enc W [v,.int .i64 y.At,.bool y.Stopped] y G)(hG:Own M W G) :
  Chg g o 3 F w (((W.setCell ⟨g,o,none⟩ v).setCell ⟨g,o+1,none⟩ (.int .i64 y.At)).setCell ⟨g,o+2,none⟩ (.bool y.Stopped))/\Om L (((W.setCell ⟨g,o,none⟩ v).setCell ⟨g,o+1,none⟩ (.int .i64 y.At)).setCell ⟨g,o+2,none⟩ (.bool y.Stopped)) g o y G/\∀ k∈G,w.heap.size<=k:=by
 obtain⟨hlt,hLg,hgF,_⟩:=h.bk;obtain⟨a,c,h0,h1,h2,_⟩:=h.openC;have hgG:g ∉ G:=fun hm=>by have:=(hG.2 g hm).1;omega
 have hne:∀ k∈G,k≠g:=fun k hk e=>hgG (e ▸ hk)
 refine⟨(((Chg.ofExt he hlt).set ⟨by omega,by omega⟩ v).set ⟨by omega,by omega⟩ _).set ⟨by omega,by omega⟩ _,⟨_,GT.keep hy (fun k hk=>(zA3 (hne k hk)).trans ((zA3 (hne k hk)).trans (zA3 (hne k hk)))),fun j u hj=>?_,List.nodup_cons.2 ⟨hgG,hG.1⟩,fun k hk=>?_⟩,fun k hk=>Nat.le_trans hM (hG.2 k hk).1⟩
 ·match j,hj with
  | 0,hj=>cases hj;exact(zA7 (by omega)).trans ((zA7 (by omega)).trans (zB8 ((zA0 he hlt).trans h0)))
  | 1,hj=>cases hj;exact(zA7 (by omega)).trans (zB8 ((zA7 (by omega)).trans ((zA0 he hlt).trans h1)))
  | 2,hj=>cases hj;exact zB8 ((zA7 (by omega)).trans ((zA7 (by omega)).trans ((zA0 he hlt).trans h2)))
 ·rcases List.mem_cons.1 hk with rfl|hk
  ·exact⟨hLg,(((h.own0.ext he).set _ _).set _ _).set _ _⟩
  ·exact⟨Nat.le_trans hL (hG.2 k hk).1,(((hG.2 k hk).2.set _ _).set _ _).set _ _⟩
theorem zBw.core2{L b:Nat}{F F':List Nat}{w W:World}{m:Machine}(h:zBw L b F w W m F'){g s n c N:Nat}(hv:w.cell? ⟨b,4,none⟩=some (.slice (some ⟨g,s,none⟩) n c))(hN:N < m.Cores.length) :
  ∃ k Fy,m.Cores[N]? = some k/\Om L W g (s+N*3) k Fy/\(∀ x∈g::Fy,x∈F'/\x≠b) /\
   ∀ W' k' Fy',Chg g (s+N*3) 3 Fy W W'->Om L W' g (s+N*3) k' Fy'->(∀ x∈Fy',x∈Fy\/W.heap.size<=x)->∃ F2,zBw L b F w W' { m with Cores:=m.Cores.set N k' } F2/\∀ x∈F2,x∈F'\/x∈Fy':=by
 obtain⟨_,_,_,ho⟩:=id h.om;obtain⟨Fc,lc⟩:=h.om.lMachineCores;obtain⟨g',s',Fy,k,e,hx,hsub,li⟩:=(lc.om ho).idxS (by rw[show 0+4=4 from rfl];exact(h.cl 4 (by decide)).trans hv) N hN
 cases e;have LC:=lc.comp li;have hs:∀ x∈g::Fy,x∈F'/\x≠b:=fun x hx=>Lens.fsub lc ho x (hsub x hx)
 refine⟨k,Fy,hx.out,LC.om ho,hs,fun W' k' Fy' hc hk' hf=>?_⟩
 obtain⟨F2,h1,h2,h3⟩:=LC.back L W' k' Fy' ho hc hk' hf;have hb:∀ j,W'.cell? ⟨b,j,none⟩=W.cell? ⟨b,j,none⟩:=fun j=>World.cell?_of_block (hc.keep h.lt (fun e=>(hs g (List.mem_cons_self ..)).2 e.symm) (fun hm=>(hs b (List.mem_cons_of_mem _ hm)).2 rfl))
 refine⟨F2,⟨h1,h.ch.trF h3 h.sub,fun x hx=>?_,fun j hj=>(hb j).trans (h.cl j hj)⟩,h2⟩
 rcases h2 x hx with h4|h4
 ·exact h.sub x h4
 ·rcases hf x h4 with h5|h5
  ·exact h.sub x (hs x (List.mem_cons_of_mem _ h5)).1
  ·exact .inr (Nat.le_trans h.ch.sz h5)
theorem zEj(v:Value)(m:Machine)(w:World)(h:Rv w v m) :
  Calls Try.prog 61 #[v] w fun e w' => ∃ v',e = .returned v'/\Ov w.heap.size w' v' (zBz m)/\Ext w w'/\SpH 71 w.heap.size w' v':=by
 have h':=h.openMachine;obtain⟨a0,c0,a1,c1,a2,c2,a3,c3,a4,c4,a5,c5,ev,-,h0,-,h1,-,h2,-,h3,-,h4,-,h5,-⟩:=h';have H0:=h0;have H1:=h1;have H2:=h2;have H3:=h3;have H4:=h4;have H5:=h5;clear h0 h1 h2 h3 h4 h5;have HH:=h;rw[ev] at HH ⊢;clear h ev;have H:=zh HH;clear HH;go_enter Try.func61,Try.ntmps61;go_upto_region 1 with (fail)
 refine zA2 (fun W=>Ext w W/\Bk W w.heap.size [.slice a0 m.Plan.Parts.length c0,.slice a1 m.Plan.Channels.length c1,.slice a2 m.Plan.Slots.length c2,.slice a3 m.Programs.length c3,.slice a4 m.Cores.length c4,.slice a5 m.Holds.length c5,.int .i64 m.Tick] 47/\Bk W (w.heap.size+1) [.slice none 0 0,.slice none 0 0,.slice none 0 0,.slice none 0 0,.slice none 0 0,.slice none 0 0,.int .i64 0] 47) ⟨((zr _).alloc _).alloc _,(Bk.new _ _ _).ext ((zr _).alloc _),Bk.new1 _ _ _ _⟩ ?_
 rintro W ⟨e1,kA,kB⟩;have HE0:=zh e1;obtain⟨d0,d1,d2,d3,d4,d5,d6⟩:=Bk.k7 kA;have KA:=zh kA;have KB:=zh kB;clear e1 kA kB;cases g:zDm m
 ·go_wp2_with (go_at_call 17;refine(zAd _ m _ (H.out.ext HE0.out)).mono ?_;rintro e w0 ⟨rfl,he⟩;rw[g];have E:=zh (HE0.out.tr he);have KAx:=KA.out.ext he;have ltA:=KAx.lt;obtain⟨x0,x1,x2,x3,x4,x5,x6⟩:=Bk.k7 KAx;have KBx:=KB.out.ext he;obtain⟨z0,z1,z2,z3,z4,z5,z6⟩:=Bk.k7 KBx;have zf:=KBx.fz;have ltZ:=KBx.lt;clear KBx;clear he KAx)
  refine bodyPost_ret (v:=.agg #[.slice none 0 0,.slice none 0 0,.slice none 0 0,.slice none 0 0,.slice none 0 0,.slice none 0 0,.int .i64 0]) (by simp[results,Try.results61,go_sem,z0,z1,z2,z3,z4,z5,z6]) rfl ⟨_,rfl,by rw[zIg g];exact Ov.mz _ _,(((((((E.out).set (by simp) _).set (by simp) _).set (by simp) _).set (by simp) _).set (by simp) _).set (by simp) _).set (by simp) _,SpH.mk (Sp.nil _ _ _ _)⟩
 have hmv:=zDe.1 g;have htk:=hmv.tick;have htot:GT.tot m<=1048576:=Nat.le_trans (zE2 hmv) (by omega)
 cases g1:(m.Tick == 100000)
 case true =>
  have g2:=zh (show m.Tick=100000 by simpa using g1)
  go_wp2_with (go_at_call 17;refine(zAd _ m _ (H.out.ext HE0.out)).mono ?_;rintro e w0 ⟨rfl,he⟩;rw[g];have E:=zh (HE0.out.tr he);have KAx:=KA.out.ext he;have ltA:=KAx.lt;obtain⟨x0,x1,x2,x3,x4,x5,x6⟩:=Bk.k7 KAx;have KBx:=KB.out.ext he;obtain⟨z0,z1,z2,z3,z4,z5,z6⟩:=Bk.k7 KBx;have zf:=KBx.fz;have ltZ:=KBx.lt;clear KBx;clear he KAx)
  refine bodyPost_ret (v:=.agg #[.slice none 0 0,.slice none 0 0,.slice none 0 0,.slice none 0 0,.slice none 0 0,.slice none 0 0,.int .i64 0]) (by simp[results,Try.results61,go_sem,z0,z1,z2,z3,z4,z5,z6]) rfl ⟨_,rfl,by rw[zIh g2.out];exact Ov.mz _ _,(((((((E.out).set (by simp) _).set (by simp) _).set (by simp) _).set (by simp) _).set (by simp) _).set (by simp) _).set (by simp) _,SpH.mk (Sp.nil _ _ _ _)⟩
 have hne:¬ m.Tick=100000:=by simpa using g1
 have HV:=zh hmv;have HL:=zh (show m.Tick < 100000 by omega)
 have hres:=zh (zGv g hne);clear hne hmv;go_upto_region 3 with (go_at_call 17;refine(zAd _ m _ (H.out.ext HE0.out)).mono ?_;rintro e w0 ⟨rfl,he⟩;rw[g];have E:=zh (HE0.out.tr he);have KAx:=KA.out.ext he;have ltA:=KAx.lt;obtain⟨x0,x1,x2,x3,x4,x5,x6⟩:=Bk.k7 KAx;replace KB:=zh (KB.out.ext he);replace KA:=zh KAx;clear he KAx)
 have ltB0:=KB.out.lt;go_upto_region 4 with (go_at_call 58;refine(zD0 _ m _ (H.out.ext E.out) htot).mono ?_;rintro e w5 ⟨v5,rfl,hov,ex,hsp⟩;obtain⟨cs5,F5,rfl,hen,how⟩:=hov;obtain⟨v0,v1,v2,v3,v4,v5,G0,G1,G2,G3,G4,G5,rfl,⟨t0,u0,rfl,_⟩,⟨t1,u1,rfl,_⟩,⟨t2,u2,rfl,_⟩,⟨t3,u3,rfl,_⟩,⟨t4,u4,rfl,_⟩,⟨t5,u5,rfl,_⟩,_,_⟩:=id hen;have SP5:=zh (hsp.get.mono E.out.sz);clear hsp;have HEN:=zh hen;have HOW:=zh how;have EX:=zh ex;replace KB:=zh (KB.out.ext ex);replace KA:=zh (KA.out.ext ex);clear hen how ex)
 refine zA2 (fun W6=>Ext w5 W6/\Bk W6 w5.heap.size [.slice t0 m.Plan.Parts.length u0,.slice t1 m.Plan.Channels.length u1,.slice t2 m.Plan.Slots.length u2,.slice t3 m.Programs.length u3,.slice t4 m.Cores.length u4,.slice t5 m.Holds.length u5,.int .i64 m.Tick] 47) ⟨(zr _).alloc _,Bk.new _ _ _⟩ ?_
 rintro W6 ⟨E6,K6⟩;have hs05:=EX.out.sz;have hw0:=E.out.sz;have ltB5:=KB.out.lt;have om:Om w0.heap.size W6 w5.heap.size 0 m F5:=⟨_,GT.ext HEN.out E6,fun j u hj=>by rw[Nat.zero_add];exact K6.cell hj,List.nodup_cons.2 ⟨fun hm=>Nat.lt_irrefl _ (HOW.out.lt hm),HOW.out.1⟩,fun k hk=>by
  rcases List.mem_cons.1 hk with rfl|hk
  ·exact⟨hs05,⟨_,_,K6⟩⟩
  ·exact⟨(HOW.out.2 k hk).1,((HOW.out.2 k hk).2).ext E6⟩⟩
 have E7:=zh ((E.out.tr EX.out).tr E6);have KB6:=zh (KB.out.ext E6);have HF:Hid (∀ x∈F5,w0.heap.size<=x):=zh (fun x hx=>(HOW.out.2 x hx).1)
 have hs6:=E6.sz;have KA6:=zh (KA.out.ext E6);have TB0:=zh (zBw.refl om);have SP6:=zh (SP5.out.ext E6);have K5:=zh (K6.cell (j:=5) rfl);clear SP5;have k1:=K6.cell (j:=1) rfl;have k4:=K6.cell (j:=4) rfl;have k5:=K6.cell (j:=5) rfl;have k6:=K6.cell (j:=6) rfl;obtain⟨F6,t6⟩:=TB0.out.tick (m.Tick+1) ⟨by omega,by omega⟩
 have T6:=zh t6;have gf6:=TB0.out.fz;have ltA6:=KA6.out.lt;have hPA5:w.heap.size < w5.heap.size:=by omega
 have hL6:w0.heap.size<=W6.heap.size:=by omega
 have a06:=KA6.out.cell (j:=6) rfl
 generalize hB:w5.heap.size=B at *
 clear om K6 E6 HEN HOW EX t6 d0 d1 d2 d3 d4 d5 d6 x0 x1 x2 x3 x4 x5 x6 KA KB HE0 E;go_upto_region 5 with (fail)
 refine zA2 (fun W=>zBw w0.heap.size B F5 W6 W ⟨m.Plan,m.Programs,m.Cores,m.Holds,m.Tick+1⟩ F6) T6.out ?_
 intro W7 t7;have T7:=zh t7;have hPA:w.heap.size ∉ F5:=fun hx=>by have:=HF.out _ hx;omega
 have KA7:=t7.bk KA6.out (by omega) hPA
 have E77:=zh (t7.ch.ext E7.out (by omega) (fun x hx=>by have:=HF.out x hx;omega))
 have b0:=KA7.cell (j:=0) rfl;have b2:=KA7.cell (j:=2) rfl;have b6:=KA7.cell (j:=6) rfl;have hwho:=HV.out.who m.Tick;have ltA7:=KA7.lt;have KA7h:=zh KA7;clear t7 KA7 T6 gf6 a06;rcases hwho with hw | ⟨N,hw,hN⟩
 focus
  have HW:=zh hw;clear hw;go_upto_region 8 with (go_at_call 72;refine(zE6 _ m.Plan.Slots m.Plan.Parts.length m.Tick W7 (H2.out.ext E77.out) HV.out.ssv htk.1 (by omega)).mono ?_;rintro e w7 ⟨rfl,he⟩;rw[HW.out];have TB7:=zh (T7.out.ext he);have F7d:∃ F7,F7=F6:=⟨_,rfl⟩;clear he)
  obtain⟨F7,rfl⟩:=F7d;have EQ:zBz m=⟨m.Plan,m.Programs,m.Cores,m.Holds,m.Tick+1⟩:=by rw[hres.out,zHf (by rw[HW.out];decide)]
  clear b0 b2 b6;obtain⟨m2,hm2⟩:∃ m2:Machine,(⟨m.Plan,m.Programs,m.Cores,m.Holds,m.Tick+1⟩:Machine)=m2:=⟨_,rfl⟩;have HRES:=zh (EQ.trans hm2);rw[hm2] at TB7;clear hm2;obtain⟨G7,TB7⟩:∃ G,Hid (zBw w0.heap.size B F5 W6 w7 m2 G):=⟨_,TB7⟩
 rotate_left 1
 focus
  have HW:=zh hw;have HN:=zh hN;have hN5:N < 5:=by have h1:=HV.out.nc;have h2:=zAs HV.out.pg.set;omega
  have hNp:(N:Int) < m.Plan.Parts.length:=by have h1:=HV.out.nc;omega
  clear hw;go_upto_region 9 with (go_at_call 72;refine(zE6 _ m.Plan.Slots m.Plan.Parts.length m.Tick W7 (H2.out.ext E77.out) HV.out.ssv htk.1 (by omega)).mono ?_;rintro e w8 ⟨rfl,he⟩;rw[HW.out];have E8:=zh (E77.out.tr he);have T8:=zh (T7.out.ext he);have KA8:=zh (KA7h.out.ext he);clear he)
  obtain⟨t,hto⟩:∃ t,zG5 m.Plan.Slots N m.Tick=t:=⟨_,rfl⟩;have htb:0<=t/\t<=1000000:=by rw[<- hto];exact zHt (by omega)
  have HT:=zh hto;clear hto b0 b2 b6 KA7h;obtain⟨kc,p,q,ek,ep,eq,hfit,hprv,gk,gp⟩:=HV.out.at HN.out;obtain⟨kb,ko,k,ca,cc,rfl,hcb,hk,kc0,kc1,kc2,_,hkc,_,hkv⟩:=(H4.out.ext E8.out).atCore N (zAc ek);obtain rfl:k=kc:=Option.some.inj (hk.out.symm.trans ek);obtain⟨pb,po,p',pa,pc,rfl,hpb,hp',hpc,hRp,hpl⟩:=(H3.out.ext E8.out).atList N (zAc ep);obtain rfl:p'=p:=Option.some.inj (hp'.out.symm.trans ep);obtain⟨qb,qo,q',qa,qc,rfl,hqb,hq',hq0,hq1,_,_,_,_⟩:=(H0.out.ext E8.out).atPart N (zAc eq);obtain rfl:q'=q:=Option.some.inj (hq'.out.symm.trans eq);have HST:=zh (show zBt m N=zB2 k p' t by unfold zBt;rw[gk,gp,HT.out])
  have hfit1:=zF6 (t:=t) hfit hprv htb.1;have hord:=zGt (t:=t) hfit hprv;have hcel:=zGs (c:=k) (p:=p') (t:=t);have HTK:Hid (zBz m=⟨m.Plan,m.Programs,m.Cores.set N (zDs m.Plan.Channels m.Holds N (zB2 k p' t).1 (zB2 k p' t).2).1,(zDs m.Plan.Channels m.Holds N (zB2 k p' t).1 (zB2 k p' t).2).2.1,m.Tick+1⟩):=zh (by rw[hres.out,zHh HW.out];unfold zDo zG2;rw[HST.out])
  have HSC:=zh (fun(u:World) (hE:Ext w8 u)=>zGe _ _ k p' q'.Cells t u (hkv.out.ext hE) (hRp.out.ext hE) hfit hprv htb.1 htb.2)
  have HEK:=zh ek;have HNl:=zh (And.intro (zAc ek) (And.intro (zAc ep) (zAc eq)));have n1:=HNl.out.1;have n2:=HNl.out.2.1;have n3:=HNl.out.2.2
  generalize zB2 k p' t=r at *
  obtain⟨c1',op,oa,ob⟩:=r;simp only at hfit1 hord hcel HTK HSC;have i0:=KA8.out.cell (j:=0) rfl;have i2:=KA8.out.cell (j:=2) rfl;have i3:=KA8.out.cell (j:=3) rfl;have i4:=KA8.out.cell (j:=4) rfl;have i6:=KA8.out.cell (j:=6) rfl;have ltA8:=KA8.out.lt;refine zD1 rfl 31 [(43,[43]),(44,[44]),(45,[45]),(46,[46]),(47,[47]),(48,[48]),(49,[49]),(50,[50]),(51,[51]),(52,[52]),(53,[53]),(54,[54]),(55,[55]),(56,[56]),(57,[57]),(58,[58]),(59,[59]),(60,[60]),(61,[61]),(62,[62]),(63,[63]),(64,[64]),(65,[65]),(66,[66]),(67,[67]),(68,[68]),(42,[42,68]),(69,[69,68]),(70,[70]),(6,[6]),(7,[7])]
   (fun i vs u F=>match i,vs with
    | 0,[y]=>y = .pointer (some ⟨w.heap.size,4,none⟩)
    | 1,[y]=>y = .slice (some ⟨kb,ko,none⟩) m.Cores.length c4
    | 2,[y]=>y = .int .i64 N
    | 3,[y]=>y = .pointer (some ⟨kb,ko+N*3,none⟩)
    | 4,[y]=>y = .agg #[.slice ca k.Cells.length cc,.int .i64 k.At,.bool k.Stopped]
    | 5,[y]=>y = .pointer (some ⟨w.heap.size,3,none⟩)
    | 6,[y]=>y = .slice (some ⟨pb,po,none⟩) m.Programs.length c3
    | 7,[y]=>y = .int .i64 N
    | 8,[y]=>y = .pointer (some ⟨pb,po+N,none⟩)
    | 9,[y]=>y = .slice pa p'.length pc
    | 10,[y]=>y = .pointer (some ⟨w.heap.size,0,none⟩)
    | 11,[y]=>y = .pointer (some ⟨w.heap.size,0,none⟩)
    | 12,[y]=>y = .slice (some ⟨qb,qo,none⟩) m.Plan.Parts.length c0
    | 13,[y]=>y = .int .i64 N
    | 14,[y]=>y = .pointer (some ⟨qb,qo+N*2,none⟩)
    | 15,[y]=>y = .pointer (some ⟨qb,qo+N*2+1,none⟩)
    | 16,[y]=>y = .int .i64 q'.Cells
    | 17,[y]=>y = .pointer (some ⟨w.heap.size,0,none⟩)
    | 18,[y]=>y = .pointer (some ⟨w.heap.size,2,none⟩)
    | 19,[y]=>y = .slice a2 m.Plan.Slots.length c2
    | 20,[y]=>y = .int .i64 m.Plan.Parts.length
    | 21,[y]=>y = .int .i64 N
    | 22,[y]=>y = .pointer (some ⟨w.heap.size,6,none⟩)
    | 23,[y]=>y = .int .i64 m.Tick
    | 24,[y]=>y = .int .i64 t
    | 25,[y] => ∃ v',y = .tuple #[.agg #[v',.int .i64 c1'.At,.bool c1'.Stopped],.agg #[.int .i64 op,.int .i64 oa,.int .i64 ob]]/\GT.enc u [v',.int .i64 c1'.At,.bool c1'.Stopped] c1' F
    | 26,[y,z]=>y=z
    | 27,[y,z] => ∃ v',z = .tuple #[.agg #[v',.int .i64 c1'.At,.bool c1'.Stopped],.agg #[.int .i64 op,.int .i64 oa,.int .i64 ob]]/\y = .agg #[v',.int .i64 c1'.At,.bool c1'.Stopped]
    | 28,[y]=>y = .agg #[.int .i64 op,.int .i64 oa,.int .i64 ob]
    | 29,[y] => ∃ B9,y = .pointer (some ⟨B9,0,none⟩)/\F = [B9]/\Bk u B9 [.slice none 0 0,.int .i64 0,.bool false] 63
    | 30,[y] => ∃ B9,y = .pointer (some ⟨B9,0,none⟩)/\F = [B9]/\Bk u B9 [.int .i64 0,.int .i64 0,.int .i64 0] 98
    | _,_=>False) 28 (by decide +kernel) ?_ ?_ ?_
  ·intro i hi hif oo hoo U u F hE hd hap;have j0:=(zA0 hE ltA8).trans i0;have j2:=(zA0 hE ltA8).trans i2;have j3:=(zA0 hE ltA8).trans i3;have j4:=(zA0 hE ltA8).trans i4;have j6:=(zA0 hE ltA8).trans i6;have jc0:=(zA0 hE hcb).trans kc0;have jc1:=(zA0 hE hcb).trans kc1;have jc2:=(zA0 hE hcb).trans kc2;have jp:=(zA0 hE hpb).trans hpc;have jq:=(zA0 hE hqb).trans hq1;rcases(by omega:i=0\/i=1\/i=2\/i=3\/i=4\/i=5\/i=6\/i=7\/i=8\/i=9\/i=10\/i=11\/i=12\/i=13\/i=14\/i=15\/i=16\/i=17\/i=18\/i=19\/i=20\/i=21\/i=22\/i=23\/i=24\/i=25\/i=26\/i=27\/i=28\/i=29\/i=30) with rfl|rfl|rfl|rfl|rfl|rfl|rfl|rfl|rfl|rfl|rfl|rfl|rfl|rfl|rfl|rfl|rfl|rfl|rfl|rfl|rfl|rfl|rfl|rfl|rfl|rfl|rfl|rfl|rfl|rfl|rfl
   ·cases hoo;simp only[fr];intro K hK;go_wp2;exact zk hK _ (fun _ _=>rfl)
   ·cases hoo;simp only[fr];obtain⟨⟨d0,-⟩,-⟩:=fa [0] (by decide +kernel) hd
    simp only[fu] at d0;try simp only[d0]
    clear d0;intro K hK;go_wp2;exact zk hK _ (fun _ _=>rfl)
   ·cases hoo;simp only[fr];intro K hK;go_wp2;exact zk hK _ (fun _ _=>rfl)
   ·cases hoo;simp only[fr];obtain⟨⟨d0,-⟩,⟨d1,-⟩,⟨d2,-⟩,-⟩:=fa [0,1,2] (by decide +kernel) hd
    simp only[fu] at d0 d1 d2;try simp only[d0,d1,d2]
    clear d0 d1 d2;intro K hK;go_wp2;exact zk hK _ (fun _ _=>rfl)
   ·cases hoo;simp only[fr];obtain⟨⟨d0,-⟩,⟨d1,-⟩,⟨d2,-⟩,⟨d3,-⟩,-⟩:=fa [0,1,2,3] (by decide +kernel) hd
    simp only[fu] at d0 d1 d2 d3;try simp only[d0,d1,d2,d3]
    clear d0 d1 d2 d3;intro K hK;go_wp2;exact zk hK _ (fun _ _=>rfl)
   ·cases hoo;simp only[fr];intro K hK;go_wp2;exact zk hK _ (fun _ _=>rfl)
   ·cases hoo;simp only[fr];obtain⟨⟨d5,-⟩,-⟩:=fa [5] (by decide +kernel) hd
    simp only[fu] at d5;try simp only[d5]
    clear d5;intro K hK;go_wp2;exact zk hK _ (fun _ _=>rfl)
   ·cases hoo;simp only[fr];intro K hK;go_wp2;exact zk hK _ (fun _ _=>rfl)
   ·cases hoo;simp only[fr];obtain⟨⟨d5,-⟩,⟨d6,-⟩,⟨d7,-⟩,-⟩:=fa [5,6,7] (by decide +kernel) hd
    simp only[fu] at d5 d6 d7;try simp only[d5,d6,d7]
    clear d5 d6 d7;intro K hK;go_wp2;exact zk hK _ (fun _ _=>rfl)
   ·cases hoo;simp only[fr];obtain⟨⟨d5,-⟩,⟨d6,-⟩,⟨d7,-⟩,⟨d8,-⟩,-⟩:=fa [5,6,7,8] (by decide +kernel) hd
    simp only[fu] at d5 d6 d7 d8;try simp only[d5,d6,d7,d8]
    clear d5 d6 d7 d8;intro K hK;go_wp2;exact zk hK _ (fun _ _=>rfl)
   ·cases hoo;simp only[fr];intro K hK;go_wp2;exact zk hK _ (fun _ _=>rfl)
   ·cases hoo;simp only[fr];obtain⟨⟨d10,-⟩,-⟩:=fa [10] (by decide +kernel) hd
    simp only[fu] at d10;try simp only[d10]
    clear d10;intro K hK;go_wp2;exact zk hK _ (fun _ _=>rfl)
   ·cases hoo;simp only[fr];obtain⟨⟨d10,-⟩,⟨d11,-⟩,-⟩:=fa [10,11] (by decide +kernel) hd
    simp only[fu] at d10 d11;try simp only[d10,d11]
    clear d10 d11;intro K hK;go_wp2;exact zk hK _ (fun _ _=>rfl)
   ·cases hoo;simp only[fr];intro K hK;go_wp2;exact zk hK _ (fun _ _=>rfl)
   ·cases hoo;simp only[fr];obtain⟨⟨d10,-⟩,⟨d11,-⟩,⟨d12,-⟩,⟨d13,-⟩,-⟩:=fa [10,11,12,13] (by decide +kernel) hd
    simp only[fu] at d10 d11 d12 d13;try simp only[d10,d11,d12,d13]
    clear d10 d11 d12 d13;intro K hK;go_wp2;exact zk hK _ (fun _ _=>rfl)
   ·cases hoo;simp only[fr];obtain⟨⟨d10,-⟩,⟨d11,-⟩,⟨d12,-⟩,⟨d13,-⟩,⟨d14,-⟩,-⟩:=fa [10,11,12,13,14] (by decide +kernel) hd
    simp only[fu] at d10 d11 d12 d13 d14;try simp only[d10,d11,d12,d13,d14]
    clear d10 d11 d12 d13 d14;intro K hK;go_wp2;exact zk hK _ (fun _ _=>rfl)
   ·cases hoo;simp only[fr];obtain⟨⟨d10,-⟩,⟨d11,-⟩,⟨d12,-⟩,⟨d13,-⟩,⟨d14,-⟩,⟨d15,-⟩,-⟩:=fa [10,11,12,13,14,15] (by decide +kernel) hd
    simp only[fu] at d10 d11 d12 d13 d14 d15;try simp only[d10,d11,d12,d13,d14,d15]
    clear d10 d11 d12 d13 d14 d15;intro K hK;go_wp2;exact zk hK _ (fun _ _=>rfl)
   ·cases hoo;simp only[fr];intro K hK;go_wp2;exact zk hK _ (fun _ _=>rfl)
   ·cases hoo;simp only[fr];obtain⟨⟨d17,-⟩,-⟩:=fa [17] (by decide +kernel) hd
    simp only[fu] at d17;try simp only[d17]
    clear d17;intro K hK;go_wp2;exact zk hK _ (fun _ _=>rfl)
   ·cases hoo;simp only[fr];obtain⟨⟨d17,-⟩,⟨d18,-⟩,-⟩:=fa [17,18] (by decide +kernel) hd
    simp only[fu] at d17 d18;try simp only[d17,d18]
    clear d17 d18;intro K hK;go_wp2;exact zk hK _ (fun _ _=>rfl)
   iterate 3 (·cases hoo;simp only[fr];intro K hK;go_wp2;exact zk hK _ (fun _ _=>rfl))
   ·cases hoo;simp only[fr];obtain⟨⟨d22,-⟩,-⟩:=fa [22] (by decide +kernel) hd
    simp only[fu] at d22;try simp only[d22]
    clear d22;intro K hK;go_wp2;exact zk hK _ (fun _ _=>rfl)
   ·cases hoo;simp only[fr];obtain⟨⟨d17,-⟩,⟨d18,-⟩,⟨d19,-⟩,⟨d20,-⟩,⟨d21,-⟩,⟨d22,-⟩,⟨d23,-⟩,-⟩:=fa [17,18,19,20,21,22,23] (by decide +kernel) hd
    simp only[fu] at d17 d18 d19 d20 d21 d22 d23;try simp only[d17,d18,d19,d20,d21,d22,d23]
    intro K hK;go_wp2_with (go_at_call 74;refine(zGd _ m.Plan.Slots m.Plan.Parts.length N m.Tick _ (H2.out.ext (E8.out.tr hE)) HV.out.ssv (by omega) hNp htk.1 (by omega)).mono ?_;rintro e w' ⟨rfl,he⟩;rw[HT.out])
    exact hK _ [] _ he (fun _ _=>rfl) (Own.nil _ _)
   ·cases hoo;simp only[fr];obtain⟨⟨d0,-⟩,⟨d1,-⟩,⟨d2,-⟩,⟨d3,-⟩,⟨d4,-⟩,⟨d5,-⟩,⟨d6,-⟩,⟨d7,-⟩,⟨d8,-⟩,⟨d9,-⟩,⟨d10,-⟩,⟨d11,-⟩,⟨d12,-⟩,⟨d13,-⟩,⟨d14,-⟩,⟨d15,-⟩,⟨d16,-⟩,⟨d17,-⟩,⟨d18,-⟩,⟨d19,-⟩,⟨d20,-⟩,⟨d21,-⟩,⟨d22,-⟩,⟨d23,-⟩,⟨d24,-⟩,-⟩:=fa [0,1,2,3,4,5,6,7,8,9,10,11,12,13,14,15,16,17,18,19,20,21,22,23,24] (by decide +kernel) hd
    simp only[fu] at d0 d1 d2 d3 d4 d5 d6 d7 d8 d9 d10 d11 d12 d13 d14 d15 d16 d17 d18 d19 d20 d21 d22 d23 d24;try simp only[d0,d1,d2,d3,d4,d5,d6,d7,d8,d9,d10,d11,d12,d13,d14,d15,d16,d17,d18,d19,d20,d21,d22,d23,d24]
    intro K hK;go_wp2_with (go_at_call 73;refine(HSC.out _ hE).mono ?_;rintro e w' ⟨v1,rfl,hov,ex1⟩;obtain⟨cs',F',rfl,hen,how⟩:=hov;obtain⟨v',rfl,hsl,_⟩:=id hen)
    exact hK _ F' _ ex1 (fun _ h=>⟨v',rfl,GT.ext hen h⟩) how
   ·cases hoo;simp only[fr];obtain⟨⟨d0,-⟩,⟨d1,-⟩,⟨d2,-⟩,⟨d3,-⟩,⟨d4,-⟩,⟨d5,-⟩,⟨d6,-⟩,⟨d7,-⟩,⟨d8,-⟩,⟨d9,-⟩,⟨d10,-⟩,⟨d11,-⟩,⟨d12,-⟩,⟨d13,-⟩,⟨d14,-⟩,⟨d15,-⟩,⟨d16,-⟩,⟨d17,-⟩,⟨d18,-⟩,⟨d19,-⟩,⟨d20,-⟩,⟨d21,-⟩,⟨d22,-⟩,⟨d23,-⟩,⟨d24,-⟩,⟨d25,o25⟩,-⟩:=fa [0,1,2,3,4,5,6,7,8,9,10,11,12,13,14,15,16,17,18,19,20,21,22,23,24,25] (by decide +kernel) hd
    simp only[fu] at d0 d1 d2 d3 d4 d5 d6 d7 d8 d9 d10 d11 d12 d13 d14 d15 d16 d17 d18 d19 d20 d21 d22 d23 d24 d25;try simp only[d0,d1,d2,d3,d4,d5,d6,d7,d8,d9,d10,d11,d12,d13,d14,d15,d16,d17,d18,d19,d20,d21,d22,d23,d24]
    obtain⟨v',ev,_⟩:=d25;simp only[ev];intro K hK;go_wp2;exact zk hK _ (fun _ _=>by show Value.tuple _=U 68;rw[ev])
   ·cases hoo;simp only[fr];obtain⟨⟨d0,-⟩,⟨d1,-⟩,⟨d2,-⟩,⟨d3,-⟩,⟨d4,-⟩,⟨d5,-⟩,⟨d6,-⟩,⟨d7,-⟩,⟨d8,-⟩,⟨d9,-⟩,⟨d10,-⟩,⟨d11,-⟩,⟨d12,-⟩,⟨d13,-⟩,⟨d14,-⟩,⟨d15,-⟩,⟨d16,-⟩,⟨d17,-⟩,⟨d18,-⟩,⟨d19,-⟩,⟨d20,-⟩,⟨d21,-⟩,⟨d22,-⟩,⟨d23,-⟩,⟨d24,-⟩,⟨d25,o25⟩,⟨d26,-⟩,-⟩:=fa [0,1,2,3,4,5,6,7,8,9,10,11,12,13,14,15,16,17,18,19,20,21,22,23,24,25,26] (by decide +kernel) hd
    simp only[fu] at d0 d1 d2 d3 d4 d5 d6 d7 d8 d9 d10 d11 d12 d13 d14 d15 d16 d17 d18 d19 d20 d21 d22 d23 d24 d25 d26;try simp only[d0,d1,d2,d3,d4,d5,d6,d7,d8,d9,d10,d11,d12,d13,d14,d15,d16,d17,d18,d19,d20,d21,d22,d23,d24,d26]
    obtain⟨v',ev,_⟩:=d25;have d26z:=d26;rw[ev] at d26z;simp only[d26z,ev];intro K hK;go_wp2;exact zk hK _ (fun _ _=>⟨v',ev,rfl⟩)
   ·exact absurd rfl hif
   ·cases hoo;simp only[fr];intro K hK;go_wp2;have b1:=Bk.new u [.slice none 0 0,.int .i64 0,.bool false] 63;exact hK _ [u.heap.size] _ ((zr u).alloc _) (fun _ h=>⟨_,rfl,rfl,b1.ext h⟩) (b1.own (Nat.le_refl _))
   ·cases hoo;simp only[fr];intro K hK;go_wp2;have b1:=Bk.new u [.int .i64 0,.int .i64 0,.int .i64 0] 98;exact hK _ [u.heap.size] _ ((zr u).alloc _) (fun _ h=>⟨_,rfl,rfl,b1.ext h⟩) (b1.own (Nat.le_refl _))
  ·intro oo hoo U u F hE hd;cases hoo;simp only[fr];obtain⟨⟨d0,-⟩,⟨d1,-⟩,⟨d2,-⟩,⟨d3,-⟩,⟨d4,-⟩,⟨d5,-⟩,⟨d6,-⟩,⟨d7,-⟩,⟨d8,-⟩,⟨d9,-⟩,⟨d10,-⟩,⟨d11,-⟩,⟨d12,-⟩,⟨d13,-⟩,⟨d14,-⟩,⟨d15,-⟩,⟨d16,-⟩,⟨d17,-⟩,⟨d18,-⟩,⟨d19,-⟩,⟨d20,-⟩,⟨d21,-⟩,⟨d22,-⟩,⟨d23,-⟩,⟨d24,-⟩,⟨d25,o25⟩,⟨d26,-⟩,-⟩:=fa [0,1,2,3,4,5,6,7,8,9,10,11,12,13,14,15,16,17,18,19,20,21,22,23,24,25,26] (by decide +kernel) hd
   simp only[fu] at d0 d1 d2 d3 d4 d5 d6 d7 d8 d9 d10 d11 d12 d13 d14 d15 d16 d17 d18 d19 d20 d21 d22 d23 d24 d25 d26;try simp only[d0,d1,d2,d3,d4,d5,d6,d7,d8,d9,d10,d11,d12,d13,d14,d15,d16,d17,d18,d19,d20,d21,d22,d23,d24,d26]
   obtain⟨v',ev,_⟩:=d25;have d26z:=d26;rw[ev] at d26z;exact⟨.agg #[.int .i64 op,.int .i64 oa,.int .i64 ob],fun w2=>by simp[execOp,Act.eval,d26z,ev,go_sem],fun _ _=>rfl⟩
  focus
   intro oo hoo U u G hE hφ hap K hK;cases hoo;obtain⟨⟨d0,-⟩,⟨d1,-⟩,⟨d2,-⟩,⟨d3,-⟩,⟨d4,-⟩,⟨d5,-⟩,⟨d6,-⟩,⟨d7,-⟩,⟨d8,-⟩,⟨d9,-⟩,⟨d10,-⟩,⟨d11,-⟩,⟨d12,-⟩,⟨d13,-⟩,⟨d14,-⟩,⟨d15,-⟩,⟨d16,-⟩,⟨d17,-⟩,⟨d18,-⟩,⟨d19,-⟩,⟨d20,-⟩,⟨d21,-⟩,⟨d22,-⟩,⟨d23,-⟩,⟨d24,-⟩,⟨d25,o25⟩,⟨d26,-⟩,⟨d27,o27⟩,⟨d28,-⟩,⟨d29,o29⟩,⟨d30,o30⟩,-⟩:=fb [0,1,2,3,4,5,6,7,8,9,10,11,12,13,14,15,16,17,18,19,20,21,22,23,24,25,26,27,28,29,30] (by decide +kernel) hφ
   simp only[fu] at d0 d1 d2 d3 d4 d5 d6 d7 d8 d9 d10 d11 d12 d13 d14 d15 d16 d17 d18 d19 d20 d21 d22 d23 d24 d25 d26 d27 d28 d29 d30;try simp only[d0,d1,d2,d3,d4,d5,d6,d7,d8,d9,d10,d11,d12,d13,d14,d15,d16,d17,d18,d19,d20,d21,d22,d23,d24,d26,d28]
   obtain⟨v',ev,hen⟩:=d25;obtain⟨v2,ev2,ex2⟩:=d27;obtain rfl:v2=v':=by
    have h:=ev.symm.trans ev2
    injection h with h
    have h:=congrArg Array.toList h;simp only[List.cons.injEq] at h
    injection h.1 with h
    have h:=congrArg Array.toList h;simp only[List.cons.injEq] at h;exact h.1.symm
   obtain⟨B6,e6,eg6,k6b⟩:=d29;obtain⟨B7,e7,eg7,k7b⟩:=d30;have ap6:=hap 25 29 (by omega) (by omega) (by omega)
   have ap7:=hap 25 30 (by omega) (by omega) (by omega)
   have ap67:=hap 29 30 (by omega) (by omega) (by omega)
   rw[eg6] at o29 ap6 ap67;rw[eg7] at o30 ap7 ap67;have lB6:w8.heap.size<=B6:=(o29.2 B6 (by simp)).1
   have lB7:w8.heap.size<=B7:=(o30.2 B7 (by simp)).1
   have nB6:B6 ∉ G 25:=ap6.one;have nB7:B7 ∉ G 25:=ap7.one;have hB67:B6≠B7:=fun e=>ap67 B6 (by simp) (by simp[e])
   have how:=o25
   generalize G 25=GH at *
   obtain⟨v3,e3,hs3,_⟩:=id hen;obtain rfl:v2=v3:=by simpa using e3
   obtain⟨av,cv,rfl,_⟩:=id hs3;clear e3 hs3;simp only[fr];simp only[zBv,zCh,List.map_cons,List.map_nil,setL,List.set_cons_succ,List.set_cons_zero,Bd.d,List.getD_cons_succ,List.getD_cons_zero] at hK;simp only[e6,e7,ex2,d28] at hK ⊢;have k6f:=k6b.fz;have k7f:=k7b.fz;obtain⟨x60,x61,x62⟩:=Bk.k3 k6b;obtain⟨x70,x71,x72⟩:=Bk.k3 k7b;have hB76:B7≠B6:=hB67.symm;have hkeep:∀ k∈GH,k≠B6/\k≠B7:=fun k hk=>⟨fun e=>nB6 (e ▸ hk),fun e=>nB7 (e ▸ hk)⟩
   generalize hcv:Value.slice av c1'.Cells.length cv=V at *
   have K6:=zh ((((((k6b.set 0 V).set 1 (.int .i64 c1'.At)).set 2 (.bool c1'.Stopped)).set_ne (p:=⟨B7,0,none⟩) hB67 (.int .i64 op)).set_ne (p:=⟨B7,1,none⟩) hB67 (.int .i64 oa)).set_ne (p:=⟨B7,2,none⟩) hB67 (.int .i64 ob));have K7:=zh ((((((k7b.set_ne (p:=⟨B6,0,none⟩) hB76 V).set_ne (p:=⟨B6,1,none⟩) hB76 (.int .i64 c1'.At)).set_ne (p:=⟨B6,2,none⟩) hB76 (.bool c1'.Stopped)).set 0 (.int .i64 op)).set 1 (.int .i64 oa)).set 2 (.int .i64 ob));have EN:=zh (GT.keep (w':=(((((u.setCell ⟨B6,0,none⟩ V).setCell ⟨B6,1,none⟩ (.int .i64 c1'.At)).setCell ⟨B6,2,none⟩ (.bool c1'.Stopped)).setCell ⟨B7,0,none⟩ (.int .i64 op)).setCell ⟨B7,1,none⟩ (.int .i64 oa)).setCell ⟨B7,2,none⟩ (.int .i64 ob)) hen (fun k hk=>(zA3 (hkeep k hk).2).trans ((zA3 (hkeep k hk).2).trans ((zA3 (hkeep k hk).2).trans ((zA3 (hkeep k hk).1).trans ((zA3 (hkeep k hk).1).trans (zA3 (hkeep k hk).1)))))))
   have OW:=zh ((((((how.set ⟨B6,0,none⟩ V).set ⟨B6,1,none⟩ (.int .i64 c1'.At)).set ⟨B6,2,none⟩ (.bool c1'.Stopped)).set ⟨B7,0,none⟩ (.int .i64 op)).set ⟨B7,1,none⟩ (.int .i64 oa)).set ⟨B7,2,none⟩ (.int .i64 ob));have EE:=zh ((((((hE.set (p:=⟨B6,0,none⟩) lB6 V).set (p:=⟨B6,1,none⟩) lB6 (.int .i64 c1'.At)).set (p:=⟨B6,2,none⟩) lB6 (.bool c1'.Stopped)).set (p:=⟨B7,0,none⟩) lB7 (.int .i64 op)).set (p:=⟨B7,1,none⟩) lB7 (.int .i64 oa)).set (p:=⟨B7,2,none⟩) lB7 (.int .i64 ob));subst hcv;clear hE hφ hap ap6 ap7 ap67 d0 d1 d2 d3 d4 d5 d6 d7 d8 d9 d10 d11 d12 d13 d14 d15 d16 d17 d18 d19 d20 d21 d22 d23 d24 d26 o25 o27 o29 o30 ev ev2 hen how hkeep;go_upto_region 10 with (fail)
   refine zA2 (fun W=>Ext w8 W/\Bk W B6 [.slice av c1'.Cells.length cv,.int .i64 c1'.At,.bool c1'.Stopped] 63/\Bk W B7 [.int .i64 op,.int .i64 oa,.int .i64 ob] 98/\GT.enc W [.slice av c1'.Cells.length cv,.int .i64 c1'.At,.bool c1'.Stopped] c1' GH/\Own w8.heap.size W GH) ⟨EE.out,K6.out,K7.out,EN.out,OW.out⟩ ?_
   rintro W9 ⟨E9,K69,K79,EN9,OW9⟩;clear K6 K7 EN OW EE x60 x61 x62 x70 x71 x72 k6f k7f e6 e7 ex2 d28 eg6 eg7;have T9c:=T8.out.ext E9;have v4:=(T9c.cl 4 (by decide)).trans k4
   obtain⟨g4,s4,rfl⟩:∃ g s,t4=some ⟨g,s,none⟩:=by
    obtain⟨_,_,_,ho⟩:=id TB0.out.om;obtain⟨Fc,lc⟩:=TB0.out.om.lMachineCores;obtain⟨g',s',_,_,e,_⟩:=(lc.om ho).idxS (by rw[show 0+4=4 from rfl];exact k4) N HN.out
    exact⟨g',s',e⟩
   obtain⟨k0,Fy,ek0,omc,hsub,hback⟩:=T8.out.core2 k4 HN.out;have omc9:=omc.ext E9;obtain⟨_,_,o0,o1,o2,_,_⟩:=omc9.openC;have gf9:=omc9.bk.2.2.2;have hg4:=omc.bk.1;have hL8:w0.heap.size<=w8.heap.size:=by have:=T8.out.ch.sz;omega
   obtain⟨pc1,pc2,pc3⟩:=omc.putCore E9 hL8 (Nat.le_refl _) EN9 OW9;obtain⟨F8,t10,hF8⟩:=hback _ _ _ pc1 pc2 (fun z hz => .inr (pc3 z hz))
   have T10:=zh t10;have hB7g:B7≠g4:=by omega
   have K710:=zh (((K79.set_ne (p:=⟨g4,s4+N*3,none⟩) hB7g (.slice av c1'.Cells.length cv)).set_ne (p:=⟨g4,s4+N*3+1,none⟩) hB7g (.int .i64 c1'.At)).set_ne (p:=⟨g4,s4+N*3+2,none⟩) hB7g (.bool c1'.Stopped));obtain⟨x60,x61,x62⟩:=Bk.k3 K69;have hB7lt:=K79.lt;have hF6lt:=T8.out.ltF;have hB7F:B7 ∉ F8:=fun hm=>(hF8 B7 hm).elim (fun h=>by have:=hF6lt B7 h;omega) (fun h=>nB7 h)
   have hF6B7:B7 ∉ F6:=fun hm=>by have:=hF6lt B7 hm;omega
   have hsz8:W6.heap.size<=w8.heap.size:=T8.out.ch.sz;clear t10 pc1 pc2 pc3 hback hsub omc omc9 T9c EN9 OW9 ek0;go_upto_region 11 with (fail)
   refine zA2 (fun W=>zBw w0.heap.size B F5 W6 W ⟨m.Plan,m.Programs,m.Cores.set N c1',m.Holds,m.Tick+1⟩ F8/\Bk W B7 [.int .i64 op,.int .i64 oa,.int .i64 ob] 98) ⟨T10.out,K710.out⟩ ?_
   rintro WA ⟨tA,kA⟩;have TA:=zh tA;have KOA:=zh kA;have TR:=zh (zBw.refl tA.om);obtain⟨q0,q1,q2⟩:=Bk.k3 kA;have ltB7:=kA.lt;have hPA:w.heap.size ∉ F5:=fun hx=>by have:=HF.out _ hx;omega
   have KPA:=zh (tA.bk KA6.out (by omega) hPA)
   have ltPA:=KPA.out.lt;have EA:=zh (tA.ch.ext E7.out (by omega) (fun x hx=>by have:=HF.out x hx;omega))
   have vA4:=(tA.cl 4 (by decide)).trans k4
   have vA5:=(tA.cl 5 (by decide)).trans k5
   obtain⟨HCE,hce⟩:∃ x:Prop,x:=⟨True,trivial⟩;clear HCE hce;obtain⟨_,_,_,_,_,_,_,_,_,_,_,_,-,-,-,-,-,-,-⟩:=tA.om.openM;have HC1:=zh (H1.out.ext EA.out);have HC4:=zh (H4.out.ext EA.out);have HC5:=zh (H5.out.ext EA.out);have e1:=KPA.out.cell (j:=1) rfl;have e4:=KPA.out.cell (j:=4) rfl;have e5:=KPA.out.cell (j:=5) rfl;have hszA:W6.heap.size<=WA.heap.size:=tA.ch.sz;clear tA kA T10 K710 K69 K79 E9 v4 o0 o1 o2 gf9 hg4 x60 x61 x62 T8 KA8 E8 i0 i2 i3 i4 i6 ltA8 HSC hk kc0 kc1 kc2 hkc hkv hp' hpc hRp hpl hq' hq0 hq1 hcb hpb hqb T7 E77 ltA7 ek ep eq gk gp;rcases zIo m.Plan.Channels m.Holds N c1' ⟨op,oa,ob⟩ with ⟨h5,h6,e⟩ | ⟨h56,hst,e⟩ | ⟨h5,ch,hc,hn,e⟩ | ⟨h6,ch,hc,hn,e⟩
   focus
    rw[e] at HTK;have n5:(op != 5)=true:=by simpa using h5
    have n6:(op != 6)=true:=by simpa using h6
    clear h5 h6 e;go_upto_region 12 with (fail)
    refine zA2 (fun W=>zBw w0.heap.size B F5 W6 W ⟨m.Plan,m.Programs,m.Cores.set N c1',m.Holds,m.Tick+1⟩ F8) (TA.out) ?_
    intro w7 tz;have TB7:=zh tz;clear tz;obtain⟨m2,hm2⟩:∃ m2:Machine,(⟨m.Plan,m.Programs,m.Cores.set N c1',m.Holds,m.Tick+1⟩:Machine)=m2:=⟨_,rfl⟩;have HRES:=zh (HTK.out.trans hm2);rw[hm2] at TB7;clear hm2;obtain⟨G7,TB7⟩:∃ G,Hid (zBw w0.heap.size B F5 W6 w7 m2 G):=⟨_,TB7⟩
   rotate_left 1
   focus
    rw[e] at HTK;simp only at h56 hst;have hov:zDf q'.Cells p'.length ⟨op,oa,ob⟩=true:=by
     rcases hord with h|h
     ·cases h;rcases h56 with h|h<;>cases h
     ·exact h
    have hcs:=zCs hov;simp only at hcs;obtain⟨ia,rfl⟩:∃ ia:Nat,oa=ia:=⟨oa.toNat,by omega⟩
    rw[Int.toNat_natCast] at hst;clear hov hord e hcel hcs;have HNN:=zh HN.out;obtain⟨k7,Fy7,ec,omc,hsub7,hback7⟩:=TA.out.core k4 (by simpa using HN.out)
    obtain rfl:k7=c1':=Option.some.inj (ec.symm.trans (by simp[List.getElem?_set,HN.out]))
    have gf7:=omc.bk.2.2.2;obtain⟨_,_,_,_,st7,_,_⟩:=omc.openC;obtain⟨F8',om8,sub8,ch8⟩:=omc.putStop true;obtain⟨F9,t9⟩:=hback7 _ _ _ ch8 om8 (fun z hz => .inl (sub8 z hz))
    simp only[List.set_set] at t9;have T9:=zh t9;clear t9 ch8 om8 sub8 hback7 hsub7 omc;have HTK2:Hid (zBz m=⟨m.Plan,m.Programs,m.Cores.set N (zCb k7),m.Holds,m.Tick+1⟩):=zh HTK.out;rcases hst with hge | ⟨ch,hc,hst⟩
    focus
     have hd:decide (m.Plan.Channels.length<=ia)=true:=decide_eq_true hge;have hd2:decide ((m.Plan.Channels.length:Int)<=(ia:Int))=true:=decide_eq_true (by omega)
     have hd3:decide ((ia:Int) ≥ (m.Plan.Channels.length:Int))=true:=decide_eq_true (by omega)
     rcases h56 with rfl|rfl
     focus
      go_upto_region 15 with (fail)
      refine zA2 (fun W=>zBw w0.heap.size B F5 W6 W ⟨m.Plan,m.Programs,m.Cores.set N (zCb k7),m.Holds,m.Tick+1⟩ F9) (T9.out) ?_
      intro w7 tz;have TB7:=zh tz;clear tz;obtain⟨m2,hm2⟩:∃ m2:Machine,(⟨m.Plan,m.Programs,m.Cores.set N (zCb k7),m.Holds,m.Tick+1⟩:Machine)=m2:=⟨_,rfl⟩;have HRES:=zh (HTK2.out.trans hm2);rw[hm2] at TB7;clear hm2;obtain⟨G7,TB7⟩:∃ G,Hid (zBw w0.heap.size B F5 W6 w7 m2 G):=⟨_,TB7⟩
     rotate_left 1
     focus
      go_upto_region 15 with (fail)
      refine zA2 (fun W=>zBw w0.heap.size B F5 W6 W ⟨m.Plan,m.Programs,m.Cores.set N (zCb k7),m.Holds,m.Tick+1⟩ F9) (T9.out) ?_
      intro w7 tz;have TB7:=zh tz;clear tz;obtain⟨m2,hm2⟩:∃ m2:Machine,(⟨m.Plan,m.Programs,m.Cores.set N (zCb k7),m.Holds,m.Tick+1⟩:Machine)=m2:=⟨_,rfl⟩;have HRES:=zh (HTK2.out.trans hm2);rw[hm2] at TB7;clear hm2;obtain⟨G7,TB7⟩:∃ G,Hid (zBw w0.heap.size B F5 W6 w7 m2 G):=⟨_,TB7⟩
     rotate_left 1
    rotate_left 2
    focus
     obtain⟨cb,co,ch',rfl,hcb,hxc,j0,j1,j2,j3,-,-,-,-,-⟩:=HC1.out.atChannel ia (zAc hc);obtain rfl:ch'=ch:=Option.some.inj (hxc.out.symm.trans hc);have hil:=zAc hc;have hd:decide (m.Plan.Channels.length<=ia)=false:=decide_eq_false (by omega)
     have hd2:decide ((m.Plan.Channels.length:Int)<=(ia:Int))=false:=decide_eq_false (by omega)
     have hd3:decide ((ia:Int) ≥ (m.Plan.Channels.length:Int))=false:=decide_eq_false (by omega)
     clear hxc hc;rcases h56 with rfl|rfl
     focus
      have hne:(ch'.From == (N:Int))=false:=by
       rcases hst with ⟨h,h2⟩ | ⟨h,h2⟩
       iterate 2 (·first|(cases h;done)|simpa using h2)
      clear hst;go_upto_block 0 with (fail)
      refine zA2 (fun W=>Ext WA W/\Bk W WA.heap.size [.int .i64 ch'.Kind,.int .i64 ch'.From,.int .i64 ch'.To,.int .i64 ch'.Size] 73) ⟨(zr _).alloc _,Bk.new _ _ _⟩ ?_
      rintro W1 ⟨x1,k81⟩;have T1:=TA.out.ext x1;obtain⟨k7',Fy7',ec',omc',hsub7',hback7'⟩:=T1.core k4 (by simpa using HN.out)
      obtain rfl:k7=k7':=(Option.some.inj (ec'.symm.trans (by simp[List.getElem?_set,HNN.out]))).symm
      have gf7':=omc'.bk.2.2.2;obtain⟨_,_,_,_,st7',_,_⟩:=omc'.openC;obtain⟨F8'',om8',sub8',ch8'⟩:=omc'.putStop true;obtain⟨F9',t9'⟩:=hback7' _ _ _ ch8' om8' (fun z hz => .inl (sub8' z hz))
      simp only[List.set_set] at t9';have T9':=zh t9';clear t9' ch8' om8' sub8' hback7' hsub7' omc' ec';have q01:=(zA0 x1 ltB7).trans q0;have v41:=(T1.cl 4 (by decide)).trans k4
      have c81:=k81.cell (j:=1) rfl;have c82:=k81.cell (j:=2) rfl;clear T1 k81 x1;go_upto_region 28 with (fail)
      refine zA2 (fun W=>zBw w0.heap.size B F5 W6 W ⟨m.Plan,m.Programs,m.Cores.set N (zCb k7),m.Holds,m.Tick+1⟩ F9') (T9'.out) ?_
      intro w7 tz;have TB7:=zh tz;clear tz;obtain⟨m2,hm2⟩:∃ m2:Machine,(⟨m.Plan,m.Programs,m.Cores.set N (zCb k7),m.Holds,m.Tick+1⟩:Machine)=m2:=⟨_,rfl⟩;have HRES:=zh (HTK2.out.trans hm2);rw[hm2] at TB7;clear hm2;obtain⟨G7,TB7⟩:∃ G,Hid (zBw w0.heap.size B F5 W6 w7 m2 G):=⟨_,TB7⟩
     rotate_left 1
     focus
      have hne:(ch'.To == (N:Int))=false:=by
       rcases hst with ⟨h,h2⟩ | ⟨h,h2⟩
       iterate 2 (·first|(cases h;done)|simpa using h2)
      clear hst;go_upto_block 0 with (fail)
      refine zA2 (fun W=>Ext WA W/\Bk W WA.heap.size [.int .i64 ch'.Kind,.int .i64 ch'.From,.int .i64 ch'.To,.int .i64 ch'.Size] 73) ⟨(zr _).alloc _,Bk.new _ _ _⟩ ?_
      rintro W1 ⟨x1,k81⟩;have T1:=TA.out.ext x1;obtain⟨k7',Fy7',ec',omc',hsub7',hback7'⟩:=T1.core k4 (by simpa using HN.out)
      obtain rfl:k7=k7':=(Option.some.inj (ec'.symm.trans (by simp[List.getElem?_set,HNN.out]))).symm
      have gf7':=omc'.bk.2.2.2;obtain⟨_,_,_,_,st7',_,_⟩:=omc'.openC;obtain⟨F8'',om8',sub8',ch8'⟩:=omc'.putStop true;obtain⟨F9',t9'⟩:=hback7' _ _ _ ch8' om8' (fun z hz => .inl (sub8' z hz))
      simp only[List.set_set] at t9';have T9':=zh t9';clear t9' ch8' om8' sub8' hback7' hsub7' omc' ec';have q01:=(zA0 x1 ltB7).trans q0;have v41:=(T1.cl 4 (by decide)).trans k4
      have c81:=k81.cell (j:=1) rfl;have c82:=k81.cell (j:=2) rfl;clear T1 k81 x1;go_upto_region 28 with (fail)
      refine zA2 (fun W=>zBw w0.heap.size B F5 W6 W ⟨m.Plan,m.Programs,m.Cores.set N (zCb k7),m.Holds,m.Tick+1⟩ F9') (T9'.out) ?_
      intro w7 tz;have TB7:=zh tz;clear tz;obtain⟨m2,hm2⟩:∃ m2:Machine,(⟨m.Plan,m.Programs,m.Cores.set N (zCb k7),m.Holds,m.Tick+1⟩:Machine)=m2:=⟨_,rfl⟩;have HRES:=zh (HTK2.out.trans hm2);rw[hm2] at TB7;clear hm2;obtain⟨G7,TB7⟩:∃ G,Hid (zBw w0.heap.size B F5 W6 w7 m2 G):=⟨_,TB7⟩
     rotate_left 1
    rotate_left 2
   rotate_left 4
   focus
    rw[e] at HTK;simp only at h5 hc hn;subst h5;have hov:zDf q'.Cells p'.length ⟨5,oa,ob⟩=true:=by
     rcases hord with h|h
     ·cases h
     ·exact h
    have hcs:=zCs hov;simp only at hcs;obtain⟨ia,rfl⟩:∃ ia:Nat,oa=ia:=⟨oa.toNat,by omega⟩
    obtain⟨ib,rfl⟩:∃ ib:Nat,ob=ib:=⟨ob.toNat,by omega⟩
    rw[Int.toNat_natCast] at hc;have hib:ib < c1'.Cells.length:=by have:=(zAh.1 hfit1).1;omega
    have hce:c1'.Cells=k.Cells:=hcel (by decide)
    have hibk:ib < k.Cells.length:=by rw[<- hce];exact hib
    clear hov hord e hcs hcel;obtain⟨x,hx,hxv,hxd⟩:=HV.out.hold hc;have hil:=zAc hc;obtain⟨cb,co,ch',rfl,hcb,hxc,j0,j1,j2,j3,jr0,jr1,jr2,jr3,_⟩:=HC1.out.atChannel ia hil;obtain rfl:ch'=ch:=Option.some.inj (hxc.out.symm.trans hc);have hil2:ia < m.Holds.length:=zAc hx;have hd:decide (m.Plan.Channels.length<=ia)=false:=decide_eq_false (by omega)
    have hd2:decide ((m.Plan.Channels.length:Int)<=(ia:Int))=false:=decide_eq_false (by omega)
    have hd3:decide ((ia:Int) ≥ (m.Plan.Channels.length:Int))=false:=decide_eq_false (by omega)
    have hne:(ch'.From == (N:Int))=true:=by simpa using hn
    clear hxc hc hn;go_upto_block 0 with (fail)
    refine zA2 (fun W=>Ext WA W/\Bk W WA.heap.size [.int .i64 ch'.Kind,.int .i64 ch'.From,.int .i64 ch'.To,.int .i64 ch'.Size] 73) ⟨(zr _).alloc _,Bk.new _ _ _⟩ ?_
    rintro W1 ⟨x1,k81⟩;have T1:=TA.out.ext x1;have K81:=zh k81
    generalize hB8:WA.heap.size=B8 at *
    obtain⟨g5,s5,rfl⟩:∃ g s,t5=some ⟨g,s,none⟩:=by
     obtain⟨_,_,_,ho⟩:=id TB0.out.om;obtain⟨Fc,lc⟩:=TB0.out.om.lMachineHolds;obtain⟨g',s',_,_,e,_⟩:=(lc.om ho).idxS (by rw[show 0+5=5 from rfl];exact k5) ia hil2
     exact⟨g',s',e⟩
    obtain⟨xh,Fh,eh,omh,hsubh,hbackh⟩:=T1.hold k5 hil2;obtain rfl:xh=x:=Option.some.inj (eh.symm.trans hx);have hF8lt:=TA.out.ltF;have hg5F:g5∈F8:=(hsubh g5 (List.mem_cons_self ..)).1;have hg5lt:g5 < B8:=by have:=hF8lt g5 hg5F;omega
    have hB7g5:B7≠g5:=fun e=>hB7F (e ▸ hg5F)
    have OMH:=zh omh;have HBH:=zh hbackh;obtain⟨hb,ho,xp,ah,nh,rfl,hhb,hxp,hcell,_,_,hrv⟩:=(HC5.out.ext x1).atHold ia hil2;obtain rfl:xp=xh:=Option.some.inj (hxp.out.symm.trans hx);have HRV:=zh hrv.out;obtain⟨kb2,ko2,kp,ca,cc,ekk,hkb,hkp,kc0,_,_,_,hkc,_,_⟩:=(HC4.out.ext x1).atCore N n1;obtain⟨rfl,rfl⟩:kb=kb2/\ko=ko2:=by cases ekk;exact⟨rfl,rfl⟩
    clear ekk;obtain rfl:kp=k:=Option.some.inj (hkp.out.symm.trans HEK.out);obtain⟨vb,vo,rfl,hvb,hvc⟩:=zDh hkc.out ib hibk;obtain⟨vv,hvv⟩:∃ vv,kp.Cells.getD ib 0=vv:=⟨_,rfl⟩;rw[hvv] at hvc;have HVV:Hid (c1'.Cells.getD ib 0=vv):=zh (by rw[hce];exact hvv)
    have hvr:=zCd (zAh.1 hfit1).2.2 ib;rw[HVV.out] at hvr;have vr:rng vv:=⟨by omega,by omega⟩
    have z5:=(T1.cl 5 (by decide)).trans k5
    have z4:=(T1.cl 4 (by decide)).trans k4
    have P1:=KPA.out.ext x1;have f5:=P1.cell (j:=5) rfl;have f4:=P1.cell (j:=4) rfl;have ltP1:=P1.lt;have O1:=zh (KOA.out.ext x1);have w0':=O1.out.cell (j:=0) rfl;have w1':=O1.out.cell (j:=1) rfl;have w2':=O1.out.cell (j:=2) rfl;have ltO1:=O1.out.lt;obtain⟨c80,c81,c82,c83⟩:=Bk.k4 K81.out;have ltK8:=K81.out.lt;have TB1:=zh T1;have hW1:w0.heap.size<=W1.heap.size:=by have:=T1.ch.sz;omega
    clear hce;clear q0 q1 q2 e1 e4 e5 j0 j1 j2 j3 hkc hkp hxp eh hx omh hbackh hsubh k81 T1 P1 vA4 vA5 hvv hrv;obtain⟨r1,hr1⟩:∃ r1,(zBg xp ch'.Kind ch'.Size vv).1=r1:=⟨_,rfl⟩;obtain⟨r2,hr2⟩:∃ r2,(zBg xp ch'.Kind ch'.Size vv).2=r2:=⟨_,rfl⟩;have HR:=zh (And.intro hr1 hr2);have hr2b:0<=r2+1/\r2<=255:=by
     have:=zGp (h:=xp) (k:=ch'.Kind) (s:=ch'.Size) (u:=vv);omega
    go_upto_region 19 with (fail)
    refine zD1 rfl 25 [(121,[121]),(122,[122]),(123,[123]),(124,[124]),(125,[125]),(126,[126]),(127,[127]),(128,[128]),(129,[129]),(130,[130]),(131,[131]),(132,[132]),(133,[133]),(134,[134]),(135,[135]),(136,[136]),(137,[137]),(138,[138]),(139,[139]),(140,[140]),(141,[141]),(120,[120,141]),(142,[142,141]),(143,[143]),(9,[9])]
     (fun i vs u F=>match i,vs with
      | 0,[y]=>y = .pointer (some ⟨w.heap.size,5,none⟩)
      | 1,[y]=>y = .slice (some ⟨hb,ho,none⟩) m.Holds.length c5
      | 2,[y]=>y = .pointer (some ⟨B7,1,none⟩)
      | 3,[y]=>y = .int .i64 ia
      | 4,[y]=>y = .pointer (some ⟨hb,ho+ia,none⟩)
      | 5,[y]=>y = .agg #[.slice ah xp.Lst.length nh]
      | 6,[y]=>y = .pointer (some ⟨B8,0,none⟩)
      | 7,[y]=>y = .int .i64 ch'.Kind
      | 8,[y]=>y = .pointer (some ⟨B8,3,none⟩)
      | 9,[y]=>y = .int .i64 ch'.Size
      | 10,[y]=>y = .pointer (some ⟨w.heap.size,4,none⟩)
      | 11,[y]=>y = .slice (some ⟨kb,ko,none⟩) m.Cores.length c4
      | 12,[y]=>y = .int .i64 N
      | 13,[y]=>y = .pointer (some ⟨kb,ko+N*3,none⟩)
      | 14,[y]=>y = .pointer (some ⟨kb,ko+N*3,none⟩)
      | 15,[y]=>y = .slice (some ⟨vb,vo,none⟩) kp.Cells.length cc
      | 16,[y]=>y = .pointer (some ⟨B7,2,none⟩)
      | 17,[y]=>y = .int .i64 ib
      | 18,[y]=>y = .pointer (some ⟨vb,vo+ib,none⟩)
      | 19,[y]=>y = .int .i64 vv
      | 20,[y] => ∃ v',y = .tuple #[.agg #[v'],.int .i64 r2]/\GT.enc u [v'] r1 F
      | 21,[y,z]=>y=z
      | 22,[y,z] => ∃ v',z = .tuple #[.agg #[v'],.int .i64 r2]/\y = .agg #[v']
      | 23,[y]=>y = .int .i64 r2
      | 24,[y] => ∃ B9,y = .pointer (some ⟨B9,0,none⟩)/\F = [B9]/\Bk u B9 [.slice none 0 0] 71
      | _,_=>False) 23 (by decide +kernel) ?_ ?_ ?_
    ·intro i hi hif oo hoo U u F hE hd hap;have i5:=(zA0 hE ltP1).trans f5;have i1:=(zA0 hE ltO1).trans w1';have ih:=(zA0 hE hhb).trans hcell;have i8:=(zA0 hE ltK8).trans c80;have i83:=(zA0 hE ltK8).trans c83;have i4:=(zA0 hE ltP1).trans f4;have i2:=(zA0 hE ltO1).trans w2';have ic:=(zA0 hE hkb).trans kc0;have iv:=(zA0 hE hvb).trans hvc;rcases(by omega:i=0\/i=1\/i=2\/i=3\/i=4\/i=5\/i=6\/i=7\/i=8\/i=9\/i=10\/i=11\/i=12\/i=13\/i=14\/i=15\/i=16\/i=17\/i=18\/i=19\/i=20\/i=21\/i=22\/i=23\/i=24) with rfl|rfl|rfl|rfl|rfl|rfl|rfl|rfl|rfl|rfl|rfl|rfl|rfl|rfl|rfl|rfl|rfl|rfl|rfl|rfl|rfl|rfl|rfl|rfl|rfl
     ·cases hoo;simp only[fr];intro K hK;go_wp2;exact zk hK _ (fun _ _=>rfl)
     ·cases hoo;simp only[fr];obtain⟨⟨d0,-⟩,-⟩:=fa [0] (by decide +kernel) hd
      simp only[fu] at d0;try simp only[d0]
      clear d0;intro K hK;go_wp2;exact zk hK _ (fun _ _=>rfl)
     ·cases hoo;simp only[fr];intro K hK;go_wp2;exact zk hK _ (fun _ _=>rfl)
     ·cases hoo;simp only[fr];obtain⟨⟨d2,-⟩,-⟩:=fa [2] (by decide +kernel) hd
      simp only[fu] at d2;try simp only[d2]
      clear d2;intro K hK;go_wp2;exact zk hK _ (fun _ _=>rfl)
     ·cases hoo;simp only[fr];obtain⟨⟨d0,-⟩,⟨d1,-⟩,⟨d2,-⟩,⟨d3,-⟩,-⟩:=fa [0,1,2,3] (by decide +kernel) hd
      simp only[fu] at d0 d1 d2 d3;try simp only[d0,d1,d2,d3]
      clear d0 d1 d2 d3;intro K hK;go_wp2;exact zk hK _ (fun _ _=>rfl)
     ·cases hoo;simp only[fr];obtain⟨⟨d0,-⟩,⟨d1,-⟩,⟨d2,-⟩,⟨d3,-⟩,⟨d4,-⟩,-⟩:=fa [0,1,2,3,4] (by decide +kernel) hd
      simp only[fu] at d0 d1 d2 d3 d4;try simp only[d0,d1,d2,d3,d4]
      clear d0 d1 d2 d3 d4;intro K hK;go_wp2;exact zk hK _ (fun _ _=>rfl)
     ·cases hoo;simp only[fr];intro K hK;go_wp2;exact zk hK _ (fun _ _=>rfl)
     ·cases hoo;simp only[fr];obtain⟨⟨d6,-⟩,-⟩:=fa [6] (by decide +kernel) hd
      simp only[fu] at d6;try simp only[d6]
      clear d6;intro K hK;go_wp2;exact zk hK _ (fun _ _=>rfl)
     ·cases hoo;simp only[fr];intro K hK;go_wp2;exact zk hK _ (fun _ _=>rfl)
     ·cases hoo;simp only[fr];obtain⟨⟨d8,-⟩,-⟩:=fa [8] (by decide +kernel) hd
      simp only[fu] at d8;try simp only[d8]
      clear d8;intro K hK;go_wp2;exact zk hK _ (fun _ _=>rfl)
     ·cases hoo;simp only[fr];intro K hK;go_wp2;exact zk hK _ (fun _ _=>rfl)
     ·cases hoo;simp only[fr];obtain⟨⟨d10,-⟩,-⟩:=fa [10] (by decide +kernel) hd
      simp only[fu] at d10;try simp only[d10]
      clear d10;intro K hK;go_wp2;exact zk hK _ (fun _ _=>rfl)
     ·cases hoo;simp only[fr];intro K hK;go_wp2;exact zk hK _ (fun _ _=>rfl)
     ·cases hoo;simp only[fr];obtain⟨⟨d10,-⟩,⟨d11,-⟩,⟨d12,-⟩,-⟩:=fa [10,11,12] (by decide +kernel) hd
      simp only[fu] at d10 d11 d12;try simp only[d10,d11,d12]
      clear d10 d11 d12;intro K hK;go_wp2;exact zk hK _ (fun _ _=>rfl)
     ·cases hoo;simp only[fr];obtain⟨⟨d10,-⟩,⟨d11,-⟩,⟨d12,-⟩,⟨d13,-⟩,-⟩:=fa [10,11,12,13] (by decide +kernel) hd
      simp only[fu] at d10 d11 d12 d13;try simp only[d10,d11,d12,d13]
      clear d10 d11 d12 d13;intro K hK;go_wp2;exact zk hK _ (fun _ _=>rfl)
     ·cases hoo;simp only[fr];obtain⟨⟨d10,-⟩,⟨d11,-⟩,⟨d12,-⟩,⟨d13,-⟩,⟨d14,-⟩,-⟩:=fa [10,11,12,13,14] (by decide +kernel) hd
      simp only[fu] at d10 d11 d12 d13 d14;try simp only[d10,d11,d12,d13,d14]
      clear d10 d11 d12 d13 d14;intro K hK;go_wp2;exact zk hK _ (fun _ _=>rfl)
     ·cases hoo;simp only[fr];intro K hK;go_wp2;exact zk hK _ (fun _ _=>rfl)
     ·cases hoo;simp only[fr];obtain⟨⟨d16,-⟩,-⟩:=fa [16] (by decide +kernel) hd
      simp only[fu] at d16;try simp only[d16]
      clear d16;intro K hK;go_wp2;exact zk hK _ (fun _ _=>rfl)
     ·cases hoo;simp only[fr];obtain⟨⟨d10,-⟩,⟨d11,-⟩,⟨d12,-⟩,⟨d13,-⟩,⟨d14,-⟩,⟨d15,-⟩,⟨d16,-⟩,⟨d17,-⟩,-⟩:=fa [10,11,12,13,14,15,16,17] (by decide +kernel) hd
      simp only[fu] at d10 d11 d12 d13 d14 d15 d16 d17;try simp only[d10,d11,d12,d13,d14,d15,d16,d17]
      clear d10 d11 d12 d13 d14 d15 d16 d17;intro K hK;go_wp2;exact zk hK _ (fun _ _=>rfl)
     ·cases hoo;simp only[fr];obtain⟨⟨d10,-⟩,⟨d11,-⟩,⟨d12,-⟩,⟨d13,-⟩,⟨d14,-⟩,⟨d15,-⟩,⟨d16,-⟩,⟨d17,-⟩,⟨d18,-⟩,-⟩:=fa [10,11,12,13,14,15,16,17,18] (by decide +kernel) hd
      simp only[fu] at d10 d11 d12 d13 d14 d15 d16 d17 d18;try simp only[d10,d11,d12,d13,d14,d15,d16,d17,d18]
      clear d10 d11 d12 d13 d14 d15 d16 d17 d18;intro K hK;go_wp2;exact zk hK _ (fun _ _=>rfl)
     ·cases hoo;simp only[fr];obtain⟨⟨d0,-⟩,⟨d1,-⟩,⟨d2,-⟩,⟨d3,-⟩,⟨d4,-⟩,⟨d5,-⟩,⟨d6,-⟩,⟨d7,-⟩,⟨d8,-⟩,⟨d9,-⟩,⟨d10,-⟩,⟨d11,-⟩,⟨d12,-⟩,⟨d13,-⟩,⟨d14,-⟩,⟨d15,-⟩,⟨d16,-⟩,⟨d17,-⟩,⟨d18,-⟩,⟨d19,-⟩,-⟩:=fa [0,1,2,3,4,5,6,7,8,9,10,11,12,13,14,15,16,17,18,19] (by decide +kernel) hd
      simp only[fu] at d0 d1 d2 d3 d4 d5 d6 d7 d8 d9 d10 d11 d12 d13 d14 d15 d16 d17 d18 d19;try simp only[d0,d1,d2,d3,d4,d5,d6,d7,d8,d9,d10,d11,d12,d13,d14,d15,d16,d17,d18,d19]
      intro K hK;go_wp2_with (go_at_call 75;refine(zGb _ xp ch'.Kind ch'.Size vv _ (HRV.out.ext hE) hxv hvr).mono ?_;rintro e w' ⟨v1,rfl,hov,ex1⟩;rw[hr2,hr1] at *;obtain⟨cs',F',rfl,hen,how⟩:=hov;obtain⟨v',rfl,hsl⟩:=id hen)
      exact hK _ F' _ ex1 (fun _ h=>⟨v',rfl,GT.ext hen h⟩) how
     ·cases hoo;simp only[fr];obtain⟨⟨d0,-⟩,⟨d1,-⟩,⟨d2,-⟩,⟨d3,-⟩,⟨d4,-⟩,⟨d5,-⟩,⟨d6,-⟩,⟨d7,-⟩,⟨d8,-⟩,⟨d9,-⟩,⟨d10,-⟩,⟨d11,-⟩,⟨d12,-⟩,⟨d13,-⟩,⟨d14,-⟩,⟨d15,-⟩,⟨d16,-⟩,⟨d17,-⟩,⟨d18,-⟩,⟨d19,-⟩,⟨d20,o20⟩,-⟩:=fa [0,1,2,3,4,5,6,7,8,9,10,11,12,13,14,15,16,17,18,19,20] (by decide +kernel) hd
      simp only[fu] at d0 d1 d2 d3 d4 d5 d6 d7 d8 d9 d10 d11 d12 d13 d14 d15 d16 d17 d18 d19 d20;try simp only[d0,d1,d2,d3,d4,d5,d6,d7,d8,d9,d10,d11,d12,d13,d14,d15,d16,d17,d18,d19]
      obtain⟨v',ev,_⟩:=d20;simp only[ev];intro K hK;go_wp2;exact zk hK _ (fun _ _=>by show Value.tuple _=U 141;rw[ev])
     ·cases hoo;simp only[fr];obtain⟨⟨d0,-⟩,⟨d1,-⟩,⟨d2,-⟩,⟨d3,-⟩,⟨d4,-⟩,⟨d5,-⟩,⟨d6,-⟩,⟨d7,-⟩,⟨d8,-⟩,⟨d9,-⟩,⟨d10,-⟩,⟨d11,-⟩,⟨d12,-⟩,⟨d13,-⟩,⟨d14,-⟩,⟨d15,-⟩,⟨d16,-⟩,⟨d17,-⟩,⟨d18,-⟩,⟨d19,-⟩,⟨d20,o20⟩,⟨d21,-⟩,-⟩:=fa [0,1,2,3,4,5,6,7,8,9,10,11,12,13,14,15,16,17,18,19,20,21] (by decide +kernel) hd
      simp only[fu] at d0 d1 d2 d3 d4 d5 d6 d7 d8 d9 d10 d11 d12 d13 d14 d15 d16 d17 d18 d19 d20 d21;try simp only[d0,d1,d2,d3,d4,d5,d6,d7,d8,d9,d10,d11,d12,d13,d14,d15,d16,d17,d18,d19,d21]
      obtain⟨v',ev,_⟩:=d20;have d21z:=d21;rw[ev] at d21z;simp only[d21z,ev];intro K hK;go_wp2;exact zk hK _ (fun _ _=>⟨v',ev,rfl⟩)
     ·exact absurd rfl hif
     ·cases hoo;simp only[fr];intro K hK;go_wp2;have b1:=Bk.new u [.slice none 0 0] 71;exact hK _ [u.heap.size] _ ((zr u).alloc _) (fun _ h=>⟨_,rfl,rfl,b1.ext h⟩) (b1.own (Nat.le_refl _))
    ·intro oo hoo U u F hE hd;cases hoo;simp only[fr];obtain⟨⟨d0,-⟩,⟨d1,-⟩,⟨d2,-⟩,⟨d3,-⟩,⟨d4,-⟩,⟨d5,-⟩,⟨d6,-⟩,⟨d7,-⟩,⟨d8,-⟩,⟨d9,-⟩,⟨d10,-⟩,⟨d11,-⟩,⟨d12,-⟩,⟨d13,-⟩,⟨d14,-⟩,⟨d15,-⟩,⟨d16,-⟩,⟨d17,-⟩,⟨d18,-⟩,⟨d19,-⟩,⟨d20,o20⟩,⟨d21,-⟩,-⟩:=fa [0,1,2,3,4,5,6,7,8,9,10,11,12,13,14,15,16,17,18,19,20,21] (by decide +kernel) hd
     simp only[fu] at d0 d1 d2 d3 d4 d5 d6 d7 d8 d9 d10 d11 d12 d13 d14 d15 d16 d17 d18 d19 d20 d21;try simp only[d0,d1,d2,d3,d4,d5,d6,d7,d8,d9,d10,d11,d12,d13,d14,d15,d16,d17,d18,d19,d21]
     obtain⟨v',ev,_⟩:=d20;have d21z:=d21;rw[ev] at d21z;exact⟨.int .i64 r2,fun w2=>by simp[execOp,Act.eval,d21z,ev,go_sem],fun _ _=>rfl⟩
    focus
     intro oo hoo U u G hE hφ hap K hK;cases hoo;obtain⟨⟨d0,-⟩,⟨d1,-⟩,⟨d2,-⟩,⟨d3,-⟩,⟨d4,-⟩,⟨d5,-⟩,⟨d6,-⟩,⟨d7,-⟩,⟨d8,-⟩,⟨d9,-⟩,⟨d10,-⟩,⟨d11,-⟩,⟨d12,-⟩,⟨d13,-⟩,⟨d14,-⟩,⟨d15,-⟩,⟨d16,-⟩,⟨d17,-⟩,⟨d18,-⟩,⟨d19,-⟩,⟨d20,o20⟩,⟨d21,-⟩,⟨d22,o22⟩,⟨d23,-⟩,⟨d24,o24⟩,-⟩:=fb [0,1,2,3,4,5,6,7,8,9,10,11,12,13,14,15,16,17,18,19,20,21,22,23,24] (by decide +kernel) hφ
     simp only[fu] at d0 d1 d2 d3 d4 d5 d6 d7 d8 d9 d10 d11 d12 d13 d14 d15 d16 d17 d18 d19 d20 d21 d22 d23 d24;try simp only[d0,d1,d2,d3,d4,d5,d6,d7,d8,d9,d10,d11,d12,d13,d14,d15,d16,d17,d18,d19,d21,d23]
     obtain⟨v',ev,hen⟩:=d20;obtain⟨v2,ev2,ex2⟩:=d22;obtain rfl:v2=v':=by
      have h:=ev.symm.trans ev2
      injection h with h
      have h:=congrArg Array.toList h;simp only[List.cons.injEq] at h
      injection h.1 with h
      have h:=congrArg Array.toList h;simp only[List.cons.injEq] at h;exact h.1.symm
     obtain⟨B9,e9,eg9,k9b⟩:=d24;have ap:=hap 20 24 (by omega) (by omega) (by omega)
     rw[eg9] at o24 ap;have lB9:W1.heap.size<=B9:=(o24.2 B9 (by simp)).1
     have nB9:B9 ∉ G 20:=ap.one;have how:=o20
     generalize G 20=GH at *
     obtain⟨v3,e3,hs3⟩:=id hen;obtain rfl:v2=v3:=by simpa using e3
     obtain⟨av2,cv2,rfl,_⟩:=id hs3;clear e3 hs3;simp only[fr];simp only[zBv,zCh,List.map_cons,List.map_nil,setL,List.set_cons_succ,List.set_cons_zero,Bd.d,List.getD_cons_succ,List.getD_cons_zero] at hK;simp only[e9,ex2,d23] at hK ⊢;have k9f:=k9b.fz;have x90:=k9b.cell (j:=0) rfl;have KK:=zh (k9b.set 0 (.slice av2 r1.Lst.length cv2));have EN:=zh (GT.keep (w':=u.setCell ⟨B9,0,none⟩ (.slice av2 r1.Lst.length cv2)) hen (fun k hk=>zA3 (fun e=>nB9 (by have e:k=B9:=e;rw[<- e];exact hk))))
     have OW:=zh (how.set ⟨B9,0,none⟩ (.slice av2 r1.Lst.length cv2));have EE:=zh (hE.set (p:=⟨B9,0,none⟩) lB9 (.slice av2 r1.Lst.length cv2));clear hE hφ hap ap d0 d1 d2 d3 d4 d5 d6 d7 d8 d9 d10 d11 d12 d13 d14 d15 d16 d17 d18 d19 d21 o20 o22 o24 ev ev2 hen how;go_upto_region 20 with (fail)
     refine zA2 (fun W=>Ext W1 W/\Bk W B9 [.slice av2 r1.Lst.length cv2] 71/\GT.enc W [.slice av2 r1.Lst.length cv2] r1 GH/\Own W1.heap.size W GH) ⟨EE.out,KK.out,EN.out,OW.out⟩ ?_
     rintro W2 ⟨E2,K2,EN2,OW2⟩;clear KK EN OW EE x90 k9f;have ltb1:=TB1.out.lt;have i5:=(zA0 E2 ltb1).trans z5;have i1:=(zA0 E2 ltO1).trans w1';obtain⟨_,_,hh0,_⟩:=(OMH.out.ext E2).openHs;have i9:=K2.cell (j:=0) rfl;have gf9:=(OMH.out.ext E2).bk.2.2.2;obtain⟨pc1,pc2,pc3⟩:=OMH.out.putHold E2 hW1 (Nat.le_refl _) EN2 OW2;obtain⟨F10,t10⟩:=HBH.out _ _ _ pc1 pc2 (fun z hz => .inr (pc3 z hz))
     have T10:=zh t10;have hB8g:B8≠g5:=by omega
     have K82:=zh ((K81.out.ext E2).set_ne (p:=⟨g5,s5+ia,none⟩) hB8g (.slice av2 r1.Lst.length cv2));have O2:=zh ((O1.out.ext E2).set_ne (p:=⟨g5,s5+ia,none⟩) hB7g5 (.slice av2 r1.Lst.length cv2));clear t10 pc1 pc2 pc3 EN2 OW2;go_upto_region 21 with (fail)
     refine zA2 (fun W=>zBw w0.heap.size B F5 W6 W ⟨m.Plan,m.Programs,m.Cores.set N c1',m.Holds.set ia r1,m.Tick+1⟩ F10/\Bk W B8 [.int .i64 ch'.Kind,.int .i64 ch'.From,.int .i64 ch'.To,.int .i64 ch'.Size] 73/\Bk W B7 [.int .i64 5,.int .i64 ia,.int .i64 ib] 98) ⟨T10.out,K82.out,O2.out⟩ ?_
     rintro WB ⟨tB,kB8,kB7⟩;have TBB:=zh tB;have wb2:=kB7.cell (j:=2) rfl;have wk0:=kB8.cell (j:=0) rfl;have vB4:=(tB.cl 4 (by decide)).trans k4
     obtain⟨kA,FyA,ecA,omcA,hsubA,hbackA⟩:=tB.core k4 (by simpa using HN.out)
     obtain rfl:c1'=kA:=(Option.some.inj (ecA.symm.trans (by simp[List.getElem?_set,HN.out]))).symm
     obtain⟨acA,ncA,xcA,_,_,_,_⟩:=omcA.openC;obtain⟨gcA,scA,rfl,hgcA,hgcFA,hltcA,hccA,hfcA,hrcA,hputA⟩:=omcA.cellC xcA ib hib;have HBA:=zh hbackA;have HPA:=zh hputA;have hr2r:rng r2:=⟨by omega,by omega⟩
     clear tB kB8 kB7 omcA hsubA hbackA hputA ecA T10 K82 O2 i5 i1 hh0 i9 gf9 E2 K2 z5 z4 hcell kc0 hvc f5 f4 w0' w1' w2' c80 c81 c82 c83;by_cases hc0:ch'.Kind=3
     focus
      have HTK3:Hid (zBz m=⟨m.Plan,m.Programs,m.Cores.set N { c1' with Cells:=c1'.Cells.set ib r2 },m.Holds.set ia r1,m.Tick+1⟩):=zh (by
       have hE:=zIu (h:=xp) (c:=c1') (o:=⟨5,ia,ib⟩) (ch:=ch') (vv:=vv) HVV.out hc0 HR.out.1 HR.out.2;rw[HTK.out,Int.toNat_natCast,hxd,hE];rfl)
      rw[hc0] at wk0;obtain⟨F11,om11,sub11,ch11⟩:=HPA.out r2 hr2r;obtain⟨F12,t12⟩:=HBA.out _ _ _ ch11 om11 (fun z hz => .inl (sub11 z hz))
      simp only[List.set_set] at t12;have T12:=zh t12;clear t12 om11 ch11 sub11 hc0;go_upto_region 22 with (fail)
      refine zAi 9 (by kernel_rfl) (by kernel_rfl) ?_
      simp only[List.take_succ_cons,List.take_zero,List.drop_succ_cons,List.drop_zero]
      repeat (go_big_quiet_step (fail))
      refine wpQuiet_nil ?_;go_upto_region 28 with (fail)
      refine zA2 (fun W=>zBw w0.heap.size B F5 W6 W ⟨m.Plan,m.Programs,m.Cores.set N { c1' with Cells:=c1'.Cells.set ib r2 },m.Holds.set ia r1,m.Tick+1⟩ F12) (T12.out.ext (Qt.ext ⟨1,rfl⟩)) ?_
      intro w7 tz;have TB7:=zh tz;clear tz;obtain⟨m2,hm2⟩:∃ m2:Machine,(⟨m.Plan,m.Programs,m.Cores.set N { c1' with Cells:=c1'.Cells.set ib r2 },m.Holds.set ia r1,m.Tick+1⟩:Machine)=m2:=⟨_,rfl⟩
      have HRES:=zh (HTK3.out.trans hm2);rw[hm2] at TB7;clear hm2;obtain⟨G7,TB7⟩:∃ G,Hid (zBw w0.heap.size B F5 W6 w7 m2 G):=⟨_,TB7⟩
     rotate_left 1
     focus
      have HTK3:Hid (zBz m=⟨m.Plan,m.Programs,m.Cores.set N c1',m.Holds.set ia r1,m.Tick+1⟩):=zh (by
       have hE:=zIt (h:=xp) (c:=c1') (o:=⟨5,ia,ib⟩) (ch:=ch') (vv:=vv) HVV.out hc0 HR.out.1 HR.out.2;rw[HTK.out,Int.toNat_natCast,hxd,hE])
      have hdc:(ch'.Kind == 3)=false:=by simpa using hc0
      clear hc0;go_upto_region 28 with (fail)
      refine zA2 (fun W=>zBw w0.heap.size B F5 W6 W ⟨m.Plan,m.Programs,m.Cores.set N c1',m.Holds.set ia r1,m.Tick+1⟩ F10) (TBB.out) ?_
      intro w7 tz;have TB7:=zh tz;clear tz;obtain⟨m2,hm2⟩:∃ m2:Machine,(⟨m.Plan,m.Programs,m.Cores.set N c1',m.Holds.set ia r1,m.Tick+1⟩:Machine)=m2:=⟨_,rfl⟩;have HRES:=zh (HTK3.out.trans hm2);rw[hm2] at TB7;clear hm2;obtain⟨G7,TB7⟩:∃ G,Hid (zBw w0.heap.size B F5 W6 w7 m2 G):=⟨_,TB7⟩
     rotate_left 1
    rotate_left 2
   rotate_left 2
   focus
    rw[e] at HTK;simp only at h6 hc hn;subst h6;have hov:zDf q'.Cells p'.length ⟨6,oa,ob⟩=true:=by
     rcases hord with h|h
     ·cases h
     ·exact h
    have hcs:=zCs hov;simp only at hcs;obtain⟨ia,rfl⟩:∃ ia:Nat,oa=ia:=⟨oa.toNat,by omega⟩
    obtain⟨ib,rfl⟩:∃ ib:Nat,ob=ib:=⟨ob.toNat,by omega⟩
    rw[Int.toNat_natCast] at hc;have hib:ib < c1'.Cells.length:=by have:=(zAh.1 hfit1).1;omega
    have hce:c1'.Cells=k.Cells:=hcel (by decide)
    have hibk:ib < k.Cells.length:=by rw[<- hce];exact hib
    clear hov hord e hcs hcel;obtain⟨x,hx,hxv,hxd⟩:=HV.out.hold hc;have hil:=zAc hc;obtain⟨cb,co,ch',rfl,hcb,hxc,j0,j1,j2,j3,jr0,jr1,jr2,jr3,_⟩:=HC1.out.atChannel ia hil;obtain rfl:ch'=ch:=Option.some.inj (hxc.out.symm.trans hc);have hil2:ia < m.Holds.length:=zAc hx;have hd:decide (m.Plan.Channels.length<=ia)=false:=decide_eq_false (by omega)
    have hd2:decide ((m.Plan.Channels.length:Int)<=(ia:Int))=false:=decide_eq_false (by omega)
    have hd3:decide ((ia:Int) ≥ (m.Plan.Channels.length:Int))=false:=decide_eq_false (by omega)
    have hne:(ch'.To == (N:Int))=true:=by simpa using hn
    clear hxc hc hn;go_upto_block 0 with (fail)
    refine zA2 (fun W=>Ext WA W/\Bk W WA.heap.size [.int .i64 ch'.Kind,.int .i64 ch'.From,.int .i64 ch'.To,.int .i64 ch'.Size] 73) ⟨(zr _).alloc _,Bk.new _ _ _⟩ ?_
    rintro W1 ⟨x1,k81⟩;have T1:=TA.out.ext x1;have K81:=zh k81
    generalize hB8:WA.heap.size=B8 at *
    obtain⟨g5,s5,rfl⟩:∃ g s,t5=some ⟨g,s,none⟩:=by
     obtain⟨_,_,_,ho⟩:=id TB0.out.om;obtain⟨Fc,lc⟩:=TB0.out.om.lMachineHolds;obtain⟨g',s',_,_,e,_⟩:=(lc.om ho).idxS (by rw[show 0+5=5 from rfl];exact k5) ia hil2
     exact⟨g',s',e⟩
    obtain⟨xh,Fh,eh,omh,hsubh,hbackh⟩:=T1.hold k5 hil2;obtain rfl:xh=x:=Option.some.inj (eh.symm.trans hx);have hF8lt:=TA.out.ltF;have hg5F:g5∈F8:=(hsubh g5 (List.mem_cons_self ..)).1;have hg5lt:g5 < B8:=by have:=hF8lt g5 hg5F;omega
    have hB7g5:B7≠g5:=fun e=>hB7F (e ▸ hg5F)
    have OMH:=zh omh;have HBH:=zh hbackh;obtain⟨hb,ho,xp,ah,nh,rfl,hhb,hxp,hcell,_,_,hrv⟩:=(HC5.out.ext x1).atHold ia hil2;obtain rfl:xp=xh:=Option.some.inj (hxp.out.symm.trans hx);have HRV:=zh hrv.out;obtain⟨kb2,ko2,kp,ca,cc,ekk,hkb,hkp,kc0,_,_,_,hkc,_,_⟩:=(HC4.out.ext x1).atCore N n1;obtain⟨rfl,rfl⟩:kb=kb2/\ko=ko2:=by cases ekk;exact⟨rfl,rfl⟩
    clear ekk;obtain rfl:kp=k:=Option.some.inj (hkp.out.symm.trans HEK.out);obtain⟨vb,vo,rfl,hvb,hvc⟩:=zDh hkc.out ib hibk;obtain⟨vv,hvv⟩:∃ vv,kp.Cells.getD ib 0=vv:=⟨_,rfl⟩;rw[hvv] at hvc;have HVV:Hid (c1'.Cells.getD ib 0=vv):=zh (by rw[hce];exact hvv)
    have hvr:=zCd (zAh.1 hfit1).2.2 ib;rw[HVV.out] at hvr;have vr:rng vv:=⟨by omega,by omega⟩
    have z5:=(T1.cl 5 (by decide)).trans k5
    have z4:=(T1.cl 4 (by decide)).trans k4
    have P1:=KPA.out.ext x1;have f5:=P1.cell (j:=5) rfl;have f4:=P1.cell (j:=4) rfl;have ltP1:=P1.lt;have O1:=zh (KOA.out.ext x1);have w0':=O1.out.cell (j:=0) rfl;have w1':=O1.out.cell (j:=1) rfl;have w2':=O1.out.cell (j:=2) rfl;have ltO1:=O1.out.lt;obtain⟨c80,c81,c82,c83⟩:=Bk.k4 K81.out;have ltK8:=K81.out.lt;have TB1:=zh T1;have hW1:w0.heap.size<=W1.heap.size:=by have:=T1.ch.sz;omega
    clear hce;clear q0 q1 q2 e1 e4 e5 j0 j1 j2 j3 hkc hkp hxp eh hx omh hbackh hsubh k81 T1 P1 vA4 vA5 hvv hrv;obtain⟨r1,hr1⟩:∃ r1,(zB9 xp ch'.Kind).1=r1:=⟨_,rfl⟩;obtain⟨r2,hr2⟩:∃ r2,(zB9 xp ch'.Kind).2=r2:=⟨_,rfl⟩;have HR:=zh (And.intro hr1 hr2);have hr2b:0<=r2+1/\r2<=255:=by
     have:=zGu hxv;omega
    go_upto_region 24 with (fail)
    refine zD1 rfl 15 [(174,[174]),(175,[175]),(176,[176]),(177,[177]),(178,[178]),(179,[179]),(180,[180]),(181,[181]),(182,[182]),(183,[183]),(184,[184]),(173,[173,184]),(185,[185,184]),(186,[186]),(11,[11])]
     (fun i vs u F=>match i,vs with
      | 0,[y]=>y = .pointer (some ⟨w.heap.size,5,none⟩)
      | 1,[y]=>y = .slice (some ⟨hb,ho,none⟩) m.Holds.length c5
      | 2,[y]=>y = .pointer (some ⟨B7,1,none⟩)
      | 3,[y]=>y = .int .i64 ia
      | 4,[y]=>y = .pointer (some ⟨hb,ho+ia,none⟩)
      | 5,[y]=>y = .agg #[.slice ah xp.Lst.length nh]
      | 6,[y]=>y = .pointer (some ⟨B8,0,none⟩)
      | 7,[y]=>y = .int .i64 ch'.Kind
      | 8,[y]=>y = .pointer (some ⟨B8,3,none⟩)
      | 9,[y]=>y = .int .i64 ch'.Size
      | 10,[y] => ∃ v',y = .tuple #[.agg #[v'],.int .i64 r2]/\GT.enc u [v'] r1 F
      | 11,[y,z]=>y=z
      | 12,[y,z] => ∃ v',z = .tuple #[.agg #[v'],.int .i64 r2]/\y = .agg #[v']
      | 13,[y]=>y = .int .i64 r2
      | 14,[y] => ∃ B9,y = .pointer (some ⟨B9,0,none⟩)/\F = [B9]/\Bk u B9 [.slice none 0 0] 71
      | _,_=>False) 13 (by decide +kernel) ?_ ?_ ?_
    ·intro i hi hif oo hoo U u F hE hd hap;have i5:=(zA0 hE ltP1).trans f5;have i1:=(zA0 hE ltO1).trans w1';have ih:=(zA0 hE hhb).trans hcell;have i8:=(zA0 hE ltK8).trans c80;have i83:=(zA0 hE ltK8).trans c83;rcases(by omega:i=0\/i=1\/i=2\/i=3\/i=4\/i=5\/i=6\/i=7\/i=8\/i=9\/i=10\/i=11\/i=12\/i=13\/i=14) with rfl|rfl|rfl|rfl|rfl|rfl|rfl|rfl|rfl|rfl|rfl|rfl|rfl|rfl|rfl
     ·cases hoo;simp only[fr];intro K hK;go_wp2;exact zk hK _ (fun _ _=>rfl)
     ·cases hoo;simp only[fr];obtain⟨⟨d0,-⟩,-⟩:=fa [0] (by decide +kernel) hd
      simp only[fu] at d0;try simp only[d0]
      clear d0;intro K hK;go_wp2;exact zk hK _ (fun _ _=>rfl)
     ·cases hoo;simp only[fr];intro K hK;go_wp2;exact zk hK _ (fun _ _=>rfl)
     ·cases hoo;simp only[fr];obtain⟨⟨d2,-⟩,-⟩:=fa [2] (by decide +kernel) hd
      simp only[fu] at d2;try simp only[d2]
      clear d2;intro K hK;go_wp2;exact zk hK _ (fun _ _=>rfl)
     ·cases hoo;simp only[fr];obtain⟨⟨d0,-⟩,⟨d1,-⟩,⟨d2,-⟩,⟨d3,-⟩,-⟩:=fa [0,1,2,3] (by decide +kernel) hd
      simp only[fu] at d0 d1 d2 d3;try simp only[d0,d1,d2,d3]
      clear d0 d1 d2 d3;intro K hK;go_wp2;exact zk hK _ (fun _ _=>rfl)
     ·cases hoo;simp only[fr];obtain⟨⟨d0,-⟩,⟨d1,-⟩,⟨d2,-⟩,⟨d3,-⟩,⟨d4,-⟩,-⟩:=fa [0,1,2,3,4] (by decide +kernel) hd
      simp only[fu] at d0 d1 d2 d3 d4;try simp only[d0,d1,d2,d3,d4]
      clear d0 d1 d2 d3 d4;intro K hK;go_wp2;exact zk hK _ (fun _ _=>rfl)
     ·cases hoo;simp only[fr];intro K hK;go_wp2;exact zk hK _ (fun _ _=>rfl)
     ·cases hoo;simp only[fr];obtain⟨⟨d6,-⟩,-⟩:=fa [6] (by decide +kernel) hd
      simp only[fu] at d6;try simp only[d6]
      clear d6;intro K hK;go_wp2;exact zk hK _ (fun _ _=>rfl)
     ·cases hoo;simp only[fr];intro K hK;go_wp2;exact zk hK _ (fun _ _=>rfl)
     ·cases hoo;simp only[fr];obtain⟨⟨d8,-⟩,-⟩:=fa [8] (by decide +kernel) hd
      simp only[fu] at d8;try simp only[d8]
      clear d8;intro K hK;go_wp2;exact zk hK _ (fun _ _=>rfl)
     ·cases hoo;simp only[fr];obtain⟨⟨d0,-⟩,⟨d1,-⟩,⟨d2,-⟩,⟨d3,-⟩,⟨d4,-⟩,⟨d5,-⟩,⟨d6,-⟩,⟨d7,-⟩,⟨d8,-⟩,⟨d9,-⟩,-⟩:=fa [0,1,2,3,4,5,6,7,8,9] (by decide +kernel) hd
      simp only[fu] at d0 d1 d2 d3 d4 d5 d6 d7 d8 d9;try simp only[d0,d1,d2,d3,d4,d5,d6,d7,d8,d9]
      intro K hK;go_wp2_with (go_at_call 76;refine(zGc _ xp ch'.Kind ch'.Size _ (HRV.out.ext hE) hxv).mono ?_;rintro e w' ⟨v1,rfl,hov,ex1⟩;rw[hr2,hr1] at *;obtain⟨cs',F',rfl,hen,how⟩:=hov;obtain⟨v',rfl,hsl⟩:=id hen)
      exact hK _ F' _ ex1 (fun _ h=>⟨v',rfl,GT.ext hen h⟩) how
     ·cases hoo;simp only[fr];obtain⟨⟨d0,-⟩,⟨d1,-⟩,⟨d2,-⟩,⟨d3,-⟩,⟨d4,-⟩,⟨d5,-⟩,⟨d6,-⟩,⟨d7,-⟩,⟨d8,-⟩,⟨d9,-⟩,⟨d10,o10⟩,-⟩:=fa [0,1,2,3,4,5,6,7,8,9,10] (by decide +kernel) hd
      simp only[fu] at d0 d1 d2 d3 d4 d5 d6 d7 d8 d9 d10;try simp only[d0,d1,d2,d3,d4,d5,d6,d7,d8,d9]
      obtain⟨v',ev,_⟩:=d10;simp only[ev];intro K hK;go_wp2;exact zk hK _ (fun _ _=>by show Value.tuple _=U 184;rw[ev])
     ·cases hoo;simp only[fr];obtain⟨⟨d0,-⟩,⟨d1,-⟩,⟨d2,-⟩,⟨d3,-⟩,⟨d4,-⟩,⟨d5,-⟩,⟨d6,-⟩,⟨d7,-⟩,⟨d8,-⟩,⟨d9,-⟩,⟨d10,o10⟩,⟨d11,-⟩,-⟩:=fa [0,1,2,3,4,5,6,7,8,9,10,11] (by decide +kernel) hd
      simp only[fu] at d0 d1 d2 d3 d4 d5 d6 d7 d8 d9 d10 d11;try simp only[d0,d1,d2,d3,d4,d5,d6,d7,d8,d9,d11]
      obtain⟨v',ev,_⟩:=d10;have d11z:=d11;rw[ev] at d11z;simp only[d11z,ev];intro K hK;go_wp2;exact zk hK _ (fun _ _=>⟨v',ev,rfl⟩)
     ·exact absurd rfl hif
     ·cases hoo;simp only[fr];intro K hK;go_wp2;have b1:=Bk.new u [.slice none 0 0] 71;exact hK _ [u.heap.size] _ ((zr u).alloc _) (fun _ h=>⟨_,rfl,rfl,b1.ext h⟩) (b1.own (Nat.le_refl _))
    ·intro oo hoo U u F hE hd;cases hoo;simp only[fr];obtain⟨⟨d0,-⟩,⟨d1,-⟩,⟨d2,-⟩,⟨d3,-⟩,⟨d4,-⟩,⟨d5,-⟩,⟨d6,-⟩,⟨d7,-⟩,⟨d8,-⟩,⟨d9,-⟩,⟨d10,o10⟩,⟨d11,-⟩,-⟩:=fa [0,1,2,3,4,5,6,7,8,9,10,11] (by decide +kernel) hd
     simp only[fu] at d0 d1 d2 d3 d4 d5 d6 d7 d8 d9 d10 d11;try simp only[d0,d1,d2,d3,d4,d5,d6,d7,d8,d9,d11]
     obtain⟨v',ev,_⟩:=d10;have d11z:=d11;rw[ev] at d11z;exact⟨.int .i64 r2,fun w2=>by simp[execOp,Act.eval,d11z,ev,go_sem],fun _ _=>rfl⟩
    focus
     intro oo hoo U u G hE hφ hap K hK;cases hoo;obtain⟨⟨d0,-⟩,⟨d1,-⟩,⟨d2,-⟩,⟨d3,-⟩,⟨d4,-⟩,⟨d5,-⟩,⟨d6,-⟩,⟨d7,-⟩,⟨d8,-⟩,⟨d9,-⟩,⟨d10,o10⟩,⟨d11,-⟩,⟨d12,o12⟩,⟨d13,-⟩,⟨d14,o14⟩,-⟩:=fb [0,1,2,3,4,5,6,7,8,9,10,11,12,13,14] (by decide +kernel) hφ
     simp only[fu] at d0 d1 d2 d3 d4 d5 d6 d7 d8 d9 d10 d11 d12 d13 d14;try simp only[d0,d1,d2,d3,d4,d5,d6,d7,d8,d9,d11,d13]
     obtain⟨v',ev,hen⟩:=d10;obtain⟨v2,ev2,ex2⟩:=d12;obtain rfl:v2=v':=by
      have h:=ev.symm.trans ev2
      injection h with h
      have h:=congrArg Array.toList h;simp only[List.cons.injEq] at h
      injection h.1 with h
      have h:=congrArg Array.toList h;simp only[List.cons.injEq] at h;exact h.1.symm
     obtain⟨B9,e9,eg9,k9b⟩:=d14;have ap:=hap 10 14 (by omega) (by omega) (by omega)
     rw[eg9] at o14 ap;have lB9:W1.heap.size<=B9:=(o14.2 B9 (by simp)).1
     have nB9:B9 ∉ G 10:=ap.one;have how:=o10
     generalize G 10=GH at *
     obtain⟨v3,e3,hs3⟩:=id hen;obtain rfl:v2=v3:=by simpa using e3
     obtain⟨av2,cv2,rfl,_⟩:=id hs3;clear e3 hs3;simp only[fr];simp only[zBv,zCh,List.map_cons,List.map_nil,setL,List.set_cons_succ,List.set_cons_zero,Bd.d,List.getD_cons_succ,List.getD_cons_zero] at hK;simp only[e9,ex2,d13] at hK ⊢;have k9f:=k9b.fz;have x90:=k9b.cell (j:=0) rfl;have KK:=zh (k9b.set 0 (.slice av2 r1.Lst.length cv2));have EN:=zh (GT.keep (w':=u.setCell ⟨B9,0,none⟩ (.slice av2 r1.Lst.length cv2)) hen (fun k hk=>zA3 (fun e=>nB9 (by have e:k=B9:=e;rw[<- e];exact hk))))
     have OW:=zh (how.set ⟨B9,0,none⟩ (.slice av2 r1.Lst.length cv2));have EE:=zh (hE.set (p:=⟨B9,0,none⟩) lB9 (.slice av2 r1.Lst.length cv2));clear hE hφ hap ap d0 d1 d2 d3 d4 d5 d6 d7 d8 d9 d11 o10 o12 o14 ev ev2 hen how;go_upto_region 25 with (fail)
     refine zA2 (fun W=>Ext W1 W/\Bk W B9 [.slice av2 r1.Lst.length cv2] 71/\GT.enc W [.slice av2 r1.Lst.length cv2] r1 GH/\Own W1.heap.size W GH) ⟨EE.out,KK.out,EN.out,OW.out⟩ ?_
     rintro W2 ⟨E2,K2,EN2,OW2⟩;clear KK EN OW EE x90 k9f;have ltb1:=TB1.out.lt;have i5:=(zA0 E2 ltb1).trans z5;have i1:=(zA0 E2 ltO1).trans w1';obtain⟨_,_,hh0,_⟩:=(OMH.out.ext E2).openHs;have i9:=K2.cell (j:=0) rfl;have gf9:=(OMH.out.ext E2).bk.2.2.2;obtain⟨pc1,pc2,pc3⟩:=OMH.out.putHold E2 hW1 (Nat.le_refl _) EN2 OW2;obtain⟨F10,t10⟩:=HBH.out _ _ _ pc1 pc2 (fun z hz => .inr (pc3 z hz))
     have T10:=zh t10;have hB8g:B8≠g5:=by omega
     have K82:=zh ((K81.out.ext E2).set_ne (p:=⟨g5,s5+ia,none⟩) hB8g (.slice av2 r1.Lst.length cv2));have O2:=zh ((O1.out.ext E2).set_ne (p:=⟨g5,s5+ia,none⟩) hB7g5 (.slice av2 r1.Lst.length cv2));clear t10 pc1 pc2 pc3 EN2 OW2;go_upto_region 26 with (fail)
     refine zA2 (fun W=>zBw w0.heap.size B F5 W6 W ⟨m.Plan,m.Programs,m.Cores.set N c1',m.Holds.set ia r1,m.Tick+1⟩ F10/\Bk W B8 [.int .i64 ch'.Kind,.int .i64 ch'.From,.int .i64 ch'.To,.int .i64 ch'.Size] 73/\Bk W B7 [.int .i64 6,.int .i64 ia,.int .i64 ib] 98) ⟨T10.out,K82.out,O2.out⟩ ?_
     rintro WB ⟨tB,kB8,kB7⟩;have TBB:=zh tB;have wb2:=kB7.cell (j:=2) rfl;have wk0:=kB8.cell (j:=0) rfl;have vB4:=(tB.cl 4 (by decide)).trans k4
     obtain⟨kA,FyA,ecA,omcA,hsubA,hbackA⟩:=tB.core k4 (by simpa using HN.out)
     obtain rfl:c1'=kA:=(Option.some.inj (ecA.symm.trans (by simp[List.getElem?_set,HN.out]))).symm
     obtain⟨acA,ncA,xcA,_,_,_,_⟩:=omcA.openC;obtain⟨gcA,scA,rfl,hgcA,hgcFA,hltcA,hccA,hfcA,hrcA,hputA⟩:=omcA.cellC xcA ib hib;have HBA:=zh hbackA;have HPA:=zh hputA;have hr2r:rng r2:=⟨by omega,by omega⟩
     clear tB kB8 kB7 omcA hsubA hbackA hputA ecA T10 K82 O2 i5 i1 hh0 i9 gf9 E2 K2 z5 z4 hcell kc0 hvc f5 f4 w0' w1' w2' c80 c81 c82 c83;by_cases hc0:0<=r2
     focus
      have HTK3:Hid (zBz m=⟨m.Plan,m.Programs,m.Cores.set N { c1' with Cells:=c1'.Cells.set ib r2 },m.Holds.set ia r1,m.Tick+1⟩):=zh (by
       have hE:=zIz (h:=xp) (c:=c1') (o:=⟨6,ia,ib⟩) (ch:=ch')  hc0 HR.out.1 HR.out.2;rw[HTK.out,Int.toNat_natCast,hxd,hE];rfl)
      have hdc:decide (r2 ≥ 0)=true:=decide_eq_true hc0;have hdd:decide (0<=r2)=true:=decide_eq_true hc0;obtain⟨F11,om11,sub11,ch11⟩:=HPA.out r2 hr2r;obtain⟨F12,t12⟩:=HBA.out _ _ _ ch11 om11 (fun z hz => .inl (sub11 z hz))
      simp only[List.set_set] at t12;have T12:=zh t12;clear t12 om11 ch11 sub11 hc0;go_upto_region 27 with (fail)
      refine zAi 9 (by kernel_rfl) (by kernel_rfl) ?_
      simp only[List.take_succ_cons,List.take_zero,List.drop_succ_cons,List.drop_zero]
      repeat (go_big_quiet_step (fail))
      refine wpQuiet_nil ?_;go_upto_region 28 with (fail)
      refine zA2 (fun W=>zBw w0.heap.size B F5 W6 W ⟨m.Plan,m.Programs,m.Cores.set N { c1' with Cells:=c1'.Cells.set ib r2 },m.Holds.set ia r1,m.Tick+1⟩ F12) (T12.out.ext (Qt.ext ⟨1,rfl⟩)) ?_
      intro w7 tz;have TB7:=zh tz;clear tz;obtain⟨m2,hm2⟩:∃ m2:Machine,(⟨m.Plan,m.Programs,m.Cores.set N { c1' with Cells:=c1'.Cells.set ib r2 },m.Holds.set ia r1,m.Tick+1⟩:Machine)=m2:=⟨_,rfl⟩
      have HRES:=zh (HTK3.out.trans hm2);rw[hm2] at TB7;clear hm2;obtain⟨G7,TB7⟩:∃ G,Hid (zBw w0.heap.size B F5 W6 w7 m2 G):=⟨_,TB7⟩
     rotate_left 1
     focus
      have HTK3:Hid (zBz m=⟨m.Plan,m.Programs,m.Cores.set N c1',m.Holds.set ia r1,m.Tick+1⟩):=zh (by
       have hE:=zIy (h:=xp) (c:=c1') (o:=⟨6,ia,ib⟩) (ch:=ch')  hc0 HR.out.1 HR.out.2;rw[HTK.out,Int.toNat_natCast,hxd,hE])
      have hdc:decide (r2 ≥ 0)=false:=decide_eq_false hc0;have hdd:decide (0<=r2)=false:=decide_eq_false hc0;clear hc0;go_upto_region 28 with (fail)
      refine zA2 (fun W=>zBw w0.heap.size B F5 W6 W ⟨m.Plan,m.Programs,m.Cores.set N c1',m.Holds.set ia r1,m.Tick+1⟩ F10) (TBB.out) ?_
      intro w7 tz;have TB7:=zh tz;clear tz;obtain⟨m2,hm2⟩:∃ m2:Machine,(⟨m.Plan,m.Programs,m.Cores.set N c1',m.Holds.set ia r1,m.Tick+1⟩:Machine)=m2:=⟨_,rfl⟩;have HRES:=zh (HTK3.out.trans hm2);rw[hm2] at TB7;clear hm2;obtain⟨G7,TB7⟩:∃ G,Hid (zBw w0.heap.size B F5 W6 w7 m2 G):=⟨_,TB7⟩
     rotate_left 1
    rotate_left 2
   rotate_left 2
  rotate_left 9
 rotate_left 9
 all_goals
  have OM7:=zh TB7.out.om;have EY:=zh (TB7.out.ch.ext E7.out (by omega) (fun x hx=>by have:=HF.out x hx;omega))
  have hb7:=TB7.out.lt;have KBx:=TB7.out.bk KB6.out (by omega) (fun hx=>by have:=HF.out _ hx;omega)
  obtain⟨z0,z1,z2,z3,z4,z5,z6⟩:=Bk.k7 KBx;have zf:=KBx.fz;have ltZ:=KBx.lt;have hZ:w.heap.size+1 ∉ G7:=fun hm=>(TB7.out.sub _ hm).elim (fun h=>by have:=HF.out _ h;omega) (fun h=>by omega)
  have sp7:=SP6.out.fzk TB7.out.ch.2.2.2.2;have c57:=(TB7.out.cl 5 (by decide)).trans K5.out
  clear KBx TB7;obtain⟨p0,q0,p1,q1,p2,q2,p3,q3,p4,q4,p5,q5,y0,y1,y2,y3,y4,y5,y6,-⟩:=OM7.out.openM;rw[Option.some.inj (c57.symm.trans y5)] at sp7;have SP7:=zh sp7;clear sp7 c57;go_wp2;obtain⟨cs8,hen8,hat8,hown8⟩:=OM7.out;obtain⟨v0,v1,v2,v3,v4,v5,_,_,_,_,_,_,rfl,_⟩:=id hen8;obtain rfl:=Option.some.inj ((hat8 0 _ rfl).symm.trans y0);obtain rfl:=Option.some.inj ((hat8 1 _ rfl).symm.trans y1);obtain rfl:=Option.some.inj ((hat8 2 _ rfl).symm.trans y2);obtain rfl:=Option.some.inj ((hat8 3 _ rfl).symm.trans y3);obtain rfl:=Option.some.inj ((hat8 4 _ rfl).symm.trans y4);obtain rfl:=Option.some.inj ((hat8 5 _ rfl).symm.trans y5);have OW:Own w0.heap.size w7 G7:=⟨(List.nodup_cons.1 hown8.1).2,fun k hk=>hown8.2 k (List.mem_cons_of_mem _ hk)⟩
  refine bodyPost_ret (v:=.agg #[.slice p0 m2.Plan.Parts.length q0,.slice p1 m2.Plan.Channels.length q1,.slice p2 m2.Plan.Slots.length q2,.slice p3 m2.Programs.length q3,.slice p4 m2.Cores.length q4,.slice p5 m2.Holds.length q5,.int .i64 m2.Tick]) (by simp[results,Try.results61,go_sem,z0,z1,z2,z3,z4,z5,z6]) rfl ⟨_,rfl,by rw[HRES.out];exact⟨_,_,rfl,zCo (c:=w.heap.size+1) (o:=0) (ds:=[.slice p0 m2.Plan.Parts.length q0,.slice p1 m2.Plan.Channels.length q1,.slice p2 m2.Plan.Slots.length q2,.slice p3 m2.Programs.length q3,.slice p4 m2.Cores.length q4,.slice p5 m2.Holds.length q5,.int .i64 m2.Tick]) hen8 hZ,((OW.mono (by omega)).put (b:=w.heap.size+1) (o:=0) (cs:=[.slice p0 m2.Plan.Parts.length q0,.slice p1 m2.Plan.Channels.length q1,.slice p2 m2.Plan.Slots.length q2,.slice p3 m2.Programs.length q3,.slice p4 m2.Cores.length q4,.slice p5 m2.Holds.length q5,.int .i64 m2.Tick]))⟩,?_,?_⟩
  ·exact(((((((EY.out).set (by simp) _).set (by simp) _).set (by simp) _).set (by simp) _).set (by simp) _).set (by simp) _).set (by simp) _
  ·exact SpH.mk ((((((((SP7.out).set _ _).set _ _).set _ _).set _ _).set _ _).set _ _).set _ _)
end Sk
