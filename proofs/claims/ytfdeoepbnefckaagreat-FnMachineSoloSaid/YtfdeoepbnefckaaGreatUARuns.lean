/- Contracts of functions of the given program. -/
import Derived.Test.YtfdeoepbnefckaaGreatTickI
import Derived.Test.YtfdeoepbnefckaaGreatDrawSt
namespace Sk
open Go Go.Proofs Go.RowKit
set_option maxHeartbeats 4000000
set_option maxRecDepth 100000
set_option linter.unusedVariables false
set_option linter.unusedSimpArgs false
noncomputable def zCv(m:Machine)(t q:Int):Bool:=zGa m && (zA4 t 0 q && decide (m.Tick+t<=100000))
theorem zIk{m:Machine}{t q:Int}:zCv m t q=true ↔ zDx m/\(0<=t/\t<=q)/\m.Tick+t<=100000:=by
 unfold zCv;simp only[Bool.and_eq_true,zDz,zA7,decide_eq_true_eq]
def zEy(m:Machine):Nat->Machine
 | 0=>m
 | k+1=>zB1 (zEy m k)
theorem M.run_MV{m:Machine}(h:zDx m):∀ k:Nat,m.Tick+k<=100000->zDx (zEy m k)/\(zEy m k).Tick=m.Tick+k/\(zEy m k).Plan=m.Plan/\(zEy m k).Programs=m.Programs/\(zEy m k).Cores.length=m.Cores.length/\(zEy m k).Holds.length=m.Holds.length:=by
 intro k
 induction k with
 | zero=>intro _;exact⟨h,(Int.add_zero _).symm,rfl,rfl,rfl,rfl⟩
 | succ k ih =>
  intro hk;obtain⟨h1,h2,h3,h4,h5,h6⟩:=ih (by omega)
  refine⟨zJe h1 (by omega),?_,?_,?_,?_,?_⟩
  ·show(zB1 _).Tick=_
   rw[zHv,h2];show _=m.Tick+((k+1:Nat):Int);omega
  ·show(zB1 _).Plan=_
   rw[zHt,h3]
  ·show(zB1 _).Programs=_
   rw[zH7,h4]
  ·show(zB1 _).Cores.length=_
   rw[zH5,h5]
  ·show(zB1 _).Holds.length=_
   rw[zH6,h6]
theorem zH8(v:Value)(m:Machine)(t q:Int)(w:World)(h:Rv w v m)(hq:q<=1000) :
  Calls Tryz.prog 34 #[v,.int .i64 t,.int .i64 q] w fun e w'=>e = .returned (.bool (zCv m t q))/\Ext w w':=by
 have H:=zh h;obtain⟨a0,c0,a1,c1,a2,c2,a3,c3,a4,c4,a5,c5,rfl,rt,h0,l0,h1,l1,h2,l2,h3,l3,h4,l4,h5,l5⟩:=h.openMachine;clear h h0 h1 h2 h3 h4 h5;go_enter Tryz.func34,Tryz.ntmps34;go_upto_region 1 with (fail)
 refine zA2 (fun W=>Ext w W/\Bk W w.heap.size [.slice a0 m.Plan.Parts.length c0,.slice a1 m.Plan.Channels.length c1,.slice a2 m.Plan.Slots.length c2,.slice a3 m.Programs.length c3,.slice a4 m.Cores.length c4,.slice a5 m.Holds.length c5,.int .i64 m.Tick] 34) ⟨(zr _).alloc _,Bk.new _ _ _⟩ ?_
 rintro W ⟨e1,kA⟩;have HE0:=zh e1;obtain⟨d0,d1,d2,d3,d4,d5,d6⟩:=Bk.k7 kA;have KA:=zh kA;clear e1 kA;cases g:zGa m
 ·go_wp2_with (go_at_call 12;refine(zB8 _ m _ (H.out.ext HE0.out)).mono ?_;rintro e w0 ⟨rfl,he⟩;rw[g];have E:=zh (HE0.out.tr he);have KAx:=KA.out.ext he;have ltA:=KAx.lt;obtain⟨x0,x1,x2,x3,x4,x5,x6⟩:=Bk.k7 KAx;  clear he KAx)
  go_ret;exact⟨by unfold zCv;rw[g];rfl,E.out⟩
 have hmv:=zDz.1 g;have htk:=hmv.tick;cases g1:zA4 t 0 q
 ·go_wp2_with (first
   | (go_at_call 12;refine(zB8 _ m _ (H.out.ext HE0.out)).mono ?_;rintro e w0 ⟨rfl,he⟩;rw[g];have E:=zh (HE0.out.tr he);have KAx:=KA.out.ext he;have ltA:=KAx.lt;obtain⟨x0,x1,x2,x3,x4,x5,x6⟩:=Bk.k7 KAx;  clear he KAx)
   | (go_at_call 31;refine(zAc _ _ _ _).mono ?_;rintro e w9 ⟨rfl,rfl⟩;rw[g1]))
  go_ret;exact⟨by unfold zCv;rw[g,g1];rfl,E.out⟩
 obtain⟨b1,b2⟩:=zA7.1 g1;obtain⟨z,hz⟩:∃ z,m.Tick+t=z:=⟨_,rfl⟩;have hw1 : -9223372036854775808<=m.Tick+t:=by omega
 have hw2:m.Tick+t<=9223372036854775807:=by omega
 have hm:Hid (zCv m t q=decide (z<=100000)):=zh (by unfold zCv;rw[g,g1,hz];rfl)
 go_wp2_with (first
   | (go_at_call 12;refine(zB8 _ m _ (H.out.ext HE0.out)).mono ?_;rintro e w0 ⟨rfl,he⟩;rw[g];have E:=zh (HE0.out.tr he);have KAx:=KA.out.ext he;have ltA:=KAx.lt;obtain⟨x0,x1,x2,x3,x4,x5,x6⟩:=Bk.k7 KAx;  clear he KAx)
   | (go_at_call 31;refine(zAc _ _ _ _).mono ?_;rintro e w9 ⟨rfl,rfl⟩;rw[g1]))
 go_ret;exact⟨by rw[hm.out];first|done|rfl,E.out⟩
noncomputable def zJ6(m:Machine)(t:Int):Machine:=if zCv m t 400=true then zEy m t.toNat else M.mz
theorem M.runM_f{m:Machine}{t:Int}(h:zCv m t 400=false):zJ6 m t=M.mz:=if_neg (fun k=>by rw[h] at k;cases k)
theorem M.runM_t{m:Machine}{t:Nat}(h:zCv m t 400=true):zJ6 m t=zEy m t:=if_pos h
theorem zJm(v:Value)(m:Machine)(t:Int)(w:World)(h:Rv w v m) :
  Calls Tryz.prog 13 #[v,.int .i64 t] w fun e w' => ∃ v',e = .returned v'/\Ov w.heap.size w' v' (zJ6 m t)/\Ext w w':=by
 have H:=zh h;obtain⟨a0,c0,a1,c1,a2,c2,a3,c3,a4,c4,a5,c5,rfl,rt,h0,l0,h1,l1,h2,l2,h3,l3,h4,l4,h5,l5⟩:=h.openMachine;clear h h0 h1 h2 h3 h4 h5;go_enter Tryz.func13,Tryz.ntmps13;go_upto_region 1 with (fail)
 refine zA2 (fun W=>Ext w W/\Bk W w.heap.size [.slice a0 m.Plan.Parts.length c0,.slice a1 m.Plan.Channels.length c1,.slice a2 m.Plan.Slots.length c2,.slice a3 m.Programs.length c3,.slice a4 m.Cores.length c4,.slice a5 m.Holds.length c5,.int .i64 m.Tick] 34/\Bk W (w.heap.size+1) [.slice none 0 0,.slice none 0 0,.slice none 0 0,.slice none 0 0,.slice none 0 0,.slice none 0 0,.int .i64 0] 34) ⟨((zr _).alloc _).alloc _,(Bk.new _ _ _).ext ((zr _).alloc _),Bk.new1 _ _ _ _⟩ ?_
 rintro W ⟨e1,kA,kB⟩;have HE0:=zh e1;obtain⟨d0,d1,d2,d3,d4,d5,d6⟩:=Bk.k7 kA;have KA:=zh kA;have KB:=zh kB;clear e1 kA kB;cases g:zCv m t 400
 ·go_wp2_with (go_at_call 34;refine(zH8 _ m t 400 _ (H.out.ext HE0.out) (by decide)).mono ?_;rintro e w0 ⟨rfl,he⟩;rw[g];have E:=zh (HE0.out.tr he);have KAx:=KA.out.ext he;have ltA:=KAx.lt;obtain⟨x0,x1,x2,x3,x4,x5,x6⟩:=Bk.k7 KAx;have KBx:=KB.out.ext he;obtain⟨z0,z1,z2,z3,z4,z5,z6⟩:=Bk.k7 KBx;have zf:=KBx.fz;have ltZ:=KBx.lt;clear KBx;clear he KAx)
  refine bodyPost_ret (v:=.agg #[.slice none 0 0,.slice none 0 0,.slice none 0 0,.slice none 0 0,.slice none 0 0,.slice none 0 0,.int .i64 0]) (by simp[results,Tryz.results13,go_sem,z0,z1,z2,z3,z4,z5,z6]) rfl ⟨_,rfl,by rw[M.runM_f g];exact Ov.mz _ _,(((((((E.out).set (by simp) _).set (by simp) _).set (by simp) _).set (by simp) _).set (by simp) _).set (by simp) _).set (by simp) _⟩
 obtain⟨hmv,⟨ht0,ht4⟩,hT⟩:=zIk.1 g;obtain⟨T,rfl⟩:∃ T:Nat,t=T:=⟨t.toNat,by omega⟩
 have htk:=hmv.tick;have htot:GT.tot m<=1048576:=Nat.le_trans (zGm hmv) (by omega)
 have HV:=zh hmv;have hres:=zh (M.runM_t g);go_upto_region 3 with (go_at_call 34;refine(zH8 _ m T 400 _ (H.out.ext HE0.out) (by decide)).mono ?_;rintro e w0 ⟨rfl,he⟩;rw[g];have E:=zh (HE0.out.tr he);have KAx:=KA.out.ext he;have ltA:=KAx.lt;obtain⟨x0,x1,x2,x3,x4,x5,x6⟩:=Bk.k7 KAx;replace KB:=zh (KB.out.ext he);clear he KAx)
 have ltB0:=KB.out.lt;go_upto_region 4 with (go_at_call 22;refine(zBz _ m _ (H.out.ext E.out) htot).mono ?_;rintro e w5 ⟨v5,rfl,hov,ex⟩;obtain⟨cs5,F5,rfl,hen,how⟩:=hov;obtain⟨v0,v1,v2,v3,v4,v5,G0,G1,G2,G3,G4,G5,rfl,⟨t0,u0,rfl,_⟩,⟨t1,u1,rfl,_⟩,⟨t2,u2,rfl,_⟩,⟨t3,u3,rfl,_⟩,⟨t4,u4,rfl,_⟩,⟨t5,u5,rfl,_⟩,_,_⟩:=id hen;have HEN:=zh hen;have HOW:=zh how;have EX:=zh ex;replace KB:=zh (KB.out.ext ex);clear hen how ex)
 refine zA2 (fun W6=>Ext w5 W6/\Bk W6 w5.heap.size [.slice t0 m.Plan.Parts.length u0,.slice t1 m.Plan.Channels.length u1,.slice t2 m.Plan.Slots.length u2,.slice t3 m.Programs.length u3,.slice t4 m.Cores.length u4,.slice t5 m.Holds.length u5,.int .i64 m.Tick] 34) ⟨(zr _).alloc _,Bk.new _ _ _⟩ ?_
 rintro W6 ⟨E6,K6⟩;have hs05:=EX.out.sz;have hw0:=E.out.sz;have ltB5:=KB.out.lt;have om:Om w0.heap.size W6 w5.heap.size 0 m F5:=⟨_,GT.ext HEN.out E6,fun j u hj=>by rw[Nat.zero_add];exact K6.cell hj,List.nodup_cons.2 ⟨fun hm=>Nat.lt_irrefl _ (HOW.out.lt hm),HOW.out.1⟩,fun k hk=>by
  rcases List.mem_cons.1 hk with rfl|hk
  ·exact⟨hs05,⟨_,_,K6⟩⟩
  ·exact⟨(HOW.out.2 k hk).1,((HOW.out.2 k hk).2).ext E6⟩⟩
 have E7:=zh ((E.out.tr EX.out).tr E6);have KB6:=zh (KB.out.ext E6);have HF:Hid (∀ x∈F5,w0.heap.size<=x):=zh (fun x hx=>(HOW.out.2 x hx).1)
 have hs6:=E6.sz;have TB0:=zh (zHl.refl om);have hle6:w0.heap.size<=W6.heap.size:=by omega
 clear om K6 E6 hmv;go_wp2;go_loopw [14] (fun i wr => ∃ (k:Nat) (Fk:List Nat),k<=T/\i = .int .i64 k/\zHl w0.heap.size w5.heap.size F5 W6 wr (zEy m k) Fk) (fun i _=>T - (intOf i).toNat)
 case atStart=>exact⟨0,F5,Nat.zero_le _,rfl,TB0.out⟩
 case round =>
  obtain⟨k,Fk,hk,rfl,tb⟩:=hrel;have TB:=zh tb;clear tb;by_cases hkt:k < T
  ·have hrv:=M.run_MV HV.out k (by omega)
   have HR:=zh (zJn w0.heap.size w5.heap.size (zEy m k) Fk wr TB.out.om (by have:=TB.out.ch.sz;omega) hrv.1 (by rw[hrv.2.1];omega))
   clear hrv;go_wp2_with (go_at_call 35;go_loud (refine HR.out.mono ?_;rintro e w7 ⟨rfl,F7,t7⟩;have TB7:=zh t7;clear t7))
   exact⟨⟨k+1,F7,by omega,by go_num,TB.out.trans TB7.out⟩,by simp[intOf];omega⟩
  ·obtain rfl:k=T:=by omega
   obtain⟨F7,hF7⟩:∃ F7,F7=Fk:=⟨_,rfl⟩;subst hF7;have TB7:=TB;have OM7:=zh TB7.out.om;have EY:=zh (TB7.out.ch.ext E7.out (by omega) (fun x hx=>by have:=HF.out x hx;omega))
   obtain⟨p0,q0,p1,q1,p2,q2,p3,q3,p4,q4,p5,q5,y0,y1,y2,y3,y4,y5,y6,-⟩:=TB7.out.om.openM;have hb7:=TB7.out.lt;have KBx:=TB7.out.bk KB6.out (by omega) (fun hx=>by have:=HF.out _ hx;omega)
   obtain⟨z0,z1,z2,z3,z4,z5,z6⟩:=Bk.k7 KBx;have zf:=KBx.fz;have ltZ:=KBx.lt;have hZ:w.heap.size+1 ∉ F7:=fun hm=>(TB7.out.sub _ hm).elim (fun h=>by have:=HF.out _ h;omega) (fun h=>by omega)
   clear KBx
   generalize zEy m k=m2 at *
   go_wp2;obtain⟨cs8,hen8,hat8,hown8⟩:=OM7.out;obtain⟨v0,v1,v2,v3,v4,v5,_,_,_,_,_,_,rfl,_⟩:=id hen8;obtain rfl:=Option.some.inj ((hat8 0 _ rfl).symm.trans y0);obtain rfl:=Option.some.inj ((hat8 1 _ rfl).symm.trans y1);obtain rfl:=Option.some.inj ((hat8 2 _ rfl).symm.trans y2);obtain rfl:=Option.some.inj ((hat8 3 _ rfl).symm.trans y3);obtain rfl:=Option.some.inj ((hat8 4 _ rfl).symm.trans y4);obtain rfl:=Option.some.inj ((hat8 5 _ rfl).symm.trans y5);have OW:Own w0.heap.size wr F7:=⟨(List.nodup_cons.1 hown8.1).2,fun k hk=>hown8.2 k (List.mem_cons_of_mem _ hk)⟩
   refine bodyPost_ret (v:=.agg #[.slice p0 m2.Plan.Parts.length q0,.slice p1 m2.Plan.Channels.length q1,.slice p2 m2.Plan.Slots.length q2,.slice p3 m2.Programs.length q3,.slice p4 m2.Cores.length q4,.slice p5 m2.Holds.length q5,.int .i64 m2.Tick]) (by simp[results,Tryz.results13,go_sem,z0,z1,z2,z3,z4,z5,z6]) rfl ⟨_,rfl,by rw[hres.out];exact⟨_,_,rfl,zD2 (c:=w.heap.size+1) (o:=0) (ds:=[.slice p0 m2.Plan.Parts.length q0,.slice p1 m2.Plan.Channels.length q1,.slice p2 m2.Plan.Slots.length q2,.slice p3 m2.Programs.length q3,.slice p4 m2.Cores.length q4,.slice p5 m2.Holds.length q5,.int .i64 m2.Tick]) hen8 hZ,((OW.mono (by omega)).put (b:=w.heap.size+1) (o:=0) (cs:=[.slice p0 m2.Plan.Parts.length q0,.slice p1 m2.Plan.Channels.length q1,.slice p2 m2.Plan.Slots.length q2,.slice p3 m2.Programs.length q3,.slice p4 m2.Cores.length q4,.slice p5 m2.Holds.length q5,.int .i64 m2.Tick]))⟩,?_⟩
   exact(((((((EY.out).set (by simp) _).set (by simp) _).set (by simp) _).set (by simp) _).set (by simp) _).set (by simp) _).set (by simp) _
set_option maxHeartbeats 1600000
theorem zCm{c n X A B:Int} (h:(X=1/\(0<=A/\A < c)/\(0<=B/\B<=255))\/((X=2\/X=3)/\(0<=A/\A < c)/\(0<=B/\B < c)) \/
  (X=4/\(0<=A/\A < n)/\(0<=B/\B < c))\/((X=5\/X=6)/\(0<=A/\A < 8)/\(0<=B/\B < c)) \/
  (X=7/\(0<=A/\A < c)/\B=0)\/((X=0\/X=8)/\A=0/\B=0)):zDw c n ⟨X,A,B⟩=true:=by
 unfold zDw zC2;simp only
 split
 ·simp only[Bool.and_eq_true,zA7];omega
 split
 ·simp only[Bool.and_eq_true,zA7];omega
 split
 ·simp only[Bool.and_eq_true,zA7];omega
 split
 ·simp only[Bool.and_eq_true,zA7];omega
 split
 ·simp only[Bool.and_eq_true,zA7,beq_iff_eq];omega
 split
 ·simp only[Bool.and_eq_true,beq_iff_eq];omega
 ·omega
theorem zIy{u w':World}{b n:Nat}{zs:List Int}{T:TypeId}{k:Int}(hm:Mo [b] (u.alloc (.cells (zs.map fun z=>Value.int .i64 z).toArray T (0,0))) w')(hb:b < u.heap.size)(hk:0<=k/\k < n)(hn:n=zs.length) :
  ∃ z,w'.cell? ⟨u.heap.size,k.toNat,none⟩=some (.int .i64 z)/\z∈zs:=by
 have hk2:k.toNat < zs.length:=by omega
 refine⟨zs[k.toNat],?_,List.getElem_mem _⟩;rw[hm.cell (by simp;omega)]
 refine(Bk.new u (zs.map fun z=>Value.int .i64 z) T).cell ?_
 simp[hk2]
def OB(W wo:World)(b Q m:Nat)(X A B:Int)(u:World):Prop:=Mw [b] wo u/\Rd W u b m/\Bk u Q [.int .i64 X,.int .i64 A,.int .i64 B] 61
theorem OB.pick{W wo u u':World}{b Q m m':Nat}{X A B:Int}(h:OB W wo b Q m X A B u)(hm:Mo [b] u u')(hr:Rd W u' b m')(hbQ:b≠Q):OB W wo b Q m' X A B u' :=
 ⟨h.1.tr (Mw.ofMo hm),hr,hm.bk h.2.2 (by simpa using fun e=>hbQ e.symm)⟩
theorem OB.alloc{W wo u:World}{b Q m:Nat}{X A B:Int}(h:OB W wo b Q m X A B u)(o:Obj):OB W wo b Q m X A B (u.alloc o) :=
 ⟨h.1.tr (Mw.ofExt ((zr _).alloc _)),h.2.1.ext ((zr _).alloc _),h.2.2.ext ((zr _).alloc _)⟩
theorem OB.le{W wo u:World}{b Q m m':Nat}{X A B:Int}(h:OB W wo b Q m X A B u)(k:m'<=m):OB W wo b Q m' X A B u:=⟨h.1,h.2.1.le k,h.2.2⟩
theorem OB.putA{W wo u:World}{b Q m:Nat}{X A B:Int}(h:OB W wo b Q m X A B u)(h1:wo.heap.size<=Q)(h2:b≠Q)(h3:W.heap.size<=Q)(k:Int):OB W wo b Q m X k B (u.setCell ⟨Q,1,none⟩ (.int .i64 k)) :=
 ⟨h.1.set (.inr h1) _,h.2.1.set (p:=⟨Q,1,none⟩) h2 h3 _,by have:=h.2.2.set 1 (.int .i64 k);simpa using this⟩
theorem OB.putB{W wo u:World}{b Q m:Nat}{X A B:Int}(h:OB W wo b Q m X A B u)(h1:wo.heap.size<=Q)(h2:b≠Q)(h3:W.heap.size<=Q)(k:Int):OB W wo b Q m X A k (u.setCell ⟨Q,2,none⟩ (.int .i64 k)) :=
 ⟨h.1.set (.inr h1) _,h.2.1.set (p:=⟨Q,2,none⟩) h2 h3 _,by have:=h.2.2.set 2 (.int .i64 k);simpa using this⟩
end Sk
