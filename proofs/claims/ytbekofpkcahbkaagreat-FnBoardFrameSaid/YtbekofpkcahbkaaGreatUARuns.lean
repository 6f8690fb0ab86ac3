/- Contracts of functions of the given program. -/
import Derived.Test.YtbekofpkcahbkaaGreatTickI
namespace Sk
open Go Go.Proofs Go.RowKit
set_option maxHeartbeats 4000000
set_option maxRecDepth 100000
set_option linter.unusedVariables false
set_option linter.unusedSimpArgs false
noncomputable def zC9(m:Machine)(t q:Int):Bool:=zF5 m && (zA8 t 0 q && decide (m.Tick+t<=100000))
theorem zDx{m:Machine}{t q:Int}:zC9 m t q=true ↔ zBj m/\(0<=t/\t<=q)/\m.Tick+t<=100000:=by
 unfold zC9;simp only[Bool.and_eq_true,zCz,zA5,decide_eq_true_eq]
def zBd(m:Machine):Nat->Machine
 | 0=>m
 | k+1=>zBg (zBd m k)
theorem zDn{m:Machine}(h:zBj m):∀ k:Nat,m.Tick+k<=100000->zBj (zBd m k)/\(zBd m k).Tick=m.Tick+k/\(zBd m k).Plan=m.Plan/\(zBd m k).Programs=m.Programs/\(zBd m k).Cores.length=m.Cores.length/\(zBd m k).Holds.length=m.Holds.length:=by
 intro k
 induction k with
 | zero=>intro _;exact⟨h,(Int.add_zero _).symm,rfl,rfl,rfl,rfl⟩
 | succ k ih =>
  intro hk;obtain⟨h1,h2,h3,h4,h5,h6⟩:=ih (by omega)
  refine⟨zNu h1 (by omega),?_,?_,?_,?_,?_⟩
  ·show(zBg _).Tick=_
   rw[zLq,h2];show _=m.Tick+((k+1:Nat):Int);omega
  ·show(zBg _).Plan=_
   rw[zLp,h3]
  ·show(zBg _).Programs=_
   rw[zKq,h4]
  ·show(zBg _).Cores.length=_
   rw[zKo,h5]
  ·show(zBg _).Holds.length=_
   rw[zKp,h6]
theorem zKt(v:Value)(m:Machine)(t q:Int)(w:World)(h:Rv w v m)(hq:q<=1000) :
  Calls Tryz.prog 49 #[v,.int .i64 t,.int .i64 q] w fun e w'=>e = .returned (.bool (zC9 m t q))/\Ext w w':=by
 have H:=zh h;obtain⟨a0,c0,a1,c1,a2,c2,a3,c3,a4,c4,a5,c5,rfl,rt,h0,l0,h1,l1,h2,l2,h3,l3,h4,l4,h5,l5⟩:=h.openMachine;clear h h0 h1 h2 h3 h4 h5;go_enter Tryz.func49,Tryz.ntmps49;go_upto_region 1 with (fail)
 refine zA1 (fun W=>Ext w W/\Bk W w.heap.size [.slice a0 m.Plan.Parts.length c0,.slice a1 m.Plan.Channels.length c1,.slice a2 m.Plan.Slots.length c2,.slice a3 m.Programs.length c3,.slice a4 m.Cores.length c4,.slice a5 m.Holds.length c5,.int .i64 m.Tick] 46) ⟨(zr _).alloc _,Bk.new _ _ _⟩ ?_
 rintro W ⟨e1,kA⟩;have HE0:=zh e1;obtain⟨d0,d1,d2,d3,d4,d5,d6⟩:=Bk.k7 kA;have KA:=zh kA;clear e1 kA;cases g:zF5 m
 ·go_wp2_with (go_at_call 31;refine(zBx _ m _ (H.out.ext HE0.out)).mono ?_;rintro e w0 ⟨rfl,he⟩;rw[g];have E:=zh (HE0.out.tr he);have KAx:=KA.out.ext he;have ltA:=KAx.lt;obtain⟨x0,x1,x2,x3,x4,x5,x6⟩:=Bk.k7 KAx;  clear he KAx)
  go_ret;exact⟨by unfold zC9;rw[g];rfl,E.out⟩
 have hmv:=zCz.1 g;have htk:=hmv.tick;cases g1:zA8 t 0 q
 ·go_wp2_with (first
   | (go_at_call 31;refine(zBx _ m _ (H.out.ext HE0.out)).mono ?_;rintro e w0 ⟨rfl,he⟩;rw[g];have E:=zh (HE0.out.tr he);have KAx:=KA.out.ext he;have ltA:=KAx.lt;obtain⟨x0,x1,x2,x3,x4,x5,x6⟩:=Bk.k7 KAx;  clear he KAx)
   | (go_at_call 36;refine(zAi _ _ _ _).mono ?_;rintro e w9 ⟨rfl,rfl⟩;rw[g1]))
  go_ret;exact⟨by unfold zC9;rw[g,g1];rfl,E.out⟩
 obtain⟨b1,b2⟩:=zA5.1 g1;obtain⟨z,hz⟩:∃ z,m.Tick+t=z:=⟨_,rfl⟩;have hw1 : -9223372036854775808<=m.Tick+t:=by omega
 have hw2:m.Tick+t<=9223372036854775807:=by omega
 have hm:Hid (zC9 m t q=decide (z<=100000)):=zh (by unfold zC9;rw[g,g1,hz];rfl)
 go_wp2_with (first
   | (go_at_call 31;refine(zBx _ m _ (H.out.ext HE0.out)).mono ?_;rintro e w0 ⟨rfl,he⟩;rw[g];have E:=zh (HE0.out.tr he);have KAx:=KA.out.ext he;have ltA:=KAx.lt;obtain⟨x0,x1,x2,x3,x4,x5,x6⟩:=Bk.k7 KAx;  clear he KAx)
   | (go_at_call 36;refine(zAi _ _ _ _).mono ?_;rintro e w9 ⟨rfl,rfl⟩;rw[g1]))
 go_ret;exact⟨by rw[hm.out];first|done|rfl,E.out⟩
noncomputable def zI9(m:Machine)(t:Int):Machine:=if zC9 m t 400=true then zBd m t.toNat else zNh
theorem zHz{m:Machine}{t:Int}(h:zC9 m t 400=false):zI9 m t=zNh:=if_neg (fun k=>by rw[h] at k;cases k)
theorem zFx{m:Machine}{t:Nat}(h:zC9 m t 400=true):zI9 m t=zBd m t:=if_pos h
theorem zO3(v:Value)(m:Machine)(t:Int)(w:World)(h:Rv w v m) :
  Calls Tryz.prog 21 #[v,.int .i64 t] w fun e w' => ∃ v',e = .returned v'/\Ov w.heap.size w' v' (zI9 m t)/\Ext w w':=by
 have H:=zh h;obtain⟨a0,c0,a1,c1,a2,c2,a3,c3,a4,c4,a5,c5,rfl,rt,h0,l0,h1,l1,h2,l2,h3,l3,h4,l4,h5,l5⟩:=h.openMachine;clear h h0 h1 h2 h3 h4 h5;go_enter Tryz.func21,Tryz.ntmps21;go_upto_region 1 with (fail)
 refine zA1 (fun W=>Ext w W/\Bk W w.heap.size [.slice a0 m.Plan.Parts.length c0,.slice a1 m.Plan.Channels.length c1,.slice a2 m.Plan.Slots.length c2,.slice a3 m.Programs.length c3,.slice a4 m.Cores.length c4,.slice a5 m.Holds.length c5,.int .i64 m.Tick] 46/\Bk W (w.heap.size+1) [.slice none 0 0,.slice none 0 0,.slice none 0 0,.slice none 0 0,.slice none 0 0,.slice none 0 0,.int .i64 0] 46) ⟨((zr _).alloc _).alloc _,(Bk.new _ _ _).ext ((zr _).alloc _),Bk.new1 _ _ _ _⟩ ?_
 rintro W ⟨e1,kA,kB⟩;have HE0:=zh e1;obtain⟨d0,d1,d2,d3,d4,d5,d6⟩:=Bk.k7 kA;have KA:=zh kA;have KB:=zh kB;clear e1 kA kB;cases g:zC9 m t 400
 ·go_wp2_with (go_at_call 49;refine(zKt _ m t 400 _ (H.out.ext HE0.out) (by decide)).mono ?_;rintro e w0 ⟨rfl,he⟩;rw[g];have E:=zh (HE0.out.tr he);have KAx:=KA.out.ext he;have ltA:=KAx.lt;obtain⟨x0,x1,x2,x3,x4,x5,x6⟩:=Bk.k7 KAx;have KBx:=KB.out.ext he;obtain⟨z0,z1,z2,z3,z4,z5,z6⟩:=Bk.k7 KBx;have zf:=KBx.fz;have ltZ:=KBx.lt;clear KBx;clear he KAx)
  refine bodyPost_ret (v:=.agg #[.slice none 0 0,.slice none 0 0,.slice none 0 0,.slice none 0 0,.slice none 0 0,.slice none 0 0,.int .i64 0]) (by simp[results,Tryz.results21,go_sem,z0,z1,z2,z3,z4,z5,z6]) rfl ⟨_,rfl,by rw[zHz g];exact Ov.mz _ _,(((((((E.out).set (by simp) _).set (by simp) _).set (by simp) _).set (by simp) _).set (by simp) _).set (by simp) _).set (by simp) _⟩
 obtain⟨hmv,⟨ht0,ht4⟩,hT⟩:=zDx.1 g;obtain⟨T,rfl⟩:∃ T:Nat,t=T:=⟨t.toNat,by omega⟩
 have htk:=hmv.tick;have htot:GT.tot m<=1048576:=Nat.le_trans (zC0 hmv) (by omega)
 have HV:=zh hmv;have hres:=zh (zFx g);go_upto_region 3 with (go_at_call 49;refine(zKt _ m T 400 _ (H.out.ext HE0.out) (by decide)).mono ?_;rintro e w0 ⟨rfl,he⟩;rw[g];have E:=zh (HE0.out.tr he);have KAx:=KA.out.ext he;have ltA:=KAx.lt;obtain⟨x0,x1,x2,x3,x4,x5,x6⟩:=Bk.k7 KAx;replace KB:=zh (KB.out.ext he);clear he KAx)
 have ltB0:=KB.out.lt;go_upto_region 4 with (go_at_call 50;refine(zDg _ m _ (H.out.ext E.out) htot).mono ?_;rintro e w5 ⟨v5,rfl,hov,ex⟩;obtain⟨cs5,F5,rfl,hen,how⟩:=hov;obtain⟨v0,v1,v2,v3,v4,v5,G0,G1,G2,G3,G4,G5,rfl,⟨t0,u0,rfl,_⟩,⟨t1,u1,rfl,_⟩,⟨t2,u2,rfl,_⟩,⟨t3,u3,rfl,_⟩,⟨t4,u4,rfl,_⟩,⟨t5,u5,rfl,_⟩,_,_⟩:=id hen;have HEN:=zh hen;have HOW:=zh how;have EX:=zh ex;replace KB:=zh (KB.out.ext ex);clear hen how ex)
 refine zA1 (fun W6=>Ext w5 W6/\Bk W6 w5.heap.size [.slice t0 m.Plan.Parts.length u0,.slice t1 m.Plan.Channels.length u1,.slice t2 m.Plan.Slots.length u2,.slice t3 m.Programs.length u3,.slice t4 m.Cores.length u4,.slice t5 m.Holds.length u5,.int .i64 m.Tick] 46) ⟨(zr _).alloc _,Bk.new _ _ _⟩ ?_
 rintro W6 ⟨E6,K6⟩;have hs05:=EX.out.sz;have hw0:=E.out.sz;have ltB5:=KB.out.lt;have om:Om w0.heap.size W6 w5.heap.size 0 m F5:=⟨_,GT.ext HEN.out E6,fun j u hj=>by rw[Nat.zero_add];exact K6.cell hj,List.nodup_cons.2 ⟨fun hm=>Nat.lt_irrefl _ (HOW.out.lt hm),HOW.out.1⟩,fun k hk=>by
  rcases List.mem_cons.1 hk with rfl|hk
  ·exact⟨hs05,⟨_,_,K6⟩⟩
  ·exact⟨(HOW.out.2 k hk).1,((HOW.out.2 k hk).2).ext E6⟩⟩
 have E7:=zh ((E.out.tr EX.out).tr E6);have KB6:=zh (KB.out.ext E6);have HF:Hid (∀ x∈F5,w0.heap.size<=x):=zh (fun x hx=>(HOW.out.2 x hx).1)
 have hs6:=E6.sz;have TB0:=zh (zCb.refl om);have hle6:w0.heap.size<=W6.heap.size:=by omega
 clear om K6 E6 hmv;go_wp2;go_loopw [14] (fun i wr => ∃ (k:Nat) (Fk:List Nat),k<=T/\i = .int .i64 k/\zCb w0.heap.size w5.heap.size F5 W6 wr (zBd m k) Fk) (fun i _=>T - (intOf i).toNat)
 case atStart=>exact⟨0,F5,Nat.zero_le _,rfl,TB0.out⟩
 case round =>
  obtain⟨k,Fk,hk,rfl,tb⟩:=hrel;have TB:=zh tb;clear tb;by_cases hkt:k < T
  ·have hrv:=zDn HV.out k (by omega)
   have HR:=zh (zO4 w0.heap.size w5.heap.size (zBd m k) Fk wr TB.out.om (by have:=TB.out.ch.sz;omega) hrv.1 (by rw[hrv.2.1];omega))
   clear hrv;go_wp2_with (go_at_call 51;go_loud (refine HR.out.mono ?_;rintro e w7 ⟨rfl,F7,t7⟩;have TB7:=zh t7;clear t7))
   exact⟨⟨k+1,F7,by omega,by go_num,TB.out.trans TB7.out⟩,by simp[intOf];omega⟩
  ·obtain rfl:k=T:=by omega
   obtain⟨F7,hF7⟩:∃ F7,F7=Fk:=⟨_,rfl⟩;subst hF7;have TB7:=TB;have OM7:=zh TB7.out.om;have EY:=zh (TB7.out.ch.ext E7.out (by omega) (fun x hx=>by have:=HF.out x hx;omega))
   obtain⟨p0,q0,p1,q1,p2,q2,p3,q3,p4,q4,p5,q5,y0,y1,y2,y3,y4,y5,y6,-⟩:=TB7.out.om.openM;have hb7:=TB7.out.lt;have KBx:=TB7.out.bk KB6.out (by omega) (fun hx=>by have:=HF.out _ hx;omega)
   obtain⟨z0,z1,z2,z3,z4,z5,z6⟩:=Bk.k7 KBx;have zf:=KBx.fz;have ltZ:=KBx.lt;have hZ:w.heap.size+1 ∉ F7:=fun hm=>(TB7.out.sub _ hm).elim (fun h=>by have:=HF.out _ h;omega) (fun h=>by omega)
   clear KBx
   generalize zBd m k=m2 at *
   go_wp2;obtain⟨cs8,hen8,hat8,hown8⟩:=OM7.out;obtain⟨v0,v1,v2,v3,v4,v5,_,_,_,_,_,_,rfl,_⟩:=id hen8;obtain rfl:=Option.some.inj ((hat8 0 _ rfl).symm.trans y0);obtain rfl:=Option.some.inj ((hat8 1 _ rfl).symm.trans y1);obtain rfl:=Option.some.inj ((hat8 2 _ rfl).symm.trans y2);obtain rfl:=Option.some.inj ((hat8 3 _ rfl).symm.trans y3);obtain rfl:=Option.some.inj ((hat8 4 _ rfl).symm.trans y4);obtain rfl:=Option.some.inj ((hat8 5 _ rfl).symm.trans y5);have OW:Own w0.heap.size wr F7:=⟨(List.nodup_cons.1 hown8.1).2,fun k hk=>hown8.2 k (List.mem_cons_of_mem _ hk)⟩
   refine bodyPost_ret (v:=.agg #[.slice p0 m2.Plan.Parts.length q0,.slice p1 m2.Plan.Channels.length q1,.slice p2 m2.Plan.Slots.length q2,.slice p3 m2.Programs.length q3,.slice p4 m2.Cores.length q4,.slice p5 m2.Holds.length q5,.int .i64 m2.Tick]) (by simp[results,Tryz.results21,go_sem,z0,z1,z2,z3,z4,z5,z6]) rfl ⟨_,rfl,by rw[hres.out];exact⟨_,_,rfl,zB3 (c:=w.heap.size+1) (o:=0) (ds:=[.slice p0 m2.Plan.Parts.length q0,.slice p1 m2.Plan.Channels.length q1,.slice p2 m2.Plan.Slots.length q2,.slice p3 m2.Programs.length q3,.slice p4 m2.Cores.length q4,.slice p5 m2.Holds.length q5,.int .i64 m2.Tick]) hen8 hZ,((OW.mono (by omega)).put (b:=w.heap.size+1) (o:=0) (cs:=[.slice p0 m2.Plan.Parts.length q0,.slice p1 m2.Plan.Channels.length q1,.slice p2 m2.Plan.Slots.length q2,.slice p3 m2.Programs.length q3,.slice p4 m2.Cores.length q4,.slice p5 m2.Holds.length q5,.int .i64 m2.Tick]))⟩,?_⟩
   exact(((((((EY.out).set (by simp) _).set (by simp) _).set (by simp) _).set (by simp) _).set (by simp) _).set (by simp) _).set (by simp) _
noncomputable def zCw(m:Machine):Machine:=if zF5 m=true/\¬ m.Tick=100000 then zBg m else zNh
theorem zMx{m:Machine}(h:zF5 m=false):zCw m=zNh:=if_neg (fun k=>by rw[h] at k;cases k.1)
theorem zMy{m:Machine}(h:m.Tick=100000):zCw m=zNh:=if_neg (fun k=>k.2 h)
theorem zKn{m:Machine}(h:zF5 m=true)(ht:¬ m.Tick=100000):zCw m=zBg m:=if_pos ⟨h,ht⟩
def Bx{α:Type}[GT α](L:Nat)(w:World)(b:Nat)(x : α)(T:TypeId):Prop:=∃ cs F,Bk w b cs T/\GT.enc w cs x F/\Own L w F
theorem Ext.puts{a:World}{b:Nat}(hb:a.heap.size<=b)(cs:List Value):∀ {w:World} {o:Nat},Ext a w->Ext a (zAa w b o cs):=by
 induction cs with
 | nil=>intro w o h;exact h
 | cons c cs ih=>intro w o h;rw[zAa];exact ih (h.set (p:=⟨b,o,none⟩) hb c)
theorem Own.puts{L b:Nat}{F:List Nat}(cs:List Value):∀ {w:World} {o:Nat},Own L w F->Own L (zAa w b o cs) F:=by
 induction cs with
 | nil=>intro w o h;exact h
 | cons c cs ih=>intro w o h;rw[zAa];exact ih (h.set ⟨b,o,none⟩ c)
theorem Bx.put{α:Type}[GT α]{L M:Nat}{w:World}{b:Nat}{y : α}{T:TypeId}{cs0 cs:List Value}{F:List Nat}(hb:Bk w b cs0 T)(hl:cs0.length=GT.sz α)(hy:GT.enc w cs y F)(ho:Own M w F)(hL:L<=M)(hM:b < M):Bx L (zAa w b 0 cs) b y T :=
 ⟨cs,F,hb.puts cs ((GT.len hy).trans hl.symm),zB3 hy (fun hm=>by have:=(ho.2 b hm).1;omega),(ho.mono hL).puts cs⟩
theorem Bx.openM{L:Nat}{w:World}{b:Nat}{m:Machine}{T:TypeId}(h:Bx L w b m T):∃ p0 q0 p1 q1 p2 q2 p3 q3 p4 q4 p5 q5 F,
  Bk w b [.slice p0 m.Plan.Parts.length q0,.slice p1 m.Plan.Channels.length q1,.slice p2 m.Plan.Slots.length q2,.slice p3 m.Programs.length q3,.slice p4 m.Cores.length q4,.slice p5 m.Holds.length q5,.int .i64 m.Tick] T /\
  GT.enc w [.slice p0 m.Plan.Parts.length q0,.slice p1 m.Plan.Channels.length q1,.slice p2 m.Plan.Slots.length q2,.slice p3 m.Programs.length q3,.slice p4 m.Cores.length q4,.slice p5 m.Holds.length q5,.int .i64 m.Tick] m F/\Own L w F:=by
 obtain⟨cs,F,h1,h2,h3⟩:=h;obtain⟨v0,v1,v2,v3,v4,v5,G0,G1,G2,G3,G4,G5,rfl,⟨t0,u0,rfl,_⟩,⟨t1,u1,rfl,_⟩,⟨t2,u2,rfl,_⟩,⟨t3,u3,rfl,_⟩,⟨t4,u4,rfl,_⟩,⟨t5,u5,rfl,_⟩,_,_⟩:=id h2;exact⟨_,_,_,_,_,_,_,_,_,_,_,_,F,h1,h2,h3⟩
theorem Ov.openE{L:Nat}{w:World}{v:Value}{m:Machine}(h:Ov L w v m):∃ p0 q0 p1 q1 p2 q2 p3 q3 p4 q4 p5 q5 F,
  v = .agg #[.slice p0 m.Plan.Parts.length q0,.slice p1 m.Plan.Channels.length q1,.slice p2 m.Plan.Slots.length q2,.slice p3 m.Programs.length q3,.slice p4 m.Cores.length q4,.slice p5 m.Holds.length q5,.int .i64 m.Tick] /\
  GT.enc w [.slice p0 m.Plan.Parts.length q0,.slice p1 m.Plan.Channels.length q1,.slice p2 m.Plan.Slots.length q2,.slice p3 m.Programs.length q3,.slice p4 m.Cores.length q4,.slice p5 m.Holds.length q5,.int .i64 m.Tick] m F/\Own L w F:=by
 obtain⟨cs,F,rfl,h2,h3⟩:=h;obtain⟨v0,v1,v2,v3,v4,v5,G0,G1,G2,G3,G4,G5,rfl,⟨t0,u0,rfl,_⟩,⟨t1,u1,rfl,_⟩,⟨t2,u2,rfl,_⟩,⟨t3,u3,rfl,_⟩,⟨t4,u4,rfl,_⟩,⟨t5,u5,rfl,_⟩,_,_⟩:=id h2;exact⟨_,_,_,_,_,_,_,_,_,_,_,_,F,rfl,h2,h3⟩
end Sk
