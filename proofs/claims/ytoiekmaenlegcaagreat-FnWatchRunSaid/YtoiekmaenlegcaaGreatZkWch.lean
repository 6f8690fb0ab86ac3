/- Contracts of functions of the given program. -/
import Derived.Test.YtoiekmaenlegcaaGreatZjHth
import Derived.Test.YtoiekmaenlegcaaGreatZfPrgs
namespace Sk
open Go Go.Proofs Go.RowKit
set_option maxHeartbeats 2000000
set_option maxRecDepth 100000
set_option linter.unusedVariables false
set_option linter.unusedSimpArgs false
structure zK3 (x:Watch):Prop where
 box:zCr x.Box
 ns:x.States.length=x.Box.Cores.length
 hh:∀ h∈x.States,zEr h=true
noncomputable def zBh(x:Watch):Bool:=zEm x.Box && (decide (x.States.length=x.Box.Cores.length) && x.States.all zEr)
theorem zBf{x:Watch}:zBh x=true ↔ zK3 x:=by
 unfold zBh;simp only[Bool.and_eq_true,decide_eq_true_eq,List.all_eq_true,zBj];exact⟨fun⟨h1,h2,h3⟩=>⟨h1,h2,h3⟩,fun h=>⟨h.box,h.ns,h.hh⟩⟩
theorem zH4(v:Value)(x:Health)(w:World)(h:Rv w v x) :
  Calls Tryz.prog 43 #[v] w fun e w'=>e = .returned (.bool (!zEr x))/\Ext w w':=by
 have H:=zh h;obtain⟨rfl,h1⟩:=h.openHealth;clear h;go_enter Tryz.func43,Tryz.ntmps43;go_wp2_with (go_at_call 44;refine(zI4 _ x _ (H.out.ext ((zr w).alloc _))).mono ?_;rintro e w' ⟨rfl,he⟩)
 go_ret;exact⟨rfl,((zr w).alloc _).tr he⟩
theorem zAn(v:Value)(x:Watch)(w:World)(h:Rv w v x) :
  Calls Tryz.prog 13 #[v] w fun e w'=>e = .returned (.bool (zBh x))/\Ext w w':=by
 obtain⟨a0,c0,a1,c1,a2,c2,a3,c3,a4,c4,a5,c5,a7,c7,rfl,r6,h0,l0,h1,l1,h2,l2,h3,l3,h4,l4,h5,l5,h7,l7⟩:=h.openWatch;clear h;have HX:=zh (fun(w1:World) (hw1:Ext w w1)=>zN2 43 #[] (fun x => !zEr x) _ x.States w1 (h7.out.ext hw1) (zD3 Tryz.func43 (by kernel_rfl) (by kernel_rfl)) (fun w2 v y _ _ hv=>zH4 v y w2 hv))
 go_enter Tryz.func13,Tryz.ntmps13;go_upto_region 1 with (fail)
 refine zA1 (fun W=>Ext w W/\Bk W w.heap.size [.slice a0 x.Box.Plan.Parts.length c0,.slice a1 x.Box.Plan.Channels.length c1,.slice a2 x.Box.Plan.Slots.length c2,.slice a3 x.Box.Programs.length c3,.slice a4 x.Box.Cores.length c4,.slice a5 x.Box.Holds.length c5,.int .i64 x.Box.Tick,.slice a7 x.States.length c7] 35) ⟨(zr _).alloc _,Bk.new _ _ _⟩ ?_
 rintro W ⟨e1,kA⟩;have E:=zh e1;have KA:=zh kA;obtain⟨d0,d1,d2,d3,d4,d5,d6,d7⟩:=Bk.k8 kA;clear e1 kA;cases g:zEm x.Box
 ·have hm:Hid (zBh x=false):=zh (by unfold zBh;rw[g];rfl)
  go_wp2_with (go_at_call 41;refine(zAj _ x.Box _ (Rv.mkMachine (h0.out.ext E.out) (h1.out.ext E.out) (h2.out.ext E.out) (h3.out.ext E.out) (h4.out.ext E.out) (h5.out.ext E.out) r6)).mono ?_;rintro e w1 ⟨rfl,he⟩;rw[g];have E1:=zh (E.out.tr he);have KAx:=KA.out.ext he;obtain⟨x0,x1,x2,x3,x4,x5,x6,x7⟩:=Bk.k8 KAx;clear he KAx)
  go_ret;exact⟨zA2 hm.out.symm,E1.out⟩
 by_cases hn:x.States.length=x.Box.Cores.length
 ·have hm:Hid (zBh x=x.States.all zEr):=zh (by unfold zBh;rw[g,decide_eq_true hn];rfl)
  have hm2:=zh ((zBv zEr x.States).trans hm.out.symm);have hb:((x.States.length:Int) == (x.Box.Cores.length:Int))=true:=beq_iff_eq.2 (by omega)
  clear hn
  go_wp2_with (first
   | (go_at_call 41;refine(zAj _ x.Box _ (Rv.mkMachine (h0.out.ext E.out) (h1.out.ext E.out) (h2.out.ext E.out) (h3.out.ext E.out) (h4.out.ext E.out) (h5.out.ext E.out) r6)).mono ?_;rintro e w1 ⟨rfl,he⟩;rw[g];have E1:=zh (E.out.tr he);have KAx:=KA.out.ext he;obtain⟨x0,x1,x2,x3,x4,x5,x6,x7⟩:=Bk.k8 KAx;clear he KAx)
   | (go_at_call 42;refine(HX.out _ E1.out).mono ?_;rintro e w2 ⟨rfl,he⟩;have E2:=zh (E1.out.tr he);clear he))
  go_ret;exact⟨zA2 hm2.out,E2.out⟩
 ·have hm:Hid (zBh x=false):=zh (by unfold zBh;rw[g,decide_eq_false hn];rfl)
  have hb:((x.States.length:Int) == (x.Box.Cores.length:Int))=false:=beq_eq_false_iff_ne.2 (by omega)
  clear hn;go_wp2_with (go_at_call 41;refine(zAj _ x.Box _ (Rv.mkMachine (h0.out.ext E.out) (h1.out.ext E.out) (h2.out.ext E.out) (h3.out.ext E.out) (h4.out.ext E.out) (h5.out.ext E.out) r6)).mono ?_;rintro e w1 ⟨rfl,he⟩;rw[g];have E1:=zh (E.out.tr he);have KAx:=KA.out.ext he;obtain⟨x0,x1,x2,x3,x4,x5,x6,x7⟩:=Bk.k8 KAx;clear he KAx)
  go_ret;exact⟨zA2 hm.out.symm,E1.out⟩
theorem zAq(v:Value)(x:Watch)(w:World)(h:Rv w v x) :
  Calls Tryz.prog 34 #[v] w fun e w'=>e = .returned (.bool (zBh x))/\Ext w w':=by
 obtain⟨a0,c0,a1,c1,a2,c2,a3,c3,a4,c4,a5,c5,a7,c7,rfl,r6,h0,l0,h1,l1,h2,l2,h3,l3,h4,l4,h5,l5,h7,l7⟩:=h.openWatch;clear h;go_enter Tryz.func34,Tryz.ntmps34;go_upto_region 1 with (fail)
 refine zA1 (fun W=>Ext w W/\Bk W w.heap.size [.slice a0 x.Box.Plan.Parts.length c0,.slice a1 x.Box.Plan.Channels.length c1,.slice a2 x.Box.Plan.Slots.length c2,.slice a3 x.Box.Programs.length c3,.slice a4 x.Box.Cores.length c4,.slice a5 x.Box.Holds.length c5,.int .i64 x.Box.Tick,.slice a7 x.States.length c7] 35) ⟨(zr _).alloc _,Bk.new _ _ _⟩ ?_
 rintro W ⟨e1,kA⟩;have E:=zh e1;have KA:=zh kA;clear e1 kA;go_wp2;go_loopw [3] (fun i wr => ∃ k:Nat,k<=x.States.length/\i = .int .i64 k/\Ext W wr/\∀ (j:Nat) (y:Health),j < k->x.States[j]? = some y->zEr y=true) (fun i _=>x.States.length - (intOf i).toNat)
 case atStart=>exact⟨0,Nat.zero_le _,rfl,zr _,fun j x hj _=>by omega⟩
 case round =>
  obtain⟨k,hk,rfl,er,hall⟩:=hrel;have ER:=zh (E.out.tr er);have EW:=zh er;have KR:=zh (KA.out.ext er);have HA:=zh hall;clear er hall;obtain⟨d0,d1,d2,d3,d4,d5,d6,d7⟩:=Bk.k8 KR.out;by_cases hkt:k < x.States.length
  ·obtain⟨b,o,y,rfl,hlt,hx,hc0,hc1,hrx,hyv⟩:=(h7.out.ext ER.out).atHealth k hkt;cases g:zEr y
   ·have hm:Hid (zBh x=false):=zh (by
     cases e:zBh x
     ·rfl
     ·have:=(zBf.1 e).hh y (List.mem_of_getElem? hx.out)
      rw[this] at g;cases g)
    go_wp2_with (go_at_call 66;refine(zB6 _ y _ hyv.out).mono ?_;rintro e w1 ⟨rfl,he⟩;rw[g];have E1:=zh (ER.out.tr he);clear he)
    go_ret;exact⟨zA2 hm.out.symm,E1.out⟩
   ·go_wp2_with (go_at_call 66;refine(zB6 _ y _ hyv.out).mono ?_;rintro e w1 ⟨rfl,he⟩;rw[g];have E1:=zh (EW.out.tr he);clear he)
    go_roundw
    case rel=>exact⟨k+1,by omega,by go_num,E1.out,fun j z hj hy=>by
     by_cases e:j=k
     ·subst e;rw[hx.out] at hy;obtain rfl:=Option.some.inj hy;exact g
     ·exact HA.out j z (by omega) hy⟩
    case measure=>simp[intOf];omega
  ·obtain rfl:k=x.States.length:=by omega
   have hA:Hid (x.States.all zEr=true):=zh (List.all_eq_true.2 fun y hx=>by
    obtain⟨j,hj,rfl⟩:=List.getElem_of_mem hx;exact HA.out j _ hj (List.getElem?_eq_getElem hj))
   clear HA EW hk hkt;cases g:zEm x.Box
   ·have hm:Hid (zBh x=false):=zh (by unfold zBh;rw[g];rfl)
    go_wp2_with (go_at_call 67;refine(zAb _ x.Box _ (Rv.mkMachine (h0.out.ext ER.out) (h1.out.ext ER.out) (h2.out.ext ER.out) (h3.out.ext ER.out) (h4.out.ext ER.out) (h5.out.ext ER.out) r6)).mono ?_;rintro e w1 ⟨rfl,he⟩;rw[g];have E1:=zh (ER.out.tr he);have KAx:=KR.out.ext he;obtain⟨x0,x1,x2,x3,x4,x5,x6,x7⟩:=Bk.k8 KAx;clear he KAx)
    go_ret;exact⟨zA2 hm.out.symm,E1.out⟩
   by_cases hn:x.States.length=x.Box.Cores.length
   ·have hm:Hid (zBh x=true):=zh (by unfold zBh;rw[g,decide_eq_true hn,hA.out];rfl)
    have hb:((x.States.length:Int) == (x.Box.Cores.length:Int))=true:=beq_iff_eq.2 (by omega)
    clear hn;go_wp2_with (go_at_call 67;refine(zAb _ x.Box _ (Rv.mkMachine (h0.out.ext ER.out) (h1.out.ext ER.out) (h2.out.ext ER.out) (h3.out.ext ER.out) (h4.out.ext ER.out) (h5.out.ext ER.out) r6)).mono ?_;rintro e w1 ⟨rfl,he⟩;rw[g];have E1:=zh (ER.out.tr he);have KAx:=KR.out.ext he;obtain⟨x0,x1,x2,x3,x4,x5,x6,x7⟩:=Bk.k8 KAx;clear he KAx)
    go_ret;exact⟨zA2 hm.out.symm,E1.out⟩
   ·have hm:Hid (zBh x=false):=zh (by unfold zBh;rw[g,decide_eq_false hn];rfl)
    have hb:((x.States.length:Int) == (x.Box.Cores.length:Int))=false:=beq_eq_false_iff_ne.2 (by omega)
    clear hn;go_wp2_with (go_at_call 67;refine(zAb _ x.Box _ (Rv.mkMachine (h0.out.ext ER.out) (h1.out.ext ER.out) (h2.out.ext ER.out) (h3.out.ext ER.out) (h4.out.ext ER.out) (h5.out.ext ER.out) r6)).mono ?_;rintro e w1 ⟨rfl,he⟩;rw[g];have E1:=zh (ER.out.tr he);have KAx:=KR.out.ext he;obtain⟨x0,x1,x2,x3,x4,x5,x6,x7⟩:=Bk.k8 KAx;clear he KAx)
    go_ret;exact⟨zA2 hm.out.symm,E1.out⟩
theorem zE6(v:Value)(x:Watch)(w:World)(h:Rv w v x)(hn:GT.tot x.Box<=1048576)(hs:x.States.length<=100000000) :
  Calls Tryz.prog 32 #[v] w fun e w' => ∃ v',e = .returned v'/\Ov w.heap.size w' v' x/\Ext w w':=by
 obtain⟨a0,c0,a1,c1,a2,c2,a3,c3,a4,c4,a5,c5,a7,c7,rfl,r6,h0,l0,h1,l1,h2,l2,h3,l3,h4,l4,h5,l5,h7,l7⟩:=h.openWatch;clear h;go_enter Tryz.func32,Tryz.ntmps32;go_upto_region 1 with (fail)
 refine zA1 (fun W=>Ext w W/\Bk W w.heap.size [.slice a0 x.Box.Plan.Parts.length c0,.slice a1 x.Box.Plan.Channels.length c1,.slice a2 x.Box.Plan.Slots.length c2,.slice a3 x.Box.Programs.length c3,.slice a4 x.Box.Cores.length c4,.slice a5 x.Box.Holds.length c5,.int .i64 x.Box.Tick,.slice a7 x.States.length c7] 35/\Bk W (w.heap.size+1) [.slice none 0 0,.slice none 0 0,.slice none 0 0,.slice none 0 0,.slice none 0 0,.slice none 0 0,.int .i64 0,.slice none 0 0] 35) ⟨((zr _).alloc _).alloc _,(Bk.new _ _ _).ext ((zr _).alloc _),Bk.new1 _ _ _ _⟩ ?_
 rintro W ⟨e1,kA,kB⟩;have E:=zh e1;have KA:=zh kA;have KB:=zh kB;obtain⟨d0,d1,d2,d3,d4,d5,d6,d7⟩:=Bk.k8 kA;have ltA:=kA.lt;have ltB:=kB.lt;clear e1 kA kB
 go_region_held3 (fun u=>u.cell? ⟨w.heap.size,0,none⟩=some (.slice a0 x.Box.Plan.Parts.length c0)/\u.cell? ⟨w.heap.size,1,none⟩=some (.slice a1 x.Box.Plan.Channels.length c1)/\u.cell? ⟨w.heap.size,2,none⟩=some (.slice a2 x.Box.Plan.Slots.length c2)/\u.cell? ⟨w.heap.size,3,none⟩=some (.slice a3 x.Box.Programs.length c3)/\u.cell? ⟨w.heap.size,4,none⟩=some (.slice a4 x.Box.Cores.length c4)/\u.cell? ⟨w.heap.size,5,none⟩=some (.slice a5 x.Box.Holds.length c5)/\u.cell? ⟨w.heap.size,6,none⟩=some (.int .i64 x.Box.Tick)/\u.cell? ⟨w.heap.size,7,none⟩=some (.slice a7 x.States.length c7))
  (first
   | go_keep
   | exact⟨(zA0 X1.out ltA).trans d0,(zA0 X1.out ltA).trans d1,(zA0 X1.out ltA).trans d2,(zA0 X1.out ltA).trans d3,(zA0 X1.out ltA).trans d4,(zA0 X1.out ltA).trans d5,(zA0 X1.out ltA).trans d6,(zA0 X1.out ltA).trans d7⟩
   | exact⟨(zA0 X2.out ltA).trans d0,(zA0 X2.out ltA).trans d1,(zA0 X2.out ltA).trans d2,(zA0 X2.out ltA).trans d3,(zA0 X2.out ltA).trans d4,(zA0 X2.out ltA).trans d5,(zA0 X2.out ltA).trans d6,(zA0 X2.out ltA).trans d7⟩
   | exact⟨((KA.out.ext X2.out).puts_ne (b:=w.heap.size) (c:=w.heap.size+1) (o:=0) (ds:=[.slice t0 x.Box.Plan.Parts.length u0,.slice t1 x.Box.Plan.Channels.length u1,.slice t2 x.Box.Plan.Slots.length u2,.slice t3 x.Box.Programs.length u3,.slice t4 x.Box.Cores.length u4,.slice t5 x.Box.Holds.length u5,.int .i64 x.Box.Tick,.slice t7 x.States.length u7]) (by omega)).cell (j:=0) rfl,((KA.out.ext X2.out).puts_ne (b:=w.heap.size) (c:=w.heap.size+1) (o:=0) (ds:=[.slice t0 x.Box.Plan.Parts.length u0,.slice t1 x.Box.Plan.Channels.length u1,.slice t2 x.Box.Plan.Slots.length u2,.slice t3 x.Box.Programs.length u3,.slice t4 x.Box.Cores.length u4,.slice t5 x.Box.Holds.length u5,.int .i64 x.Box.Tick,.slice t7 x.States.length u7]) (by omega)).cell (j:=1) rfl,((KA.out.ext X2.out).puts_ne (b:=w.heap.size) (c:=w.heap.size+1) (o:=0) (ds:=[.slice t0 x.Box.Plan.Parts.length u0,.slice t1 x.Box.Plan.Channels.length u1,.slice t2 x.Box.Plan.Slots.length u2,.slice t3 x.Box.Programs.length u3,.slice t4 x.Box.Cores.length u4,.slice t5 x.Box.Holds.length u5,.int .i64 x.Box.Tick,.slice t7 x.States.length u7]) (by omega)).cell (j:=2) rfl,((KA.out.ext X2.out).puts_ne (b:=w.heap.size) (c:=w.heap.size+1) (o:=0) (ds:=[.slice t0 x.Box.Plan.Parts.length u0,.slice t1 x.Box.Plan.Channels.length u1,.slice t2 x.Box.Plan.Slots.length u2,.slice t3 x.Box.Programs.length u3,.slice t4 x.Box.Cores.length u4,.slice t5 x.Box.Holds.length u5,.int .i64 x.Box.Tick,.slice t7 x.States.length u7]) (by omega)).cell (j:=3) rfl,((KA.out.ext X2.out).puts_ne (b:=w.heap.size) (c:=w.heap.size+1) (o:=0) (ds:=[.slice t0 x.Box.Plan.Parts.length u0,.slice t1 x.Box.Plan.Channels.length u1,.slice t2 x.Box.Plan.Slots.length u2,.slice t3 x.Box.Programs.length u3,.slice t4 x.Box.Cores.length u4,.slice t5 x.Box.Holds.length u5,.int .i64 x.Box.Tick,.slice t7 x.States.length u7]) (by omega)).cell (j:=4) rfl,((KA.out.ext X2.out).puts_ne (b:=w.heap.size) (c:=w.heap.size+1) (o:=0) (ds:=[.slice t0 x.Box.Plan.Parts.length u0,.slice t1 x.Box.Plan.Channels.length u1,.slice t2 x.Box.Plan.Slots.length u2,.slice t3 x.Box.Programs.length u3,.slice t4 x.Box.Cores.length u4,.slice t5 x.Box.Holds.length u5,.int .i64 x.Box.Tick,.slice t7 x.States.length u7]) (by omega)).cell (j:=5) rfl,((KA.out.ext X2.out).puts_ne (b:=w.heap.size) (c:=w.heap.size+1) (o:=0) (ds:=[.slice t0 x.Box.Plan.Parts.length u0,.slice t1 x.Box.Plan.Channels.length u1,.slice t2 x.Box.Plan.Slots.length u2,.slice t3 x.Box.Programs.length u3,.slice t4 x.Box.Cores.length u4,.slice t5 x.Box.Holds.length u5,.int .i64 x.Box.Tick,.slice t7 x.States.length u7]) (by omega)).cell (j:=6) rfl,((KA.out.ext X2.out).puts_ne (b:=w.heap.size) (c:=w.heap.size+1) (o:=0) (ds:=[.slice t0 x.Box.Plan.Parts.length u0,.slice t1 x.Box.Plan.Channels.length u1,.slice t2 x.Box.Plan.Slots.length u2,.slice t3 x.Box.Programs.length u3,.slice t4 x.Box.Cores.length u4,.slice t5 x.Box.Holds.length u5,.int .i64 x.Box.Tick,.slice t7 x.States.length u7]) (by omega)).cell (j:=7) rfl⟩)
  (first
   | (go_at_call 47;refine(zBu _ x.Box _ (Rv.mkMachine (h0.out.ext (E.out.tr (zr _).drew)) (h1.out.ext (E.out.tr (zr _).drew)) (h2.out.ext (E.out.tr (zr _).drew)) (h3.out.ext (E.out.tr (zr _).drew)) (h4.out.ext (E.out.tr (zr _).drew)) (h5.out.ext (E.out.tr (zr _).drew)) r6) hn).mono ?_;rintro e w1 ⟨v1,rfl,hov,he⟩;obtain⟨t0,u0,t1,u1,t2,u2,t3,u3,t4,u4,t5,u5,F1,rfl,en1,ow1⟩:=hov.openE;have X1:Hid (Ext W w1):=zh ((zr _).drew.tr he);have EN1:=zh en1;have OW1:=zh ow1;clear hov en1 ow1 he)
   | (go_at_call 64;have _t:=X1;refine(zH6 _ _ _ _ ((h7.out.ext (E.out.tr X1.out)).choose_spec) hs).mono ?_;rintro e w2 ⟨v2,F',rfl,ho',hF',_,ex1⟩;obtain⟨F2,s2,ow2⟩:=ho'.flat;obtain⟨t7,u7,rfl,_⟩:=id s2;have X2:Hid (Ext W w2):=zh (X1.out.tr ex1);have X12:=zh ex1;have S2:=zh s2;have OW2:=zh ow2;have KBx:=KB.out.ext X2.out;obtain⟨z0,z1,z2,z3,z4,z5,z6,z7⟩:=Bk.k8 KBx;have zf:=KBx.fz;have ltZ:=KBx.lt;clear ho' s2 ow2 ex1 hF' KBx))
 have KB2:=KB.out.ext X2.out;obtain⟨z0,z1,z2,z3,z4,z5,z6,z7⟩:=Bk.k8 KB2;have zf:=KB2.fz;have EN:=zh (zGk (GT.ext EN1.out X12.out) S2.out);have hs0:=E.out.sz;have hd:W.drew.heap.size=W.heap.size:=rfl;have OX:Own w.heap.size w2 (F1++F2):=((OW1.out.ext X12.out).mono (by omega)).join (OW2.out.mono (by have:=X1.out.sz;omega)) (fun k h1 h2=>by have:=OW1.out.lt h1;have:=(OW2.out.2 k h2).1;omega)
 have hZ:w.heap.size+1 ∉ F1++F2:=fun hm=>by
  rcases List.mem_append.1 hm with hm|hm
  ·have:=(OW1.out.2 _ hm).1;omega
  ·have:=(OW2.out.2 _ hm).1;have:=X1.out.sz;omega
 go_wp2_with fail
 refine bodyPost_ret (v:=.agg #[.slice t0 x.Box.Plan.Parts.length u0,.slice t1 x.Box.Plan.Channels.length u1,.slice t2 x.Box.Plan.Slots.length u2,.slice t3 x.Box.Programs.length u3,.slice t4 x.Box.Cores.length u4,.slice t5 x.Box.Holds.length u5,.int .i64 x.Box.Tick,.slice t7 x.States.length u7]) (by simp[results,Tryz.results32,go_sem,z0,z1,z2,z3,z4,z5,z6,z7]) rfl ⟨_,rfl,⟨_,_,rfl,zAt (c:=w.heap.size+1) (o:=0) (ds:=[.slice t0 x.Box.Plan.Parts.length u0,.slice t1 x.Box.Plan.Channels.length u1,.slice t2 x.Box.Plan.Slots.length u2,.slice t3 x.Box.Programs.length u3,.slice t4 x.Box.Cores.length u4,.slice t5 x.Box.Holds.length u5,.int .i64 x.Box.Tick,.slice t7 x.States.length u7]) EN.out hZ,OX.puts (b:=w.heap.size+1) (o:=0) [.slice t0 x.Box.Plan.Parts.length u0,.slice t1 x.Box.Plan.Channels.length u1,.slice t2 x.Box.Plan.Slots.length u2,.slice t3 x.Box.Programs.length u3,.slice t4 x.Box.Cores.length u4,.slice t5 x.Box.Holds.length u5,.int .i64 x.Box.Tick,.slice t7 x.States.length u7]⟩,?_⟩
 exact Ext.puts (b:=w.heap.size+1) (o:=0) (by omega) [.slice t0 x.Box.Plan.Parts.length u0,.slice t1 x.Box.Plan.Channels.length u1,.slice t2 x.Box.Plan.Slots.length u2,.slice t3 x.Box.Programs.length u3,.slice t4 x.Box.Cores.length u4,.slice t5 x.Box.Holds.length u5,.int .i64 x.Box.Tick,.slice t7 x.States.length u7] (E.out.tr X2.out)
set_option maxHeartbeats 1600000
def zFw(m:Machine)(n:Nat):Machine:={ m with Cores:=m.Cores.set n (zCs (m.Cores.getD n zLo)) }
def zGc(m:Machine)(n:Nat):Machine:=zB1 m n (zAp (M.pc m n)) m.Plan.Channels.length
def zCj(m:Machine)(n:Nat)(a:Int):Machine:=if a=1 then zGc m n else if a=2 then zFw m n else m
def zEx(x:Watch)(t:List Int)(n:Nat)(f:Int):Watch × Int :=
 (⟨zCj x.Box n (zC0 (x.States.getD n ⟨false,0⟩) t f).2,x.States.set n (zC0 (x.States.getD n ⟨false,0⟩) t f).1⟩,(zC0 (x.States.getD n ⟨false,0⟩) t f).2)
theorem M.stp_MV{m:Machine}(h:zCr m)(n:Nat):zCr (zFw m n):=by
 refine⟨h.pg,by simpa [zFw] using h.nc,h.nh,fun k c p q hc hp hq=>?_,h.hv,h.tick⟩
 simp only[zFw,List.getElem?_set] at hc
 split at hc
 ·rename_i e
  subst e
  split at hc
  ·rename_i hn
   obtain rfl:=Option.some.inj hc;have e:m.Cores.getD n zLo=m.Cores[n]:=by simp[List.getD_eq_getElem?_getD,hn]
   rw[e]
   have:=h.fits n _ p q (List.getElem?_eq_getElem hn) hp hq
   exact this
  ·cases hc
 ·exact h.fits k c p q hc hp hq
theorem M.rs1_MV{m:Machine}(h:zCr m){n:Nat}(hn:n < m.Cores.length):zCr (zGc m n):=by
 have hnp:n < m.Plan.Parts.length:=by have:=h.nc;omega
 have hq:m.Plan.Parts[n]? = some m.Plan.Parts[n]:=List.getElem?_eq_getElem hnp;have e:M.pc m n=(m.Plan.Parts[n]).Cells:=by simp only[M.pc,List.getD_eq_getElem?_getD,hq,Option.getD_some]
 unfold zGc;rw[e];exact M.rst_MV h hq _
theorem zNi{m:Machine}(h:zCr m){n:Nat}(hn:n < m.Cores.length)(a:Int):zCr (zCj m n a):=by
 unfold zCj
 split
 ·exact M.rs1_MV h hn
 ·split
  ·exact M.stp_MV h n
  ·exact h
theorem zF8(m:Machine)(n:Nat)(a:Int):(zCj m n a).Cores.length=m.Cores.length/\(zCj m n a).Plan=m.Plan/\(zCj m n a).Tick=m.Tick/\(zCj m n a).Holds.length=m.Holds.length:=by
 unfold zCj
 split
 ·simp[zGc,zB1,zE2]
 ·split
  ·simp[zFw]
  ·exact⟨rfl,rfl,rfl,rfl⟩
theorem zMd{x:Watch}(h:zK3 x){n:Nat}(hn:n < x.States.length)(t:List Int)(f:Int):zK3 (zEx x t n f).1:=by
 have hs:=h.ns;have hnb:n < x.Box.Cores.length:=by omega
 refine⟨zNi h.box hnb _,?_,fun y hy=>?_⟩
 ·show(x.States.set n _).length=(zCj x.Box n _).Cores.length
  rw[List.length_set,(zF8 _ _ _).1];exact hs
 ·rcases List.mem_or_eq_of_mem_set hy with hy|rfl
  ·exact h.hh y hy
  ·refine zM8 (h.hh _ ?_);simp[List.getD_eq_getElem?_getD,hn]
structure zDc (L b:Nat) (F:List Nat) (w W:World) (x:Watch) (F':List Nat):Prop where
 om:Om L W b 0 x F'
 ch:Chg b 0 8 F w W
 sub:∀ k∈F',k∈F\/w.heap.size<=k
 cl:∀ j,j≠6->W.cell? ⟨b,j,none⟩=w.cell? ⟨b,j,none⟩
theorem zDc.refl{L b:Nat}{F:List Nat}{w:World}{x:Watch}(h:Om L w b 0 x F):zDc L b F w w x F:=⟨h,Chg.refl _ _ _ _ _,fun _ h => .inl h,fun _ _=>rfl⟩
theorem zDc.lt{L b:Nat}{F F':List Nat}{w W:World}{x:Watch}(h:zDc L b F w W x F'):b < W.heap.size:=h.om.bk.1
theorem zDc.fz{L b:Nat}{F F':List Nat}{w W:World}{x:Watch}(h:zDc L b F w W x F'):∀ j,W.frozen? ⟨b,j,none⟩=false:=h.om.bk.2.2.2
theorem zDc.ext{L b:Nat}{F F':List Nat}{w W W':World}{x:Watch}(h:zDc L b F w W x F')(he:Ext W W'):zDc L b F w W' x F' :=
 ⟨h.om.ext he,h.ch.tr (Chg.ofExt he h.lt),h.sub,fun j hj=>(zA0 he h.lt).trans (h.cl j hj)⟩
theorem zDc.trans{L b:Nat}{F F1 F2:List Nat}{w W W':World}{x x':Watch}(h:zDc L b F w W x F1)(k:zDc L b F1 W W' x' F2):zDc L b F w W' x' F2 :=
 ⟨k.om,h.ch.trF k.ch h.sub,fun y hy=>(k.sub y hy).elim (fun h1=>h.sub y h1) (fun h1 => .inr (Nat.le_trans h.ch.sz h1)),fun j hj=>(k.cl j hj).trans (h.cl j hj)⟩
theorem zDc.bk{L b:Nat}{F F':List Nat}{w W:World}{x:Watch}(h:zDc L b F w W x F'){k:Nat}{cs:List Value}{T:TypeId}(hk:Bk w k cs T)(hb:k≠b)(hF:k ∉ F):Bk W k cs T:=h.ch.bk hk hb hF
theorem zDc.box{L b:Nat}{F F':List Nat}{w W:World}{x:Watch}(h:zDc L b F w W x F') :
  ∃ Fm,Om L W b 0 x.Box Fm/\(∀ k∈Fm,k∈F'/\k≠b)/\∀ W' m' Fm',zCb L b Fm W W' m' Fm'->∃ F2,zDc L b F w W' { x with Box:=m' } F2:=by
 obtain⟨_,_,_,ho⟩:=id h.om;obtain⟨Fm,lb⟩:=h.om.lWatchBox;refine⟨Fm,lb.om ho,Lens.fsub lb ho,fun W' m' Fm' tb=>?_⟩
 obtain⟨F2,h1,h2,h3⟩:=lb.back L W' m' Fm' ho tb.ch tb.om tb.sub;refine⟨F2,h1,h.ch.trF h3 h.sub,fun k hk=>?_,fun j hj=>(tb.cl j hj).trans (h.cl j hj)⟩
 rcases h2 k hk with h4|h4
 ·exact h.sub k h4
 ·rcases tb.sub k h4 with h5|h5
  ·exact h.sub k (Lens.fsub lb ho k h5).1
  ·exact .inr (Nat.le_trans h.ch.sz h5)
theorem zDc.st{L b:Nat}{F F':List Nat}{w W:World}{x:Watch}(h:zDc L b F w W x F'){g s n c N:Nat}(hv:w.cell? ⟨b,7,none⟩=some (.slice (some ⟨g,s,none⟩) n c))(hN:N < x.States.length) :
  ∃ k Fy,x.States[N]? = some k/\Om L W g (s+N*2) k Fy/\(∀ y∈g::Fy,y∈F'/\y≠b) /\
   ∀ W' k' Fy',Chg g (s+N*2) 2 Fy W W'->Om L W' g (s+N*2) k' Fy'->(∀ y∈Fy',y∈Fy\/W.heap.size<=y)->∃ F2,zDc L b F w W' { x with States:=x.States.set N k' } F2:=by
 obtain⟨_,_,_,ho⟩:=id h.om;obtain⟨Fc,lc⟩:=h.om.lWatchStates;obtain⟨g',s',Fy,k,e,hx,hsub,li⟩:=(lc.om ho).idxS (by rw[show 0+7=7 from rfl];exact(h.cl 7 (by decide)).trans hv) N hN
 cases e;have LC:=lc.comp li;have hs:∀ y∈g::Fy,y∈F'/\y≠b:=fun y hy=>Lens.fsub lc ho y (hsub y hy)
 refine⟨k,Fy,hx.out,LC.om ho,hs,fun W' k' Fy' hc hk' hf=>?_⟩
 obtain⟨F2,h1,h2,h3⟩:=LC.back L W' k' Fy' ho hc hk' hf;have hb:∀ j,W'.cell? ⟨b,j,none⟩=W.cell? ⟨b,j,none⟩:=fun j=>World.cell?_of_block (hc.keep h.lt (fun e=>(hs g (List.mem_cons_self ..)).2 e.symm) (fun hm=>(hs b (List.mem_cons_of_mem _ hm)).2 rfl))
 refine⟨F2,h1,h.ch.trF h3 h.sub,fun y hy=>?_,fun j hj=>(hb j).trans (h.cl j hj)⟩
 rcases h2 y hy with h4|h4
 ·exact h.sub y h4
 ·rcases hf y h4 with h5|h5
  ·exact h.sub y (hs y (List.mem_cons_of_mem _ h5)).1
  ·exact .inr (Nat.le_trans h.ch.sz h5)
theorem Om.openHe{L:Nat}{w:World}{b o:Nat}{x:Health}{F:List Nat}(h:Om L w b o x F):F = []/\w.cell? ⟨b,o,none⟩=some (.bool x.Frozen)/\w.cell? ⟨b,o+1,none⟩=some (.int .i64 x.Restarts)/\rng x.Restarts:=by
 obtain⟨cs,⟨rfl,r,rfl⟩,hat,_⟩:=h;exact⟨rfl,by simpa using hat 0 _ rfl,hat 1 _ rfl,r⟩
theorem zDc.putSt{L b:Nat}{F F':List Nat}{w W:World}{x:Watch}(h:zDc L b F w W x F'){g s n c N:Nat}(hv:w.cell? ⟨b,7,none⟩=some (.slice (some ⟨g,s,none⟩) n c))(hN:N < x.States.length)(k':Health)(hr:rng k'.Restarts) :
  ∃ F2,zDc L b F w ((W.setCell ⟨g,s+N*2,none⟩ (.bool k'.Frozen)).setCell ⟨g,s+N*2+1,none⟩ (.int .i64 k'.Restarts)) { x with States:=x.States.set N k' } F2:=by
 obtain⟨k,Fy,_,om,hs,hback⟩:=h.st hv hN;obtain⟨rfl,c0,c1,_⟩:=om.openHe;obtain⟨_,hen,hat,hown⟩:=id om;refine hback _ k' [] (((Chg.refl _ _ _ _ _).set ⟨Nat.le_refl _,by omega⟩ _).set ⟨by omega,by omega⟩ _) ⟨[.bool k'.Frozen,.int .i64 k'.Restarts],⟨rfl,hr,rfl⟩,?_,(hown.set _ _).set _ _⟩ (fun x hx=>by cases hx)
 intro j u hj
 match j,hj with
 | 0,hj=>cases hj;exact(zA3 (by omega)).trans (zAs c0)
 | 1,hj=>cases hj;exact zAs ((zA3 (by omega)).trans c1)
theorem zDc.stop{L b:Nat}{F F':List Nat}{w W:World}{x:Watch}(h:zDc L b F w W x F'){g s n c N:Nat}(hv:w.cell? ⟨b,4,none⟩=some (.slice (some ⟨g,s,none⟩) n c))(hN:N < x.Box.Cores.length) :
  ∃ F2,zDc L b F w (W.setCell ⟨g,s+N*3+2,none⟩ (.bool true)) { x with Box:=zFw x.Box N } F2:=by
 obtain⟨Fm,om,_,hback⟩:=h.box;obtain⟨k,Fy,hk,omc,hs,hb2⟩:=(zCb.refl om).core ((h.cl 4 (by decide)).trans hv) hN
 obtain⟨_,_,_,hoc⟩:=id omc;obtain⟨Fs,ls⟩:=omc.lCoreStopped;obtain⟨F3,h1,h2,h3⟩:=ls.putB hoc true;have e:x.Box.Cores.getD N zLo=k:=by rw[List.getD_eq_getElem?_getD,hk];rfl
 obtain⟨F4,tb⟩:=hb2 _ _ _ h3 h1 (fun y hy => .inl (h2 y hy))
 unfold zFw;rw[e];exact hback _ _ _ tb
theorem Om.wcells{L b:Nat}{F:List Nat}{w:World}{x:Watch}(h:Om L w b 0 x F){N:Nat}(hN:N < x.States.length)(hC:N < x.Box.Cores.length) :
  ∃ g7 s7 u7 g4 s4 u4,w.cell? ⟨b,7,none⟩=some (.slice (some ⟨g7,s7,none⟩) x.States.length u7)/\w.cell? ⟨b,4,none⟩=some (.slice (some ⟨g4,s4,none⟩) x.Box.Cores.length u4):=by
 obtain⟨_,_,_,ho⟩:=id h;obtain⟨F7,l7⟩:=h.lWatchStates;obtain⟨a7,u7,e7,_⟩:=(l7.om ho).cell;obtain⟨g7,s7,_,_,e,_⟩:=(l7.om ho).idxS e7 N hN;subst e;obtain⟨Fm,lb⟩:=h.lWatchBox;obtain⟨_,_,_,ho2⟩:=id (lb.om ho);obtain⟨F4,l4⟩:=(lb.om ho).lMachineCores;obtain⟨a4,u4,e4,_⟩:=(l4.om ho2).cell;obtain⟨g4,s4,_,_,e,_⟩:=(l4.om ho2).idxS e4 N hC;subst e;exact⟨g7,s7,u7,g4,s4,u4,e7,e4⟩
theorem zL4{h:Health}{t:List Int}{f:Int}(hv:zEr h=true):rng (zC0 h t f).1.Restarts:=by
 have:=(zDr.1 (zM8 (t:=t) (f:=f) hv)).1
 exact⟨by omega,by omega⟩
set_option maxHeartbeats 2000000
theorem cell_ne2{w:World}{A B o i j:Nat}{u0 u1 x:Value}(h:w.cell? ⟨B,o,none⟩=some x)(hne:B≠A):((w.setCell ⟨A,i,none⟩ u0).setCell ⟨A,j,none⟩ u1).cell? ⟨B,o,none⟩=some x :=
 (World.cell?_of_block (zA4 hne)).trans ((World.cell?_of_block (zA4 hne)).trans h)
theorem zJ5{w:World}{A B o i j:Nat}{u0 u1 x:Value}(h:w.cell? ⟨B,o,none⟩=some x)(hne:B≠A):(((w.setCell ⟨A,i,none⟩ u0).setCell ⟨A,j,none⟩ u1).drew).cell? ⟨B,o,none⟩=some x :=
 (World.cell?_of_block (w:=(w.setCell ⟨A,i,none⟩ u0).setCell ⟨A,j,none⟩ u1) rfl).trans (cell_ne2 h hne)
theorem zKh(L b n:Nat)(x:Watch)(F:List Nat)(vt:Value)(t:List Int)(f:Int)(w:World)(h:Om L w b 0 x F)(ht:Rs w vt t)(hL:L<=w.heap.size)(hW:zK3 x)(hT:zD8 t=true)(hn:n < x.States.length)(hf:0<=f/\f<=3) :
  Calls Tryz.prog 33 #[.pointer (some ⟨b,0,none⟩),vt,.int .i64 n,.int .i64 f] w fun e w'=>e = .returned (.int .i64 (zEx x t n f).2)/\∃ F',zDc L b F w w' (zEx x t n f).1 F':=by
 have hns:=hW.ns;have hC:n < x.Box.Cores.length:=by omega
 obtain⟨g7,s7,u7,g4,s4,u4,y7,y4⟩:=h.wcells hn hC;have WB0:=zh (zDc.refl h);have y7':=y7;obtain⟨k,Fy,hk,omk,hsk,_⟩:=(zDc.refl h).st y7 hn;obtain⟨_,c0,c1,hrk⟩:=omk.openHe;have gf7:=omk.bk.2.2.2;have ltg7:=omk.bk.1;have hb7:b≠g7:=fun e=>(hsk g7 (List.mem_cons_self ..)).2 e.symm
 have hlb:=h.bk.1;have hLb:=h.bk.2.1;have hhk:zEr k=true:=hW.hh k (List.mem_of_getElem? hk);have hgk:x.States.getD n ⟨false,0⟩=k:=by rw[List.getD_eq_getElem?_getD,hk];rfl
 have hRv:Hid (Rv w (.agg #[.bool k.Frozen,.int .i64 k.Restarts]) k):=zh ⟨[.bool k.Frozen,.int .i64 k.Restarts],[],rfl,rfl,hrk,rfl⟩;have HT:=zh ht;obtain⟨ta,tc,rfl,htl⟩:=ht.form;have hq:x.Box.Plan.Parts[n]? = some (x.Box.Plan.Parts[n]'(by have:=hW.box.nc;omega)):=List.getElem?_eq_getElem _
 generalize x.Box.Plan.Parts[n]'(by have:=hW.box.nc;omega)=q at hq
 have HQ:=zh hq;have hpc:=zh (show M.pc x.Box n=q.Cells by simp only[M.pc,List.getD_eq_getElem?_getD,hq,Option.getD_some])
 have hp5:=zAc hW.box.pg.set;have hc8:=zBi hW.box.pg.set;have hhl:x.Box.Plan.Channels.length<=x.Box.Holds.length:=by have:=hW.box.nh;omega
 have hn5:n<=5:=by have:=hW.box.nc;omega
 have hact:=zIu (h:=k) (t:=t) (f:=f);have hsr:=zL4 (t:=t) (f:=f) hhk;have hwf:zEx x t n f=(⟨zCj x.Box n (zC0 k t f).2,x.States.set n (zC0 k t f).1⟩,(zC0 k t f).2):=by unfold zEx;rw[hgk]
 have HA:=fun(v:Value) (w1:World) (hv:Rv w1 v k) (e:Ext w w1)=>zN5 v _ k t f w1 hv (HT.out.ext e) hhk hT hf
 obtain⟨r,hr⟩:∃ r,zC0 k t f=r:=⟨_,rfl⟩;rw[hr] at hact hsr hwf HA;obtain⟨s',act⟩:=r;simp only at hact hsr hwf HA;replace HA:=zh HA;have HWF:=zh hwf;clear h ht hW hT hf omk hsk hk hgk hq hr hwf htl hns hhk;go_enter Tryz.func33,Tryz.ntmps33;go_upto_region 2 with (go_at_call 65;refine(HA.out _ _ hRv.out (zr _)).mono ?_;rintro e w1 ⟨rfl,he⟩;have X1:=zh he;clear he)
 refine zA1 (fun W=>Ext w W/\w1.heap.size < W.heap.size/\Bk W w1.heap.size [.bool s'.Frozen,.int .i64 s'.Restarts] 44) ⟨X1.out.tr ((zr _).alloc _),by simp,Bk.new _ _ _⟩ ?_
 rintro W2 ⟨E2,_,kQ⟩;have E:=zh E2;obtain⟨q0,q1⟩:=Bk.k2 kQ;have ltQ:=kQ.lt;have z7:=(zA0 E2 hlb).trans y7;have hQ7:w1.heap.size≠g7:=by have:=X1.out.sz;omega
 have ltb2:=zl hlb E2.sz;have lt72:=zl ltg7 E2.sz;have gf72:∀ j,W2.frozen? ⟨g7,j,none⟩=false:=fun j=>(World.frozen?_of_block (E2.block g7 ltg7)).trans (gf7 j)
 have c02:=(zA0 E2 ltg7).trans c0;have c12:=(zA0 E2 ltg7).trans c1;have hnn:n < x.States.length:=hn;replace y7':=zh y7';clear E2 kQ y7 c0 c1 gf7 X1 HA;have zz1:(((W2.setCell ⟨g7,s7+n*2,none⟩ (.bool s'.Frozen)).setCell ⟨g7,s7+n*2+1,none⟩ (.int .i64 s'.Restarts)).drew).cell? ⟨b,7,none⟩=some (.slice (some ⟨g7,s7,none⟩) x.States.length u7):=zJ5 z7 hb7;have zz2:(((W2.setCell ⟨g7,s7+n*2,none⟩ (.bool s'.Frozen)).setCell ⟨g7,s7+n*2+1,none⟩ (.int .i64 s'.Restarts)).drew).cell? ⟨w1.heap.size,0,none⟩=some (.bool s'.Frozen):=zJ5 q0 hQ7;have zz3:(((W2.setCell ⟨g7,s7+n*2,none⟩ (.bool s'.Frozen)).setCell ⟨g7,s7+n*2+1,none⟩ (.int .i64 s'.Restarts)).drew).cell? ⟨w1.heap.size,1,none⟩=some (.int .i64 s'.Restarts):=zJ5 q1 hQ7
 go_region_held3 (fun u=>u.cell? ⟨b,7,none⟩=some (.slice (some ⟨g7,s7,none⟩) x.States.length u7)/\u.cell? ⟨w1.heap.size,0,none⟩=some (.bool s'.Frozen)/\u.cell? ⟨w1.heap.size,1,none⟩=some (.int .i64 s'.Restarts))
  (go_keep)
  (fail)
 clear zz1 zz2 zz3;go_upto_region 3 with (fail)
 obtain⟨F2,wb2'⟩:=(WB0.out.ext E.out).putSt y7'.out hn s' hsr;have wb2:=wb2'.ext (zr _).drew;refine zA1 (fun W3=>zDc L b F w W3 { x with States:=x.States.set n s' } F2) wb2 ?_
 rintro W3 wb3;have WB3:=zh wb3;have z4:=(wb3.cl 4 (by decide)).trans y4
 clear wb2 wb2' wb3 z7 q0 q1 c02 c12 gf72;rcases hact with rfl|rfl|rfl
 ·go_wp2;go_ret;exact⟨zF0 (by rw[HWF.out]),_,by rw[HWF.out];exact WB3.out⟩
 ·obtain⟨Fm,om,_,hback⟩:=WB3.out.box;have OM:=zh om;have HB:=zh hback;have hL3:L<=W3.heap.size:=Nat.le_trans hL WB3.out.ch.sz;clear om hback;go_wp2_with (go_at_call 48;refine(zHv L b n x.Box Fm q _ OM.out hL3 hC HQ.out hhl hc8 hn5).mono ?_;rintro e w10 ⟨F3,om10,ch10,sub10,⟨vr,rfl⟩,cl10⟩;obtain⟨F4,wb10⟩:=HB.out _ _ F3 ⟨om10,ch10,sub10,fun j _=>cl10 j⟩;have WB10:=zh wb10;clear om10 ch10 sub10 cl10 wb10)
  go_ret;exact⟨zF0 (by rw[HWF.out]),_,by rw[HWF.out];show zDc L b F w _ ⟨zGc x.Box n,_⟩ _;unfold zGc;rw[hpc.out];exact WB10.out⟩
 ·obtain⟨F4,wb4⟩:=WB3.out.stop y4 hC;obtain⟨Fm,om,_,_⟩:=WB3.out.box;obtain⟨k4,Fy4,_,omc,hs4,_⟩:=(zCb.refl om).core z4 hC;obtain⟨_,_,_,_,c42,_,_⟩:=omc.openC;have gf4:=omc.bk.2.2.2;have lt4:=omc.bk.1;have WB4:=zh wb4;clear wb4 om omc hs4;go_wp2;go_ret;exact⟨zF0 (by rw[HWF.out]),_,by rw[HWF.out];exact WB4.out⟩
end Sk
