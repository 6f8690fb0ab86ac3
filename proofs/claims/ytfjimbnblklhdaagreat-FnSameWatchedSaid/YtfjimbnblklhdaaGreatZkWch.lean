/- Contracts of functions of the given program. -/
import Derived.Test.YtfjimbnblklhdaaGreatZfPrgs
namespace Sk
open Go Go.Proofs Go.RowKit
set_option maxHeartbeats 2000000
set_option maxRecDepth 100000
set_option linter.unusedVariables false
set_option linter.unusedSimpArgs false
structure zO2 (x:Watch):Prop where
 box:zC6 x.Box
 ns:x.States.length=x.Box.Cores.length
 hh:∀ h∈x.States,zKc h=true
noncomputable def zG3(x:Watch):Bool:=zEh x.Box && (decide (x.States.length=x.Box.Cores.length) && x.States.all zKc)
theorem zJp{x:Watch}:zG3 x=true ↔ zO2 x:=by
 unfold zG3;simp only[Bool.and_eq_true,decide_eq_true_eq,List.all_eq_true,zAw];exact⟨fun⟨h1,h2,h3⟩=>⟨h1,h2,h3⟩,fun h=>⟨h.box,h.ns,h.hh⟩⟩
theorem zHu(v:Value)(x:Health)(w:World)(h:Rv w v x) :
  Calls Tryz.prog 84 #[v] w fun e w'=>e = .returned (.bool (!zKc x))/\Ext w w':=by
 have H:=zh h;obtain⟨rfl,h1⟩:=h.openHealth;clear h;go_enter Tryz.func84,Tryz.ntmps84;go_wp2_with (go_at_call 85;refine(zIo _ x _ (H.out.ext ((zr w).alloc _))).mono ?_;rintro e w' ⟨rfl,he⟩)
 go_ret;exact⟨rfl,((zr w).alloc _).tr he⟩
theorem zCx(v:Value)(x:Watch)(w:World)(h:Rv w v x) :
  Calls Tryz.prog 51 #[v] w fun e w'=>e = .returned (.bool (zG3 x))/\Ext w w':=by
 obtain⟨a0,c0,a1,c1,a2,c2,a3,c3,a4,c4,a5,c5,a7,c7,rfl,r6,h0,l0,h1,l1,h2,l2,h3,l3,h4,l4,h5,l5,h7,l7⟩:=h.openWatch;clear h;have HX:=zh (fun(w1:World) (hw1:Ext w w1)=>zOj 84 #[] (fun x => !zKc x) _ x.States w1 (h7.out.ext hw1) (zCv Tryz.func84 (by kernel_rfl) (by kernel_rfl)) (fun w2 v y _ _ hv=>zHu v y w2 hv))
 go_enter Tryz.func51,Tryz.ntmps51;go_upto_region 1 with (fail)
 refine zA1 (fun W=>Ext w W/\Bk W w.heap.size [.slice a0 x.Box.Plan.Parts.length c0,.slice a1 x.Box.Plan.Channels.length c1,.slice a2 x.Box.Plan.Slots.length c2,.slice a3 x.Box.Programs.length c3,.slice a4 x.Box.Cores.length c4,.slice a5 x.Box.Holds.length c5,.int .i64 x.Box.Tick,.slice a7 x.States.length c7] 42) ⟨(zr _).alloc _,Bk.new _ _ _⟩ ?_
 rintro W ⟨e1,kA⟩;have E:=zh e1;have KA:=zh kA;obtain⟨d0,d1,d2,d3,d4,d5,d6,d7⟩:=Bk.k8 kA;clear e1 kA;cases g:zEh x.Box
 ·have hm:Hid (zG3 x=false):=zh (by unfold zG3;rw[g];rfl)
  go_wp2_with (go_at_call 29;refine(zAs _ x.Box _ (Rv.mkMachine (h0.out.ext E.out) (h1.out.ext E.out) (h2.out.ext E.out) (h3.out.ext E.out) (h4.out.ext E.out) (h5.out.ext E.out) r6)).mono ?_;rintro e w1 ⟨rfl,he⟩;rw[g];have E1:=zh (E.out.tr he);have KAx:=KA.out.ext he;obtain⟨x0,x1,x2,x3,x4,x5,x6,x7⟩:=Bk.k8 KAx;clear he KAx)
  go_ret;exact⟨zA2 hm.out.symm,E1.out⟩
 by_cases hn:x.States.length=x.Box.Cores.length
 ·have hm:Hid (zG3 x=x.States.all zKc):=zh (by unfold zG3;rw[g,decide_eq_true hn];rfl)
  have hm2:=zh ((zBt zKc x.States).trans hm.out.symm);have hb:((x.States.length:Int) == (x.Box.Cores.length:Int))=true:=beq_iff_eq.2 (by omega)
  clear hn
  go_wp2_with (first
   | (go_at_call 29;refine(zAs _ x.Box _ (Rv.mkMachine (h0.out.ext E.out) (h1.out.ext E.out) (h2.out.ext E.out) (h3.out.ext E.out) (h4.out.ext E.out) (h5.out.ext E.out) r6)).mono ?_;rintro e w1 ⟨rfl,he⟩;rw[g];have E1:=zh (E.out.tr he);have KAx:=KA.out.ext he;obtain⟨x0,x1,x2,x3,x4,x5,x6,x7⟩:=Bk.k8 KAx;clear he KAx)
   | (go_at_call 83;refine(HX.out _ E1.out).mono ?_;rintro e w2 ⟨rfl,he⟩;have E2:=zh (E1.out.tr he);clear he))
  go_ret;exact⟨zA2 hm2.out,E2.out⟩
 ·have hm:Hid (zG3 x=false):=zh (by unfold zG3;rw[g,decide_eq_false hn];rfl)
  have hb:((x.States.length:Int) == (x.Box.Cores.length:Int))=false:=beq_eq_false_iff_ne.2 (by omega)
  clear hn;go_wp2_with (go_at_call 29;refine(zAs _ x.Box _ (Rv.mkMachine (h0.out.ext E.out) (h1.out.ext E.out) (h2.out.ext E.out) (h3.out.ext E.out) (h4.out.ext E.out) (h5.out.ext E.out) r6)).mono ?_;rintro e w1 ⟨rfl,he⟩;rw[g];have E1:=zh (E.out.tr he);have KAx:=KA.out.ext he;obtain⟨x0,x1,x2,x3,x4,x5,x6,x7⟩:=Bk.k8 KAx;clear he KAx)
  go_ret;exact⟨zA2 hm.out.symm,E1.out⟩
theorem zI0(v:Value)(x:Watch)(w:World)(h:Rv w v x)(hn:GT.tot x.Box<=1048576)(hs:x.States.length<=100000000) :
  Calls Tryz.prog 54 #[v] w fun e w' => ∃ v',e = .returned v'/\Ov w.heap.size w' v' x/\Ext w w':=by
 obtain⟨a0,c0,a1,c1,a2,c2,a3,c3,a4,c4,a5,c5,a7,c7,rfl,r6,h0,l0,h1,l1,h2,l2,h3,l3,h4,l4,h5,l5,h7,l7⟩:=h.openWatch;clear h;go_enter Tryz.func54,Tryz.ntmps54;go_upto_region 1 with (fail)
 refine zA1 (fun W=>Ext w W/\Bk W w.heap.size [.slice a0 x.Box.Plan.Parts.length c0,.slice a1 x.Box.Plan.Channels.length c1,.slice a2 x.Box.Plan.Slots.length c2,.slice a3 x.Box.Programs.length c3,.slice a4 x.Box.Cores.length c4,.slice a5 x.Box.Holds.length c5,.int .i64 x.Box.Tick,.slice a7 x.States.length c7] 42/\Bk W (w.heap.size+1) [.slice none 0 0,.slice none 0 0,.slice none 0 0,.slice none 0 0,.slice none 0 0,.slice none 0 0,.int .i64 0,.slice none 0 0] 42) ⟨((zr _).alloc _).alloc _,(Bk.new _ _ _).ext ((zr _).alloc _),Bk.new1 _ _ _ _⟩ ?_
 rintro W ⟨e1,kA,kB⟩;have E:=zh e1;have KA:=zh kA;have KB:=zh kB;obtain⟨d0,d1,d2,d3,d4,d5,d6,d7⟩:=Bk.k8 kA;have ltA:=kA.lt;have ltB:=kB.lt;clear e1 kA kB
 go_region_held3 (fun u=>u.cell? ⟨w.heap.size,0,none⟩=some (.slice a0 x.Box.Plan.Parts.length c0)/\u.cell? ⟨w.heap.size,1,none⟩=some (.slice a1 x.Box.Plan.Channels.length c1)/\u.cell? ⟨w.heap.size,2,none⟩=some (.slice a2 x.Box.Plan.Slots.length c2)/\u.cell? ⟨w.heap.size,3,none⟩=some (.slice a3 x.Box.Programs.length c3)/\u.cell? ⟨w.heap.size,4,none⟩=some (.slice a4 x.Box.Cores.length c4)/\u.cell? ⟨w.heap.size,5,none⟩=some (.slice a5 x.Box.Holds.length c5)/\u.cell? ⟨w.heap.size,6,none⟩=some (.int .i64 x.Box.Tick)/\u.cell? ⟨w.heap.size,7,none⟩=some (.slice a7 x.States.length c7))
  (first
   | go_keep
   | exact⟨(zA0 X1.out ltA).trans d0,(zA0 X1.out ltA).trans d1,(zA0 X1.out ltA).trans d2,(zA0 X1.out ltA).trans d3,(zA0 X1.out ltA).trans d4,(zA0 X1.out ltA).trans d5,(zA0 X1.out ltA).trans d6,(zA0 X1.out ltA).trans d7⟩
   | exact⟨(zA0 X2.out ltA).trans d0,(zA0 X2.out ltA).trans d1,(zA0 X2.out ltA).trans d2,(zA0 X2.out ltA).trans d3,(zA0 X2.out ltA).trans d4,(zA0 X2.out ltA).trans d5,(zA0 X2.out ltA).trans d6,(zA0 X2.out ltA).trans d7⟩
   | exact⟨((KA.out.ext X2.out).puts_ne (b:=w.heap.size) (c:=w.heap.size+1) (o:=0) (ds:=[.slice t0 x.Box.Plan.Parts.length u0,.slice t1 x.Box.Plan.Channels.length u1,.slice t2 x.Box.Plan.Slots.length u2,.slice t3 x.Box.Programs.length u3,.slice t4 x.Box.Cores.length u4,.slice t5 x.Box.Holds.length u5,.int .i64 x.Box.Tick,.slice t7 x.States.length u7]) (by omega)).cell (j:=0) rfl,((KA.out.ext X2.out).puts_ne (b:=w.heap.size) (c:=w.heap.size+1) (o:=0) (ds:=[.slice t0 x.Box.Plan.Parts.length u0,.slice t1 x.Box.Plan.Channels.length u1,.slice t2 x.Box.Plan.Slots.length u2,.slice t3 x.Box.Programs.length u3,.slice t4 x.Box.Cores.length u4,.slice t5 x.Box.Holds.length u5,.int .i64 x.Box.Tick,.slice t7 x.States.length u7]) (by omega)).cell (j:=1) rfl,((KA.out.ext X2.out).puts_ne (b:=w.heap.size) (c:=w.heap.size+1) (o:=0) (ds:=[.slice t0 x.Box.Plan.Parts.length u0,.slice t1 x.Box.Plan.Channels.length u1,.slice t2 x.Box.Plan.Slots.length u2,.slice t3 x.Box.Programs.length u3,.slice t4 x.Box.Cores.length u4,.slice t5 x.Box.Holds.length u5,.int .i64 x.Box.Tick,.slice t7 x.States.length u7]) (by omega)).cell (j:=2) rfl,((KA.out.ext X2.out).puts_ne (b:=w.heap.size) (c:=w.heap.size+1) (o:=0) (ds:=[.slice t0 x.Box.Plan.Parts.length u0,.slice t1 x.Box.Plan.Channels.length u1,.slice t2 x.Box.Plan.Slots.length u2,.slice t3 x.Box.Programs.length u3,.slice t4 x.Box.Cores.length u4,.slice t5 x.Box.Holds.length u5,.int .i64 x.Box.Tick,.slice t7 x.States.length u7]) (by omega)).cell (j:=3) rfl,((KA.out.ext X2.out).puts_ne (b:=w.heap.size) (c:=w.heap.size+1) (o:=0) (ds:=[.slice t0 x.Box.Plan.Parts.length u0,.slice t1 x.Box.Plan.Channels.length u1,.slice t2 x.Box.Plan.Slots.length u2,.slice t3 x.Box.Programs.length u3,.slice t4 x.Box.Cores.length u4,.slice t5 x.Box.Holds.length u5,.int .i64 x.Box.Tick,.slice t7 x.States.length u7]) (by omega)).cell (j:=4) rfl,((KA.out.ext X2.out).puts_ne (b:=w.heap.size) (c:=w.heap.size+1) (o:=0) (ds:=[.slice t0 x.Box.Plan.Parts.length u0,.slice t1 x.Box.Plan.Channels.length u1,.slice t2 x.Box.Plan.Slots.length u2,.slice t3 x.Box.Programs.length u3,.slice t4 x.Box.Cores.length u4,.slice t5 x.Box.Holds.length u5,.int .i64 x.Box.Tick,.slice t7 x.States.length u7]) (by omega)).cell (j:=5) rfl,((KA.out.ext X2.out).puts_ne (b:=w.heap.size) (c:=w.heap.size+1) (o:=0) (ds:=[.slice t0 x.Box.Plan.Parts.length u0,.slice t1 x.Box.Plan.Channels.length u1,.slice t2 x.Box.Plan.Slots.length u2,.slice t3 x.Box.Programs.length u3,.slice t4 x.Box.Cores.length u4,.slice t5 x.Box.Holds.length u5,.int .i64 x.Box.Tick,.slice t7 x.States.length u7]) (by omega)).cell (j:=6) rfl,((KA.out.ext X2.out).puts_ne (b:=w.heap.size) (c:=w.heap.size+1) (o:=0) (ds:=[.slice t0 x.Box.Plan.Parts.length u0,.slice t1 x.Box.Plan.Channels.length u1,.slice t2 x.Box.Plan.Slots.length u2,.slice t3 x.Box.Programs.length u3,.slice t4 x.Box.Cores.length u4,.slice t5 x.Box.Holds.length u5,.int .i64 x.Box.Tick,.slice t7 x.States.length u7]) (by omega)).cell (j:=7) rfl⟩)
  (first
   | (go_at_call 30;refine(zE2 _ x.Box _ (Rv.mkMachine (h0.out.ext (E.out.tr (zr _).drew)) (h1.out.ext (E.out.tr (zr _).drew)) (h2.out.ext (E.out.tr (zr _).drew)) (h3.out.ext (E.out.tr (zr _).drew)) (h4.out.ext (E.out.tr (zr _).drew)) (h5.out.ext (E.out.tr (zr _).drew)) r6) hn).mono ?_;rintro e w1 ⟨v1,rfl,hov,he⟩;obtain⟨t0,u0,t1,u1,t2,u2,t3,u3,t4,u4,t5,u5,F1,rfl,en1,ow1⟩:=hov.openE;have X1:Hid (Ext W w1):=zh ((zr _).drew.tr he);have EN1:=zh en1;have OW1:=zh ow1;clear hov en1 ow1 he)
   | (go_at_call 88;have _t:=X1;refine(zHw _ _ _ _ ((h7.out.ext (E.out.tr X1.out)).choose_spec) hs).mono ?_;rintro e w2 ⟨v2,F',rfl,ho',hF',_,ex1⟩;obtain⟨F2,s2,ow2⟩:=ho'.flat;obtain⟨t7,u7,rfl,_⟩:=id s2;have X2:Hid (Ext W w2):=zh (X1.out.tr ex1);have X12:=zh ex1;have S2:=zh s2;have OW2:=zh ow2;have KBx:=KB.out.ext X2.out;obtain⟨z0,z1,z2,z3,z4,z5,z6,z7⟩:=Bk.k8 KBx;have zf:=KBx.fz;have ltZ:=KBx.lt;clear ho' s2 ow2 ex1 hF' KBx))
 have KB2:=KB.out.ext X2.out;obtain⟨z0,z1,z2,z3,z4,z5,z6,z7⟩:=Bk.k8 KB2;have zf:=KB2.fz;have EN:=zh (zNs (GT.ext EN1.out X12.out) S2.out);have hs0:=E.out.sz;have hd:W.drew.heap.size=W.heap.size:=rfl;have OX:Own w.heap.size w2 (F1++F2):=((OW1.out.ext X12.out).mono (by omega)).join (OW2.out.mono (by have:=X1.out.sz;omega)) (fun k h1 h2=>by have:=OW1.out.lt h1;have:=(OW2.out.2 k h2).1;omega)
 have hZ:w.heap.size+1 ∉ F1++F2:=fun hm=>by
  rcases List.mem_append.1 hm with hm|hm
  ·have:=(OW1.out.2 _ hm).1;omega
  ·have:=(OW2.out.2 _ hm).1;have:=X1.out.sz;omega
 go_wp2_with fail
 refine bodyPost_ret (v:=.agg #[.slice t0 x.Box.Plan.Parts.length u0,.slice t1 x.Box.Plan.Channels.length u1,.slice t2 x.Box.Plan.Slots.length u2,.slice t3 x.Box.Programs.length u3,.slice t4 x.Box.Cores.length u4,.slice t5 x.Box.Holds.length u5,.int .i64 x.Box.Tick,.slice t7 x.States.length u7]) (by simp[results,Tryz.results54,go_sem,z0,z1,z2,z3,z4,z5,z6,z7]) rfl ⟨_,rfl,⟨_,_,rfl,zC3 (c:=w.heap.size+1) (o:=0) (ds:=[.slice t0 x.Box.Plan.Parts.length u0,.slice t1 x.Box.Plan.Channels.length u1,.slice t2 x.Box.Plan.Slots.length u2,.slice t3 x.Box.Programs.length u3,.slice t4 x.Box.Cores.length u4,.slice t5 x.Box.Holds.length u5,.int .i64 x.Box.Tick,.slice t7 x.States.length u7]) EN.out hZ,OX.puts (b:=w.heap.size+1) (o:=0) [.slice t0 x.Box.Plan.Parts.length u0,.slice t1 x.Box.Plan.Channels.length u1,.slice t2 x.Box.Plan.Slots.length u2,.slice t3 x.Box.Programs.length u3,.slice t4 x.Box.Cores.length u4,.slice t5 x.Box.Holds.length u5,.int .i64 x.Box.Tick,.slice t7 x.States.length u7]⟩,?_⟩
 exact Ext.puts (b:=w.heap.size+1) (o:=0) (by omega) [.slice t0 x.Box.Plan.Parts.length u0,.slice t1 x.Box.Plan.Channels.length u1,.slice t2 x.Box.Plan.Slots.length u2,.slice t3 x.Box.Programs.length u3,.slice t4 x.Box.Cores.length u4,.slice t5 x.Box.Holds.length u5,.int .i64 x.Box.Tick,.slice t7 x.States.length u7] (E.out.tr X2.out)
set_option maxHeartbeats 1600000
def zH4(m:Machine)(n:Nat):Machine:={ m with Cores:=m.Cores.set n (zDj (m.Cores.getD n zKb)) }
def zJk(m:Machine)(n:Nat):Machine:=zCm m n (zAo (M.pc m n)) m.Plan.Channels.length
def zCe(m:Machine)(n:Nat)(a:Int):Machine:=if a=1 then zJk m n else if a=2 then zH4 m n else m
def zJq(x:Watch)(t:List Int)(n:Nat)(f:Int):Watch × Int :=
 (⟨zCe x.Box n (zCg (x.States.getD n ⟨false,0⟩) t f).2,x.States.set n (zCg (x.States.getD n ⟨false,0⟩) t f).1⟩,(zCg (x.States.getD n ⟨false,0⟩) t f).2)
theorem zLf{m:Machine}(h:zC6 m)(n:Nat):zC6 (zH4 m n):=by
 refine⟨h.pg,by simpa [zH4] using h.nc,h.nh,fun k c p q hc hp hq=>?_,h.hv,h.tick⟩
 simp only[zH4,List.getElem?_set] at hc
 split at hc
 ·rename_i e
  subst e
  split at hc
  ·rename_i hn
   obtain rfl:=Option.some.inj hc;have e:m.Cores.getD n zKb=m.Cores[n]:=by simp[List.getD_eq_getElem?_getD,hn]
   rw[e]
   have:=h.fits n _ p q (List.getElem?_eq_getElem hn) hp hq
   exact this
  ·cases hc
 ·exact h.fits k c p q hc hp hq
theorem M.rs1_MV{m:Machine}(h:zC6 m){n:Nat}(hn:n < m.Cores.length):zC6 (zJk m n):=by
 have hnp:n < m.Plan.Parts.length:=by have:=h.nc;omega
 have hq:m.Plan.Parts[n]? = some m.Plan.Parts[n]:=List.getElem?_eq_getElem hnp;have e:M.pc m n=(m.Plan.Parts[n]).Cells:=by simp only[M.pc,List.getD_eq_getElem?_getD,hq,Option.getD_some]
 unfold zJk;rw[e];exact zNn h hq _
theorem zM0{m:Machine}(h:zC6 m){n:Nat}(hn:n < m.Cores.length)(a:Int):zC6 (zCe m n a):=by
 unfold zCe
 split
 ·exact M.rs1_MV h hn
 ·split
  ·exact zLf h n
  ·exact h
theorem zD5(m:Machine)(n:Nat)(a:Int):(zCe m n a).Cores.length=m.Cores.length/\(zCe m n a).Plan=m.Plan/\(zCe m n a).Tick=m.Tick/\(zCe m n a).Holds.length=m.Holds.length:=by
 unfold zCe
 split
 ·simp[zJk,zCm,zDn]
 ·split
  ·simp[zH4]
  ·exact⟨rfl,rfl,rfl,rfl⟩
theorem zJc{x:Watch}(h:zO2 x){n:Nat}(hn:n < x.States.length)(t:List Int)(f:Int):zO2 (zJq x t n f).1:=by
 have hs:=h.ns;have hnb:n < x.Box.Cores.length:=by omega
 refine⟨zM0 h.box hnb _,?_,fun y hy=>?_⟩
 ·show(x.States.set n _).length=(zCe x.Box n _).Cores.length
  rw[List.length_set,(zD5 _ _ _).1];exact hs
 ·rcases List.mem_or_eq_of_mem_set hy with hy|rfl
  ·exact h.hh y hy
  ·refine zNg (h.hh _ ?_);simp[List.getD_eq_getElem?_getD,hn]
structure zFt (L b:Nat) (F:List Nat) (w W:World) (x:Watch) (F':List Nat):Prop where
 om:Om L W b 0 x F'
 ch:Chg b 0 8 F w W
 sub:∀ k∈F',k∈F\/w.heap.size<=k
 cl:∀ j,j≠6->W.cell? ⟨b,j,none⟩=w.cell? ⟨b,j,none⟩
theorem zFt.refl{L b:Nat}{F:List Nat}{w:World}{x:Watch}(h:Om L w b 0 x F):zFt L b F w w x F:=⟨h,Chg.refl _ _ _ _ _,fun _ h => .inl h,fun _ _=>rfl⟩
theorem zFt.lt{L b:Nat}{F F':List Nat}{w W:World}{x:Watch}(h:zFt L b F w W x F'):b < W.heap.size:=h.om.bk.1
theorem zFt.ext{L b:Nat}{F F':List Nat}{w W W':World}{x:Watch}(h:zFt L b F w W x F')(he:Ext W W'):zFt L b F w W' x F' :=
 ⟨h.om.ext he,h.ch.tr (Chg.ofExt he h.lt),h.sub,fun j hj=>(zA0 he h.lt).trans (h.cl j hj)⟩
theorem zFt.trans{L b:Nat}{F F1 F2:List Nat}{w W W':World}{x x':Watch}(h:zFt L b F w W x F1)(k:zFt L b F1 W W' x' F2):zFt L b F w W' x' F2 :=
 ⟨k.om,h.ch.trF k.ch h.sub,fun y hy=>(k.sub y hy).elim (fun h1=>h.sub y h1) (fun h1 => .inr (Nat.le_trans h.ch.sz h1)),fun j hj=>(k.cl j hj).trans (h.cl j hj)⟩
theorem zFt.box{L b:Nat}{F F':List Nat}{w W:World}{x:Watch}(h:zFt L b F w W x F') :
  ∃ Fm,Om L W b 0 x.Box Fm/\(∀ k∈Fm,k∈F'/\k≠b)/\∀ W' m' Fm',zCs L b Fm W W' m' Fm'->∃ F2,zFt L b F w W' { x with Box:=m' } F2:=by
 obtain⟨_,_,_,ho⟩:=id h.om;obtain⟨Fm,lb⟩:=h.om.lWatchBox;refine⟨Fm,lb.om ho,Lens.fsub lb ho,fun W' m' Fm' tb=>?_⟩
 obtain⟨F2,h1,h2,h3⟩:=lb.back L W' m' Fm' ho tb.ch tb.om tb.sub;refine⟨F2,h1,h.ch.trF h3 h.sub,fun k hk=>?_,fun j hj=>(tb.cl j hj).trans (h.cl j hj)⟩
 rcases h2 k hk with h4|h4
 ·exact h.sub k h4
 ·rcases tb.sub k h4 with h5|h5
  ·exact h.sub k (Lens.fsub lb ho k h5).1
  ·exact .inr (Nat.le_trans h.ch.sz h5)
theorem zFt.st{L b:Nat}{F F':List Nat}{w W:World}{x:Watch}(h:zFt L b F w W x F'){g s n c N:Nat}(hv:w.cell? ⟨b,7,none⟩=some (.slice (some ⟨g,s,none⟩) n c))(hN:N < x.States.length) :
  ∃ k Fy,x.States[N]? = some k/\Om L W g (s+N*2) k Fy/\(∀ y∈g::Fy,y∈F'/\y≠b) /\
   ∀ W' k' Fy',Chg g (s+N*2) 2 Fy W W'->Om L W' g (s+N*2) k' Fy'->(∀ y∈Fy',y∈Fy\/W.heap.size<=y)->∃ F2,zFt L b F w W' { x with States:=x.States.set N k' } F2:=by
 obtain⟨_,_,_,ho⟩:=id h.om;obtain⟨Fc,lc⟩:=h.om.lWatchStates;obtain⟨g',s',Fy,k,e,hx,hsub,li⟩:=(lc.om ho).idxS (by rw[show 0+7=7 from rfl];exact(h.cl 7 (by decide)).trans hv) N hN
 cases e;have LC:=lc.comp li;have hs:∀ y∈g::Fy,y∈F'/\y≠b:=fun y hy=>Lens.fsub lc ho y (hsub y hy)
 refine⟨k,Fy,hx.out,LC.om ho,hs,fun W' k' Fy' hc hk' hf=>?_⟩
 obtain⟨F2,h1,h2,h3⟩:=LC.back L W' k' Fy' ho hc hk' hf;have hb:∀ j,W'.cell? ⟨b,j,none⟩=W.cell? ⟨b,j,none⟩:=fun j=>World.cell?_of_block (hc.keep h.lt (fun e=>(hs g (List.mem_cons_self ..)).2 e.symm) (fun hm=>(hs b (List.mem_cons_of_mem _ hm)).2 rfl))
 refine⟨F2,h1,h.ch.trF h3 h.sub,fun y hy=>?_,fun j hj=>(hb j).trans (h.cl j hj)⟩
 rcases h2 y hy with h4|h4
 ·exact h.sub y h4
 ·rcases hf y h4 with h5|h5
  ·exact h.sub y (hs y (List.mem_cons_of_mem _ h5)).1
  ·exact .inr (Nat.le_trans h.ch.sz h5)
theorem Om.openHe{L:Nat}{w:World}{b o:Nat}{x:Health}{F:List Nat}(h:Om L w b o x F):F = []/\w.cell? ⟨b,o,none⟩=some (.bool x.Frozen)/\w.cell? ⟨b,o+1,none⟩=some (.int .i64 x.Restarts)/\rng x.Restarts:=by
 obtain⟨cs,⟨rfl,r,rfl⟩,hat,_⟩:=h;exact⟨rfl,by simpa using hat 0 _ rfl,hat 1 _ rfl,r⟩
theorem zFt.putSt{L b:Nat}{F F':List Nat}{w W:World}{x:Watch}(h:zFt L b F w W x F'){g s n c N:Nat}(hv:w.cell? ⟨b,7,none⟩=some (.slice (some ⟨g,s,none⟩) n c))(hN:N < x.States.length)(k':Health)(hr:rng k'.Restarts) :
  ∃ F2,zFt L b F w ((W.setCell ⟨g,s+N*2,none⟩ (.bool k'.Frozen)).setCell ⟨g,s+N*2+1,none⟩ (.int .i64 k'.Restarts)) { x with States:=x.States.set N k' } F2:=by
 obtain⟨k,Fy,_,om,hs,hback⟩:=h.st hv hN;obtain⟨rfl,c0,c1,_⟩:=om.openHe;obtain⟨_,hen,hat,hown⟩:=id om;refine hback _ k' [] (((Chg.refl _ _ _ _ _).set ⟨Nat.le_refl _,by omega⟩ _).set ⟨by omega,by omega⟩ _) ⟨[.bool k'.Frozen,.int .i64 k'.Restarts],⟨rfl,hr,rfl⟩,?_,(hown.set _ _).set _ _⟩ (fun x hx=>by cases hx)
 intro j u hj
 match j,hj with
 | 0,hj=>cases hj;exact(zA3 (by omega)).trans (zAq c0)
 | 1,hj=>cases hj;exact zAq ((zA3 (by omega)).trans c1)
theorem zFt.stop{L b:Nat}{F F':List Nat}{w W:World}{x:Watch}(h:zFt L b F w W x F'){g s n c N:Nat}(hv:w.cell? ⟨b,4,none⟩=some (.slice (some ⟨g,s,none⟩) n c))(hN:N < x.Box.Cores.length) :
  ∃ F2,zFt L b F w (W.setCell ⟨g,s+N*3+2,none⟩ (.bool true)) { x with Box:=zH4 x.Box N } F2:=by
 obtain⟨Fm,om,_,hback⟩:=h.box;obtain⟨k,Fy,hk,omc,hs,hb2⟩:=(zCs.refl om).core ((h.cl 4 (by decide)).trans hv) hN
 obtain⟨_,_,_,hoc⟩:=id omc;obtain⟨Fs,ls⟩:=omc.lCoreStopped;obtain⟨F3,h1,h2,h3⟩:=ls.putB hoc true;have e:x.Box.Cores.getD N zKb=k:=by rw[List.getD_eq_getElem?_getD,hk];rfl
 obtain⟨F4,tb⟩:=hb2 _ _ _ h3 h1 (fun y hy => .inl (h2 y hy))
 unfold zH4;rw[e];exact hback _ _ _ tb
theorem Om.wcells{L b:Nat}{F:List Nat}{w:World}{x:Watch}(h:Om L w b 0 x F){N:Nat}(hN:N < x.States.length)(hC:N < x.Box.Cores.length) :
  ∃ g7 s7 u7 g4 s4 u4,w.cell? ⟨b,7,none⟩=some (.slice (some ⟨g7,s7,none⟩) x.States.length u7)/\w.cell? ⟨b,4,none⟩=some (.slice (some ⟨g4,s4,none⟩) x.Box.Cores.length u4):=by
 obtain⟨_,_,_,ho⟩:=id h;obtain⟨F7,l7⟩:=h.lWatchStates;obtain⟨a7,u7,e7,_⟩:=(l7.om ho).cell;obtain⟨g7,s7,_,_,e,_⟩:=(l7.om ho).idxS e7 N hN;subst e;obtain⟨Fm,lb⟩:=h.lWatchBox;obtain⟨_,_,_,ho2⟩:=id (lb.om ho);obtain⟨F4,l4⟩:=(lb.om ho).lMachineCores;obtain⟨a4,u4,e4,_⟩:=(l4.om ho2).cell;obtain⟨g4,s4,_,_,e,_⟩:=(l4.om ho2).idxS e4 N hC;subst e;exact⟨g7,s7,u7,g4,s4,u4,e7,e4⟩
theorem zOy{h:Health}{t:List Int}{f:Int}(hv:zKc h=true):rng (zCg h t f).1.Restarts:=by
 have:=(zEw.1 (zNg (t:=t) (f:=f) hv)).1
 exact⟨by omega,by omega⟩
set_option maxHeartbeats 2000000
theorem cell_ne2{w:World}{A B o i j:Nat}{u0 u1 x:Value}(h:w.cell? ⟨B,o,none⟩=some x)(hne:B≠A):((w.setCell ⟨A,i,none⟩ u0).setCell ⟨A,j,none⟩ u1).cell? ⟨B,o,none⟩=some x :=
 (World.cell?_of_block (zA4 hne)).trans ((World.cell?_of_block (zA4 hne)).trans h)
theorem zJr{w:World}{A B o i j:Nat}{u0 u1 x:Value}(h:w.cell? ⟨B,o,none⟩=some x)(hne:B≠A):(((w.setCell ⟨A,i,none⟩ u0).setCell ⟨A,j,none⟩ u1).drew).cell? ⟨B,o,none⟩=some x :=
 (World.cell?_of_block (w:=(w.setCell ⟨A,i,none⟩ u0).setCell ⟨A,j,none⟩ u1) rfl).trans (cell_ne2 h hne)
theorem zOn(L b n:Nat)(x:Watch)(F:List Nat)(vt:Value)(t:List Int)(f:Int)(w:World)(h:Om L w b 0 x F)(ht:Rs w vt t)(hL:L<=w.heap.size)(hW:zO2 x)(hT:zJ8 t=true)(hn:n < x.States.length)(hf:0<=f/\f<=3) :
  Calls Tryz.prog 90 #[.pointer (some ⟨b,0,none⟩),vt,.int .i64 n,.int .i64 f] w fun e w'=>e = .returned (.int .i64 (zJq x t n f).2)/\∃ F',zFt L b F w w' (zJq x t n f).1 F':=by
 have hns:=hW.ns;have hC:n < x.Box.Cores.length:=by omega
 obtain⟨g7,s7,u7,g4,s4,u4,y7,y4⟩:=h.wcells hn hC;have WB0:=zh (zFt.refl h);have y7':=y7;obtain⟨k,Fy,hk,omk,hsk,_⟩:=(zFt.refl h).st y7 hn;obtain⟨_,c0,c1,hrk⟩:=omk.openHe;have gf7:=omk.bk.2.2.2;have ltg7:=omk.bk.1;have hb7:b≠g7:=fun e=>(hsk g7 (List.mem_cons_self ..)).2 e.symm
 have hlb:=h.bk.1;have hLb:=h.bk.2.1;have hhk:zKc k=true:=hW.hh k (List.mem_of_getElem? hk);have hgk:x.States.getD n ⟨false,0⟩=k:=by rw[List.getD_eq_getElem?_getD,hk];rfl
 have hRv:Hid (Rv w (.agg #[.bool k.Frozen,.int .i64 k.Restarts]) k):=zh ⟨[.bool k.Frozen,.int .i64 k.Restarts],[],rfl,rfl,hrk,rfl⟩;have HT:=zh ht;obtain⟨ta,tc,rfl,htl⟩:=ht.form;have hq:x.Box.Plan.Parts[n]? = some (x.Box.Plan.Parts[n]'(by have:=hW.box.nc;omega)):=List.getElem?_eq_getElem _
 generalize x.Box.Plan.Parts[n]'(by have:=hW.box.nc;omega)=q at hq
 have HQ:=zh hq;have hpc:=zh (show M.pc x.Box n=q.Cells by simp only[M.pc,List.getD_eq_getElem?_getD,hq,Option.getD_some])
 have hp5:=zAh hW.box.pg.set;have hc8:=zAv hW.box.pg.set;have hhl:x.Box.Plan.Channels.length<=x.Box.Holds.length:=by have:=hW.box.nh;omega
 have hn5:n<=5:=by have:=hW.box.nc;omega
 have hact:=zOx (h:=k) (t:=t) (f:=f);have hsr:=zOy (t:=t) (f:=f) hhk;have hwf:zJq x t n f=(⟨zCe x.Box n (zCg k t f).2,x.States.set n (zCg k t f).1⟩,(zCg k t f).2):=by unfold zJq;rw[hgk]
 have HA:=fun(v:Value) (w1:World) (hv:Rv w1 v k) (e:Ext w w1)=>zOm v _ k t f w1 hv (HT.out.ext e) hhk hT hf
 obtain⟨r,hr⟩:∃ r,zCg k t f=r:=⟨_,rfl⟩;rw[hr] at hact hsr hwf HA;obtain⟨s',act⟩:=r;simp only at hact hsr hwf HA;replace HA:=zh HA;have HWF:=zh hwf;clear h ht hW hT hf omk hsk hk hgk hq hr hwf htl hns hhk;go_enter Tryz.func90,Tryz.ntmps90;go_upto_region 2 with (go_at_call 131;refine(HA.out _ _ hRv.out (zr _)).mono ?_;rintro e w1 ⟨rfl,he⟩;have X1:=zh he;clear he)
 refine zA1 (fun W=>Ext w W/\w1.heap.size < W.heap.size/\Bk W w1.heap.size [.bool s'.Frozen,.int .i64 s'.Restarts] 122) ⟨X1.out.tr ((zr _).alloc _),by simp,Bk.new _ _ _⟩ ?_
 rintro W2 ⟨E2,_,kQ⟩;have E:=zh E2;obtain⟨q0,q1⟩:=Bk.k2 kQ;have ltQ:=kQ.lt;have z7:=(zA0 E2 hlb).trans y7;have hQ7:w1.heap.size≠g7:=by have:=X1.out.sz;omega
 have ltb2:=zl hlb E2.sz;have lt72:=zl ltg7 E2.sz;have gf72:∀ j,W2.frozen? ⟨g7,j,none⟩=false:=fun j=>(World.frozen?_of_block (E2.block g7 ltg7)).trans (gf7 j)
 have c02:=(zA0 E2 ltg7).trans c0;have c12:=(zA0 E2 ltg7).trans c1;have hnn:n < x.States.length:=hn;replace y7':=zh y7';clear E2 kQ y7 c0 c1 gf7 X1 HA;have zz1:(((W2.setCell ⟨g7,s7+n*2,none⟩ (.bool s'.Frozen)).setCell ⟨g7,s7+n*2+1,none⟩ (.int .i64 s'.Restarts)).drew).cell? ⟨b,7,none⟩=some (.slice (some ⟨g7,s7,none⟩) x.States.length u7):=zJr z7 hb7;have zz2:(((W2.setCell ⟨g7,s7+n*2,none⟩ (.bool s'.Frozen)).setCell ⟨g7,s7+n*2+1,none⟩ (.int .i64 s'.Restarts)).drew).cell? ⟨w1.heap.size,0,none⟩=some (.bool s'.Frozen):=zJr q0 hQ7;have zz3:(((W2.setCell ⟨g7,s7+n*2,none⟩ (.bool s'.Frozen)).setCell ⟨g7,s7+n*2+1,none⟩ (.int .i64 s'.Restarts)).drew).cell? ⟨w1.heap.size,1,none⟩=some (.int .i64 s'.Restarts):=zJr q1 hQ7
 go_region_held3 (fun u=>u.cell? ⟨b,7,none⟩=some (.slice (some ⟨g7,s7,none⟩) x.States.length u7)/\u.cell? ⟨w1.heap.size,0,none⟩=some (.bool s'.Frozen)/\u.cell? ⟨w1.heap.size,1,none⟩=some (.int .i64 s'.Restarts))
  (go_keep)
  (fail)
 clear zz1 zz2 zz3;go_upto_region 3 with (fail)
 obtain⟨F2,wb2'⟩:=(WB0.out.ext E.out).putSt y7'.out hn s' hsr;have wb2:=wb2'.ext (zr _).drew;refine zA1 (fun W3=>zFt L b F w W3 { x with States:=x.States.set n s' } F2) wb2 ?_
 rintro W3 wb3;have WB3:=zh wb3;have z4:=(wb3.cl 4 (by decide)).trans y4
 clear wb2 wb2' wb3 z7 q0 q1 c02 c12 gf72;rcases hact with rfl|rfl|rfl
 ·go_wp2;go_ret;exact⟨zFm (by rw[HWF.out]),_,by rw[HWF.out];exact WB3.out⟩
 ·obtain⟨Fm,om,_,hback⟩:=WB3.out.box;have OM:=zh om;have HB:=zh hback;have hL3:L<=W3.heap.size:=Nat.le_trans hL WB3.out.ch.sz;clear om hback;go_wp2_with (go_at_call 132;refine(zMh L b n x.Box Fm q _ OM.out hL3 hC HQ.out hhl hc8 hn5).mono ?_;rintro e w10 ⟨F3,om10,ch10,sub10,⟨vr,rfl⟩,cl10⟩;obtain⟨F4,wb10⟩:=HB.out _ _ F3 ⟨om10,ch10,sub10,fun j _=>cl10 j⟩;have WB10:=zh wb10;clear om10 ch10 sub10 cl10 wb10)
  go_ret;exact⟨zFm (by rw[HWF.out]),_,by rw[HWF.out];show zFt L b F w _ ⟨zJk x.Box n,_⟩ _;unfold zJk;rw[hpc.out];exact WB10.out⟩
 ·obtain⟨F4,wb4⟩:=WB3.out.stop y4 hC;obtain⟨Fm,om,_,_⟩:=WB3.out.box;obtain⟨k4,Fy4,_,omc,hs4,_⟩:=(zCs.refl om).core z4 hC;obtain⟨_,_,_,_,c42,_,_⟩:=omc.openC;have gf4:=omc.bk.2.2.2;have lt4:=omc.bk.1;have WB4:=zh wb4;clear wb4 om omc hs4;go_wp2;go_ret;exact⟨zFm (by rw[HWF.out]),_,by rw[HWF.out];exact WB4.out⟩
set_option maxHeartbeats 4000000
theorem Om.openW{L:Nat}{w:World}{b:Nat}{x:Watch}{F:List Nat}(h:Om L w b 0 x F):∃ p0 q0 p1 q1 p2 q2 p3 q3 p4 q4 p5 q5 p7 q7,
  w.cell? ⟨b,0,none⟩=some (.slice p0 x.Box.Plan.Parts.length q0)/\w.cell? ⟨b,1,none⟩=some (.slice p1 x.Box.Plan.Channels.length q1)/\w.cell? ⟨b,2,none⟩=some (.slice p2 x.Box.Plan.Slots.length q2)/\w.cell? ⟨b,3,none⟩=some (.slice p3 x.Box.Programs.length q3)/\w.cell? ⟨b,4,none⟩=some (.slice p4 x.Box.Cores.length q4)/\w.cell? ⟨b,5,none⟩=some (.slice p5 x.Box.Holds.length q5)/\w.cell? ⟨b,6,none⟩=some (.int .i64 x.Box.Tick)/\w.cell? ⟨b,7,none⟩=some (.slice p7 x.States.length q7) /\
  GT.enc w [.slice p0 x.Box.Plan.Parts.length q0,.slice p1 x.Box.Plan.Channels.length q1,.slice p2 x.Box.Plan.Slots.length q2,.slice p3 x.Box.Programs.length q3,.slice p4 x.Box.Cores.length q4,.slice p5 x.Box.Holds.length q5,.int .i64 x.Box.Tick,.slice p7 x.States.length q7] x F/\Own L w F:=by
 obtain⟨cs,hen,hat,ho⟩:=h;obtain⟨v0,v1,v2,v3,v4,v5,v7,G0,G1,G2,G3,G4,G5,G7,rfl,⟨t0,u0,rfl,_⟩,⟨t1,u1,rfl,_⟩,⟨t2,u2,rfl,_⟩,⟨t3,u3,rfl,_⟩,⟨t4,u4,rfl,_⟩,⟨t5,u5,rfl,_⟩,⟨t7,u7,rfl,_⟩,_,_⟩:=id hen;exact⟨_,_,_,_,_,_,_,_,_,_,_,_,_,_,by simpa using hat 0 _ rfl,by simpa using hat 1 _ rfl,by simpa using hat 2 _ rfl,by simpa using hat 3 _ rfl,by simpa using hat 4 _ rfl,by simpa using hat 5 _ rfl,by simpa using hat 6 _ rfl,by simpa using hat 7 _ rfl,hen,(List.nodup_cons.1 ho.1).2,fun k hk=>ho.2 k (List.mem_cons_of_mem _ hk)⟩
set_option maxHeartbeats 1600000
structure M.WC (L b:Nat) (F:List Nat) (w W:World) (x:Watch) (F':List Nat):Prop where
 om:Om L W b 0 x F'
 ch:Chg b 0 8 F w W
 sub:∀ k∈F',k∈F\/w.heap.size<=k
theorem zFt.wc{L b:Nat}{F F':List Nat}{w W:World}{x:Watch}(h:zFt L b F w W x F'):M.WC L b F w W x F':=⟨h.om,h.ch,h.sub⟩
theorem M.WC.lt{L b:Nat}{F F':List Nat}{w W:World}{x:Watch}(h:M.WC L b F w W x F'):b < W.heap.size:=h.om.bk.1
theorem M.WC.bk{L b:Nat}{F F':List Nat}{w W:World}{x:Watch}(h:M.WC L b F w W x F'){k:Nat}{cs:List Value}{T:TypeId}(hk:Bk w k cs T)(hb:k≠b)(hF:k ∉ F):Bk W k cs T:=h.ch.bk hk hb hF
set_option maxHeartbeats 3000000
noncomputable def zCf(x:Watch)(t:List Int):Watch :=
 if 0<=zC0 x.Box.Plan.Slots x.Box.Tick/\(x.Box.Cores.getD (zC0 x.Box.Plan.Slots x.Box.Tick).toNat zKb).Stopped=false/\((zAk x.Box).Cores.getD (zC0 x.Box.Plan.Slots x.Box.Tick).toNat zKb).Stopped=true
 then (zJq ⟨zAk x.Box,x.States⟩ t (zC0 x.Box.Plan.Slots x.Box.Tick).toNat 1).1 else ⟨zAk x.Box,x.States⟩
theorem zH6{x:Watch}(h:zO2 x)(ht:x.Box.Tick < 100000):zO2 ⟨zAk x.Box,x.States⟩ :=
 ⟨zH5 h.box ht,by show x.States.length=(zAk x.Box).Cores.length;rw[zBf];exact h.ns,h.hh⟩
theorem Oh.cellS{L:Nat}{w:World}{v:Value}{xs:List Core}{F:List Nat}(h:Oh L w v xs F){N:Nat}(hN:N < xs.length) :
  ∃ g,v = .slice (some ⟨g,0,none⟩) xs.length xs.length/\L<=g/\g < w.heap.size/\w.cell? ⟨g,N*3+2,none⟩=some (.bool (xs.getD N zKb).Stopped):=by
 rcases h with ⟨_,rfl,_⟩ | ⟨g,rfl,hL,hf,hm,hr,hg⟩
 ·cases hN
 ·have hRs:Rs w (.slice (some ⟨g,0,none⟩) xs.length xs.length) xs:=⟨g::F,_,_,rfl,Nat.le_refl _,hm,.inr ⟨fun e=>absurd (e ▸ hN:N < ([]:List Core).length) (Nat.not_lt_zero _),g,0,F,rfl,rfl,hr⟩⟩
  obtain⟨b,o,x,wa,wc,e,hb,hx,_,_,c2,_⟩:=hRs.atCore N hN;cases e;refine⟨g,rfl,hL,hb,?_⟩;rw[List.getD_eq_getElem?_getD,hx.out]
  simpa using c2
theorem zOq(L b:Nat)(x:Watch)(F:List Nat)(vt:Value)(t:List Int)(W0 w:World)(h:Om L w b 0 x F)(ht:Rs W0 vt t)(hE:Ext W0 w)(hWL:W0.heap.size<=L)(hL:L<=w.heap.size)(hW:zO2 x)(hT:zJ8 t=true)(hlt:x.Box.Tick < 100000) :
  Calls Tryz.prog 55 #[.pointer (some ⟨b,0,none⟩),vt] w fun e w'=>(∃ v,e = .returned v)/\∃ F',zFt L b F w w' (zCf x t) F':=by
 have WB0:=zh (zFt.refl h);obtain⟨_,_,_,_,_,_,_,_,p4,q4,_,_,_,_,-,-,-,-,y4,-,-,-,hen,how⟩:=h.openW;obtain⟨v0,v1,v2,v3,v4,v5,v7,G0,G1,G2,G3,G4,G5,G7,e,-,-,-,-,s4,-,-,-,-⟩:=id hen;simp only[List.cons.injEq] at e;obtain⟨_,_,_,_,rfl,_⟩:=e;have S4:=zh s4;have hLb:=h.bk.2.1;have hlb:=h.bk.1;have HOW:=zh how;have hc5:x.Box.Cores.length<=100000000:=by have:=hW.box.nc;have:=zAh hW.box.pg.set;omega
 have hwho:=hW.box.who x.Box.Tick;have HT:=zh ht;have HE:=zh hE;have HWT:=zh (zH6 hW hlt);have HMV:=zh hW.box;have hns:=zh hW.ns;have hdef:=zh (show zCf x t=_ from rfl)
 have hHF:Hid (∀ k∈F,k < w.heap.size/\L<=k):=zh (fun k hk=>⟨HOW.out.lt hk,(HOW.out.2 k hk).1⟩)
 obtain⟨ta,tc,rfl,htl⟩:=ht.form;clear h ht hE hW hen how s4;have WX:∀ (w1:World),Ext w w1->∃ Fm,Om L w1 b 0 x.Box Fm/\(∀ k∈Fm,k < w.heap.size)/\∀ W' m' Fm',zCs L b Fm w1 W' m' Fm'->∃ F2,zFt L b F w W' { x with Box:=m' } F2:=fun w1 e=>by
  obtain⟨Fm,h1,h2,h3⟩:=(WB0.out.ext e).box;exact⟨Fm,h1,fun k hk=>(hHF.out k (h2 k hk).1).1,h3⟩
 go_enter Tryz.func55,Tryz.ntmps55;go_upto_region 1 with (go_at_call 61;refine(zFl _ x.Box.Cores _ _ S4.out hc5).mono ?_;rintro e w1 ⟨v1,F',rfl,oh,_,_,he⟩;have OH:=zh oh;have X1:=zh he;clear oh he)
 obtain⟨Fm,om1,hFm,hback⟩:=WX w1 X1.out;have OM1:=zh om1;have HB:=zh hback;have HFM:=zh hFm;have hL1:L<=w1.heap.size:=Nat.le_trans hL X1.out.sz;have hs1:=X1.out.sz;clear om1 hFm hback WX;go_upto_region 2 with (go_at_call 89;refine(zPq L b x.Box Fm _ OM1.out hL1 HMV.out hlt).mono ?_;rintro e w2 ⟨rfl,F3,tb⟩;obtain⟨F4,wb⟩:=HB.out _ _ _ tb;have TB2:=zh tb;have WB2:=zh wb;clear tb wb)
 have z4:=(WB2.out.cl 4 (by decide)).trans y4
 have hE2:=WB2.out.ch.ext HE.out (by omega) (fun k hk=>by have:=(hHF.out k hk).2;omega)
 have HE2:=zh hE2;have hL2:L<=w2.heap.size:=Nat.le_trans hL1 TB2.out.ch.sz;clear hE2 y4;rcases hwho with hwn | ⟨N,hwn,hNc⟩
 ·have hm:Hid (zCf x t=⟨zAk x.Box,x.States⟩):=zh (by unfold zCf;rw[hwn];exact if_neg (fun h=>absurd h.1 (by decide)))
  rw[hwn];go_wp2;refine bodyPost_end (v:=.tuple #[]) (by simp[results,Tryz.results55,go_sem]) rfl ⟨⟨_,rfl⟩,_,by rw[hm.out];exact WB2.out⟩
 ·obtain⟨g,rfl,hgL,hgl,cg⟩:=OH.out.cellS hNc;have cg2:w2.cell? ⟨g,N*3+2,none⟩=some (.bool (x.Box.Cores.getD N zKb).Stopped):=by
   refine(World.cell?_of_block (TB2.out.ch.keep (k:=g) hgl (show g≠b by omega) (fun hm=>by have:=HFM.out g hm;omega))).trans cg
  have hgl2:=zl hgl TB2.out.ch.sz;have hNt:N < (zAk x.Box).Cores.length:=by rw[zBf];exact hNc
  have hNs:N < x.States.length:=by have:=hns.out;omega
  obtain⟨Fm2,om2,_,_⟩:=WB2.out.box;obtain⟨g4,s4',_,_,e,_⟩:=(show ∃ g s,∃ (_ _:Nat),p4=some ⟨g,s,none⟩/\True from by
   obtain⟨_,_,_,ho⟩:=id om2;obtain⟨Fc,lc⟩:=om2.lMachineCores;obtain⟨g',s',_,_,e,_⟩:=(lc.om ho).idxS (by rw[show 0+4=4 from rfl];exact z4) N hNt
   exact⟨g',s',0,0,e,trivial⟩)
  subst e;obtain⟨k4,Fy4,hk4,omc,_,_⟩:=(zCs.refl om2).core z4 hNt;obtain⟨_,_,_,_,c42,_,_⟩:=omc.openC;have lt4:=omc.bk.1;have hk4':((zAk x.Box).Cores.getD N zKb).Stopped=k4.Stopped:=by rw[List.getD_eq_getElem?_getD,show(zAk x.Box).Cores[N]? = some k4 from hk4];rfl
  clear om2 omc hk4 cg OH TB2;rw[hwn];obtain⟨p,hp⟩:∃ p,(x.Box.Cores.getD N zKb).Stopped=p:=⟨_,rfl⟩;obtain⟨q,hq⟩:∃ q,k4.Stopped=q:=⟨_,rfl⟩;rw[hp] at cg2;rw[hq] at c42 hk4';have hlen:Hid ((zAk x.Box).Cores.length=x.Box.Cores.length):=zh (zBf _);have hm0:Hid ((0<=zC0 x.Box.Plan.Slots x.Box.Tick/\(x.Box.Cores.getD (zC0 x.Box.Plan.Slots x.Box.Tick).toNat zKb).Stopped=false/\((zAk x.Box).Cores.getD (zC0 x.Box.Plan.Slots x.Box.Tick).toNat zKb).Stopped=true) ↔ (p=false/\q=true)):=zh (by
   rw[hwn,Int.toNat_natCast,hp,hk4'];exact⟨fun h=>h.2,fun h=>⟨Int.natCast_nonneg N,h⟩⟩)
  cases p
  ·cases q
   ·have hm:Hid (zCf x t=⟨zAk x.Box,x.States⟩):=zh (if_neg (fun h=>by have:=(hm0.out.1 h).2;cases this))
    clear hm0 hwn hp hq hk4';go_wp2;refine bodyPost_end (v:=.tuple #[]) (by simp[results,Tryz.results55,go_sem]) rfl ⟨⟨_,rfl⟩,_,by rw[hm.out];exact WB2.out⟩
   ·have hm:Hid (zCf x t=(zJq ⟨zAk x.Box,x.States⟩ t N 1).1):=zh ((if_pos (hm0.out.2 ⟨rfl,rfl⟩)).trans (by rw[hwn,Int.toNat_natCast]))
    clear hm0 hwn hp hq hk4';go_wp2_with (go_at_call 90;refine(zOn L b N ⟨zAk x.Box,x.States⟩ F4 _ t 1 _ WB2.out.om (HT.out.ext HE2.out) hL2 HWT.out hT hNs ⟨by decide,by decide⟩).mono ?_;rintro e w5 ⟨rfl,F5,wb5⟩;have WB5:=zh (WB2.out.trans wb5);clear wb5)
    refine bodyPost_end (v:=.tuple #[]) (by simp[results,Tryz.results55,go_sem]) rfl ⟨⟨_,rfl⟩,_,by rw[hm.out];exact WB5.out⟩
  ·have hm:Hid (zCf x t=⟨zAk x.Box,x.States⟩):=zh (if_neg (fun h=>by have:=(hm0.out.1 h).1;cases this))
   clear hm0 hwn hp hq hk4';go_wp2;refine bodyPost_end (v:=.tuple #[]) (by simp[results,Tryz.results55,go_sem]) rfl ⟨⟨_,rfl⟩,_,by rw[hm.out];exact WB2.out⟩
end Sk
