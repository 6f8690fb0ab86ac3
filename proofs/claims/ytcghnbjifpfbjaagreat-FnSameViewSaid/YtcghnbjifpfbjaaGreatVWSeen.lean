/- Contracts of functions of the given program. -/
import Derived.Test.YtcghnbjifpfbjaaGreatVVModel
namespace Sk
open Go Go.Proofs Go.RowKit
set_option maxHeartbeats 4000000
set_option maxRecDepth 100000
set_option linter.unusedVariables false
set_option linter.unusedSimpArgs false
theorem zBe(v:Value)(m:Machine)(n:Int)(w:World)(h:Rv w v m) :
  Calls Tryz.prog 23 #[v,.int .i64 n] w fun e w'=>e = .returned (.bool (zBp m n))/\Ext w w':=by
 have H:=zh h;obtain⟨a0,c0,a1,c1,a2,c2,a3,c3,a4,c4,a5,c5,rfl,rt,h0,l0,h1,l1,h2,l2,h3,l3,h4,l4,h5,l5⟩:=h.openMachine;clear h h0 h1 h2 h3 h4 h5;go_enter Tryz.func23,Tryz.ntmps23;go_upto_region 1 with (fail)
 refine zA1 (fun W=>Ext w W/\Bk W w.heap.size [.slice a0 m.Plan.Parts.length c0,.slice a1 m.Plan.Channels.length c1,.slice a2 m.Plan.Slots.length c2,.slice a3 m.Programs.length c3,.slice a4 m.Cores.length c4,.slice a5 m.Holds.length c5,.int .i64 m.Tick] 32) ⟨(zr _).alloc _,Bk.new _ _ _⟩ ?_
 rintro W ⟨e1,kA⟩;have HE0:=zh e1;obtain⟨d0,d1,d2,d3,d4,d5,d6⟩:=Bk.k7 kA;have KA:=zh kA;clear e1 kA;cases g:zFn m
 ·go_wp2_with (go_at_call 14;refine(zBr _ m _ (H.out.ext HE0.out)).mono ?_;rintro e w0 ⟨rfl,he⟩;rw[g];have E:=zh (HE0.out.tr he);have KAx:=KA.out.ext he;have ltA:=KAx.lt;obtain⟨x0,x1,x2,x3,x4,x5,x6⟩:=Bk.k7 KAx;  clear he KAx)
  go_ret;exact⟨zA2 (by unfold zBp;rw[g];rfl),E.out⟩
 cases g1:zA8 n 0 ((m.Cores.length:Int) - 1)
 all_goals
  go_wp2_with (first
   | (go_at_call 14;refine(zBr _ m _ (H.out.ext HE0.out)).mono ?_;rintro e w0 ⟨rfl,he⟩;rw[g];have E:=zh (HE0.out.tr he);have KAx:=KA.out.ext he;have ltA:=KAx.lt;obtain⟨x0,x1,x2,x3,x4,x5,x6⟩:=Bk.k7 KAx;  clear he KAx)
   | (go_at_call 42;refine(zAm _ _ _ _).mono ?_;rintro e w9 ⟨rfl,rfl⟩;rw[g1]))
  go_ret;exact⟨zA2 (by unfold zBp;rw[g,g1];rfl),E.out⟩
theorem impl_ViewOf(v:Value)(m:Machine)(n:Int)(w:World)(h:Rv w v m) :
  Calls Tryz.prog 16 #[v,.int .i64 n] w fun e w' => ∃ v',e = .returned v'/\Os w.heap.size w' v' (zBq m n)/\Ext w w':=by
 have H:=zh h;obtain⟨a0,c0,a1,c1,a2,c2,a3,c3,a4,c4,a5,c5,rfl,rt,h0,l0,h1,l1,h2,l2,h3,l3,h4,l4,h5,l5⟩:=h.openMachine;clear h h0 h1 h2 h3 h4 h5;go_enter Tryz.func16,Tryz.ntmps16;go_upto_region 1 with (fail)
 refine zA1 (fun W=>Ext w W/\Bk W w.heap.size [.slice a0 m.Plan.Parts.length c0,.slice a1 m.Plan.Channels.length c1,.slice a2 m.Plan.Slots.length c2,.slice a3 m.Programs.length c3,.slice a4 m.Cores.length c4,.slice a5 m.Holds.length c5,.int .i64 m.Tick] 32) ⟨(zr _).alloc _,Bk.new _ _ _⟩ ?_
 rintro W ⟨e1,kA⟩;have HE0:=zh e1;obtain⟨d0,d1,d2,d3,d4,d5,d6⟩:=Bk.k7 kA;have KA:=zh kA;clear e1 kA;cases g:zBp m n
 ·go_wp2_with (go_at_call 23;refine(zBe _ m n _ (H.out.ext HE0.out)).mono ?_;rintro e w0 ⟨rfl,he⟩;rw[g];have E:=zh (HE0.out.tr he);have KAx:=KA.out.ext he;have ltA:=KAx.lt;obtain⟨x0,x1,x2,x3,x4,x5,x6⟩:=Bk.k7 KAx;  clear he KAx)
  go_ret;exact⟨_,rfl,by rw[zFa g];exact(Oo.nil (α:=Int) 3 _ _).os,E.out⟩
 obtain⟨hmv,hn0,hn1⟩:=zBz.1 g;obtain⟨N,rfl⟩:∃ N:Nat,n=N:=⟨n.toNat,by omega⟩
 have HV:=zh hmv;have hres:=zh (zGz g)
 go_wp2_with (first
  | (go_at_call 23;refine(zBe _ m N _ (H.out.ext HE0.out)).mono ?_;rintro e w0 ⟨rfl,he⟩;rw[g];have E:=zh (HE0.out.tr he);have KAx:=KA.out.ext he;have ltA:=KAx.lt;obtain⟨x0,x1,x2,x3,x4,x5,x6⟩:=Bk.k7 KAx;replace KA:=zh KAx;clear he KAx)
  | (go_at_call 35;refine(zJ2 w.heap.size m N _ (Br.start H.out KA.out E.out (Nat.le_refl _)).bm HV.out (by omega)).mono ?_;rintro e w5 ⟨a5,rfl,ho,he⟩;have HO:=zh ho;have E5:=zh (E.out.tr he);have hs:=E.out.sz;clear ho he))
 go_ret;exact⟨_,rfl,by rw[hres.out];obtain⟨F,hF,hw⟩:=HO.out;exact⟨F,hF,hw.mono hs⟩,E5.out⟩
theorem Om.ge{α:Type}[GT α]{L:Nat}{w:World}{b o:Nat}{x : α}{F:List Nat}(h:Om L w b o x F):L<=b/\∀ k∈F,L<=k:=by
 obtain⟨cs,h1,h2,h3⟩:=h;exact⟨(h3.2 b (List.mem_cons_self ..)).1,fun k hk=>(h3.2 k (List.mem_cons_of_mem _ hk)).1⟩
set_option maxHeartbeats 1000000
noncomputable def zB0(a b:Machine)(n:Int):Bool:=(zBp a n && zBp b n) && Eqb (zAz a n.toNat) (zAz b n.toNat)
set_option maxHeartbeats 4000000
theorem zKm(v v2:Value)(m p:Machine)(n:Int)(w:World)(h:Rv w v m)(hk:Rv w v2 p) :
  Calls Tryz.prog 10 #[v,v2,.int .i64 n] w fun e w'=>e = .returned (.bool (zB0 m p n))/\Ext w w':=by
 have H:=zh h;have KP:=zh hk;obtain⟨a0,c0,a1,c1,a2,c2,a3,c3,a4,c4,a5,c5,rfl,rt,-,l0,-,l1,-,l2,-,l3,-,l4,-,l5⟩:=h.openMachine;obtain⟨f0,h0,f1,h1,f2,h2,f3,h3,f4,h4,f5,h5,rfl,rt',-,l0',-,l1',-,l2',-,l3',-,l4',-,l5'⟩:=hk.openMachine;clear h hk;go_enter Tryz.func10,Tryz.ntmps10;go_upto_region 1 with (fail)
 refine zA1 (fun W=>Ext w W/\Bk W w.heap.size [.slice a0 m.Plan.Parts.length c0,.slice a1 m.Plan.Channels.length c1,.slice a2 m.Plan.Slots.length c2,.slice a3 m.Programs.length c3,.slice a4 m.Cores.length c4,.slice a5 m.Holds.length c5,.int .i64 m.Tick] 32/\Bk W (w.heap.size+1) [.slice f0 p.Plan.Parts.length h0,.slice f1 p.Plan.Channels.length h1,.slice f2 p.Plan.Slots.length h2,.slice f3 p.Programs.length h3,.slice f4 p.Cores.length h4,.slice f5 p.Holds.length h5,.int .i64 p.Tick] 32) ⟨((zr _).alloc _).alloc _,(Bk.new _ _ _).ext ((zr _).alloc _),Bk.new1 _ _ _ _⟩ ?_
 rintro W ⟨e1,kA,kB⟩;have HE0:=zh e1;have KA:=zh kA;have KB:=zh kB;have x0:=kA.cell (j:=0) rfl;have y0:=kB.cell (j:=0) rfl;have x1:=kA.cell (j:=1) rfl;have y1:=kB.cell (j:=1) rfl;have x2:=kA.cell (j:=2) rfl;have y2:=kB.cell (j:=2) rfl;have x3:=kA.cell (j:=3) rfl;have y3:=kB.cell (j:=3) rfl;have x4:=kA.cell (j:=4) rfl;have y4:=kB.cell (j:=4) rfl;have x5:=kA.cell (j:=5) rfl;have y5:=kB.cell (j:=5) rfl;have x6:=kA.cell (j:=6) rfl;have y6:=kB.cell (j:=6) rfl;have ltA:=kA.lt;have ltB:=kB.lt;clear e1 kA kB;cases s1:zBp m n
 ·go_wp2_with (go_at_call 23;refine(zBe _ m n _ (H.out.ext HE0.out)).mono ?_;rintro e ws1 ⟨rfl,he⟩;rw[s1];replace HE0:=zh (HE0.out.tr he);replace KA:=zh (KA.out.ext he);replace KB:=zh (KB.out.ext he);have x0:=KA.out.cell (j:=0) rfl;have y0:=KB.out.cell (j:=0) rfl;have x1:=KA.out.cell (j:=1) rfl;have y1:=KB.out.cell (j:=1) rfl;have x2:=KA.out.cell (j:=2) rfl;have y2:=KB.out.cell (j:=2) rfl;have x3:=KA.out.cell (j:=3) rfl;have y3:=KB.out.cell (j:=3) rfl;have x4:=KA.out.cell (j:=4) rfl;have y4:=KB.out.cell (j:=4) rfl;have x5:=KA.out.cell (j:=5) rfl;have y5:=KB.out.cell (j:=5) rfl;have x6:=KA.out.cell (j:=6) rfl;have y6:=KB.out.cell (j:=6) rfl;have ltA:=KA.out.lt;have ltB:=KB.out.lt;clear he)
  go_ret;exact⟨zA2 (by unfold zB0;rw[s1];rfl),HE0.out⟩
 cases s2:zBp p n
 ·go_wp2_with (first
   | (go_at_call 23;have _t:=gAd;refine(zBe _ p n _ (KP.out.ext HE0.out)).mono ?_;rintro e ws2 ⟨rfl,he⟩;rw[s2];replace HE0:=zh (HE0.out.tr he);replace KA:=zh (KA.out.ext he);replace KB:=zh (KB.out.ext he);have x0:=KA.out.cell (j:=0) rfl;have y0:=KB.out.cell (j:=0) rfl;have x1:=KA.out.cell (j:=1) rfl;have y1:=KB.out.cell (j:=1) rfl;have x2:=KA.out.cell (j:=2) rfl;have y2:=KB.out.cell (j:=2) rfl;have x3:=KA.out.cell (j:=3) rfl;have y3:=KB.out.cell (j:=3) rfl;have x4:=KA.out.cell (j:=4) rfl;have y4:=KB.out.cell (j:=4) rfl;have x5:=KA.out.cell (j:=5) rfl;have y5:=KB.out.cell (j:=5) rfl;have x6:=KA.out.cell (j:=6) rfl;have y6:=KB.out.cell (j:=6) rfl;have ltA:=KA.out.lt;have ltB:=KB.out.lt;clear he)
   | (go_at_call 23;refine(zBe _ m n _ (H.out.ext HE0.out)).mono ?_;rintro e ws1 ⟨rfl,he⟩;rw[s1];replace HE0:=zh (HE0.out.tr he);replace KA:=zh (KA.out.ext he);replace KB:=zh (KB.out.ext he);have x0:=KA.out.cell (j:=0) rfl;have y0:=KB.out.cell (j:=0) rfl;have x1:=KA.out.cell (j:=1) rfl;have y1:=KB.out.cell (j:=1) rfl;have x2:=KA.out.cell (j:=2) rfl;have y2:=KB.out.cell (j:=2) rfl;have x3:=KA.out.cell (j:=3) rfl;have y3:=KB.out.cell (j:=3) rfl;have x4:=KA.out.cell (j:=4) rfl;have y4:=KB.out.cell (j:=4) rfl;have x5:=KA.out.cell (j:=5) rfl;have y5:=KB.out.cell (j:=5) rfl;have x6:=KA.out.cell (j:=6) rfl;have y6:=KB.out.cell (j:=6) rfl;have ltA:=KA.out.lt;have ltB:=KB.out.lt;clear he;have gAd:=trivial))
  go_ret;exact⟨zA2 (by unfold zB0;rw[s1,s2];rfl),HE0.out⟩
 obtain⟨hv1,b0,hn1⟩:=zBz.1 s1;obtain⟨hv2,_,hn2⟩:=zBz.1 s2;obtain⟨N,rfl⟩:∃ N:Nat,n=N:=⟨n.toNat,by omega⟩
 replace hn1:N < m.Cores.length:=by omega
 replace hn2:N < p.Cores.length:=by omega
 have HV1:=zh hv1;have HV2:=zh hv2;have hres:Hid (zB0 m p N=Eqb (zAz m N) (zAz p N)):=zh (by unfold zB0;rw[s1,s2];rfl)
 go_wp2_with (first
   | (go_at_call 24;refine(zAv _ _ _ _ _ (HR1.out.ext E2.out) HR2.out).mono ?_;rintro e w4 ⟨rfl,he⟩;replace HE0:=zh (((HE0.out.tr E1.out).tr E2.out).tr he);clear he)
   | (go_at_call 35;have _t:=E1;refine(zJ2 (w.heap.size+1) p N _ ((Br.start KP.out KB.out HE0.out (Nat.le_succ _)).bm.ext E1.out) HV2.out hn2).mono ?_;rintro e w2 ⟨a2,rfl,ho,he⟩;have HR2:=zh ho.rs;have E2:=zh he;clear ho he)
   | (go_at_call 35;have _t:=gBd;refine(zJ2 w.heap.size m N _ ((Br.start H.out KA.out HE0.out (Nat.le_refl _)).bm) HV1.out hn1).mono ?_;rintro e w1 ⟨a1,rfl,ho,he⟩;have HR1:=zh ho.rs;have E1:=zh he;clear ho he)
   | (go_at_call 23;have _t:=gAd;refine(zBe _ p N _ (KP.out.ext HE0.out)).mono ?_;rintro e ws2 ⟨rfl,he⟩;rw[s2];replace HE0:=zh (HE0.out.tr he);replace KA:=zh (KA.out.ext he);replace KB:=zh (KB.out.ext he);have x0:=KA.out.cell (j:=0) rfl;have y0:=KB.out.cell (j:=0) rfl;have x1:=KA.out.cell (j:=1) rfl;have y1:=KB.out.cell (j:=1) rfl;have x2:=KA.out.cell (j:=2) rfl;have y2:=KB.out.cell (j:=2) rfl;have x3:=KA.out.cell (j:=3) rfl;have y3:=KB.out.cell (j:=3) rfl;have x4:=KA.out.cell (j:=4) rfl;have y4:=KB.out.cell (j:=4) rfl;have x5:=KA.out.cell (j:=5) rfl;have y5:=KB.out.cell (j:=5) rfl;have x6:=KA.out.cell (j:=6) rfl;have y6:=KB.out.cell (j:=6) rfl;have ltA:=KA.out.lt;have ltB:=KB.out.lt;clear he;have gBd:=trivial)
   | (go_at_call 23;refine(zBe _ m N _ (H.out.ext HE0.out)).mono ?_;rintro e ws1 ⟨rfl,he⟩;rw[s1];replace HE0:=zh (HE0.out.tr he);replace KA:=zh (KA.out.ext he);replace KB:=zh (KB.out.ext he);have x0:=KA.out.cell (j:=0) rfl;have y0:=KB.out.cell (j:=0) rfl;have x1:=KA.out.cell (j:=1) rfl;have y1:=KB.out.cell (j:=1) rfl;have x2:=KA.out.cell (j:=2) rfl;have y2:=KB.out.cell (j:=2) rfl;have x3:=KA.out.cell (j:=3) rfl;have y3:=KB.out.cell (j:=3) rfl;have x4:=KA.out.cell (j:=4) rfl;have y4:=KB.out.cell (j:=4) rfl;have x5:=KA.out.cell (j:=5) rfl;have y5:=KB.out.cell (j:=5) rfl;have x6:=KA.out.cell (j:=6) rfl;have y6:=KB.out.cell (j:=6) rfl;have ltA:=KA.out.lt;have ltB:=KB.out.lt;clear he;have gAd:=trivial))
 go_ret;exact⟨zA2 hres.out.symm,HE0.out⟩
end Sk
