/- Contracts of functions of the given program. -/
import Derived.Test.YtidkncgejgngcaaGreatVVModel
namespace Sk
open Go Go.Proofs Go.RowKit
set_option maxHeartbeats 4000000
set_option maxRecDepth 100000
set_option linter.unusedVariables false
set_option linter.unusedSimpArgs false
theorem zB1(v:Value)(m:Machine)(n:Int)(w:World)(h:Rv w v m) :
  Calls Tryz.prog 78 #[v,.int .i64 n] w fun e w'=>e = .returned (.bool (zB5 m n))/\Ext w w':=by
 have H:=zh h;obtain⟨a0,c0,a1,c1,a2,c2,a3,c3,a4,c4,a5,c5,rfl,rt,h0,l0,h1,l1,h2,l2,h3,l3,h4,l4,h5,l5⟩:=h.openMachine;clear h h0 h1 h2 h3 h4 h5;go_enter Tryz.func78,Tryz.ntmps78;go_upto_region 1 with (fail)
 refine zA1 (fun W=>Ext w W/\Bk W w.heap.size [.slice a0 m.Plan.Parts.length c0,.slice a1 m.Plan.Channels.length c1,.slice a2 m.Plan.Slots.length c2,.slice a3 m.Programs.length c3,.slice a4 m.Cores.length c4,.slice a5 m.Holds.length c5,.int .i64 m.Tick] 32) ⟨(zr _).alloc _,Bk.new _ _ _⟩ ?_
 rintro W ⟨e1,kA⟩;have HE0:=zh e1;obtain⟨d0,d1,d2,d3,d4,d5,d6⟩:=Bk.k7 kA;have KA:=zh kA;clear e1 kA;cases g:zE9 m
 ·go_wp2_with (go_at_call 37;refine(zAm _ m _ (H.out.ext HE0.out)).mono ?_;rintro e w0 ⟨rfl,he⟩;rw[g];have E:=zh (HE0.out.tr he);have KAx:=KA.out.ext he;have ltA:=KAx.lt;obtain⟨x0,x1,x2,x3,x4,x5,x6⟩:=Bk.k7 KAx;  clear he KAx)
  go_ret;exact⟨zA2 (by unfold zB5;rw[g];rfl),E.out⟩
 cases g1:zA8 n 0 ((m.Cores.length:Int) - 1)
 all_goals
  go_wp2_with (first
   | (go_at_call 37;refine(zAm _ m _ (H.out.ext HE0.out)).mono ?_;rintro e w0 ⟨rfl,he⟩;rw[g];have E:=zh (HE0.out.tr he);have KAx:=KA.out.ext he;have ltA:=KAx.lt;obtain⟨x0,x1,x2,x3,x4,x5,x6⟩:=Bk.k7 KAx;  clear he KAx)
   | (go_at_call 50;refine(zAp _ _ _ _).mono ?_;rintro e w9 ⟨rfl,rfl⟩;rw[g1]))
  go_ret;exact⟨zA2 (by unfold zB5;rw[g,g1];rfl),E.out⟩
theorem Om.ge{α:Type}[GT α]{L:Nat}{w:World}{b o:Nat}{x : α}{F:List Nat}(h:Om L w b o x F):L<=b/\∀ k∈F,L<=k:=by
 obtain⟨cs,h1,h2,h3⟩:=h;exact⟨(h3.2 b (List.mem_cons_self ..)).1,fun k hk=>(h3.2 k (List.mem_cons_of_mem _ hk)).1⟩
set_option maxHeartbeats 1000000
theorem Om.chg{α:Type}[GT α]{L:Nat}{w w':World}{b o:Nat}{x : α}{F:List Nat}(h:Om L w b o x F){b2 o2 n:Nat}{F2:List Nat}(hc:Chg b2 o2 n F2 w w')(hap:∀ k∈b::F,k ∉ b2::F2):Om L w' b o x F:=by
 obtain⟨cs,h1,h2,h3⟩:=h;have hk:∀ k∈b::F,w'.heap[k]? = w.heap[k]?:=fun k hm=>hc.keep (h3.lt hm) (fun e=>hap k hm (e ▸ List.mem_cons_self ..)) (fun h=>hap k hm (List.mem_cons_of_mem _ h))
 exact⟨cs,GT.keep h1 (fun k hm=>hk k (List.mem_cons_of_mem _ hm)),h2.keep (hk b (List.mem_cons_self ..)),h3.1,fun k hm=>⟨(h3.2 k hm).1,hc.fzk k (h3.2 k hm).2⟩⟩
def zF2(L:Nat)(w:World)(b b2:Nat)(m p:Machine):Prop:=∃ F G,Om L w b 0 m F/\Om L w b2 0 p G/\∀ k∈b::F,k ∉ b2::G
theorem zF2.bm1{L:Nat}{w:World}{b b2:Nat}{m p:Machine}(h:zF2 L w b b2 m p):Bm w b m:=by obtain⟨F,G,h1,h2,h3⟩:=h;exact h1.bm
theorem zF2.bm2{L:Nat}{w:World}{b b2:Nat}{m p:Machine}(h:zF2 L w b b2 m p):Bm w b2 p:=by obtain⟨F,G,h1,h2,h3⟩:=h;exact h2.bm
theorem zF2.ext{L:Nat}{w w':World}{b b2:Nat}{m p:Machine}(h:zF2 L w b b2 m p)(he:Ext w w'):zF2 L w' b b2 m p:=by obtain⟨F,G,h1,h2,h3⟩:=h;exact⟨F,G,h1.ext he,h2.ext he,h3⟩
theorem zF2.swap{L:Nat}{w:World}{b b2:Nat}{m p:Machine}(h:zF2 L w b b2 m p):zF2 L w b2 b p m:=by obtain⟨F,G,h1,h2,h3⟩:=h;exact⟨G,F,h2,h1,fun k hk hm=>h3 k hm hk⟩
theorem zF2.tick{L:Nat}{w w0:World}{b b2:Nat}{m p:Machine}(h:zF2 L w b b2 m p)(hv:zCf m)(ht:m.Tick < 100000)(he:Ext w0 w)(hL:w0.heap.size<=L) :
  Calls Tryz.prog 72 #[.pointer (some ⟨b,0,none⟩)] w fun e w'=>e = .returned (.tuple #[.int .i64 (zDf m.Plan.Slots m.Tick),.int .i64 (zIu m)])/\zF2 L w' b b2 (zBt m) p/\Ext w0 w':=by
 obtain⟨F,G,h1,h2,h3⟩:=h;have hb:=h1.bk;refine(zLr L b m F w h1 (by omega) hv ht).mono ?_
 rintro e w' ⟨rfl,F',tb⟩;have hg:=h1.ge;refine⟨rfl,⟨F',G,tb.om,h2.chg tb.ch (fun k hk hm=>h3 k hm hk),fun k hk hm=>?_⟩,tb.ch.ext he (by omega) (fun x hx=>Nat.le_trans hL (hg.2 x hx))⟩
 rcases List.mem_cons.1 hk with rfl|hk
 ·exact h3 _ (List.mem_cons_self ..) hm
 ·rcases tb.sub k hk with h|h
  ·exact h3 k (List.mem_cons_of_mem _ h) hm
  ·obtain⟨_,_,_,ho⟩:=h2
   have:=ho.lt hm
   omega
def zJk(a b:Machine)(n:Nat):Nat->Nat->Int
 | 0,k=>if zAe (zAj a k) n=zAe (zAj b k) n then -1 else k
 | f+1,k=>if zAe (zAj a k) n=zAe (zAj b k) n then zJk a b n f (k+1) else k
theorem zKi{a b:Machine}{n f k:Nat}(h:¬ zAe (zAj a k) n=zAe (zAj b k) n):zJk a b n f k=k:=by cases f<;>exact if_neg h
theorem zNo{a b:Machine}{n k:Nat}(h:zAe (zAj a k) n=zAe (zAj b k) n):zJk a b n 0 k = -1:=if_pos h
theorem zNm{a b:Machine}{n f k:Nat}(h:zAe (zAj a k) n=zAe (zAj b k) n):zJk a b n (f+1) k=zJk a b n f (k+1):=if_pos h
noncomputable def zC1(a b:Machine)(n t:Int):Int:=if (zB5 a n=true/\zB5 b n=true)/\zBi a t 200=true/\zBi b t 200=true then zJk a b n.toNat t.toNat 0 else -1
theorem zDd{a b:Machine}{n t:Nat}(h1:zB5 a n=true)(h2:zB5 b n=true)(h3:zBi a t 200=true)(h4:zBi b t 200=true):zC1 a b n t=zJk a b n t 0:=if_pos ⟨⟨h1,h2⟩,h3,h4⟩
theorem zAr{a b:Machine}{n t:Int}(h:zB5 a n=false\/zB5 b n=false\/zBi a t 200=false\/zBi b t 200=false):zC1 a b n t = -1:=if_neg (fun k=>by
 rcases h with h|h|h|h
 ·rw[h] at k;cases k.1.1
 ·rw[h] at k;cases k.1.2
 ·rw[h] at k;cases k.2.1
 ·rw[h] at k;cases k.2.2)
noncomputable def zAx(a b:Machine)(n:Int):Bool:=(zB5 a n && zB5 b n) && Eqb (zAe a n.toNat) (zAe b n.toNat)
set_option maxHeartbeats 4000000
theorem zGw(v v2:Value)(m p:Machine)(n:Int)(w:World)(h:Rv w v m)(hk:Rv w v2 p) :
  Calls Tryz.prog 35 #[v,v2,.int .i64 n] w fun e w'=>e = .returned (.bool (zAx m p n))/\Ext w w':=by
 have H:=zh h;have KP:=zh hk;obtain⟨a0,c0,a1,c1,a2,c2,a3,c3,a4,c4,a5,c5,rfl,rt,-,l0,-,l1,-,l2,-,l3,-,l4,-,l5⟩:=h.openMachine;obtain⟨f0,h0,f1,h1,f2,h2,f3,h3,f4,h4,f5,h5,rfl,rt',-,l0',-,l1',-,l2',-,l3',-,l4',-,l5'⟩:=hk.openMachine;clear h hk;go_enter Tryz.func35,Tryz.ntmps35;go_upto_region 1 with (fail)
 refine zA1 (fun W=>Ext w W/\Bk W w.heap.size [.slice a0 m.Plan.Parts.length c0,.slice a1 m.Plan.Channels.length c1,.slice a2 m.Plan.Slots.length c2,.slice a3 m.Programs.length c3,.slice a4 m.Cores.length c4,.slice a5 m.Holds.length c5,.int .i64 m.Tick] 32/\Bk W (w.heap.size+1) [.slice f0 p.Plan.Parts.length h0,.slice f1 p.Plan.Channels.length h1,.slice f2 p.Plan.Slots.length h2,.slice f3 p.Programs.length h3,.slice f4 p.Cores.length h4,.slice f5 p.Holds.length h5,.int .i64 p.Tick] 32) ⟨((zr _).alloc _).alloc _,(Bk.new _ _ _).ext ((zr _).alloc _),Bk.new1 _ _ _ _⟩ ?_
 rintro W ⟨e1,kA,kB⟩;have HE0:=zh e1;have KA:=zh kA;have KB:=zh kB;have x0:=kA.cell (j:=0) rfl;have y0:=kB.cell (j:=0) rfl;have x1:=kA.cell (j:=1) rfl;have y1:=kB.cell (j:=1) rfl;have x2:=kA.cell (j:=2) rfl;have y2:=kB.cell (j:=2) rfl;have x3:=kA.cell (j:=3) rfl;have y3:=kB.cell (j:=3) rfl;have x4:=kA.cell (j:=4) rfl;have y4:=kB.cell (j:=4) rfl;have x5:=kA.cell (j:=5) rfl;have y5:=kB.cell (j:=5) rfl;have x6:=kA.cell (j:=6) rfl;have y6:=kB.cell (j:=6) rfl;have ltA:=kA.lt;have ltB:=kB.lt;clear e1 kA kB;cases s1:zB5 m n
 ·go_wp2_with (go_at_call 78;refine(zB1 _ m n _ (H.out.ext HE0.out)).mono ?_;rintro e ws1 ⟨rfl,he⟩;rw[s1];replace HE0:=zh (HE0.out.tr he);replace KA:=zh (KA.out.ext he);replace KB:=zh (KB.out.ext he);have x0:=KA.out.cell (j:=0) rfl;have y0:=KB.out.cell (j:=0) rfl;have x1:=KA.out.cell (j:=1) rfl;have y1:=KB.out.cell (j:=1) rfl;have x2:=KA.out.cell (j:=2) rfl;have y2:=KB.out.cell (j:=2) rfl;have x3:=KA.out.cell (j:=3) rfl;have y3:=KB.out.cell (j:=3) rfl;have x4:=KA.out.cell (j:=4) rfl;have y4:=KB.out.cell (j:=4) rfl;have x5:=KA.out.cell (j:=5) rfl;have y5:=KB.out.cell (j:=5) rfl;have x6:=KA.out.cell (j:=6) rfl;have y6:=KB.out.cell (j:=6) rfl;have ltA:=KA.out.lt;have ltB:=KB.out.lt;clear he)
  go_ret;exact⟨zA2 (by unfold zAx;rw[s1];rfl),HE0.out⟩
 cases s2:zB5 p n
 ·go_wp2_with (first
   | (go_at_call 78;have _t:=gAd;refine(zB1 _ p n _ (KP.out.ext HE0.out)).mono ?_;rintro e ws2 ⟨rfl,he⟩;rw[s2];replace HE0:=zh (HE0.out.tr he);replace KA:=zh (KA.out.ext he);replace KB:=zh (KB.out.ext he);have x0:=KA.out.cell (j:=0) rfl;have y0:=KB.out.cell (j:=0) rfl;have x1:=KA.out.cell (j:=1) rfl;have y1:=KB.out.cell (j:=1) rfl;have x2:=KA.out.cell (j:=2) rfl;have y2:=KB.out.cell (j:=2) rfl;have x3:=KA.out.cell (j:=3) rfl;have y3:=KB.out.cell (j:=3) rfl;have x4:=KA.out.cell (j:=4) rfl;have y4:=KB.out.cell (j:=4) rfl;have x5:=KA.out.cell (j:=5) rfl;have y5:=KB.out.cell (j:=5) rfl;have x6:=KA.out.cell (j:=6) rfl;have y6:=KB.out.cell (j:=6) rfl;have ltA:=KA.out.lt;have ltB:=KB.out.lt;clear he)
   | (go_at_call 78;refine(zB1 _ m n _ (H.out.ext HE0.out)).mono ?_;rintro e ws1 ⟨rfl,he⟩;rw[s1];replace HE0:=zh (HE0.out.tr he);replace KA:=zh (KA.out.ext he);replace KB:=zh (KB.out.ext he);have x0:=KA.out.cell (j:=0) rfl;have y0:=KB.out.cell (j:=0) rfl;have x1:=KA.out.cell (j:=1) rfl;have y1:=KB.out.cell (j:=1) rfl;have x2:=KA.out.cell (j:=2) rfl;have y2:=KB.out.cell (j:=2) rfl;have x3:=KA.out.cell (j:=3) rfl;have y3:=KB.out.cell (j:=3) rfl;have x4:=KA.out.cell (j:=4) rfl;have y4:=KB.out.cell (j:=4) rfl;have x5:=KA.out.cell (j:=5) rfl;have y5:=KB.out.cell (j:=5) rfl;have x6:=KA.out.cell (j:=6) rfl;have y6:=KB.out.cell (j:=6) rfl;have ltA:=KA.out.lt;have ltB:=KB.out.lt;clear he;have gAd:=trivial))
  go_ret;exact⟨zA2 (by unfold zAx;rw[s1,s2];rfl),HE0.out⟩
 obtain⟨hv1,b0,hn1⟩:=zBb.1 s1;obtain⟨hv2,_,hn2⟩:=zBb.1 s2;obtain⟨N,rfl⟩:∃ N:Nat,n=N:=⟨n.toNat,by omega⟩
 replace hn1:N < m.Cores.length:=by omega
 replace hn2:N < p.Cores.length:=by omega
 have HV1:=zh hv1;have HV2:=zh hv2;have hres:Hid (zAx m p N=Eqb (zAe m N) (zAe p N)):=zh (by unfold zAx;rw[s1,s2];rfl)
 go_wp2_with (first
   | (go_at_call 79;refine(zAo _ _ _ _ _ (HR1.out.ext E2.out) HR2.out).mono ?_;rintro e w4 ⟨rfl,he⟩;replace HE0:=zh (((HE0.out.tr E1.out).tr E2.out).tr he);clear he)
   | (go_at_call 86;have _t:=E1;refine(zDa (w.heap.size+1) p N _ ((Br.start KP.out KB.out HE0.out (Nat.le_succ _)).bm.ext E1.out) HV2.out hn2).mono ?_;rintro e w2 ⟨a2,rfl,ho,he⟩;have HR2:=zh ho.rs;have E2:=zh he;clear ho he)
   | (go_at_call 86;have _t:=gBd;refine(zDa w.heap.size m N _ ((Br.start H.out KA.out HE0.out (Nat.le_refl _)).bm) HV1.out hn1).mono ?_;rintro e w1 ⟨a1,rfl,ho,he⟩;have HR1:=zh ho.rs;have E1:=zh he;clear ho he)
   | (go_at_call 78;have _t:=gAd;refine(zB1 _ p N _ (KP.out.ext HE0.out)).mono ?_;rintro e ws2 ⟨rfl,he⟩;rw[s2];replace HE0:=zh (HE0.out.tr he);replace KA:=zh (KA.out.ext he);replace KB:=zh (KB.out.ext he);have x0:=KA.out.cell (j:=0) rfl;have y0:=KB.out.cell (j:=0) rfl;have x1:=KA.out.cell (j:=1) rfl;have y1:=KB.out.cell (j:=1) rfl;have x2:=KA.out.cell (j:=2) rfl;have y2:=KB.out.cell (j:=2) rfl;have x3:=KA.out.cell (j:=3) rfl;have y3:=KB.out.cell (j:=3) rfl;have x4:=KA.out.cell (j:=4) rfl;have y4:=KB.out.cell (j:=4) rfl;have x5:=KA.out.cell (j:=5) rfl;have y5:=KB.out.cell (j:=5) rfl;have x6:=KA.out.cell (j:=6) rfl;have y6:=KB.out.cell (j:=6) rfl;have ltA:=KA.out.lt;have ltB:=KB.out.lt;clear he;have gBd:=trivial)
   | (go_at_call 78;refine(zB1 _ m N _ (H.out.ext HE0.out)).mono ?_;rintro e ws1 ⟨rfl,he⟩;rw[s1];replace HE0:=zh (HE0.out.tr he);replace KA:=zh (KA.out.ext he);replace KB:=zh (KB.out.ext he);have x0:=KA.out.cell (j:=0) rfl;have y0:=KB.out.cell (j:=0) rfl;have x1:=KA.out.cell (j:=1) rfl;have y1:=KB.out.cell (j:=1) rfl;have x2:=KA.out.cell (j:=2) rfl;have y2:=KB.out.cell (j:=2) rfl;have x3:=KA.out.cell (j:=3) rfl;have y3:=KB.out.cell (j:=3) rfl;have x4:=KA.out.cell (j:=4) rfl;have y4:=KB.out.cell (j:=4) rfl;have x5:=KA.out.cell (j:=5) rfl;have y5:=KB.out.cell (j:=5) rfl;have x6:=KA.out.cell (j:=6) rfl;have y6:=KB.out.cell (j:=6) rfl;have ltA:=KA.out.lt;have ltB:=KB.out.lt;clear he;have gAd:=trivial))
 go_ret;exact⟨zA2 hres.out.symm,HE0.out⟩
theorem Om.ofBk{α:Type}[GT α]{L:Nat}{w:World}{b:Nat}{cs:List Value}{x : α}{F:List Nat}{T:TypeId}(hb:Bk w b cs T)(he:GT.enc w cs x F)(ho:Own L w F)(hL:L<=b)(hF:b ∉ F):Om L w b 0 x F :=
 ⟨cs,he,fun j u hj=>by rw[Nat.zero_add];exact hb.cell hj,List.nodup_cons.2 ⟨hF,ho.1⟩,fun k hk=>by
  rcases List.mem_cons.1 hk with rfl|hk
  ·exact⟨hL,_,_,hb⟩
  ·exact ho.2 k hk⟩
theorem zHd(v v2:Value)(m p:Machine)(n t:Int)(w:World)(h:Rv w v m)(hk:Rv w v2 p) :
  Calls Tryz.prog 33 #[v,v2,.int .i64 n,.int .i64 t] w fun e w'=>e = .returned (.int .i64 (zC1 m p n t))/\Ext w w':=by
 have H:=zh h;have KP:=zh hk;obtain⟨a0,c0,a1,c1,a2,c2,a3,c3,a4,c4,a5,c5,rfl,rt,-,l0,-,l1,-,l2,-,l3,-,l4,-,l5⟩:=h.openMachine;obtain⟨f0,h0,f1,h1,f2,h2,f3,h3,f4,h4,f5,h5,rfl,rt',-,l0',-,l1',-,l2',-,l3',-,l4',-,l5'⟩:=hk.openMachine;clear h hk;go_enter Tryz.func33,Tryz.ntmps33;go_upto_region 1 with (fail)
 refine zA1 (fun W=>Ext w W/\Bk W w.heap.size [.slice a0 m.Plan.Parts.length c0,.slice a1 m.Plan.Channels.length c1,.slice a2 m.Plan.Slots.length c2,.slice a3 m.Programs.length c3,.slice a4 m.Cores.length c4,.slice a5 m.Holds.length c5,.int .i64 m.Tick] 32/\Bk W (w.heap.size+1) [.slice f0 p.Plan.Parts.length h0,.slice f1 p.Plan.Channels.length h1,.slice f2 p.Plan.Slots.length h2,.slice f3 p.Programs.length h3,.slice f4 p.Cores.length h4,.slice f5 p.Holds.length h5,.int .i64 p.Tick] 32) ⟨((zr _).alloc _).alloc _,(Bk.new _ _ _).ext ((zr _).alloc _),Bk.new1 _ _ _ _⟩ ?_
 rintro W ⟨e1,kA,kB⟩;have HE0:=zh e1;have KA:=zh kA;have KB:=zh kB;have x0:=kA.cell (j:=0) rfl;have y0:=kB.cell (j:=0) rfl;have x1:=kA.cell (j:=1) rfl;have y1:=kB.cell (j:=1) rfl;have x2:=kA.cell (j:=2) rfl;have y2:=kB.cell (j:=2) rfl;have x3:=kA.cell (j:=3) rfl;have y3:=kB.cell (j:=3) rfl;have x4:=kA.cell (j:=4) rfl;have y4:=kB.cell (j:=4) rfl;have x5:=kA.cell (j:=5) rfl;have y5:=kB.cell (j:=5) rfl;have x6:=kA.cell (j:=6) rfl;have y6:=kB.cell (j:=6) rfl;have ltA:=kA.lt;have ltB:=kB.lt;clear e1 kA kB;cases s1:zB5 m n
 ·go_wp2_with (go_at_call 78;refine(zB1 _ m n _ (H.out.ext HE0.out)).mono ?_;rintro e ws1 ⟨rfl,he⟩;rw[s1];replace HE0:=zh (HE0.out.tr he);replace KA:=zh (KA.out.ext he);replace KB:=zh (KB.out.ext he);have x0:=KA.out.cell (j:=0) rfl;have y0:=KB.out.cell (j:=0) rfl;have x1:=KA.out.cell (j:=1) rfl;have y1:=KB.out.cell (j:=1) rfl;have x2:=KA.out.cell (j:=2) rfl;have y2:=KB.out.cell (j:=2) rfl;have x3:=KA.out.cell (j:=3) rfl;have y3:=KB.out.cell (j:=3) rfl;have x4:=KA.out.cell (j:=4) rfl;have y4:=KB.out.cell (j:=4) rfl;have x5:=KA.out.cell (j:=5) rfl;have y5:=KB.out.cell (j:=5) rfl;have x6:=KA.out.cell (j:=6) rfl;have y6:=KB.out.cell (j:=6) rfl;have ltA:=KA.out.lt;have ltB:=KB.out.lt;clear he)
  go_ret;exact⟨zD3 (zAr (.inl s1)).symm,HE0.out⟩
 cases s2:zB5 p n
 ·go_wp2_with (first
   | (go_at_call 78;have _t:=gAd;refine(zB1 _ p n _ (KP.out.ext HE0.out)).mono ?_;rintro e ws2 ⟨rfl,he⟩;rw[s2];replace HE0:=zh (HE0.out.tr he);replace KA:=zh (KA.out.ext he);replace KB:=zh (KB.out.ext he);have x0:=KA.out.cell (j:=0) rfl;have y0:=KB.out.cell (j:=0) rfl;have x1:=KA.out.cell (j:=1) rfl;have y1:=KB.out.cell (j:=1) rfl;have x2:=KA.out.cell (j:=2) rfl;have y2:=KB.out.cell (j:=2) rfl;have x3:=KA.out.cell (j:=3) rfl;have y3:=KB.out.cell (j:=3) rfl;have x4:=KA.out.cell (j:=4) rfl;have y4:=KB.out.cell (j:=4) rfl;have x5:=KA.out.cell (j:=5) rfl;have y5:=KB.out.cell (j:=5) rfl;have x6:=KA.out.cell (j:=6) rfl;have y6:=KB.out.cell (j:=6) rfl;have ltA:=KA.out.lt;have ltB:=KB.out.lt;clear he;have gBd:=trivial)
   | (go_at_call 78;refine(zB1 _ m n _ (H.out.ext HE0.out)).mono ?_;rintro e ws1 ⟨rfl,he⟩;rw[s1];replace HE0:=zh (HE0.out.tr he);replace KA:=zh (KA.out.ext he);replace KB:=zh (KB.out.ext he);have x0:=KA.out.cell (j:=0) rfl;have y0:=KB.out.cell (j:=0) rfl;have x1:=KA.out.cell (j:=1) rfl;have y1:=KB.out.cell (j:=1) rfl;have x2:=KA.out.cell (j:=2) rfl;have y2:=KB.out.cell (j:=2) rfl;have x3:=KA.out.cell (j:=3) rfl;have y3:=KB.out.cell (j:=3) rfl;have x4:=KA.out.cell (j:=4) rfl;have y4:=KB.out.cell (j:=4) rfl;have x5:=KA.out.cell (j:=5) rfl;have y5:=KB.out.cell (j:=5) rfl;have x6:=KA.out.cell (j:=6) rfl;have y6:=KB.out.cell (j:=6) rfl;have ltA:=KA.out.lt;have ltB:=KB.out.lt;clear he;have gAd:=trivial))
  go_ret;exact⟨zD3 (zAr (.inr (.inl s2))).symm,HE0.out⟩
 cases r1:zBi m t 200
 ·go_wp2_with (first
   | (go_at_call 76;have _t:=gBd;refine(zFf _ m t 200 _ (H.out.ext HE0.out) (by decide)).mono ?_;rintro e wr1 ⟨rfl,he⟩;rw[r1];replace HE0:=zh (HE0.out.tr he);replace KA:=zh (KA.out.ext he);replace KB:=zh (KB.out.ext he);have x0:=KA.out.cell (j:=0) rfl;have y0:=KB.out.cell (j:=0) rfl;have x1:=KA.out.cell (j:=1) rfl;have y1:=KB.out.cell (j:=1) rfl;have x2:=KA.out.cell (j:=2) rfl;have y2:=KB.out.cell (j:=2) rfl;have x3:=KA.out.cell (j:=3) rfl;have y3:=KB.out.cell (j:=3) rfl;have x4:=KA.out.cell (j:=4) rfl;have y4:=KB.out.cell (j:=4) rfl;have x5:=KA.out.cell (j:=5) rfl;have y5:=KB.out.cell (j:=5) rfl;have x6:=KA.out.cell (j:=6) rfl;have y6:=KB.out.cell (j:=6) rfl;have ltA:=KA.out.lt;have ltB:=KB.out.lt;clear he;have rAd:=trivial)
   | (go_at_call 78;have _t:=gAd;refine(zB1 _ p n _ (KP.out.ext HE0.out)).mono ?_;rintro e ws2 ⟨rfl,he⟩;rw[s2];replace HE0:=zh (HE0.out.tr he);replace KA:=zh (KA.out.ext he);replace KB:=zh (KB.out.ext he);have x0:=KA.out.cell (j:=0) rfl;have y0:=KB.out.cell (j:=0) rfl;have x1:=KA.out.cell (j:=1) rfl;have y1:=KB.out.cell (j:=1) rfl;have x2:=KA.out.cell (j:=2) rfl;have y2:=KB.out.cell (j:=2) rfl;have x3:=KA.out.cell (j:=3) rfl;have y3:=KB.out.cell (j:=3) rfl;have x4:=KA.out.cell (j:=4) rfl;have y4:=KB.out.cell (j:=4) rfl;have x5:=KA.out.cell (j:=5) rfl;have y5:=KB.out.cell (j:=5) rfl;have x6:=KA.out.cell (j:=6) rfl;have y6:=KB.out.cell (j:=6) rfl;have ltA:=KA.out.lt;have ltB:=KB.out.lt;clear he;have gBd:=trivial)
   | (go_at_call 78;refine(zB1 _ m n _ (H.out.ext HE0.out)).mono ?_;rintro e ws1 ⟨rfl,he⟩;rw[s1];replace HE0:=zh (HE0.out.tr he);replace KA:=zh (KA.out.ext he);replace KB:=zh (KB.out.ext he);have x0:=KA.out.cell (j:=0) rfl;have y0:=KB.out.cell (j:=0) rfl;have x1:=KA.out.cell (j:=1) rfl;have y1:=KB.out.cell (j:=1) rfl;have x2:=KA.out.cell (j:=2) rfl;have y2:=KB.out.cell (j:=2) rfl;have x3:=KA.out.cell (j:=3) rfl;have y3:=KB.out.cell (j:=3) rfl;have x4:=KA.out.cell (j:=4) rfl;have y4:=KB.out.cell (j:=4) rfl;have x5:=KA.out.cell (j:=5) rfl;have y5:=KB.out.cell (j:=5) rfl;have x6:=KA.out.cell (j:=6) rfl;have y6:=KB.out.cell (j:=6) rfl;have ltA:=KA.out.lt;have ltB:=KB.out.lt;clear he;have gAd:=trivial))
  go_ret;exact⟨zD3 (zAr (.inr (.inr (.inl r1)))).symm,HE0.out⟩
 cases r2:zBi p t 200
 ·go_wp2_with (first
   | (go_at_call 76;have _t:=rAd;refine(zFf _ p t 200 _ (KP.out.ext HE0.out) (by decide)).mono ?_;rintro e wr2 ⟨rfl,he⟩;rw[r2];replace HE0:=zh (HE0.out.tr he);replace KA:=zh (KA.out.ext he);replace KB:=zh (KB.out.ext he);have x0:=KA.out.cell (j:=0) rfl;have y0:=KB.out.cell (j:=0) rfl;have x1:=KA.out.cell (j:=1) rfl;have y1:=KB.out.cell (j:=1) rfl;have x2:=KA.out.cell (j:=2) rfl;have y2:=KB.out.cell (j:=2) rfl;have x3:=KA.out.cell (j:=3) rfl;have y3:=KB.out.cell (j:=3) rfl;have x4:=KA.out.cell (j:=4) rfl;have y4:=KB.out.cell (j:=4) rfl;have x5:=KA.out.cell (j:=5) rfl;have y5:=KB.out.cell (j:=5) rfl;have x6:=KA.out.cell (j:=6) rfl;have y6:=KB.out.cell (j:=6) rfl;have ltA:=KA.out.lt;have ltB:=KB.out.lt;clear he)
   | (go_at_call 76;have _t:=gBd;refine(zFf _ m t 200 _ (H.out.ext HE0.out) (by decide)).mono ?_;rintro e wr1 ⟨rfl,he⟩;rw[r1];replace HE0:=zh (HE0.out.tr he);replace KA:=zh (KA.out.ext he);replace KB:=zh (KB.out.ext he);have x0:=KA.out.cell (j:=0) rfl;have y0:=KB.out.cell (j:=0) rfl;have x1:=KA.out.cell (j:=1) rfl;have y1:=KB.out.cell (j:=1) rfl;have x2:=KA.out.cell (j:=2) rfl;have y2:=KB.out.cell (j:=2) rfl;have x3:=KA.out.cell (j:=3) rfl;have y3:=KB.out.cell (j:=3) rfl;have x4:=KA.out.cell (j:=4) rfl;have y4:=KB.out.cell (j:=4) rfl;have x5:=KA.out.cell (j:=5) rfl;have y5:=KB.out.cell (j:=5) rfl;have x6:=KA.out.cell (j:=6) rfl;have y6:=KB.out.cell (j:=6) rfl;have ltA:=KA.out.lt;have ltB:=KB.out.lt;clear he;have rAd:=trivial)
   | (go_at_call 78;have _t:=gAd;refine(zB1 _ p n _ (KP.out.ext HE0.out)).mono ?_;rintro e ws2 ⟨rfl,he⟩;rw[s2];replace HE0:=zh (HE0.out.tr he);replace KA:=zh (KA.out.ext he);replace KB:=zh (KB.out.ext he);have x0:=KA.out.cell (j:=0) rfl;have y0:=KB.out.cell (j:=0) rfl;have x1:=KA.out.cell (j:=1) rfl;have y1:=KB.out.cell (j:=1) rfl;have x2:=KA.out.cell (j:=2) rfl;have y2:=KB.out.cell (j:=2) rfl;have x3:=KA.out.cell (j:=3) rfl;have y3:=KB.out.cell (j:=3) rfl;have x4:=KA.out.cell (j:=4) rfl;have y4:=KB.out.cell (j:=4) rfl;have x5:=KA.out.cell (j:=5) rfl;have y5:=KB.out.cell (j:=5) rfl;have x6:=KA.out.cell (j:=6) rfl;have y6:=KB.out.cell (j:=6) rfl;have ltA:=KA.out.lt;have ltB:=KB.out.lt;clear he;have gBd:=trivial)
   | (go_at_call 78;refine(zB1 _ m n _ (H.out.ext HE0.out)).mono ?_;rintro e ws1 ⟨rfl,he⟩;rw[s1];replace HE0:=zh (HE0.out.tr he);replace KA:=zh (KA.out.ext he);replace KB:=zh (KB.out.ext he);have x0:=KA.out.cell (j:=0) rfl;have y0:=KB.out.cell (j:=0) rfl;have x1:=KA.out.cell (j:=1) rfl;have y1:=KB.out.cell (j:=1) rfl;have x2:=KA.out.cell (j:=2) rfl;have y2:=KB.out.cell (j:=2) rfl;have x3:=KA.out.cell (j:=3) rfl;have y3:=KB.out.cell (j:=3) rfl;have x4:=KA.out.cell (j:=4) rfl;have y4:=KB.out.cell (j:=4) rfl;have x5:=KA.out.cell (j:=5) rfl;have y5:=KB.out.cell (j:=5) rfl;have x6:=KA.out.cell (j:=6) rfl;have y6:=KB.out.cell (j:=6) rfl;have ltA:=KA.out.lt;have ltB:=KB.out.lt;clear he;have gAd:=trivial))
  go_ret;exact⟨zD3 (zAr (.inr (.inr (.inr r2)))).symm,HE0.out⟩
 obtain⟨hv1,b0,hn1⟩:=zBb.1 s1;obtain⟨hv2,_,hn2⟩:=zBb.1 s2;obtain⟨_,⟨ht0,ht4⟩,hT1⟩:=zCm.1 r1;obtain⟨_,_,hT2⟩:=zCm.1 r2;obtain⟨N,rfl⟩:∃ N:Nat,n=N:=⟨n.toNat,by omega⟩
 obtain⟨T,rfl⟩:∃ T:Nat,t=T:=⟨t.toNat,by omega⟩
 replace hn1:N < m.Cores.length:=by omega
 replace hn2:N < p.Cores.length:=by omega
 have htot1:GT.tot m<=1048576:=Nat.le_trans (zD7 hv1) (by omega)
 have htot2:GT.tot p<=1048576:=Nat.le_trans (zD7 hv2) (by omega)
 have HV1:=zh hv1;have HV2:=zh hv2;have hres:=zh (zDd s1 s2 r1 r2);clear hv1 hv2;go_upto_region 3 with (first
   | (go_at_call 76;have _t:=rAd;refine(zFf _ p T 200 _ (KP.out.ext HE0.out) (by decide)).mono ?_;rintro e wr2 ⟨rfl,he⟩;rw[r2];replace HE0:=zh (HE0.out.tr he);replace KA:=zh (KA.out.ext he);replace KB:=zh (KB.out.ext he);have x0:=KA.out.cell (j:=0) rfl;have y0:=KB.out.cell (j:=0) rfl;have x1:=KA.out.cell (j:=1) rfl;have y1:=KB.out.cell (j:=1) rfl;have x2:=KA.out.cell (j:=2) rfl;have y2:=KB.out.cell (j:=2) rfl;have x3:=KA.out.cell (j:=3) rfl;have y3:=KB.out.cell (j:=3) rfl;have x4:=KA.out.cell (j:=4) rfl;have y4:=KB.out.cell (j:=4) rfl;have x5:=KA.out.cell (j:=5) rfl;have y5:=KB.out.cell (j:=5) rfl;have x6:=KA.out.cell (j:=6) rfl;have y6:=KB.out.cell (j:=6) rfl;have ltA:=KA.out.lt;have ltB:=KB.out.lt;clear he)
   | (go_at_call 76;have _t:=gBd;refine(zFf _ m T 200 _ (H.out.ext HE0.out) (by decide)).mono ?_;rintro e wr1 ⟨rfl,he⟩;rw[r1];replace HE0:=zh (HE0.out.tr he);replace KA:=zh (KA.out.ext he);replace KB:=zh (KB.out.ext he);have x0:=KA.out.cell (j:=0) rfl;have y0:=KB.out.cell (j:=0) rfl;have x1:=KA.out.cell (j:=1) rfl;have y1:=KB.out.cell (j:=1) rfl;have x2:=KA.out.cell (j:=2) rfl;have y2:=KB.out.cell (j:=2) rfl;have x3:=KA.out.cell (j:=3) rfl;have y3:=KB.out.cell (j:=3) rfl;have x4:=KA.out.cell (j:=4) rfl;have y4:=KB.out.cell (j:=4) rfl;have x5:=KA.out.cell (j:=5) rfl;have y5:=KB.out.cell (j:=5) rfl;have x6:=KA.out.cell (j:=6) rfl;have y6:=KB.out.cell (j:=6) rfl;have ltA:=KA.out.lt;have ltB:=KB.out.lt;clear he;have rAd:=trivial)
   | (go_at_call 78;have _t:=gAd;refine(zB1 _ p N _ (KP.out.ext HE0.out)).mono ?_;rintro e ws2 ⟨rfl,he⟩;rw[s2];replace HE0:=zh (HE0.out.tr he);replace KA:=zh (KA.out.ext he);replace KB:=zh (KB.out.ext he);have x0:=KA.out.cell (j:=0) rfl;have y0:=KB.out.cell (j:=0) rfl;have x1:=KA.out.cell (j:=1) rfl;have y1:=KB.out.cell (j:=1) rfl;have x2:=KA.out.cell (j:=2) rfl;have y2:=KB.out.cell (j:=2) rfl;have x3:=KA.out.cell (j:=3) rfl;have y3:=KB.out.cell (j:=3) rfl;have x4:=KA.out.cell (j:=4) rfl;have y4:=KB.out.cell (j:=4) rfl;have x5:=KA.out.cell (j:=5) rfl;have y5:=KB.out.cell (j:=5) rfl;have x6:=KA.out.cell (j:=6) rfl;have y6:=KB.out.cell (j:=6) rfl;have ltA:=KA.out.lt;have ltB:=KB.out.lt;clear he;have gBd:=trivial)
   | (go_at_call 78;refine(zB1 _ m N _ (H.out.ext HE0.out)).mono ?_;rintro e ws1 ⟨rfl,he⟩;rw[s1];replace HE0:=zh (HE0.out.tr he);replace KA:=zh (KA.out.ext he);replace KB:=zh (KB.out.ext he);have x0:=KA.out.cell (j:=0) rfl;have y0:=KB.out.cell (j:=0) rfl;have x1:=KA.out.cell (j:=1) rfl;have y1:=KB.out.cell (j:=1) rfl;have x2:=KA.out.cell (j:=2) rfl;have y2:=KB.out.cell (j:=2) rfl;have x3:=KA.out.cell (j:=3) rfl;have y3:=KB.out.cell (j:=3) rfl;have x4:=KA.out.cell (j:=4) rfl;have y4:=KB.out.cell (j:=4) rfl;have x5:=KA.out.cell (j:=5) rfl;have y5:=KB.out.cell (j:=5) rfl;have x6:=KA.out.cell (j:=6) rfl;have y6:=KB.out.cell (j:=6) rfl;have ltA:=KA.out.lt;have ltB:=KB.out.lt;clear he;have gAd:=trivial))
 obtain⟨wz,hwz⟩:∃ x:World,x=wr2:=⟨_,rfl⟩;subst hwz;refine zK4 rfl 6 [(34,[34]),(35,[35]),(36,[36]),(37,[37]),(9,[9]),(10,[10])]
  (fun i vs u F=>match i,vs with
   | 0,[y]=>y = .agg #[.slice a0 m.Plan.Parts.length c0,.slice a1 m.Plan.Channels.length c1,.slice a2 m.Plan.Slots.length c2,.slice a3 m.Programs.length c3,.slice a4 m.Cores.length c4,.slice a5 m.Holds.length c5,.int .i64 m.Tick]
   | 1,[y] => ∃ cs,y = .agg cs.toArray/\GT.enc u cs m F
   | 2,[y]=>y = .agg #[.slice f0 p.Plan.Parts.length h0,.slice f1 p.Plan.Channels.length h1,.slice f2 p.Plan.Slots.length h2,.slice f3 p.Programs.length h3,.slice f4 p.Cores.length h4,.slice f5 p.Holds.length h5,.int .i64 p.Tick]
   | 3,[y] => ∃ cs,y = .agg cs.toArray/\GT.enc u cs p F
   | 4,[y] => ∃ B9,y = .pointer (some ⟨B9,0,none⟩)/\F = [B9]/\Bk u B9 [.slice none 0 0,.slice none 0 0,.slice none 0 0,.slice none 0 0,.slice none 0 0,.slice none 0 0,.int .i64 0] 32
   | 5,[y] => ∃ B9,y = .pointer (some ⟨B9,0,none⟩)/\F = [B9]/\Bk u B9 [.slice none 0 0,.slice none 0 0,.slice none 0 0,.slice none 0 0,.slice none 0 0,.slice none 0 0,.int .i64 0] 32
   | _,_=>False) (by decide +kernel) ?_ ?_
 ·intro i hi oo hoo U u F hE hd hap;have j0:=(zA0 hE ltA).trans x0;have j1:=(zA0 hE ltA).trans x1;have j2:=(zA0 hE ltA).trans x2;have j3:=(zA0 hE ltA).trans x3;have j4:=(zA0 hE ltA).trans x4;have j5:=(zA0 hE ltA).trans x5;have j6:=(zA0 hE ltA).trans x6;have i0:=(zA0 hE ltB).trans y0;have i1:=(zA0 hE ltB).trans y1;have i2:=(zA0 hE ltB).trans y2;have i3:=(zA0 hE ltB).trans y3;have i4:=(zA0 hE ltB).trans y4;have i5:=(zA0 hE ltB).trans y5;have i6:=(zA0 hE ltB).trans y6;rcases(by omega:i=0\/i=1\/i=2\/i=3\/i=4\/i=5) with rfl|rfl|rfl|rfl|rfl|rfl
  ·cases hoo;simp only[fr];intro K hK;go_wp2;exact zk hK _ (fun _ _=>rfl)
  ·cases hoo;simp only[fr];obtain⟨⟨d0,-⟩,-⟩:=fa [0] (by decide +kernel) hd
   simp only[fu] at d0;try simp only[d0]
   intro K hK;go_wp2_with (go_at_call 66;refine(zBy _ m _ (H.out.ext (HE0.out.tr hE)) htot1).mono ?_;rintro e w' ⟨v1,rfl,hov,ex⟩;obtain⟨cs',F',rfl,hen,how⟩:=hov)
   exact hK _ F' _ ex (fun _ h=>⟨cs',rfl,GT.ext hen h⟩) how
  ·cases hoo;simp only[fr];intro K hK;go_wp2;exact zk hK _ (fun _ _=>rfl)
  ·cases hoo;simp only[fr];obtain⟨⟨d0,-⟩,⟨d1,o1⟩,⟨d2,-⟩,-⟩:=fa [0,1,2] (by decide +kernel) hd
   simp only[fu] at d0 d1 d2;try simp only[d0,d2]
   intro K hK;go_wp2_with (go_at_call 66;refine(zBy _ p _ (KP.out.ext (HE0.out.tr hE)) htot2).mono ?_;rintro e w' ⟨v1,rfl,hov,ex⟩;obtain⟨cs',F',rfl,hen,how⟩:=hov)
   exact hK _ F' _ ex (fun _ h=>⟨cs',rfl,GT.ext hen h⟩) how
  iterate 2 (·cases hoo;simp only[fr];intro K hK;go_wp2;have b1:=Bk.new u [.slice none 0 0,.slice none 0 0,.slice none 0 0,.slice none 0 0,.slice none 0 0,.slice none 0 0,.int .i64 0] 32;exact hK _ [u.heap.size] _ ((zr u).alloc _) (fun _ h=>⟨_,rfl,rfl,b1.ext h⟩) (b1.own (Nat.le_refl _)))
 ·intro U u G hE hφ hap;simp only[List.drop_succ_cons,List.drop_zero];simp only[fr];obtain⟨⟨d0,-⟩,⟨d1,o1⟩,⟨d2,-⟩,⟨d3,o3⟩,⟨d4,o4⟩,⟨d5,o5⟩,-⟩:=fb [0,1,2,3,4,5] (by decide +kernel) hφ
  simp only[fu] at d0 d1 d2 d3 d4 d5;try simp only[d0,d2]
  obtain⟨cs1,e1,en1⟩:=d1;obtain⟨cs3,e3,en3⟩:=d3;obtain⟨B9,e9,eg9,k9⟩:=d4;obtain⟨B10,e10,eg10,k10⟩:=d5;have ap13:=hap 1 3 (by omega) (by omega) (by omega)
  have ap14:=hap 1 4 (by omega) (by omega) (by omega)
  have ap15:=hap 1 5 (by omega) (by omega) (by omega)
  have ap34:=hap 3 4 (by omega) (by omega) (by omega)
  have ap35:=hap 3 5 (by omega) (by omega) (by omega)
  have ap45:=hap 4 5 (by omega) (by omega) (by omega)
  rw[eg9] at o4 ap14 ap34 ap45;rw[eg10] at o5 ap15 ap35 ap45;have lB9:wz.heap.size<=B9:=(o4.2 B9 (by simp)).1
  have lB10:wz.heap.size<=B10:=(o5.2 B10 (by simp)).1
  have n19:B9 ∉ G 1:=fun h=>ap14 B9 h (by simp)
  have n110:B10 ∉ G 1:=fun h=>ap15 B10 h (by simp)
  have n39:B9 ∉ G 3:=fun h=>ap34 B9 h (by simp)
  have n310:B10 ∉ G 3:=fun h=>ap35 B10 h (by simp)
  have nB:B9≠B10:=fun e=>ap45 B9 (by simp) (by simp[e])
  generalize G 1=F1 at *
  generalize G 3=F3 at *
  obtain⟨v0,v1,v2,v3,v4,v5,G0,G1,G2,G3,G4,G5,rfl,⟨t0,u0,rfl,_⟩,⟨t1,u1,rfl,_⟩,⟨t2,u2,rfl,_⟩,⟨t3,u3,rfl,_⟩,⟨t4,u4,rfl,_⟩,⟨t5,u5,rfl,_⟩,_,_⟩:=id en1;obtain⟨v0,v1,v2,v3,v4,v5,G0,G1,G2,G3,G4,G5,rfl,⟨r0,s0,rfl,_⟩,⟨r1,s1',rfl,_⟩,⟨r2,s2',rfl,_⟩,⟨r3,s3,rfl,_⟩,⟨r4,s4,rfl,_⟩,⟨r5,s5,rfl,_⟩,_,_⟩:=id en3;simp only[e1,e3,e9,e10];have z0:=k9.cell (j:=0) rfl;have q0:=k10.cell (j:=0) rfl;have z1:=k9.cell (j:=1) rfl;have q1:=k10.cell (j:=1) rfl;have z2:=k9.cell (j:=2) rfl;have q2:=k10.cell (j:=2) rfl;have z3:=k9.cell (j:=3) rfl;have q3:=k10.cell (j:=3) rfl;have z4:=k9.cell (j:=4) rfl;have q4:=k10.cell (j:=4) rfl;have z5:=k9.cell (j:=5) rfl;have q5:=k10.cell (j:=5) rfl;have z6:=k9.cell (j:=6) rfl;have q6:=k10.cell (j:=6) rfl;have k9f:=k9.fz;have k10f:=k10.fz;have lt9:=k9.lt;have lt10:=k10.lt;have nB':B10≠B9:=fun e=>nB e.symm
  have K9:=zh k9;have K10:=zh k10;have EN1:=zh en1;have EN3:=zh en3;have HEu:=zh hE;have OW1:=zh o1;have OW3:=zh o3;have O4:=zh o4;have O5:=zh o5;have AP:=zh ap13;clear k9 k10 en1 en3 hE hφ hap eg9 eg10 o1 o3 o4 o5 ap13 ap14 ap15 ap34 ap35 ap45 d0 d2 e1 e3 e9 e10;go_upto_region 4 with (fail)
  refine zA1 (fun W=>Ext w W/\zF2 wz.heap.size W B9 B10 m p) ⟨(HE0.out.tr (Ext.puts (b:=B10) (o:=0) lB10 [.slice r0 p.Plan.Parts.length s0,.slice r1 p.Plan.Channels.length s1',.slice r2 p.Plan.Slots.length s2',.slice r3 p.Programs.length s3,.slice r4 p.Cores.length s4,.slice r5 p.Holds.length s5,.int .i64 p.Tick] (Ext.puts (b:=B9) (o:=0) lB9 [.slice t0 m.Plan.Parts.length u0,.slice t1 m.Plan.Channels.length u1,.slice t2 m.Plan.Slots.length u2,.slice t3 m.Programs.length u3,.slice t4 m.Cores.length u4,.slice t5 m.Holds.length u5,.int .i64 m.Tick] HEu.out))),F1,F3,?_,?_,?_⟩ ?_
  ·exact Om.ofBk ((K9.out.puts [.slice t0 m.Plan.Parts.length u0,.slice t1 m.Plan.Channels.length u1,.slice t2 m.Plan.Slots.length u2,.slice t3 m.Programs.length u3,.slice t4 m.Cores.length u4,.slice t5 m.Holds.length u5,.int .i64 m.Tick] rfl).puts_ne (c:=B10) (o:=0) (ds:=[.slice r0 p.Plan.Parts.length s0,.slice r1 p.Plan.Channels.length s1',.slice r2 p.Plan.Slots.length s2',.slice r3 p.Programs.length s3,.slice r4 p.Cores.length s4,.slice r5 p.Holds.length s5,.int .i64 p.Tick]) nB) (zBp (c:=B10) (o:=0) (ds:=[.slice r0 p.Plan.Parts.length s0,.slice r1 p.Plan.Channels.length s1',.slice r2 p.Plan.Slots.length s2',.slice r3 p.Programs.length s3,.slice r4 p.Cores.length s4,.slice r5 p.Holds.length s5,.int .i64 p.Tick]) (zBp (c:=B9) (o:=0) (ds:=[.slice t0 m.Plan.Parts.length u0,.slice t1 m.Plan.Channels.length u1,.slice t2 m.Plan.Slots.length u2,.slice t3 m.Programs.length u3,.slice t4 m.Cores.length u4,.slice t5 m.Holds.length u5,.int .i64 m.Tick]) EN1.out n19) n110) ((OW1.out.puts (b:=B9) (o:=0) [.slice t0 m.Plan.Parts.length u0,.slice t1 m.Plan.Channels.length u1,.slice t2 m.Plan.Slots.length u2,.slice t3 m.Programs.length u3,.slice t4 m.Cores.length u4,.slice t5 m.Holds.length u5,.int .i64 m.Tick]).puts (b:=B10) (o:=0) [.slice r0 p.Plan.Parts.length s0,.slice r1 p.Plan.Channels.length s1',.slice r2 p.Plan.Slots.length s2',.slice r3 p.Programs.length s3,.slice r4 p.Cores.length s4,.slice r5 p.Holds.length s5,.int .i64 p.Tick]) lB9 n19
  ·exact Om.ofBk ((K10.out.puts_ne (c:=B9) (o:=0) (ds:=[.slice t0 m.Plan.Parts.length u0,.slice t1 m.Plan.Channels.length u1,.slice t2 m.Plan.Slots.length u2,.slice t3 m.Programs.length u3,.slice t4 m.Cores.length u4,.slice t5 m.Holds.length u5,.int .i64 m.Tick]) nB').puts [.slice r0 p.Plan.Parts.length s0,.slice r1 p.Plan.Channels.length s1',.slice r2 p.Plan.Slots.length s2',.slice r3 p.Programs.length s3,.slice r4 p.Cores.length s4,.slice r5 p.Holds.length s5,.int .i64 p.Tick] rfl) (zBp (c:=B10) (o:=0) (ds:=[.slice r0 p.Plan.Parts.length s0,.slice r1 p.Plan.Channels.length s1',.slice r2 p.Plan.Slots.length s2',.slice r3 p.Programs.length s3,.slice r4 p.Cores.length s4,.slice r5 p.Holds.length s5,.int .i64 p.Tick]) (zBp (c:=B9) (o:=0) (ds:=[.slice t0 m.Plan.Parts.length u0,.slice t1 m.Plan.Channels.length u1,.slice t2 m.Plan.Slots.length u2,.slice t3 m.Programs.length u3,.slice t4 m.Cores.length u4,.slice t5 m.Holds.length u5,.int .i64 m.Tick]) EN3.out n39) n310) ((OW3.out.puts (b:=B9) (o:=0) [.slice t0 m.Plan.Parts.length u0,.slice t1 m.Plan.Channels.length u1,.slice t2 m.Plan.Slots.length u2,.slice t3 m.Programs.length u3,.slice t4 m.Cores.length u4,.slice t5 m.Holds.length u5,.int .i64 m.Tick]).puts (b:=B10) (o:=0) [.slice r0 p.Plan.Parts.length s0,.slice r1 p.Plan.Channels.length s1',.slice r2 p.Plan.Slots.length s2',.slice r3 p.Programs.length s3,.slice r4 p.Cores.length s4,.slice r5 p.Holds.length s5,.int .i64 p.Tick]) lB10 n310
  ·intro k hk hm;rcases List.mem_cons.1 hk with rfl|hk
   ·rcases List.mem_cons.1 hm with e|hm
    ·exact nB e
    ·exact n39 hm
   ·rcases List.mem_cons.1 hm with rfl|hm
    ·exact n110 hk
    ·exact AP.out k hk hm
  rintro W6 ⟨e6,two⟩;have E6:=zh e6;have TW:=zh two;have hLz:w.heap.size<=wz.heap.size:=HE0.out.sz;clear e6 two K9 K10 EN1 EN3 HEu OW1 OW3 O4 O5 AP k9f k10f lt9 lt10 z0 q0 x0 y0 z1 q1 x1 y1 z2 q2 x2 y2 z3 q3 x3 y3 z4 q4 x4 y4 z5 q5 x5 y5 z6 q6 x6 y6;go_wp2;go_loopw [11] (fun i wr => ∃ (k:Nat),k<=T/\i = .int .i64 k/\zF2 wz.heap.size wr B9 B10 (zAj m k) (zAj p k)/\Ext w wr/\Hid (zJk m p N T 0=zJk m p N (T - k) k)) (fun i _=>T - (intOf i).toNat)
  case atStart=>exact⟨0,Nat.zero_le _,rfl,TW.out,E6.out,zh rfl⟩
  case round =>
   clear TW E6;obtain⟨k,hk,rfl,two,er,hfd⟩:=hrel;have TW:=zh two;have ER:=zh er;clear two er;obtain⟨hv1,ht1,-,-,hc1,-⟩:=zDh HV1.out k (by omega)
   obtain⟨hv2,ht2,-,-,hc2,-⟩:=zDh HV2.out k (by omega)
   have HVk1:=zh hv1;have HVk2:=zh hv2;have hnk1:N < (zAj m k).Cores.length:=by rw[hc1];exact hn1
   have hnk2:N < (zAj p k).Cores.length:=by rw[hc2];exact hn2
   have HT1:=zh ht1;have HT2:=zh ht2;clear hv1 hv2 hc1 hc2 ht1 ht2;cases hq:Eqb (zAe (zAj m k) N) (zAe (zAj p k) N)
   ·have hne:¬ zAe (zAj m k) N=zAe (zAj p k) N:=fun e=>by rw[Eqb.t e] at hq;cases hq
    have HFD:Hid (zJk m p N T 0=k):=zh (hfd.out.trans (zKi hne));clear hne hfd
    go_wp2_with (first
      | (go_at_call 79;refine(zAo _ _ _ _ _ (HR1.out.ext E2.out) HR2.out).mono ?_;rintro e w4 ⟨rfl,he⟩;rw[hq];replace ER:=zh (((ER.out.tr E1.out).tr E2.out).tr he);replace TW:=zh (((TW.out.ext E1.out).ext E2.out).ext he);clear he;have eqd:=trivial)
      | (go_at_call 86;have _t:=E1;refine(zDa B10 (zAj p k) N _ ((TW.out.bm2).ext E1.out) HVk2.out hnk2).mono ?_;rintro e v2' ⟨a2',rfl,ho,he⟩;have HR2:=zh ho.rs;have E2:=zh he;clear ho he)
      | (go_at_call 86;refine(zDa B9 (zAj m k) N _ TW.out.bm1 HVk1.out hnk1).mono ?_;rintro e v1' ⟨a1',rfl,ho,he⟩;have HR1:=zh ho.rs;have E1:=zh he;clear ho he))
    go_ret;exact⟨zD3 (by rw[hres.out,HFD.out]),ER.out⟩
   ·have heq:=Eqb.iff.1 hq;by_cases hkT:k=T
    ·have HFD:Hid (zJk m p N T 0 = -1):=zh (hfd.out.trans (by rw[hkT,Nat.sub_self];exact zNo (hkT ▸ heq)))
     have hb:((k:Int) == (T:Int))=true:=by simp[hkT]
     clear heq hfd hkT
     go_wp2_with (first
      | (go_at_call 79;refine(zAo _ _ _ _ _ (HR1.out.ext E2.out) HR2.out).mono ?_;rintro e w4 ⟨rfl,he⟩;rw[hq];replace ER:=zh (((ER.out.tr E1.out).tr E2.out).tr he);replace TW:=zh (((TW.out.ext E1.out).ext E2.out).ext he);clear he;have eqd:=trivial)
      | (go_at_call 86;have _t:=E1;refine(zDa B10 (zAj p k) N _ ((TW.out.bm2).ext E1.out) HVk2.out hnk2).mono ?_;rintro e v2' ⟨a2',rfl,ho,he⟩;have HR2:=zh ho.rs;have E2:=zh he;clear ho he)
      | (go_at_call 86;refine(zDa B9 (zAj m k) N _ TW.out.bm1 HVk1.out hnk1).mono ?_;rintro e v1' ⟨a1',rfl,ho,he⟩;have HR1:=zh ho.rs;have E1:=zh he;clear ho he))
     go_ret;exact⟨zD3 (by rw[hres.out,HFD.out]),ER.out⟩
    ·have HFD:Hid (zJk m p N T 0=zJk m p N (T - (k+1)) (k+1)):=zh (hfd.out.trans (by rw[show T - k=(T - (k+1))+1 by omega];exact zNm heq))
     have hb:((k:Int) == (T:Int))=false:=beq_eq_false_iff_ne.2 (by omega)
     have hkt:k < T:=by omega
     clear heq hfd hkT
     go_wp2_with (first
      | (go_at_call 72;have _t:=tk1;go_loud (refine(zF2.tick TW.out.swap HVk2.out (by rw[HT2.out];omega) ER.out hLz).mono ?_;rintro e w8 ⟨rfl,two,er⟩;replace TW:=zh two.swap;replace ER:=zh er;clear two er))
      | (go_at_call 72;have _t:=eqd;go_loud (refine(zF2.tick TW.out HVk1.out (by rw[HT1.out];omega) ER.out hLz).mono ?_;rintro e w7 ⟨rfl,two,er⟩;replace TW:=zh two;replace ER:=zh er;clear two er;have tk1:=trivial))
      | (go_at_call 79;refine(zAo _ _ _ _ _ (HR1.out.ext E2.out) HR2.out).mono ?_;rintro e w4 ⟨rfl,he⟩;rw[hq];replace ER:=zh (((ER.out.tr E1.out).tr E2.out).tr he);replace TW:=zh (((TW.out.ext E1.out).ext E2.out).ext he);clear he;have eqd:=trivial)
      | (go_at_call 86;have _t:=E1;refine(zDa B10 (zAj p k) N _ ((TW.out.bm2).ext E1.out) HVk2.out hnk2).mono ?_;rintro e v2' ⟨a2',rfl,ho,he⟩;have HR2:=zh ho.rs;have E2:=zh he;clear ho he)
      | (go_at_call 86;refine(zDa B9 (zAj m k) N _ TW.out.bm1 HVk1.out hnk1).mono ?_;rintro e v1' ⟨a1',rfl,ho,he⟩;have HR1:=zh ho.rs;have E1:=zh he;clear ho he))
     go_roundw
     case rel=>exact⟨k+1,by omega,by go_num,TW.out,ER.out,HFD⟩
     case measure=>simp[intOf];omega
end Sk
