/- Contracts of functions of the given program, each under the condition that it states. -/
import Derived.Test.YtfbkkjihlncnhaaGreatChecked
import Derived.Deep.CutBlock
import Derived.Deep.CutRange
import Derived.Test.YtfbkkjihlncnhaaGreatZxMch
import Derived.Test.YtfbkkjihlncnhaaGreatCutC
import Derived.Test.YtfbkkjihlncnhaaGreatBuild
import Derived.Test.YtfbkkjihlncnhaaGreatBase
import Derived.Test.YtfbkkjihlncnhaaGreatTypes
import Derived.Test.YtfbkkjihlncnhaaGreatApp
import Derived.Test.YtfbkkjihlncnhaaGreatNumsS
import Derived.Test.YtfbkkjihlncnhaaGreatValid
import Derived.Test.YtfbkkjihlncnhaaGreatMachV
import Derived.Test.YtfbkkjihlncnhaaGreatAcc
import Derived.Test.YtfbkkjihlncnhaaGreatDraw
import Derived.Test.YtfbkkjihlncnhaaGreatRstT
import Derived.Test.YtfbkkjihlncnhaaGreatRsP
namespace Sk
open Go Go.Proofs Go.RowKit
set_option maxHeartbeats 4000000
set_option maxRecDepth 100000
set_option linter.unusedVariables false
set_option linter.unusedSimpArgs false
theorem Rvb.openMc {L:Nat} {w:World} {v:Value} {x:Machine} (h:Rvb L w v x):∃ p0 q0 p1 q1 p2 q2 p3 q3 p4 q4 p5 q5,v = .agg #[.slice p0 x.Plan.Parts.length q0,.slice p1 x.Plan.Channels.length q1,.slice p2 x.Plan.Slots.length q2,.slice p3 x.Programs.length q3,.slice p4 x.Cores.length q4,.slice p5 x.Holds.length q5,.int .i64 x.Tick]∧x.Cores.length≤9223372036854775807:=by
 obtain ⟨cs,F,rfl,⟨v0,v1,v2,v3,v4,v5,F0,F1,F2,F3,F4,F5,rfl,⟨_,_,rfl,_⟩,⟨_,_,rfl,_⟩,⟨_,_,rfl,_⟩,⟨_,_,rfl,_⟩,h4,⟨_,_,rfl,_⟩,_⟩,_⟩:=h
 obtain ⟨a4,c4,rfl,g4⟩:=Rs.form ⟨_,h4⟩
 exact ⟨_,_,_,_,_,_,_,_,_,_,_,_,rfl,g4⟩
theorem spec_l20Spot (W w:World) (b m:Nat) (h:Rd W w b (m+1200)) :
  Calls Tryz.prog 53 #[.pointer (some ⟨b,0,none⟩)] w fun e w' => ∃ v' x n,e = .returned (.tuple #[v',.int .i64 n])∧Rvb (α:=Machine) w.heap.size w' v' x∧GT.tot x≤200000∧(-1≤n∧n≤200000)∧Mw [b] w w'∧Rd W w' b m:=by
 have H:=zh h
 have hbl:=h.lt
 have hbW:=h.1
 have hWw:=h.2.1.sz
 clear h
 go_enter Tryz.func53,Tryz.ntmps53
 go_upto_region 1 with (fail)
 refine abs_world (fun W0=>Ext w W0∧Bk W0 w.heap.size [.slice none 0 0,.slice none 0 0,.slice none 0 0,.slice none 0 0,.slice none 0 0,.slice none 0 0,.int .i64 0] 32) ⟨(Ext.refl _).alloc _,Bk.new _ _ _⟩ ?_
 rintro W0 ⟨e0,kA⟩
 have HE0:=zh e0
 have KA:=zh kA
 have hA:=kA.lt
 clear e0 kA
 go_upto_region 2 with (go_at_call 88;refine (spec_l20Machine W _ b (m+100) 14 (H.out.ext HE0.out) ⟨by omega,by omega⟩).mono ?_;rintro e w1 ⟨v1,x,rfl,hv,htt,-,hm,hr⟩;obtain ⟨p0,q0,p1,q1,p2,q2,p3,q3,p4,q4,p5,q5,rfl,hcl⟩:=hv.openMc;have KA1:=zh (hm.bk KA.out (by simp;omega));have HV:=zh (hv.mono (L':=w.heap.size+1) (by omega));have HTT:=zh htt;have MW:=zh ((Mw.ofExt HE0.out).tr hm);have RD:=zh hr;clear hm hr hv htt)
 have hxc:x.Cores.length≤200000:=by
  have h1:=M.tot_eq x
  have h2:=tot_len (xs:=x.Cores)
  have:=HTT.out
  omega
 obtain ⟨B,hB⟩:∃ B,B=w1.heap.size:=⟨_,rfl⟩
 have hAB:w.heap.size < B:=by have:=KA1.out.lt;omega
 refine abs_world (fun u=>Ext w1 u∧Bk u B [.slice p0 x.Plan.Parts.length q0,.slice p1 x.Plan.Channels.length q1,.slice p2 x.Plan.Slots.length q2,.slice p3 x.Programs.length q3,.slice p4 x.Cores.length q4,.slice p5 x.Holds.length q5,.int .i64 x.Tick] 32) ⟨(Ext.refl _).alloc _,by rw [hB];exact Bk.new _ _ _⟩ ?_
 rw [← hB]
 clear hB
 rintro W2 ⟨e2,kB⟩
 have ltB:=kB.lt
 obtain ⟨f0,f1,f2,f3,f4,f5,f6⟩:=Bk.k7 kB
 have MW2:=zh (MW.out.tr (Mw.ofExt e2))
 have KA2:=zh (KA1.out.ext e2)
 have HV2:=zh (HV.out.ext e2)
 have RD2:Hid (Rd W W2 b (m+98+1+1)):=zh ((RD.out.ext e2).le (by omega))
 have hbB:B ∉ [b]:=by simp;omega
 have hbA:w.heap.size ∉ [b]:=by simp;omega
 have KB2:=zh kB
 have hneA:B≠w.heap.size:=by omega
 clear e2 kB KA1 MW HV RD KA H
 have hwr:IntKind.i64.wrap ((x.Cores.length:Int)+1)=(x.Cores.length:Int)+1:=wrap_small (by omega) (by omega)
 go_region_held3 (fun u=>u.cell? ⟨B,0,none⟩=some (.slice p0 x.Plan.Parts.length q0)∧u.cell? ⟨B,1,none⟩=some (.slice p1 x.Plan.Channels.length q1)∧u.cell? ⟨B,2,none⟩=some (.slice p2 x.Plan.Slots.length q2)∧u.cell? ⟨B,3,none⟩=some (.slice p3 x.Programs.length q3)∧u.cell? ⟨B,4,none⟩=some (.slice p4 x.Cores.length q4)∧u.cell? ⟨B,5,none⟩=some (.slice p5 x.Holds.length q5)∧u.cell? ⟨B,6,none⟩=some (.int .i64 x.Tick))
  (first
   | go_keep
   | exact ⟨(KB4.out.puts_ne (b:=B) (c:=w.heap.size) (o:=0) (ds:=[.slice p0 x.Plan.Parts.length q0,.slice p1 x.Plan.Channels.length q1,.slice p2 x.Plan.Slots.length q2,.slice p3 x.Programs.length q3,.slice p4 x.Cores.length q4,.slice p5 x.Holds.length q5,.int .i64 x.Tick]) hneA).cell (j:=0) rfl,(KB4.out.puts_ne (b:=B) (c:=w.heap.size) (o:=0) (ds:=[.slice p0 x.Plan.Parts.length q0,.slice p1 x.Plan.Channels.length q1,.slice p2 x.Plan.Slots.length q2,.slice p3 x.Programs.length q3,.slice p4 x.Cores.length q4,.slice p5 x.Holds.length q5,.int .i64 x.Tick]) hneA).cell (j:=1) rfl,(KB4.out.puts_ne (b:=B) (c:=w.heap.size) (o:=0) (ds:=[.slice p0 x.Plan.Parts.length q0,.slice p1 x.Plan.Channels.length q1,.slice p2 x.Plan.Slots.length q2,.slice p3 x.Programs.length q3,.slice p4 x.Cores.length q4,.slice p5 x.Holds.length q5,.int .i64 x.Tick]) hneA).cell (j:=2) rfl,(KB4.out.puts_ne (b:=B) (c:=w.heap.size) (o:=0) (ds:=[.slice p0 x.Plan.Parts.length q0,.slice p1 x.Plan.Channels.length q1,.slice p2 x.Plan.Slots.length q2,.slice p3 x.Programs.length q3,.slice p4 x.Cores.length q4,.slice p5 x.Holds.length q5,.int .i64 x.Tick]) hneA).cell (j:=3) rfl,(KB4.out.puts_ne (b:=B) (c:=w.heap.size) (o:=0) (ds:=[.slice p0 x.Plan.Parts.length q0,.slice p1 x.Plan.Channels.length q1,.slice p2 x.Plan.Slots.length q2,.slice p3 x.Programs.length q3,.slice p4 x.Cores.length q4,.slice p5 x.Holds.length q5,.int .i64 x.Tick]) hneA).cell (j:=4) rfl,(KB4.out.puts_ne (b:=B) (c:=w.heap.size) (o:=0) (ds:=[.slice p0 x.Plan.Parts.length q0,.slice p1 x.Plan.Channels.length q1,.slice p2 x.Plan.Slots.length q2,.slice p3 x.Programs.length q3,.slice p4 x.Cores.length q4,.slice p5 x.Holds.length q5,.int .i64 x.Tick]) hneA).cell (j:=5) rfl,(KB4.out.puts_ne (b:=B) (c:=w.heap.size) (o:=0) (ds:=[.slice p0 x.Plan.Parts.length q0,.slice p1 x.Plan.Channels.length q1,.slice p2 x.Plan.Slots.length q2,.slice p3 x.Programs.length q3,.slice p4 x.Cores.length q4,.slice p5 x.Holds.length q5,.int .i64 x.Tick]) hneA).cell (j:=6) rfl⟩)
  (first
   | (go_at_call 80;refine (spec_pick W _ b (m+98+1) _ (RD2.out.ext (Ext.refl W2).drew) (rng_sm (by omega) (by omega))).mono ?_;rintro e w3 ⟨k,rfl,hk,hm,hr⟩;have hkb:=hk.lt (by omega);have M3:=zh ((Mw.ofExt (F:=[b]) (Ext.refl W2).drew).tr (Mw.ofMo hm));have RD3:=zh hr;have KB3:=zh (M3.out.bk KB2.out hbB);obtain ⟨g0,g1,g2,g3,g4,g5,g6⟩:=Bk.k7 KB3.out;have ltB3:=KB3.out.lt;clear hk hm hr)
   | (go_at_call 80;refine (spec_pick W _ b (m+98) _ RD3.out (rng_sm (by omega) (by omega))).mono ?_;rintro e w4 ⟨k2,rfl,hk,hm,hr⟩;have hkb2:=hk.lt (by omega);have M4:=zh (M3.out.tr (Mw.ofMo hm));have RD4:=zh hr;have KA4:=zh (M4.out.bk KA2.out hbA);have KB4:=zh (M4.out.bk KB2.out hbB);obtain ⟨h0,h1,h2,h3,h4,h5,h6⟩:=Bk.k7 KB4.out;have ltB4:=KB4.out.lt;obtain ⟨z0,z1,z2,z3,z4,z5,z6⟩:=Bk.k7 KA4.out;have zf:=KA4.out.fz;have ltZ:=KA4.out.lt;clear hk hm hr))
 obtain ⟨j1,j2⟩:=hkb2
 obtain ⟨j3,j4⟩:=hkb
 have hq:0≤k2.tdiv 13∧k2.tdiv 13≤1:=by rw [Int.tdiv_eq_ediv_of_nonneg j1];omega
 obtain ⟨q,hq0⟩:∃ q,k2.tdiv 13=q:=⟨_,rfl⟩
 rw [hq0] at hq ⊢
 have hw1:IntKind.i64.wrap q=q:=wrap_small (by omega) (by omega)
 rw [hw1]
 have hw2:IntKind.i64.wrap (k - q)=k - q:=wrap_small (by omega) (by omega)
 rw [hw2]
 obtain ⟨n,hn⟩:∃ n,k - q=n:=⟨_,rfl⟩
 have hnb : -1≤n∧n≤200000:=by omega
 rw [hn]
 clear hn hq0 hw1 hw2 hwr
 clear f0 f1 f2 f3 f4 f5 f6 g0 g1 g2 g3 g4 g5 g6 h0 h1 h2 h3 h4 h5 h6
 go_wp2
 refine bodyPost_ret (v:=.tuple #[.agg #[.slice p0 x.Plan.Parts.length q0,.slice p1 x.Plan.Channels.length q1,.slice p2 x.Plan.Slots.length q2,.slice p3 x.Programs.length q3,.slice p4 x.Cores.length q4,.slice p5 x.Holds.length q5,.int .i64 x.Tick],.int .i64 n]) (by simp [results,Tryz.results53,go_sem,z0,z1,z2,z3,z4,z5,z6]) rfl ⟨_,x,n,rfl,?_,HTT.out,hnb,?_,?_⟩
 ·exact (Rvb.puts (A:=w.heap.size) (o:=0) (by omega) [.slice p0 x.Plan.Parts.length q0,.slice p1 x.Plan.Channels.length q1,.slice p2 x.Plan.Slots.length q2,.slice p3 x.Programs.length q3,.slice p4 x.Cores.length q4,.slice p5 x.Holds.length q5,.int .i64 x.Tick] (HV2.out.mw M4.out (by simp;omega))).mono (by omega)
 ·exact Mw.puts (b:=w.heap.size) (o:=0) (.inr (Nat.le_refl _)) [.slice p0 x.Plan.Parts.length q0,.slice p1 x.Plan.Channels.length q1,.slice p2 x.Plan.Slots.length q2,.slice p3 x.Programs.length q3,.slice p4 x.Cores.length q4,.slice p5 x.Holds.length q5,.int .i64 x.Tick] (MW2.out.tr M4.out)
 ·exact (Rd.puts (c:=w.heap.size) (o:=0) (by omega) (by omega) [.slice p0 x.Plan.Parts.length q0,.slice p1 x.Plan.Channels.length q1,.slice p2 x.Plan.Slots.length q2,.slice p3 x.Programs.length q3,.slice p4 x.Cores.length q4,.slice p5 x.Holds.length q5,.int .i64 x.Tick] RD4.out).le (by omega)
set_option maxHeartbeats 8000000
theorem law_sameCore (v1 v2:Value) (x:Core) (w:World) (h1:Rv w v1 x) (h2:Rv w v2 x) :
  Calls Tryz.prog 20 #[v1,v2] w fun e w'=>e = .returned (.bool true)∧Ext w w':=by
 obtain ⟨a0,c0,rfl,r1,hs1,l1⟩:=h1.openCore
 obtain ⟨b0,d0,rfl,r2,hs2,l2⟩:=h2.openCore
 clear h1 h2
 go_enter Tryz.func20,Tryz.ntmps20
 go_upto_region 1 with (fail)
 refine abs_world (fun W=>Ext w W∧Bk W w.heap.size [.slice a0 x.Cells.length c0,.int .i64 x.At,.bool x.Stopped] 41∧Bk W (w.heap.size+1) [.slice b0 x.Cells.length d0,.int .i64 x.At,.bool x.Stopped] 41) ⟨((Ext.refl _).alloc _).alloc _,(Bk.new _ _ _).ext ((Ext.refl _).alloc _),Bk.new1 _ _ _ _⟩ ?_
 rintro W ⟨e1,kA,kB⟩
 have E:=zh e1
 have KA:=zh kA
 have KB:=zh kB
 have ltA:=kA.lt
 have ltB:=kB.lt
 obtain ⟨x0,x1,x2⟩:=Bk.k3 kA
 obtain ⟨y0,y1,y2⟩:=Bk.k3 kB
 clear e1 kA kB
 have q1:(x.At == x.At)=true:=by simp
 have q2:(x.Stopped == x.Stopped)=true:=by simp
 go_wp2_with (go_at_call 21;refine (law_sameInts _ _ x.Cells x.Cells _ (hs1.out.ext E.out) (hs2.out.ext E.out)).mono ?_;rintro e w1 ⟨rfl,he⟩;rw [Eqb.t (rfl:x.Cells=x.Cells)];have E1:=zh (E.out.tr he);have p1:=(KA.out.ext he).cell (j:=1) rfl;have p2:=(KA.out.ext he).cell (j:=2) rfl;have s1:=(KB.out.ext he).cell (j:=1) rfl;have s2:=(KB.out.ext he).cell (j:=2) rfl;clear he)
 go_ret
 exact ⟨(by first | rfl | exact wp_cond_ret rfl | simp),E1.out⟩
theorem law_sameMachine (v1 v2:Value) (x:Machine) (w:World) (h1:Rv w v1 x) (h2:Rv w v2 x) :
  Calls Tryz.prog 17 #[v1,v2] w fun e w'=>e = .returned (.bool true)∧Ext w w':=by
 obtain ⟨a0,c0,a1,c1,a2,c2,a3,c3,a4,c4,a5,c5,rfl,r6,h0,l0,h1',l1,h2',l2,h3,l3,h4,l4,h5,l5⟩:=h1.openMachine
 obtain ⟨b0,d0,b1,d1,b2,d2,b3,d3,b4,d4,b5,d5,rfl,s6,g0,m0,g1,m1,g2,m2,g3,m3,g4,m4,g5,m5⟩:=h2.openMachine
 clear h1 h2
 go_enter Tryz.func17,Tryz.ntmps17
 go_upto_region 1 with (fail)
 refine abs_world (fun W=>Ext w W∧Bk W w.heap.size [.slice a0 x.Plan.Parts.length c0,.slice a1 x.Plan.Channels.length c1,.slice a2 x.Plan.Slots.length c2,.slice a3 x.Programs.length c3,.slice a4 x.Cores.length c4,.slice a5 x.Holds.length c5,.int .i64 x.Tick] 32∧Bk W (w.heap.size+1) [.slice b0 x.Plan.Parts.length d0,.slice b1 x.Plan.Channels.length d1,.slice b2 x.Plan.Slots.length d2,.slice b3 x.Programs.length d3,.slice b4 x.Cores.length d4,.slice b5 x.Holds.length d5,.int .i64 x.Tick] 32) ⟨((Ext.refl _).alloc _).alloc _,(Bk.new _ _ _).ext ((Ext.refl _).alloc _),Bk.new1 _ _ _ _⟩ ?_
 rintro W ⟨e1,kA,kB⟩
 have E:=zh e1
 have KA:=zh kA
 have KB:=zh kB
 have ltA:=kA.lt
 have ltB:=kB.lt
 obtain ⟨x0,x1,x2,x3,x4,x5,x6⟩:=Bk.k7 kA
 obtain ⟨y0,y1,y2,y3,y4,y5,y6⟩:=Bk.k7 kB
 clear e1 kA kB
 have HS1:=zh (fun (u:World) (e:Ext w u)=>spec_SetupNumbers _ x.Plan u (Rv.mkSetup (h0.out.ext e) (h1'.out.ext e) (h2'.out.ext e)))
 have HS2:=zh (fun (u:World) (e:Ext w u)=>spec_SetupNumbers _ x.Plan u (Rv.mkSetup (g0.out.ext e) (g1.out.ext e) (g2.out.ext e)))
 obtain ⟨N,hN⟩:∃ N,M.numbers x.Plan=N:=⟨_,rfl⟩
 rw [hN] at HS1 HS2
 clear hN
 have qt:(x.Tick != x.Tick)=false:=by simp
 go_region_held3 (fun u=>u.cell? ⟨w.heap.size,0,none⟩=some (.slice a0 x.Plan.Parts.length c0)∧u.cell? ⟨w.heap.size,1,none⟩=some (.slice a1 x.Plan.Channels.length c1)∧u.cell? ⟨w.heap.size,2,none⟩=some (.slice a2 x.Plan.Slots.length c2)∧u.cell? ⟨w.heap.size,3,none⟩=some (.slice a3 x.Programs.length c3)∧u.cell? ⟨w.heap.size,4,none⟩=some (.slice a4 x.Cores.length c4)∧u.cell? ⟨w.heap.size,5,none⟩=some (.slice a5 x.Holds.length c5)∧u.cell? ⟨w.heap.size,6,none⟩=some (.int .i64 x.Tick)∧u.cell? ⟨w.heap.size+1,0,none⟩=some (.slice b0 x.Plan.Parts.length d0)∧u.cell? ⟨w.heap.size+1,1,none⟩=some (.slice b1 x.Plan.Channels.length d1)∧u.cell? ⟨w.heap.size+1,2,none⟩=some (.slice b2 x.Plan.Slots.length d2)∧u.cell? ⟨w.heap.size+1,3,none⟩=some (.slice b3 x.Programs.length d3)∧u.cell? ⟨w.heap.size+1,4,none⟩=some (.slice b4 x.Cores.length d4)∧u.cell? ⟨w.heap.size+1,5,none⟩=some (.slice b5 x.Holds.length d5)∧u.cell? ⟨w.heap.size+1,6,none⟩=some (.int .i64 x.Tick))
  (go_keep)
  (first
   | (go_at_call 58;refine (HS1.out _ (E.out.tr (Ext.refl W).drew)).mono ?_;rintro e w4 ⟨v4,rfl,ho,he⟩;have HO4:=zh ho.rs;obtain ⟨p4,q4,rfl,_⟩:=ho.rs.form;have E4:=zh ((Ext.refl W).drew.tr he);clear ho he HS1;have KA4:=zh (KA.out.ext E4.out);have KB4:=zh (KB.out.ext E4.out);obtain ⟨z0,z1,z2,z3,z4,z5,z6⟩:=Bk.k7 KA4.out;obtain ⟨t0,t1,t2,t3,t4,t5,t6⟩:=Bk.k7 KB4.out;clear KA4 KB4)
   | (go_at_call 58;refine (HS2.out _ (E.out.tr E4.out)).mono ?_;rintro e w5 ⟨v5,rfl,ho,he⟩;have HO5:=zh ho.rs;obtain ⟨p5,q5,rfl,_⟩:=ho.rs.form;replace HO4:=zh (HO4.out.ext he);replace E4:=zh (E4.out.tr he);clear ho he;have KA4:=zh (KA.out.ext E4.out);have KB4:=zh (KB.out.ext E4.out);obtain ⟨z0,z1,z2,z3,z4,z5,z6⟩:=Bk.k7 KA4.out;obtain ⟨t0,t1,t2,t3,t4,t5,t6⟩:=Bk.k7 KB4.out;clear KA4 KB4)
   | (go_at_call 21;refine (law_sameInts _ _ N N _ HO4.out HO5.out).mono ?_;rintro e w6 ⟨rfl,he⟩;rw [Eqb.t (rfl:N=N)];replace E4:=zh (E4.out.tr he);clear he;have KA4:=zh (KA.out.ext E4.out);have KB4:=zh (KB.out.ext E4.out);obtain ⟨z0,z1,z2,z3,z4,z5,z6⟩:=Bk.k7 KA4.out;obtain ⟨t0,t1,t2,t3,t4,t5,t6⟩:=Bk.k7 KB4.out;clear KA4 KB4))
 clear x0 y0 x1 y1 x2 y2 x3 y3 x4 y4 x5 y5 x6 y6
 have x3:=(KA.out.ext E4.out).cell (j:=3) rfl
 have lA3:=(KA.out.ext E4.out).lt
 go_wp2
 go_loopw [5] (fun i wr => ∃ k:Nat,k≤x.Programs.length∧i = .int .i64 k∧Ext W wr) (fun i _=>x.Programs.length - (intOf i).toNat)
 case atStart=>exact ⟨0,Nat.zero_le _,rfl,E4.out⟩
 case round =>
  obtain ⟨k,hk,rfl,er⟩:=hrel
  have ER:=zh er
  have ka:=KA.out.ext er
  have kb:=KB.out.ext er
  have u3:=ka.cell (j:=3) rfl
  have v3:=kb.cell (j:=3) rfl
  have lua:=ka.lt
  have lub:=kb.lt
  clear er
  by_cases hkt:k < x.Programs.length
  ·obtain ⟨b,o,p,pa,pc,rfl,hb,hx,hp0,hs0,hl0⟩:=(h3.out.ext (E.out.tr ER.out)).atList k hkt
   obtain ⟨b2,o2,p2,qa,qc,rfl,hb2,hx2,hq0,hs2,hl2⟩:=(g3.out.ext (E.out.tr ER.out)).atList k hkt
   obtain rfl:p2=p:=Option.some.inj (hx2.out.symm.trans hx.out)
   clear hx hx2
   clear ka kb
   go_wp2
   go_region_held3 (fun u=>u.cell? ⟨w.heap.size,3,none⟩=some (.slice (some ⟨b,o,none⟩) x.Programs.length c3)∧u.cell? ⟨w.heap.size+1,3,none⟩=some (.slice (some ⟨b2,o2,none⟩) x.Programs.length d3)∧u.cell? ⟨b,o+k,none⟩=some (.slice pa p2.length pc)∧u.cell? ⟨b2,o2+k,none⟩=some (.slice qa p2.length qc))
    (go_keep)
    ((go_at_call 43;refine (law_sameOrders _ _ p2 p2 _ (hs0.out.ext (Ext.refl wr).drew) (hs2.out.ext (Ext.refl wr).drew)).mono ?_;rintro e w9 ⟨rfl,he⟩;rw [Eqb.t (rfl:p2=p2)];have E9:=zh ((Ext.refl wr).drew.tr he);have q0:=(cell_ext E9.out lua).trans u3;have q1:=(cell_ext E9.out lub).trans v3;have q2:=(cell_ext E9.out hb).trans hp0;have q3:=(cell_ext E9.out hb2).trans hq0;clear he))
   go_wp2
   exact ⟨⟨k+1,by omega,by go_num,ER.out.tr E9.out⟩,by simp [intOf];omega⟩
  ·obtain rfl:k=x.Programs.length:=by omega
   have u4:=ka.cell (j:=4) rfl
   clear ka kb v3
   obtain ⟨wo,rfl⟩:∃ wo,wo=wr:=⟨_,rfl⟩
   go_wp2
   go_loopw [6] (fun i wr => ∃ k:Nat,k≤x.Cores.length∧i = .int .i64 k∧Ext W wr) (fun i _=>x.Cores.length - (intOf i).toNat)
   case atStart=>exact ⟨0,Nat.zero_le _,rfl,ER.out⟩
   case round =>
    obtain ⟨k,hk,rfl,er⟩:=hrel
    have ER:=zh er
    have ka:=KA.out.ext er
    have kb:=KB.out.ext er
    have u4:=ka.cell (j:=4) rfl
    have v4:=kb.cell (j:=4) rfl
    have lua:=ka.lt
    have lub:=kb.lt
    clear er
    by_cases hkt:k < x.Cores.length
    ·obtain ⟨b,o,p,pa,pc,rfl,hb,hx,hp0,hp1,hp2,hr1,hs0,hl0,hv⟩:=(h4.out.ext (E.out.tr ER.out)).atCore k hkt
     obtain ⟨b2,o2,p2,qa,qc,rfl,hb2,hx2,hq0,hq1,hq2,hr2,hs2,hl2,hv2⟩:=(g4.out.ext (E.out.tr ER.out)).atCore k hkt
     obtain rfl:p2=p:=Option.some.inj (hx2.out.symm.trans hx.out)
     clear hx hx2 hs0 hs2
     clear ka kb
     go_wp2
     go_region_held3 (fun u=>u.cell? ⟨w.heap.size,4,none⟩=some (.slice (some ⟨b,o,none⟩) x.Cores.length c4)∧u.cell? ⟨w.heap.size+1,4,none⟩=some (.slice (some ⟨b2,o2,none⟩) x.Cores.length d4)∧u.cell? ⟨b,o+k * 3,none⟩=some (.slice pa p2.Cells.length pc)∧u.cell? ⟨b,o+k * 3+1,none⟩=some (.int .i64 p2.At)∧u.cell? ⟨b,o+k * 3+2,none⟩=some (.bool p2.Stopped)∧u.cell? ⟨b2,o2+k * 3,none⟩=some (.slice qa p2.Cells.length qc)∧u.cell? ⟨b2,o2+k * 3+1,none⟩=some (.int .i64 p2.At)∧u.cell? ⟨b2,o2+k * 3+2,none⟩=some (.bool p2.Stopped))
      (go_keep)
      ((go_at_call 20;refine (law_sameCore _ _ p2 _ (hv.out.ext (Ext.refl wr).drew) (hv2.out.ext (Ext.refl wr).drew)).mono ?_;rintro e w9 ⟨rfl,he⟩;have E9:=zh ((Ext.refl wr).drew.tr he);have q0:=(cell_ext E9.out lua).trans u4;have q1:=(cell_ext E9.out lub).trans v4;have q2:=(cell_ext E9.out hb).trans hp0;have q3:=(cell_ext E9.out hb).trans hp1;have q4:=(cell_ext E9.out hb).trans hp2;have q5:=(cell_ext E9.out hb2).trans hq0;have q6:=(cell_ext E9.out hb2).trans hq1;have q7:=(cell_ext E9.out hb2).trans hq2;clear he))
     go_wp2
     exact ⟨⟨k+1,by omega,by go_num,ER.out.tr E9.out⟩,by simp [intOf];omega⟩
    ·obtain rfl:k=x.Cores.length:=by omega
     have u5:=ka.cell (j:=5) rfl
     clear ka kb v4
     obtain ⟨wp,rfl⟩:∃ wp,wp=wr:=⟨_,rfl⟩
     go_wp2
     go_loopw [7] (fun i wr => ∃ k:Nat,k≤x.Holds.length∧i = .int .i64 k∧Ext W wr) (fun i _=>x.Holds.length - (intOf i).toNat)
     case atStart=>exact ⟨0,Nat.zero_le _,rfl,ER.out⟩
     case round =>
      obtain ⟨k,hk,rfl,er⟩:=hrel
      have ER:=zh er
      have ka:=KA.out.ext er
      have kb:=KB.out.ext er
      have u5:=ka.cell (j:=5) rfl
      have v5:=kb.cell (j:=5) rfl
      have lua:=ka.lt
      have lub:=kb.lt
      clear er
      by_cases hkt:k < x.Holds.length
      ·obtain ⟨b,o,p,pa,pc,rfl,hb,hx,hp0,hs0,hl0,hv⟩:=(h5.out.ext (E.out.tr ER.out)).atHold k hkt
       obtain ⟨b2,o2,p2,qa,qc,rfl,hb2,hx2,hq0,hs2,hl2,hv2⟩:=(g5.out.ext (E.out.tr ER.out)).atHold k hkt
       obtain rfl:p2=p:=Option.some.inj (hx2.out.symm.trans hx.out)
       clear hx hx2
       clear ka kb
       go_wp2
       go_region_held3 (fun u=>u.cell? ⟨w.heap.size,5,none⟩=some (.slice (some ⟨b,o,none⟩) x.Holds.length c5)∧u.cell? ⟨w.heap.size+1,5,none⟩=some (.slice (some ⟨b2,o2,none⟩) x.Holds.length d5)∧u.cell? ⟨b,o+k,none⟩=some (.slice pa p2.Lst.length pc)∧u.cell? ⟨b2,o2+k,none⟩=some (.slice qa p2.Lst.length qc))
        (go_keep)
        ((go_at_call 21;refine (law_sameInts _ _ p2.Lst p2.Lst _ (hs0.out.ext (Ext.refl wr).drew) (hs2.out.ext (Ext.refl wr).drew)).mono ?_;rintro e w9 ⟨rfl,he⟩;rw [Eqb.t (rfl:p2.Lst=p2.Lst)];have E9:=zh ((Ext.refl wr).drew.tr he);have q0:=(cell_ext E9.out lua).trans u5;have q1:=(cell_ext E9.out lub).trans v5;have q2:=(cell_ext E9.out hb).trans hp0;have q3:=(cell_ext E9.out hb2).trans hq0;clear he))
       go_wp2
       exact ⟨⟨k+1,by omega,by go_num,ER.out.tr E9.out⟩,by simp [intOf];omega⟩
      ·clear ka kb
       go_wp2
       go_ret
       exact ⟨rfl,E.out.tr ER.out⟩
set_option maxHeartbeats 1000000
theorem M.act_hold (cs:List Channel) (hs:List Hold) (n:Int) (c:Core) (o:Order) (k:Nat) (ch:Channel) (hk:cs[k]? = some ch) (h1:ch.From≠n) (h2:ch.To≠n):(M.act cs hs n c o).2.1[k]? = hs[k]?:=by
 have hne:∀ ch',cs[o.A.toNat]? = some ch'→(ch'.From=n∨ch'.To=n)→o.A.toNat≠k:=fun ch' h3 h4 e=>by
  rw [e,hk] at h3
  cases h3
  exact h4.elim h1 h2
 unfold M.act
 split
 ·split
  ·split
   ·exact List.getElem?_set_ne (hne _ ‹_› (.inl ‹_›))
   ·rfl
  ·rfl
 split
 ·split
  ·split
   ·exact List.getElem?_set_ne (hne _ ‹_› (.inr ‹_›))
   ·rfl
  ·rfl
 ·rfl
theorem M.tick_core (m:Machine) (k:Nat) (h1:(k:Int)≠M.who m.Plan.Slots m.Tick):(M.tick m).Cores[k]? = m.Cores[k]?:=by
 unfold M.tick
 split
 ·rfl
 ·exact List.getElem?_set_ne (by omega)
theorem M.clrK_if (n:Nat) (cs:List Channel) (hs:List Hold) (K k:Nat):(M.clrK n cs hs K)[k]? = if k < K∧cs[k]?.map Channel.To=some (n:Int)∧k < hs.length then some ⟨[]⟩ else hs[k]?:=by
 induction K with
 | zero=>simp [M.clrK]
 | succ K ih =>
  rw [M.clrK_succ]
  have hl:=M.clrK_len n cs hs K
  unfold M.clr1
  by_cases e:k=K
  ·subst e
   split
   ·rename_i h1
    by_cases h2:k < hs.length
    ·rw [List.getElem?_set_self (by omega),if_pos ⟨by omega,h1,h2⟩]
    ·rw [if_neg (fun h=>h2 h.2.2),List.getElem?_eq_none (by simp;omega),List.getElem?_eq_none (by omega)]
   ·rename_i h1
    rw [ih,if_neg (by omega),if_neg (fun h=>h1 h.2.1)]
  ·have e2:∀ c:Bool,((if c=true then (M.clrK n cs hs K).set K ⟨[]⟩ else M.clrK n cs hs K))[k]? = (M.clrK n cs hs K)[k]?:=fun c=>by
    cases c
    ·rfl
    ·exact List.getElem?_set_ne (by omega)
   have e3:(if cs[K]?.map Channel.To=some (n:Int) then (M.clrK n cs hs K).set K ⟨[]⟩ else M.clrK n cs hs K)[k]? = (M.clrK n cs hs K)[k]?:=by
    split
    ·exact List.getElem?_set_ne (by omega)
    ·rfl
   rw [e3,ih]
   have:(k < K+1) ↔ (k < K):=by omega
   simp only [this]
theorem M.clrK_idem (n:Nat) (cs:List Channel) (hs:List Hold) (K:Nat):M.clrK n cs (M.clrK n cs hs K) K=M.clrK n cs hs K:=by
 refine List.ext_getElem? fun k=>?_
 rw [M.clrK_if,M.clrK_if,M.clrK_len]
 split <;> rename_i h <;> rfl
structure M.RS (m y:Machine) (n:Nat) (q:Part):Prop where
 part:m.Plan.Parts[n]? = some q
 plan:y.Plan=m.Plan
 progs:y.Programs=m.Programs
 tick:y.Tick=m.Tick
 mv:M.mv y=true
 nc:y.Cores.length=m.Cores.length
 nh:y.Holds.length=m.Holds.length
 core:y.Cores[n]? = some (M.newCore q.Cells)
 cores:∀ k:Nat,(k:Int)≠n→y.Cores[k]? = m.Cores[k]?
 hold:∀ (k:Nat) (ch:Channel),m.Plan.Channels[k]? = some ch→k < m.Holds.length→ch.To=n→y.Holds[k]? = some ⟨[]⟩
 holds:∀ (k:Nat) (ch:Channel),m.Plan.Channels[k]? = some ch→ch.To≠n→y.Holds[k]? = m.Holds[k]?
 idem:M.restartPart y n=y
theorem M.RS.of {m:Machine} {n:Nat} (h:M.mv m=true) (hn:n < m.Cores.length):∃ q,M.RS m (M.restartPart m n) n q:=by
 have hv:=M.mv_iff.1 h
 obtain ⟨q,hq⟩:∃ q,m.Plan.Parts[n]? = some q:=⟨_,List.getElem?_eq_getElem (by rw [← hv.nc];exact hn)⟩
 have e:=M.restartPart_t h hn hq
 have hy:M.mv (M.rst m n (M.newCore q.Cells) m.Plan.Channels.length)=true:=M.mv_iff.2 (M.rst_MV hv hq _)
 refine ⟨q,?_⟩
 rw [e]
 refine { part:=hq,plan:=rfl,progs:=rfl,tick:=rfl,mv:=hy,nc:=by simp [M.rst],nh:=M.clrK_len _ _ _ _,core:=?_,cores:=?_,hold:=?_,holds:=?_,idem:=?_ }
 ·show (m.Cores.set n _)[n]? = _
  exact List.getElem?_set_self hn
 ·intro k hk
  show (m.Cores.set n _)[k]? = _
  exact List.getElem?_set_ne (by omega)
 ·intro k ch hc hl ht
  show (M.clrK _ _ _ _)[k]? = _
  rw [M.clrK_if,if_pos ⟨by have:=hv.nh;omega,by rw [hc];simp [ht],hl⟩]
 ·intro k ch hc ht
  show (M.clrK _ _ _ _)[k]? = _
  rw [M.clrK_if,if_neg (fun h=>ht (by have:=h.2.1;rw [hc] at this;simpa using this))]
 ·rw [M.restartPart_t (m:=M.rst m n (M.newCore q.Cells) m.Plan.Channels.length) hy (by simpa [M.rst] using hn) (show m.Plan.Parts[n]? = some q from hq)]
  unfold M.rst
  simp only [List.set_set,M.clrK_idem]
end Sk
