/- Contracts of functions of the given program, each under the condition that it states. -/
import Derived.Test.YtfbkkjihlncnhaaGreatChecked
import Derived.Deep.CutBlock
import Derived.Deep.CutRange
import Derived.Test.YtfbkkjihlncnhaaGreatVHoldS
import Derived.Test.YtfbkkjihlncnhaaGreatUARuns
import Derived.Test.YtfbkkjihlncnhaaGreatWTick
namespace Sk
open Go Go.Proofs Go.RowKit
set_option maxHeartbeats 4000000
set_option maxRecDepth 100000
set_option linter.unusedVariables false
set_option linter.unusedSimpArgs false
theorem spec_SentCount (v:Value) (m:Machine) (n c t:Int) (w:World) (h:Rv w v m) (hrt:rng t) :
  Calls Tryz.prog 37 #[v,.int .i64 n,.int .i64 c,.int .i64 t] w fun e w'=>e = .returned (.int .i64 (M.sentCount m n c t))∧Ext w w':=by
 have H:=zh h
 obtain ⟨a0,c0,a1,c1,a2,c2,a3,c3,a4,c4,a5,c5,rfl,rt,h0,l0,h1,l1,h2,l2,h3,l3,h4,l4,h5,l5⟩:=h.openMachine
 clear h h0 h1 h2 h3 h4 h5
 go_enter Tryz.func37,Tryz.ntmps37
 go_upto_region 1 with (fail)
 refine abs_world (fun W=>Ext w W∧Bk W w.heap.size [.slice a0 m.Plan.Parts.length c0,.slice a1 m.Plan.Channels.length c1,.slice a2 m.Plan.Slots.length c2,.slice a3 m.Programs.length c3,.slice a4 m.Cores.length c4,.slice a5 m.Holds.length c5,.int .i64 m.Tick] 32) ⟨(Ext.refl _).alloc _,Bk.new _ _ _⟩ ?_
 rintro W ⟨e1,kA⟩
 have HE0:=zh e1
 obtain ⟨d0,d1,d2,d3,d4,d5,d6⟩:=Bk.k7 kA
 have KA:=zh kA
 clear e1 kA
 cases g:M.mv m
 ·have g0:M.runs m t 400=false:=by unfold M.runs;rw [g];rfl
  go_wp2_with (go_at_call 59;refine (spec_MachineValid _ m _ (H.out.ext HE0.out)).mono ?_;rintro e w0 ⟨rfl,he⟩;rw [g];have E:=zh (HE0.out.tr he);have KAx:=KA.out.ext he;have ltA:=KAx.lt;obtain ⟨x0,x1,x2,x3,x4,x5,x6⟩:=Bk.k7 KAx;  clear he KAx)
  go_ret
  exact ⟨ret_i (M.sentCount_f1 g0).symm,E.out⟩
 have hmv:=M.mv_iff.1 g
 have htk:=hmv.tick
 cases g1:M.inn t 0 400
 ·have g0:M.runs m t 400=false:=by unfold M.runs;rw [g,g1];rfl
  go_wp2_with (first
   | (go_at_call 59;refine (spec_MachineValid _ m _ (H.out.ext HE0.out)).mono ?_;rintro e w0 ⟨rfl,he⟩;rw [g];have E:=zh (HE0.out.tr he);have KAx:=KA.out.ext he;have ltA:=KAx.lt;obtain ⟨x0,x1,x2,x3,x4,x5,x6⟩:=Bk.k7 KAx;  clear he KAx)
   | (go_at_call 60;refine (spec_In _ _ _ _).mono ?_;rintro e w9 ⟨rfl,rfl⟩;rw [g1]))
  go_ret
  exact ⟨ret_i (M.sentCount_f1 g0).symm,E.out⟩
 obtain ⟨ht0,ht4⟩:=M.inn_iff.1 g1
 obtain ⟨T,rfl⟩:∃ T:Nat,t=T:=⟨t.toNat,by omega⟩
 by_cases hT:m.Tick+T≤100000
 case neg =>
  have g0:M.runs m T 400=false:=by unfold M.runs;rw [g,g1,show decide (m.Tick+(T:Int)≤100000)=false from decide_eq_false hT];rfl
  have hgt:decide (m.Tick+(T:Int) > 100000)=true:=decide_eq_true (by omega)
  have hgt2:decide ((100000:Int) < m.Tick+(T:Int))=true:=decide_eq_true (by omega)
  go_wp2_with (first
   | (go_at_call 59;refine (spec_MachineValid _ m _ (H.out.ext HE0.out)).mono ?_;rintro e w0 ⟨rfl,he⟩;rw [g];have E:=zh (HE0.out.tr he);have KAx:=KA.out.ext he;have ltA:=KAx.lt;obtain ⟨x0,x1,x2,x3,x4,x5,x6⟩:=Bk.k7 KAx;  clear he KAx)
   | (go_at_call 60;refine (spec_In _ _ _ _).mono ?_;rintro e w9 ⟨rfl,rfl⟩;rw [g1]))
  go_ret
  exact ⟨ret_i (M.sentCount_f1 g0).symm,E.out⟩
 have g0:M.runs m T 400=true:=M.runs_iff.2 ⟨hmv,⟨ht0,ht4⟩,hT⟩
 have hgt:decide (m.Tick+(T:Int) > 100000)=false:=decide_eq_false (by omega)
 have hgt2:decide ((100000:Int) < m.Tick+(T:Int))=false:=decide_eq_false (by omega)
 cases g2:M.inn n 0 ((m.Cores.length:Int) - 1)
 ·go_wp2_with (first
   | (go_at_call 59;refine (spec_MachineValid _ m _ (H.out.ext HE0.out)).mono ?_;rintro e w0 ⟨rfl,he⟩;rw [g];have E:=zh (HE0.out.tr he);have KAx:=KA.out.ext he;have ltA:=KAx.lt;obtain ⟨x0,x1,x2,x3,x4,x5,x6⟩:=Bk.k7 KAx;  clear he KAx)
   | (go_at_call 60;refine (spec_In _ _ _ _).mono ?_;rintro e w9 ⟨rfl,rfl⟩;rw [g1])
   | (go_at_call 60;refine (spec_In _ _ _ _).mono ?_;rintro e w9 ⟨rfl,rfl⟩;rw [g2]))
  go_ret
  exact ⟨ret_i (M.sentCount_f2 g2).symm,E.out⟩
 cases g3:M.inn c 0 ((m.Holds.length:Int) - 1)
 ·go_wp2_with (first
   | (go_at_call 59;refine (spec_MachineValid _ m _ (H.out.ext HE0.out)).mono ?_;rintro e w0 ⟨rfl,he⟩;rw [g];have E:=zh (HE0.out.tr he);have KAx:=KA.out.ext he;have ltA:=KAx.lt;obtain ⟨x0,x1,x2,x3,x4,x5,x6⟩:=Bk.k7 KAx;  clear he KAx)
   | (go_at_call 60;refine (spec_In _ _ _ _).mono ?_;rintro e w9 ⟨rfl,rfl⟩;rw [g1])
   | (go_at_call 60;refine (spec_In _ _ _ _).mono ?_;rintro e w9 ⟨rfl,rfl⟩;rw [g2])
   | (go_at_call 60;refine (spec_In _ _ _ _).mono ?_;rintro e w9 ⟨rfl,rfl⟩;rw [g3]))
  go_ret
  exact ⟨ret_i (M.sentCount_f3 g3).symm,E.out⟩
 have HV:=zh hmv
 have hres:=zh (M.sentCount_t g0 g2 g3)
 obtain ⟨n1,n2⟩:=M.inn_iff.1 g2
 obtain ⟨c1',c2'⟩:=M.inn_iff.1 g3
 go_upto_region 3 with (first
   | (go_at_call 59;refine (spec_MachineValid _ m _ (H.out.ext HE0.out)).mono ?_;rintro e w0 ⟨rfl,he⟩;rw [g];have E:=zh (HE0.out.tr he);have KAx:=KA.out.ext he;have ltA:=KAx.lt;obtain ⟨x0,x1,x2,x3,x4,x5,x6⟩:=Bk.k7 KAx;replace KA:=zh KAx;clear he KAx)
   | (go_at_call 60;refine (spec_In _ _ _ _).mono ?_;rintro e w9 ⟨rfl,rfl⟩;rw [g1])
   | (go_at_call 60;refine (spec_In _ _ _ _).mono ?_;rintro e w9 ⟨rfl,rfl⟩;rw [g2])
   | (go_at_call 60;refine (spec_In _ _ _ _).mono ?_;rintro e w9 ⟨rfl,rfl⟩;rw [g3]))
 obtain ⟨N,rfl⟩:∃ N:Nat,n=N:=⟨n.toNat,by omega⟩
 obtain ⟨C,rfl⟩:∃ C:Nat,c=C:=⟨c.toNat,by omega⟩
 have hN:N < m.Cores.length:=by omega
 have hC:C < m.Plan.Channels.length:=by have:=hmv.nh;omega
 have BR0:=zh (Br.start H.out KA.out E.out (Nat.le_refl _))
 clear KA d0 d1 d2 d3 d4 d5 d6 x0 x1 x2 x3 x4 x5 x6 HE0 ltA hgt hgt2 hmv n1 n2 c1' c2' l0 l1 l2 l3 l4 l5 rt H
 go_wp2
 go_loopw [9,10] (fun s i wr => ∃ (k:Nat),k≤T∧s = .int .i64 (M.sentN m N C k:Nat)∧i = .int .i64 k∧Ext w wr∧Br wr w.heap.size (M.run m k) 32) (fun _ i _=>T - (intOf i).toNat)
 case atStart=>exact ⟨0,Nat.zero_le _,rfl,rfl,E.out,BR0.out⟩
 case round =>
  clear E BR0
  obtain ⟨k,hk,rfl,rfl,er,br⟩:=hrel
  by_cases hkt:k < T
  ·obtain ⟨hrv,hrt2,hrp,hrq,hrc,hrh⟩:=M.run_MV HV.out k (by omega)
   have hne:¬ (M.run m k).Tick=100000:=by rw [hrt2];omega
   have HS:=zh (show M.tickM (M.run m k)=M.run m (k+1) from M.tickM_t (M.mv_iff.2 hrv) hne)
   have HN1:=zh (M.sentN_t (m:=m) (n:=N) (c:=C) (k:=k))
   have HN0:=zh (M.sentN_f (m:=m) (n:=N) (c:=C) (k:=k))
   have hsb:=M.sentN_le m N C k
   have hNk:N < (M.run m k).Cores.length:=by rw [hrc];exact hN
   have hCk:C < (M.run m k).Plan.Channels.length:=by rw [hrp];exact hC
   have htk2:=hrv.tick
   clear hrt2 hrp hrq hrc hrh hne
   obtain ⟨mn,hmn⟩:∃ mn,M.run m (k+1)=mn:=⟨_,rfl⟩
   rw [hmn] at HS
   have HMN:=zh hmn
   clear hmn
   generalize M.sentN m N C k=s at *
   generalize M.run m k=mk at *
   obtain ⟨p0,q0,p1,q1,p2,q2,p3,q3,p4,q4,p5,q5,ka,rv,r0,r1,r2,r3,r4,r5⟩:=br.openM
   obtain ⟨kc,pl,q,ek,ep,eq,hfit,hprv,gk,gp⟩:=hrv.at hNk
   obtain ⟨f1,f2,f3⟩:=M.fits_iff.1 hfit
   obtain ⟨ia,hia⟩:∃ ia:Nat,kc.At=ia:=⟨kc.At.toNat,by omega⟩
   have hia2:ia < pl.length:=by omega
   obtain ⟨od,eo,hov⟩:=M.prv_at hprv hia2
   obtain ⟨ch,ec⟩:∃ ch,mk.Plan.Channels[C]? = some ch:=⟨_,List.getElem?_eq_getElem hCk⟩
   have HSI:=zh (M.sends_iff hrv ek ep (by rw [hia,Int.toNat_natCast];exact eo) ec)
   have hwho:=zh hrv.ssv
   obtain ⟨kb,ko,kc',ca,cc,rfl,hcb,hk',kc0,kc1,kc2,_,_,_,_⟩:=r4.out.atCore N hNk
   obtain rfl:kc'=kc:=Option.some.inj (hk'.out.symm.trans ek)
   obtain ⟨pb,po,pl',pa,pc,rfl,hpb,hp',hpc,hRp,hpl⟩:=r3.out.atList N (lt_of_some ep)
   obtain rfl:pl'=pl:=Option.some.inj (hp'.out.symm.trans ep)
   obtain ⟨ob,oo,od',rfl,hob,hod,ho0,ho1,ho2,_,_,_,_⟩:=hRp.out.atOrder ia hia2
   obtain rfl:od'=od:=Option.some.inj (hod.out.symm.trans eo)
   obtain ⟨hb,ho,ch',rfl,hhb,hch,hc0,hc1,hc2,hc3,_,_,_,_,_⟩:=r1.out.atChannel C hCk
   obtain rfl:ch'=ch:=Option.some.inj (hch.out.symm.trans ec)
   have hpll:=zh (lt_of_some ep)
   rw [hia] at kc1
   have hfrom:=zh ec
   have hT0:0≤mk.Tick:=htk2.1
   have ER:=zh er
   have KA:=zh ka
   have hN5:N < 5∧mk.Cores.length=mk.Plan.Parts.length∧mk.Plan.Parts.length≤5:=by have h1:=hrv.nc;have h2:=M.setv_parts hrv.pg.set;omega
   have HP:Hid (mk.Cores.length=mk.Plan.Parts.length):=zh hN5.2.1
   have hp5:=hN5.2.2
   have hpN:=lt_of_some ep
   obtain ⟨y0,y1,y2,y3,y4,y5,y6⟩:=Bk.k7 ka
   have ltA:=ka.lt
   clear er ka br ek ep eq hfit hprv gk gp f1 f2 f3 eo hov ec hk' hp' hod hch hia hrv hN5
   go_upto_region 8 with (fail)
   refine abs_world (fun W=>Ext wr W∧Bk W wr.heap.size [.slice ca kc'.Cells.length cc,.int .i64 ia,.bool kc'.Stopped] 41) ⟨(Ext.refl _).alloc _,Bk.new _ _ _⟩ ?_
   rintro wr1 ⟨x1,kcb⟩
   have X1:=zh x1
   have KC:=zh kcb
   have a3:=(cell_ext x1 ltA).trans y3
   have cb1:=kcb.cell (j:=1) rfl
   have ltC:=kcb.lt
   have hsz1:=x1.sz
   have ltA1:w.heap.size < wr1.heap.size:=by omega
   have hpb1:pb < wr1.heap.size:=by omega
   have hob1:ob < wr1.heap.size:=by omega
   have hpc1:=(cell_ext x1 hpb).trans hpc
   have ho01:=(cell_ext x1 hob).trans ho0
   have ho11:=(cell_ext x1 hob).trans ho1
   have ho21:=(cell_ext x1 hob).trans ho2
   have hhb1:hb < wr1.heap.size:=by omega
   have hc11:=(cell_ext x1 hhb).trans hc1
   have KA1:=zh (KA.out.ext x1)
   have ER1:=zh (ER.out.tr x1)
   clear x1 kcb y0 y1 y2 y3 y4 y5 y6 hpc ho0 ho1 ho2 hc0 hc1 hc2 hc3 kc0 kc1 kc2 KA ER
   refine wp_region_tab rfl 10 [(56,[56]),(57,[57]),(58,[58]),(59,[59]),(60,[60]),(61,[61]),(62,[62]),(63,[63]),(64,[64]),(12,[12])]
    (fun i vs u F=>match i,vs with
     | 0,[y]=>y = .pointer (some ⟨w.heap.size,3,none⟩)
     | 1,[y]=>y = .slice (some ⟨pb,po,none⟩) mk.Programs.length q3
     | 2,[y]=>y = .int .i64 N
     | 3,[y]=>y = .pointer (some ⟨pb,po+N,none⟩)
     | 4,[y]=>y = .slice (some ⟨ob,oo,none⟩) pl'.length pc
     | 5,[y]=>y = .pointer (some ⟨wr.heap.size,1,none⟩)
     | 6,[y]=>y = .int .i64 ia
     | 7,[y]=>y = .pointer (some ⟨ob,oo+ia * 3,none⟩)
     | 8,[y]=>y = .agg #[.int .i64 od'.Op,.int .i64 od'.A,.int .i64 od'.B]
     | 9,[y] => ∃ B9,y = .pointer (some ⟨B9,0,none⟩)∧F = [B9]∧Bk u B9 [.int .i64 0,.int .i64 0,.int .i64 0] 89
     | _,_=>False) (by decide +kernel) ?_ ?_
   ·intro i hi oo hoo U u F hE hd hap
    have j3:=(cell_ext hE ltA1).trans a3
    have jb1:=(cell_ext hE ltC).trans cb1
    have jp:=(cell_ext hE hpb1).trans hpc1
    have jo0:=(cell_ext hE hob1).trans ho01
    have jo1:=(cell_ext hE hob1).trans ho11
    have jo2:=(cell_ext hE hob1).trans ho21
    rcases (by omega:i=0∨i=1∨i=2∨i=3∨i=4∨i=5∨i=6∨i=7∨i=8∨i=9) with rfl | rfl | rfl | rfl | rfl | rfl | rfl | rfl | rfl | rfl
    ·cases hoo
     simp only [fr]
     intro K hK
     go_wp2
     exact hK _ [] _ (Ext.refl u) (fun _ _=>rfl) (Own.nil _ _)
    ·cases hoo
     simp only [fr]
     obtain ⟨⟨d0,-⟩,-⟩:=fa [0] (by decide +kernel) hd
     simp only [fu] at d0
     try simp only [d0]
     clear d0
     intro K hK
     go_wp2
     exact hK _ [] _ (Ext.refl u) (fun _ _=>rfl) (Own.nil _ _)
    ·cases hoo
     simp only [fr]
     intro K hK
     go_wp2
     exact hK _ [] _ (Ext.refl u) (fun _ _=>rfl) (Own.nil _ _)
    ·cases hoo
     simp only [fr]
     obtain ⟨⟨d0,-⟩,⟨d1,-⟩,⟨d2,-⟩,-⟩:=fa [0,1,2] (by decide +kernel) hd
     simp only [fu] at d0 d1 d2
     try simp only [d0,d1,d2]
     clear d0 d1 d2
     intro K hK
     go_wp2
     exact hK _ [] _ (Ext.refl u) (fun _ _=>rfl) (Own.nil _ _)
    ·cases hoo
     simp only [fr]
     obtain ⟨⟨d0,-⟩,⟨d1,-⟩,⟨d2,-⟩,⟨d3,-⟩,-⟩:=fa [0,1,2,3] (by decide +kernel) hd
     simp only [fu] at d0 d1 d2 d3
     try simp only [d0,d1,d2,d3]
     clear d0 d1 d2 d3
     intro K hK
     go_wp2
     exact hK _ [] _ (Ext.refl u) (fun _ _=>rfl) (Own.nil _ _)
    ·cases hoo
     simp only [fr]
     intro K hK
     go_wp2
     exact hK _ [] _ (Ext.refl u) (fun _ _=>rfl) (Own.nil _ _)
    ·cases hoo
     simp only [fr]
     obtain ⟨⟨d5,-⟩,-⟩:=fa [5] (by decide +kernel) hd
     simp only [fu] at d5
     try simp only [d5]
     clear d5
     intro K hK
     go_wp2
     exact hK _ [] _ (Ext.refl u) (fun _ _=>rfl) (Own.nil _ _)
    ·cases hoo
     simp only [fr]
     obtain ⟨⟨d0,-⟩,⟨d1,-⟩,⟨d2,-⟩,⟨d3,-⟩,⟨d4,-⟩,⟨d5,-⟩,⟨d6,-⟩,-⟩:=fa [0,1,2,3,4,5,6] (by decide +kernel) hd
     simp only [fu] at d0 d1 d2 d3 d4 d5 d6
     try simp only [d0,d1,d2,d3,d4,d5,d6]
     clear d0 d1 d2 d3 d4 d5 d6
     intro K hK
     go_wp2
     exact hK _ [] _ (Ext.refl u) (fun _ _=>rfl) (Own.nil _ _)
    ·cases hoo
     simp only [fr]
     obtain ⟨⟨d0,-⟩,⟨d1,-⟩,⟨d2,-⟩,⟨d3,-⟩,⟨d4,-⟩,⟨d5,-⟩,⟨d6,-⟩,⟨d7,-⟩,-⟩:=fa [0,1,2,3,4,5,6,7] (by decide +kernel) hd
     simp only [fu] at d0 d1 d2 d3 d4 d5 d6 d7
     try simp only [d0,d1,d2,d3,d4,d5,d6,d7]
     clear d0 d1 d2 d3 d4 d5 d6 d7
     intro K hK
     go_wp2
     exact hK _ [] _ (Ext.refl u) (fun _ _=>rfl) (Own.nil _ _)
    ·cases hoo
     simp only [fr]
     intro K hK
     go_wp2
     have b1:=Bk.new u [.int .i64 0,.int .i64 0,.int .i64 0] 89
     exact hK _ [u.heap.size] _ ((Ext.refl u).alloc _) (fun _ h=>⟨_,rfl,rfl,b1.ext h⟩) (b1.own (Nat.le_refl _))
   ·intro oo hoo U u G hE hφ hap
    cases hoo
    simp only [fr]
    obtain ⟨⟨d0,-⟩,⟨d1,-⟩,⟨d2,-⟩,⟨d3,-⟩,⟨d4,-⟩,⟨d5,-⟩,⟨d6,-⟩,⟨d7,-⟩,⟨d8,-⟩,⟨d9,o9⟩,-⟩:=fb [0,1,2,3,4,5,6,7,8,9] (by decide +kernel) hφ
    simp only [fu] at d0 d1 d2 d3 d4 d5 d6 d7 d8 d9
    try simp only [d0,d1,d2,d3,d4,d5,d6,d7,d8]
    obtain ⟨B9,e9,eg9,k9⟩:=d9
    rw [eg9] at o9
    have lB9:wr1.heap.size≤B9:=(o9.2 B9 (by simp)).1
    simp only [e9,d8]
    have k9f:=k9.fz
    obtain ⟨x90,x91,x92⟩:=Bk.k3 k9
    have ltB9:=k9.lt
    have K9:=zh k9
    have HEu:=zh hE
    clear hE hφ hap o9 eg9 k9 d0 d1 d2 d3 d4 d5 d6 d7 d8 e9
    go_upto_region 9 with (fail)
    refine abs_world (fun W=>Ext wr1 W∧Bk W B9 [.int .i64 od'.Op,.int .i64 od'.A,.int .i64 od'.B] 89) ⟨((HEu.out.set (p:=⟨B9,0,none⟩) lB9 _).set (p:=⟨B9,1,none⟩) lB9 _).set (p:=⟨B9,2,none⟩) lB9 _,((K9.out.set 0 _).set 1 _).set 2 _⟩ ?_
    rintro wr2 ⟨x2,k9⟩
    clear K9 HEu x90 x91 x92 k9f ltB9
    have KA2:=zh (KA1.out.ext x2)
    have ER2:=zh (ER1.out.tr x2)
    have KC2:=zh (KC.out.ext x2)
    have K92:=zh k9
    have R2:=zh (r2.out.ext (X1.out.tr x2))
    have RV2:=zh (rv.out.ext (X1.out.tr x2))
    have hb1:=(cell_ext x2 hhb1).trans hc11
    have hhb2:hb < wr2.heap.size:=by have:=x2.sz;omega
    have y2:=KA2.out.cell (j:=2) rfl
    have y4:=KA2.out.cell (j:=4) rfl
    have y6:=KA2.out.cell (j:=6) rfl
    have ltA2:=KA2.out.lt
    clear x2 k9 KA1 ER1 KC a3 cb1 hpc1 ho01 ho11 ho21 hc11 X1 r0 r1 r2 r3 r4 r5 rv
    generalize hW:M.who mk.Plan.Slots mk.Tick=W at *
    have hlt3:∀ {x:World},Ext wr2 x→w.heap.size < x.heap.size:=fun he=>by have:=he.sz;omega
    cases hsd:M.sends mk N C
    ·have HSN:=zh (HN0.out hsd)
     have hnot:=HSI.out
     rw [hsd] at hnot
     by_cases hw1:W=N
     ·cases hw2:kc'.Stopped
      ·by_cases hw3:od'.Op=5
       ·by_cases hw4:od'.A=C
        ·have hw5:¬ ch'.From=N:=fun h=>by have:=hnot.2 ⟨hw1,hw2,hw3,hw4,h⟩;cases this
         clear hnot HSI
         have b1:(W == (N:Int))=true:=by simpa using hw1
         rw [hw2] at KC2
         have b2:(od'.Op == 5)=true:=by simpa using hw3
         have b3':(od'.A == (C:Int))=true:=by simpa using hw4
         have b4:(ch'.From == (N:Int))=false:=by simpa using hw5
         clear hw1 hw2 hw3 hw4 hw5
         go_wp2_with (first
          | (go_at_call 84;refine (spec_WhoRunsG _ mk.Plan.Slots mk.Cores.length mk.Tick _ R2.out (by rw [HP.out];exact hwho.out) hT0 (by omega)).mono ?_;rintro e w3 ⟨rfl,he⟩;rw [hW];have X3:=zh he;have KA3:=zh (KA2.out.ext he);have b3:=(cell_ext he hhb2).trans hb1;obtain ⟨c30,c31,c32⟩:=Bk.k3 (KC2.out.ext he);obtain ⟨o30,o31,o32⟩:=Bk.k3 (K92.out.ext he);obtain ⟨z0,z1,z2,z3,z4,z5,z6⟩:=Bk.k7 KA3.out;have zf:=KA3.out.fz;have ltZ:=KA3.out.lt;have RV3:=zh (RV2.out.ext he);clear he)
          | (go_at_call 85;refine (spec_TickMachine _ mk _ RV3.out).mono ?_;rintro e w7 ⟨v7,rfl,hov,ex⟩;rw [HS.out] at hov;obtain ⟨r0,s0,r1,s1,r2,s2,r3,s3,r4,s4,r5,s5,F7,rfl,hen7,how7⟩:=hov.openE;have EX7:=zh ex;have HEN7:=zh hen7;have HOW7:=zh how7;obtain ⟨c70,c71,c72,c73,c74,c75,c76⟩:=Bk.k7 (KA3.out.ext ex);have bf7:=(KA3.out.ext ex).fz;have lt7:=(KA3.out.ext ex).lt;clear ex hen7 how7 hov))
         go_roundw
         case rel=>exact ⟨k+1,by omega,by rw [HSN.out],by go_num,Ext.puts (b:=w.heap.size) (o:=0) (Nat.le_refl _) [.slice r0 mn.Plan.Parts.length s0,.slice r1 mn.Plan.Channels.length s1,.slice r2 mn.Plan.Slots.length s2,.slice r3 mn.Programs.length s3,.slice r4 mn.Cores.length s4,.slice r5 mn.Holds.length s5,.int .i64 mn.Tick] ((ER2.out.tr X3.out).tr EX7.out),by rw [HMN.out];exact Br.put (cs:=[.slice r0 mn.Plan.Parts.length s0,.slice r1 mn.Plan.Channels.length s1,.slice r2 mn.Plan.Slots.length s2,.slice r3 mn.Programs.length s3,.slice r4 mn.Cores.length s4,.slice r5 mn.Holds.length s5,.int .i64 mn.Tick]) (KA3.out.ext EX7.out) rfl HEN7.out (fun hm=>by have:=(HOW7.out.2 _ hm).1;omega)⟩
         case measure=>simp [intOf];omega
        ·clear hnot HSI
         have b1:(W == (N:Int))=true:=by simpa using hw1
         rw [hw2] at KC2
         have b2:(od'.Op == 5)=true:=by simpa using hw3
         have b3':(od'.A == (C:Int))=false:=by simpa using hw4
         clear hw1 hw2 hw3 hw4
         go_wp2_with (first
          | (go_at_call 84;refine (spec_WhoRunsG _ mk.Plan.Slots mk.Cores.length mk.Tick _ R2.out (by rw [HP.out];exact hwho.out) hT0 (by omega)).mono ?_;rintro e w3 ⟨rfl,he⟩;rw [hW];have X3:=zh he;have KA3:=zh (KA2.out.ext he);have b3:=(cell_ext he hhb2).trans hb1;obtain ⟨c30,c31,c32⟩:=Bk.k3 (KC2.out.ext he);obtain ⟨o30,o31,o32⟩:=Bk.k3 (K92.out.ext he);obtain ⟨z0,z1,z2,z3,z4,z5,z6⟩:=Bk.k7 KA3.out;have zf:=KA3.out.fz;have ltZ:=KA3.out.lt;have RV3:=zh (RV2.out.ext he);clear he)
          | (go_at_call 85;refine (spec_TickMachine _ mk _ RV3.out).mono ?_;rintro e w7 ⟨v7,rfl,hov,ex⟩;rw [HS.out] at hov;obtain ⟨r0,s0,r1,s1,r2,s2,r3,s3,r4,s4,r5,s5,F7,rfl,hen7,how7⟩:=hov.openE;have EX7:=zh ex;have HEN7:=zh hen7;have HOW7:=zh how7;obtain ⟨c70,c71,c72,c73,c74,c75,c76⟩:=Bk.k7 (KA3.out.ext ex);have bf7:=(KA3.out.ext ex).fz;have lt7:=(KA3.out.ext ex).lt;clear ex hen7 how7 hov))
         go_roundw
         case rel=>exact ⟨k+1,by omega,by rw [HSN.out],by go_num,Ext.puts (b:=w.heap.size) (o:=0) (Nat.le_refl _) [.slice r0 mn.Plan.Parts.length s0,.slice r1 mn.Plan.Channels.length s1,.slice r2 mn.Plan.Slots.length s2,.slice r3 mn.Programs.length s3,.slice r4 mn.Cores.length s4,.slice r5 mn.Holds.length s5,.int .i64 mn.Tick] ((ER2.out.tr X3.out).tr EX7.out),by rw [HMN.out];exact Br.put (cs:=[.slice r0 mn.Plan.Parts.length s0,.slice r1 mn.Plan.Channels.length s1,.slice r2 mn.Plan.Slots.length s2,.slice r3 mn.Programs.length s3,.slice r4 mn.Cores.length s4,.slice r5 mn.Holds.length s5,.int .i64 mn.Tick]) (KA3.out.ext EX7.out) rfl HEN7.out (fun hm=>by have:=(HOW7.out.2 _ hm).1;omega)⟩
         case measure=>simp [intOf];omega
       ·clear hnot HSI
        have b1:(W == (N:Int))=true:=by simpa using hw1
        rw [hw2] at KC2
        have b2:(od'.Op == 5)=false:=by simpa using hw3
        clear hw1 hw2 hw3
        go_wp2_with (first
         | (go_at_call 84;refine (spec_WhoRunsG _ mk.Plan.Slots mk.Cores.length mk.Tick _ R2.out (by rw [HP.out];exact hwho.out) hT0 (by omega)).mono ?_;rintro e w3 ⟨rfl,he⟩;rw [hW];have X3:=zh he;have KA3:=zh (KA2.out.ext he);have b3:=(cell_ext he hhb2).trans hb1;obtain ⟨c30,c31,c32⟩:=Bk.k3 (KC2.out.ext he);obtain ⟨o30,o31,o32⟩:=Bk.k3 (K92.out.ext he);obtain ⟨z0,z1,z2,z3,z4,z5,z6⟩:=Bk.k7 KA3.out;have zf:=KA3.out.fz;have ltZ:=KA3.out.lt;have RV3:=zh (RV2.out.ext he);clear he)
         | (go_at_call 85;refine (spec_TickMachine _ mk _ RV3.out).mono ?_;rintro e w7 ⟨v7,rfl,hov,ex⟩;rw [HS.out] at hov;obtain ⟨r0,s0,r1,s1,r2,s2,r3,s3,r4,s4,r5,s5,F7,rfl,hen7,how7⟩:=hov.openE;have EX7:=zh ex;have HEN7:=zh hen7;have HOW7:=zh how7;obtain ⟨c70,c71,c72,c73,c74,c75,c76⟩:=Bk.k7 (KA3.out.ext ex);have bf7:=(KA3.out.ext ex).fz;have lt7:=(KA3.out.ext ex).lt;clear ex hen7 how7 hov))
        go_roundw
        case rel=>exact ⟨k+1,by omega,by rw [HSN.out],by go_num,Ext.puts (b:=w.heap.size) (o:=0) (Nat.le_refl _) [.slice r0 mn.Plan.Parts.length s0,.slice r1 mn.Plan.Channels.length s1,.slice r2 mn.Plan.Slots.length s2,.slice r3 mn.Programs.length s3,.slice r4 mn.Cores.length s4,.slice r5 mn.Holds.length s5,.int .i64 mn.Tick] ((ER2.out.tr X3.out).tr EX7.out),by rw [HMN.out];exact Br.put (cs:=[.slice r0 mn.Plan.Parts.length s0,.slice r1 mn.Plan.Channels.length s1,.slice r2 mn.Plan.Slots.length s2,.slice r3 mn.Programs.length s3,.slice r4 mn.Cores.length s4,.slice r5 mn.Holds.length s5,.int .i64 mn.Tick]) (KA3.out.ext EX7.out) rfl HEN7.out (fun hm=>by have:=(HOW7.out.2 _ hm).1;omega)⟩
        case measure=>simp [intOf];omega
      ·clear hnot HSI
       have b1:(W == (N:Int))=true:=by simpa using hw1
       rw [hw2] at KC2
       clear hw1 hw2
       go_wp2_with (first
        | (go_at_call 84;refine (spec_WhoRunsG _ mk.Plan.Slots mk.Cores.length mk.Tick _ R2.out (by rw [HP.out];exact hwho.out) hT0 (by omega)).mono ?_;rintro e w3 ⟨rfl,he⟩;rw [hW];have X3:=zh he;have KA3:=zh (KA2.out.ext he);have b3:=(cell_ext he hhb2).trans hb1;obtain ⟨c30,c31,c32⟩:=Bk.k3 (KC2.out.ext he);obtain ⟨o30,o31,o32⟩:=Bk.k3 (K92.out.ext he);obtain ⟨z0,z1,z2,z3,z4,z5,z6⟩:=Bk.k7 KA3.out;have zf:=KA3.out.fz;have ltZ:=KA3.out.lt;have RV3:=zh (RV2.out.ext he);clear he)
        | (go_at_call 85;refine (spec_TickMachine _ mk _ RV3.out).mono ?_;rintro e w7 ⟨v7,rfl,hov,ex⟩;rw [HS.out] at hov;obtain ⟨r0,s0,r1,s1,r2,s2,r3,s3,r4,s4,r5,s5,F7,rfl,hen7,how7⟩:=hov.openE;have EX7:=zh ex;have HEN7:=zh hen7;have HOW7:=zh how7;obtain ⟨c70,c71,c72,c73,c74,c75,c76⟩:=Bk.k7 (KA3.out.ext ex);have bf7:=(KA3.out.ext ex).fz;have lt7:=(KA3.out.ext ex).lt;clear ex hen7 how7 hov))
       go_roundw
       case rel=>exact ⟨k+1,by omega,by rw [HSN.out],by go_num,Ext.puts (b:=w.heap.size) (o:=0) (Nat.le_refl _) [.slice r0 mn.Plan.Parts.length s0,.slice r1 mn.Plan.Channels.length s1,.slice r2 mn.Plan.Slots.length s2,.slice r3 mn.Programs.length s3,.slice r4 mn.Cores.length s4,.slice r5 mn.Holds.length s5,.int .i64 mn.Tick] ((ER2.out.tr X3.out).tr EX7.out),by rw [HMN.out];exact Br.put (cs:=[.slice r0 mn.Plan.Parts.length s0,.slice r1 mn.Plan.Channels.length s1,.slice r2 mn.Plan.Slots.length s2,.slice r3 mn.Programs.length s3,.slice r4 mn.Cores.length s4,.slice r5 mn.Holds.length s5,.int .i64 mn.Tick]) (KA3.out.ext EX7.out) rfl HEN7.out (fun hm=>by have:=(HOW7.out.2 _ hm).1;omega)⟩
       case measure=>simp [intOf];omega
     ·clear hnot HSI
      have b1:(W == (N:Int))=false:=by simpa using hw1
      clear hw1
      go_wp2_with (first
       | (go_at_call 84;refine (spec_WhoRunsG _ mk.Plan.Slots mk.Cores.length mk.Tick _ R2.out (by rw [HP.out];exact hwho.out) hT0 (by omega)).mono ?_;rintro e w3 ⟨rfl,he⟩;rw [hW];have X3:=zh he;have KA3:=zh (KA2.out.ext he);have b3:=(cell_ext he hhb2).trans hb1;obtain ⟨c30,c31,c32⟩:=Bk.k3 (KC2.out.ext he);obtain ⟨o30,o31,o32⟩:=Bk.k3 (K92.out.ext he);obtain ⟨z0,z1,z2,z3,z4,z5,z6⟩:=Bk.k7 KA3.out;have zf:=KA3.out.fz;have ltZ:=KA3.out.lt;have RV3:=zh (RV2.out.ext he);clear he)
       | (go_at_call 85;refine (spec_TickMachine _ mk _ RV3.out).mono ?_;rintro e w7 ⟨v7,rfl,hov,ex⟩;rw [HS.out] at hov;obtain ⟨r0,s0,r1,s1,r2,s2,r3,s3,r4,s4,r5,s5,F7,rfl,hen7,how7⟩:=hov.openE;have EX7:=zh ex;have HEN7:=zh hen7;have HOW7:=zh how7;obtain ⟨c70,c71,c72,c73,c74,c75,c76⟩:=Bk.k7 (KA3.out.ext ex);have bf7:=(KA3.out.ext ex).fz;have lt7:=(KA3.out.ext ex).lt;clear ex hen7 how7 hov))
      go_roundw
      case rel=>exact ⟨k+1,by omega,by rw [HSN.out],by go_num,Ext.puts (b:=w.heap.size) (o:=0) (Nat.le_refl _) [.slice r0 mn.Plan.Parts.length s0,.slice r1 mn.Plan.Channels.length s1,.slice r2 mn.Plan.Slots.length s2,.slice r3 mn.Programs.length s3,.slice r4 mn.Cores.length s4,.slice r5 mn.Holds.length s5,.int .i64 mn.Tick] ((ER2.out.tr X3.out).tr EX7.out),by rw [HMN.out];exact Br.put (cs:=[.slice r0 mn.Plan.Parts.length s0,.slice r1 mn.Plan.Channels.length s1,.slice r2 mn.Plan.Slots.length s2,.slice r3 mn.Programs.length s3,.slice r4 mn.Cores.length s4,.slice r5 mn.Holds.length s5,.int .i64 mn.Tick]) (KA3.out.ext EX7.out) rfl HEN7.out (fun hm=>by have:=(HOW7.out.2 _ hm).1;omega)⟩
      case measure=>simp [intOf];omega
    ·have HSN:=zh (HN1.out hsd)
     obtain ⟨hw1,hw2,hw3,hw4,hw5⟩:=HSI.out.1 hsd
     clear HSI
     have b1:(W == (N:Int))=true:=by simpa using hw1
     rw [hw2] at KC2
     have b2:(od'.Op == 5)=true:=by simpa using hw3
     have b3':(od'.A == (C:Int))=true:=by simpa using hw4
     have b4:(ch'.From == (N:Int))=true:=by simpa using hw5
     clear hw1 hw2 hw3 hw4 hw5
     go_wp2_with (first
      | (go_at_call 84;refine (spec_WhoRunsG _ mk.Plan.Slots mk.Cores.length mk.Tick _ R2.out (by rw [HP.out];exact hwho.out) hT0 (by omega)).mono ?_;rintro e w3 ⟨rfl,he⟩;rw [hW];have X3:=zh he;have KA3:=zh (KA2.out.ext he);have b3:=(cell_ext he hhb2).trans hb1;obtain ⟨c30,c31,c32⟩:=Bk.k3 (KC2.out.ext he);obtain ⟨o30,o31,o32⟩:=Bk.k3 (K92.out.ext he);obtain ⟨z0,z1,z2,z3,z4,z5,z6⟩:=Bk.k7 KA3.out;have zf:=KA3.out.fz;have ltZ:=KA3.out.lt;have RV3:=zh (RV2.out.ext he);clear he)
      | (go_at_call 85;refine (spec_TickMachine _ mk _ RV3.out).mono ?_;rintro e w7 ⟨v7,rfl,hov,ex⟩;rw [HS.out] at hov;obtain ⟨r0,s0,r1,s1,r2,s2,r3,s3,r4,s4,r5,s5,F7,rfl,hen7,how7⟩:=hov.openE;have EX7:=zh ex;have HEN7:=zh hen7;have HOW7:=zh how7;obtain ⟨c70,c71,c72,c73,c74,c75,c76⟩:=Bk.k7 (KA3.out.ext ex);have bf7:=(KA3.out.ext ex).fz;have lt7:=(KA3.out.ext ex).lt;clear ex hen7 how7 hov))
     go_roundw
     case rel=>exact ⟨k+1,by omega,by rw [HSN.out];go_num,by go_num,Ext.puts (b:=w.heap.size) (o:=0) (Nat.le_refl _) [.slice r0 mn.Plan.Parts.length s0,.slice r1 mn.Plan.Channels.length s1,.slice r2 mn.Plan.Slots.length s2,.slice r3 mn.Programs.length s3,.slice r4 mn.Cores.length s4,.slice r5 mn.Holds.length s5,.int .i64 mn.Tick] ((ER2.out.tr X3.out).tr EX7.out),by rw [HMN.out];exact Br.put (cs:=[.slice r0 mn.Plan.Parts.length s0,.slice r1 mn.Plan.Channels.length s1,.slice r2 mn.Plan.Slots.length s2,.slice r3 mn.Programs.length s3,.slice r4 mn.Cores.length s4,.slice r5 mn.Holds.length s5,.int .i64 mn.Tick]) (KA3.out.ext EX7.out) rfl HEN7.out (fun hm=>by have:=(HOW7.out.2 _ hm).1;omega)⟩
     case measure=>simp [intOf];omega
  ·obtain rfl:k=T:=by omega
   have ER:=zh er
   clear er br
   go_wp2
   go_ret
   exact ⟨ret_i hres.out.symm,ER.out⟩
end Sk
