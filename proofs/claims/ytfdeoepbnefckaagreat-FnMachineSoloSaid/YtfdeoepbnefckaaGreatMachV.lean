/- Contracts of functions of the given program. -/
import Derived.Test.YtfdeoepbnefckaaGreatCv
namespace Sk
open Go Go.Proofs Go.RowKit
set_option maxHeartbeats 2000000
set_option maxRecDepth 100000
set_option linter.unusedVariables false
set_option linter.unusedSimpArgs false
structure M.PG (s:Setup) (ps:List (List Order)):Prop where
 set:zAx s=true
 np:ps.length=s.Parts.length
 prv:∀ (k:Nat) (p:List Order) (q:Part),ps[k]? = some p->s.Parts[k]? = some q->zBg p q.Cells=true
structure zDx (m:Machine):Prop where
 pg:M.PG m.Plan m.Programs
 nc:m.Cores.length=m.Plan.Parts.length
 nh:m.Holds.length=m.Plan.Channels.length
 fits:∀ (k:Nat) (c:Core) (p:List Order) (q:Part),m.Cores[k]? = some c->m.Programs[k]? = some p->m.Plan.Parts[k]? = some q->zAr c p.length q.Cells=true
 hv:∀ (k:Nat) (h:Hold) (c:Channel),m.Holds[k]? = some h->m.Plan.Channels[k]? = some c->zDy h c.Kind c.Size=true
 tick:0<=m.Tick/\m.Tick<=100000
noncomputable def zGz(s:Setup)(ps:List (List Order)):Bool:=Bo (M.PG s ps)
noncomputable def zGa(m:Machine):Bool:=Bo (zDx m)
theorem zDz{m:Machine}:zGa m=true ↔ zDx m:=Bo.iff
theorem zC4{s:Setup}{ps:List (List Order)}:zGz s ps=true ↔ M.PG s ps:=Bo.iff
theorem zAz(v vl:Value)(s:Setup)(ps:List (List Order))(w:World)(h:Rv w v s)(hl:Rs w vl ps) :
  Calls Tryz.prog 21 #[v,vl] w fun e w'=>e = .returned (.bool (zGz s ps))/\Ext w w':=by
 have H:=zh h;have HL:=zh hl;obtain⟨a0,c0,a1,c1,a2,c2,rfl,h0,hl0,h1,hl1,h2,hl2⟩:=h.openSetup;obtain⟨al,cl,rfl,hll⟩:=hl.form;clear h hl;go_enter Tryz.func21,Tryz.ntmps21;go_upto_region 1 with (fail)
 refine zA2 (fun W=>Ext w W/\Bk W w.heap.size [.slice a0 s.Parts.length c0,.slice a1 s.Channels.length c1,.slice a2 s.Slots.length c2] 27) ⟨(zr _).alloc _,Bk.new _ _ _⟩ ?_
 rintro W ⟨e1,kA⟩;have HE0:=zh e1;have KA:=zh kA;obtain⟨d0,d1,d2⟩:=Bk.k3 kA;clear e1 kA;cases g0:zAx s
 ·have HF:Hid (zGz s ps=false):=zh (Bo.f fun h=>by have:=h.set;rw[g0] at this;cases this)
  go_wp2_with (go_at_call 51;refine(zBy _ s _ (H.out.ext HE0.out)).mono ?_;rintro e w1 ⟨rfl,he⟩;rw[g0];have HE1:=zh (HE0.out.tr he);clear he)
  go_ret;exact⟨zA1 HF.out.symm,HE1.out⟩
 have hp5:=zAv g0;by_cases g1:ps.length=s.Parts.length
 rotate_left
 ·have HF:Hid (zGz s ps=false):=zh (Bo.f fun h=>g1 h.np)
  have g1':(!((ps.length:Int) == (s.Parts.length:Int)))=true:=by simp;omega
  go_wp2_with (go_at_call 51;refine(zBy _ s _ (H.out.ext HE0.out)).mono ?_;rintro e w1 ⟨rfl,he⟩;rw[g0];have HE1:=zh (HE0.out.tr he);have KB:=KA.out.ext he;have f0:=KB.cell (j:=0) rfl;clear he KB)
  go_ret;exact⟨zA1 HF.out.symm,HE1.out⟩
 replace g0:=zh g0;go_upto_if 17 with (go_at_call 51;refine(zBy _ s _ (H.out.ext HE0.out)).mono ?_;rintro e w1 ⟨rfl,he⟩;rw[g0.out];have HE1:=zh (HE0.out.tr he);have KB:=KA.out.ext he;have f0:=KB.cell (j:=0) rfl;have hB:=KB.lt;clear he KB)
 replace h0:=zh (h0.out.ext HE1.out);replace HL:=zh (HL.out.ext HE1.out);replace g1:=zh g1;clear d0 d1 d2 KA;go_wp2;go_loopw [21,5,6] (fun i _ _ wr => ∃ k:Nat,k<=s.Parts.length/\i = .int .i64 k/\(∀ (j:Nat) (p:List Order) (q:Part),j < k->ps[j]? = some p->s.Parts[j]? = some q->zBg p q.Cells=true)/\Ext w1 wr) (fun i _ _ _=>s.Parts.length - (intOf i).toNat)
 case atStart=>exact⟨0,Nat.zero_le _,rfl,fun j p q hj=>absurd hj (Nat.not_lt_zero _),.refl _⟩
 case round =>
  obtain⟨k,hk,rfl,he,hq⟩:=hrel;have HE:=zh he;have HQ:=zh hq;clear he hq;have hk5:k<=5:=by omega
  by_cases hlt:k < s.Parts.length
  ·obtain⟨b,o,q,aw,cw,rfl,hb,hx,hc0,hc1,hr1,hw,hlw,hvx⟩:=h0.out.atPart k hlt;obtain⟨b2,o2,p,ap,cp,rfl,hb2,hp,hd0,hrp,hlp⟩:=HL.out.atList k (by rw[g1.out];exact hlt)
   have e0:=(zA0 HQ.out hb).trans hc0;have e1:=(zA0 HQ.out hb).trans hc1;have e2:=(zA0 HQ.out hb2).trans hd0;have hb3:=zl hb2 HQ.out.sz;have hkp:k < ps.length:=by have:=g1.out;omega
   go_upto_region 6 with (fail)
   refine zA2 (fun W=>Ext wr W/\Bk W wr.heap.size [.slice aw q.Windows.length cw,.int .i64 q.Cells] 47) ⟨(zr _).alloc _,Bk.new _ _ _⟩ ?_
   rintro W2 ⟨e3,kP⟩;have f1:=kP.cell (j:=1) rfl;have f2:=(zA0 e3 hb3).trans e2;have HW:=zh (HQ.out.tr e3);have kPl:=kP.lt;have esz:=e3.sz;clear e3 kP;have hkW:=kPl;have hb4:=zl hb3 esz;clear kPl esz;cases g2:zBg p q.Cells
   ·have HF:Hid (zGz s ps=false):=zh (Bo.f fun h=>by have:=h.prv k p q hp.out hx.out;rw[g2] at this;cases this)
    go_region_held3 (fun u=>u.cell? ⟨b2,o2+k,none⟩=some (.slice ap p.length cp)/\u.cell? ⟨wr.heap.size,1,none⟩=some (.int .i64 q.Cells)) (first|go_keep|exact⟨f2,f1⟩|exact⟨(zA0 HX4.out hb4).trans f2,(zA0 HX4.out hkW).trans f1⟩)
     (first
      | (go_at_call 36;refine(zB9 _ p q.Cells _ (hrp.out.ext (HW.out.tr (zr W2).drew))).mono ?_;rintro e w4 ⟨rfl,he⟩;rw[g2];have HX4:=zh ((zr W2).drew.tr he);have HE4:=zh (HW.out.tr HX4.out);clear he))
    go_wp2;go_ret;exact⟨zA1 HF.out.symm,HE1.out.tr HE4.out⟩
   ·have G2:=zh g2
    go_region_held3 (fun u=>u.cell? ⟨b2,o2+k,none⟩=some (.slice ap p.length cp)/\u.cell? ⟨wr.heap.size,1,none⟩=some (.int .i64 q.Cells)) (first|go_keep|exact⟨f2,f1⟩|exact⟨(zA0 HX4.out hb4).trans f2,(zA0 HX4.out hkW).trans f1⟩)
     (first
      | (go_at_call 36;refine(zB9 _ p q.Cells _ (hrp.out.ext (HW.out.tr (zr W2).drew))).mono ?_;rintro e w4 ⟨rfl,he⟩;rw[g2];have HX4:=zh ((zr W2).drew.tr he);have HE4:=zh (HW.out.tr HX4.out);clear he))
    clear g2;go_wp2;go_roundw
    case rel=>exact⟨k+1,by omega,by go_num,fun j p' q' hj h1 h2=>by
     by_cases hjk:j < k
     ·exact HE.out j p' q' hjk h1 h2
     ·obtain rfl:j=k:=by omega
      rw[hp.out] at h1;rw[hx.out] at h2;cases h1;cases h2;exact G2.out,HE4.out⟩
    case measure=>simp[intOf];omega
  ·have HF:Hid (zGz s ps=true):=zh (Bo.t ⟨g0.out,g1.out,fun j p q h1 h2=>HE.out j p q (by have:=zAh h2;omega) h1 h2⟩)
   go_wp2;go_ret;exact⟨zA1 HF.out.symm,HE1.out.tr HQ.out⟩
theorem zB8(v:Value)(m:Machine)(w:World)(h:Rv w v m) :
  Calls Tryz.prog 12 #[v] w fun e w'=>e = .returned (.bool (zGa m))/\Ext w w':=by
 obtain⟨a0,c0,a1,c1,a2,c2,a3,c3,a4,c4,a5,c5,rfl,rt,h0,l0,h1,l1,h2,l2,h3,l3,h4,l4,h5,l5⟩:=h.openMachine;clear h;go_enter Tryz.func12,Tryz.ntmps12;go_upto_region 1 with (fail)
 refine zA2 (fun W=>Ext w W/\Bk W w.heap.size [.slice a0 m.Plan.Parts.length c0,.slice a1 m.Plan.Channels.length c1,.slice a2 m.Plan.Slots.length c2,.slice a3 m.Programs.length c3,.slice a4 m.Cores.length c4,.slice a5 m.Holds.length c5,.int .i64 m.Tick] 34) ⟨(zr _).alloc _,Bk.new _ _ _⟩ ?_
 rintro W ⟨e1,kA⟩;have HE0:=zh e1;have KA:=zh kA;have hA:=kA.lt;obtain⟨d0,d1,d2,d3,d4,d5,d6⟩:=Bk.k7 kA;replace h0:=zh (h0.out.ext e1);replace h1:=zh (h1.out.ext e1);replace h2:=zh (h2.out.ext e1);replace h3:=zh (h3.out.ext e1);replace h4:=zh (h4.out.ext e1);replace h5:=zh (h5.out.ext e1);clear e1 kA;cases g0:zGz m.Plan m.Programs
 ·have HF:Hid (zGa m=false):=zh (Bo.f fun h=>by rw[zC4.2 h.pg] at g0;cases g0)
  go_wp2_with (go_at_call 21;refine(zAz _ _ m.Plan m.Programs _ (Rv.mkSetup h0.out h1.out h2.out) h3.out).mono ?_;rintro e w1 ⟨rfl,he⟩;rw[g0];have HE1:=zh he;have KB:=KA.out.ext he;obtain⟨f0,f1,f2,f3,f4,f5,f6⟩:=Bk.k7 KB;have hB:=KB.lt;clear he KB)
  go_ret;exact⟨zA1 HF.out.symm,HE0.out.tr HE1.out⟩
 replace g0:=zh g0;by_cases q0:m.Cores.length=m.Programs.length
 rotate_left
 ·have HF:Hid (zGa m=false):=zh (Bo.f fun h=>q0 (h.nc.trans h.pg.np.symm))
  have q0n:(((m.Cores.length:Nat):Int) != ((m.Programs.length:Nat):Int))=true:=by simp;omega
  go_wp2_with (go_at_call 21;refine(zAz _ _ m.Plan m.Programs _ (Rv.mkSetup h0.out h1.out h2.out) h3.out).mono ?_;rintro e w1 ⟨rfl,he⟩;rw[g0.out];have HE1:=zh he;have KB:=KA.out.ext he;obtain⟨f0,f1,f2,f3,f4,f5,f6⟩:=Bk.k7 KB;have hB:=KB.lt;clear he KB)
  go_ret;exact⟨zA1 HF.out.symm,HE0.out.tr HE1.out⟩
 by_cases q1:m.Holds.length=m.Plan.Channels.length
 rotate_left
 ·have HF:Hid (zGa m=false):=zh (Bo.f fun h=>q1 (h.nh))
  have q1n:(((m.Holds.length:Nat):Int) != ((m.Plan.Channels.length:Nat):Int))=true:=by simp;omega
  go_wp2_with (go_at_call 21;refine(zAz _ _ m.Plan m.Programs _ (Rv.mkSetup h0.out h1.out h2.out) h3.out).mono ?_;rintro e w1 ⟨rfl,he⟩;rw[g0.out];have HE1:=zh he;have KB:=KA.out.ext he;obtain⟨f0,f1,f2,f3,f4,f5,f6⟩:=Bk.k7 KB;have hB:=KB.lt;clear he KB)
  go_ret;exact⟨zA1 HF.out.symm,HE0.out.tr HE1.out⟩
 go_upto_if 32 with (go_at_call 21;refine(zAz _ _ m.Plan m.Programs _ (Rv.mkSetup h0.out h1.out h2.out) h3.out).mono ?_;rintro e w1 ⟨rfl,he⟩;rw[g0.out];have HE1:=zh he;have KB:=KA.out.ext he;obtain⟨f0,f1,f2,f3,f4,f5,f6⟩:=Bk.k7 KB;have hB:=KB.lt;clear he KB)
 replace q0:=zh q0;replace q1:=zh q1;have G:=zh (zC4.1 g0.out);have hp5:=zAv G.out.set;have hp8:=zB5 G.out.set;have hnp:=zh G.out.np;have hnc:Hid (m.Cores.length=m.Plan.Parts.length):=zh (q0.out.trans hnp.out);have hnh:=q1;replace h0:=zh (h0.out.ext HE1.out);replace h1:=zh (h1.out.ext HE1.out);replace h3:=zh (h3.out.ext HE1.out);replace h4:=zh (h4.out.ext HE1.out);replace h5:=zh (h5.out.ext HE1.out);replace HE1:=zh (HE0.out.tr HE1.out);clear d0 d1 d2 d3 d4 d5 d6 hA KA HE0;go_wp2;go_loopw [36,3,4] (fun i _ _ wr => ∃ k:Nat,k<=m.Cores.length/\i = .int .i64 k/\(∀ (j:Nat) (c:Core) (p:List Order) (q:Part),j < k->m.Cores[j]? = some c->m.Programs[j]? = some p->m.Plan.Parts[j]? = some q->zAr c p.length q.Cells=true)/\Ext w1 wr) (fun i _ _ _=>m.Cores.length - (intOf i).toNat)
 case atStart=>exact⟨0,Nat.zero_le _,rfl,fun j c p q hj=>absurd hj (Nat.not_lt_zero _),.refl _⟩
 case round =>
  obtain⟨k,hk,rfl,he,hq⟩:=hrel;have HE:=zh he;have HQ:=zh hq;clear he hq;have hk5:k<=5:=by have:=hnc.out;omega
  have w0:=(zA0 HQ.out hB).trans f0;have w3:=(zA0 HQ.out hB).trans f3;have w4:=(zA0 HQ.out hB).trans f4;by_cases hlt:k < m.Cores.length
  ·obtain⟨bo,oo,c,aw,cw,rfl,hbo,hx,hc0,hc1,hc2,hr1,hcs,hlc,hvc⟩:=h4.out.atCore k hlt;obtain⟨bc,oc,q,aq,cq,rfl,hbc,hq,hq0,hq1,hrq,hqw,hlq,hvq⟩:=h0.out.atPart k (by have:=hnc.out;omega)
   obtain⟨bp,op,p,ap,cp,rfl,hbp,hp,hp0,hrp,hlp⟩:=h3.out.atList k (by have:=hnc.out;have:=hnp.out;omega)
   have g0':=(zA0 HQ.out hbo).trans hc0;have g1':=(zA0 HQ.out hbo).trans hc1;have g2':=(zA0 HQ.out hbo).trans hc2;have y1:=(zA0 HQ.out hbc).trans hq1;have y2:=(zA0 HQ.out hbp).trans hp0;have hkp:k < m.Programs.length:=by have:=hnc.out;have:=hnp.out;omega
   have hkq:k < m.Plan.Parts.length:=by have:=hnc.out;omega
   clear hc0 hc1 hc2 hq0 hq1 hp0;go_upto_region 6 with (fail)
   refine zA2 (fun W=>Ext wr W/\Bk W wr.heap.size [.slice aw c.Cells.length cw,.int .i64 c.At,.bool c.Stopped] 43) ⟨(zr _).alloc _,Bk.new _ _ _⟩ ?_
   rintro W2 ⟨e3,kP⟩;obtain⟨k0,k1,k2⟩:=Bk.k3 kP;have kl:=kP.lt;have esz:=e3.sz;have HW:=zh (HQ.out.tr e3);have x1:=(zA0 e3 (zl hbc HQ.out.sz)).trans y1;have x2:=(zA0 e3 (zl hbp HQ.out.sz)).trans y2;have z0:=(zA0 e3 (zl hB HQ.out.sz)).trans w0;have z3:=(zA0 e3 (zl hB HQ.out.sz)).trans w3;have l1':=zl (zl hbc HQ.out.sz) esz;have l2':=zl (zl hbp HQ.out.sz) esz;have lB':=zl (zl hB HQ.out.sz) esz;clear e3 kP esz;cases g2:(zAr c p.length q.Cells)
   ·have HF:Hid (zGa m=false):=zh (Bo.f fun h=>by have:=h.fits k c p q hx.out hp.out hq.out;rw[g2] at this;cases this)
    go_region_held3 (fun u=>u.cell? ⟨w.heap.size,0,none⟩=some (.slice (some ⟨bc,oc,none⟩) m.Plan.Parts.length c0)/\u.cell? ⟨w.heap.size,3,none⟩=some (.slice (some ⟨bp,op,none⟩) m.Programs.length c3)/\u.cell? ⟨bc,oc+k*2+1,none⟩=some (.int .i64 q.Cells)/\u.cell? ⟨bp,op+k,none⟩=some (.slice ap p.length cp)/\u.cell? ⟨wr.heap.size,0,none⟩=some (.slice aw c.Cells.length cw)/\u.cell? ⟨wr.heap.size,1,none⟩=some (.int .i64 c.At)/\u.cell? ⟨wr.heap.size,2,none⟩=some (.bool c.Stopped)) (first|go_keep|exact⟨z0,z3,x1,x2,k0,k1,k2⟩|exact⟨(zA0 HX4.out lB').trans z0,(zA0 HX4.out lB').trans z3,(zA0 HX4.out l1').trans x1,(zA0 HX4.out l2').trans x2,(zA0 HX4.out kl).trans k0,(zA0 HX4.out kl).trans k1,(zA0 HX4.out kl).trans k2⟩)
     (first|(go_at_call 32;refine(zCb _ _ c p q.Cells _ (hvc.out.ext (HW.out.tr (zr W2).drew)) (hrp.out.ext (HW.out.tr (zr W2).drew))).mono ?_;rintro e w4 ⟨rfl,he⟩;rw[g2];have HX4:=zh ((zr W2).drew.tr he);have HE4:=zh (HW.out.tr HX4.out);clear he))
    go_wp2;go_ret;exact⟨zA1 HF.out.symm,HE1.out.tr HE4.out⟩
   ·have G2:=zh g2
    go_region_held3 (fun u=>u.cell? ⟨w.heap.size,0,none⟩=some (.slice (some ⟨bc,oc,none⟩) m.Plan.Parts.length c0)/\u.cell? ⟨w.heap.size,3,none⟩=some (.slice (some ⟨bp,op,none⟩) m.Programs.length c3)/\u.cell? ⟨bc,oc+k*2+1,none⟩=some (.int .i64 q.Cells)/\u.cell? ⟨bp,op+k,none⟩=some (.slice ap p.length cp)/\u.cell? ⟨wr.heap.size,0,none⟩=some (.slice aw c.Cells.length cw)/\u.cell? ⟨wr.heap.size,1,none⟩=some (.int .i64 c.At)/\u.cell? ⟨wr.heap.size,2,none⟩=some (.bool c.Stopped)) (first|go_keep|exact⟨z0,z3,x1,x2,k0,k1,k2⟩|exact⟨(zA0 HX4.out lB').trans z0,(zA0 HX4.out lB').trans z3,(zA0 HX4.out l1').trans x1,(zA0 HX4.out l2').trans x2,(zA0 HX4.out kl).trans k0,(zA0 HX4.out kl).trans k1,(zA0 HX4.out kl).trans k2⟩)
     (first|(go_at_call 32;refine(zCb _ _ c p q.Cells _ (hvc.out.ext (HW.out.tr (zr W2).drew)) (hrp.out.ext (HW.out.tr (zr W2).drew))).mono ?_;rintro e w4 ⟨rfl,he⟩;rw[g2];have HX4:=zh ((zr W2).drew.tr he);have HE4:=zh (HW.out.tr HX4.out);clear he))
    clear g2;go_wp2;go_roundw
    case rel=>exact⟨k+1,by omega,by go_num,fun j c' p' q' hj i1 i2 i3=>by
     by_cases hjk:j < k
     ·exact HE.out j c' p' q' hjk i1 i2 i3
     ·obtain rfl:j=k:=by omega
      rw[hx.out] at i1;rw[hp.out] at i2;rw[hq.out] at i3;cases i1;cases i2;cases i3;exact G2.out,HE4.out⟩
    case measure=>simp[intOf];omega
  ·have HC:=zh (fun j c p q (i1:m.Cores[j]? = some c)=>HE.out j c p q (by have:=zAh i1;omega) i1)
   clear HE w0 w3;have HE1:=zh (HE1.out.tr HQ.out);have b1:=(zA0 HQ.out hB).trans f1;have b5:=(zA0 HQ.out hB).trans f5;have b6:=(zA0 HQ.out hB).trans f6;have hB:=zl hB HQ.out.sz;have h1:=zh (h1.out.ext HQ.out);have h5:=zh (h5.out.ext HQ.out);clear HQ f0 f1 f2 f3 f4 f5 f6 h0 h2 h3 h4;obtain⟨wa,rfl⟩:∃ wa,wa=wr:=⟨_,rfl⟩;go_wp2;go_loopw [60,5,6,7] (fun i _ _ _ wr => ∃ k:Nat,k<=m.Holds.length/\i = .int .i64 k/\(∀ (j:Nat) (x:Hold) (c:Channel),j < k->m.Holds[j]? = some x->m.Plan.Channels[j]? = some c->zDy x c.Kind c.Size=true)/\Ext wa wr) (fun i _ _ _ _=>m.Holds.length - (intOf i).toNat)
   case atStart=>exact⟨0,Nat.zero_le _,rfl,fun j x c hj=>absurd hj (Nat.not_lt_zero _),.refl _⟩
   case round =>
    obtain⟨k,hk,rfl,he,hq⟩:=hrel;have HE:=zh he;have HQ:=zh hq;clear he hq;have hk8:k<=8:=by have:=hnh.out;omega
    have w1':=(zA0 HQ.out hB).trans b1;have w5':=(zA0 HQ.out hB).trans b5;have w6':=(zA0 HQ.out hB).trans b6;by_cases hlt:k < m.Holds.length
    ·obtain⟨bh,oh,x,aw,cw,rfl,hbh,hx,hx0,hxs,hlx,hvx⟩:=h5.out.atHold k hlt;obtain⟨bc,oc,c,rfl,hbc,hc,hc0,hc1,hc2,hc3,hr0,hr1,hr2,hr3,hvc⟩:=h1.out.atChannel k (by have:=hnh.out;omega)
     have x0:=(zA0 HQ.out hbh).trans hx0;have y0:=(zA0 HQ.out hbc).trans hc0;have y1:=(zA0 HQ.out hbc).trans hc1;have y2:=(zA0 HQ.out hbc).trans hc2;have y3:=(zA0 HQ.out hbc).trans hc3;have hkq:k < m.Plan.Channels.length:=by have:=hnh.out;omega
     clear hx0 hc0 hc1 hc2 hc3 b1 b5 b6;obtain⟨wz,rfl⟩:∃ wz,wz=wr:=⟨_,rfl⟩;have lh':=zl hbh HQ.out.sz;have lc':=zl hbc HQ.out.sz;have lB':=zl hB HQ.out.sz;cases g2:zDy x c.Kind c.Size
     ·have HF:Hid (zGa m=false):=zh (Bo.f fun h=>by have:=h.hv k x c hx.out hc.out;rw[g2] at this;cases this)
      go_wp2_with (go_at_call 33;refine(zDb _ x c.Kind c.Size _ (hvx.out.ext (HQ.out.tr (((zr wz).alloc _).alloc _)))).mono ?_;rintro e w4 ⟨rfl,he⟩;rw[g2];have HE4:=zh (HQ.out.tr ((((zr wz).alloc _).alloc _).tr he));clear he)
      go_ret;exact⟨zA1 HF.out.symm,HE1.out.tr HE4.out⟩
     ·have G2:=zh g2;go_wp2_with (go_at_call 33;refine(zDb _ x c.Kind c.Size _ (hvx.out.ext (HQ.out.tr (((zr wz).alloc _).alloc _)))).mono ?_;rintro e w4 ⟨rfl,he⟩;rw[g2];have HE4:=zh (HQ.out.tr ((((zr wz).alloc _).alloc _).tr he));clear he)
      clear g2;go_roundw
      case rel=>exact⟨k+1,by omega,by go_num,fun j x' c' hj i1 i2=>by
       by_cases hjk:j < k
       ·exact HE.out j x' c' hjk i1 i2
       ·obtain rfl:j=k:=by omega
        rw[hx.out] at i1;rw[hc.out] at i2;cases i1;cases i2;exact G2.out,HE4.out⟩
      case measure=>simp[intOf];omega
    ·have HF:Hid (zGa m=zA4 m.Tick 0 100000):=zh (by
      have hP:zDx m ↔ 0<=m.Tick/\m.Tick<=100000:=⟨fun h=>h.tick,fun h=>⟨G.out,hnc.out,hnh.out,fun j c p q i1 i2 i3=>HC.out j c p q i1 i2 i3,fun j x c i1 i2=>HE.out j x c (by have:=zAh i1;omega) i1 i2,h⟩⟩
      rw[Bool.eq_iff_iff,zA7,zDz];exact hP)
     go_wp2_with (go_at_call 31;refine(zAc _ _ _ _).mono ?_;rintro e w' ⟨rfl,rfl⟩)
     go_ret;exact⟨zA1 HF.out.symm,HE1.out.tr HQ.out⟩
theorem zCi(v:Value)(m:Machine)(w:World)(h:Rv w v m) :
  Calls Tryz.prog 28 #[v] w fun e w'=>e = .returned (.bool (zGa m))/\Ext w w':=by
 obtain⟨a0,c0,a1,c1,a2,c2,a3,c3,a4,c4,a5,c5,rfl,rt,h0,l0,h1,l1,h2,l2,h3,l3,h4,l4,h5,l5⟩:=h.openMachine;clear h;go_enter Tryz.func28,Tryz.ntmps28;go_upto_region 1 with (fail)
 refine zA2 (fun W=>Ext w W/\Bk W w.heap.size [.slice a0 m.Plan.Parts.length c0,.slice a1 m.Plan.Channels.length c1,.slice a2 m.Plan.Slots.length c2,.slice a3 m.Programs.length c3,.slice a4 m.Cores.length c4,.slice a5 m.Holds.length c5,.int .i64 m.Tick] 34) ⟨(zr _).alloc _,Bk.new _ _ _⟩ ?_
 rintro W ⟨e1,kA⟩;have HE0:=zh e1;have KA:=zh kA;have hA:=kA.lt;obtain⟨d0,d1,d2,d3,d4,d5,d6⟩:=Bk.k7 kA;replace h0:=zh (h0.out.ext e1);replace h1:=zh (h1.out.ext e1);replace h2:=zh (h2.out.ext e1);replace h3:=zh (h3.out.ext e1);replace h4:=zh (h4.out.ext e1);replace h5:=zh (h5.out.ext e1);clear e1 kA;cases g0:zAx m.Plan
 ·have HF:Hid (zGa m=false):=zh (Bo.f fun h=>by rw[h.pg.set] at g0;cases g0)
  go_wp2_with (go_at_call 26;refine(zAi _ m.Plan _ (Rv.mkSetup h0.out h1.out h2.out)).mono ?_;rintro e w1 ⟨rfl,he⟩;rw[g0];have HE1:=zh he;have KB:=KA.out.ext he;obtain⟨f0,f1,f2,f3,f4,f5,f6⟩:=Bk.k7 KB;have hB:=KB.lt;clear he KB)
  go_ret;exact⟨zA1 HF.out.symm,HE0.out.tr HE1.out⟩
 replace g0:=zh g0;by_cases q0:m.Programs.length=m.Plan.Parts.length
 rotate_left
 ·have HF:Hid (zGa m=false):=zh (Bo.f fun h=>q0 (h.pg.np))
  have q0n:(((m.Programs.length:Nat):Int) != ((m.Plan.Parts.length:Nat):Int))=true:=by simp;omega
  go_wp2_with (go_at_call 26;refine(zAi _ m.Plan _ (Rv.mkSetup h0.out h1.out h2.out)).mono ?_;rintro e w1 ⟨rfl,he⟩;rw[g0.out];have HE1:=zh he;have KB:=KA.out.ext he;obtain⟨f0,f1,f2,f3,f4,f5,f6⟩:=Bk.k7 KB;have hB:=KB.lt;clear he KB)
  go_ret;exact⟨zA1 HF.out.symm,HE0.out.tr HE1.out⟩
 by_cases q1:m.Cores.length=m.Plan.Parts.length
 rotate_left
 ·have HF:Hid (zGa m=false):=zh (Bo.f fun h=>q1 (h.nc))
  have q1n:(((m.Cores.length:Nat):Int) != ((m.Plan.Parts.length:Nat):Int))=true:=by simp;omega
  go_wp2_with (go_at_call 26;refine(zAi _ m.Plan _ (Rv.mkSetup h0.out h1.out h2.out)).mono ?_;rintro e w1 ⟨rfl,he⟩;rw[g0.out];have HE1:=zh he;have KB:=KA.out.ext he;obtain⟨f0,f1,f2,f3,f4,f5,f6⟩:=Bk.k7 KB;have hB:=KB.lt;clear he KB)
  go_ret;exact⟨zA1 HF.out.symm,HE0.out.tr HE1.out⟩
 by_cases q2:m.Holds.length=m.Plan.Channels.length
 rotate_left
 ·have HF:Hid (zGa m=false):=zh (Bo.f fun h=>q2 (h.nh))
  have q2n:(((m.Holds.length:Nat):Int) != ((m.Plan.Channels.length:Nat):Int))=true:=by simp;omega
  go_wp2_with (go_at_call 26;refine(zAi _ m.Plan _ (Rv.mkSetup h0.out h1.out h2.out)).mono ?_;rintro e w1 ⟨rfl,he⟩;rw[g0.out];have HE1:=zh he;have KB:=KA.out.ext he;obtain⟨f0,f1,f2,f3,f4,f5,f6⟩:=Bk.k7 KB;have hB:=KB.lt;clear he KB)
  go_ret;exact⟨zA1 HF.out.symm,HE0.out.tr HE1.out⟩
 go_upto_if 38 with (go_at_call 26;refine(zAi _ m.Plan _ (Rv.mkSetup h0.out h1.out h2.out)).mono ?_;rintro e w1 ⟨rfl,he⟩;rw[g0.out];have HE1:=zh he;have KB:=KA.out.ext he;obtain⟨f0,f1,f2,f3,f4,f5,f6⟩:=Bk.k7 KB;have hB:=KB.lt;clear he KB)
 replace q0:=zh q0;replace q1:=zh q1;replace q2:=zh q2;have hp5:=zAv g0.out;have hp8:=zB5 g0.out;have hnp:=q0;have hnc:=q1;have hnh:=q2;replace h0:=zh (h0.out.ext HE1.out);replace h1:=zh (h1.out.ext HE1.out);replace h3:=zh (h3.out.ext HE1.out);replace h4:=zh (h4.out.ext HE1.out);replace h5:=zh (h5.out.ext HE1.out);replace HE1:=zh (HE0.out.tr HE1.out);clear d0 d1 d2 d3 d4 d5 d6 hA KA HE0;go_wp2;go_loopw [3] (fun i wr => ∃ k:Nat,k<=m.Cores.length/\i = .int .i64 k/\(∀ (j:Nat) (c:Core) (p:List Order) (q:Part),j < k->m.Cores[j]? = some c->m.Programs[j]? = some p->m.Plan.Parts[j]? = some q->(zBg p q.Cells && zAr c p.length q.Cells)=true)/\Ext w1 wr) (fun i _=>m.Cores.length - (intOf i).toNat)
 case atStart=>exact⟨0,Nat.zero_le _,rfl,fun j c p q hj=>absurd hj (Nat.not_lt_zero _),.refl _⟩
 case round =>
  obtain⟨k,hk,rfl,he,hq⟩:=hrel;have HE:=zh he;have HQ:=zh hq;clear he hq;have hk5:k<=5:=by have:=hnc.out;omega
  have w0:=(zA0 HQ.out hB).trans f0;have w3:=(zA0 HQ.out hB).trans f3;have w4:=(zA0 HQ.out hB).trans f4;by_cases hlt:k < m.Cores.length
  ·obtain⟨bo,oo,c,aw,cw,rfl,hbo,hx,hc0,hc1,hc2,hr1,hcs,hlc,hvc⟩:=h4.out.atCore k hlt;obtain⟨bc,oc,q,aq,cq,rfl,hbc,hq,hq0,hq1,hrq,hqw,hlq,hvq⟩:=h0.out.atPart k (by have:=hnc.out;omega)
   obtain⟨bp,op,p,ap,cp,rfl,hbp,hp,hp0,hrp,hlp⟩:=h3.out.atList k (by have:=hnc.out;have:=hnp.out;omega)
   have g0':=(zA0 HQ.out hbo).trans hc0;have g1':=(zA0 HQ.out hbo).trans hc1;have g2':=(zA0 HQ.out hbo).trans hc2;have y1:=(zA0 HQ.out hbc).trans hq1;have y2:=(zA0 HQ.out hbp).trans hp0;have hkp:k < m.Programs.length:=by have:=hnc.out;have:=hnp.out;omega
   have hkq:k < m.Plan.Parts.length:=by have:=hnc.out;omega
   clear hc0 hc1 hc2 hq0 hq1 hp0;go_upto_region 6 with (fail)
   have l1':=zl hbc HQ.out.sz;have l2':=zl hbp HQ.out.sz;have l3':=zl hbo HQ.out.sz;have lB':=zl hB HQ.out.sz;have x1:=y1;have x2:=y2;have z0:=w0;have z3:=w3;have z4:=w4;have v0:=g0';have v1:=g1';have v2:=g2';have HW:=HQ;obtain⟨W2,rfl⟩:∃ W2,W2=wr:=⟨_,rfl⟩;cases g2:((zBg p q.Cells && zAr c p.length q.Cells))
   ·have HF:Hid (zGa m=false):=zh (Bo.f fun h=>by have i1:=h.fits k c p q hx.out hp.out hq.out;have i2:=h.pg.prv k p q hp.out hq.out;rw[i1,i2] at g2;cases g2)
    go_region_held3 (fun u=>u.cell? ⟨w.heap.size,0,none⟩=some (.slice (some ⟨bc,oc,none⟩) m.Plan.Parts.length c0)/\u.cell? ⟨w.heap.size,3,none⟩=some (.slice (some ⟨bp,op,none⟩) m.Programs.length c3)/\u.cell? ⟨bc,oc+k*2+1,none⟩=some (.int .i64 q.Cells)/\u.cell? ⟨bp,op+k,none⟩=some (.slice ap p.length cp)/\u.cell? ⟨w.heap.size,4,none⟩=some (.slice (some ⟨bo,oo,none⟩) m.Cores.length c4)/\u.cell? ⟨bo,oo+k*3,none⟩=some (.slice aw c.Cells.length cw)/\u.cell? ⟨bo,oo+k*3+1,none⟩=some (.int .i64 c.At)/\u.cell? ⟨bo,oo+k*3+2,none⟩=some (.bool c.Stopped)) (first|go_keep|exact⟨z0,z3,x1,x2,z4,v0,v1,v2⟩|exact⟨(zA0 HX4.out lB').trans z0,(zA0 HX4.out lB').trans z3,(zA0 HX4.out l1').trans x1,(zA0 HX4.out l2').trans x2,(zA0 HX4.out lB').trans z4,(zA0 HX4.out l3').trans v0,(zA0 HX4.out l3').trans v1,(zA0 HX4.out l3').trans v2⟩)
     (first|(go_at_call 62;refine(zDc _ _ c p q.Cells _ (hvc.out.ext (HW.out.tr (zr W2).drew)) (hrp.out.ext (HW.out.tr (zr W2).drew))).mono ?_;rintro e w4 ⟨rfl,he⟩;rw[g2];have HX4:=zh ((zr W2).drew.tr he);have HE4:=zh (HW.out.tr HX4.out);clear he))
    go_wp2;go_ret;exact⟨zA1 HF.out.symm,HE1.out.tr HE4.out⟩
   ·have G2:=zh g2
    go_region_held3 (fun u=>u.cell? ⟨w.heap.size,0,none⟩=some (.slice (some ⟨bc,oc,none⟩) m.Plan.Parts.length c0)/\u.cell? ⟨w.heap.size,3,none⟩=some (.slice (some ⟨bp,op,none⟩) m.Programs.length c3)/\u.cell? ⟨bc,oc+k*2+1,none⟩=some (.int .i64 q.Cells)/\u.cell? ⟨bp,op+k,none⟩=some (.slice ap p.length cp)/\u.cell? ⟨w.heap.size,4,none⟩=some (.slice (some ⟨bo,oo,none⟩) m.Cores.length c4)/\u.cell? ⟨bo,oo+k*3,none⟩=some (.slice aw c.Cells.length cw)/\u.cell? ⟨bo,oo+k*3+1,none⟩=some (.int .i64 c.At)/\u.cell? ⟨bo,oo+k*3+2,none⟩=some (.bool c.Stopped)) (first|go_keep|exact⟨z0,z3,x1,x2,z4,v0,v1,v2⟩|exact⟨(zA0 HX4.out lB').trans z0,(zA0 HX4.out lB').trans z3,(zA0 HX4.out l1').trans x1,(zA0 HX4.out l2').trans x2,(zA0 HX4.out lB').trans z4,(zA0 HX4.out l3').trans v0,(zA0 HX4.out l3').trans v1,(zA0 HX4.out l3').trans v2⟩)
     (first|(go_at_call 62;refine(zDc _ _ c p q.Cells _ (hvc.out.ext (HW.out.tr (zr W2).drew)) (hrp.out.ext (HW.out.tr (zr W2).drew))).mono ?_;rintro e w4 ⟨rfl,he⟩;rw[g2];have HX4:=zh ((zr W2).drew.tr he);have HE4:=zh (HW.out.tr HX4.out);clear he))
    clear g2;go_wp2;go_roundw
    case rel=>exact⟨k+1,by omega,by go_num,fun j c' p' q' hj i1 i2 i3=>by
     by_cases hjk:j < k
     ·exact HE.out j c' p' q' hjk i1 i2 i3
     ·obtain rfl:j=k:=by omega
      rw[hx.out] at i1;rw[hp.out] at i2;rw[hq.out] at i3;cases i1;cases i2;cases i3;exact G2.out,HE4.out⟩
    case measure=>simp[intOf];omega
  ·have HC:=zh (fun j c p q (i1:m.Cores[j]? = some c)=>HE.out j c p q (by have:=zAh i1;omega) i1)
   clear HE w0 w3;have HE1:=zh (HE1.out.tr HQ.out);have b1:=(zA0 HQ.out hB).trans f1;have b5:=(zA0 HQ.out hB).trans f5;have b6:=(zA0 HQ.out hB).trans f6;have hB:=zl hB HQ.out.sz;have h1:=zh (h1.out.ext HQ.out);have h5:=zh (h5.out.ext HQ.out);clear HQ f0 f1 f2 f3 f4 f5 f6 h0 h2 h3 h4;obtain⟨wa,rfl⟩:∃ wa,wa=wr:=⟨_,rfl⟩;go_wp2;go_loopw [4] (fun i wr => ∃ k:Nat,k<=m.Holds.length/\i = .int .i64 k/\(∀ (j:Nat) (x:Hold) (c:Channel),j < k->m.Holds[j]? = some x->m.Plan.Channels[j]? = some c->zDy x c.Kind c.Size=true)/\Ext wa wr) (fun i _=>m.Holds.length - (intOf i).toNat)
   case atStart=>exact⟨0,Nat.zero_le _,rfl,fun j x c hj=>absurd hj (Nat.not_lt_zero _),.refl _⟩
   case round =>
    obtain⟨k,hk,rfl,he,hq⟩:=hrel;have HE:=zh he;have HQ:=zh hq;clear he hq;have hk8:k<=8:=by have:=hnh.out;omega
    have w1':=(zA0 HQ.out hB).trans b1;have w5':=(zA0 HQ.out hB).trans b5;have w6':=(zA0 HQ.out hB).trans b6;by_cases hlt:k < m.Holds.length
    ·obtain⟨bh,oh,x,aw,cw,rfl,hbh,hx,hx0,hxs,hlx,hvx⟩:=h5.out.atHold k hlt;obtain⟨bc,oc,c,rfl,hbc,hc,hc0,hc1,hc2,hc3,hr0,hr1,hr2,hr3,hvc⟩:=h1.out.atChannel k (by have:=hnh.out;omega)
     have x0:=(zA0 HQ.out hbh).trans hx0;have y0:=(zA0 HQ.out hbc).trans hc0;have y1:=(zA0 HQ.out hbc).trans hc1;have y2:=(zA0 HQ.out hbc).trans hc2;have y3:=(zA0 HQ.out hbc).trans hc3;have hkq:k < m.Plan.Channels.length:=by have:=hnh.out;omega
     clear hx0 hc0 hc1 hc2 hc3 b1 b5 b6;obtain⟨wz,rfl⟩:∃ wz,wz=wr:=⟨_,rfl⟩;have lh':=zl hbh HQ.out.sz;have lc':=zl hbc HQ.out.sz;have lB':=zl hB HQ.out.sz;go_upto_region 11 with (fail)
     cases g2:zDy x c.Kind c.Size
     ·have HF:Hid (zGa m=false):=zh (Bo.f fun h=>by have:=h.hv k x c hx.out hc.out;rw[g2] at this;cases this)
      go_region_held3 (fun u=>u.cell? ⟨w.heap.size,1,none⟩=some (.slice (some ⟨bc,oc,none⟩) m.Plan.Channels.length c1)/\u.cell? ⟨w.heap.size,5,none⟩=some (.slice (some ⟨bh,oh,none⟩) m.Holds.length c5)/\u.cell? ⟨bh,oh+k,none⟩=some (.slice aw x.Lst.length cw)/\u.cell? ⟨bc,oc+k*4,none⟩=some (.int .i64 c.Kind)/\u.cell? ⟨bc,oc+k*4+3,none⟩=some (.int .i64 c.Size)) (first|go_keep|exact⟨w1',w5',x0,y0,y3⟩|exact⟨(zA0 HX4.out lB').trans w1',(zA0 HX4.out lB').trans w5',(zA0 HX4.out lh').trans x0,(zA0 HX4.out lc').trans y0,(zA0 HX4.out lc').trans y3⟩)
       (first|(go_at_call 63;refine(zDd _ x c.Kind c.Size _ (hvx.out.ext (HQ.out.tr (zr wz).drew))).mono ?_;rintro e w4 ⟨rfl,he⟩;rw[g2];have HX4:=zh ((zr wz).drew.tr he);have HE4:=zh (HQ.out.tr HX4.out);clear he))
      go_wp2;go_ret;exact⟨zA1 HF.out.symm,HE1.out.tr HE4.out⟩
     ·have G2:=zh g2
      go_region_held3 (fun u=>u.cell? ⟨w.heap.size,1,none⟩=some (.slice (some ⟨bc,oc,none⟩) m.Plan.Channels.length c1)/\u.cell? ⟨w.heap.size,5,none⟩=some (.slice (some ⟨bh,oh,none⟩) m.Holds.length c5)/\u.cell? ⟨bh,oh+k,none⟩=some (.slice aw x.Lst.length cw)/\u.cell? ⟨bc,oc+k*4,none⟩=some (.int .i64 c.Kind)/\u.cell? ⟨bc,oc+k*4+3,none⟩=some (.int .i64 c.Size)) (first|go_keep|exact⟨w1',w5',x0,y0,y3⟩|exact⟨(zA0 HX4.out lB').trans w1',(zA0 HX4.out lB').trans w5',(zA0 HX4.out lh').trans x0,(zA0 HX4.out lc').trans y0,(zA0 HX4.out lc').trans y3⟩)
       (first|(go_at_call 63;refine(zDd _ x c.Kind c.Size _ (hvx.out.ext (HQ.out.tr (zr wz).drew))).mono ?_;rintro e w4 ⟨rfl,he⟩;rw[g2];have HX4:=zh ((zr wz).drew.tr he);have HE4:=zh (HQ.out.tr HX4.out);clear he))
      clear g2;go_wp2;go_roundw
      case rel=>exact⟨k+1,by omega,by go_num,fun j x' c' hj i1 i2=>by
       by_cases hjk:j < k
       ·exact HE.out j x' c' hjk i1 i2
       ·obtain rfl:j=k:=by omega
        rw[hx.out] at i1;rw[hc.out] at i2;cases i1;cases i2;exact G2.out,HE4.out⟩
      case measure=>simp[intOf];omega
    ·have HF:Hid (zGa m=zA4 m.Tick 0 100000):=zh (by
      have hP:zDx m ↔ 0<=m.Tick/\m.Tick<=100000:=⟨fun h=>h.tick,fun h=>⟨⟨g0.out,hnp.out,fun j p q i2 i3=>by obtain⟨c,i1⟩:∃ c,m.Cores[j]? = some c:=⟨_,List.getElem?_eq_getElem (by have:=zAh i3;have:=hnc.out;omega)⟩;have:=HC.out j c p q i1 i2 i3;simp only[Bool.and_eq_true] at this;exact this.1⟩,hnc.out,hnh.out,fun j c p q i1 i2 i3=>(by have:=HC.out j c p q i1 i2 i3;simp only[Bool.and_eq_true] at this;exact this.2),fun j x c i1 i2=>HE.out j x c (by have:=zAh i1;omega) i1 i2,h⟩⟩
      rw[Bool.eq_iff_iff,zA7,zDz];exact hP)
     go_wp2_with (go_at_call 61;refine(zAb _ _ _ _).mono ?_;rintro e w' ⟨rfl,rfl⟩)
     go_ret;exact⟨zA1 HF.out.symm,HE1.out.tr HQ.out⟩
end Sk
