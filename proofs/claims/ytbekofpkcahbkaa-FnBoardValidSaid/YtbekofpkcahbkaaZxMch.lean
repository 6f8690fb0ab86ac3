/- Contracts of functions of the given program. -/
import Derived.Test.YtbekofpkcahbkaaZwMchT
import Derived.Test.YtbekofpkcahbkaaXRun
namespace Sk
open Go Go.Proofs Go.RowKit
set_option maxHeartbeats 40000000
set_option maxRecDepth 100000
set_option linter.unusedVariables false
set_option linter.unusedSimpArgs false
theorem zD5(W w:World)(b m:Nat)(n:Int)(h:Rd W w b (m+1100))(hn:rng n) :
  Calls Try.prog 21 #[.pointer (some ⟨b,0,none⟩),.int .i64 n] w fun e w' => ∃ v' x,e = .returned v'/\Rvb (α:=Machine) w.heap.size w' v' x/\GT.tot x<=200000/\(n=0->zBm x/\1<=x.Cores.length)/\Mw [b] w w'/\Rd W w' b m:=by
 have H:=zh h;have hbl:=h.lt;have hbW:=h.1;have hWw:=h.2.1.sz;clear h;go_enter Try.func21,Try.ntmps21;go_upto_region 1 with (fail)
 obtain⟨A,hA⟩:∃ A,A=w.heap.size:=⟨_,rfl⟩;refine zA2 (fun W0=>Ext w W0/\Bk W0 A [.slice none 0 0,.slice none 0 0,.slice none 0 0,.slice none 0 0,.slice none 0 0,.slice none 0 0,.int .i64 0] 47) ⟨(zr _).alloc _,by rw[hA];exact Bk.new _ _ _⟩ ?_
 rintro W0 ⟨e0,kA⟩;have HE0:=zh e0;have KA:=zh kA;have ltA0:=kA.lt;rw[<- hA];have hA1:=Nat.le_of_eq hA;have hA2:=Nat.le_of_eq hA.symm;clear e0 kA hA;go_upto_region 2 with (go_at_call 36;refine(zFn W _ b (m+600) (H.out.ext HE0.out)).mono ?_;rintro e w1 ⟨v1,s,rfl,hv,⟨hsv,hs1⟩,hm,hr⟩;obtain⟨a0,c0,a1,c1,a2,c2,rfl,hl0,hl1,hl2⟩:=hv.openS;have HSV:=zh hsv;have MW:=zh ((Mw.ofExt HE0.out).tr hm);have RD:=zh hr;have KA1:=zh (hm.bk KA.out (by simp;omega));have HV:=zh (hv.mono (L':=A+1) (by omega));clear hm hr hv hsv)
 obtain⟨C,hC⟩:∃ C,C=w1.heap.size:=⟨_,rfl⟩;have hAC:A < C:=by have:=KA1.out.lt;omega
 refine zA2 (fun u=>Mw [b] w u/\Rd W u b (m+600)/\Bk u A [.slice none 0 0,.slice none 0 0,.slice none 0 0,.slice none 0 0,.slice none 0 0,.slice none 0 0,.int .i64 0] 47/\Bk u C [.slice a0 s.Parts.length c0,.slice a1 s.Channels.length c1,.slice a2 s.Slots.length c2] 42/\Rvb (A+1) u (.agg #[.slice a0 s.Parts.length c0,.slice a1 s.Channels.length c1,.slice a2 s.Slots.length c2]) s) ⟨MW.out.tr (Mw.ofExt ((zr _).alloc _)),RD.out.ext ((zr _).alloc _),KA1.out.ext ((zr _).alloc _),by rw[hC];exact Bk.new _ _ _,HV.out.ext ((zr _).alloc _)⟩ ?_
 rw[<- hC];clear MW RD KA1 HV hC KA HE0 H;rintro w2 ⟨mw2,rd2,ka2,kc2,hv2⟩;have MW:=zh mw2;have RD:=zh rd2;have KA:=zh ka2;have KC:=zh kc2;have HV:=zh hv2;have ltA:=ka2.lt;have ltC:=kc2.lt;clear mw2 rd2 ka2 kc2 hv2;have hbw2:b < w2.heap.size:=by omega
 have hF0:∀ k ∈ [b],k < w2.heap.size:=by simpa using hbw2
 have hFA:∀ y ∈ [b],y < A+1:=by simp;omega
 refine zAz rfl 6 [(9,[9]),(10,[10]),(11,[11]),(12,[12]),(13,[13]),(6,[6])]
  (fun i vs u F=>match i,vs with
   | 0,[y]=>y = .agg #[.slice a0 s.Parts.length c0,.slice a1 s.Channels.length c1,.slice a2 s.Slots.length c2]
   | 1,[y]=>y = .pointer (some ⟨b,0,none⟩)
   | 2,[y]=>y = .agg #[.slice a0 s.Parts.length c0,.slice a1 s.Channels.length c1,.slice a2 s.Slots.length c2]
   | 3,[y] => ∃ ps:List (List Order),M.PG s ps/\Sl u y ps F
   | 4,[y] => ∃ (x:Machine) (cs:List Value),y = .agg cs.toArray/\GT.enc u cs x F/\zBm x/\x.Tick=0/\1<=x.Plan.Parts.length
   | 5,[y] => ∃ B,y = .pointer (some ⟨B,0,none⟩)/\F = [B]/\Bk u B [.slice none 0 0,.slice none 0 0,.slice none 0 0,.slice none 0 0,.slice none 0 0,.slice none 0 0,.int .i64 0] 47
   | _,_=>False) [b] hF0 [3] (fun c vs u=>match c with
   | 0=>Rd W u b (m+600)
   | _=>Rd W u b (m+100)) (by decide +kernel) (by decide +kernel) (fun w2 h=>RD.out.ext h) ?_ ?_ ?_
 ·intro i hi hnt o ho U u F hE hd hap;have kcu:=hE.bk KC.out (by simp;omega)
  obtain⟨e0,e1,e2⟩:=Bk.k3 kcu;have ltCu:=kcu.lt;have hsu:=hE.size;rcases(by omega:i=0\/i=1\/i=2\/i=3\/i=4\/i=5) with rfl|rfl|rfl|rfl|rfl|rfl
  iterate 3 (·cases ho;simp only[fr];intro K hK;go_wp2;exact zk hK _ (fun _ _=>rfl))
  ·exact absurd (by decide) hnt
  ·cases ho;simp only[fr];obtain⟨⟨d0,-⟩,⟨d1,-⟩,⟨d2,-⟩,⟨d3,o3⟩,-⟩:=fa [0,1,2,3] (by decide +kernel) hd
   simp only[fu] at d0 d1 d2 d3;try simp only[d0,d1,d2]
   obtain⟨ps,hpg,hps⟩:=d3;have HVu:=zh (HV.out.mw hE hFA);intro K2 hK2;go_wp2_with (go_at_call 37;refine(zFe _ _ s ps _ HVu.out.rv ⟨_,hps⟩).mono ?_;rintro e w' ⟨v',rfl,⟨cs,F',rfl,hen,how⟩,he⟩)
   rw[zDn (zDg.2 hpg)] at hen;exact hK2 _ F' _ he (fun _ h=>⟨_,cs,rfl,h.enc hen (fun y hy hm=>by have:=(how.2 y hy).1;simp at hm;omega),zG4 hpg,rfl,hs1⟩) how
  ·cases ho;simp only[fr];intro K2 hK2;go_wp2;have b1:=Bk.new u [.slice none 0 0,.slice none 0 0,.slice none 0 0,.slice none 0 0,.slice none 0 0,.slice none 0 0,.int .i64 0] 47;exact hK2 _ [u.heap.size] _ ((zr u).alloc _) (fun _ h=>⟨_,rfl,rfl,h.bk b1 (by simp;omega)⟩) (b1.own (Nat.le_refl _))
 ·intro c i hc o ho U u F hE hd hap ht;rcases c with _|c
  ·cases hc;cases ho;simp only[fr];obtain⟨⟨d1,-⟩,⟨d2,-⟩,-⟩:=fa [1,2] (by decide +kernel) hd
   simp only[fu] at d1 d2;try simp only[d1,d2]
   have HT:Hid (Rd W u b (m+100+500)):=zh (Rd.le (m:=m+600) ht (by omega))
   have HVu:=zh ((HV.out.mw hE hFA).mono (L':=b+1) (by omega))
   have HE:=zh hE;clear ht hE;intro K2 hK2;go_wp2_with (go_at_call 38;refine(zEl W _ b (m+100) _ s HT.out HVu.out HSV.out).mono ?_;rintro e w' ⟨v',ps,rfl,⟨F',hps,how⟩,hpg,hm,hr⟩)
   exact hK2 _ F' _ hm (fun w3 h=>hr.ext h) (fun _ h=>⟨ps,hpg,h.sl hps (fun y hy hm2=>by have:=(how.2 y hy).1;have:=HE.out.size;simp at hm2;omega)⟩) how
  ·cases hc
 intro o ho U u F hE hφ hap ht;cases ho;simp only[fr];obtain⟨⟨d0,-⟩,⟨d1,-⟩,⟨d2,-⟩,⟨d3,o3⟩,⟨d4,o4⟩,⟨d5,o5⟩,-⟩:=fb [0,1,2,3,4,5] (by decide +kernel) hφ
 simp only[fu] at d0 d1 d2 d3 d4 d5;try simp only[d0,d1,d2]
 obtain⟨x,cs,d4,hen,hmv,htk0,hxp⟩:=d4;have HTK:=zh htk0;clear htk0;obtain⟨B,d5,k5,b5⟩:=d5;rw[k5] at o5;have a45:=hap 4 5 (by omega) (by omega) (by omega)
 rw[k5] at a45;have nB:B ∉ F 4:=fun hm=>a45.one hm
 have lB:w2.heap.size<=B:=(o5.2 B (by simp)).1
 obtain⟨v0,v1,v2,v3,v4,v5,G0,G1,G2,G3,G4,G5,rfl,⟨t0,u0,rfl,-⟩,⟨t1,u1,rfl,-⟩,⟨t2,u2,rfl,-⟩,⟨t3,u3,rfl,-⟩,⟨t4,u4,rfl,-⟩,⟨t5,u5,rfl,-⟩,-,-⟩:=id hen;have OMR:=zh (Om.newG (T:=47) (c0:=[.slice none 0 0,.slice none 0 0,.slice none 0 0,.slice none 0 0,.slice none 0 0,.slice none 0 0,.int .i64 0]) hen (o4.mono (L':=A+1) (by omega)) b5 rfl (by omega) nB)
 have MWu:=zh (MW.out.tr hE);have RDu:Hid (Rd W u b (m+100)):=zh ht;have KAu:=zh (hE.bk KA.out (by simp;omega))
 obtain⟨b8_0,b8_1,b8_2,b8_3,b8_4,b8_5,b8_6⟩:=Bk.k7 b5;have bf8:=b5.fz;have lt8:=b5.lt;clear hE hφ hap ht k5 b5 hen d0 d1 d2 d3;simp only[d4,d5];clear d4 d5;go_upto_region 3 with (fail)
 refine zA2 (fun u=>Mw [b] w u/\Rd W u b (m+100)/\Bk u A [.slice none 0 0,.slice none 0 0,.slice none 0 0,.slice none 0 0,.slice none 0 0,.slice none 0 0,.int .i64 0] 47/\∃ F,Om (A+1) u B 0 x F) ⟨Mw.puts (b:=B) (o:=0) (.inr (by omega)) [.slice t0 x.Plan.Parts.length u0,.slice t1 x.Plan.Channels.length u1,.slice t2 x.Plan.Slots.length u2,.slice t3 x.Programs.length u3,.slice t4 x.Cores.length u4,.slice t5 x.Holds.length u5,.int .i64 x.Tick] MWu.out,Rd.puts (c:=B) (o:=0) (by omega) (by omega) [.slice t0 x.Plan.Parts.length u0,.slice t1 x.Plan.Channels.length u1,.slice t2 x.Plan.Slots.length u2,.slice t3 x.Programs.length u3,.slice t4 x.Cores.length u4,.slice t5 x.Holds.length u5,.int .i64 x.Tick] RDu.out,KAu.out.puts_ne (c:=B) (o:=0) (ds:=[.slice t0 x.Plan.Parts.length u0,.slice t1 x.Plan.Channels.length u1,.slice t2 x.Plan.Slots.length u2,.slice t3 x.Programs.length u3,.slice t4 x.Cores.length u4,.slice t5 x.Holds.length u5,.int .i64 x.Tick]) (by omega),_,OMR.out⟩ ?_
 clear MWu RDu KAu OMR MW RD KA KC HV HSV;rintro w3 ⟨mw3,rd3,ka3,F3,om3⟩;have MW:=zh mw3;have RD:=zh rd3;have KA:=zh ka3;have OM:=zh om3;have ltA:=ka3.lt;have hbw3:b < w3.heap.size:=by omega
 have hF3:∀ k ∈ [b],k < w3.heap.size:=by simpa using hbw3
 obtain⟨p0,q0,p1,q1,p2,q2,p3,q3,p4,q4,p5,q5,y0,y1,y2,y3,y4,y5,y6,-,en3,ow3,-⟩:=om3.lists;have ltB:=om3.bk.1;have bf3:=om3.bk.2.2.2;have hBA:A+1<=B:=om3.bk.2.1;have hw3:w2.heap.size<=w3.heap.size:=by omega
 have hbB:B ∉ [b]:=by simp;omega
 have hFB:∀ y ∈ [b],y < B+1:=by simp;omega
 clear mw3 rd3 ka3 om3;refine zAz rfl 4 [(14,[14]),(15,[15]),(16,[16]),(17,[17])]
  (fun i vs u F=>match i,vs with
   | 0,[y]=>y = .agg #[.slice p0 x.Plan.Parts.length q0,.slice p1 x.Plan.Channels.length q1,.slice p2 x.Plan.Slots.length q2,.slice p3 x.Programs.length q3,.slice p4 x.Cores.length q4,.slice p5 x.Holds.length q5,.int .i64 x.Tick]
   | 1,[y]=>y = .pointer (some ⟨b,0,none⟩)
   | 2,[y] => ∃ k:Nat,y = .int .i64 k/\k < 40
   | 3,[y] => ∃ (x:Machine) (cs:List Value),y = .agg cs.toArray/\GT.enc u cs x F/\zBm x/\SpH 71 (B+1) u y/\1<=x.Plan.Parts.length
   | _,_=>False) [b] hF3 [2] (fun c vs u=>match c with
   | 0=>Rd W u b (m+100)
   | _=>Rd W u b (m+99)) (by decide +kernel) (by decide +kernel) (fun w2 h=>RD.out.ext h) ?_ ?_ ?_
 ·intro i hi hnt o ho U u F hE hd hap;have e0:=hE.cell0 y0 hbB ltB;have e1:=hE.cell0 y1 hbB ltB;have e2:=hE.cell0 y2 hbB ltB;have e3:=hE.cell0 y3 hbB ltB;have e4:=hE.cell0 y4 hbB ltB;have e5:=hE.cell0 y5 hbB ltB;have e6:=hE.cell0 y6 hbB ltB;have hsu:=hE.size;rcases(by omega:i=0\/i=1\/i=2\/i=3) with rfl|rfl|rfl|rfl
  iterate 2 (·cases ho;simp only[fr];intro K hK;go_wp2;exact zk hK _ (fun _ _=>rfl))
  ·exact absurd (by decide) hnt
  ·cases ho;simp only[fr];obtain⟨⟨d0,-⟩,⟨d1,-⟩,⟨d2,o2⟩,-⟩:=fa [0,1,2] (by decide +kernel) hd
   simp only[fu] at d0 d1 d2;try simp only[d0,d1]
   obtain⟨k,d2,hk⟩:=d2;simp only[d2];have EN:=zh (hE.enc en3.out (fun y hy hm=>by have:=(ow3.out.2 y hy).1;simp at hm;omega))
   intro K2 hK2;go_wp2_with (go_at_call 39;refine(zEw _ x k _ ⟨_,F3,rfl,EN.out⟩ (zAb (by omega) (by omega))).mono ?_;rintro e w' ⟨v',rfl,⟨cs,F',rfl,hen,how⟩,he,hsp⟩)
   obtain⟨r1,r2,r3⟩:=zHc hmv HTK.out hk;rw[r1] at hen;exact hK2 _ F' _ he (fun _ h=>⟨_,cs,rfl,h.enc hen (fun y hy hm=>by have:=(how.2 y hy).1;simp at hm;omega),r2,(hsp.mono (by omega)).mw h hFB,by rw[r3];exact hxp⟩) how
 ·intro c i hc o ho U u F hE hd hap ht;rcases c with _|c
  ·cases hc;cases ho;simp only[fr];obtain⟨⟨d1,-⟩,-⟩:=fa [1] (by decide +kernel) hd
   simp only[fu] at d1;try simp only[d1]
   have HT:Hid (Rd W u b (m+99+1)):=zh (Rd.le (m:=m+100) ht (by omega))
   clear ht;intro K2 hK2;go_wp2_with (go_at_call 20;refine(zA6 W _ b (m+99) _ HT.out (zAb (by omega) (by omega))).mono ?_;rintro e w' ⟨k3,rfl,hk,hm,hr⟩;have hkb:=hk.lt (by omega))
   obtain⟨q1,q2⟩:=hkb;exact hK2 _ [] _ (Mw.ofMo hm) (fun w3 h=>hr.ext h) (fun _ h=>⟨k3.toNat,congrArg (Value.int .i64) (Int.toNat_of_nonneg q1).symm,by omega⟩) (Own.nil _ _)
  ·cases hc
 intro o ho U u F hE hφ hap ht;cases ho;simp only[fr];obtain⟨⟨d0,-⟩,⟨d1,-⟩,⟨d2,o2⟩,⟨d3,o3⟩,-⟩:=fb [0,1,2,3] (by decide +kernel) hφ
 simp only[fu] at d0 d1 d2 d3;try simp only[d0,d1]
 obtain⟨x2,cs,d3,hen,hmv2,hsp,hxp2⟩:=d3;rw[d3] at hsp;obtain⟨v0,v1,v2,v3,v4,v5,G0,G1,G2,G3,G4,G5,rfl,⟨t0,u0,rfl,-⟩,⟨t1,u1,rfl,-⟩,⟨t2,u2,rfl,-⟩,⟨t3,u3,rfl,-⟩,⟨t4,u4,rfl,-⟩,⟨t5,u5,rfl,-⟩,-,-⟩:=id hen;have nB:B ∉ F 3:=fun hm=>by have:=(o3.2 B hm).1;omega
 have HF3:Hid (∀ k∈F 3,B < k):=zh (fun k hk=>by have:=(o3.2 k hk).1;omega)
 have OMu:=zh (OM.out.mw hE hFA);have OMR:=zh (OMu.out.reput hen (o3.mono (by omega)) nB)
 have SPR:=zh (Sp.puts (b:=B) (o:=0) [.slice t0 x2.Plan.Parts.length u0,.slice t1 x2.Plan.Channels.length u1,.slice t2 x2.Plan.Slots.length u2,.slice t3 x2.Programs.length u3,.slice t4 x2.Cores.length u4,.slice t5 x2.Holds.length u5,.int .i64 x2.Tick] hsp.get);have C5:=zh (OMu.out.reput5 (u0:=.slice t0 x2.Plan.Parts.length u0) (u1:=.slice t1 x2.Plan.Channels.length u1) (u2:=.slice t2 x2.Plan.Slots.length u2) (u3:=.slice t3 x2.Programs.length u3) (u4:=.slice t4 x2.Cores.length u4) (u5:=.slice t5 x2.Holds.length u5) (u6:=.int .i64 x2.Tick));have MWu:=zh (MW.out.tr hE);have RDu:Hid (Rd W u b (m+99)):=zh ht;have KAu:=zh (hE.bk KA.out (by simp;omega))
 have f0:=hE.cell0 y0 hbB ltB;have f1:=hE.cell0 y1 hbB ltB;have f2:=hE.cell0 y2 hbB ltB;have f3:=hE.cell0 y3 hbB ltB;have f4:=hE.cell0 y4 hbB ltB;have f5:=hE.cell0 y5 hbB ltB;have f6:=hE.cell0 y6 hbB ltB;have ltBu:=OMu.out.bk.1;have bfu:=OMu.out.bk.2.2.2;clear hE hφ hap ht hen d0 d1 d2 hsp;simp only[d3];clear d3;go_upto_region 4 with (fail)
 refine zA2 (fun u=>Mw [b] w u/\Rd W u b (m+99)/\Bk u A [.slice none 0 0,.slice none 0 0,.slice none 0 0,.slice none 0 0,.slice none 0 0,.slice none 0 0,.int .i64 0] 47/\(∃ F,Om (A+1) u B 0 x2 F/\∀ k∈F,B < k)/\∃ hv,u.cell? ⟨B,5,none⟩=some hv/\Sp 71 1 (B+1) u hv) ⟨Mw.puts (b:=B) (o:=0) (.inr (by omega)) [.slice t0 x2.Plan.Parts.length u0,.slice t1 x2.Plan.Channels.length u1,.slice t2 x2.Plan.Slots.length u2,.slice t3 x2.Programs.length u3,.slice t4 x2.Cores.length u4,.slice t5 x2.Holds.length u5,.int .i64 x2.Tick] MWu.out,Rd.puts (c:=B) (o:=0) (by omega) (by omega) [.slice t0 x2.Plan.Parts.length u0,.slice t1 x2.Plan.Channels.length u1,.slice t2 x2.Plan.Slots.length u2,.slice t3 x2.Programs.length u3,.slice t4 x2.Cores.length u4,.slice t5 x2.Holds.length u5,.int .i64 x2.Tick] RDu.out,KAu.out.puts_ne (c:=B) (o:=0) (ds:=[.slice t0 x2.Plan.Parts.length u0,.slice t1 x2.Plan.Channels.length u1,.slice t2 x2.Plan.Slots.length u2,.slice t3 x2.Programs.length u3,.slice t4 x2.Cores.length u4,.slice t5 x2.Holds.length u5,.int .i64 x2.Tick]) (by omega),⟨_,OMR.out,HF3.out⟩,_,C5.out,SPR.out⟩ ?_
 clear MWu RDu KAu OMR OMu SPR C5 HF3 MW RD KA OM en3 ow3 y0 y1 y2 y3 y4 y5 y6 f0 f1 f2 f3 f4 f5 f6 bf3 bfu;rintro w4 ⟨mw4,rd4,ka4,⟨F4,om4,hf4⟩,hv,hc5,hsp⟩;replace MW:=zh mw4;replace RD:=zh rd4;replace KA:=zh ka4;replace OM:=zh om4;have HC5:=zh hc5;have SPH:=zh hsp;have HF4:=zh hf4;have hszw4:w.heap.size<=w4.heap.size:=mw4.size;have htot:=zE2 hmv2;clear mw4 rd4 ka4 om4 hc5 hsp hmv HTK hbB hf4;obtain⟨x,hx⟩:∃ x,x2=x:=⟨_,rfl⟩;rw[hx] at hmv2 htot OM hxp2;clear hx;go_upto_if 20 with (go_at_call 10;refine(zJ9 W _ b (m+98) n RD.out hn).mono ?_;rintro e w5 ⟨q,rfl,hq,hm,hr⟩;have hs9:=(Mw.ofMo hm).size;replace MW:=zh (MW.out.tr (Mw.ofMo hm));replace KA:=zh ((Mw.ofMo hm).bk KA.out (by simp;omega));have OM9:=OM.out;replace OM:=zh (OM.out.mw (Mw.ofMo hm) hFA);replace HC5:=zh ((Mw.ofMo hm).cell0 HC5.out (by simp;omega) OM9.bk.1);clear OM9;replace SPH:=zh (SPH.out.mw (Mw.ofMo hm) hFB);replace RD:=zh hr;clear hm hr)
 cases q
 ·go_upto_if 50 with (go_at_call 10;refine(zE7 W _ b (m+97) _ RD.out (zAb (by omega) (by omega))).mono ?_;rintro e w6 ⟨⟨q,rfl⟩,hm,hr⟩;have hs9:=(Mw.ofMo hm).size;replace MW:=zh (MW.out.tr (Mw.ofMo hm));replace KA:=zh ((Mw.ofMo hm).bk KA.out (by simp;omega));have OM9:=OM.out;replace OM:=zh (OM.out.mw (Mw.ofMo hm) hFA);replace HC5:=zh ((Mw.ofMo hm).cell0 HC5.out (by simp;omega) OM9.bk.1);clear OM9;replace SPH:=zh (SPH.out.mw (Mw.ofMo hm) hFB);replace RD:=zh hr;clear hm hr)
  cases q
  ·go_upto_region 15 with (fail)
   refine zA2 (zHp 47 W w b (m+90) A B x) (zHp.om MW.out (RD.out.le (by omega)) KA.out OM.out) ?_
   rintro u9 ⟨mw9,rd9,ka9,lt9,p0,q0,p1,q1,p2,q2,p3,q3,p4,q4,p5,q5,n4,n5,y0,y1,y2,y3,y4,y5,y6,rv9⟩;obtain⟨xr,hxr⟩:∃ xr,x=xr:=⟨_,rfl⟩;have htr:GT.tot xr<=200000:=by rw[<- hxr];omega
   have hmr:n=0->zBm xr/\1<=xr.Cores.length:=by rw[<- hxr];exact fun _=>⟨hmv2,by have:=hmv2.nc;omega⟩
   rw[hxr] at y0 y1 y2 y3 y6 rv9;replace MW:=zh mw9;replace RD:=zh rd9;have RV:=zh rv9;obtain⟨z0,z1,z2,z3,z4,z5,z6⟩:=Bk.k7 ka9;have zf:=ka9.fz;have ltZ:=ka9.lt;clear mw9 rd9 ka9 rv9 hxr;go_wp2;refine bodyPost_ret (v:=.agg #[.slice p0 xr.Plan.Parts.length q0,.slice p1 xr.Plan.Channels.length q1,.slice p2 xr.Plan.Slots.length q2,.slice p3 xr.Programs.length q3,.slice p4 n4 q4,.slice p5 n5 q5,.int .i64 xr.Tick]) (by simp[results,Try.results21,go_sem,z0,z1,z2,z3,z4,z5,z6]) rfl ⟨_,xr,rfl,?_,htr,hmr,?_,?_⟩
   ·exact(Rvb.puts (A:=A) (o:=0) (by omega) [.slice p0 xr.Plan.Parts.length q0,.slice p1 xr.Plan.Channels.length q1,.slice p2 xr.Plan.Slots.length q2,.slice p3 xr.Programs.length q3,.slice p4 n4 q4,.slice p5 n5 q5,.int .i64 xr.Tick] RV.out).mono (by omega)
   ·exact Mw.puts (b:=A) (o:=0) (.inr (by omega)) [.slice p0 xr.Plan.Parts.length q0,.slice p1 xr.Plan.Channels.length q1,.slice p2 xr.Plan.Slots.length q2,.slice p3 xr.Programs.length q3,.slice p4 n4 q4,.slice p5 n5 q5,.int .i64 xr.Tick] MW.out
   ·exact(Rd.puts (c:=A) (o:=0) (by omega) (by omega) [.slice p0 xr.Plan.Parts.length q0,.slice p1 xr.Plan.Channels.length q1,.slice p2 xr.Plan.Slots.length q2,.slice p3 xr.Programs.length q3,.slice p4 n4 q4,.slice p5 n5 q5,.int .i64 xr.Tick] RD.out).le (by omega)
  ·have bf:=OM.out.bk.2.2.2;obtain⟨_,_,_,_,_,_,_,_,_,_,_,_,-,-,-,-,-,-,y6,-⟩:=OM.out.lists;obtain⟨F7,o7,s7,c7⟩:=OM.out.putTick 100000 ⟨by omega,by omega⟩
   have DPh:=zh (zHp.om (MW.out.set (p:=⟨B,6,none⟩) (.inr (by show w.heap.size<=B;omega)) _) ((RD.out.set (p:=⟨B,6,none⟩) (by show b≠B;omega) (by show W.heap.size<=B;omega) _).le (m':=m+90) (by omega)) (KA.out.set_ne (p:=⟨B,6,none⟩) (by show A≠B;omega) _) o7)
   clear o7 s7 c7;go_upto_region 15 with (fail)
   refine zA2 (zHp 47 W w b (m+90) A B _) DPh.out ?_;rintro u9 ⟨mw9,rd9,ka9,lt9,p0,q0,p1,q1,p2,q2,p3,q3,p4,q4,p5,q5,n4,n5,y0,y1,y2,y3,y4,y5,y6,rv9⟩;obtain⟨xr,hxr⟩:∃ xr,({ x with Tick:=100000 }:Machine)=xr:=⟨_,rfl⟩
   have htr:GT.tot xr<=200000:=by rw[<- hxr];exact Nat.le_trans htot (by omega)
   have hmr:n=0->zBm xr/\1<=xr.Cores.length:=by rw[<- hxr];exact fun _=>⟨zBm.tick100 hmv2,by have:=hmv2.nc;show 1<=x.Cores.length;omega⟩
   rw[hxr] at y0 y1 y2 y3 y6 rv9;replace MW:=zh mw9;replace RD:=zh rd9;have RV:=zh rv9;obtain⟨z0,z1,z2,z3,z4,z5,z6⟩:=Bk.k7 ka9;have zf:=ka9.fz;have ltZ:=ka9.lt;clear mw9 rd9 ka9 rv9 hxr;go_wp2;refine bodyPost_ret (v:=.agg #[.slice p0 xr.Plan.Parts.length q0,.slice p1 xr.Plan.Channels.length q1,.slice p2 xr.Plan.Slots.length q2,.slice p3 xr.Programs.length q3,.slice p4 n4 q4,.slice p5 n5 q5,.int .i64 xr.Tick]) (by simp[results,Try.results21,go_sem,z0,z1,z2,z3,z4,z5,z6]) rfl ⟨_,xr,rfl,?_,htr,hmr,?_,?_⟩
   ·exact(Rvb.puts (A:=A) (o:=0) (by omega) [.slice p0 xr.Plan.Parts.length q0,.slice p1 xr.Plan.Channels.length q1,.slice p2 xr.Plan.Slots.length q2,.slice p3 xr.Programs.length q3,.slice p4 n4 q4,.slice p5 n5 q5,.int .i64 xr.Tick] RV.out).mono (by omega)
   ·exact Mw.puts (b:=A) (o:=0) (.inr (by omega)) [.slice p0 xr.Plan.Parts.length q0,.slice p1 xr.Plan.Channels.length q1,.slice p2 xr.Plan.Slots.length q2,.slice p3 xr.Programs.length q3,.slice p4 n4 q4,.slice p5 n5 q5,.int .i64 xr.Tick] MW.out
   ·exact(Rd.puts (c:=A) (o:=0) (by omega) (by omega) [.slice p0 xr.Plan.Parts.length q0,.slice p1 xr.Plan.Channels.length q1,.slice p2 xr.Plan.Slots.length q2,.slice p3 xr.Programs.length q3,.slice p4 n4 q4,.slice p5 n5 q5,.int .i64 xr.Tick] RD.out).le (by omega)
 ·have hn0:¬ n=0:=fun e=>by cases hq e
  go_upto_if 27 with (go_at_call 20;refine(zA6 W _ b (m+97) _ RD.out (zAb (by omega) (by omega))).mono ?_;rintro e w6 ⟨k,rfl,hk,hm,hr⟩;have hkb:=hk.lt (by omega);have hs9:=(Mw.ofMo hm).size;replace MW:=zh (MW.out.tr (Mw.ofMo hm));replace KA:=zh ((Mw.ofMo hm).bk KA.out (by simp;omega));have OM9:=OM.out;replace OM:=zh (OM.out.mw (Mw.ofMo hm) hFA);replace HC5:=zh ((Mw.ofMo hm).cell0 HC5.out (by simp;omega) OM9.bk.1);clear OM9;replace SPH:=zh (SPH.out.mw (Mw.ofMo hm) hFB);replace RD:=zh hr;clear hk hm hr)
  have hcr:1<=x.Cores.length:=by have:=hmv2.nc;omega
  obtain⟨p0,q0,p1,q1,p2,q2,p3,q3,p4,q4,p5,q5,y0,y1,y2,y3,y4,y5,y6,hrt,en,ow,os⟩:=OM.out.lists;have bf:=OM.out.bk.2.2.2;have ltB6:=OM.out.bk.1;obtain rfl|rfl|rfl|rfl:k=0\/k=1\/k=2\/k=3:=by omega
  ·clear hkb;go_upto_region 15 with (go_at_call 20;refine(zA6 W _ b (m+96) _ (RD.out.ext ((zr _).alloc _)) (zAb (by omega) (by omega))).mono ?_;rintro e w7 ⟨k4,rfl,hk4,hm4,hr4⟩;obtain⟨z,hz1,hz2⟩:=zI1 (zs:=[-1,100001]) hm4 RD.out.lt hk4 rfl (by simp);have hkb4:=hk4.lt (by omega);obtain⟨hk41,hk42⟩:=hkb4;have hzb : -10000<=z/\z<=1000000:=(by simp only[List.mem_cons,List.not_mem_nil,or_false] at hz2;omega);have hm7:=(Mw.ofExt (F:=[b]) ((zr w6).alloc _)).tr (Mw.ofMo hm4);have OM7:=OM.out.mw hm7 hFA;obtain⟨_,_,_,_,_,_,_,_,_,_,_,_,-,-,-,-,-,-,e6,-⟩:=OM7.lists;have bf7:=OM7.bk.2.2.2;have ltB7:=OM7.bk.1;have HOM7:=zh OM7;have MW7:=zh (MW.out.tr hm7);have KA7:=zh (hm7.bk KA.out (by simp;omega));have RD7:=zh hr4;clear hk4 hm4 hr4 OM7 hm7)
   obtain⟨F7,o7,s7,c7⟩:=HOM7.out.putTick z (zAb (by omega) (by omega))
   refine zA2 (zHp 47 W w b (m+90) A B { x with Tick:=z }) (zHp.om (MW7.out.set (p:=⟨B,6,none⟩) (.inr (by show w.heap.size<=B;omega)) _) ((RD7.out.set (p:=⟨B,6,none⟩) (by show b≠B;omega) (by show W.heap.size<=B;omega) _).le (by omega)) (KA7.out.set_ne (p:=⟨B,6,none⟩) (by show A≠B;omega) _) o7) ?_
   rintro u9 ⟨mw9,rd9,ka9,lt9,p0,q0,p1,q1,p2,q2,p3,q3,p4,q4,p5,q5,n4,n5,y0,y1,y2,y3,y4,y5,y6,rv9⟩;obtain⟨xr,hxr⟩:∃ xr,({ x with Tick:=z }:Machine)=xr:=⟨_,rfl⟩
   have htr:GT.tot xr<=200000:=by rw[<- hxr];exact Nat.le_trans htot (by omega)
   have hmr:n=0->zBm xr/\1<=xr.Cores.length:=by rw[<- hxr];exact fun e=>absurd e hn0
   rw[hxr] at y0 y1 y2 y3 y6 rv9;replace MW:=zh mw9;replace RD:=zh rd9;have RV:=zh rv9;obtain⟨z0,z1,z2,z3,z4,z5,z6⟩:=Bk.k7 ka9;have zf:=ka9.fz;have ltZ:=ka9.lt;clear mw9 rd9 ka9 rv9 hxr;go_wp2;refine bodyPost_ret (v:=.agg #[.slice p0 xr.Plan.Parts.length q0,.slice p1 xr.Plan.Channels.length q1,.slice p2 xr.Plan.Slots.length q2,.slice p3 xr.Programs.length q3,.slice p4 n4 q4,.slice p5 n5 q5,.int .i64 xr.Tick]) (by simp[results,Try.results21,go_sem,z0,z1,z2,z3,z4,z5,z6]) rfl ⟨_,xr,rfl,?_,htr,hmr,?_,?_⟩
   ·exact(Rvb.puts (A:=A) (o:=0) (by omega) [.slice p0 xr.Plan.Parts.length q0,.slice p1 xr.Plan.Channels.length q1,.slice p2 xr.Plan.Slots.length q2,.slice p3 xr.Programs.length q3,.slice p4 n4 q4,.slice p5 n5 q5,.int .i64 xr.Tick] RV.out).mono (by omega)
   ·exact Mw.puts (b:=A) (o:=0) (.inr (by omega)) [.slice p0 xr.Plan.Parts.length q0,.slice p1 xr.Plan.Channels.length q1,.slice p2 xr.Plan.Slots.length q2,.slice p3 xr.Programs.length q3,.slice p4 n4 q4,.slice p5 n5 q5,.int .i64 xr.Tick] MW.out
   ·exact(Rd.puts (c:=A) (o:=0) (by omega) (by omega) [.slice p0 xr.Plan.Parts.length q0,.slice p1 xr.Plan.Channels.length q1,.slice p2 xr.Plan.Slots.length q2,.slice p3 xr.Programs.length q3,.slice p4 n4 q4,.slice p5 n5 q5,.int .i64 xr.Tick] RD.out).le (by omega)
  ·clear hkb;obtain⟨c0,cr,hcc⟩:∃ c cs,x.Cores=c::cs:=by
    cases h:x.Cores with
    | nil=>rw[h] at hcr;simp at hcr
    | cons c cs=>exact⟨c,cs,rfl⟩
   have nB4:B ∉ F4:=OM.out.bk.2.2.1;obtain⟨N4,hN4⟩:∃ N4,x.Cores.length=N4:=⟨_,rfl⟩;rw[hN4] at y4 en hcr;obtain⟨g4,s4,rfl⟩:∃ g s,p4=some ⟨g,s,none⟩:=by
    obtain⟨_,_,_,_,h4,_⟩:=zEz en.out ow.out nB4 0 (.bool false);obtain⟨_,⟨_,_,e,_,_,hh⟩,_⟩:=h4;have e':=(Value.slice.injEq _ _ _ _ _ _).mp e;rcases hh with ⟨h,_⟩ | ⟨_,b9,o9,_,e9,_⟩
    ·rw[hcc] at h;cases h
    ·exact⟨b9,o9,e'.1.trans e9⟩
   have hq4:N4<=q4/\q4<=9223372036854775807:=by
    obtain⟨_,_,_,_,h4,_⟩:=zEz en.out ow.out nB4 0 (.bool false);obtain⟨_,⟨_,_,e,hl,hc9,_⟩,_⟩:=h4;have e':=(Value.slice.injEq _ _ _ _ _ _).mp e;unfold maxLen at hc9;omega
   obtain⟨hq41,hq42⟩:=hq4;have htc:GT.tot ({ x with Cores:=cr }:Machine)<=200000:=by
    have h1:=zCy ({ x with Cores:=cr }:Machine)
    have h2:=zCy x;have h3:=tot_tail c0 cr;rw[hcc] at h2;simp only at h1 h2;omega
   have DP1:∀ p' n' q',Rsb (A+1) (w6.setCell ⟨B,4,none⟩ (.slice p' n' q')) (.slice p' n' q') cr->Hid (zHp 47 W w b (m+90) A B ({ x with Cores:=cr }:Machine) (w6.setCell ⟨B,4,none⟩ (.slice p' n' q'))):=fun p' n' q' hr=>by
    obtain⟨r0,r1,r2,r3,_,r5⟩:=zEz en.out ow.out nB4 4 (.slice p' n' q');exact zh ⟨MW.out.set (p:=⟨B,4,none⟩) (.inr (by show w.heap.size<=B;omega)) _,(RD.out.set (p:=⟨B,4,none⟩) (by show b≠B;omega) (by show W.heap.size<=B;omega) _).le (by omega),KA.out.set_ne (p:=⟨B,4,none⟩) (by show A≠B;omega) _,by simpa using ltB6,_,_,_,_,_,_,_,_,_,_,_,_,_,_,(zA7 (by decide)).trans y0,(zA7 (by decide)).trans y1,(zA7 (by decide)).trans y2,(zA7 (by decide)).trans y3,zB8 y4,(zA7 (by decide)).trans y5,(zA7 (by decide)).trans y6,Rvb.mkM (m:={ x with Cores:=cr }) r0 r1 r2 r3 hr r5 hrt⟩
   have RT:∀ u,Rsb (A+1) (w6.setCell ⟨B,4,none⟩ u) (.slice (some ⟨g4,s4+3,none⟩) (N4 - 1) (q4 - 1)) cr:=fun u=>by
    obtain⟨_,_,_,_,h4,_⟩:=zEz en.out ow.out nB4 4 u;rw[hcc] at h4;exact Rsb.tail h4
   have hlr:cr.length=N4 - 1:=by rw[hcc] at hN4;simp at hN4;omega
   by_cases hq1:q4=1
   ·subst hq1;obtain rfl:N4=1:=by omega
    have hcr0:cr = []:=List.length_eq_zero_iff.1 (by omega)
    have DPh:=DP1 (some ⟨g4,s4,none⟩) 0 0 (Rsb.nil rfl hcr0 (by omega))
    have HTC:=zh htc;clear DP1 RT os hN4 hlr htc hcr0 hcc;go_upto_region 15 with (fail)
    refine zA2 (zHp 47 W w b (m+90) A B ({ x with Cores:=cr }:Machine)) DPh.out ?_
    rintro u9 ⟨mw9,rd9,ka9,lt9,p0,q0,p1,q1,p2,q2,p3,q3,p4,q4,p5,q5,n4,n5,y0,y1,y2,y3,y4,y5,y6,rv9⟩;obtain⟨xr,hxr⟩:∃ xr,({ x with Cores:=cr }:Machine)=xr:=⟨_,rfl⟩
    have htr:GT.tot xr<=200000:=by rw[<- hxr];exact HTC.out
    have hmr:n=0->zBm xr/\1<=xr.Cores.length:=by rw[<- hxr];exact fun e=>absurd e hn0
    rw[hxr] at y0 y1 y2 y3 y6 rv9;replace MW:=zh mw9;replace RD:=zh rd9;have RV:=zh rv9;obtain⟨z0,z1,z2,z3,z4,z5,z6⟩:=Bk.k7 ka9;have zf:=ka9.fz;have ltZ:=ka9.lt;clear mw9 rd9 ka9 rv9 hxr;go_wp2;refine bodyPost_ret (v:=.agg #[.slice p0 xr.Plan.Parts.length q0,.slice p1 xr.Plan.Channels.length q1,.slice p2 xr.Plan.Slots.length q2,.slice p3 xr.Programs.length q3,.slice p4 n4 q4,.slice p5 n5 q5,.int .i64 xr.Tick]) (by simp[results,Try.results21,go_sem,z0,z1,z2,z3,z4,z5,z6]) rfl ⟨_,xr,rfl,?_,htr,hmr,?_,?_⟩
    ·exact(Rvb.puts (A:=A) (o:=0) (by omega) [.slice p0 xr.Plan.Parts.length q0,.slice p1 xr.Plan.Channels.length q1,.slice p2 xr.Plan.Slots.length q2,.slice p3 xr.Programs.length q3,.slice p4 n4 q4,.slice p5 n5 q5,.int .i64 xr.Tick] RV.out).mono (by omega)
    ·exact Mw.puts (b:=A) (o:=0) (.inr (by omega)) [.slice p0 xr.Plan.Parts.length q0,.slice p1 xr.Plan.Channels.length q1,.slice p2 xr.Plan.Slots.length q2,.slice p3 xr.Programs.length q3,.slice p4 n4 q4,.slice p5 n5 q5,.int .i64 xr.Tick] MW.out
    ·exact(Rd.puts (c:=A) (o:=0) (by omega) (by omega) [.slice p0 xr.Plan.Parts.length q0,.slice p1 xr.Plan.Channels.length q1,.slice p2 xr.Plan.Slots.length q2,.slice p3 xr.Programs.length q3,.slice p4 n4 q4,.slice p5 n5 q5,.int .i64 xr.Tick] RD.out).le (by omega)
   ·have DPh:=DP1 (some ⟨g4,s4+3,none⟩) (N4 - 1) (q4 - 1) (RT _);have HTC:=zh htc;clear DP1 RT os hN4 hlr htc hcc;go_upto_region 15 with (fail)
    refine zA2 (zHp 47 W w b (m+90) A B ({ x with Cores:=cr }:Machine)) DPh.out ?_
    rintro u9 ⟨mw9,rd9,ka9,lt9,p0,q0,p1,q1,p2,q2,p3,q3,p4,q4,p5,q5,n4,n5,y0,y1,y2,y3,y4,y5,y6,rv9⟩;obtain⟨xr,hxr⟩:∃ xr,({ x with Cores:=cr }:Machine)=xr:=⟨_,rfl⟩
    have htr:GT.tot xr<=200000:=by rw[<- hxr];exact HTC.out
    have hmr:n=0->zBm xr/\1<=xr.Cores.length:=by rw[<- hxr];exact fun e=>absurd e hn0
    rw[hxr] at y0 y1 y2 y3 y6 rv9;replace MW:=zh mw9;replace RD:=zh rd9;have RV:=zh rv9;obtain⟨z0,z1,z2,z3,z4,z5,z6⟩:=Bk.k7 ka9;have zf:=ka9.fz;have ltZ:=ka9.lt;clear mw9 rd9 ka9 rv9 hxr;go_wp2;refine bodyPost_ret (v:=.agg #[.slice p0 xr.Plan.Parts.length q0,.slice p1 xr.Plan.Channels.length q1,.slice p2 xr.Plan.Slots.length q2,.slice p3 xr.Programs.length q3,.slice p4 n4 q4,.slice p5 n5 q5,.int .i64 xr.Tick]) (by simp[results,Try.results21,go_sem,z0,z1,z2,z3,z4,z5,z6]) rfl ⟨_,xr,rfl,?_,htr,hmr,?_,?_⟩
    ·exact(Rvb.puts (A:=A) (o:=0) (by omega) [.slice p0 xr.Plan.Parts.length q0,.slice p1 xr.Plan.Channels.length q1,.slice p2 xr.Plan.Slots.length q2,.slice p3 xr.Programs.length q3,.slice p4 n4 q4,.slice p5 n5 q5,.int .i64 xr.Tick] RV.out).mono (by omega)
    ·exact Mw.puts (b:=A) (o:=0) (.inr (by omega)) [.slice p0 xr.Plan.Parts.length q0,.slice p1 xr.Plan.Channels.length q1,.slice p2 xr.Plan.Slots.length q2,.slice p3 xr.Programs.length q3,.slice p4 n4 q4,.slice p5 n5 q5,.int .i64 xr.Tick] MW.out
    ·exact(Rd.puts (c:=A) (o:=0) (by omega) (by omega) [.slice p0 xr.Plan.Parts.length q0,.slice p1 xr.Plan.Channels.length q1,.slice p2 xr.Plan.Slots.length q2,.slice p3 xr.Programs.length q3,.slice p4 n4 q4,.slice p5 n5 q5,.int .i64 xr.Tick] RD.out).le (by omega)
  ·clear hkb;have nB4:B ∉ F4:=OM.out.bk.2.2.1;obtain rfl:=Option.some.inj (HC5.out.symm.trans y5);have OW2:Own (B+1) w6 F4:=⟨ow.out.1,fun k hk=>⟨HF4.out k hk,(ow.out.2 k hk).2⟩⟩
   have OO:=zh (Sp.oo (α:=Hold) SPH.out (zI6 en.out OW2));have HAP:=zh (zGo en.out OW2 nB4 SPH.out);have hBw:B+1<=w6.heap.size:=by omega
   have htc:GT.tot ({ x with Holds:=x.Holds ++ [⟨[]⟩] }:Machine)<=200000:=by
    have h1:=zCy ({ x with Holds:=x.Holds ++ [⟨[]⟩] }:Machine)
    have h2:=zCy x;have h3:=zGi (⟨[]⟩:Hold) x.Holds;have h4:GT.tot (⟨[]⟩:Hold)=0:=rfl;simp only at h1;omega
   have hl8:x.Holds.length<=1000000:=by have:=zBa (xs:=x.Holds);have:=zCy x;omega
   have HTC:=zh htc;have HY:=zh (And.intro y0 (And.intro y1 (And.intro y2 (And.intro y3 (And.intro y4 y6)))));clear os en ow OW2 htc y0 y1 y2 y3 y4 y6;go_upto_region 15 with (at_builtin;refine zJb (u:=w6) (α:=Hold) rfl _ _ 45 rfl 71 Try.underlying45 elHold (v:=.slice p5 x.Holds.length q5) (ys:=[⟨[]⟩]) rfl OO.out ((zr _).alloc _) hBw rfl rfl (Row.lit1 (cs:=[.slice none 0 0]) (GT.zero (α:=Hold) w6)) (by simp) (Own.nil _ _) (by simp;omega) ?_;intro v7 w7 hO7 hg7 _;obtain⟨a7,n7,c7,rfl⟩:=hO7.sh;have hm7:Mw (B::(Value.slice p5 x.Holds.length q5).ownBlock.toList) w6 w7:=(Mw.ofExt ((zr w6).alloc _)).tr (Mw.ofGrown hg7 (fun k hk=>by simp[hk]));have hne7:B ∉ (Value.slice p5 x.Holds.length q5).ownBlock.toList:=(fun hm=>by have:=OO.out.own B (by simpa using hm);omega);have hm8:Mw (Value.slice p5 x.Holds.length q5).ownBlock.toList w6 w7:=(Mw.ofExt ((zr w6).alloc _)).tr (Mw.ofGrown hg7 (fun k hk=>by simp[hk]));have c75:=hm8.cell0 y5 hne7 ltB6;have c7f:w7.frozen? ⟨B,5,none⟩=false:=(World.frozen?_of_block (hm8.2.2 B ltB6 hne7)).trans (bf 5);have HM7:=zh hm7;have HM8:=zh hm8;have HO7:=zh hO7;have HNE:=zh hne7;clear hm7 hm8 hO7 hg7 hne7)
   obtain⟨y0,y1,y2,y3,y4,y6⟩:=HY.out;have HM9:=HM7.out.set (p:=⟨B,5,none⟩) (.inl (List.mem_cons_self ..)) (.slice a7 n7 c7);obtain⟨r0,r1,r2,r3,r4⟩:=HAP.out _ HM9;have r5:=(HO7.out.rsb).set9 (p:=⟨B,5,none⟩) (by show B < B+1;omega) (.slice a7 n7 c7)
   have hG5:∀ k∈(Value.slice p5 x.Holds.length q5).ownBlock.toList,B+1<=k:=fun k hk=>OO.out.own k (by simpa using hk)
   have MW9:Mw [b] w (w7.setCell ⟨B,5,none⟩ (.slice a7 n7 c7)):=MW.out.trF HM9 (fun k hk=>by
    rcases List.mem_cons.1 hk with rfl|hk
    ·exact .inr (by omega)
    ·exact .inr (by have:=hG5 k hk;omega))
   have RD9:=(RD.out.mw HM8.out (fun hm=>by have:=hG5 b hm;omega) (fun k hk=>by have:=hG5 k hk;omega)).set (p:=⟨B,5,none⟩) (by show b≠B;omega) (by show W.heap.size<=B;omega) (.slice a7 n7 c7)
   have KA9:=(HM8.out.bk KA.out (fun hm=>by have:=hG5 A hm;omega)).set_ne (p:=⟨B,5,none⟩) (by show A≠B;omega) (.slice a7 n7 c7)
   refine zA2 (zHp 47 W w b (m+90) A B ({ x with Holds:=x.Holds ++ [⟨[]⟩] }:Machine)) ⟨MW9,RD9.le (by omega),KA9,by have:=HM8.out.size;simp;omega,_,_,_,_,_,_,_,_,_,_,_,_,_,_,(zA7 (by decide)).trans (HM8.out.cell0 y0 HNE.out ltB6),(zA7 (by decide)).trans (HM8.out.cell0 y1 HNE.out ltB6),(zA7 (by decide)).trans (HM8.out.cell0 y2 HNE.out ltB6),(zA7 (by decide)).trans (HM8.out.cell0 y3 HNE.out ltB6),(zA7 (by decide)).trans (HM8.out.cell0 y4 HNE.out ltB6),zB8 c75,(zA7 (by decide)).trans (HM8.out.cell0 y6 HNE.out ltB6),(Rvb.mkM (m:={ x with Holds:=x.Holds ++ [⟨[]⟩] }) r0 r1 r2 r3 r4 r5 hrt).mono (by omega)⟩ ?_
   clear HM7 HM8 HM9 HO7 HNE HY HAP OO r0 r1 r2 r3 r4 r5 hG5 MW9 RD9 KA9 y0 y1 y2 y3 y4 y5 y6 c75 c7f SPH HC5;rintro u9 ⟨mw9,rd9,ka9,lt9,p0,q0,p1,q1,p2,q2,p3,q3,p4,q4,p5,q5,n4,n5,y0,y1,y2,y3,y4,y5,y6,rv9⟩;obtain⟨xr,hxr⟩:∃ xr,({ x with Holds:=x.Holds ++ [⟨[]⟩] }:Machine)=xr:=⟨_,rfl⟩
   have htr:GT.tot xr<=200000:=by rw[<- hxr];exact HTC.out
   have hmr:n=0->zBm xr/\1<=xr.Cores.length:=by rw[<- hxr];exact fun e=>absurd e hn0
   rw[hxr] at y0 y1 y2 y3 y6 rv9;replace MW:=zh mw9;replace RD:=zh rd9;have RV:=zh rv9;obtain⟨z0,z1,z2,z3,z4,z5,z6⟩:=Bk.k7 ka9;have zf:=ka9.fz;have ltZ:=ka9.lt;clear mw9 rd9 ka9 rv9 hxr;go_wp2;refine bodyPost_ret (v:=.agg #[.slice p0 xr.Plan.Parts.length q0,.slice p1 xr.Plan.Channels.length q1,.slice p2 xr.Plan.Slots.length q2,.slice p3 xr.Programs.length q3,.slice p4 n4 q4,.slice p5 n5 q5,.int .i64 xr.Tick]) (by simp[results,Try.results21,go_sem,z0,z1,z2,z3,z4,z5,z6]) rfl ⟨_,xr,rfl,?_,htr,hmr,?_,?_⟩
   ·exact(Rvb.puts (A:=A) (o:=0) (by omega) [.slice p0 xr.Plan.Parts.length q0,.slice p1 xr.Plan.Channels.length q1,.slice p2 xr.Plan.Slots.length q2,.slice p3 xr.Programs.length q3,.slice p4 n4 q4,.slice p5 n5 q5,.int .i64 xr.Tick] RV.out).mono (by omega)
   ·exact Mw.puts (b:=A) (o:=0) (.inr (by omega)) [.slice p0 xr.Plan.Parts.length q0,.slice p1 xr.Plan.Channels.length q1,.slice p2 xr.Plan.Slots.length q2,.slice p3 xr.Programs.length q3,.slice p4 n4 q4,.slice p5 n5 q5,.int .i64 xr.Tick] MW.out
   ·exact(Rd.puts (c:=A) (o:=0) (by omega) (by omega) [.slice p0 xr.Plan.Parts.length q0,.slice p1 xr.Plan.Channels.length q1,.slice p2 xr.Plan.Slots.length q2,.slice p3 xr.Programs.length q3,.slice p4 n4 q4,.slice p5 n5 q5,.int .i64 xr.Tick] RD.out).le (by omega)
  ·clear hkb;obtain⟨g,s,c,k0,Fy,z4,hk0,omc,hsub,back⟩:=OM.out.mcore (Y:=0) hcr;obtain⟨_,_,_,zat,_,_,_⟩:=omc.openC;have gfc:=omc.bk.2.2.2;have ltgc:=omc.bk.1;have hgA:=omc.bk.2.1;obtain⟨F7,o7,s7,c7⟩:=omc.putAt 20 ⟨by omega,by omega⟩
   obtain⟨F8,o8,-,-⟩:=back _ _ _ c7 o7 (fun y hy => .inl (s7 y hy))
   have e4:some ⟨g,s,none⟩=p4/\x.Cores.length=x.Cores.length/\c=q4:=by
    have:=(Option.some.inj (z4.symm.trans (by simpa using y4)))
    simpa using this
   obtain⟨rfl,-,rfl⟩:=e4;have o8':Om (A+1) (w6.setCell ⟨g,s+1,none⟩ (.int .i64 20)) B 0 { x with Cores:=x.Cores.set 0 { k0 with At:=20 } } F8:=by simpa using o8
   have zat':w6.cell? ⟨g,s+1,none⟩=some (.int .i64 k0.At):=by simpa using zat
   have htc:GT.tot ({ x with Cores:=x.Cores.set 0 { k0 with At:=20 } }:Machine)<=200000:=by
    have h1:=zCy ({ x with Cores:=x.Cores.set 0 { k0 with At:=20 } }:Machine)
    have h2:=zCy x;have h3:=tot_set x.Cores { k0 with At:=20 } 0
    have h4:=zH8 hk0;have h5:GT.tot ({ k0 with At:=20 }:Core)=GT.tot k0:=rfl
    simp only at h1;omega
   have HTC:=zh htc;have DPh:=zh (zHp.om (MW.out.set (p:=⟨g,s+1,none⟩) (.inr (by show w.heap.size<=g;omega)) _) ((RD.out.set (p:=⟨g,s+1,none⟩) (by show b≠g;omega) (by show W.heap.size<=g;omega) _).le (m':=m+90) (by omega)) (KA.out.set_ne (p:=⟨g,s+1,none⟩) (by show A≠g;omega) _) o8')
   clear o8 o8' o7 c7 s7 back hsub omc zat htc os en ow z4 hk0;go_upto_region 15 with (fail)
   refine zA2 (zHp 47 W w b (m+90) A B _) DPh.out ?_;rintro u9 ⟨mw9,rd9,ka9,lt9,p0,q0,p1,q1,p2,q2,p3,q3,p4,q4,p5,q5,n4,n5,y0,y1,y2,y3,y4,y5,y6,rv9⟩;obtain⟨xr,hxr⟩:∃ xr,({ x with Cores:=x.Cores.set 0 { k0 with At:=20 } }:Machine)=xr:=⟨_,rfl⟩
   have htr:GT.tot xr<=200000:=by rw[<- hxr];exact HTC.out
   have hmr:n=0->zBm xr/\1<=xr.Cores.length:=by rw[<- hxr];exact fun e=>absurd e hn0
   rw[hxr] at y0 y1 y2 y3 y6 rv9;replace MW:=zh mw9;replace RD:=zh rd9;have RV:=zh rv9;obtain⟨z0,z1,z2,z3,z4,z5,z6⟩:=Bk.k7 ka9;have zf:=ka9.fz;have ltZ:=ka9.lt;clear mw9 rd9 ka9 rv9 hxr;go_wp2;refine bodyPost_ret (v:=.agg #[.slice p0 xr.Plan.Parts.length q0,.slice p1 xr.Plan.Channels.length q1,.slice p2 xr.Plan.Slots.length q2,.slice p3 xr.Programs.length q3,.slice p4 n4 q4,.slice p5 n5 q5,.int .i64 xr.Tick]) (by simp[results,Try.results21,go_sem,z0,z1,z2,z3,z4,z5,z6]) rfl ⟨_,xr,rfl,?_,htr,hmr,?_,?_⟩
   ·exact(Rvb.puts (A:=A) (o:=0) (by omega) [.slice p0 xr.Plan.Parts.length q0,.slice p1 xr.Plan.Channels.length q1,.slice p2 xr.Plan.Slots.length q2,.slice p3 xr.Programs.length q3,.slice p4 n4 q4,.slice p5 n5 q5,.int .i64 xr.Tick] RV.out).mono (by omega)
   ·exact Mw.puts (b:=A) (o:=0) (.inr (by omega)) [.slice p0 xr.Plan.Parts.length q0,.slice p1 xr.Plan.Channels.length q1,.slice p2 xr.Plan.Slots.length q2,.slice p3 xr.Programs.length q3,.slice p4 n4 q4,.slice p5 n5 q5,.int .i64 xr.Tick] MW.out
   ·exact(Rd.puts (c:=A) (o:=0) (by omega) (by omega) [.slice p0 xr.Plan.Parts.length q0,.slice p1 xr.Plan.Channels.length q1,.slice p2 xr.Plan.Slots.length q2,.slice p3 xr.Programs.length q3,.slice p4 n4 q4,.slice p5 n5 q5,.int .i64 xr.Tick] RD.out).le (by omega)
end Sk
