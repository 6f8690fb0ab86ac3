/- Contracts of functions of the given program. -/
import Derived.Test.YtbekofpkcahbkaaGreatZdDrwP
namespace Sk
open Go Go.Proofs Go.RowKit
set_option maxHeartbeats 3000000
set_option maxRecDepth 100000
set_option linter.unusedVariables false
set_option linter.unusedSimpArgs false
theorem M.ovq{c n:Int}{y:Order}(h:zEh c n y=true):(y.Op=1/\(0<=y.A/\y.A < c)/\(0<=y.B/\y.B<=255))\/((y.Op=2\/y.Op=3)/\(0<=y.A/\y.A < c)/\(0<=y.B/\y.B < c)) \/
  (y.Op=4/\(0<=y.A/\y.A < n)/\(0<=y.B/\y.B < c))\/((y.Op=5\/y.Op=6)/\(0<=y.A/\y.A < 8)/\(0<=y.B/\y.B < c)) \/
  (y.Op=7/\(0<=y.A/\y.A < c)/\y.B=0)\/((y.Op=0\/y.Op=8)/\y.A=0/\y.B=0):=by
 obtain⟨X,A,B⟩:=y;unfold zEh zD7 at h;simp only at h ⊢
 repeat' split at h
 all_goals first
  | (simp only[Bool.and_eq_true,zA5,beq_iff_eq] at h;omega)
  | omega
  | cases h
theorem zH5(W w:World)(b m:Nat)(v:Value)(s:Setup)(h:Rd W w b (m+500))(hs:Rvb (b+1) w v s)(hv:zB0 s=true) :
  Calls Tryz.prog 89 #[.pointer (some ⟨b,0,none⟩),v,.int .i64 0] w fun e w' => ∃ v' ps,e = .returned v'/\Os (α:=List Order) w.heap.size w' v' ps/\M.PG s ps/\Mw [b] w w'/\Rd W w' b m:=by
 have HRD0:=zh h;have hbl:=h.lt;have hbW:=h.1;have hWw:=h.2.1.sz;obtain⟨a0,c0,a1,c1,a2,c2,rfl,-,hl0,-,hl1,-,hl2⟩:=hs.rv.openSetup;obtain⟨l0,l1,l2⟩:=hs.lists;have HP0:=zh l0;have HC0:=zh l1;have hp5:=zAr hv;have hc8:=zBs hv;have HV:=zh hv;have HCV:Hid (zE4 s.Channels s.Parts.length=true):=zh (by simp only[zB0,Bool.and_eq_true] at hv;exact hv.2.1)
 have HPV:Hid (∀ x∈s.Parts,1<=x.Cells/\x.Cells<=8):=zh (fun x hx=>by
  simp only[zB0,zEm,Bool.and_eq_true,List.all_eq_true] at hv
  have:=hv.1.2 x hx
  simp only[zD8,Bool.and_eq_true,zA5] at this;exact this.2)
 clear h hs hv l0 l1 l2;go_enter Tryz.func89,Tryz.ntmps89;go_upto_region 2 with (fail)
 refine zA1 (fun W0=>Ext w W0/\Bk W0 w.heap.size [.slice a0 s.Parts.length c0,.slice a1 s.Channels.length c1,.slice a2 s.Slots.length c2] 41/\Oo (α:=List Order) 77 (w.heap.size+1) W0 (.slice (some ⟨w.heap.size+1,0,none⟩) 0 0) []) ⟨((zr _).alloc _).alloc _,(Bk.new _ _ _).ext ((zr _).alloc _),by have h:=Oo.lit0 (α:=List Order) 77 (w.alloc (.cells #[.slice a0 s.Parts.length c0,.slice a1 s.Channels.length c1,.slice a2 s.Slots.length c2] 41));simpa using h⟩ ?_
 rintro W0 ⟨e0,kA,ho0⟩;have HRD:=zh (HRD0.out.ext e0);have HMW:Hid (Mw [b] w W0):=zh (Mw.ofExt e0);have HO:=zh ho0;have KA:=zh kA;have x0:=kA.cell (j:=0) rfl;clear e0 kA ho0 HRD0;go_wp2_with fail
 go_loopw [7,8] (fun v7 i wr => ∃ (j:Nat) (ao:Option Addr) (no co:Nat) (xs:List (List Order)),j<=s.Parts.length/\i = .int .i64 j/\v7 = .slice ao no co/\Oo 77 (w.heap.size+1) wr (.slice ao no co) xs/\xs.length=j/\(∀ (k:Nat) (p:List Order) (q:Part),xs[k]? = some p->s.Parts[k]? = some q->zBr p q.Cells=true)/\Mw [b] w wr/\Rd W wr b (m+500 - 90*j)/\Bk wr w.heap.size [.slice a0 s.Parts.length c0,.slice a1 s.Channels.length c1,.slice a2 s.Slots.length c2] 41) (fun _ i _=>s.Parts.length - (intOf i).toNat)
 case atStart=>exact⟨0,_,_,_,[],Nat.zero_le _,rfl,rfl,HO.out,rfl,(fun k p q h=>by simp at h),HMW.out,HRD.out,KA.out⟩
 case round =>
  clear HMW HO HRD x0 KA;obtain⟨j,ao,no,co,xs,hj,rfl,rfl,hoo,hxl,hxv,hmw,hrd,ka⟩:=hrel;obtain⟨wo,rfl⟩:∃ wo:World,wo=wr:=⟨_,rfl⟩;have HXP:=zh hxv;have HXL:=zh hxl;have HMW:=zh hmw;have HO:=zh hoo.ob;have HOO:=zh hoo;have hs1:=hmw.size;have hxl5:xs.length<=5:=by omega
  have KA:=zh ka;obtain⟨x0,x1⟩:=Bk.k2 ka;have ltA:=ka.lt;have HC1:=zh (HC0.out.mw hmw (by simp))
  have hbo:b < wo.heap.size:=by omega
  by_cases hjt:j < s.Parts.length
  ·obtain⟨N,hN1,hN2⟩:∃ N,N+90<=m+500 - 90*j/\m+500 - 90*(j+1)<=N:=⟨m+410 - 90*j,by omega,by omega⟩
   have HRD:Hid (Rd W wo b ((N+30)+60)):=zh (hrd.le (by omega))
   obtain⟨F0,sP,kP⟩:=HP0.out.mw hmw (by simp)
   have hPn:b≠(0:Nat)\/True:=.inr trivial;obtain⟨pb,po,q,wa,wc,rfl,hpb,hq,hp0,hp1,hr1,_,_,_⟩:=(show Rs wo (.slice a0 s.Parts.length c0) s.Parts from⟨F0,sP⟩).atPart j hjt
   have hpbb:pb≠b:=by have:=kP pb (sP.hd (by omega));omega
   obtain⟨ws,qc⟩:=q;simp only at hp0 hp1 hr1;obtain⟨hq1,hq8⟩:=HPV.out _ (List.mem_of_getElem? hq.out);simp only at hq1 hq8;obtain⟨c,rfl⟩:∃ c:Nat,qc=c:=⟨qc.toNat,by omega⟩
   have hcm:(if (c:Int) < 8 then (c:Int) else 8)=c:=by split<;>omega
   have hcx:(if (1:Int) < (c:Int) then (c:Int) else 1)=c:=by split<;>omega
   have hc1':1<=c:=by omega
   have hc8':c<=8:=by omega
   have hcs:s.Channels.length<=100:=by omega
   clear hmw hoo hrd hxl hxv ka sP kP hPn hp0;go_upto_region 5 with (fail)
   go_region_held3 (fun u=>u.cell? ⟨w.heap.size,0,none⟩=some (.slice (some ⟨pb,po,none⟩) s.Parts.length c0)/\u.cell? ⟨w.heap.size,1,none⟩=some (.slice a1 s.Channels.length c1)/\u.cell? ⟨pb,po+j*2+1,none⟩=some (.int .i64 c))
    (first
     | exact⟨(XM.out.cell (by simp;omega) ltA).trans x0,(XM.out.cell (by simp;omega) ltA).trans x1,(XM.out.cell (by simpa using hpbb) hpb).trans hp1⟩
     | go_keep)
    ((go_at_call 135;refine(zHv W _ b (N+30) c s.Channels.length (HRD.out.ext (zr _).drew) hc1' hc8' hcs).mono ?_;rintro e w3 ⟨v3,ls,rfl,hol,hpv,hll,hm,hr⟩;obtain⟨la,lc,rfl,hlf⟩:=hol.form;have HL:=zh (show Os wo.heap.size w3 (.slice la ls.length lc) ls from hol);have HPR:=zh hpv;have XM:=zh ((Mw.ofExt (F:=[b]) (zr wo).drew).tr hm);have HR3:=zh hr;clear hm hr hol hpv))
   have hpo:Hid (∀ x∈ls,zEh c ls.length x=true):=zh (by
    have:=HPR.out
    simp only[zBr,Bool.and_eq_true,List.all_eq_true] at this;exact this.2.2)
   generalize hn':ls.length=n at *
   have HLN:=zh hn';have hn7:n<=7:=by omega
   have hn1:1<=n:=by
    have:=HPR.out
    simp only[zBr,Bool.and_eq_true,zA5] at this;omega
   clear hn';go_wp2_with fail
   go_loopw [10] (fun v10 wi => ∃ (i:Nat) (ys:List Order),i<=n/\v10 = .int .i64 i/\ys.length=n/\Os wo.heap.size wi (.slice la n lc) ys/\(∀ y∈ys,zEh c n y=true)/\Mw [b] wo wi/\Rd W wi b (N+30 - 3*i)) (fun v10 _=>n - (intOf v10).toNat)
   case atStart=>exact⟨0,ls,Nat.zero_le _,rfl,HLN.out,HL.out,hpo.out,XM.out,HR3.out⟩
   case round =>
    obtain⟨i,ys,hi,rfl,hyl,hys,hyv,hmi,hri⟩:=hrel;clear HL XM HR3 hpo x0 x1 hp1;obtain⟨wi,rfl⟩:∃ wi:World,wi=wr:=⟨_,rfl⟩;have HLI:=zh hys;have HXV:=zh hyv;have HXN:=zh hyl;have HMI:=zh hmi;have hsi:=hmi.size;have kai:=hmi.bk KA.out (by simp;omega)
    by_cases hit:i < n
    ·obtain⟨M2,hM1,hM2⟩:∃ M2,M2+1+1<=N+30 - 3*i/\N+30 - 3*(i+1)<=M2:=⟨N+28 - 3*i,by omega,by omega⟩
     have HR2:Hid (Rd W wi b (M2+1+1)):=zh (hri.le hM1);have hil:i < ys.length:=by omega
     have HCI:=zh (HC1.out.mw hmi (by simp))
     obtain⟨g,sg,X,A,B,rfl,hx,hLg,hgl,f0,f1,f2,gf,r0,r1,r2⟩:=hys.atO i hil;have hov:=M.ovq (hyv _ (List.mem_of_getElem? hx.out));simp only at hov;obtain⟨x0,x1⟩:=Bk.k2 kai;have hbg:b≠g:=by omega
     have hWg:W.heap.size<=g:=by omega
     have hAi:=kai.lt;clear hys hyv hyl hmi hri kai;by_cases h5:X=5
     ·subst h5;have hB:(0<=A/\A < 8)/\(0<=B/\B < (c:Int)):=by omega
      clear hov;go_upto_if 58 with (go_at_call 35;go_loud (refine(zA9 W _ b _ _ HR2.out (zAf (by omega) (by omega))).mono ?_;rintro e w4 ⟨kk,rfl,hk,hm,hr⟩;obtain⟨hk0,hk4⟩:=hk.lt (by omega);have HM4:=zh (HMI.out.tr (Mw.ofMo hm));have HR4:=zh hr;have HL4:=zh (HLI.out.mw (Mw.ofMo hm) (by simp<;>omega));have HC4:=zh (HCI.out.mw (Mw.ofMo hm) (by simp<;>omega)).rs;have y0:=(hm.cell (p:=w.heap.size) (o:=0) (by simp<;>omega)).trans x0;have y1:=(hm.cell (p:=w.heap.size) (o:=1) (by simp<;>omega)).trans x1;have o0:=(hm.cell (p:=g) (o:=sg+i*3) (by simp<;>omega)).trans f0;have o1:=(hm.cell (p:=g) (o:=sg+i*3+1) (by simp<;>omega)).trans f1;have o2:=(hm.cell (p:=g) (o:=sg+i*3+2) (by simp<;>omega)).trans f2;have hsz4:=(Mw.ofMo hm).size;clear hk hm hr))
      by_cases hkk:0 < kk
      ·have hkb:decide ((0:Int) < kk)=true:=decide_eq_true hkk;have hkb2:decide (kk > (0:Int))=true:=decide_eq_true hkk;have ltA4:w.heap.size < w4.heap.size:=by omega
       have ltg4:g < w4.heap.size:=by omega
       go_upto_region 10 with (fail)
       go_region_held3 (fun u=>u.cell? ⟨w.heap.size,0,none⟩=some (.slice (some ⟨pb,po,none⟩) s.Parts.length c0)/\u.cell? ⟨w.heap.size,1,none⟩=some (.slice a1 s.Channels.length c1)/\u.cell? ⟨g,sg+i*3,none⟩=some (.int .i64 5))
        (first
         | exact⟨(zA0 XX.out ltA4).trans y0,(zA0 XX.out ltA4).trans y1,(zA0 XX.out ltg4).trans o0⟩
         | go_keep)
        ((go_at_call 136;refine(zEt _ s.Channels s.Parts.length j true _ (HC4.out.ext (zr _).drew) HCV.out).mono ?_;rintro e w5 ⟨v5,ms,rfl,hom,⟨hml,hmb⟩,he⟩;obtain⟨ma,mc,rfl,hmf⟩:=hom.form;have HOM:=zh hom;have HMB:=zh hmb;have XX:=zh ((zr _).drew.tr he);clear he hom hmb))
       have HL5:=zh (HL4.out.ext XX.out);have HM5:=zh (HM4.out.tr (Mw.ofExt XX.out));have HR5:=zh (HR4.out.ext XX.out);have p0:=(zA0 XX.out ltg4).trans o0;have p1:=(zA0 XX.out ltg4).trans o1;have p2:=(zA0 XX.out ltg4).trans o2;have hs5:=XX.out.sz;have hb5:b < w4.heap.size:=by omega
       obtain⟨_,_,_,_,_,eg,-,-,-,-,-,-,gf5,-⟩:=HL5.out.atO i hil;cases eg;have hgl5:g < w5.heap.size:=by omega
       by_cases hm0:ms = []
       ·subst hm0;go_wp2;go_roundw
        case rel =>
         have h9:=HL5.out.setO hil (by omega) ⟨0,0,0⟩ zAj zAj zAj
         exact⟨i+1,_,by omega,by go_num,by rw[List.length_set];exact HXN.out,h9,fun y hy=>(List.mem_or_eq_of_mem_set hy).elim (HXV.out y) (fun e=>by subst e;exact zCk (by omega)),((HM5.out.set (.inr hLg) _).set (.inr hLg) _).set (.inr hLg) _,(((HR5.out.set (p:=⟨g,sg+i*3,none⟩) hbg hWg _).set (p:=⟨g,sg+i*3+1,none⟩) hbg hWg _).set (p:=⟨g,sg+i*3+2,none⟩) hbg hWg _).le (by omega)⟩
        case measure=>simp[intOf];omega
       ·have hmp:0 < ms.length:=List.length_pos_iff.2 hm0;have hmpb:decide (0 < ms.length)=true:=decide_eq_true hmp;have hmpb2:decide ((0:Int) < (ms.length:Int))=true:=decide_eq_true (by omega)
        clear hm0;go_upto_region 8 with (go_at_call 35;refine(zA9 W _ b _ _ HR5.out (zAf (by omega) (by omega))).mono ?_;rintro e w6 ⟨k6,rfl,hk,hm,hr⟩;obtain⟨hk60,hk61⟩:=hk.lt (by omega);obtain⟨k6n,rfl⟩:∃ n:Nat,k6=n:=⟨k6.toNat,by omega⟩;have hk6l:k6n < ms.length:=(by omega);obtain⟨mb,mo,z,rfl,hmbl,hz,hmc,hzr⟩:=(HOM.out.mw (Mw.ofMo hm) (by simp<;>omega)).rs.atInt k6n hk6l;have hzb:=HMB.out z (List.mem_of_getElem? hz.out);have HM6:=zh (HM5.out.tr (Mw.ofMo hm));have HR6:=zh hr;have HL6:=zh (HL5.out.mw (Mw.ofMo hm) (by simp<;>omega));have s0:=(hm.cell (p:=g) (o:=sg+i*3) (by simp<;>omega)).trans p0;have s1:=(hm.cell (p:=g) (o:=sg+i*3+1) (by simp<;>omega)).trans p1;have s2:=(hm.cell (p:=g) (o:=sg+i*3+2) (by simp<;>omega)).trans p2;have hsz6:=(Mw.ofMo hm).size;obtain⟨_,_,_,_,_,eg6,-,-,-,-,-,-,gf6,-⟩:=HL6.out.atO i hil;cases eg6;have hgl6:g < w6.heap.size:=(by omega);clear hk hm hr)
        go_wp2;go_roundw
        case rel =>
         have h9:=HL6.out.setA (z:=z) hil (by omega) s0 s1 s2 ⟨by omega,by omega⟩ ⟨by omega,by omega⟩ r2
         exact⟨i+1,_,by omega,by go_num,by rw[List.length_set];exact HXN.out,h9,fun y hy=>(List.mem_or_eq_of_mem_set hy).elim (HXV.out y) (fun e=>by subst e;exact zCk (by omega)),HM6.out.set (.inr hLg) _,(HR6.out.set (p:=⟨g,sg+i*3+1,none⟩) hbg hWg _).le (by omega)⟩
        case measure=>simp[intOf];omega
      ·obtain rfl:kk=0:=by omega
       go_wp2;go_roundw
       case rel=>exact⟨i+1,_,by omega,by go_num,HXN.out,HL4.out,HXV.out,HM4.out,HR4.out.le (by omega)⟩
       case measure=>simp[intOf];omega
     by_cases h6:X=6
     ·subst h6;have hB:(0<=A/\A < 8)/\(0<=B/\B < (c:Int)):=by omega
      clear hov;go_upto_if 58 with (go_at_call 35;go_loud (refine(zA9 W _ b _ _ HR2.out (zAf (by omega) (by omega))).mono ?_;rintro e w4 ⟨kk,rfl,hk,hm,hr⟩;obtain⟨hk0,hk4⟩:=hk.lt (by omega);have HM4:=zh (HMI.out.tr (Mw.ofMo hm));have HR4:=zh hr;have HL4:=zh (HLI.out.mw (Mw.ofMo hm) (by simp<;>omega));have HC4:=zh (HCI.out.mw (Mw.ofMo hm) (by simp<;>omega)).rs;have y0:=(hm.cell (p:=w.heap.size) (o:=0) (by simp<;>omega)).trans x0;have y1:=(hm.cell (p:=w.heap.size) (o:=1) (by simp<;>omega)).trans x1;have o0:=(hm.cell (p:=g) (o:=sg+i*3) (by simp<;>omega)).trans f0;have o1:=(hm.cell (p:=g) (o:=sg+i*3+1) (by simp<;>omega)).trans f1;have o2:=(hm.cell (p:=g) (o:=sg+i*3+2) (by simp<;>omega)).trans f2;have hsz4:=(Mw.ofMo hm).size;clear hk hm hr))
      by_cases hkk:0 < kk
      ·have hkb:decide ((0:Int) < kk)=true:=decide_eq_true hkk;have hkb2:decide (kk > (0:Int))=true:=decide_eq_true hkk;have ltA4:w.heap.size < w4.heap.size:=by omega
       have ltg4:g < w4.heap.size:=by omega
       go_upto_region 10 with (fail)
       go_region_held3 (fun u=>u.cell? ⟨w.heap.size,0,none⟩=some (.slice (some ⟨pb,po,none⟩) s.Parts.length c0)/\u.cell? ⟨w.heap.size,1,none⟩=some (.slice a1 s.Channels.length c1)/\u.cell? ⟨g,sg+i*3,none⟩=some (.int .i64 6))
        (first
         | exact⟨(zA0 XX.out ltA4).trans y0,(zA0 XX.out ltA4).trans y1,(zA0 XX.out ltg4).trans o0⟩
         | go_keep)
        ((go_at_call 136;refine(zEt _ s.Channels s.Parts.length j false _ (HC4.out.ext (zr _).drew) HCV.out).mono ?_;rintro e w5 ⟨v5,ms,rfl,hom,⟨hml,hmb⟩,he⟩;obtain⟨ma,mc,rfl,hmf⟩:=hom.form;have HOM:=zh hom;have HMB:=zh hmb;have XX:=zh ((zr _).drew.tr he);clear he hom hmb))
       have HL5:=zh (HL4.out.ext XX.out);have HM5:=zh (HM4.out.tr (Mw.ofExt XX.out));have HR5:=zh (HR4.out.ext XX.out);have p0:=(zA0 XX.out ltg4).trans o0;have p1:=(zA0 XX.out ltg4).trans o1;have p2:=(zA0 XX.out ltg4).trans o2;have hs5:=XX.out.sz;have hb5:b < w4.heap.size:=by omega
       obtain⟨_,_,_,_,_,eg,-,-,-,-,-,-,gf5,-⟩:=HL5.out.atO i hil;cases eg;have hgl5:g < w5.heap.size:=by omega
       by_cases hm0:ms = []
       ·subst hm0;go_wp2;go_roundw
        case rel =>
         have h9:=HL5.out.setO hil (by omega) ⟨0,0,0⟩ zAj zAj zAj
         exact⟨i+1,_,by omega,by go_num,by rw[List.length_set];exact HXN.out,h9,fun y hy=>(List.mem_or_eq_of_mem_set hy).elim (HXV.out y) (fun e=>by subst e;exact zCk (by omega)),((HM5.out.set (.inr hLg) _).set (.inr hLg) _).set (.inr hLg) _,(((HR5.out.set (p:=⟨g,sg+i*3,none⟩) hbg hWg _).set (p:=⟨g,sg+i*3+1,none⟩) hbg hWg _).set (p:=⟨g,sg+i*3+2,none⟩) hbg hWg _).le (by omega)⟩
        case measure=>simp[intOf];omega
       ·have hmp:0 < ms.length:=List.length_pos_iff.2 hm0;have hmpb:decide (0 < ms.length)=true:=decide_eq_true hmp;have hmpb2:decide ((0:Int) < (ms.length:Int))=true:=decide_eq_true (by omega)
        clear hm0;go_upto_region 8 with (go_at_call 35;refine(zA9 W _ b _ _ HR5.out (zAf (by omega) (by omega))).mono ?_;rintro e w6 ⟨k6,rfl,hk,hm,hr⟩;obtain⟨hk60,hk61⟩:=hk.lt (by omega);obtain⟨k6n,rfl⟩:∃ n:Nat,k6=n:=⟨k6.toNat,by omega⟩;have hk6l:k6n < ms.length:=(by omega);obtain⟨mb,mo,z,rfl,hmbl,hz,hmc,hzr⟩:=(HOM.out.mw (Mw.ofMo hm) (by simp<;>omega)).rs.atInt k6n hk6l;have hzb:=HMB.out z (List.mem_of_getElem? hz.out);have HM6:=zh (HM5.out.tr (Mw.ofMo hm));have HR6:=zh hr;have HL6:=zh (HL5.out.mw (Mw.ofMo hm) (by simp<;>omega));have s0:=(hm.cell (p:=g) (o:=sg+i*3) (by simp<;>omega)).trans p0;have s1:=(hm.cell (p:=g) (o:=sg+i*3+1) (by simp<;>omega)).trans p1;have s2:=(hm.cell (p:=g) (o:=sg+i*3+2) (by simp<;>omega)).trans p2;have hsz6:=(Mw.ofMo hm).size;obtain⟨_,_,_,_,_,eg6,-,-,-,-,-,-,gf6,-⟩:=HL6.out.atO i hil;cases eg6;have hgl6:g < w6.heap.size:=(by omega);clear hk hm hr)
        go_wp2;go_roundw
        case rel =>
         have h9:=HL6.out.setA (z:=z) hil (by omega) s0 s1 s2 ⟨by omega,by omega⟩ ⟨by omega,by omega⟩ r2
         exact⟨i+1,_,by omega,by go_num,by rw[List.length_set];exact HXN.out,h9,fun y hy=>(List.mem_or_eq_of_mem_set hy).elim (HXV.out y) (fun e=>by subst e;exact zCk (by omega)),HM6.out.set (.inr hLg) _,(HR6.out.set (p:=⟨g,sg+i*3+1,none⟩) hbg hWg _).le (by omega)⟩
        case measure=>simp[intOf];omega
      ·obtain rfl:kk=0:=by omega
       go_wp2;go_roundw
       case rel=>exact⟨i+1,_,by omega,by go_num,HXN.out,HL4.out,HXV.out,HM4.out,HR4.out.le (by omega)⟩
       case measure=>simp[intOf];omega
     have hb5:(X == 5)=false:=by simpa using h5
     have hb6:(X == 6)=false:=by simpa using h6
     clear hov h5 h6;go_wp2;go_roundw
     case rel=>exact⟨i+1,_,by omega,by go_num,HXN.out,HLI.out,HXV.out,HMI.out,HR2.out.le (by omega)⟩
     case measure=>simp[intOf];omega
    ·obtain rfl:i=n:=by omega
     have HRI:Hid (Rd W wi b N):=zh (hri.le (by omega))
     have HOI:=zh (HO.out.of (w':=wi) (fun k h1 h2=>hmi.2.2 k h2 (by simp;omega)))
     have HMT:=zh (HMW.out.trF hmi (by simp))
     have KAI:=zh kai;obtain⟨FY,hsy,hoy⟩:=hys;have HSY:=zh hsy;have HOY:=zh hoy;have hPY:Hid (zBr ys c=true):=zh (by
      simp only[zBr,Bool.and_eq_true,zA5,List.all_eq_true];exact⟨⟨by omega,by omega⟩,⟨by omega,by omega⟩,fun x hx=>by have:=hyv x hx;rwa [<- hyl] at this⟩)
     clear hmi hri hsy hoy hyv hyl kai;go_wp2_with (at_builtin;refine zF4 (α:=List Order) rfl _ _ 42 rfl 77 Tryz.underlying42 zI1 (v:=.slice ao no co) (ys:=[ys]) (Fy:=FY) rfl (HOI.out.of (fun k _ h=>((zr wi).alloc _).block k (by omega))) (by omega) (by simp;omega) rfl rfl (Row.lit1 (cs:=[_]) ⟨_,rfl,by have:=HSY.out;rwa [<- HXN.out] at this⟩) (by simp) (HOY.out.ext ((zr wi).alloc _)) (by omega) ?_;intro v5 w5 hO5 hg5;have hrow5:=HOI.out.own;have HG5:=zh ((HMT.out.tr (Mw.ofExt ((zr _).alloc _))).trF hg5 (fun x hx => .inr (by have:=(hrow5 x (Option.mem_toList.1 hx)).1;omega)));have HR5:=zh ((HRI.out.ext ((zr _).alloc _)).mw hg5 (fun hm=>by have:=hrow5 _ (Option.mem_toList.1 hm);omega) (fun x hx=>by have:=hrow5 x (Option.mem_toList.1 hx);omega));have KA5:=zh (hg5.bk (KAI.out.ext ((zr _).alloc _)) (fun hm=>by have:=(hrow5 _ (Option.mem_toList.1 hm)).1;omega));have HO5:=zh hO5;obtain⟨p5,k5,q5,rfl⟩:=hO5.sh;clear hO5 hg5)
     go_roundw
     case rel=>exact⟨j+1,_,_,_,xs ++ [ys],by omega,by go_num,rfl,HO5.out,by rw[List.length_append,List.length_singleton,HXL.out],(fun k p q' h1 h2=>by
      rcases Nat.lt_or_ge k xs.length with hk|hk
      ·rw[List.getElem?_append_left hk] at h1;exact HXP.out k p q' h1 h2
      ·rw[List.getElem?_append_right hk] at h1;have hk0:k - xs.length=0:=by
        have:=(List.getElem?_eq_some_iff.1 h1).1
        rw[List.length_singleton] at this;omega
       rw[hk0] at h1;cases h1
       have:k=j:=by have:=HXL.out;omega
       subst this
       have:=hq.out.symm.trans h2
       cases this;exact hPY.out),HG5.out,HR5.out.le (by omega),KA5.out⟩
     case measure=>simp[intOf];omega
  ·obtain rfl:j=s.Parts.length:=by omega
   have HRD:=zh hrd;have HPG:Hid (M.PG s xs):=zh ⟨HV.out,hxl,hxv⟩;clear hmw hoo hrd hxl hxv ka;go_wp2;go_ret;exact⟨_,xs,rfl,(HOO.out.mono (Nat.le_succ _)).os,HPG.out,HMW.out,HRD.out.le (by omega)⟩
set_option maxHeartbeats 4000000
theorem Om.reput{α:Type}[GT α]{L:Nat}{u:World}{B:Nat}{cs:List Value}{F G:List Nat}{x y : α}(h:Om L u B 0 x F)(hen:GT.enc u cs y G)(how:Own L u G)(hB:B ∉ G):Om L (zAa u B 0 cs) B 0 y G:=by
 obtain⟨c0,e0,a0,ho⟩:=h;have hl:=GT.len hen;have hl0:=GT.len e0;have hat:At (zAa u B 0 cs) B 0 cs:=zE8 (fun j hj=>⟨_,a0 j _ (List.getElem?_eq_getElem (by omega))⟩)
 have hfb:=ho.2 B (List.mem_cons_self ..);exact⟨cs,zB3 hen hB,hat,List.nodup_cons.2 ⟨hB,how.1⟩,fun k hk2=>by
  rcases List.mem_cons.1 hk2 with rfl|hk2
  ·exact⟨hfb.1,zCo hfb.2⟩
  ·exact⟨(how.2 k hk2).1,zCo (how.2 k hk2).2⟩⟩
theorem Om.reput5{L:Nat}{u:World}{B:Nat}{F:List Nat}{x:Machine}(h:Om L u B 0 x F){u0 u1 u2 u3 u4 u5 u6:Value}:(zAa u B 0 [u0,u1,u2,u3,u4,u5,u6]).cell? ⟨B,5,none⟩=some u5:=by
 obtain⟨c0,e0,a0,ho⟩:=h;have hl0:c0.length=7:=GT.len e0;have hat:At (zAa u B 0 [u0,u1,u2,u3,u4,u5,u6]) B 0 [u0,u1,u2,u3,u4,u5,u6]:=zE8 (fun j hj=>⟨_,a0 j _ (List.getElem?_eq_getElem (by simp at hj;omega))⟩)
 simpa using hat 5 _ rfl
theorem Sp.puts{e:TypeId}{z L b:Nat}{v:Value}(cs:List Value):∀ {w:World} {o:Nat},Sp e z L w v->Sp e z L (zAa w b o cs) v:=by
 induction cs with
 | nil=>intro w o h;exact h
 | cons c cs ih=>intro w o h;rw[zAa];exact ih (h.set ⟨b,o,none⟩ c)
theorem zL9{x:Machine}(h:zBj x)(ht:x.Tick=0){k:Nat}(hk:k < 40):zI9 x k=zBd x k/\zBj (zBd x k)/\(zBd x k).Plan=x.Plan :=
 ⟨zFx (zDx.2 ⟨h,⟨by omega,by omega⟩,by omega⟩),(zDn h k (by omega)).1,(zDn h k (by omega)).2.2.1⟩
theorem Om.mw{α:Type}[GT α]{L:Nat}{w w':World}{b o:Nat}{x : α}{F G:List Nat}(h:Om L w b o x F)(k:Mw G w w')(hG:∀ y∈G,y < L):Om L w' b o x F:=by
 obtain⟨cs,h1,h2,h3⟩:=h;have hd:∀ y,y∈b::F->y ∉ G:=fun y hy hm=>by have:=(h3.2 y hy).1;have:=hG y hm;omega
 exact⟨cs,k.enc h1 (fun y hy hm=>hd y (List.mem_cons_of_mem _ hy) hm),h2.keep (k.2.2 b (h3.lt (List.mem_cons_self ..)) (hd b (List.mem_cons_self ..))),k.own h3 hd⟩
theorem Sp.mw{e:TypeId}{z L:Nat}{w w':World}{v:Value}{G:List Nat}(h:Sp e z L w v)(k:Mw G w w')(hG:∀ y∈G,y < L):Sp e z L w' v:=by
 rcases h with h | ⟨g,n,cap,cs,h1,h2,h3,h4,h5,h6⟩
 ·exact .inl h
 ·exact .inr ⟨g,n,cap,cs,h1,h2,h3,h4,k.bk h5 (fun hm=>by have:=hG g hm;omega),h6⟩
theorem SpH.mono{e:TypeId}{L L':Nat}{w:World}{v:Value}(h:SpH e L w v)(k:L'<=L):SpH e L' w v:=by
 obtain⟨a,b,c,d,f,h',t,e1,s⟩:=h;exact⟨a,b,c,d,f,h',t,e1,s.mono k⟩
theorem SpH.mw{e:TypeId}{L:Nat}{w w':World}{v:Value}{G:List Nat}(h:SpH e L w v)(k:Mw G w w')(hG:∀ y∈G,y < L):SpH e L w' v:=by
 obtain⟨a,b,c,d,f,h',t,e1,s⟩:=h;exact⟨a,b,c,d,f,h',t,e1,s.mw k hG⟩
theorem Mw.puts{F:List Nat}{a:World}{b:Nat}(hb:b∈F\/a.heap.size<=b)(cs:List Value):∀ {w:World} {o:Nat},Mw F a w->Mw F a (zAa w b o cs):=by
 induction cs with
 | nil=>intro w o h;exact h
 | cons c cs ih=>intro w o h;rw[zAa];exact ih (h.set (p:=⟨b,o,none⟩) hb c)
theorem Rd.puts{W:World}{b c m:Nat}(h1:b≠c)(h2:W.heap.size<=c)(cs:List Value):∀ {w:World} {o:Nat},Rd W w b m->Rd W (zAa w c o cs) b m:=by
 induction cs with
 | nil=>intro w o h;exact h
 | cons x cs ih=>intro w o h;rw[zAa];exact ih (h.set (p:=⟨c,o,none⟩) h1 h2 x)
theorem Rvb.puts{α:Type}[GT α]{L A:Nat}{v:Value}{x : α}(hA:A < L)(cs:List Value):∀ {w:World} {o:Nat},Rvb L w v x->Rvb L (zAa w A o cs) v x:=by
 induction cs with
 | nil=>intro w o h;exact h
 | cons c cs ih=>intro w o h;rw[zAa];exact ih (h.set (p:=⟨A,o,none⟩) hA c)
theorem zO7(W w:World)(b m:Nat)(n:Int)(h:Rd W w b (m+1))(hn:rng n) :
  Calls Tryz.prog 53 #[.pointer (some ⟨b,0,none⟩),.int .i64 n] w fun e w' => ∃ q:Bool,e = .returned (.bool q)/\(n=0->q=false)/\Mo [b] w w'/\Rd W w' b m:=by
 by_cases h0:n=0
 ·subst h0;exact(zDj W w b m (h.le (by omega))).mono fun e w' ⟨h1,h2,h3⟩=>⟨false,h1,fun _=>rfl,h2,h3⟩
 ·exact(zI3 W w b m n h hn).mono fun e w' ⟨⟨q,h1⟩,h2,h3⟩=>⟨q,h1,fun e=>absurd e h0,h2,h3⟩
theorem Rsb.tail{α:Type}[GT α]{L:Nat}{w:World}{g s n c:Nat}{x : α}{xs:List α}(h:Rsb L w (.slice (some ⟨g,s,none⟩) n c) (x::xs)):Rsb L w (.slice (some ⟨g,s+GT.sz α,none⟩) (n - 1) (c - 1)) xs:=by
 obtain⟨F,⟨a',c',he,hl,hc,hr⟩,hL⟩:=h;have he':some ⟨g,s,none⟩=a'/\n=(x::xs).length/\c=c':=by simpa using he
 obtain⟨rfl,rfl,rfl⟩:=he';simp only[List.length_cons] at hl ⊢;rcases hr with ⟨h,_⟩ | ⟨_,b,o,F',e',rfl,hr⟩
 ·cases h
 ·have e8:g=b/\s=o:=by simpa using e'
  obtain⟨rfl,rfl⟩:=e8;obtain⟨cs,F1,F2,h1,h2,rfl,h3⟩:=hr;by_cases hx:xs = []
  ·subst hx;exact⟨[],⟨_,c - 1,rfl,by simp,by omega,.inl ⟨rfl,rfl⟩⟩,fun k hk=>by cases hk⟩
  ·exact⟨g::F2,⟨_,c - 1,by simp,by omega,by omega,.inr ⟨hx,g,s+GT.sz α,F2,rfl,rfl,h3⟩⟩,fun k hk=>hL k (by
    rcases List.mem_cons.1 hk with rfl|hk
    ·exact List.mem_cons_self ..
    ·exact List.mem_cons_of_mem _ (List.mem_append_right _ hk))⟩
theorem Rvb.mkM{L:Nat}{w:World}{v0 v1 v2 v3 v4 v5:Value}{m:Machine}(h0:Rsb L w v0 m.Plan.Parts)(h1:Rsb L w v1 m.Plan.Channels)(h2:Rsb L w v2 m.Plan.Slots)(h3:Rsb L w v3 m.Programs)(h4:Rsb L w v4 m.Cores)(h5:Rsb L w v5 m.Holds)(r:rng m.Tick):Rvb L w (.agg #[v0,v1,v2,v3,v4,v5,.int .i64 m.Tick]) m:=by
 obtain⟨F0,s0,b0⟩:=h0;obtain⟨F1,s1,b1⟩:=h1;obtain⟨F2,s2,b2⟩:=h2;obtain⟨F3,s3,b3⟩:=h3;obtain⟨F4,s4,b4⟩:=h4;obtain⟨F5,s5,b5⟩:=h5;exact⟨_,_,rfl,⟨_,_,_,_,_,_,_,_,_,_,_,_,rfl,s0,s1,s2,s3,s4,s5,r,rfl⟩,fun k hk=>by
  simp only[List.mem_append] at hk;rcases hk with hk|hk|hk|hk|hk|hk
  ·exact b0 k hk
  ·exact b1 k hk
  ·exact b2 k hk
  ·exact b3 k hk
  ·exact b4 k hk
  ·exact b5 k hk⟩
theorem Om.lists{L:Nat}{w:World}{b:Nat}{m:Machine}{F:List Nat}(h:Om L w b 0 m F):∃ a0 c0 a1 c1 a2 c2 a3 c3 a4 c4 a5 c5,
  w.cell? ⟨b,0,none⟩=some (.slice a0 m.Plan.Parts.length c0)/\w.cell? ⟨b,1,none⟩=some (.slice a1 m.Plan.Channels.length c1)/\w.cell? ⟨b,2,none⟩=some (.slice a2 m.Plan.Slots.length c2)/\w.cell? ⟨b,3,none⟩=some (.slice a3 m.Programs.length c3)/\w.cell? ⟨b,4,none⟩=some (.slice a4 m.Cores.length c4)/\w.cell? ⟨b,5,none⟩=some (.slice a5 m.Holds.length c5)/\w.cell? ⟨b,6,none⟩=some (.int .i64 m.Tick)/\rng m.Tick /\
  Hid (GT.enc w [.slice a0 m.Plan.Parts.length c0,.slice a1 m.Plan.Channels.length c1,.slice a2 m.Plan.Slots.length c2,.slice a3 m.Programs.length c3,.slice a4 m.Cores.length c4,.slice a5 m.Holds.length c5,.int .i64 m.Tick] m F)/\Hid (Own L w F)/\Hid (Os L w (.slice a0 m.Plan.Parts.length c0) m.Plan.Parts/\Os L w (.slice a1 m.Plan.Channels.length c1) m.Plan.Channels/\Os L w (.slice a2 m.Plan.Slots.length c2) m.Plan.Slots/\Os L w (.slice a3 m.Programs.length c3) m.Programs/\Os L w (.slice a4 m.Cores.length c4) m.Cores/\Os L w (.slice a5 m.Holds.length c5) m.Holds):=by
 obtain⟨cs,hen,hat,ho⟩:=h;obtain⟨v0,v1,v2,v3,v4,v5,G0,G1,G2,G3,G4,G5,rfl,s0,s1,s2,s3,s4,s5,r,rfl⟩:=id hen;obtain⟨t0,u0,rfl,-⟩:=id s0;obtain⟨t1,u1,rfl,-⟩:=id s1;obtain⟨t2,u2,rfl,-⟩:=id s2;obtain⟨t3,u3,rfl,-⟩:=id s3;obtain⟨t4,u4,rfl,-⟩:=id s4;obtain⟨t5,u5,rfl,-⟩:=id s5;have hnd:=(List.nodup_cons.1 ho.1).2;have hO:∀ G,G.Sublist (G0++(G1++(G2++(G3++(G4++G5)))))->Own L w G:=fun G hs=>⟨hs.nodup hnd,fun k hk=>ho.2 k (List.mem_cons_of_mem _ (hs.subset hk))⟩
 refine⟨_,_,_,_,_,_,_,_,_,_,_,_,by simpa using hat 0 _ rfl,by simpa using hat 1 _ rfl,by simpa using hat 2 _ rfl,by simpa using hat 3 _ rfl,by simpa using hat 4 _ rfl,by simpa using hat 5 _ rfl,by simpa using hat 6 _ rfl,r,zh hen,zh ⟨hnd,fun k hk=>ho.2 k (List.mem_cons_of_mem _ hk)⟩,zh ⟨⟨_,s0,hO _ ?_⟩,⟨_,s1,hO _ ?_⟩,⟨_,s2,hO _ ?_⟩,⟨_,s3,hO _ ?_⟩,⟨_,s4,hO _ ?_⟩,⟨_,s5,hO _ ?_⟩⟩⟩
 ·exact(List.sublist_append_left _ _)
 ·exact((List.sublist_append_left _ _).trans (List.sublist_append_right _ _))
 ·exact(((List.sublist_append_left _ _).trans (List.sublist_append_right _ _)).trans (List.sublist_append_right _ _))
 ·exact((((List.sublist_append_left _ _).trans (List.sublist_append_right _ _)).trans (List.sublist_append_right _ _)).trans (List.sublist_append_right _ _))
 ·exact(((((List.sublist_append_left _ _).trans (List.sublist_append_right _ _)).trans (List.sublist_append_right _ _)).trans (List.sublist_append_right _ _)).trans (List.sublist_append_right _ _))
 ·exact(((((List.sublist_append_right _ _).trans (List.sublist_append_right _ _)).trans (List.sublist_append_right _ _)).trans (List.sublist_append_right _ _)).trans (List.sublist_append_right _ _))
theorem tot_set{α:Type}[GT α](xs:List α)(y : α):∀ i:Nat,GT.tot (xs.set i y)<=GT.tot xs+GT.tot y:=by
 intro i
 show(xs.set i y).length+((xs.set i y).map GT.tot).sum<=xs.length+(xs.map GT.tot).sum+GT.tot y
 have h:((xs.set i y).map GT.tot).sum<=(xs.map GT.tot).sum+GT.tot y:=by
  induction xs generalizing i with
  | nil=>simp
  | cons x xs ih =>
   cases i with
   | zero=>simp only[List.set_cons_zero,List.map_cons,List.sum_cons];omega
   | succ i=>have:=ih i;simp only[List.set_cons_succ,List.map_cons,List.sum_cons];omega
 simp only[List.length_set];omega
theorem tot_tail{α:Type}[GT α](x : α)(xs:List α):GT.tot xs<=GT.tot (x::xs):=by
 show xs.length+(xs.map GT.tot).sum<=(x::xs).length+((x::xs).map GT.tot).sum
 simp only[List.length_cons,List.map_cons,List.sum_cons];omega
theorem zMi{α:Type}[GT α](x : α)(xs:List α):GT.tot (xs ++ [x])=GT.tot xs+1+GT.tot x:=by
 show(xs ++ [x]).length+((xs ++ [x]).map GT.tot).sum=xs.length+(xs.map GT.tot).sum+1+GT.tot x
 simp;omega
theorem zBj.tick100{m:Machine}(h:zBj m):zBj { m with Tick:=100000 }:=⟨h.pg,h.nc,h.nh,h.fits,h.hv,⟨by show(0:Int)<=100000;decide,by show(100000:Int)<=100000;decide⟩⟩
structure zLy (T:TypeId) (W w:World) (b m A B:Nat) (x:Machine) (u:World):Prop where
 mw:Mw [b] w u
 rd:Rd W u b m
 ka:Bk u A [.slice none 0 0,.slice none 0 0,.slice none 0 0,.slice none 0 0,.slice none 0 0,.slice none 0 0,.int .i64 0] T
 lt:B < u.heap.size
 cl:∃ p0 q0 p1 q1 p2 q2 p3 q3 p4 q4 p5 q5 n4 n5,u.cell? ⟨B,0,none⟩=some (.slice p0 x.Plan.Parts.length q0)/\u.cell? ⟨B,1,none⟩=some (.slice p1 x.Plan.Channels.length q1)/\u.cell? ⟨B,2,none⟩=some (.slice p2 x.Plan.Slots.length q2)/\u.cell? ⟨B,3,none⟩=some (.slice p3 x.Programs.length q3)/\u.cell? ⟨B,4,none⟩=some (.slice p4 n4 q4)/\u.cell? ⟨B,5,none⟩=some (.slice p5 n5 q5)/\u.cell? ⟨B,6,none⟩=some (.int .i64 x.Tick) /\
  Rvb (A+1) u (.agg #[.slice p0 x.Plan.Parts.length q0,.slice p1 x.Plan.Channels.length q1,.slice p2 x.Plan.Slots.length q2,.slice p3 x.Programs.length q3,.slice p4 n4 q4,.slice p5 n5 q5,.int .i64 x.Tick]) x
theorem zLy.om{T:TypeId}{W w:World}{b m A B:Nat}{x:Machine}{u:World}{F:List Nat}(h1:Mw [b] w u)(h2:Rd W u b m)(h3:Bk u A [.slice none 0 0,.slice none 0 0,.slice none 0 0,.slice none 0 0,.slice none 0 0,.slice none 0 0,.int .i64 0] T)(h:Om (A+1) u B 0 x F):zLy T W w b m A B x u:=by
 obtain⟨p0,q0,p1,q1,p2,q2,p3,q3,p4,q4,p5,q5,y0,y1,y2,y3,y4,y5,y6,-,en,ow,-⟩:=h.lists;exact⟨h1,h2,h3,h.bk.1,p0,q0,p1,q1,p2,q2,p3,q3,p4,q4,p5,q5,_,_,y0,y1,y2,y3,y4,y5,y6,_,_,rfl,en.out,fun k hk=>(ow.out.2 k hk).1⟩
theorem zKe{L B:Nat}{w:World}{m:Machine}{F:List Nat}{e:TypeId}{v0 v1 v2 v3 v4 v5 t:Value}(hen:GT.enc w [v0,v1,v2,v3,v4,v5,t] m F)(ho:Own L w F)(hB:B ∉ F)(hsp:Sp e 1 L w v5) :
  ∀ w',Mw (B::v5.ownBlock.toList) w w'->Rsb L w' v0 m.Plan.Parts/\Rsb L w' v1 m.Plan.Channels/\Rsb L w' v2 m.Plan.Slots/\Rsb L w' v3 m.Programs/\Rsb L w' v4 m.Cores:=by
 obtain⟨_,_,_,_,_,_,G0,G1,G2,G3,G4,G5,e9,s0,s1,s2,s3,s4,s5,r,rfl⟩:=hen;simp only[List.cons.injEq] at e9;obtain⟨rfl,rfl,rfl,rfl,rfl,rfl,_⟩:=e9;have hg:∀ k,v5.ownBlock=some k->k∈G5:=fun k hk=>by
  rcases hsp with h | ⟨g,n,cap,cs,h1,h2,h3,h4,h5,h6⟩
  ·rw[h] at hk;cases hk
  ·subst h1;have hl:n=m.Holds.length:=by
    obtain⟨a,c,e8,_⟩:=id s5;have h':(some ⟨g,0,none⟩:Option Addr)=a/\n=m.Holds.length/\cap=c:=by simpa using e8
    exact h'.2.1
   have:=Sl.hd s5 (by omega)
   simp[Value.ownBlock] at hk
   rwa [<- hk]
 have hn:=ho.1;simp only[List.nodup_append,List.mem_append] at hn;have hx:∀ k,k∈G0\/k∈G1\/k∈G2\/k∈G3\/k∈G4->k∈G5->False:=fun k h1 h2=>by
  obtain⟨_,⟨_,⟨_,⟨_,⟨_,_,a4⟩,a3⟩,a2⟩,a1⟩,a0⟩:=hn;rcases h1 with h|h|h|h|h
  ·exact a0 k h k (.inr (.inr (.inr (.inr h2)))) rfl
  ·exact a1 k h k (.inr (.inr (.inr h2))) rfl
  ·exact a2 k h k (.inr (.inr h2)) rfl
  ·exact a3 k h k (.inr h2) rfl
  ·exact a4 k h k h2 rfl
 intro w' hm;have hk:∀ k,k∈G0\/k∈G1\/k∈G2\/k∈G3\/k∈G4->k∈B::v5.ownBlock.toList->False:=fun k h1 h2=>by
  rcases List.mem_cons.1 h2 with rfl|h2
  ·exact hB (by simp only[List.mem_append];rcases h1 with h|h|h|h|h<;>simp[h])
  ·exact hx k h1 (hg k (by simpa using h2))
 refine⟨⟨G0,hm.sl s0 fun y a=>hk y (.inl a),fun k a=>(ho.2 k ?_).1⟩,⟨G1,hm.sl s1 fun y a=>hk y (.inr (.inl a)),fun k a=>(ho.2 k ?_).1⟩,⟨G2,hm.sl s2 fun y a=>hk y (.inr (.inr (.inl a))),fun k a=>(ho.2 k ?_).1⟩,⟨G3,hm.sl s3 fun y a=>hk y (.inr (.inr (.inr (.inl a)))),fun k a=>(ho.2 k ?_).1⟩,⟨G4,hm.sl s4 fun y a=>hk y (.inr (.inr (.inr (.inr a)))),fun k a=>(ho.2 k ?_).1⟩⟩<;>simp[a]
theorem zHx{L b:Nat}{w:World}{m:Machine}{F:List Nat}{v0 v1 v2 v3 v4 v5 t:Value}(hen:GT.enc w [v0,v1,v2,v3,v4,v5,t] m F)(how:Own L w F)(hb:b ∉ F)(j:Nat)(u:Value) :
  Rsb L (w.setCell ⟨b,j,none⟩ u) v0 m.Plan.Parts/\Rsb L (w.setCell ⟨b,j,none⟩ u) v1 m.Plan.Channels/\Rsb L (w.setCell ⟨b,j,none⟩ u) v2 m.Plan.Slots/\Rsb L (w.setCell ⟨b,j,none⟩ u) v3 m.Programs/\Rsb L (w.setCell ⟨b,j,none⟩ u) v4 m.Cores/\Rsb L (w.setCell ⟨b,j,none⟩ u) v5 m.Holds:=by
 obtain⟨_,_,_,_,_,_,G0,G1,G2,G3,G4,G5,e9,s0,s1,s2,s3,s4,s5,r,rfl⟩:=hen;simp only[List.cons.injEq] at e9;obtain⟨rfl,rfl,rfl,rfl,rfl,rfl,_⟩:=e9;exact⟨⟨G0,s0.set (p:=⟨b,j,none⟩) (fun hm=>hb (by have hm:b∈G0:=hm;simp[hm])) u,fun k hk=>(how.2 k (by simp[hk])).1⟩,⟨G1,s1.set (p:=⟨b,j,none⟩) (fun hm=>hb (by have hm:b∈G1:=hm;simp[hm])) u,fun k hk=>(how.2 k (by simp[hk])).1⟩,⟨G2,s2.set (p:=⟨b,j,none⟩) (fun hm=>hb (by have hm:b∈G2:=hm;simp[hm])) u,fun k hk=>(how.2 k (by simp[hk])).1⟩,⟨G3,s3.set (p:=⟨b,j,none⟩) (fun hm=>hb (by have hm:b∈G3:=hm;simp[hm])) u,fun k hk=>(how.2 k (by simp[hk])).1⟩,⟨G4,s4.set (p:=⟨b,j,none⟩) (fun hm=>hb (by have hm:b∈G4:=hm;simp[hm])) u,fun k hk=>(how.2 k (by simp[hk])).1⟩,⟨G5,s5.set (p:=⟨b,j,none⟩) (fun hm=>hb (by have hm:b∈G5:=hm;simp[hm])) u,fun k hk=>(how.2 k (by simp[hk])).1⟩⟩
theorem zMl{L:Nat}{w:World}{m:Machine}{F:List Nat}{v0 v1 v2 v3 v4 v5 t:Value}(hen:GT.enc w [v0,v1,v2,v3,v4,v5,t] m F)(how:Own L w F):Os L w v5 m.Holds:=by
 obtain⟨_,_,_,_,_,_,G0,G1,G2,G3,G4,G5,e9,s0,s1,s2,s3,s4,s5,r,rfl⟩:=hen;simp only[List.cons.injEq] at e9;obtain⟨rfl,rfl,rfl,rfl,rfl,rfl,_⟩:=e9;have hn:=how.1;simp only[List.nodup_append] at hn;exact⟨G5,s5,hn.2.1.2.1.2.1.2.1.2.1,fun k hk=>how.2 k (by simp[hk])⟩
theorem Rsb.set9{α:Type}[GT α]{L:Nat}{w:World}{v:Value}{xs:List α}(h:Rsb L w v xs){p:Addr}(hp:p.block < L)(u:Value):Rsb L (w.setCell p u) v xs:=by
 obtain⟨F,s,b⟩:=h;exact⟨F,s.set (fun hm=>by have:=b _ hm;omega) u,b⟩
theorem zE5(m:Machine):GT.tot m=GT.tot m.Plan+GT.tot m.Programs+GT.tot m.Cores+GT.tot m.Holds+GT.tot m.Tick:=rfl
end Sk
