/- Contracts of functions of the given program. -/
import Derived.Test.YtfdeoepbnefckaaGreatZzzzmPrgG
namespace Sk
open Go Go.Proofs Go.RowKit
set_option maxHeartbeats 3000000
set_option maxRecDepth 100000
set_option linter.unusedVariables false
set_option linter.unusedSimpArgs false
theorem zCs(v:Value)(cs:List Channel)(N K:Nat)(q:Bool)(w:World)(h:Rs w v cs)(hc9:cs.length<=1000) :
  Calls Tryz.prog 50 #[v,.int .i64 N,.int .i64 K,.bool q] w fun e w' => ∃ v' xs,e = .returned v'/\Os (α:=Int) w.heap.size w' v' xs/\(xs.length<=8/\∀ x∈xs,0<=x/\x < 8)/\Ext w w':=by
 cases hv:zCt cs N with
 | true=>exact zFv v cs N K q w h hv
 | false =>
  obtain⟨a,c,rfl,hl⟩:=h.form;have H:=zh h;clear h;go_enter Tryz.func50,Tryz.ntmps50;go_wp2;go_loopw [9,10] (fun out i wr=>out = .slice (some ⟨w.heap.size,0,none⟩) 0 0/\i = .int .i64 0/\Ext w wr) (fun _ i _=>0)
  case atStart=>exact⟨rfl,rfl,(zr w).alloc _⟩
  case round =>
   obtain⟨rfl,rfl,hq⟩:=hrel;have HQ:=zh hq;clear hq;by_cases h0:0 < cs.length
   ·go_wp2_with (go_at_call 59;refine(zAn _ cs N _ (H.out.ext HQ.out)).mono ?_;rintro e w2 ⟨rfl,he⟩;rw[hv];replace HQ:=zh (HQ.out.tr he);clear he)
    go_ret;exact⟨_,[],rfl,⟨[],⟨_,0,rfl,Nat.le_refl _,Nat.zero_le _,.inl ⟨rfl,rfl⟩⟩,Own.nil _ _⟩,⟨Nat.zero_le _,fun x hx=>by cases hx⟩,HQ.out⟩
   ·have hz:cs.length=0:=by omega
    have hb0:decide ((0:Int) < (cs.length:Int))=false:=by rw[hz];rfl
    have hb1:decide (0 < cs.length)=false:=by rw[hz];rfl
    clear hz;go_wp2;go_ret;exact⟨_,[],rfl,⟨[],⟨_,0,rfl,Nat.le_refl _,Nat.zero_le _,.inl ⟨rfl,rfl⟩⟩,Own.nil _ _⟩,⟨Nat.zero_le _,fun x hx=>by cases hx⟩,HQ.out⟩
theorem zEn(W w:World)(b m:Nat)(v:Value)(s:Setup)(nn:Int)(hnn:rng nn)(h:Rd W w b (m+900))(hs:Rvb (b+1) w v s)(hd:zHn s) :
  Calls Tryz.prog 19 #[.pointer (some ⟨b,0,none⟩),v,.int .i64 nn] w fun e w' => ∃ v' ps,e = .returned v'/\Oo (α:=List Order) 52 w.heap.size w' v' ps/\(ps.length=s.Parts.length/\∀ p∈ps,p.length<=21)/\Mw [b] w w'/\Rd W w' b m:=by
 have HRD0:=zh h;have hbl:=h.lt;have hbW:=h.1;have hWw:=h.2.1.sz;obtain⟨a0,c0,a1,c1,a2,c2,rfl,-,hl0,-,hl1,-,hl2⟩:=hs.rv.openSetup;obtain⟨l0,l1,l2⟩:=hs.lists;have HP0:=zh l0;have HC0:=zh l1;have hp5:=hd.1;have hc8:=hd.2.2.1;clear h hs hd l0 l1 l2;go_enter Tryz.func19,Tryz.ntmps19;go_upto_region 2 with (fail)
 refine zA2 (fun W0=>Ext w W0/\Bk W0 w.heap.size [.slice a0 s.Parts.length c0,.slice a1 s.Channels.length c1,.slice a2 s.Slots.length c2] 27/\Oo (α:=List Order) 52 (w.heap.size+1) W0 (.slice (some ⟨w.heap.size+1,0,none⟩) 0 0) []) ⟨((zr _).alloc _).alloc _,(Bk.new _ _ _).ext ((zr _).alloc _),by have h:=Oo.lit0 (α:=List Order) 52 (w.alloc (.cells #[.slice a0 s.Parts.length c0,.slice a1 s.Channels.length c1,.slice a2 s.Slots.length c2] 27));simpa using h⟩ ?_
 rintro W0 ⟨e0,kA,ho0⟩;have HRD:=zh (HRD0.out.ext e0);have HMW:Hid (Mw [b] w W0):=zh (Mw.ofExt e0);have HO:=zh ho0;have KA:=zh kA;have x0:=kA.cell (j:=0) rfl;clear e0 kA ho0 HRD0;go_wp2_with fail
 go_loopw [7,8] (fun v7 i wr => ∃ (j:Nat) (ao:Option Addr) (no co:Nat) (xs:List (List Order)),j<=s.Parts.length/\i = .int .i64 j/\v7 = .slice ao no co/\Oo 52 (w.heap.size+1) wr (.slice ao no co) xs/\xs.length=j/\(∀ p∈xs,p.length<=21)/\Mw [b] w wr/\Rd W wr b (m+900 - 140*j)/\Bk wr w.heap.size [.slice a0 s.Parts.length c0,.slice a1 s.Channels.length c1,.slice a2 s.Slots.length c2] 27) (fun _ i _=>s.Parts.length - (intOf i).toNat)
 case atStart=>exact⟨0,_,_,_,[],Nat.zero_le _,rfl,rfl,HO.out,rfl,(fun p hp=>by cases hp),HMW.out,HRD.out,KA.out⟩
 case round =>
  clear HMW HO HRD x0 KA;obtain⟨j,ao,no,co,xs,hj,rfl,rfl,hoo,hxl,hxv,hmw,hrd,ka⟩:=hrel;obtain⟨wo,rfl⟩:∃ wo:World,wo=wr:=⟨_,rfl⟩;have HXP:=zh hxv;have HXL:=zh hxl;have HMW:=zh hmw;have HO:=zh hoo.ob;have HOO:=zh hoo;have hs1:=hmw.size;have hxl5:xs.length<=6:=by omega
  have KA:=zh ka;obtain⟨x0,x1⟩:=Bk.k2 ka;have ltA:=ka.lt;have HC1:=zh (HC0.out.mw hmw (by simp))
  have hbo:b < wo.heap.size:=by omega
  by_cases hjt:j < s.Parts.length
  ·obtain⟨N,hN1,hN2⟩:∃ N,N+140<=m+900 - 140*j/\m+900 - 140*(j+1)<=N:=⟨m+760 - 140*j,by omega,by omega⟩
   have HRD:Hid (Rd W wo b ((N+70)+60)):=zh (hrd.le (by omega))
   obtain⟨F0,sP,kP⟩:=HP0.out.mw hmw (by simp)
   have hPn:b≠(0:Nat)\/True:=.inr trivial;obtain⟨pb,po,q,wa,wc,rfl,hpb,hq,hp0,hp1,hr1,_,_,_⟩:=(show Rs wo (.slice a0 s.Parts.length c0) s.Parts from⟨F0,sP⟩).atPart j hjt
   have hpbb:pb≠b:=by have:=kP pb (sP.hd (by omega));omega
   obtain⟨ws,qc⟩:=q;simp only at hp0 hp1 hr1;obtain⟨C8,hcm,hC8⟩:∃ C8,(if qc < 8 then qc else (8:Int))=C8/\C8<=8:=⟨_,rfl,by split<;>omega⟩
   obtain⟨c,hcx,hcc⟩:∃ c:Nat,(if (1:Int) < C8 then C8 else 1)=c/\(1<=c/\c<=8):=by
    split
    ·exact⟨C8.toNat,by omega,by omega⟩
    ·exact⟨1,rfl,by omega⟩
   have hcm2:(if (8:Int) < qc then (8:Int) else qc)=C8:=by rw[<- hcm];split<;>split<;>omega
   have hc1':1<=c:=hcc.1;have hc8':c<=8:=hcc.2;clear hcc;have hcs:s.Channels.length<=100:=by omega
   clear hmw hoo hrd hxl hxv ka sP kP hPn hp0;go_upto_region 5 with (fail)
   go_region_held3 (fun u=>u.cell? ⟨w.heap.size,0,none⟩=some (.slice (some ⟨pb,po,none⟩) s.Parts.length c0)/\u.cell? ⟨w.heap.size,1,none⟩=some (.slice a1 s.Channels.length c1)/\u.cell? ⟨pb,po+j*2+1,none⟩=some (.int .i64 qc))
    (first
     | exact⟨(XM.out.cell (by simp;omega) ltA).trans x0,(XM.out.cell (by simp;omega) ltA).trans x1,(XM.out.cell (by simpa using hpbb) hpb).trans hp1⟩
     | go_keep)
    ((go_at_call 48;refine(zFb W _ b (N+70) c s.Channels.length nn hnn (HRD.out.ext (zr _).drew) hc1' hc8' hcs).mono ?_;rintro e w3 ⟨v3,ls,rfl,hol,⟨hll1,hll⟩,hm,hr⟩;obtain⟨la,lc,rfl,hlf⟩:=hol.form;have HL:=zh (show Os wo.heap.size w3 (.slice la ls.length lc) ls from hol);have XM:=zh ((Mw.ofExt (F:=[b]) (zr wo).drew).tr hm);have HR3:=zh hr;clear hm hr hol))
   generalize hn':ls.length=n at *
   have HLN:=zh hn';have hn7:n<=21:=by omega
   have hn1:1<=n:=by omega
   clear hn';go_wp2_with fail
   go_loopw [10] (fun v10 wi => ∃ (i:Nat) (ys:List Order),i<=n/\v10 = .int .i64 i/\ys.length=n/\Os wo.heap.size wi (.slice la n lc) ys/\Mw [b] wo wi/\Rd W wi b (N+70 - 3*i)) (fun v10 _=>n - (intOf v10).toNat)
   case atStart=>exact⟨0,ls,Nat.zero_le _,rfl,HLN.out,HL.out,XM.out,HR3.out⟩
   case round =>
    obtain⟨i,ys,hi,rfl,hyl,hys,hmi,hri⟩:=hrel;clear HL XM HR3 x0 x1 hp1;obtain⟨wi,rfl⟩:∃ wi:World,wi=wr:=⟨_,rfl⟩;have HLI:=zh hys;have HXN:=zh hyl;have HMI:=zh hmi;have hsi:=hmi.size;have kai:=hmi.bk KA.out (by simp;omega)
    by_cases hit:i < n
    ·obtain⟨M2,hM1,hM2⟩:∃ M2,M2+1+1<=N+70 - 3*i/\N+70 - 3*(i+1)<=M2:=⟨N+68 - 3*i,by omega,by omega⟩
     have HR2:Hid (Rd W wi b (M2+1+1)):=zh (hri.le hM1);have hil:i < ys.length:=by omega
     have HCI:=zh (HC1.out.mw hmi (by simp))
     obtain⟨g,sg,X,A,B,rfl,hx,hLg,hgl,f0,f1,f2,gf,r0,r1,r2⟩:=hys.atO i hil;obtain⟨x0,x1⟩:=Bk.k2 kai;have hbg:b≠g:=by omega
     have hWg:W.heap.size<=g:=by omega
     have hAi:=kai.lt;clear hys hyl hmi hri kai;by_cases h5:X=5
     ·subst h5;go_upto_if 58 with (go_at_call 49;go_loud (refine(zA3 W _ b _ _ HR2.out (zA5 (by omega) (by omega))).mono ?_;rintro e w4 ⟨kk,rfl,hk,hm,hr⟩;obtain⟨hk0,hk4⟩:=hk.lt (by omega);have HM4:=zh (HMI.out.tr (Mw.ofMo hm));have HR4:=zh hr;have HL4:=zh (HLI.out.mw (Mw.ofMo hm) (by simp<;>omega));have HC4:=zh (HCI.out.mw (Mw.ofMo hm) (by simp<;>omega)).rs;have y0:=(hm.cell (p:=w.heap.size) (o:=0) (by simp<;>omega)).trans x0;have y1:=(hm.cell (p:=w.heap.size) (o:=1) (by simp<;>omega)).trans x1;have o0:=(hm.cell (p:=g) (o:=sg+i*3) (by simp<;>omega)).trans f0;have o1:=(hm.cell (p:=g) (o:=sg+i*3+1) (by simp<;>omega)).trans f1;have o2:=(hm.cell (p:=g) (o:=sg+i*3+2) (by simp<;>omega)).trans f2;have hsz4:=(Mw.ofMo hm).size;clear hk hm hr))
      by_cases hkk:0 < kk
      ·have hkb:decide ((0:Int) < kk)=true:=decide_eq_true hkk;have hkb2:decide (kk > (0:Int))=true:=decide_eq_true hkk;have ltA4:w.heap.size < w4.heap.size:=by omega
       have ltg4:g < w4.heap.size:=by omega
       go_upto_region 10 with (fail)
       go_region_held3 (fun u=>u.cell? ⟨w.heap.size,0,none⟩=some (.slice (some ⟨pb,po,none⟩) s.Parts.length c0)/\u.cell? ⟨w.heap.size,1,none⟩=some (.slice a1 s.Channels.length c1)/\u.cell? ⟨g,sg+i*3,none⟩=some (.int .i64 5))
        (first
         | exact⟨(zA0 XX.out ltA4).trans y0,(zA0 XX.out ltA4).trans y1,(zA0 XX.out ltg4).trans o0⟩
         | go_keep)
        ((go_at_call 50;refine(zCs _ s.Channels s.Parts.length j true _ (HC4.out.ext (zr _).drew) (by omega)).mono ?_;rintro e w5 ⟨v5,ms,rfl,hom,⟨hml,hmb⟩,he⟩;obtain⟨ma,mc,rfl,hmf⟩:=hom.form;have HOM:=zh hom;have HMB:=zh hmb;have XX:=zh ((zr _).drew.tr he);clear he hom hmb))
       have HL5:=zh (HL4.out.ext XX.out);have HM5:=zh (HM4.out.tr (Mw.ofExt XX.out));have HR5:=zh (HR4.out.ext XX.out);have p0:=(zA0 XX.out ltg4).trans o0;have p1:=(zA0 XX.out ltg4).trans o1;have p2:=(zA0 XX.out ltg4).trans o2;have hs5:=XX.out.sz;have hb5:b < w4.heap.size:=by omega
       obtain⟨_,_,_,_,_,eg,-,-,-,-,-,-,gf5,-⟩:=HL5.out.atO i hil;cases eg;have hgl5:g < w5.heap.size:=by omega
       by_cases hm0:ms = []
       ·subst hm0;go_wp2;go_roundw
        case rel =>
         have h9:=HL5.out.setO hil (by omega) ⟨0,0,0⟩ zAg zAg zAg
         exact⟨i+1,_,by omega,by go_num,by rw[List.length_set];exact HXN.out,h9,((HM5.out.set (.inr hLg) _).set (.inr hLg) _).set (.inr hLg) _,(((HR5.out.set (p:=⟨g,sg+i*3,none⟩) hbg hWg _).set (p:=⟨g,sg+i*3+1,none⟩) hbg hWg _).set (p:=⟨g,sg+i*3+2,none⟩) hbg hWg _).le (by omega)⟩
        case measure=>simp[intOf];omega
       ·have hmp:0 < ms.length:=List.length_pos_iff.2 hm0;have hmpb:decide (0 < ms.length)=true:=decide_eq_true hmp;have hmpb2:decide ((0:Int) < (ms.length:Int))=true:=decide_eq_true (by omega)
        clear hm0;go_upto_region 8 with (go_at_call 49;refine(zA3 W _ b _ _ HR5.out (zA5 (by omega) (by omega))).mono ?_;rintro e w6 ⟨k6,rfl,hk,hm,hr⟩;obtain⟨hk60,hk61⟩:=hk.lt (by omega);obtain⟨k6n,rfl⟩:∃ n:Nat,k6=n:=⟨k6.toNat,by omega⟩;have hk6l:k6n < ms.length:=(by omega);obtain⟨mb,mo,z,rfl,hmbl,hz,hmc,hzr⟩:=(HOM.out.mw (Mw.ofMo hm) (by simp<;>omega)).rs.atInt k6n hk6l;have hzb:=HMB.out z (List.mem_of_getElem? hz.out);have HM6:=zh (HM5.out.tr (Mw.ofMo hm));have HR6:=zh hr;have HL6:=zh (HL5.out.mw (Mw.ofMo hm) (by simp<;>omega));have s0:=(hm.cell (p:=g) (o:=sg+i*3) (by simp<;>omega)).trans p0;have s1:=(hm.cell (p:=g) (o:=sg+i*3+1) (by simp<;>omega)).trans p1;have s2:=(hm.cell (p:=g) (o:=sg+i*3+2) (by simp<;>omega)).trans p2;have hsz6:=(Mw.ofMo hm).size;obtain⟨_,_,_,_,_,eg6,-,-,-,-,-,-,gf6,-⟩:=HL6.out.atO i hil;cases eg6;have hgl6:g < w6.heap.size:=(by omega);clear hk hm hr)
        go_wp2;go_roundw
        case rel =>
         have h9:=HL6.out.setA (z:=z) hil (by omega) s0 s1 s2 ⟨by omega,by omega⟩ ⟨by omega,by omega⟩ r2
         exact⟨i+1,_,by omega,by go_num,by rw[List.length_set];exact HXN.out,h9,HM6.out.set (.inr hLg) _,(HR6.out.set (p:=⟨g,sg+i*3+1,none⟩) hbg hWg _).le (by omega)⟩
        case measure=>simp[intOf];omega
      ·obtain rfl:kk=0:=by omega
       go_wp2;go_roundw
       case rel=>exact⟨i+1,_,by omega,by go_num,HXN.out,HL4.out,HM4.out,HR4.out.le (by omega)⟩
       case measure=>simp[intOf];omega
     by_cases h6:X=6
     ·subst h6;go_upto_if 58 with (go_at_call 49;go_loud (refine(zA3 W _ b _ _ HR2.out (zA5 (by omega) (by omega))).mono ?_;rintro e w4 ⟨kk,rfl,hk,hm,hr⟩;obtain⟨hk0,hk4⟩:=hk.lt (by omega);have HM4:=zh (HMI.out.tr (Mw.ofMo hm));have HR4:=zh hr;have HL4:=zh (HLI.out.mw (Mw.ofMo hm) (by simp<;>omega));have HC4:=zh (HCI.out.mw (Mw.ofMo hm) (by simp<;>omega)).rs;have y0:=(hm.cell (p:=w.heap.size) (o:=0) (by simp<;>omega)).trans x0;have y1:=(hm.cell (p:=w.heap.size) (o:=1) (by simp<;>omega)).trans x1;have o0:=(hm.cell (p:=g) (o:=sg+i*3) (by simp<;>omega)).trans f0;have o1:=(hm.cell (p:=g) (o:=sg+i*3+1) (by simp<;>omega)).trans f1;have o2:=(hm.cell (p:=g) (o:=sg+i*3+2) (by simp<;>omega)).trans f2;have hsz4:=(Mw.ofMo hm).size;clear hk hm hr))
      by_cases hkk:0 < kk
      ·have hkb:decide ((0:Int) < kk)=true:=decide_eq_true hkk;have hkb2:decide (kk > (0:Int))=true:=decide_eq_true hkk;have ltA4:w.heap.size < w4.heap.size:=by omega
       have ltg4:g < w4.heap.size:=by omega
       go_upto_region 10 with (fail)
       go_region_held3 (fun u=>u.cell? ⟨w.heap.size,0,none⟩=some (.slice (some ⟨pb,po,none⟩) s.Parts.length c0)/\u.cell? ⟨w.heap.size,1,none⟩=some (.slice a1 s.Channels.length c1)/\u.cell? ⟨g,sg+i*3,none⟩=some (.int .i64 6))
        (first
         | exact⟨(zA0 XX.out ltA4).trans y0,(zA0 XX.out ltA4).trans y1,(zA0 XX.out ltg4).trans o0⟩
         | go_keep)
        ((go_at_call 50;refine(zCs _ s.Channels s.Parts.length j false _ (HC4.out.ext (zr _).drew) (by omega)).mono ?_;rintro e w5 ⟨v5,ms,rfl,hom,⟨hml,hmb⟩,he⟩;obtain⟨ma,mc,rfl,hmf⟩:=hom.form;have HOM:=zh hom;have HMB:=zh hmb;have XX:=zh ((zr _).drew.tr he);clear he hom hmb))
       have HL5:=zh (HL4.out.ext XX.out);have HM5:=zh (HM4.out.tr (Mw.ofExt XX.out));have HR5:=zh (HR4.out.ext XX.out);have p0:=(zA0 XX.out ltg4).trans o0;have p1:=(zA0 XX.out ltg4).trans o1;have p2:=(zA0 XX.out ltg4).trans o2;have hs5:=XX.out.sz;have hb5:b < w4.heap.size:=by omega
       obtain⟨_,_,_,_,_,eg,-,-,-,-,-,-,gf5,-⟩:=HL5.out.atO i hil;cases eg;have hgl5:g < w5.heap.size:=by omega
       by_cases hm0:ms = []
       ·subst hm0;go_wp2;go_roundw
        case rel =>
         have h9:=HL5.out.setO hil (by omega) ⟨0,0,0⟩ zAg zAg zAg
         exact⟨i+1,_,by omega,by go_num,by rw[List.length_set];exact HXN.out,h9,((HM5.out.set (.inr hLg) _).set (.inr hLg) _).set (.inr hLg) _,(((HR5.out.set (p:=⟨g,sg+i*3,none⟩) hbg hWg _).set (p:=⟨g,sg+i*3+1,none⟩) hbg hWg _).set (p:=⟨g,sg+i*3+2,none⟩) hbg hWg _).le (by omega)⟩
        case measure=>simp[intOf];omega
       ·have hmp:0 < ms.length:=List.length_pos_iff.2 hm0;have hmpb:decide (0 < ms.length)=true:=decide_eq_true hmp;have hmpb2:decide ((0:Int) < (ms.length:Int))=true:=decide_eq_true (by omega)
        clear hm0;go_upto_region 8 with (go_at_call 49;refine(zA3 W _ b _ _ HR5.out (zA5 (by omega) (by omega))).mono ?_;rintro e w6 ⟨k6,rfl,hk,hm,hr⟩;obtain⟨hk60,hk61⟩:=hk.lt (by omega);obtain⟨k6n,rfl⟩:∃ n:Nat,k6=n:=⟨k6.toNat,by omega⟩;have hk6l:k6n < ms.length:=(by omega);obtain⟨mb,mo,z,rfl,hmbl,hz,hmc,hzr⟩:=(HOM.out.mw (Mw.ofMo hm) (by simp<;>omega)).rs.atInt k6n hk6l;have hzb:=HMB.out z (List.mem_of_getElem? hz.out);have HM6:=zh (HM5.out.tr (Mw.ofMo hm));have HR6:=zh hr;have HL6:=zh (HL5.out.mw (Mw.ofMo hm) (by simp<;>omega));have s0:=(hm.cell (p:=g) (o:=sg+i*3) (by simp<;>omega)).trans p0;have s1:=(hm.cell (p:=g) (o:=sg+i*3+1) (by simp<;>omega)).trans p1;have s2:=(hm.cell (p:=g) (o:=sg+i*3+2) (by simp<;>omega)).trans p2;have hsz6:=(Mw.ofMo hm).size;obtain⟨_,_,_,_,_,eg6,-,-,-,-,-,-,gf6,-⟩:=HL6.out.atO i hil;cases eg6;have hgl6:g < w6.heap.size:=(by omega);clear hk hm hr)
        go_wp2;go_roundw
        case rel =>
         have h9:=HL6.out.setA (z:=z) hil (by omega) s0 s1 s2 ⟨by omega,by omega⟩ ⟨by omega,by omega⟩ r2
         exact⟨i+1,_,by omega,by go_num,by rw[List.length_set];exact HXN.out,h9,HM6.out.set (.inr hLg) _,(HR6.out.set (p:=⟨g,sg+i*3+1,none⟩) hbg hWg _).le (by omega)⟩
        case measure=>simp[intOf];omega
      ·obtain rfl:kk=0:=by omega
       go_wp2;go_roundw
       case rel=>exact⟨i+1,_,by omega,by go_num,HXN.out,HL4.out,HM4.out,HR4.out.le (by omega)⟩
       case measure=>simp[intOf];omega
     have hb5:(X == 5)=false:=by simpa using h5
     have hb6:(X == 6)=false:=by simpa using h6
     clear h5 h6;go_wp2;go_roundw
     case rel=>exact⟨i+1,_,by omega,by go_num,HXN.out,HLI.out,HMI.out,HR2.out.le (by omega)⟩
     case measure=>simp[intOf];omega
    ·obtain rfl:i=n:=by omega
     have HRI:Hid (Rd W wi b N):=zh (hri.le (by omega))
     have HOI:=zh (HO.out.of (w':=wi) (fun k h1 h2=>hmi.2.2 k h2 (by simp;omega)))
     have HMT:=zh (HMW.out.trF hmi (by simp))
     have KAI:=zh kai;obtain⟨FY,hsy,hoy⟩:=hys;have HSY:=zh hsy;have HOY:=zh hoy;clear hmi hri hsy hoy hyl kai;go_wp2_with (at_builtin;refine zBa (α:=List Order) rfl _ _ 28 rfl 52 Tryz.underlying28 zFf (v:=.slice ao no co) (ys:=[ys]) (Fy:=FY) rfl (HOI.out.of (fun k _ h=>((zr wi).alloc _).block k (by omega))) (by omega) (by simp;omega) rfl rfl (Row.lit1 (cs:=[_]) ⟨_,rfl,by have:=HSY.out;rwa [<- HXN.out] at this⟩) (by simp) (HOY.out.ext ((zr wi).alloc _)) (by omega) ?_;intro v5 w5 hO5 hg5;have hrow5:=HOI.out.own;have HG5:=zh ((HMT.out.tr (Mw.ofExt ((zr _).alloc _))).trF hg5 (fun x hx => .inr (by have:=(hrow5 x (Option.mem_toList.1 hx)).1;omega)));have HR5:=zh ((HRI.out.ext ((zr _).alloc _)).mw hg5 (fun hm=>by have:=hrow5 _ (Option.mem_toList.1 hm);omega) (fun x hx=>by have:=hrow5 x (Option.mem_toList.1 hx);omega));have KA5:=zh (hg5.bk (KAI.out.ext ((zr _).alloc _)) (fun hm=>by have:=(hrow5 _ (Option.mem_toList.1 hm)).1;omega));have HO5:=zh hO5;obtain⟨p5,k5,q5,rfl⟩:=hO5.sh;clear hO5 hg5)
     go_roundw
     case rel=>exact⟨j+1,_,_,_,xs ++ [ys],by omega,by go_num,rfl,HO5.out,by rw[List.length_append,List.length_singleton,HXL.out],(fun p hp=>(List.mem_append.1 hp).elim (HXP.out p) (fun h=>by rw[List.mem_singleton] at h;subst h;have:=HXN.out;omega)),HG5.out,HR5.out.le (by omega),KA5.out⟩
     case measure=>simp[intOf];omega
  ·obtain rfl:j=s.Parts.length:=by omega
   have HRD:=zh hrd;have HPG:Hid (xs.length=s.Parts.length/\∀ p∈xs,p.length<=21):=zh ⟨hxl,hxv⟩;clear hmw hoo hrd hxl hxv ka;go_wp2;go_ret;exact⟨_,xs,rfl,(HOO.out.mono (Nat.le_succ _)),HPG.out,HMW.out,HRD.out.le (by omega)⟩
end Sk
