/- Contracts of functions of the given program. -/
import Derived.Test.YtfdeoepbnefckaaGreatZeChOf
namespace Sk
open Go Go.Proofs Go.RowKit
set_option maxHeartbeats 4000000
set_option maxRecDepth 100000
set_option linter.unusedVariables false
set_option linter.unusedSimpArgs false
theorem zHc(u:World):(Instr.makeSlice 52 (.int .i64 21) (.int .i64 21)).run Tryz.prog u =
   .ok (.slice (some ⟨u.heap.size,0,none⟩) 21 21) (u.alloc (.cells (madeCells #[.int .i64 0,.int .i64 0,.int .i64 0] 63) 61)):=by
 obtain⟨i1,hi1,hq0,hq1,hq2⟩:=info_parts zIx;have h:=run_make (P:=Tryz.prog) u 52 61 i1 (.agg #[.int .i64 0,.int .i64 0,.int .i64 0]) Tryz.underlying52 hi1 hq0 .i64 .i64 21 21 (by omega) (Int.le_refl _) (by rw[hq2];omega) (by omega)
 simpa [hq1,Value.cells] using h
theorem zFb(W w:World)(b m c C:Nat)(nn:Int)(hnn:rng nn)(h:Rd W w b (m+60))(hc1:1<=c)(hc8:c<=8)(hC:C<=100) :
  Calls Tryz.prog 48 #[.pointer (some ⟨b,0,none⟩),.int .i64 c,.int .i64 C,.int .i64 nn] w fun e w' => ∃ v xs,e = .returned v/\Os (α:=Order) w.heap.size w' v xs/\(1<=xs.length/\xs.length<=21)/\Mw [b] w w'/\Rd W w' b m:=by
 have H:=zh h;have hbl:=h.lt;have hbW:=h.1;have hWw:=h.2.1.sz;clear h;obtain⟨C8,hC8e,hC8⟩:∃ C8,(if (C:Int) < 8 then (C:Int) else 8)=C8/\(0<=C8/\C8<=8):=⟨_,rfl,by split<;>omega⟩
 obtain⟨CX,hCXe,hCX⟩:∃ CX,(if (1:Int) < C8 then C8 else 1)=CX/\(1<=CX/\CX<=8):=⟨_,rfl,by split<;>omega⟩
 go_enter Tryz.func48,Tryz.ntmps48;go_upto_region 2 with (fail)
 refine zA2 (fun W0=>Ext w W0/\Oo (α:=Order) 61 w.heap.size W0 (.slice (some ⟨w.heap.size,0,none⟩) 0 0) []) ⟨(zr _).alloc _,Oo.lit0 _ _⟩ ?_
 rintro W0 ⟨e0,ho0⟩;have HRD:=zh (H.out.ext e0);have HMW:Hid (Mw [b] w W0):=zh (Mw.ofExt e0);have HO:=zh ho0;clear e0 H ho0;go_upto_region 3 with (go_at_call 49;refine(zA3 W _ b _ _ HRD.out (zA5 (by omega) (by omega))).mono ?_;rintro e w1 ⟨k,rfl,hk,hm,hr⟩;have hkb:=hk.lt (by omega);replace HMW:=zh (HMW.out.tr (Mw.ofMo hm));replace HO:=zh (HO.out.mo hm (by simp;omega));replace HRD:=zh hr;clear hk hm hr)
 obtain⟨hk1,hk2⟩:=hkb;obtain⟨J,hJ⟩:∃ J:Nat,1+k=J:=⟨(1+k).toNat,by omega⟩
 rw[hJ];have hJ1:1<=J:=by omega
 have hJ7:J<=7:=by omega
 clear hk1 hk2 hJ;go_upto_region 4 with (go_at_call 49;refine(zA3 W _ b _ _ HRD.out (zA5 (by omega) (by omega))).mono ?_;rintro e w2 ⟨cm,rfl,hk,hm,hr⟩;have hkb:=hk.lt (by omega);replace HMW:=zh (HMW.out.tr (Mw.ofMo hm));replace HO:=zh (HO.out.mo hm (by simp;omega));replace HRD:=zh hr;clear hk hm hr)
 obtain⟨hk1,hk2⟩:=hkb;obtain⟨cn,hcne,hcn⟩:∃ cn,(if (1:Int) < cm then 1 else cm)=cn/\(0<=cn/\cn<=1):=⟨_,rfl,by split<;>omega⟩
 clear hk1 hk2;go_wp2_with fail
 go_loopw [9,12] (fun v9 i wr => ∃ (j:Nat) (ao:Option Addr) (no co:Nat) (xs:List Order),j<=J/\i = .int .i64 j/\v9 = .slice ao no co/\Oo 61 w.heap.size wr (.slice ao no co) xs/\xs.length=j/\(∀ x∈xs,zDw c J x=true)/\Mw [b] w wr/\Rd W wr b (m+57 - 7*j)) (fun _ i _=>J - (intOf i).toNat)
 case atStart=>exact⟨0,_,_,_,[],Nat.zero_le _,rfl,rfl,HO.out,rfl,(fun x hx=>by cases hx),HMW.out,HRD.out.le (by omega)⟩
 case round =>
  clear HMW HO HRD;obtain⟨j,ao,no,co,xs,hj,rfl,rfl,hoo,hxl,hxv,hmw,hrd⟩:=hrel;obtain⟨wo,rfl⟩:∃ wo:World,wo=wr:=⟨_,rfl⟩;have HXV:=zh hxv;have HXL:=zh hxl;have HMW:=zh hmw;have HO:=zh hoo.ob;have HOO:=zh hoo;have hs1:=hmw.size;have hxl7:xs.length<=7:=by omega
  by_cases hjt:j < J
  ·obtain⟨N,hN1,hN2⟩:∃ N,N+6<=m+57 - 7*j/\m+57 - 7*(j+1)<=N:=⟨m+51 - 7*j,by omega,by omega⟩
   have HRD:Hid (Rd W wo b (N+6)):=zh (hrd.le hN1);have hbo:b < wo.heap.size:=hrd.lt;clear hmw hoo hrd hxl hxv;go_upto_region 8 with (go_at_call 49;refine(zA3 W _ b _ _ (HRD.out.ext ((zr _).alloc _)) (zA5 (by omega) (by omega))).mono ?_;rintro e w3 ⟨k,rfl,hk,hm,hr⟩;have hk12:0<=k/\k < 12:=(by obtain⟨p1,p2⟩:=hk.lt (by omega);omega);obtain⟨z,hz1,hz2⟩:=zIy (zs:=[1,2,3,4,5,6,5,6,7,2,0,8]) hm hbo hk12 rfl;have HM3:=zh ((Mw.ofExt ((zr wo).alloc (.cells #[.int .i64 1,.int .i64 2,.int .i64 3,.int .i64 4,.int .i64 5,.int .i64 6,.int .i64 5,.int .i64 6,.int .i64 7,.int .i64 2,.int .i64 0,.int .i64 8] 3)) (F:=[b])).tr (Mw.ofMo hm));have HR3:=zh hr;clear hk hm hr)
   obtain⟨Q,hQ⟩:∃ Q,Q=w3.heap.size:=⟨_,rfl⟩;have hs3:=HM3.out.size;have hwQ:wo.heap.size<=Q:=by omega
   have hbQ:b≠Q:=by omega
   have hWQ:W.heap.size<=Q:=by omega
   have hz9:z=1\/z=2\/z=3\/z=4\/z=5\/z=6\/z=7\/z=0\/z=8:=by simp only[List.mem_cons,List.not_mem_nil,or_false] at hz2;omega
   refine zA2 (OB W wo b Q (N+5) z 0 0) ⟨HM3.out.tr (Mw.ofExt ((zr _).alloc _)),HR3.out.ext ((zr _).alloc _),by rw[hQ];exact Bk.new _ _ _⟩ ?_
   rw[<- hQ];clear HM3 HR3 hQ hz1 hz2 hk12 HRD;intro wq hbq;have HB:=zh hbq;obtain⟨q0,q1,q2⟩:=Bk.k3 HB.out.2.2;have qf:=HB.out.2.2.fz;have ql:=HB.out.2.2.lt;clear hbq;go_upto_block 2 with (fail)
   go_cut [] from 36 to 91 (fun wc => ∃ X A B,OB W wo b Q N X A B wc/\zDw c J ⟨X,A,B⟩=true /\ -1000<=X/\X<=1000 /\ -1000<=A/\A<=1000 /\ -1000<=B/\B<=1000)
   case first =>
    rcases hz9 with rfl|rfl|rfl|rfl|rfl|rfl|rfl|rfl|rfl
    ·go_upto_region 11 with (go_at_call 49;refine(zA3 W _ b _ _ HB.out.2.1 (zA5 (by omega) (by omega))).mono ?_;rintro e wa ⟨ka,rfl,hk,hm,hr⟩;obtain⟨hla,hua⟩:=hk.lt (by omega);replace HB:=zh (HB.out.pick hm hr hbQ);obtain⟨q0,q1,q2⟩:=Bk.k3 HB.out.2.2;have qf:=HB.out.2.2.fz;have ql:=HB.out.2.2.lt;clear hk hm hr)
     refine zA2 (OB W wo b Q (N+4) 1 ka 0) (HB.out.putA hwQ hbQ hWQ ka) ?_;intro ua hba;clear HB q0 q1 q2 qf ql;have HB:=zh hba;obtain⟨q0,q1,q2⟩:=Bk.k3 HB.out.2.2;have qf:=HB.out.2.2.fz;have ql:=HB.out.2.2.lt;clear hba
     go_wp2_with (first
      | (go_at_call 49;have _t:=kc;refine(zA3 W _ b _ _ (HB.out.alloc _).2.1 (zA5 (by omega) (by omega))).mono ?_;rintro e wd ⟨kd,rfl,hk,hm,hr⟩;obtain⟨hld,hud⟩:=hk.lt (by omega);obtain⟨z,hz1,hz2⟩:=zCn (zs:=[kb,kc]) hm HB.out.2.1.lt hk rfl (by simp);have hzb:0<=z/\z<=255:=(by simp only[List.mem_cons,List.not_mem_nil,or_false] at hz2;omega);replace HB:=zh ((HB.out.alloc _).pick hm hr hbQ);obtain⟨q0,q1,q2⟩:=Bk.k3 HB.out.2.2;have qf:=HB.out.2.2.fz;have ql:=HB.out.2.2.lt;clear hk hm hr)
      | (go_at_call 49;have _t:=kb;refine(zA3 W _ b _ _ HB.out.2.1 (zA5 (by omega) (by omega))).mono ?_;rintro e wc ⟨kc,rfl,hk,hm,hr⟩;obtain⟨hlc,huc⟩:=hk.lt (by omega);replace HB:=zh (HB.out.pick hm hr hbQ);obtain⟨q0,q1,q2⟩:=Bk.k3 HB.out.2.2;have qf:=HB.out.2.2.fz;have ql:=HB.out.2.2.lt;clear hk hm hr)
      | (go_at_call 49;refine(zA3 W _ b _ _ HB.out.2.1 (zA5 (by omega) (by omega))).mono ?_;rintro e wb ⟨kb,rfl,hk,hm,hr⟩;obtain⟨hlb,hub⟩:=hk.lt (by omega);replace HB:=zh (HB.out.pick hm hr hbQ);obtain⟨q0,q1,q2⟩:=Bk.k3 HB.out.2.2;have qf:=HB.out.2.2.fz;have ql:=HB.out.2.2.lt;clear hk hm hr))
     go_meet
     exact⟨1,ka,z,(HB.out.putB hwQ hbQ hWQ z).le (by omega),zCm (by omega),by omega,by omega,by omega,by omega,by omega,by omega⟩
    ·go_upto_region 15 with (go_at_call 49;refine(zA3 W _ b _ _ HB.out.2.1 (zA5 (by omega) (by omega))).mono ?_;rintro e wa ⟨ka,rfl,hk,hm,hr⟩;obtain⟨hla,hua⟩:=hk.lt (by omega);replace HB:=zh (HB.out.pick hm hr hbQ);obtain⟨q0,q1,q2⟩:=Bk.k3 HB.out.2.2;have qf:=HB.out.2.2.fz;have ql:=HB.out.2.2.lt;clear hk hm hr)
     refine zA2 (OB W wo b Q (N+4) 2 ka 0) (HB.out.putA hwQ hbQ hWQ ka) ?_;intro ua hba;clear HB q0 q1 q2 qf ql;have HB:=zh hba;obtain⟨q0,q1,q2⟩:=Bk.k3 HB.out.2.2;have qf:=HB.out.2.2.fz;have ql:=HB.out.2.2.lt;clear hba;go_wp2_with (go_at_call 49;refine(zA3 W _ b _ _ HB.out.2.1 (zA5 (by omega) (by omega))).mono ?_;rintro e wb ⟨kb,rfl,hk,hm,hr⟩;obtain⟨hlb,hub⟩:=hk.lt (by omega);replace HB:=zh (HB.out.pick hm hr hbQ);obtain⟨q0,q1,q2⟩:=Bk.k3 HB.out.2.2;have qf:=HB.out.2.2.fz;have ql:=HB.out.2.2.lt;clear hk hm hr)
     go_meet
     exact⟨2,ka,kb,(HB.out.putB hwQ hbQ hWQ kb).le (by omega),zCm (by omega),by omega,by omega,by omega,by omega,by omega,by omega⟩
    ·go_upto_region 15 with (go_at_call 49;refine(zA3 W _ b _ _ HB.out.2.1 (zA5 (by omega) (by omega))).mono ?_;rintro e wa ⟨ka,rfl,hk,hm,hr⟩;obtain⟨hla,hua⟩:=hk.lt (by omega);replace HB:=zh (HB.out.pick hm hr hbQ);obtain⟨q0,q1,q2⟩:=Bk.k3 HB.out.2.2;have qf:=HB.out.2.2.fz;have ql:=HB.out.2.2.lt;clear hk hm hr)
     refine zA2 (OB W wo b Q (N+4) 3 ka 0) (HB.out.putA hwQ hbQ hWQ ka) ?_;intro ua hba;clear HB q0 q1 q2 qf ql;have HB:=zh hba;obtain⟨q0,q1,q2⟩:=Bk.k3 HB.out.2.2;have qf:=HB.out.2.2.fz;have ql:=HB.out.2.2.lt;clear hba;go_wp2_with (go_at_call 49;refine(zA3 W _ b _ _ HB.out.2.1 (zA5 (by omega) (by omega))).mono ?_;rintro e wb ⟨kb,rfl,hk,hm,hr⟩;obtain⟨hlb,hub⟩:=hk.lt (by omega);replace HB:=zh (HB.out.pick hm hr hbQ);obtain⟨q0,q1,q2⟩:=Bk.k3 HB.out.2.2;have qf:=HB.out.2.2.fz;have ql:=HB.out.2.2.lt;clear hk hm hr)
     go_meet
     exact⟨3,ka,kb,(HB.out.putB hwQ hbQ hWQ kb).le (by omega),zCm (by omega),by omega,by omega,by omega,by omega,by omega,by omega⟩
    ·go_upto_region 18 with (go_at_call 49;refine(zA3 W _ b _ _ HB.out.2.1 (zA5 (by omega) (by omega))).mono ?_;rintro e wa ⟨ka,rfl,hk,hm,hr⟩;obtain⟨hla,hua⟩:=hk.lt (by omega);replace HB:=zh (HB.out.pick hm hr hbQ);obtain⟨q0,q1,q2⟩:=Bk.k3 HB.out.2.2;have qf:=HB.out.2.2.fz;have ql:=HB.out.2.2.lt;clear hk hm hr)
     refine zA2 (OB W wo b Q (N+4) 4 ka 0) (HB.out.putA hwQ hbQ hWQ ka) ?_;intro ua hba;clear HB q0 q1 q2 qf ql;have HB:=zh hba;obtain⟨q0,q1,q2⟩:=Bk.k3 HB.out.2.2;have qf:=HB.out.2.2.fz;have ql:=HB.out.2.2.lt;clear hba;go_wp2_with (go_at_call 49;refine(zA3 W _ b _ _ HB.out.2.1 (zA5 (by omega) (by omega))).mono ?_;rintro e wb ⟨kb,rfl,hk,hm,hr⟩;obtain⟨hlb,hub⟩:=hk.lt (by omega);replace HB:=zh (HB.out.pick hm hr hbQ);obtain⟨q0,q1,q2⟩:=Bk.k3 HB.out.2.2;have qf:=HB.out.2.2.fz;have ql:=HB.out.2.2.lt;clear hk hm hr)
     go_meet
     exact⟨4,ka,kb,(HB.out.putB hwQ hbQ hWQ kb).le (by omega),zCm (by omega),by omega,by omega,by omega,by omega,by omega,by omega⟩
    ·go_upto_region 22 with (go_at_call 49;refine(zA3 W _ b _ _ HB.out.2.1 (zA5 (by omega) (by omega))).mono ?_;rintro e wa ⟨ka,rfl,hk,hm,hr⟩;obtain⟨hla,hua⟩:=hk.lt (by omega);replace HB:=zh (HB.out.pick hm hr hbQ);obtain⟨q0,q1,q2⟩:=Bk.k3 HB.out.2.2;have qf:=HB.out.2.2.fz;have ql:=HB.out.2.2.lt;clear hk hm hr)
     refine zA2 (OB W wo b Q (N+4) 5 ka 0) (HB.out.putA hwQ hbQ hWQ ka) ?_;intro ua hba;clear HB q0 q1 q2 qf ql;have HB:=zh hba;obtain⟨q0,q1,q2⟩:=Bk.k3 HB.out.2.2;have qf:=HB.out.2.2.fz;have ql:=HB.out.2.2.lt;clear hba;go_wp2_with (go_at_call 49;refine(zA3 W _ b _ _ HB.out.2.1 (zA5 (by omega) (by omega))).mono ?_;rintro e wb ⟨kb,rfl,hk,hm,hr⟩;obtain⟨hlb,hub⟩:=hk.lt (by omega);replace HB:=zh (HB.out.pick hm hr hbQ);obtain⟨q0,q1,q2⟩:=Bk.k3 HB.out.2.2;have qf:=HB.out.2.2.fz;have ql:=HB.out.2.2.lt;clear hk hm hr)
     go_meet
     exact⟨5,ka,kb,(HB.out.putB hwQ hbQ hWQ kb).le (by omega),zCm (by omega),by omega,by omega,by omega,by omega,by omega,by omega⟩
    ·go_upto_region 22 with (go_at_call 49;refine(zA3 W _ b _ _ HB.out.2.1 (zA5 (by omega) (by omega))).mono ?_;rintro e wa ⟨ka,rfl,hk,hm,hr⟩;obtain⟨hla,hua⟩:=hk.lt (by omega);replace HB:=zh (HB.out.pick hm hr hbQ);obtain⟨q0,q1,q2⟩:=Bk.k3 HB.out.2.2;have qf:=HB.out.2.2.fz;have ql:=HB.out.2.2.lt;clear hk hm hr)
     refine zA2 (OB W wo b Q (N+4) 6 ka 0) (HB.out.putA hwQ hbQ hWQ ka) ?_;intro ua hba;clear HB q0 q1 q2 qf ql;have HB:=zh hba;obtain⟨q0,q1,q2⟩:=Bk.k3 HB.out.2.2;have qf:=HB.out.2.2.fz;have ql:=HB.out.2.2.lt;clear hba;go_wp2_with (go_at_call 49;refine(zA3 W _ b _ _ HB.out.2.1 (zA5 (by omega) (by omega))).mono ?_;rintro e wb ⟨kb,rfl,hk,hm,hr⟩;obtain⟨hlb,hub⟩:=hk.lt (by omega);replace HB:=zh (HB.out.pick hm hr hbQ);obtain⟨q0,q1,q2⟩:=Bk.k3 HB.out.2.2;have qf:=HB.out.2.2.fz;have ql:=HB.out.2.2.lt;clear hk hm hr)
     go_meet
     exact⟨6,ka,kb,(HB.out.putB hwQ hbQ hWQ kb).le (by omega),zCm (by omega),by omega,by omega,by omega,by omega,by omega,by omega⟩
    ·go_wp2_with (go_at_call 49;refine(zA3 W _ b _ _ HB.out.2.1 (zA5 (by omega) (by omega))).mono ?_;rintro e wa ⟨ka,rfl,hk,hm,hr⟩;obtain⟨hla,hua⟩:=hk.lt (by omega);replace HB:=zh (HB.out.pick hm hr hbQ);obtain⟨q0,q1,q2⟩:=Bk.k3 HB.out.2.2;have qf:=HB.out.2.2.fz;have ql:=HB.out.2.2.lt;clear hk hm hr)
     go_meet
     exact⟨7,ka,0,(HB.out.putA hwQ hbQ hWQ ka).le (by omega),zCm (by omega),by omega,by omega,by omega,by omega,by omega,by omega⟩
    ·go_wp2;go_meet
     exact⟨0,0,0,HB.out.le (by omega),zCm (by omega),by omega,by omega,by omega,by omega,by omega,by omega⟩
    ·go_wp2;go_meet
     exact⟨8,0,0,HB.out.le (by omega),zCm (by omega),by omega,by omega,by omega,by omega,by omega,by omega⟩
   case rest =>
    clear HB q0 q1 q2 qf ql;obtain⟨X,A,B,hb,hov,x0,x1,a0,a1,b0,b1⟩:=hcut;obtain⟨q0,q1,q2⟩:=Bk.k3 hb.2.2;have ql:=hb.2.2.lt;have HOV:=zh hov;have HRC:=zh hb.2.1;have HOC:=zh (HO.out.of (w':=wc) (fun k h1 h2=>hb.1.2.2 k h2 (by simp;omega)))
    have hsw:=hb.1.size;have HMT:=zh (HMW.out.trF hb.1 (by simp))
    clear hb hov;go_wp2_with (at_builtin;refine zBa (α:=Order) rfl _ _ 52 rfl 61 Tryz.underlying52 zHy (v:=.slice ao no co) (ys:=[⟨X,A,B⟩]) rfl (HOC.out.of (fun k _ h=>((zr wc).alloc _).block k (by omega))) (by omega) (by simp<;>omega) rfl rfl (Row.lit1 (cs:=[_,_,_]) ⟨rfl,zA5 (by show _<=X;omega) (by show X<=_;omega),zA5 (by show _<=A;omega) (by show A<=_;omega),zA5 (by show _<=B;omega) (by show B<=_;omega),rfl⟩) (by simp) (Own.nil _ _) (by omega) ?_;intro v5 w5 hO5 hg5;have hrow5:=HOC.out.own;have HG5:=zh ((HMT.out.tr (Mw.ofExt ((zr _).alloc _))).trF hg5 (fun x hx => .inr (hrow5 x (Option.mem_toList.1 hx)).1));have HR5:=zh ((HRC.out.ext ((zr _).alloc _)).mw hg5 (fun hm=>by have:=hrow5 _ (Option.mem_toList.1 hm);omega) (fun x hx=>by have:=hrow5 x (Option.mem_toList.1 hx);omega));have HO5:=zh hO5;obtain⟨p5,k5,q5,rfl⟩:=hO5.sh;clear hO5 hg5)
    go_roundw
    case rel=>exact⟨j+1,_,_,_,_,by omega,by go_num,rfl,HO5.out,by simp[HXL.out],(fun y hy=>by rcases List.mem_append.1 hy with hy|hy;exact HXV.out y hy;rw[List.mem_singleton] at hy;subst hy;exact HOV.out),HG5.out,HR5.out.le (by omega)⟩
    case measure=>simp[intOf];omega
  ·obtain rfl:j=J:=by omega
   have HRD:=zh hrd;have HPV:Hid (zBg xs c=true):=zh (by
    simp only[zBg,Bool.and_eq_true,zA7,List.all_eq_true];exact⟨⟨by omega,by omega⟩,⟨by omega,by omega⟩,fun x hx=>by have:=HXV.out x hx;rwa [<- HXL.out] at this⟩)
   clear hmw hoo hrd hxl hxv;go_upto_if 98 with (go_at_call 20;refine(zC8 W _ b _ nn (HRD.out.le (m':=m+7+1) (by omega)) hnn).mono ?_;rintro e w4 ⟨⟨q,rfl⟩,hm,hr⟩;have HM4:=zh (HMW.out.tr (Mw.ofMo hm));have HO4:=zh (HOO.out.mo hm (by simp;omega));have HR4:=zh hr;clear hm hr)
   have hxl8:1<=xs.length:=by have:=HXL.out;omega
   clear HMW HOO HRD HPV HXV;cases q
   ·go_wp2;go_ret;exact⟨_,xs,rfl,HO4.out.os,⟨hxl8,by omega⟩,HM4.out,HR4.out.le (by omega)⟩
   have HR5:Hid (Rd W w4 b (m+6+1)):=zh (HR4.out.le (by omega))
   go_upto_block 3 with (go_at_call 49;refine(zA3 W _ b _ _ HR5.out (zA5 (by omega) (by omega))).mono ?_;rintro e w5 ⟨k3,rfl,hk,hm,hr⟩;have hkb:=hk.lt (by omega);have HM5:=zh (HM4.out.tr (Mw.ofMo hm));have HO5:=zh (HO4.out.mo hm (by simp;omega)).os;have HR6:=zh hr;clear hk hm hr)
   clear HR4 HR5 HM4 HO4;have hs5:=HM5.out.size;have e9:no=xs.length:=by
    obtain⟨_,_,e,_⟩:=HO5.out.form;simp at e;exact e.2.1
   subst e9;have hJo:xs.length=j:=HXL.out;have hb5:b < w5.heap.size:=by omega
   obtain⟨g,sg,X0,A0,B0,rfl,-,hLg,hgl,f0,f1,f2,gf,-,-,-⟩:=HO5.out.atO 0 (by omega)
   simp only[Nat.zero_mul,Nat.add_zero] at f0 f1 f2;have hbg:b≠g:=by omega
   have hWg:W.heap.size<=g:=by omega
   clear hJo;obtain rfl|rfl|rfl|rfl:k3=0\/k3=1\/k3=2\/k3=3:=by omega
   ·go_wp2_with (go_at_call 49;refine(zA3 W _ b (m+5) _ ((HR6.out.ext ((zr _).alloc _)).le (by omega)) (zA5 (by omega) (by omega))).mono ?_;rintro e w6 ⟨k6,rfl,hk,hm,hr⟩;obtain⟨z,hz1,hz2⟩:=zCn (zs:=[-1,9]) hm hb5 hk rfl (by simp);have hzb : -1<=z/\z<=9:=(by simp only[List.mem_cons,List.not_mem_nil,or_false] at hz2;omega);obtain⟨p1,p2⟩:=hk.lt (by omega);have HM6:=zh ((HM5.out.tr (Mw.ofExt ((zr _).alloc _))).tr (Mw.ofMo hm));have HO6:=zh ((HO5.out.ext ((zr w5).alloc _)).mw (Mw.ofMo hm) (by simp;omega));have HR7:=zh hr;obtain⟨_,_,X1,A1,B1,e8,-,-,hgl6,h0,h1,h2,hf,-,-,-⟩:=HO6.out.atO 0 (by omega);cases e8;simp only[Nat.zero_mul,Nat.add_zero] at h0 h1 h2;clear hm hr hk f0 f1 f2 gf)
    have hs6:=HM6.out.size;have HS:=zh (HO6.out.setO (i:=0) (by omega) (by omega) ⟨z,0,0⟩ (zA5 (by show _<=z;omega) (by show z<=_;omega)) zAg zAg)
    simp only[Nat.zero_mul,Nat.add_zero] at HS;go_ret;exact⟨_,_,rfl,HS.out,⟨by rw[List.length_set];omega,by rw[List.length_set];omega⟩,((HM6.out.set (.inr hLg) _).set (.inr hLg) _).set (.inr hLg) _,(((HR7.out.set (p:=⟨g,sg,none⟩) hbg hWg _).set (p:=⟨g,sg+1,none⟩) hbg hWg _).set (p:=⟨g,sg+2,none⟩) hbg hWg _).le (by omega)⟩
   ·have HS:=zh (HO5.out.setO (i:=0) (by omega) (by omega) ⟨3,c,0⟩ ⟨by show(-9223372036854775808:Int)<=3;omega,by show(3:Int)<=_;omega⟩ (zA5 (by show _<=(c:Int);omega) (by show(c:Int)<=_;omega)) zAg)
    simp only[Nat.zero_mul,Nat.add_zero] at HS;go_wp2;go_ret;exact⟨_,_,rfl,HS.out,⟨by rw[List.length_set];omega,by rw[List.length_set];omega⟩,((HM5.out.set (.inr hLg) _).set (.inr hLg) _).set (.inr hLg) _,(((HR6.out.set (p:=⟨g,sg,none⟩) hbg hWg _).set (p:=⟨g,sg+1,none⟩) hbg hWg _).set (p:=⟨g,sg+2,none⟩) hbg hWg _).le (by omega)⟩
   ·have HS:=zh (HO5.out.setO (i:=0) (by omega) (by omega) ⟨4,xs.length,0⟩ ⟨by show(-9223372036854775808:Int)<=4;omega,by show(4:Int)<=_;omega⟩ (zA5 (by show _<=(xs.length:Int);omega) (by show(xs.length:Int)<=_;omega)) zAg)
    simp only[Nat.zero_mul,Nat.add_zero] at HS;go_wp2;go_ret;exact⟨_,_,rfl,HS.out,⟨by rw[List.length_set];omega,by rw[List.length_set];omega⟩,((HM5.out.set (.inr hLg) _).set (.inr hLg) _).set (.inr hLg) _,(((HR6.out.set (p:=⟨g,sg,none⟩) hbg hWg _).set (p:=⟨g,sg+1,none⟩) hbg hWg _).set (p:=⟨g,sg+2,none⟩) hbg hWg _).le (by omega)⟩
   ·have hmk:∀ u:World,(Instr.makeSlice 52 (.int .i64 21) (.int .i64 21)).run Tryz.prog u = .ok (.slice (some ⟨u.heap.size,0,none⟩) 21 21) (u.alloc (.cells (madeCells #[.int .i64 0,.int .i64 0,.int .i64 0] 63) 61)):=zHc;go_wp2;go_ret;have hos:Os (α:=Order) w5.heap.size (w5.alloc (.cells (madeCells #[.int .i64 0,.int .i64 0,.int .i64 0] 63) 61)) (.slice (some ⟨w5.heap.size,0,none⟩) 21 21) (List.replicate 21 ⟨0,0,0⟩):=by
     have:=Os.made (α:=Order) w5 21 61 #[.int .i64 0,.int .i64 0,.int .i64 0] ⟨0,0,0⟩ rfl rfl (by omega)
     simpa only[GT.sz] using this
    exact⟨_,_,rfl,hos.mono hs5,⟨by simp,by simp⟩,HM5.out.tr (Mw.ofExt ((zr _).alloc _)),(HR6.out.ext ((zr _).alloc _)).le (by omega)⟩
end Sk
