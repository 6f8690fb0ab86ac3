/- Contracts of functions of the given program. -/
import Derived.Test.YtfdeoepbnefckaaGreatSame
namespace Sk
open Go Go.Proofs Go.RowKit
set_option maxHeartbeats 1600000
set_option maxRecDepth 100000
set_option linter.unusedVariables false
set_option linter.unusedSimpArgs false
theorem Os.rsb{α:Type}[GT α]{L:Nat}{w:World}{v:Value}{xs:List α}(h:Os L w v xs):Rsb L w v xs:=by
 obtain⟨F,h1,h2⟩:=h;exact⟨F,h1,fun k hk=>(h2.2 k hk).1⟩
theorem Rsb.form{α:Type}[GT α]{L:Nat}{w:World}{v:Value}{xs:List α}(h:Rsb L w v xs):∃ a c,v = .slice a xs.length c/\xs.length<=9223372036854775807:=h.rs.form
theorem zA5{n:Int}(h1 : -1000000<=n)(h2:n<=1000000):rng n:=⟨by omega,by omega⟩
theorem zIs.bd{n k:Int}(h:zIs n k)(hn:n<=1000):0<=k/\k<=1000:=by
 obtain⟨h1,h2,h3⟩:=h;by_cases hx:1<=n
 ·have:=h2 hx;omega
 ·have:=h3 (by omega);omega
theorem zIs.lt{n k:Int}(h:zIs n k)(hn:1<=n):0<=k/\k < n:=⟨h.1,h.2.1 hn⟩
theorem zCn{u w':World}{b:Nat}{zs:List Int}{T:TypeId}{k n:Int}(hm:Mo [b] (u.alloc (.cells (zs.map fun z=>Value.int .i64 z).toArray T (0,0))) w')(hb:b < u.heap.size)(hk:zIs n k)(hn:n=zs.length)(hz:0 < zs.length) :
  ∃ z,w'.cell? ⟨u.heap.size,k.toNat,none⟩=some (.int .i64 z)/\z∈zs:=by
 have h1:=hk.lt (by omega)
 have hk2:k.toNat < zs.length:=by omega
 refine⟨zs[k.toNat],?_,List.getElem_mem _⟩;rw[hm.cell (by simp;omega)]
 refine(Bk.new u (zs.map fun z=>Value.int .i64 z) T).cell ?_
 simp[hk2]
def WBox(W w:World)(b B0 Q m:Nat)(B:Int)(u:World):Prop:=Mw [b] w u/\Rd W u b m/\Bk u B0 [.int .i64 0,.int .i64 0,.bool false] 71 /\
 ∃ (X Y:Int) (Z:Bool),Bk u Q [.int .i64 X,.int .i64 Y,.bool Z] 71 /\ -B<=X/\X<=B /\ -B<=Y/\Y<=B
theorem zDe(W w:World)(b m:Nat)(n:Int)(h:Rd W w b (m+8))(hn1 : -1000000<=n)(hn2:n<=1000000) :
  Calls Tryz.prog 123 #[.pointer (some ⟨b,0,none⟩),.int .i64 n] w fun e w' => ∃ x:Window,e = .returned (.agg #[.int .i64 x.Base,.int .i64 x.Size,.bool x.Write])/\rng x.Base/\rng x.Size/\Mw [b] w w'/\Rd W w' b m:=by
 have H:=zh h;have hbl:=h.lt;have hbW:=h.1;have hWw:=h.2.1.sz;clear h;go_enter Tryz.func123,Tryz.ntmps123;go_upto_region 1 with (fail)
 refine zA2 (fun W0=>Ext w W0/\Bk W0 w.heap.size [.int .i64 0,.int .i64 0,.bool false] 71) ⟨(zr _).alloc _,Bk.new _ _ _⟩ ?_
 rintro W0 ⟨e0,KB⟩;have hlB:=KB.lt;have HRD:=zh (H.out.ext e0);have HMW:Hid (Mw [b] w W0):=zh (Mw.ofExt e0);replace KB:=zh KB;clear e0 H
 generalize hB0:w.heap.size=B0 at *
 replace hB0:=zh hB0;go_upto_region 2 with (go_at_call 49;refine(zA3 W _ b _ _ HRD.out (zA5 (by omega) (by omega))).mono ?_;rintro e w1 ⟨k,rfl,hk,hm,hr⟩;have hkb:=hk.bd (by omega);have hsz:=Nat.le_of_eq hm.lt.symm;replace HMW:=zh (HMW.out.tr (Mw.ofMo hm));replace KB:=zh (hm.bk KB.out (by simp;omega));replace HRD:=zh hr;clear hk hm hr)
 obtain⟨Q,hQ⟩:∃ Q,Q=w1.heap.size:=⟨_,rfl⟩;have hBQ:B0 < Q:=by omega
 refine zA2 (WBox W w b B0 Q (m+5) 1100) ⟨HMW.out.tr (Mw.ofExt ((zr _).alloc _)),HRD.out.ext ((zr _).alloc _),KB.out.ext ((zr _).alloc _),_,_,_,by rw[hQ];exact Bk.new _ _ _,by omega,by omega,by omega,by omega⟩ ?_
 rw[<- hQ];clear HMW HRD KB hQ hlB;have hbQ:b < Q:=by omega
 rintro W1 ⟨mw1,rd1,kb1,X,Y,Z,kq1,x1,x2,y1,y2⟩;have HMW:=zh mw1;have HRD:=zh rd1;have KB:=zh kb1;have KQ:=zh kq1;clear mw1 rd1 kb1 kq1;go_upto_if 16 with (go_at_call 20;refine(zC8 W _ b _ _ HRD.out (zA5 (by omega) (by omega))).mono ?_;rintro e w2 ⟨⟨q,rfl⟩,hm,hr⟩;replace HMW:=zh (HMW.out.tr (Mw.ofMo hm));replace KB:=zh (hm.bk KB.out (by simp;omega));replace KQ:=zh (hm.bk KQ.out (by simp;omega));replace HRD:=zh hr;clear hm hr)
 go_cut [] from 6 (fun wc=>WBox W w b B0 Q (m+4) 6000 wc)
 case first =>
  obtain⟨q0,q1⟩:=Bk.k2 KQ.out;have qf:=KQ.out.fz;have ql:=KQ.out.lt;cases q
  ·go_wp2;go_meet
   exact⟨HMW.out,HRD.out,KB.out,X,Y,Z,KQ.out,by omega,by omega,by omega,by omega⟩
  ·go_wp2;go_meet
   exact⟨HMW.out.set (.inr (by show _<=Q;have:=hB0.out;omega)) _,HRD.out.set (by show b≠Q;omega) (by show _<=Q;have:=hB0.out;omega) _,KB.out.set_ne (by show B0≠Q;omega) _,4096 - Y,Y,Z,by have:=KQ.out.set 0 (.int .i64 (4096 - Y));simpa using this,by omega,by omega,by omega,by omega⟩
 case rest =>
  clear HMW HRD KB KQ x1 x2 y1 y2;obtain⟨mw1,rd1,kb1,X,Y,Z,kq1,x1,x2,y1,y2⟩:=hcut;have HMW:=zh mw1;have HRD:=zh rd1;have KB:=zh kb1;have KQ:=zh kq1;clear mw1 rd1 kb1 kq1;go_upto_if 23 with (go_at_call 20;refine(zC8 W _ b _ _ HRD.out (zA5 (by omega) (by omega))).mono ?_;rintro e w2 ⟨⟨q,rfl⟩,hm,hr⟩;replace HMW:=zh (HMW.out.tr (Mw.ofMo hm));replace KB:=zh (hm.bk KB.out (by simp;omega));replace KQ:=zh (hm.bk KQ.out (by simp;omega));replace HRD:=zh hr;clear hm hr)
  go_cut [] from 6 (fun wc=>WBox W w b B0 Q m 20000 wc)
  case first =>
   cases q
   ·go_wp2;go_meet
    exact⟨HMW.out,HRD.out.le (by omega),KB.out,X,Y,Z,KQ.out,by omega,by omega,by omega,by omega⟩
   ·go_wp2_with (first
     | (go_at_call 49;refine(zA3 W _ b _ _ (HR3.out.ext ((zr _).alloc _)) (zA5 (by omega) (by omega))).mono ?_;rintro e w4 ⟨k4,rfl,hk4,hm4,hr4⟩;obtain⟨z,hz1,hz2⟩:=zCn (zs:=[-1,4096]) hm4 hbw3 hk4 rfl (by simp);have hkb4:=hk4.lt (by omega);obtain⟨hk41,hk42⟩:=hkb4;have hzb : -10000<=z/\z<=10000:=(by simp only[List.mem_cons,List.not_mem_nil,or_false] at hz2;omega);have HM4:=zh ((HM3.out.tr (Mw.ofExt ((zr _).alloc _))).tr (Mw.ofMo hm4));have KB4:=zh (hm4.bk (KB3.out.ext ((zr _).alloc _)) (by simp;omega));have KQ4:=hm4.bk (KQ3.out.ext ((zr _).alloc _)) (by simp;omega);have r0:=KQ4.cell (j:=0) rfl;have rf:=KQ4.fz;have rl:=KQ4.lt;have KQ4:=zh KQ4;have HR4:=zh hr4;clear hk4 hm4 hr4)
     | (go_at_call 49;refine(zA3 W _ b _ _ HRD.out (zA5 (by omega) (by omega))).mono ?_;rintro e w3 ⟨k,rfl,hk,hm,hr⟩;have HM3:=zh (HMW.out.tr (Mw.ofMo hm));have KB3:=zh (hm.bk KB.out (by simp;omega));have KQ3:=hm.bk KQ.out (by simp;omega);obtain⟨q0,q1⟩:=Bk.k2 KQ3;have qf:=KQ3.fz;have ql:=KQ3.lt;have KQ3:=zh KQ3;have HR3:=zh hr;have hbw3:=hr.lt;clear hk hm hr))
    ·go_meet
     exact⟨HM4.out.set (.inr (by show _<=Q;have:=hB0.out;omega)) _,(HR4.out.le (by omega)).set (by show b≠Q;omega) (by show _<=Q;have:=hB0.out;omega) _,KB4.out.set_ne (by show B0≠Q;omega) _,z,Y,Z,by have:=KQ4.out.set 0 (.int .i64 z);simpa using this,by omega,by omega,by omega,by omega⟩
    ·go_meet
     exact⟨HM3.out.set (.inr (by show _<=Q;have:=hB0.out;omega)) _,(HR3.out.le (by omega)).set (by show b≠Q;omega) (by show _<=Q;have:=hB0.out;omega) _,KB3.out.set_ne (by show B0≠Q;omega) _,X,0,Z,by have:=KQ3.out.set 1 (.int .i64 0);simpa using this,by omega,by omega,by omega,by omega⟩
    ·go_meet
     exact⟨HM3.out.set (.inr (by show _<=Q;have:=hB0.out;omega)) _,(HR3.out.le (by omega)).set (by show b≠Q;omega) (by show _<=Q;have:=hB0.out;omega) _,KB3.out.set_ne (by show B0≠Q;omega) _,X,4096 - X+1,Z,by have:=KQ3.out.set 1 (.int .i64 (4096 - X+1));simpa using this,by omega,by omega,by omega,by omega⟩
  case rest =>
   clear HMW HRD KB KQ x1 x2 y1 y2;obtain⟨mw1,rd1,kb1,X,Y,Z,kq1,x1,x2,y1,y2⟩:=hcut;obtain⟨b0,b1,b2⟩:=Bk.k3 kb1;have bf:=kb1.fz;have bl:=kb1.lt;obtain⟨q0,q1,q2⟩:=Bk.k3 kq1;have HMW:=zh mw1;have HRD:=zh rd1;clear mw1 rd1 kb1 kq1;go_wp2;refine bodyPost_ret (v:=.agg #[.int .i64 X,.int .i64 Y,.bool Z]) (by simp[results,Tryz.results123,go_sem,b0,b1,b2]) rfl ⟨⟨X,Y,Z⟩,rfl,zA5 (by show _<=X;omega) (by show X<=_;omega),zA5 (by show _<=Y;omega) (by show Y<=_;omega),?_,?_⟩
   ·exact((HMW.out.set (.inr (by show _<=B0;have:=hB0.out;omega)) _).set (.inr (by show _<=B0;have:=hB0.out;omega)) _).set (.inr (by show _<=B0;have:=hB0.out;omega)) _
   ·exact((HRD.out.set (by show b≠B0;omega) (by show _<=B0;have:=hB0.out;omega) _).set (by show b≠B0;omega) (by show _<=B0;have:=hB0.out;omega) _).set (by show b≠B0;omega) (by show _<=B0;have:=hB0.out;omega) _
theorem zI2(xs:Nat)(hl:xs<=1048576)(u:World):(Instr.makeSlice 45 (.int .i64 xs) (.int .i64 xs)).run Tryz.prog u =
   .ok (.slice (some ⟨u.heap.size,0,none⟩) xs xs) (u.alloc (.cells (madeCells #[.int .i64 0,.int .i64 0,.bool false] (xs*3)) 71)):=by
 obtain⟨i1,hi1,hq0,hq1,hq2⟩:=info_parts zI1;have h:=run_make (P:=Tryz.prog) u 45 71 i1 (.agg #[.int .i64 0,.int .i64 0,.bool false]) Tryz.underlying45 hi1 hq0 .i64 .i64 xs xs (by omega) (Int.le_refl _) (by rw[hq2];omega) (by omega)
 simpa [hq1,Value.cells] using h
theorem zD0(W w:World)(b m:Nat)(most n:Int)(h:Rd W w b (m+60))(hm1:0<=most)(hm2:most<=4)(hn1 : -1000000<=n)(hn2:n<=1000000) :
  Calls Tryz.prog 85 #[.pointer (some ⟨b,0,none⟩),.int .i64 most,.int .i64 n] w fun e w' => ∃ v xs,e = .returned v/\Os (α:=Window) w.heap.size w' v xs/\xs.length<=20/\Mw [b] w w'/\Rd W w' b m:=by
 have H:=zh h;have hbl:=h.lt;have hbW:=h.1;have hWw:=h.2.1.sz;clear h;have hmk:∀ u:World,(Instr.makeSlice 45 (.int .i64 13) (.int .i64 13)).run Tryz.prog u = .ok (.slice (some ⟨u.heap.size,0,none⟩) 13 13) (u.alloc (.cells (madeCells #[.int .i64 0,.int .i64 0,.bool false] 39) 71)):=zI2 13 (by omega)
 go_enter Tryz.func85,Tryz.ntmps85;go_upto_region 2 with (fail)
 refine zA2 (fun W0=>Ext w W0/\Oo (α:=Window) 71 w.heap.size W0 (.slice (some ⟨w.heap.size,0,none⟩) 0 0) []) ⟨(zr _).alloc _,Oo.lit0 _ _⟩ ?_
 rintro W0 ⟨e0,ho0⟩;have HRD:=zh (H.out.ext e0);have HMW:Hid (Mw [b] w W0):=zh (Mw.ofExt e0);have HO:=zh ho0;clear e0 H ho0;go_upto_block 0 with (go_at_call 49;refine(zA3 W _ b _ _ HRD.out (zA5 (by omega) (by omega))).mono ?_;rintro e w1 ⟨k,rfl,hk,hm,hr⟩;have hkb:=hk.lt (by omega);replace HMW:=zh (HMW.out.tr (Mw.ofMo hm));replace HO:=zh (HO.out.mo hm (by simp;omega));replace HRD:=zh hr;clear hk hm hr)
 obtain⟨hk1,hk2⟩:=hkb;obtain⟨K,rfl⟩:∃ K:Nat,k=K:=⟨k.toNat,by omega⟩
 have hK:K<=4:=by omega
 go_cut [7] from 9 (fun v7 wc => ∃ (ao:Option Addr) (no co:Nat) (xs:List Window),v7 = .slice ao no co/\Oo 71 w.heap.size wc (.slice ao no co) xs/\xs.length<=4/\Mw [b] w wc/\Rd W wc b (m+20))
 case first =>
  go_wp2_with fail
  go_loopw [7,8] (fun v7 i wr => ∃ (j:Nat) (ao:Option Addr) (no co:Nat) (xs:List Window),j<=K/\i = .int .i64 (K - j:Int)/\v7 = .slice ao no co/\Oo 71 w.heap.size wr (.slice ao no co) xs/\xs.length=j/\Mw [b] w wr/\Rd W wr b (m+59 - 8*j)) (fun _ i _=>(intOf i).toNat)
  case atStart=>exact⟨0,_,_,_,[],Nat.zero_le _,by simp,rfl,HO.out,rfl,HMW.out,HRD.out⟩
  case round =>
   obtain⟨j,ao,no,co,xs,hj,rfl,rfl,hoo,hxl,hmw,hrd⟩:=hrel;have HMW2:=zh hmw;have HO2:=zh hoo;have HRD2:Hid (Rd W wr b ((m+51 - 8*j)+8)):=zh (hrd.le (by omega))
   clear hmw hoo hrd;by_cases hjt:j < K
   ·go_wp2_with (first
     | (go_at_call 123;refine(zDe W _ b _ _ HRD2.out (by omega) (by omega)).mono ?_;rintro e w2 ⟨x,rfl,rx,ry,hm,hr⟩;have HM2:=zh (HMW2.out.tr hm);have HO3:=zh (HO2.out.ob.of (w':=w2) (fun k h1 h2=>hm.2.2 k (by omega) (by simp;omega)));have hs2:=hm.size;have HR2:=zh hr;clear hm hr)
     | (at_builtin;refine zBa (α:=Window) rfl _ _ 45 rfl 71 Tryz.underlying45 zFg (v:=.slice ao no co) (ys:=[x]) rfl (HO3.out.of (fun k _ h=>((zr w2).alloc _).block k (by omega))) (by have:=HMW2.out.size;omega) (by simp;omega) rfl rfl (Row.lit1 (cs:=[_,_,_]) ⟨rfl,rx,ry,rfl⟩) (by simp) (Own.nil _ _) (by omega) ?_;intro v5 w5 hO5 hg5;have hrow5:=HO3.out.own;have HG5:=zh ((HM2.out.tr (Mw.ofExt ((zr _).alloc _))).trF hg5 (fun x hx => .inr (hrow5 x (Option.mem_toList.1 hx)).1));have HR5:=zh ((HR2.out.ext ((zr _).alloc _)).mw hg5 (fun hm=>by have:=hrow5 _ (Option.mem_toList.1 hm);omega) (fun x hx=>by have:=hrow5 x (Option.mem_toList.1 hx);omega));have HO5:=zh hO5;obtain⟨p5,k5,q5,rfl⟩:=hO5.sh;clear hO5 hg5))
    go_roundw
    case rel=>exact⟨j+1,_,_,_,_,by omega,congrArg _ (by omega),rfl,HO5.out,by simp[hxl],HG5.out,HR5.out.le (by omega)⟩
    case measure=>simp[intOf];omega
   ·obtain rfl:j=K:=by omega
    go_wp2;go_meet
    exact⟨_,_,_,_,rfl,HO2.out,by omega,HMW2.out,HRD2.out.le (by omega)⟩
 case rest =>
  clear HMW HO HRD;obtain⟨ao,no,co,xs,rfl,hoo,hxl,hmw,hrd⟩:=hcut;have HMW:=zh hmw;have HO:=zh hoo;have HRD:=zh hrd;have hsc:=hmw.size;clear hmw hoo hrd;have hw20:=Nat.le_trans hWw hsc;go_upto_if 25 with (go_at_call 20;refine(zC8 W _ b _ _ HRD.out (zA5 (by omega) (by omega))).mono ?_;rintro e w2 ⟨⟨q,rfl⟩,hm,hr⟩;have hs2:=(Mw.ofMo hm).size;replace HMW:=zh (HMW.out.tr (Mw.ofMo hm));replace HO:=zh (HO.out.mo hm (by simp;omega));replace HRD:=zh hr;clear hm hr)
  go_cut [7] from 9 (fun v7 wc => ∃ (ao:Option Addr) (no co:Nat) (xs:List Window),v7 = .slice ao no co/\Os w.heap.size wc (.slice ao no co) xs/\xs.length<=20/\Mw [b] w wc/\Rd W wc b m)
  case first =>
   cases q
   ·go_wp2;go_meet
    exact⟨_,_,_,xs,rfl,HO.out.os,by omega,HMW.out,HRD.out.le (by omega)⟩
   ·go_upto_if 28 with (go_at_call 49;refine(zA3 W _ b _ _ HRD.out (zA5 (by omega) (by omega))).mono ?_;rintro e w3 ⟨k,rfl,hk,hm,hr⟩;have hkb:=hk.lt (by omega);have hs3:=(Mw.ofMo hm).size;replace HMW:=zh (HMW.out.tr (Mw.ofMo hm));replace HO:=zh (HO.out.mo hm (by simp;omega));replace HRD:=zh hr;clear hk hm hr)
    obtain rfl|rfl:k=0\/k=1:=by omega
    ·clear hkb;have HR4:Hid (Rd W w3 b (m+10+8)):=HRD
     go_wp2_with (first
      | (go_at_call 123;refine(zDe W _ b _ _ HR4.out (by omega) (by omega)).mono ?_;rintro e w4 ⟨x,rfl,rx,ry,hm,hr⟩;have HM4:=zh (HMW.out.tr hm);have HO4:=zh (HO.out.ob.of (w':=w4) (fun k h1 h2=>hm.2.2 k (by omega) (by simp;omega)));have hs4:=hm.size;have HR5:=zh hr;clear hm hr)
      | (at_builtin;refine zBa (α:=Window) rfl _ _ 45 rfl 71 Tryz.underlying45 zFg (v:=.slice ao no co) (ys:=[x]) rfl (HO4.out.of (fun k _ h=>((zr w4).alloc _).block k (by omega))) (by omega) (by simp;omega) rfl rfl (Row.lit1 (cs:=[_,_,_]) ⟨rfl,rx,ry,rfl⟩) (by simp) (Own.nil _ _) (by omega) ?_;intro v5 w5 hO5 hg5;have hrow5:=HO4.out.own;have HG5:=zh ((HM4.out.tr (Mw.ofExt ((zr _).alloc _))).trF hg5 (fun x hx => .inr (hrow5 x (Option.mem_toList.1 hx)).1));have HR6:=zh ((HR5.out.ext ((zr _).alloc _)).mw hg5 (fun hm=>by have:=hrow5 _ (Option.mem_toList.1 hm);omega) (fun x hx=>by have:=hrow5 x (Option.mem_toList.1 hx);omega));have HO5:=zh hO5;obtain⟨p5,k5,q5,rfl⟩:=HO5.sh;clear hO5 hg5))
     go_meet
     exact⟨_,_,_,xs ++ [x],rfl,HO5.out.os,by simp;omega,HG5.out,HR6.out.le (by omega)⟩
    ·clear hkb;have hms:Hid (Os w.heap.size (w3.alloc (.cells (madeCells #[.int .i64 0,.int .i64 0,.bool false] 39) 71)) (.slice (some ⟨w3.heap.size,0,none⟩) 13 13) (List.replicate 13 (⟨0,0,false⟩:Window))) :=
      zh ((Os.made w3 13 71 #[.int .i64 0,.int .i64 0,.bool false] (⟨0,0,false⟩:Window) rfl rfl (by omega)).mono (by omega))
     go_wp2;go_meet
     exact⟨_,_,_,_,rfl,hms.out,by simp,HMW.out.tr (Mw.ofExt ((zr _).alloc _)),(HRD.out.ext ((zr _).alloc _)).le (by omega)⟩
  case rest =>
   clear HMW HO HRD;obtain⟨ao,no,co,xs,rfl,hoo,hxl,hmw,hrd⟩:=hcut;have HMW:=zh hmw;have HO:=zh hoo;have HRD:=zh hrd;clear hmw hoo hrd;go_wp2;go_ret;exact⟨_,xs,rfl,HO.out,hxl,HMW.out,HRD.out⟩
structure Ab where
 v:List Bool
instance instGTAb:GT Ab where
 default:=⟨[]⟩
 sz:=1
 enc w cs x F:=∃ val,cs = [val]/\Oa 4 0 w val x.v []/\F=val.ownBlock.toList
 pos:=Nat.one_pos
 len:=by rintro w cs x F ⟨v,rfl,_⟩;rfl
 one:=by
  rintro w cs x F ⟨v,rfl,h,_⟩ u hu;obtain⟨a,c,rfl,_⟩:=h.form;simp at hu;subst hu;rfl
 inh:=by rintro w cs x F ⟨v,rfl,h,rfl⟩ b hb;exact h.lt b (Option.mem_toList.1 hb)
 keep:=by
  rintro w w' cs x F ⟨v,rfl,h,rfl⟩ hk;exact⟨v,rfl,h.keep (fun k hv=>hk k (Option.mem_toList.2 hv)) (fun k hk=>by cases hk),rfl⟩
 tot x:=x.v.length
 ct _:=1
 mkE x _:=x
 mkE_ct _ _:=rfl
 mkE_idem _ _:=rfl
 zc:=[.slice none 0 0]
 zero w:=⟨_,rfl,Oa.nil _ _ _,rfl⟩
theorem Oa.slS{w:World}{e:TypeId}{L:Nat}{v:Value}{xs:List Bool}(h:Oa e L w v xs []):∃ F,Sl w v xs F/\∀ k∈F,v.ownBlock=some k:=by
 rcases h with ⟨rfl,rfl,_⟩ | ⟨g,cap,cur,rfl,hL,hg,hl,hc,hs,hr,hn⟩
 ·exact⟨[],⟨none,0,rfl,Nat.le_refl _,Nat.zero_le _,.inl ⟨rfl,rfl⟩⟩,fun k hk=>by cases hk⟩
 ·by_cases hx:xs = []
  ·subst hx;exact⟨[],⟨_,cap,rfl,hl,hc,.inl ⟨rfl,rfl⟩⟩,fun k hk=>by cases hk⟩
  ·exact⟨[g],⟨_,cap,rfl,hl,hc,.inr ⟨hx,g,0,[],rfl,rfl,hr⟩⟩,fun k hk=>by rw[List.mem_singleton] at hk;subst hk;rfl⟩
theorem Row.abs{w:World}{b:Nat}{xs:List Ab}:∀ {o:Nat} {F:List Nat},Row w b o xs F->∃ F',Row w b o (xs.map Ab.v) F'/\∀ k∈F',k∈F:=by
 induction xs with
 | nil=>intro o F h;exact⟨[],rfl,fun k hk=>by cases hk⟩
 | cons x xs ih =>
  intro o F h;obtain⟨cs,F1,F2,⟨v,rfl,hv,rfl⟩,ha,rfl,hr⟩:=h;obtain⟨G,h1,h2⟩:=ih hr;obtain⟨G1,h3,h4⟩:=hv.slS;refine⟨G1++G,⟨[v],G1,G,⟨v,rfl,h3⟩,ha,rfl,h1⟩,fun k hk=>?_⟩
  rcases List.mem_append.1 hk with hk|hk
  ·exact List.mem_append_left _ (Option.mem_toList.2 (h4 k hk))
  ·exact List.mem_append_right _ (h2 k hk)
end Sk
