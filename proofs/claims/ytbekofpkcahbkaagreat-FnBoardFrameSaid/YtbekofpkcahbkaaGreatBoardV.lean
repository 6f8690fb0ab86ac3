/- Contracts of functions of the given program. -/
import Derived.Test.YtbekofpkcahbkaaGreatMachV
import Derived.Test.YtbekofpkcahbkaaGreatOwnP
import Derived.Test.YtbekofpkcahbkaaGreatSetupS
namespace Sk
open Go Go.Proofs Go.RowKit
set_option maxHeartbeats 2000000
set_option maxRecDepth 100000
set_option linter.unusedVariables false
set_option linter.unusedSimpArgs false
def zJ2(b:Board)(x y z:Int):Bool :=
 zA8 x 0 (b.Boxes.length - 1) && (match b.Boxes[x.toNat]? with
  | some m=>zA8 y 0 (m.Cores.length - 1) && (match m.Cores[y.toNat]? with|some c=>zA8 z 0 (c.Cells.length - 1)|none=>false)
  | none=>false)
theorem M.hc0{b:Board}{x y z:Int}(h:zA8 x 0 (b.Boxes.length - 1)=false):zJ2 b x y z=false:=zAt h
theorem M.hc1{b:Board}{X:Nat}{y z:Int}{m:Machine}(h:zA8 X 0 (b.Boxes.length - 1)=true)(hm:b.Boxes[X]? = some m)(h2:zA8 y 0 (m.Cores.length - 1)=false):zJ2 b X y z=false:=by
 unfold zJ2;rw[h,Int.toNat_natCast,hm];simp only[h2];rfl
theorem M.hc2{b:Board}{X Y:Nat}{z:Int}{m:Machine}{c:Core}(h:zA8 X 0 (b.Boxes.length - 1)=true)(hm:b.Boxes[X]? = some m)(h2:zA8 Y 0 (m.Cores.length - 1)=true)(hc:m.Cores[Y]? = some c):zJ2 b X Y z=zA8 z 0 (c.Cells.length - 1):=by
 unfold zJ2;rw[h,Int.toNat_natCast,hm];simp only[h2,Int.toNat_natCast,hc];rfl
def zC3(v w:Wire):Bool:=v.To == w.To && (v.ToPart == w.ToPart && v.ToCell == w.ToCell)
structure zGd (b:Board):Prop where
 nb:b.Boxes.length<=3
 nw:b.Wires.length<=6
 mv:∀ m∈b.Boxes,zF5 m=true
 ok:∀ (k:Nat) (w:Wire),b.Wires[k]? = some w->zJ2 b w.From w.FromPart w.FromCell=true/\zJ2 b w.To w.ToPart w.ToCell=true/\(b.Wires.take k).any (fun v=>zC3 v w)=false
noncomputable def zE2(b:Board):Bool:=Bo (zGd b)
theorem zB2{b:Board}:zE2 b=true ↔ zGd b:=Bo.iff
theorem Rs.intsForm{x:Int}{n:Nat}(h1:0<=x)(h2:x<=n - 1):∃ X:Nat,x=X/\X < n:=⟨x.toNat,by omega,by omega⟩
theorem zBb(v:Value)(b:Board)(x y z:Int)(w:World)(h:Rv w v b) :
  Calls Tryz.prog 32 #[v,.int .i64 x,.int .i64 y,.int .i64 z] w fun e w'=>e = .returned (.bool (zJ2 b x y z))/\Ext w w':=by
 obtain⟨a0,c0,a1,c1,rfl,h0,l0,h1,l1⟩:=h.openBoard;clear h;have hn0:0<=(b.Boxes.length:Int):=by omega
 have e0:=zh ((zr w).alloc (.cells #[.slice a0 b.Boxes.length c0,.slice a1 b.Wires.length c1] 26));cases g1:zA8 x 0 (b.Boxes.length - 1)
 ·have HF:=zh (M.hc0 (y:=y) (z:=z) g1);go_enter Tryz.func32,Tryz.ntmps32;go_wp2_with (go_at_call 36;refine(zAi _ _ _ _).mono ?_;rintro e w' ⟨rfl,rfl⟩;first|rw[g1]|rw[g2]|skip)
  go_ret;exact⟨by rw[HF.out];first|done|rfl,e0.out⟩
 obtain⟨i1,i2⟩:=zA5.1 g1;obtain⟨X,rfl,hX⟩:=Rs.intsForm i1 i2;obtain⟨bm,om,m,a2,d2,a3,d3,a4,d4,a5,d5,a6,d6,a7,d7,rfl,hbm,hm,q0,q1,q2,q3,q4,q5,q6,rt,r0,k0,r1,k1,r2,k2,r3,k3,r4,k4,r5,k5,hvm⟩:=h0.out.atMachine X hX;clear q0 q1 q2 q3 q5 q6;have hn1:0<=(m.Cores.length:Int):=by omega
 cases g2:zA8 y 0 (m.Cores.length - 1)
 ·have HF:=zh (M.hc1 (z:=z) g1 hm.out g2);go_enter Tryz.func32,Tryz.ntmps32;go_wp2_with (go_at_call 36;refine(zAi _ _ _ _).mono ?_;rintro e w' ⟨rfl,rfl⟩;first|rw[g1]|rw[g2]|skip)
  go_ret;exact⟨by rw[HF.out];first|done|rfl,e0.out⟩
 obtain⟨i3,i4⟩:=zA5.1 g2;obtain⟨Y,rfl,hY⟩:=Rs.intsForm i3 i4;obtain⟨bc,oc,c,a8,d8,rfl,hbc,hc,s0,s1,s2,rr,rc,kc,hvc⟩:=r4.out.atCore Y hY;have hn2:0<=(c.Cells.length:Int):=by omega
 have HF:=zh (M.hc2 (z:=z) g1 hm.out g2 hc.out);go_enter Tryz.func32,Tryz.ntmps32;go_wp2_with (go_at_call 36;refine(zAi _ _ _ _).mono ?_;rintro e w' ⟨rfl,rfl⟩;first|rw[g1]|rw[g2]|skip)
 go_ret;exact⟨by rw[HF.out];first|done|rfl,e0.out⟩
theorem zCu(v:Value)(b:Board)(x y z:Int)(w:World)(h:Rv w v b) :
  Calls Tryz.prog 27 #[v,.int .i64 x,.int .i64 y,.int .i64 z] w fun e w'=>e = .returned (.bool (zJ2 b x y z))/\Ext w w':=by
 obtain⟨a0,c0,a1,c1,rfl,h0,l0,h1,l1⟩:=h.openBoard;clear h;have hn0:0<=(b.Boxes.length:Int):=by omega
 have e0:=zh ((zr w).alloc (.cells #[.slice a0 b.Boxes.length c0,.slice a1 b.Wires.length c1] 26));cases g1:zA8 x 0 (b.Boxes.length - 1)
 ·have HF:=zh (M.hc0 (y:=y) (z:=z) g1);go_enter Tryz.func27,Tryz.ntmps27;go_wp2_with (go_at_call 39;refine(zAb _ _ _ _).mono ?_;rintro e w' ⟨rfl,rfl⟩;first|rw[g1]|rw[g2]|skip)
  go_ret;exact⟨by rw[HF.out];first|done|rfl,e0.out⟩
 obtain⟨i1,i2⟩:=zA5.1 g1;obtain⟨X,rfl,hX⟩:=Rs.intsForm i1 i2;obtain⟨bm,om,m,a2,d2,a3,d3,a4,d4,a5,d5,a6,d6,a7,d7,rfl,hbm,hm,q0,q1,q2,q3,q4,q5,q6,rt,r0,k0,r1,k1,r2,k2,r3,k3,r4,k4,r5,k5,hvm⟩:=h0.out.atMachine X hX;clear q0 q1 q2 q3 q5 q6;have hn1:0<=(m.Cores.length:Int):=by omega
 cases g2:zA8 y 0 (m.Cores.length - 1)
 ·have HF:=zh (M.hc1 (z:=z) g1 hm.out g2);go_enter Tryz.func27,Tryz.ntmps27;go_wp2_with (go_at_call 39;refine(zAb _ _ _ _).mono ?_;rintro e w' ⟨rfl,rfl⟩;first|rw[g1]|rw[g2]|skip)
  go_ret;exact⟨by rw[HF.out];first|done|rfl,e0.out⟩
 obtain⟨i3,i4⟩:=zA5.1 g2;obtain⟨Y,rfl,hY⟩:=Rs.intsForm i3 i4;obtain⟨bc,oc,c,a8,d8,rfl,hbc,hc,s0,s1,s2,rr,rc,kc,hvc⟩:=r4.out.atCore Y hY;have hn2:0<=(c.Cells.length:Int):=by omega
 have HF:=zh (M.hc2 (z:=z) g1 hm.out g2 hc.out);go_enter Tryz.func27,Tryz.ntmps27;go_wp2_with (go_at_call 39;refine(zAb _ _ _ _).mono ?_;rintro e w' ⟨rfl,rfl⟩;first|rw[g1]|rw[g2]|skip)
 go_ret;exact⟨by rw[HF.out];first|done|rfl,e0.out⟩
theorem zGn(v:Value)(m:Machine)(w:World)(h:Rv w v m) :
  Calls Tryz.prog 30 #[v] w fun e w'=>e = .returned (.bool (!zF5 m))/\Ext w w':=by
 have H:=zh h;obtain⟨a0,c0,a1,c1,a2,c2,a3,c3,a4,c4,a5,c5,rfl,rt,h0,l0,h1,l1,h2,l2,h3,l3,h4,l4,h5,l5⟩:=h.openMachine;clear h;go_enter Tryz.func30,Tryz.ntmps30;go_wp2_with (go_at_call 31;refine(zBx _ m _ (H.out.ext ((zr w).alloc _))).mono ?_;rintro e w' ⟨rfl,he⟩;have HE:=zh he;clear he)
 go_ret;exact⟨rfl,((zr w).alloc _).tr HE.out⟩
theorem zGo(v:Value)(x y:Wire)(b1:Nat)(w:World)(h:Rv w v x)(hb1:b1 < w.heap.size)
  (q3:w.cell? ⟨b1,3,none⟩=some (.int .i64 y.To)) (q4:w.cell? ⟨b1,4,none⟩=some (.int .i64 y.ToPart)) (q5:w.cell? ⟨b1,5,none⟩=some (.int .i64 y.ToCell)) :
  Calls Tryz.prog 34 #[v,.pointer (some ⟨b1,0,none⟩)] w fun e w'=>e = .returned (.bool (zC3 x y))/\Ext w w':=by
 obtain⟨rfl,hr0,hr1,hr2,hr3,hr4,hr5⟩:=h.openWire;clear h;have e0:=zh ((zr w).alloc (.cells #[.int .i64 x.From,.int .i64 x.FromPart,.int .i64 x.FromCell,.int .i64 x.To,.int .i64 x.ToPart,.int .i64 x.ToCell] 33));cases g1:(x.To == y.To)
 ·have HF:Hid (zC3 x y=false):=zh (zAt g1);go_enter Tryz.func34,Tryz.ntmps34;go_wp2;go_ret;exact⟨by rw[HF.out];first|done|rfl,e0.out⟩
 cases g2:(x.ToPart == y.ToPart)
 ·have HF:Hid (zC3 x y=false):=zh ((zAm g1).trans (zAt g2));go_enter Tryz.func34,Tryz.ntmps34;go_wp2;go_ret;exact⟨by rw[HF.out];first|done|rfl,e0.out⟩
 have HF:Hid (zC3 x y=(x.ToCell == y.ToCell)):=zh ((zAm g1).trans (zAm g2));go_enter Tryz.func34,Tryz.ntmps34;go_wp2;go_ret;exact⟨by rw[HF.out];first|done|rfl,e0.out⟩
theorem zB6(v:Value)(b:Board)(w:World)(h:Rv w v b) :
  Calls Tryz.prog 12 #[v] w fun e w'=>e = .returned (.bool (zE2 b))/\Ext w w':=by
 have H:=zh h;obtain⟨a0,c0,a1,c1,rfl,h0,l0,h1,l1⟩:=h.openBoard;clear h;by_cases n3:b.Boxes.length<=3
 rotate_left
 ·have HF:Hid (zE2 b=false):=zh (Bo.f fun h=>n3 h.nb)
  have n3':decide ((3:Int) < (b.Boxes.length:Int))=true:=decide_eq_true (by omega)
  have e0:=zh ((zr w).alloc (.cells #[.slice a0 b.Boxes.length c0,.slice a1 b.Wires.length c1] 26));clear n3;go_enter Tryz.func12,Tryz.ntmps12;go_wp2;go_ret;exact⟨zA2 HF.out.symm,e0.out⟩
 have n3':decide ((3:Int) < (b.Boxes.length:Int))=false:=decide_eq_false (by omega)
 by_cases n6:b.Wires.length<=6
 rotate_left
 ·have HF:Hid (zE2 b=false):=zh (Bo.f fun h=>n6 h.nw)
  have n6':decide ((6:Int) < (b.Wires.length:Int))=true:=decide_eq_true (by omega)
  have e0:=zh ((zr w).alloc (.cells #[.slice a0 b.Boxes.length c0,.slice a1 b.Wires.length c1] 26));clear n6;go_enter Tryz.func12,Tryz.ntmps12;go_wp2;go_ret;exact⟨zA2 HF.out.symm,e0.out⟩
 have n6':decide ((6:Int) < (b.Wires.length:Int))=false:=decide_eq_false (by omega)
 have HX:=fun(u:World) (he:Ext w u)=>zLt 30 #[] (fun m => !zF5 m) _ b.Boxes u (h0.out.ext he) (zCs Tryz.func30 (by kernel_rfl) (by kernel_rfl)) (fun w1 v x _ _ hv=>zGn v x w1 hv)
 replace HX:=zh HX;go_enter Tryz.func12,Tryz.ntmps12;go_upto_region 1 with (fail)
 refine zA1 (fun W=>Ext w W/\Bk W w.heap.size [.slice a0 b.Boxes.length c0,.slice a1 b.Wires.length c1] 26) ⟨(zr _).alloc _,Bk.new _ _ _⟩ ?_
 rintro W ⟨e1,kA⟩;have HE0:=zh e1;have KA:=zh kA;obtain⟨d0,d1⟩:=Bk.k2 kA;clear e1 kA;cases g0:b.Boxes.any (fun m => !zF5 m)
 rotate_left
 ·have HF:Hid (zE2 b=false):=zh (Bo.f fun h=>by
   have:b.Boxes.any (fun m => !zF5 m)=false:=List.any_eq_false.2 fun m hm=>by rw[h.mv m hm];simp
   rw[g0] at this;cases this)
  go_wp2_with (go_at_call 29;refine(HX.out _ HE0.out).mono ?_;rintro e w1 ⟨rfl,he⟩;rw[g0];have HE1:=zh (HE0.out.tr he);clear he)
  go_ret;exact⟨zA2 HF.out.symm,HE1.out⟩
 have HMV:Hid (∀ m∈b.Boxes,zF5 m=true):=zh fun m hm=>by have:=List.any_eq_false.1 g0 m hm;simpa using this
 replace g0:=zh g0;go_upto_if 19 with (go_at_call 29;refine(HX.out _ HE0.out).mono ?_;rintro e w1 ⟨rfl,he⟩;rw[g0.out];have HE1:=zh (HE0.out.tr he);have KB:=zh (KA.out.ext he);obtain⟨f0,f1⟩:=Bk.k2 KB.out;have hB:=KB.out.lt;clear he)
 replace H:=zh (H.out.ext HE1.out);replace h1:=zh (h1.out.ext HE1.out);clear d0 d1 KA HX n3' n6' KB;go_wp2;go_loopw [23,3,4] (fun i _ _ wr => ∃ k:Nat,k<=b.Wires.length/\i = .int .i64 k/\(∀ (j:Nat) (x:Wire),j < k->b.Wires[j]? = some x->zJ2 b x.From x.FromPart x.FromCell=true/\zJ2 b x.To x.ToPart x.ToCell=true/\(b.Wires.take j).any (fun v=>zC3 v x)=false)/\Ext w1 wr) (fun i _ _ _=>b.Wires.length - (intOf i).toNat)
 case atStart=>exact⟨0,Nat.zero_le _,rfl,fun j x hj=>absurd hj (Nat.not_lt_zero _),.refl _⟩
 case round =>
  obtain⟨k,hk,rfl,he,hq⟩:=hrel;have HE:=zh he;have HQ:=zh hq;clear he hq;have g0':=(zA0 HQ.out hB).trans f0;have g1':=(zA0 HQ.out hB).trans f1;have hB2:=zl hB HQ.out.sz;by_cases hlt:k < b.Wires.length
  ·obtain⟨bw,ow,x,rfl,hbw,hx,s0,s1,s2,s3,s4,s5,r0,r1,r2,r3,r4,r5,hvx⟩:=h1.out.atWire k hlt;have t0:=(zA0 HQ.out hbw).trans s0;have t1:=(zA0 HQ.out hbw).trans s1;have t2:=(zA0 HQ.out hbw).trans s2;have t3:=(zA0 HQ.out hbw).trans s3;have t4:=(zA0 HQ.out hbw).trans s4;have t5:=(zA0 HQ.out hbw).trans s5;clear s0 s1 s2 s3 s4 s5;have hk6:(k:Int)<=(c1:Int):=by
    obtain⟨_,_,_,e,q1,_⟩:=h1.out;cases e;omega
   have hk7:(0:Int)<=(k:Int):=by omega
   go_upto_region 6 with (fail)
   refine zA1 (fun W=>Ext wr W/\Bk W wr.heap.size [.int .i64 x.From,.int .i64 x.FromPart,.int .i64 x.FromCell,.int .i64 x.To,.int .i64 x.ToPart,.int .i64 x.ToCell] 33) ⟨(zr _).alloc _,Bk.new _ _ _⟩ ?_
   rintro W2 ⟨e3,kP⟩;obtain⟨u0,u1,u2,u3,u4,u5⟩:=Bk.k6 kP;have g0'':=(zA0 e3 hB2).trans g0';have g1'':=(zA0 e3 hB2).trans g1';have hB3:=zl hB2 e3.sz;have HKP:=zh kP;have hP:=kP.lt;have HW:=zh (HQ.out.tr e3);clear e3 kP g0' g1' t0 t1 t2 t3 t4 t5;cases q1:zJ2 b x.From x.FromPart x.FromCell
   ·have HF:Hid (zE2 b=false):=zh (Bo.f fun h=>by have:=(h.ok k x hx.out).1;rw[q1] at this;cases this)
    go_wp2_with (go_at_call 32;refine(zBb _ b x.From x.FromPart x.FromCell _ (H.out.ext HW.out)).mono ?_;rintro e w4 ⟨rfl,he⟩;rw[q1];have HE4:=zh (HW.out.tr he);clear he)
    go_ret;exact⟨zA2 HF.out.symm,HE1.out.tr HE4.out⟩
   cases q2:zJ2 b x.To x.ToPart x.ToCell
   ·have HF:Hid (zE2 b=false):=zh (Bo.f fun h=>by have:=(h.ok k x hx.out).2.1;rw[q2] at this;cases this)
    go_wp2_with (first
     | (go_at_call 32;refine(zBb _ b x.To x.ToPart x.ToCell _ (H.out.ext (HW.out.tr HX4.out))).mono ?_;rintro e w5 ⟨rfl,he⟩;rw[q2];have HE5:=zh (HX4.out.tr he);clear he)
     | (go_at_call 32;refine(zBb _ b x.From x.FromPart x.FromCell _ (H.out.ext HW.out)).mono ?_;rintro e w4 ⟨rfl,he⟩;rw[q1];have HX4:=zh he;have y0:=(zA0 he hB3).trans g0'';have y1:=(zA0 he hB3).trans g1'';have kp:=HKP.out.ext he;have v3:=kp.cell (j:=3) rfl;have v4:=kp.cell (j:=4) rfl;have v5:=kp.cell (j:=5) rfl;clear he kp))
    go_ret;exact⟨zA2 HF.out.symm,HE1.out.tr (HW.out.tr HE5.out)⟩
   have HXW:=fun(u:World) (he:Ext W2 u)=>has_Wire 34 #[.pointer (some ⟨wr.heap.size,0,none⟩)] (fun v=>zC3 v x) _ (b.Wires.take k) u ((h1.out.take hk).ext (HW.out.tr he)) (zCs Tryz.func34 (by kernel_rfl) (by kernel_rfl))
    (fun w1 v z he2 _ hv=>zGo v z x wr.heap.size w1 hv (zl hP (he.tr he2).sz) ((zA0 (he.tr he2) hP).trans u3) ((zA0 (he.tr he2) hP).trans u4) ((zA0 (he.tr he2) hP).trans u5))
   replace HXW:=zh HXW;cases q3:(b.Wires.take k).any (fun v=>zC3 v x)
   ·have Q:=zh (And.intro q1 (And.intro q2 q3))
    go_wp2_with (first
     | (go_at_call 33;refine(HXW.out _ HX5.out).mono ?_;rintro e w6 ⟨rfl,he⟩;rw[q3];have HX6:=zh (HX5.out.tr he);clear he)
     | (go_at_call 32;refine(zBb _ b x.To x.ToPart x.ToCell _ (H.out.ext (HW.out.tr HX4.out))).mono ?_;rintro e w5 ⟨rfl,he⟩;rw[q2];have HX5:=zh (HX4.out.tr he);have z1:=(zA0 HX5.out hB3).trans g1'';clear he)
     | (go_at_call 32;refine(zBb _ b x.From x.FromPart x.FromCell _ (H.out.ext HW.out)).mono ?_;rintro e w4 ⟨rfl,he⟩;rw[q1];have HX4:=zh he;have y0:=(zA0 he hB3).trans g0'';have y1:=(zA0 he hB3).trans g1'';have kp:=HKP.out.ext he;have v3:=kp.cell (j:=3) rfl;have v4:=kp.cell (j:=4) rfl;have v5:=kp.cell (j:=5) rfl;clear he kp))
    clear q1 q2 q3;go_roundw
    case rel=>exact⟨k+1,by omega,by go_num,fun j z hj hz=>by
     by_cases hjk:j < k
     ·exact HE.out j z hjk hz
     ·obtain rfl:j=k:=by omega
      rw[hx.out] at hz;cases hz;exact Q.out,HW.out.tr HX6.out⟩
    case measure=>simp[intOf];omega
   ·have HF:Hid (zE2 b=false):=zh (Bo.f fun h=>by have:=(h.ok k x hx.out).2.2;rw[q3] at this;cases this)
    go_wp2_with (first
     | (go_at_call 33;refine(HXW.out _ HX5.out).mono ?_;rintro e w6 ⟨rfl,he⟩;rw[q3];have HX6:=zh (HX5.out.tr he);clear he)
     | (go_at_call 32;refine(zBb _ b x.To x.ToPart x.ToCell _ (H.out.ext (HW.out.tr HX4.out))).mono ?_;rintro e w5 ⟨rfl,he⟩;rw[q2];have HX5:=zh (HX4.out.tr he);have z1:=(zA0 HX5.out hB3).trans g1'';clear he)
     | (go_at_call 32;refine(zBb _ b x.From x.FromPart x.FromCell _ (H.out.ext HW.out)).mono ?_;rintro e w4 ⟨rfl,he⟩;rw[q1];have HX4:=zh he;have y0:=(zA0 he hB3).trans g0'';have y1:=(zA0 he hB3).trans g1'';have kp:=HKP.out.ext he;have v3:=kp.cell (j:=3) rfl;have v4:=kp.cell (j:=4) rfl;have v5:=kp.cell (j:=5) rfl;clear he kp))
    go_ret;exact⟨zA2 HF.out.symm,HE1.out.tr (HW.out.tr HX6.out)⟩
  ·have HF:Hid (zE2 b=true):=zh (Bo.t ⟨n3,n6,HMV.out,fun j x hx=>HE.out j x (by have:=zA3 hx;omega) hx⟩)
   go_wp2;go_ret;exact⟨zA2 HF.out.symm,HE1.out.tr HQ.out⟩
theorem zAp(v:Value)(b:Board)(w:World)(h:Rv w v b) :
  Calls Tryz.prog 10 #[v] w fun e w'=>e = .returned (.bool (zE2 b))/\Ext w w':=by
 have H:=zh h;obtain⟨a0,c0,a1,c1,rfl,h0,l0,h1,l1⟩:=h.openBoard;clear h;go_enter Tryz.func10,Tryz.ntmps10;go_upto_region 1 with (fail)
 refine zA1 (fun W=>Ext w W/\Bk W w.heap.size [.slice a0 b.Boxes.length c0,.slice a1 b.Wires.length c1] 26) ⟨(zr _).alloc _,Bk.new _ _ _⟩ ?_
 rintro W ⟨e1,kA⟩;have HE0:=zh e1;obtain⟨f0,f1⟩:=Bk.k2 kA;have hB:=kA.lt;replace H:=zh (H.out.ext e1);replace h0:=zh (h0.out.ext e1);replace h1:=zh (h1.out.ext e1);clear e1 kA;go_wp2;go_loopw [3] (fun i wr => ∃ k:Nat,k<=b.Boxes.length/\i = .int .i64 k/\(∀ (j:Nat) (x:Machine),j < k->b.Boxes[j]? = some x->zF5 x=true)/\Ext W wr) (fun i _=>b.Boxes.length - (intOf i).toNat)
 case atStart=>exact⟨0,Nat.zero_le _,rfl,fun j x hj=>absurd hj (Nat.not_lt_zero _),.refl _⟩
 case round =>
  obtain⟨k,hk,rfl,he,hq⟩:=hrel;have HE:=zh he;have HQ:=zh hq;clear he hq;have g0':=(zA0 HQ.out hB).trans f0;have g1':=(zA0 HQ.out hB).trans f1;by_cases hlt:k < b.Boxes.length
  ·obtain⟨bm,om,m,a2,d2,a3,d3,a4,d4,a5,d5,a6,d6,a7,d7,rfl,hbm,hm,q0,q1,q2,q3,q4,q5,q6,rt,r0,k0,r1,k1,r2,k2,r3,k3,r4,k4,r5,k5,hvm⟩:=(h0.out.ext HQ.out).atMachine k hlt;cases g2:zF5 m
   ·have HF:Hid (zE2 b=false):=zh (Bo.f fun h=>by have:=h.mv m (List.mem_of_getElem? hm.out);rw[g2] at this;cases this)
    go_wp2_with (go_at_call 26;refine(zAh _ m _ hvm.out).mono ?_;rintro e w4 ⟨rfl,he⟩;rw[g2];have HE4:=zh he;clear he)
    go_ret;exact⟨zA2 HF.out.symm,HE0.out.tr (HQ.out.tr HE4.out)⟩
   ·have G2:=zh g2;go_wp2_with (go_at_call 26;refine(zAh _ m _ hvm.out).mono ?_;rintro e w4 ⟨rfl,he⟩;rw[G2.out];have HE4:=zh (HQ.out.tr he);clear he)
    clear g2;go_roundw
    case rel=>exact⟨k+1,by omega,by go_num,fun j z hj hz=>by
     by_cases hjk:j < k
     ·exact HE.out j z hjk hz
     ·obtain rfl:j=k:=by omega
      rw[hm.out] at hz;cases hz;exact G2.out,HE4.out⟩
    case measure=>simp[intOf];omega
  ·have HMV:Hid (∀ m∈b.Boxes,zF5 m=true):=zh fun m hm=>by
    obtain⟨j,hj⟩:=List.getElem?_of_mem hm;exact HE.out j m (by have:=zA3 hj;omega) hj
   have hB2:=zl hB HQ.out.sz;replace H:=zh (H.out.ext HQ.out);replace h1:=zh (h1.out.ext HQ.out);replace HE0:=zh (HE0.out.tr HQ.out);clear HE HQ f0 f1 h0 hB;obtain⟨wa,rfl⟩:∃ wa,wa=wr:=⟨_,rfl⟩;go_upto_block 2 with (fail)
   go_wp2_with fail
   go_loopw [4,5,6,7] (fun i _ _ _ wr => ∃ k:Nat,k<=b.Wires.length/\i = .int .i64 k/\(∀ (j:Nat) (x:Wire),j < k->b.Wires[j]? = some x->zJ2 b x.From x.FromPart x.FromCell=true/\zJ2 b x.To x.ToPart x.ToCell=true/\(b.Wires.take j).any (fun v=>zC3 v x)=false)/\Ext wa wr) (fun i _ _ _ _=>b.Wires.length - (intOf i).toNat)
   case atStart=>exact⟨0,Nat.zero_le _,rfl,fun j x hj=>absurd hj (Nat.not_lt_zero _),.refl _⟩
   case round =>
    obtain⟨n,hn,rfl,he,hq⟩:=hrel;have HE:=zh he;have HQ:=zh hq;clear he hq;have p0:=(zA0 HQ.out hB2).trans g0';have p1:=(zA0 HQ.out hB2).trans g1';have hB3:=zl hB2 HQ.out.sz;by_cases hnt:n < b.Wires.length
    ·obtain⟨bw,ow,x,rfl,hbw,hx,s0,s1,s2,s3,s4,s5,r0,r1,r2,r3,r4,r5,hvx⟩:=(h1.out.ext HQ.out).atWire n hnt;go_upto_region 10 with (fail)
     refine zA1 (fun W=>Ext wr W/\Bk W wr.heap.size [.int .i64 x.From,.int .i64 x.FromPart,.int .i64 x.FromCell,.int .i64 x.To,.int .i64 x.ToPart,.int .i64 x.ToCell] 33) ⟨(zr _).alloc _,Bk.new _ _ _⟩ ?_
     rintro W2 ⟨e3,kP⟩;obtain⟨u0,u1,u2,u3,u4,u5⟩:=Bk.k6 kP;have m0:=(zA0 e3 hB3).trans p0;have m1:=(zA0 e3 hB3).trans p1;have hB4:=zl hB3 e3.sz;have HKP:=zh kP;have hP:=kP.lt;have HW:=zh (HQ.out.tr e3);clear e3 kP p0 p1 s0 s1 s2 s3 s4 s5;cases q1:zJ2 b x.From x.FromPart x.FromCell
     ·have HF:Hid (zE2 b=false):=zh (Bo.f fun h=>by have:=(h.ok n x hx.out).1;rw[q1] at this;cases this)
      go_wp2_with (go_at_call 27;refine(zCu _ b x.From x.FromPart x.FromCell _ (H.out.ext HW.out)).mono ?_;rintro e w4 ⟨rfl,he⟩;rw[q1];have HE4:=zh (HW.out.tr he);clear he)
      go_ret;exact⟨zA2 HF.out.symm,HE0.out.tr HE4.out⟩
     cases q2:zJ2 b x.To x.ToPart x.ToCell
     ·have HF:Hid (zE2 b=false):=zh (Bo.f fun h=>by have:=(h.ok n x hx.out).2.1;rw[q2] at this;cases this)
      go_wp2_with (first
       | (go_at_call 27;refine(zCu _ b x.To x.ToPart x.ToCell _ (H.out.ext (HW.out.tr HX4.out))).mono ?_;rintro e w5 ⟨rfl,he⟩;rw[q2];have HE5:=zh (HX4.out.tr he);clear he)
       | (go_at_call 27;refine(zCu _ b x.From x.FromPart x.FromCell _ (H.out.ext HW.out)).mono ?_;rintro e w4 ⟨rfl,he⟩;rw[q1];have HX4:=zh he;have y0:=(zA0 he hB4).trans m0;have y1:=(zA0 he hB4).trans m1;have kp:=HKP.out.ext he;have v3:=kp.cell (j:=3) rfl;have v4:=kp.cell (j:=4) rfl;have v5:=kp.cell (j:=5) rfl;clear he kp))
      go_ret;exact⟨zA2 HF.out.symm,HE0.out.tr (HW.out.tr HE5.out)⟩
     go_upto_block 4 with (first
      | (go_at_call 27;refine(zCu _ b x.To x.ToPart x.ToCell _ (H.out.ext (HW.out.tr HX4.out))).mono ?_;rintro e w5 ⟨rfl,he⟩;rw[q2];have HX5:=zh (HX4.out.tr he);clear he)
      | (go_at_call 27;refine(zCu _ b x.From x.FromPart x.FromCell _ (H.out.ext HW.out)).mono ?_;rintro e w4 ⟨rfl,he⟩;rw[q1];have HX4:=zh he;have y0:=(zA0 he hB4).trans m0;have y1:=(zA0 he hB4).trans m1;have kp:=HKP.out.ext he;have v3:=kp.cell (j:=3) rfl;have v4:=kp.cell (j:=4) rfl;have v5:=kp.cell (j:=5) rfl;clear he kp))
     have Q:=zh (And.intro q1 q2);have z1:=(zA0 HX5.out hB4).trans m1;have kp:=HKP.out.ext HX5.out;have v3:=kp.cell (j:=3) rfl;have v4:=kp.cell (j:=4) rfl;have v5:=kp.cell (j:=5) rfl;have hP5:=kp.lt;have hB5:=zl hB4 HX5.out.sz;have HW5:=zh (HW.out.tr HX5.out);clear q1 q2 kp u0 u1 u2 u3 u4 u5 m0 m1 HX4 HX5 HW HKP;obtain⟨wb,rfl⟩:∃ wb,wb=w5:=⟨_,rfl⟩;go_wp2_with fail
     go_loopw [6,7] (fun i _ wr => ∃ j:Nat,j<=n/\i = .int .i64 j/\(b.Wires.take j).any (fun v=>zC3 v x)=false/\Ext wb wr) (fun i _ _=>n - (intOf i).toNat)
     case atStart=>exact⟨0,Nat.zero_le _,rfl,rfl,.refl _⟩
     case round =>
      obtain⟨j,hj,rfl,hev,hq5⟩:=hrel;have HEV:=zh hev;have HQ5:=zh hq5;clear hev hq5;have o1:=(zA0 HQ5.out hB5).trans z1;have x3:=(zA0 HQ5.out hP5).trans v3;have x4:=(zA0 HQ5.out hP5).trans v4;have x5:=(zA0 HQ5.out hP5).trans v5;have hP6:=zl hP5 HQ5.out.sz;have hB6:=zl hB5 HQ5.out.sz;by_cases hjt:j < n
      ·obtain⟨by_,oy,y,heq,hby,hy,s0,s1,s2,s3,s4,s5,rr0,rr1,rr2,rr3,rr4,rr5,hvy⟩:=(h1.out.ext (HW5.out.tr HQ5.out)).atWire j (by omega)
       cases heq;have HN:=zh (zAe hy.out);have hjl:j < b.Wires.length:=by omega
       have key:Hid (zC3 y x=true->zE2 b=false):=zh (fun hs=>Bo.f fun h=>by
        have h3:=(h.ok n x hx.out).2.2;have h4:=List.any_eq_false.1 h3 y (by rw[List.mem_take_iff_getElem];exact⟨j,by omega,(List.getElem?_eq_some_iff.1 hy.out).2⟩)
        exact h4 hs)
       go_upto_region 16 with (fail)
       refine zA1 (fun W=>Ext wr W/\Bk W wr.heap.size [.int .i64 y.From,.int .i64 y.FromPart,.int .i64 y.FromCell,.int .i64 y.To,.int .i64 y.ToPart,.int .i64 y.ToCell] 33) ⟨(zr _).alloc _,Bk.new _ _ _⟩ ?_
       rintro W3 ⟨e4,kY⟩;have c3:=kY.cell (j:=3) rfl;have c4:=kY.cell (j:=4) rfl;have c5:=kY.cell (j:=5) rfl;have x3':=(zA0 e4 hP6).trans x3;have x4':=(zA0 e4 hP6).trans x4;have x5':=(zA0 e4 hP6).trans x5;have HE4:=zh (HQ5.out.tr e4);clear e4 kY x3 x4 x5;cases gg1:(y.To == x.To)
       ·have HS:Hid (zC3 y x=false):=zh (zAt gg1);go_wp2;go_roundw
        case rel=>exact⟨j+1,by omega,by go_num,by rw[HN.out,List.any_append,HEV.out];simp[HS.out],HE4.out⟩
        case measure=>simp[intOf];omega
       cases gg2:(y.ToPart == x.ToPart)
       ·have HS:Hid (zC3 y x=false):=zh ((zAm gg1).trans (zAt gg2));go_wp2;go_roundw
        case rel=>exact⟨j+1,by omega,by go_num,by rw[HN.out,List.any_append,HEV.out];simp[HS.out],HE4.out⟩
        case measure=>simp[intOf];omega
       cases gg3:(y.ToCell == x.ToCell)
       ·have HS:Hid (zC3 y x=false):=zh ((zAm gg1).trans ((zAm gg2).trans gg3));go_wp2;go_roundw
        case rel=>exact⟨j+1,by omega,by go_num,by rw[HN.out,List.any_append,HEV.out];simp[HS.out],HE4.out⟩
        case measure=>simp[intOf];omega
       ·have HF:=zh (key.out ((zAm gg1).trans ((zAm gg2).trans gg3)));go_wp2;go_ret;exact⟨zA2 HF.out.symm,HE0.out.tr (HW5.out.tr HE4.out)⟩
      ·obtain rfl:j=n:=by omega
       go_wp2;go_roundw
       case rel=>exact⟨j+1,by omega,by go_num,fun i z hi hz=>by
        by_cases hik:i < j
        ·exact HE.out i z hik hz
        ·obtain rfl:i=j:=by omega
         rw[hx.out] at hz;cases hz;exact⟨Q.out.1,Q.out.2,HEV.out⟩,HW5.out.tr HQ5.out⟩
       case measure=>simp[intOf];omega
    ·have HOK:Hid (∀ (k:Nat) (x:Wire),b.Wires[k]? = some x->_):=zh (fun k x hx=>HE.out k x (by have:=zA3 hx;omega) hx)
     have HF:Hid (zE2 b=(decide (b.Boxes.length<=3) && decide (b.Wires.length<=6))):=zh (by
      rw[Bool.eq_iff_iff,zB2,Bool.and_eq_true,decide_eq_true_eq,decide_eq_true_eq];exact⟨fun h=>⟨h.nb,h.nw⟩,fun h=>⟨h.1,h.2,HMV.out,HOK.out⟩⟩)
     by_cases n3:b.Boxes.length<=3
     ·by_cases n6:b.Wires.length<=6
      ·have HG:=zh (HF.out.trans (by rw[decide_eq_true n3,decide_eq_true n6];rfl:_=true))
       have n3':decide ((b.Boxes.length:Int)<=3)=true:=decide_eq_true (by omega)
       have n6':decide ((b.Wires.length:Int)<=6)=true:=decide_eq_true (by omega)
       go_wp2;go_ret;exact⟨zA2 HG.out.symm,HE0.out.tr HQ.out⟩
      ·have HG:=zh (HF.out.trans (by rw[decide_eq_true n3,decide_eq_false n6];rfl:_=false))
       have n3':decide ((b.Boxes.length:Int)<=3)=true:=decide_eq_true (by omega)
       have n6':decide ((b.Wires.length:Int)<=6)=false:=decide_eq_false (by omega)
       clear n6;go_wp2;go_ret;exact⟨zA2 HG.out.symm,HE0.out.tr HQ.out⟩
     ·have HG:=zh (HF.out.trans (by rw[decide_eq_false n3];rfl:_=false))
      have n3':decide ((b.Boxes.length:Int)<=3)=false:=decide_eq_false (by omega)
      clear n3;go_wp2;go_ret;exact⟨zA2 HG.out.symm,HE0.out.tr HQ.out⟩
set_option maxHeartbeats 4000000
theorem Bk.putsAux{b:Nat}{T:TypeId}(cs:List Value):∀ {w:World} (pre rest:List Value),Bk w b (pre++rest) T->cs.length=rest.length->Bk (zAa w b pre.length cs) b (pre++cs) T:=by
 induction cs with
 | nil=>intro w pre rest h hl;obtain rfl:rest = []:=List.length_eq_zero_iff.1 hl.symm;exact h
 | cons c cs ih =>
  intro w pre rest h hl;cases rest with
  | nil=>cases hl
  | cons r rest =>
   have h1:=h.set pre.length c;rw[List.set_append_right _ _ (Nat.le_refl _),Nat.sub_self,List.set_cons_zero] at h1;have h2:=ih (w:=w.setCell ⟨b,pre.length,none⟩ c) (pre ++ [c]) rest (by simpa using h1) (by simpa using hl)
   rw[List.length_append,List.length_singleton] at h2;rw[zAa]
   simpa using h2
theorem Bk.puts{w:World}{b:Nat}{cs0:List Value}{T:TypeId}(h:Bk w b cs0 T)(cs:List Value)(hl:cs.length=cs0.length):Bk (zAa w b 0 cs) b cs T:=by
 have:=Bk.putsAux cs (w:=w) [] cs0 h hl
 simpa using this
theorem Bk.puts_ne{w:World}{b c o:Nat}{cs ds:List Value}{T:TypeId}(h:Bk w b cs T)(hb:b≠c):Bk (zAa w c o ds) b cs T:=by
 unfold Bk at *;rw[zCf hb];exact h
theorem zB3{α:Type}[GT α]{w:World}{c o:Nat}{cs ds:List Value}{x : α}{F:List Nat}(h:GT.enc w cs x F)(hc:c ∉ F):GT.enc (zAa w c o ds) cs x F :=
 GT.keep h fun k hk=>zCf (fun e=>hc (e ▸ hk))
theorem Sl.puts{α:Type}[GT α]{w:World}{c o:Nat}{v:Value}{ds:List Value}{x:List α}{F:List Nat}(h:Sl w v x F)(hc:c ∉ F):Sl (zAa w c o ds) v x F :=
 h.keep fun k hk=>zCf (fun e=>hc (e ▸ hk))
theorem Bk.cellq{w:World}{b:Nat}{cs:List Value}{T:TypeId}(h:Bk w b cs T)(j:Nat):w.cell? ⟨b,j,none⟩=cs[j]?:=by
 unfold Bk at h;simp[World.cell?,h]
theorem Chg.one{b o:Nat}{F:List Nat}{a c:World}{cs:List Value}{T:TypeId}{v:Value}(h:Chg b o 1 F a c)(hb:Bk a b cs T)(ho:o < cs.length)(hv:c.cell? ⟨b,o,none⟩=some v):∃ T',Bk c b (cs.set o v) T':=by
 obtain⟨cs',T',hb'⟩:=h.fzk b ⟨_,_,hb⟩;have e:cs'=cs.set o v:=by
  apply List.ext_getElem?;intro j;rw[<- hb'.cellq j,List.getElem?_set];by_cases hj:o=j
  ·subst hj;rw[if_pos rfl,if_pos ho];exact hv
  ·rw[if_neg hj,h.cell (by omega)];exact hb.cellq j
 exact⟨T',e ▸ hb'⟩
theorem zJo{w:World}{m:Machine}{p0 p1 p2 v3 v4 v5:Value}{FP F3 F4 F5:List Nat}(hp:GT.enc w [p0,p1,p2] m.Plan FP)(h3:Sl w v3 m.Programs F3)(h4:Sl w v4 m.Cores F4)(h5:Sl w v5 m.Holds F5)(r:rng m.Tick):GT.enc w [p0,p1,p2,v3,v4,v5,.int .i64 m.Tick] m (FP++F3++F4++F5):=by
 obtain⟨v0,v1,v2,F0,F1,F2,e,s0,s1,s2,rfl⟩:=hp;simp only[List.cons.injEq] at e;obtain⟨rfl,rfl,rfl,_⟩:=e;exact⟨_,_,_,_,_,_,F0,F1,F2,F3,F4,F5,rfl,s0,s1,s2,h3,h4,h5,r,by simp[List.append_assoc]⟩
theorem Chg.enc{α:Type}[GT α]{b o n:Nat}{F G:List Nat}{a c:World}{cs:List Value}{x : α}(h:Chg b o n F a c)(hs:GT.enc a cs x G)(hb:b ∉ G)(hF:zB1 G F):GT.enc c cs x G :=
 GT.keep hs fun k hk=>h.keep (GT.inh hs k hk) (fun e=>hb (e ▸ hk)) (fun hm=>hF k hk hm)
end Sk
