/- Contracts of functions of the given program. -/
import Derived.Test.YtbekofpkcahbkaaMachV
import Derived.Test.YtbekofpkcahbkaaTot
namespace Sk
open Go Go.Proofs Go.RowKit
set_option maxHeartbeats 2000000
set_option maxRecDepth 100000
set_option linter.unusedVariables false
set_option linter.unusedSimpArgs false
def zGn(b:Board)(x y z:Int):Bool :=
 zA5 x 0 (b.Boxes.length - 1) && (match b.Boxes[x.toNat]? with
  | some m=>zA5 y 0 (m.Cores.length - 1) && (match m.Cores[y.toNat]? with|some c=>zA5 z 0 (c.Cells.length - 1)|none=>false)
  | none=>false)
theorem M.hc0{b:Board}{x y z:Int}(h:zA5 x 0 (b.Boxes.length - 1)=false):zGn b x y z=false:=zAj h
theorem M.hc1{b:Board}{X:Nat}{y z:Int}{m:Machine}(h:zA5 X 0 (b.Boxes.length - 1)=true)(hm:b.Boxes[X]? = some m)(h2:zA5 y 0 (m.Cores.length - 1)=false):zGn b X y z=false:=by
 unfold zGn;rw[h,Int.toNat_natCast,hm];simp only[h2];rfl
theorem M.hc2{b:Board}{X Y:Nat}{z:Int}{m:Machine}{c:Core}(h:zA5 X 0 (b.Boxes.length - 1)=true)(hm:b.Boxes[X]? = some m)(h2:zA5 Y 0 (m.Cores.length - 1)=true)(hc:m.Cores[Y]? = some c):zGn b X Y z=zA5 z 0 (c.Cells.length - 1):=by
 unfold zGn;rw[h,Int.toNat_natCast,hm];simp only[h2,Int.toNat_natCast,hc];rfl
def zBd(v w:Wire):Bool:=v.To == w.To && (v.ToPart == w.ToPart && v.ToCell == w.ToCell)
structure M.BV (b:Board):Prop where
 nb:b.Boxes.length<=3
 nw:b.Wires.length<=6
 mv:∀ m∈b.Boxes,zDm m=true
 ok:∀ (k:Nat) (w:Wire),b.Wires[k]? = some w->zGn b w.From w.FromPart w.FromCell=true/\zGn b w.To w.ToPart w.ToCell=true/\(b.Wires.take k).any (fun v=>zBd v w)=false
noncomputable def zFt(b:Board):Bool:=Bo (M.BV b)
theorem zE1{b:Board}:zFt b=true ↔ M.BV b:=Bo.iff
theorem Rs.intsForm{x:Int}{n:Nat}(h1:0<=x)(h2:x<=n - 1):∃ X:Nat,x=X/\X < n:=⟨x.toNat,by omega,by omega⟩
theorem zAv(v:Value)(b:Board)(x y z:Int)(w:World)(h:Rv w v b) :
  Calls Try.prog 14 #[v,.int .i64 x,.int .i64 y,.int .i64 z] w fun e w'=>e = .returned (.bool (zGn b x y z))/\Ext w w':=by
 obtain⟨a0,c0,a1,c1,rfl,h0,l0,h1,l1⟩:=h.openBoard;clear h;have hn0:0<=(b.Boxes.length:Int):=by omega
 have e0:=zh ((zr w).alloc (.cells #[.slice a0 b.Boxes.length c0,.slice a1 b.Wires.length c1] 26));cases g1:zA5 x 0 (b.Boxes.length - 1)
 ·have HF:=zh (M.hc0 (y:=y) (z:=z) g1);go_enter Try.func14,Try.ntmps14;go_wp2_with (go_at_call 26;refine(zAf _ _ _ _).mono ?_;rintro e w' ⟨rfl,rfl⟩;first|rw[g1]|rw[g2]|skip)
  go_ret;exact⟨by rw[HF.out];first|done|rfl,e0.out⟩
 obtain⟨i1,i2⟩:=zA4.1 g1;obtain⟨X,rfl,hX⟩:=Rs.intsForm i1 i2;obtain⟨bm,om,m,a2,d2,a3,d3,a4,d4,a5,d5,a6,d6,a7,d7,rfl,hbm,hm,q0,q1,q2,q3,q4,q5,q6,rt,r0,k0,r1,k1,r2,k2,r3,k3,r4,k4,r5,k5,hvm⟩:=h0.out.atMachine X hX;clear q0 q1 q2 q3 q5 q6;have hn1:0<=(m.Cores.length:Int):=by omega
 cases g2:zA5 y 0 (m.Cores.length - 1)
 ·have HF:=zh (M.hc1 (z:=z) g1 hm.out g2);go_enter Try.func14,Try.ntmps14;go_wp2_with (go_at_call 26;refine(zAf _ _ _ _).mono ?_;rintro e w' ⟨rfl,rfl⟩;first|rw[g1]|rw[g2]|skip)
  go_ret;exact⟨by rw[HF.out];first|done|rfl,e0.out⟩
 obtain⟨i3,i4⟩:=zA4.1 g2;obtain⟨Y,rfl,hY⟩:=Rs.intsForm i3 i4;obtain⟨bc,oc,c,a8,d8,rfl,hbc,hc,s0,s1,s2,rr,rc,kc,hvc⟩:=r4.out.atCore Y hY;have hn2:0<=(c.Cells.length:Int):=by omega
 have HF:=zh (M.hc2 (z:=z) g1 hm.out g2 hc.out);go_enter Try.func14,Try.ntmps14;go_wp2_with (go_at_call 26;refine(zAf _ _ _ _).mono ?_;rintro e w' ⟨rfl,rfl⟩;first|rw[g1]|rw[g2]|skip)
 go_ret;exact⟨by rw[HF.out];first|done|rfl,e0.out⟩
theorem zBy(v:Value)(b:Board)(x y z:Int)(w:World)(h:Rv w v b) :
  Calls Try.prog 18 #[v,.int .i64 x,.int .i64 y,.int .i64 z] w fun e w'=>e = .returned (.bool (zGn b x y z))/\Ext w w':=by
 obtain⟨a0,c0,a1,c1,rfl,h0,l0,h1,l1⟩:=h.openBoard;clear h;have hn0:0<=(b.Boxes.length:Int):=by omega
 have e0:=zh ((zr w).alloc (.cells #[.slice a0 b.Boxes.length c0,.slice a1 b.Wires.length c1] 26));cases g1:zA5 x 0 (b.Boxes.length - 1)
 ·have HF:=zh (M.hc0 (y:=y) (z:=z) g1);go_enter Try.func18,Try.ntmps18;go_wp2_with (go_at_call 31;refine(zAa _ _ _ _).mono ?_;rintro e w' ⟨rfl,rfl⟩;first|rw[g1]|rw[g2]|skip)
  go_ret;exact⟨by rw[HF.out];first|done|rfl,e0.out⟩
 obtain⟨i1,i2⟩:=zA4.1 g1;obtain⟨X,rfl,hX⟩:=Rs.intsForm i1 i2;obtain⟨bm,om,m,a2,d2,a3,d3,a4,d4,a5,d5,a6,d6,a7,d7,rfl,hbm,hm,q0,q1,q2,q3,q4,q5,q6,rt,r0,k0,r1,k1,r2,k2,r3,k3,r4,k4,r5,k5,hvm⟩:=h0.out.atMachine X hX;clear q0 q1 q2 q3 q5 q6;have hn1:0<=(m.Cores.length:Int):=by omega
 cases g2:zA5 y 0 (m.Cores.length - 1)
 ·have HF:=zh (M.hc1 (z:=z) g1 hm.out g2);go_enter Try.func18,Try.ntmps18;go_wp2_with (go_at_call 31;refine(zAa _ _ _ _).mono ?_;rintro e w' ⟨rfl,rfl⟩;first|rw[g1]|rw[g2]|skip)
  go_ret;exact⟨by rw[HF.out];first|done|rfl,e0.out⟩
 obtain⟨i3,i4⟩:=zA4.1 g2;obtain⟨Y,rfl,hY⟩:=Rs.intsForm i3 i4;obtain⟨bc,oc,c,a8,d8,rfl,hbc,hc,s0,s1,s2,rr,rc,kc,hvc⟩:=r4.out.atCore Y hY;have hn2:0<=(c.Cells.length:Int):=by omega
 have HF:=zh (M.hc2 (z:=z) g1 hm.out g2 hc.out);go_enter Try.func18,Try.ntmps18;go_wp2_with (go_at_call 31;refine(zAa _ _ _ _).mono ?_;rintro e w' ⟨rfl,rfl⟩;first|rw[g1]|rw[g2]|skip)
 go_ret;exact⟨by rw[HF.out];first|done|rfl,e0.out⟩
theorem zEc(v:Value)(m:Machine)(w:World)(h:Rv w v m) :
  Calls Try.prog 12 #[v] w fun e w'=>e = .returned (.bool (!zDm m))/\Ext w w':=by
 have H:=zh h;obtain⟨a0,c0,a1,c1,a2,c2,a3,c3,a4,c4,a5,c5,rfl,rt,h0,l0,h1,l1,h2,l2,h3,l3,h4,l4,h5,l5⟩:=h.openMachine;clear h;go_enter Try.func12,Try.ntmps12;go_wp2_with (go_at_call 13;refine(zEe _ m _ (H.out.ext ((zr w).alloc _))).mono ?_;rintro e w' ⟨rfl,he⟩;have HE:=zh he;clear he)
 go_ret;exact⟨rfl,((zr w).alloc _).tr HE.out⟩
theorem zEd(v:Value)(x y:Wire)(b1:Nat)(w:World)(h:Rv w v x)(hb1:b1 < w.heap.size)
  (q3:w.cell? ⟨b1,3,none⟩=some (.int .i64 y.To)) (q4:w.cell? ⟨b1,4,none⟩=some (.int .i64 y.ToPart)) (q5:w.cell? ⟨b1,5,none⟩=some (.int .i64 y.ToCell)) :
  Calls Try.prog 16 #[v,.pointer (some ⟨b1,0,none⟩)] w fun e w'=>e = .returned (.bool (zBd x y))/\Ext w w':=by
 obtain⟨rfl,hr0,hr1,hr2,hr3,hr4,hr5⟩:=h.openWire;clear h;have e0:=zh ((zr w).alloc (.cells #[.int .i64 x.From,.int .i64 x.FromPart,.int .i64 x.FromCell,.int .i64 x.To,.int .i64 x.ToPart,.int .i64 x.ToCell] 31));cases g1:(x.To == y.To)
 ·have HF:Hid (zBd x y=false):=zh (zAj g1);go_enter Try.func16,Try.ntmps16;go_wp2;go_ret;exact⟨by rw[HF.out];first|done|rfl,e0.out⟩
 cases g2:(x.ToPart == y.ToPart)
 ·have HF:Hid (zBd x y=false):=zh ((zAg g1).trans (zAj g2));go_enter Try.func16,Try.ntmps16;go_wp2;go_ret;exact⟨by rw[HF.out];first|done|rfl,e0.out⟩
 have HF:Hid (zBd x y=(x.ToCell == y.ToCell)):=zh ((zAg g1).trans (zAg g2));go_enter Try.func16,Try.ntmps16;go_wp2;go_ret;exact⟨by rw[HF.out];first|done|rfl,e0.out⟩
theorem zCe(v:Value)(b:Board)(w:World)(h:Rv w v b) :
  Calls Try.prog 5 #[v] w fun e w'=>e = .returned (.bool (zFt b))/\Ext w w':=by
 have H:=zh h;obtain⟨a0,c0,a1,c1,rfl,h0,l0,h1,l1⟩:=h.openBoard;clear h;by_cases n3:b.Boxes.length<=3
 rotate_left
 ·have HF:Hid (zFt b=false):=zh (Bo.f fun h=>n3 h.nb)
  have n3':decide ((3:Int) < (b.Boxes.length:Int))=true:=decide_eq_true (by omega)
  have e0:=zh ((zr w).alloc (.cells #[.slice a0 b.Boxes.length c0,.slice a1 b.Wires.length c1] 26));clear n3;go_enter Try.func5,Try.ntmps5;go_wp2;go_ret;exact⟨zA1 HF.out.symm,e0.out⟩
 have n3':decide ((3:Int) < (b.Boxes.length:Int))=false:=decide_eq_false (by omega)
 by_cases n6:b.Wires.length<=6
 rotate_left
 ·have HF:Hid (zFt b=false):=zh (Bo.f fun h=>n6 h.nw)
  have n6':decide ((6:Int) < (b.Wires.length:Int))=true:=decide_eq_true (by omega)
  have e0:=zh ((zr w).alloc (.cells #[.slice a0 b.Boxes.length c0,.slice a1 b.Wires.length c1] 26));clear n6;go_enter Try.func5,Try.ntmps5;go_wp2;go_ret;exact⟨zA1 HF.out.symm,e0.out⟩
 have n6':decide ((6:Int) < (b.Wires.length:Int))=false:=decide_eq_false (by omega)
 have HX:=fun(u:World) (he:Ext w u)=>zHl 12 #[] (fun m => !zDm m) _ b.Boxes u (h0.out.ext he) (zBu Try.func12 (by kernel_rfl) (by kernel_rfl)) (fun w1 v x _ _ hv=>zEc v x w1 hv)
 replace HX:=zh HX;go_enter Try.func5,Try.ntmps5;go_upto_region 1 with (fail)
 refine zA2 (fun W=>Ext w W/\Bk W w.heap.size [.slice a0 b.Boxes.length c0,.slice a1 b.Wires.length c1] 26) ⟨(zr _).alloc _,Bk.new _ _ _⟩ ?_
 rintro W ⟨e1,kA⟩;have HE0:=zh e1;have KA:=zh kA;obtain⟨d0,d1⟩:=Bk.k2 kA;clear e1 kA;cases g0:b.Boxes.any (fun m => !zDm m)
 rotate_left
 ·have HF:Hid (zFt b=false):=zh (Bo.f fun h=>by
   have:b.Boxes.any (fun m => !zDm m)=false:=List.any_eq_false.2 fun m hm=>by rw[h.mv m hm];simp
   rw[g0] at this;cases this)
  go_wp2_with (go_at_call 11;refine(HX.out _ HE0.out).mono ?_;rintro e w1 ⟨rfl,he⟩;rw[g0];have HE1:=zh (HE0.out.tr he);clear he)
  go_ret;exact⟨zA1 HF.out.symm,HE1.out⟩
 have HMV:Hid (∀ m∈b.Boxes,zDm m=true):=zh fun m hm=>by have:=List.any_eq_false.1 g0 m hm;simpa using this
 replace g0:=zh g0;go_upto_if 19 with (go_at_call 11;refine(HX.out _ HE0.out).mono ?_;rintro e w1 ⟨rfl,he⟩;rw[g0.out];have HE1:=zh (HE0.out.tr he);have KB:=zh (KA.out.ext he);obtain⟨f0,f1⟩:=Bk.k2 KB.out;have hB:=KB.out.lt;clear he)
 replace H:=zh (H.out.ext HE1.out);replace h1:=zh (h1.out.ext HE1.out);clear d0 d1 KA HX n3' n6' KB;go_wp2;go_loopw [23,3,4] (fun i _ _ wr => ∃ k:Nat,k<=b.Wires.length/\i = .int .i64 k/\(∀ (j:Nat) (x:Wire),j < k->b.Wires[j]? = some x->zGn b x.From x.FromPart x.FromCell=true/\zGn b x.To x.ToPart x.ToCell=true/\(b.Wires.take j).any (fun v=>zBd v x)=false)/\Ext w1 wr) (fun i _ _ _=>b.Wires.length - (intOf i).toNat)
 case atStart=>exact⟨0,Nat.zero_le _,rfl,fun j x hj=>absurd hj (Nat.not_lt_zero _),.refl _⟩
 case round =>
  obtain⟨k,hk,rfl,he,hq⟩:=hrel;have HE:=zh he;have HQ:=zh hq;clear he hq;have g0':=(zA0 HQ.out hB).trans f0;have g1':=(zA0 HQ.out hB).trans f1;have hB2:=zl hB HQ.out.sz;by_cases hlt:k < b.Wires.length
  ·obtain⟨bw,ow,x,rfl,hbw,hx,s0,s1,s2,s3,s4,s5,r0,r1,r2,r3,r4,r5,hvx⟩:=h1.out.atWire k hlt;have t0:=(zA0 HQ.out hbw).trans s0;have t1:=(zA0 HQ.out hbw).trans s1;have t2:=(zA0 HQ.out hbw).trans s2;have t3:=(zA0 HQ.out hbw).trans s3;have t4:=(zA0 HQ.out hbw).trans s4;have t5:=(zA0 HQ.out hbw).trans s5;clear s0 s1 s2 s3 s4 s5;have hk6:(k:Int)<=(c1:Int):=by
    obtain⟨_,_,_,e,q1,_⟩:=h1.out;cases e;omega
   have hk7:(0:Int)<=(k:Int):=by omega
   go_upto_region 6 with (fail)
   refine zA2 (fun W=>Ext wr W/\Bk W wr.heap.size [.int .i64 x.From,.int .i64 x.FromPart,.int .i64 x.FromCell,.int .i64 x.To,.int .i64 x.ToPart,.int .i64 x.ToCell] 31) ⟨(zr _).alloc _,Bk.new _ _ _⟩ ?_
   rintro W2 ⟨e3,kP⟩;obtain⟨u0,u1,u2,u3,u4,u5⟩:=Bk.k6 kP;have g0'':=(zA0 e3 hB2).trans g0';have g1'':=(zA0 e3 hB2).trans g1';have hB3:=zl hB2 e3.sz;have HKP:=zh kP;have hP:=kP.lt;have HW:=zh (HQ.out.tr e3);clear e3 kP g0' g1' t0 t1 t2 t3 t4 t5;cases q1:zGn b x.From x.FromPart x.FromCell
   ·have HF:Hid (zFt b=false):=zh (Bo.f fun h=>by have:=(h.ok k x hx.out).1;rw[q1] at this;cases this)
    go_wp2_with (go_at_call 14;refine(zAv _ b x.From x.FromPart x.FromCell _ (H.out.ext HW.out)).mono ?_;rintro e w4 ⟨rfl,he⟩;rw[q1];have HE4:=zh (HW.out.tr he);clear he)
    go_ret;exact⟨zA1 HF.out.symm,HE1.out.tr HE4.out⟩
   cases q2:zGn b x.To x.ToPart x.ToCell
   ·have HF:Hid (zFt b=false):=zh (Bo.f fun h=>by have:=(h.ok k x hx.out).2.1;rw[q2] at this;cases this)
    go_wp2_with (first
     | (go_at_call 14;refine(zAv _ b x.To x.ToPart x.ToCell _ (H.out.ext (HW.out.tr HX4.out))).mono ?_;rintro e w5 ⟨rfl,he⟩;rw[q2];have HE5:=zh (HX4.out.tr he);clear he)
     | (go_at_call 14;refine(zAv _ b x.From x.FromPart x.FromCell _ (H.out.ext HW.out)).mono ?_;rintro e w4 ⟨rfl,he⟩;rw[q1];have HX4:=zh he;have y0:=(zA0 he hB3).trans g0'';have y1:=(zA0 he hB3).trans g1'';have kp:=HKP.out.ext he;have v3:=kp.cell (j:=3) rfl;have v4:=kp.cell (j:=4) rfl;have v5:=kp.cell (j:=5) rfl;clear he kp))
    go_ret;exact⟨zA1 HF.out.symm,HE1.out.tr (HW.out.tr HE5.out)⟩
   have HXW:=fun(u:World) (he:Ext W2 u)=>has_Wire 16 #[.pointer (some ⟨wr.heap.size,0,none⟩)] (fun v=>zBd v x) _ (b.Wires.take k) u ((h1.out.take hk).ext (HW.out.tr he)) (zBu Try.func16 (by kernel_rfl) (by kernel_rfl))
    (fun w1 v z he2 _ hv=>zEd v z x wr.heap.size w1 hv (zl hP (he.tr he2).sz) ((zA0 (he.tr he2) hP).trans u3) ((zA0 (he.tr he2) hP).trans u4) ((zA0 (he.tr he2) hP).trans u5))
   replace HXW:=zh HXW;cases q3:(b.Wires.take k).any (fun v=>zBd v x)
   ·have Q:=zh (And.intro q1 (And.intro q2 q3))
    go_wp2_with (first
     | (go_at_call 15;refine(HXW.out _ HX5.out).mono ?_;rintro e w6 ⟨rfl,he⟩;rw[q3];have HX6:=zh (HX5.out.tr he);clear he)
     | (go_at_call 14;refine(zAv _ b x.To x.ToPart x.ToCell _ (H.out.ext (HW.out.tr HX4.out))).mono ?_;rintro e w5 ⟨rfl,he⟩;rw[q2];have HX5:=zh (HX4.out.tr he);have z1:=(zA0 HX5.out hB3).trans g1'';clear he)
     | (go_at_call 14;refine(zAv _ b x.From x.FromPart x.FromCell _ (H.out.ext HW.out)).mono ?_;rintro e w4 ⟨rfl,he⟩;rw[q1];have HX4:=zh he;have y0:=(zA0 he hB3).trans g0'';have y1:=(zA0 he hB3).trans g1'';have kp:=HKP.out.ext he;have v3:=kp.cell (j:=3) rfl;have v4:=kp.cell (j:=4) rfl;have v5:=kp.cell (j:=5) rfl;clear he kp))
    clear q1 q2 q3;go_roundw
    case rel=>exact⟨k+1,by omega,by go_num,fun j z hj hz=>by
     by_cases hjk:j < k
     ·exact HE.out j z hjk hz
     ·obtain rfl:j=k:=by omega
      rw[hx.out] at hz;cases hz;exact Q.out,HW.out.tr HX6.out⟩
    case measure=>simp[intOf];omega
   ·have HF:Hid (zFt b=false):=zh (Bo.f fun h=>by have:=(h.ok k x hx.out).2.2;rw[q3] at this;cases this)
    go_wp2_with (first
     | (go_at_call 15;refine(HXW.out _ HX5.out).mono ?_;rintro e w6 ⟨rfl,he⟩;rw[q3];have HX6:=zh (HX5.out.tr he);clear he)
     | (go_at_call 14;refine(zAv _ b x.To x.ToPart x.ToCell _ (H.out.ext (HW.out.tr HX4.out))).mono ?_;rintro e w5 ⟨rfl,he⟩;rw[q2];have HX5:=zh (HX4.out.tr he);have z1:=(zA0 HX5.out hB3).trans g1'';clear he)
     | (go_at_call 14;refine(zAv _ b x.From x.FromPart x.FromCell _ (H.out.ext HW.out)).mono ?_;rintro e w4 ⟨rfl,he⟩;rw[q1];have HX4:=zh he;have y0:=(zA0 he hB3).trans g0'';have y1:=(zA0 he hB3).trans g1'';have kp:=HKP.out.ext he;have v3:=kp.cell (j:=3) rfl;have v4:=kp.cell (j:=4) rfl;have v5:=kp.cell (j:=5) rfl;clear he kp))
    go_ret;exact⟨zA1 HF.out.symm,HE1.out.tr (HW.out.tr HX6.out)⟩
  ·have HF:Hid (zFt b=true):=zh (Bo.t ⟨n3,n6,HMV.out,fun j x hx=>HE.out j x (by have:=zAc hx;omega) hx⟩)
   go_wp2;go_ret;exact⟨zA1 HF.out.symm,HE1.out.tr HQ.out⟩
theorem zDb(v:Value)(b:Board)(w:World)(h:Rv w v b) :
  Calls Try.prog 6 #[v] w fun e w'=>e = .returned (.bool (zFt b))/\Ext w w':=by
 have H:=zh h;obtain⟨a0,c0,a1,c1,rfl,h0,l0,h1,l1⟩:=h.openBoard;clear h;go_enter Try.func6,Try.ntmps6;go_upto_region 1 with (fail)
 refine zA2 (fun W=>Ext w W/\Bk W w.heap.size [.slice a0 b.Boxes.length c0,.slice a1 b.Wires.length c1] 26) ⟨(zr _).alloc _,Bk.new _ _ _⟩ ?_
 rintro W ⟨e1,kA⟩;have HE0:=zh e1;obtain⟨f0,f1⟩:=Bk.k2 kA;have hB:=kA.lt;replace H:=zh (H.out.ext e1);replace h0:=zh (h0.out.ext e1);replace h1:=zh (h1.out.ext e1);clear e1 kA;go_wp2;go_loopw [3] (fun i wr => ∃ k:Nat,k<=b.Boxes.length/\i = .int .i64 k/\(∀ (j:Nat) (x:Machine),j < k->b.Boxes[j]? = some x->zDm x=true)/\Ext W wr) (fun i _=>b.Boxes.length - (intOf i).toNat)
 case atStart=>exact⟨0,Nat.zero_le _,rfl,fun j x hj=>absurd hj (Nat.not_lt_zero _),.refl _⟩
 case round =>
  obtain⟨k,hk,rfl,he,hq⟩:=hrel;have HE:=zh he;have HQ:=zh hq;clear he hq;have g0':=(zA0 HQ.out hB).trans f0;have g1':=(zA0 HQ.out hB).trans f1;by_cases hlt:k < b.Boxes.length
  ·obtain⟨bm,om,m,a2,d2,a3,d3,a4,d4,a5,d5,a6,d6,a7,d7,rfl,hbm,hm,q0,q1,q2,q3,q4,q5,q6,rt,r0,k0,r1,k1,r2,k2,r3,k3,r4,k4,r5,k5,hvm⟩:=(h0.out.ext HQ.out).atMachine k hlt;cases g2:zDm m
   ·have HF:Hid (zFt b=false):=zh (Bo.f fun h=>by have:=h.mv m (List.mem_of_getElem? hm.out);rw[g2] at this;cases this)
    go_wp2_with (go_at_call 17;refine(zAd _ m _ hvm.out).mono ?_;rintro e w4 ⟨rfl,he⟩;rw[g2];have HE4:=zh he;clear he)
    go_ret;exact⟨zA1 HF.out.symm,HE0.out.tr (HQ.out.tr HE4.out)⟩
   ·have G2:=zh g2;go_wp2_with (go_at_call 17;refine(zAd _ m _ hvm.out).mono ?_;rintro e w4 ⟨rfl,he⟩;rw[G2.out];have HE4:=zh (HQ.out.tr he);clear he)
    clear g2;go_roundw
    case rel=>exact⟨k+1,by omega,by go_num,fun j z hj hz=>by
     by_cases hjk:j < k
     ·exact HE.out j z hjk hz
     ·obtain rfl:j=k:=by omega
      rw[hm.out] at hz;cases hz;exact G2.out,HE4.out⟩
    case measure=>simp[intOf];omega
  ·have HMV:Hid (∀ m∈b.Boxes,zDm m=true):=zh fun m hm=>by
    obtain⟨j,hj⟩:=List.getElem?_of_mem hm;exact HE.out j m (by have:=zAc hj;omega) hj
   have hB2:=zl hB HQ.out.sz;replace H:=zh (H.out.ext HQ.out);replace h1:=zh (h1.out.ext HQ.out);replace HE0:=zh (HE0.out.tr HQ.out);clear HE HQ f0 f1 h0 hB;obtain⟨wa,rfl⟩:∃ wa,wa=wr:=⟨_,rfl⟩;go_upto_block 2 with (fail)
   go_wp2_with fail
   go_loopw [4,5,6,7] (fun i _ _ _ wr => ∃ k:Nat,k<=b.Wires.length/\i = .int .i64 k/\(∀ (j:Nat) (x:Wire),j < k->b.Wires[j]? = some x->zGn b x.From x.FromPart x.FromCell=true/\zGn b x.To x.ToPart x.ToCell=true/\(b.Wires.take j).any (fun v=>zBd v x)=false)/\Ext wa wr) (fun i _ _ _ _=>b.Wires.length - (intOf i).toNat)
   case atStart=>exact⟨0,Nat.zero_le _,rfl,fun j x hj=>absurd hj (Nat.not_lt_zero _),.refl _⟩
   case round =>
    obtain⟨n,hn,rfl,he,hq⟩:=hrel;have HE:=zh he;have HQ:=zh hq;clear he hq;have p0:=(zA0 HQ.out hB2).trans g0';have p1:=(zA0 HQ.out hB2).trans g1';have hB3:=zl hB2 HQ.out.sz;by_cases hnt:n < b.Wires.length
    ·obtain⟨bw,ow,x,rfl,hbw,hx,s0,s1,s2,s3,s4,s5,r0,r1,r2,r3,r4,r5,hvx⟩:=(h1.out.ext HQ.out).atWire n hnt;go_upto_region 10 with (fail)
     refine zA2 (fun W=>Ext wr W/\Bk W wr.heap.size [.int .i64 x.From,.int .i64 x.FromPart,.int .i64 x.FromCell,.int .i64 x.To,.int .i64 x.ToPart,.int .i64 x.ToCell] 31) ⟨(zr _).alloc _,Bk.new _ _ _⟩ ?_
     rintro W2 ⟨e3,kP⟩;obtain⟨u0,u1,u2,u3,u4,u5⟩:=Bk.k6 kP;have m0:=(zA0 e3 hB3).trans p0;have m1:=(zA0 e3 hB3).trans p1;have hB4:=zl hB3 e3.sz;have HKP:=zh kP;have hP:=kP.lt;have HW:=zh (HQ.out.tr e3);clear e3 kP p0 p1 s0 s1 s2 s3 s4 s5;cases q1:zGn b x.From x.FromPart x.FromCell
     ·have HF:Hid (zFt b=false):=zh (Bo.f fun h=>by have:=(h.ok n x hx.out).1;rw[q1] at this;cases this)
      go_wp2_with (go_at_call 18;refine(zBy _ b x.From x.FromPart x.FromCell _ (H.out.ext HW.out)).mono ?_;rintro e w4 ⟨rfl,he⟩;rw[q1];have HE4:=zh (HW.out.tr he);clear he)
      go_ret;exact⟨zA1 HF.out.symm,HE0.out.tr HE4.out⟩
     cases q2:zGn b x.To x.ToPart x.ToCell
     ·have HF:Hid (zFt b=false):=zh (Bo.f fun h=>by have:=(h.ok n x hx.out).2.1;rw[q2] at this;cases this)
      go_wp2_with (first
       | (go_at_call 18;refine(zBy _ b x.To x.ToPart x.ToCell _ (H.out.ext (HW.out.tr HX4.out))).mono ?_;rintro e w5 ⟨rfl,he⟩;rw[q2];have HE5:=zh (HX4.out.tr he);clear he)
       | (go_at_call 18;refine(zBy _ b x.From x.FromPart x.FromCell _ (H.out.ext HW.out)).mono ?_;rintro e w4 ⟨rfl,he⟩;rw[q1];have HX4:=zh he;have y0:=(zA0 he hB4).trans m0;have y1:=(zA0 he hB4).trans m1;have kp:=HKP.out.ext he;have v3:=kp.cell (j:=3) rfl;have v4:=kp.cell (j:=4) rfl;have v5:=kp.cell (j:=5) rfl;clear he kp))
      go_ret;exact⟨zA1 HF.out.symm,HE0.out.tr (HW.out.tr HE5.out)⟩
     go_upto_block 4 with (first
      | (go_at_call 18;refine(zBy _ b x.To x.ToPart x.ToCell _ (H.out.ext (HW.out.tr HX4.out))).mono ?_;rintro e w5 ⟨rfl,he⟩;rw[q2];have HX5:=zh (HX4.out.tr he);clear he)
      | (go_at_call 18;refine(zBy _ b x.From x.FromPart x.FromCell _ (H.out.ext HW.out)).mono ?_;rintro e w4 ⟨rfl,he⟩;rw[q1];have HX4:=zh he;have y0:=(zA0 he hB4).trans m0;have y1:=(zA0 he hB4).trans m1;have kp:=HKP.out.ext he;have v3:=kp.cell (j:=3) rfl;have v4:=kp.cell (j:=4) rfl;have v5:=kp.cell (j:=5) rfl;clear he kp))
     have Q:=zh (And.intro q1 q2);have z1:=(zA0 HX5.out hB4).trans m1;have kp:=HKP.out.ext HX5.out;have v3:=kp.cell (j:=3) rfl;have v4:=kp.cell (j:=4) rfl;have v5:=kp.cell (j:=5) rfl;have hP5:=kp.lt;have hB5:=zl hB4 HX5.out.sz;have HW5:=zh (HW.out.tr HX5.out);clear q1 q2 kp u0 u1 u2 u3 u4 u5 m0 m1 HX4 HX5 HW HKP;obtain⟨wb,rfl⟩:∃ wb,wb=w5:=⟨_,rfl⟩;go_wp2_with fail
     go_loopw [6,7] (fun i _ wr => ∃ j:Nat,j<=n/\i = .int .i64 j/\(b.Wires.take j).any (fun v=>zBd v x)=false/\Ext wb wr) (fun i _ _=>n - (intOf i).toNat)
     case atStart=>exact⟨0,Nat.zero_le _,rfl,rfl,.refl _⟩
     case round =>
      obtain⟨j,hj,rfl,hev,hq5⟩:=hrel;have HEV:=zh hev;have HQ5:=zh hq5;clear hev hq5;have o1:=(zA0 HQ5.out hB5).trans z1;have x3:=(zA0 HQ5.out hP5).trans v3;have x4:=(zA0 HQ5.out hP5).trans v4;have x5:=(zA0 HQ5.out hP5).trans v5;have hP6:=zl hP5 HQ5.out.sz;have hB6:=zl hB5 HQ5.out.sz;by_cases hjt:j < n
      ·obtain⟨by_,oy,y,heq,hby,hy,s0,s1,s2,s3,s4,s5,rr0,rr1,rr2,rr3,rr4,rr5,hvy⟩:=(h1.out.ext (HW5.out.tr HQ5.out)).atWire j (by omega)
       cases heq;have HN:=zh (zAn hy.out);have hjl:j < b.Wires.length:=by omega
       have key:Hid (zBd y x=true->zFt b=false):=zh (fun hs=>Bo.f fun h=>by
        have h3:=(h.ok n x hx.out).2.2;have h4:=List.any_eq_false.1 h3 y (by rw[List.mem_take_iff_getElem];exact⟨j,by omega,(List.getElem?_eq_some_iff.1 hy.out).2⟩)
        exact h4 hs)
       go_upto_region 16 with (fail)
       refine zA2 (fun W=>Ext wr W/\Bk W wr.heap.size [.int .i64 y.From,.int .i64 y.FromPart,.int .i64 y.FromCell,.int .i64 y.To,.int .i64 y.ToPart,.int .i64 y.ToCell] 31) ⟨(zr _).alloc _,Bk.new _ _ _⟩ ?_
       rintro W3 ⟨e4,kY⟩;have c3:=kY.cell (j:=3) rfl;have c4:=kY.cell (j:=4) rfl;have c5:=kY.cell (j:=5) rfl;have x3':=(zA0 e4 hP6).trans x3;have x4':=(zA0 e4 hP6).trans x4;have x5':=(zA0 e4 hP6).trans x5;have HE4:=zh (HQ5.out.tr e4);clear e4 kY x3 x4 x5;cases gg1:(y.To == x.To)
       ·have HS:Hid (zBd y x=false):=zh (zAj gg1);go_wp2;go_roundw
        case rel=>exact⟨j+1,by omega,by go_num,by rw[HN.out,List.any_append,HEV.out];simp[HS.out],HE4.out⟩
        case measure=>simp[intOf];omega
       cases gg2:(y.ToPart == x.ToPart)
       ·have HS:Hid (zBd y x=false):=zh ((zAg gg1).trans (zAj gg2));go_wp2;go_roundw
        case rel=>exact⟨j+1,by omega,by go_num,by rw[HN.out,List.any_append,HEV.out];simp[HS.out],HE4.out⟩
        case measure=>simp[intOf];omega
       cases gg3:(y.ToCell == x.ToCell)
       ·have HS:Hid (zBd y x=false):=zh ((zAg gg1).trans ((zAg gg2).trans gg3));go_wp2;go_roundw
        case rel=>exact⟨j+1,by omega,by go_num,by rw[HN.out,List.any_append,HEV.out];simp[HS.out],HE4.out⟩
        case measure=>simp[intOf];omega
       ·have HF:=zh (key.out ((zAg gg1).trans ((zAg gg2).trans gg3)));go_wp2;go_ret;exact⟨zA1 HF.out.symm,HE0.out.tr (HW5.out.tr HE4.out)⟩
      ·obtain rfl:j=n:=by omega
       go_wp2;go_roundw
       case rel=>exact⟨j+1,by omega,by go_num,fun i z hi hz=>by
        by_cases hik:i < j
        ·exact HE.out i z hik hz
        ·obtain rfl:i=j:=by omega
         rw[hx.out] at hz;cases hz;exact⟨Q.out.1,Q.out.2,HEV.out⟩,HW5.out.tr HQ5.out⟩
       case measure=>simp[intOf];omega
    ·have HOK:Hid (∀ (k:Nat) (x:Wire),b.Wires[k]? = some x->_):=zh (fun k x hx=>HE.out k x (by have:=zAc hx;omega) hx)
     have HF:Hid (zFt b=(decide (b.Boxes.length<=3) && decide (b.Wires.length<=6))):=zh (by
      rw[Bool.eq_iff_iff,zE1,Bool.and_eq_true,decide_eq_true_eq,decide_eq_true_eq];exact⟨fun h=>⟨h.nb,h.nw⟩,fun h=>⟨h.1,h.2,HMV.out,HOK.out⟩⟩)
     by_cases n3:b.Boxes.length<=3
     ·by_cases n6:b.Wires.length<=6
      ·have HG:=zh (HF.out.trans (by rw[decide_eq_true n3,decide_eq_true n6];rfl:_=true))
       have n3':decide ((b.Boxes.length:Int)<=3)=true:=decide_eq_true (by omega)
       have n6':decide ((b.Wires.length:Int)<=6)=true:=decide_eq_true (by omega)
       go_wp2;go_ret;exact⟨zA1 HG.out.symm,HE0.out.tr HQ.out⟩
      ·have HG:=zh (HF.out.trans (by rw[decide_eq_true n3,decide_eq_false n6];rfl:_=false))
       have n3':decide ((b.Boxes.length:Int)<=3)=true:=decide_eq_true (by omega)
       have n6':decide ((b.Wires.length:Int)<=6)=false:=decide_eq_false (by omega)
       clear n6;go_wp2;go_ret;exact⟨zA1 HG.out.symm,HE0.out.tr HQ.out⟩
     ·have HG:=zh (HF.out.trans (by rw[decide_eq_false n3];rfl:_=false))
      have n3':decide ((b.Boxes.length:Int)<=3)=false:=decide_eq_false (by omega)
      clear n3;go_wp2;go_ret;exact⟨zA1 HG.out.symm,HE0.out.tr HQ.out⟩
end Sk
