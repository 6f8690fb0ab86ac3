/- Contracts of functions of the given program. -/
import Derived.Test.YtpjdkfkfmebphaaGreatNums
namespace Sk
open Go Go.Proofs Go.RowKit
set_option maxHeartbeats 400000
set_option maxRecDepth 100000
set_option linter.unusedVariables false
set_option linter.unusedSimpArgs false
def zGx(n x:Int):Int:=(1000003*n+x % 1048573+1) % 1048573
def zHj(key:Int)(xs:List Int):Int:=xs.foldl zGx key
theorem zO8(key:Int)(xs:List Int)(x:Int):zHj key (xs ++ [x])=zGx (zHj key xs) x:=by simp[zHj]
theorem zHk(n x:Int):0<=zGx n x/\zGx n x<=1048572:=by unfold zGx;omega
theorem tmod_bd(x:Int) : -1048573 < x.tmod 1048573/\x.tmod 1048573 < 1048573:=by
 rw[Int.tmod_eq_emod];split<;>simp_all<;>omega
theorem tmod_add(x:Int):(x.tmod 1048573+1048573) % 1048573=x % 1048573:=by
 rw[Int.tmod_eq_emod];split<;>simp_all
theorem zJr(v:Value)(xs:List Int)(key:Int)(w:World)(h:Rs w v xs)(hk0:0<=key)(hk1:key<=1048572) :
  Calls Tryz.prog 41 #[.int .i64 key,v] w fun e w'=>e = .returned (.int .i64 (zHj key xs))/\w=w':=by
 obtain⟨a,c,rfl,hl⟩:=h.form;have H:=zh h;clear h;have hin:=zEm hk0 hk1;go_enter Tryz.func41,Tryz.ntmps41;go_wp2_with (go_at_call 80;refine(zOl _ _).mono ?_;rintro e w' ⟨rfl,rfl⟩)
 go_loop [0,6,12] (fun n _ i => ∃ (k:Nat) (r:Int),k<=xs.length/\i = .int .i64 k/\n = .int .i64 r/\0<=r/\r<=1048572/\Hid (r=zHj key (xs.take k))) (fun _ _ i=>xs.length - (intOf i).toNat)
 case atStart=>exact⟨0,key,Nat.zero_le _,by go_num,rfl,hk0,hk1,zh rfl⟩
 case round =>
  obtain⟨k,r,hk,rfl,rfl,hr0,hr1,hr⟩:=hrel;by_cases hlt:k < xs.length
  ·obtain⟨b,o,x,rfl,_,hx,hc,hxr⟩:=H.out.atInt k hlt;have hs:Hid (zHj key (xs.take (k+1))=zGx r x):=zh (by rw[zAg hx.out,zO8,<- hr.out])
   have hm:=zHk r x;have hq:=zh (tmod_add x);have hb:=tmod_bd x;obtain⟨hb1,hb2⟩:=hb;go_wp2;go_round
   case rel=>exact⟨k+1,zGx r x,by omega,by go_num,by have h:=hq.out;unfold zGx;rw[<- h];simp,hm.1,hm.2,zh hs.out.symm⟩
   case measure=>simp[intOf];omega
  ·obtain rfl:k=xs.length:=by omega
   have hr2:=hr.out;rw[List.take_length] at hr2;go_wp2;go_ret;exact⟨rfl,rfl⟩
def zO3(f t:Int)(c:Channel):Bool:=(c.From == f && c.To == t) || (c.Kind == 3 && c.From == t && c.To == f)
def zFy(cs:List Channel)(f t:Int):Bool:=(f == t) || cs.any (zO3 f t)
theorem zLq(v:Value)(x:Channel)(b1 b2:Nat)(f t:Int)(w:World)(h:Rv w v x)(hb1:b1 < w.heap.size)(hb2:b2 < w.heap.size)(hc1:w.cell? ⟨b1,0,none⟩=some (.int .i64 f))(hc2:w.cell? ⟨b2,0,none⟩=some (.int .i64 t)) :
  Calls Tryz.prog 110 #[v,.pointer (some ⟨b1,0,none⟩),.pointer (some ⟨b2,0,none⟩)] w fun e w'=>e = .returned (.bool (zO3 f t x))/\Ext w w':=by
 obtain⟨rfl,hr0,hr1,hr2,hr3⟩:=h.openChannel;clear h;cases hA:(x.From == f)<;>cases hB:(x.To == t)<;>cases hK:(x.Kind == 3)<;>cases hC:(x.From == t)<;>cases hD:(x.To == f)
 all_goals
  have hm:=zh (by unfold zO3;rw[hA,hB,hK,hC,hD]:zO3 f t x=_)
  go_enter Tryz.func110,Tryz.ntmps110;go_wp2;go_ret;exact⟨zA2 hm.out.symm,(zr w).alloc _⟩
theorem zNa(v:Value)(cs:List Channel)(f t:Int)(w:World)(h:Rs w v cs) :
  Calls Tryz.prog 57 #[v,.int .i64 f,.int .i64 t] w fun e w'=>e = .returned (.bool (zFy cs f t))/\Ext w w':=by
 have e0:=zh (((zr w).alloc (.cells #[.int .i64 f] 3)).alloc (.cells #[.int .i64 t] 3));have H:=zh h;obtain⟨a,c,rfl,hl⟩:=h.form;clear h;cases hA:(f == t)
 ·have hm:=zh (by unfold zFy;rw[hA];rfl:zFy cs f t=cs.any (zO3 f t))
  have HX:=zh (zJq 110 #[.pointer (some ⟨w.heap.size,0,none⟩),.pointer (some ⟨w.heap.size+1,0,none⟩)] (zO3 f t) _ cs _ (H.out.ext e0.out) (zCo Tryz.func110 (by kernel_rfl) (by kernel_rfl))
   (fun w1 v x he _ hv=>zLq v x _ _ f t w1 hv (by have:=he.sz;simp at this;omega) (by have:=he.sz;simp at this;omega) (by rw[(zD9 he).1 _ _ (by simp;omega)];simp) (by rw[(zD9 he).1 _ _ (by simp)];simp)))
  go_enter Tryz.func57,Tryz.ntmps57;go_wp2_with (go_at_call 109;refine HX.out.mono ?_;rintro e w' ⟨rfl,he⟩)
  go_ret;exact⟨zA2 hm.out.symm,e0.out.tr he⟩
 ·have hm:=zh (by unfold zFy;rw[hA];rfl:zFy cs f t=true)
  go_enter Tryz.func57,Tryz.ntmps57;go_wp2;go_ret;exact⟨zA2 hm.out.symm,e0.out⟩
theorem zLl{α:Type}(p : α -> Bool){xs:List α}{k:Nat}{x : α}(hk:xs[k]? = some x):(xs.take (k+1)).any p=((xs.take k).any p || p x):=by
 rw[zAg hk,List.any_append];simp
theorem zMm(a b c:Bool):(a || (b || c))=((a || b) || c):=(Bool.or_assoc a b c).symm
theorem zK3(v:Value)(cs:List Channel)(m:Nat)(f t:Nat)(w:World)(h:Rs w v cs)(hv:zCk cs m=true)(hf:f < m)(ht:t < m) :
  Calls Tryz.prog 61 #[v,.int .i64 m,.int .i64 f,.int .i64 t] w fun e w'=>e = .returned (.bool (zFy cs f t))/\Ext w w':=by
 obtain⟨a,c,rfl,hl⟩:=h.form;have H:=zh h;clear h;have hm5:m<=5:=by
  have:=hv;unfold zCk at this;simp only[Bool.and_eq_true,zA6] at this;omega
 have h1:=zEm (n:=f) (lo:=0) (hi:=m - 1) (by omega) (by omega)
 have h2:=zEm (n:=t) (lo:=0) (hi:=m - 1) (by omega) (by omega)
 go_enter Tryz.func61,Tryz.ntmps61;go_wp2_with (first|(go_at_call 27;refine(zAe _ _ _ _).mono ?_;rintro e w' ⟨rfl,rfl⟩)|(go_at_call 60;refine(zAv _ _ _ _ H.out).mono ?_;rintro e w1 ⟨rfl,he1⟩;have E1:=zh he1;clear he1))
 go_loopw [9,10] (fun u i wr => ∃ k:Nat,k<=cs.length/\i = .int .i64 k/\u = .bool (((f:Int) == t) || (cs.take k).any (zO3 f t))/\Ext w wr) (fun _ i _=>cs.length - (intOf i).toNat)
 case atStart=>exact⟨0,Nat.zero_le _,rfl,by simp,E1.out⟩
 case round =>
  obtain⟨k,hk,rfl,rfl,hq⟩:=hrel;have HQ:=zh hq;clear hq;by_cases hlt:k < cs.length
  ·obtain⟨b,o,x,rfl,hb,hx,hc0,hc1,hc2,hc3,hr0,hr1,hr2,hr3,hv⟩:=(H.out.ext HQ.out).atChannel k hlt;clear H;have hst:=zh (zLl (zO3 f t) hx.out)
   generalize hg:(((f:Int) == t) || (cs.take k).any (zO3 f t))=acc at *
   have HG:=zh hg;clear hg;cases acc
   ·cases hA:(x.From == f)<;>cases hB:(x.To == t)<;>cases hK:(x.Kind == 3)<;>cases hC:(x.From == t)<;>cases hD:(x.To == f)
    all_goals
     have hm:=zh (by unfold zO3;rw[hA,hB,hK,hC,hD]:zO3 f t x=_)
     go_wp2;go_roundw
     case rel=>exact⟨k+1,by omega,by go_num,by rw[hst.out,zMm,HG.out,hm.out];rfl,(HQ.out.alloc _)⟩
     case measure=>simp[intOf];omega
   ·go_wp2;go_roundw
    case rel=>exact⟨k+1,by omega,by go_num,by rw[hst.out,zMm,HG.out];rfl,(HQ.out.alloc _)⟩
    case measure=>simp[intOf];omega
  ·obtain rfl:k=cs.length:=by omega
   rw[List.take_length];clear H;go_wp2;go_ret;exact⟨rfl,HQ.out⟩
def zA4{β:Type}(f : β -> Nat -> β)(b : β):Nat -> β
 | 0=>b
 | k+1=>f (zA4 f b k) k
theorem zDg{β:Type}{f : β -> Nat -> β}{b : β}(P : β -> Prop)(h0:P b)(hs:∀ x k,P x->P (f x k))(k:Nat):P (zA4 f b k):=by
 induction k with
 | zero=>exact h0
 | succ k ih=>exact hs _ _ ih
def zA9(cs:List Channel)(a:Nat)(out:List Bool)(b:Nat):List Bool:=out.set a (out.getD a false || (out.getD b false && zFy cs a b))
def zAs(cs:List Channel)(n:Nat)(out:List Bool)(a:Nat):List Bool:=zA4 (zA9 cs a) out n
def zAb(cs:List Channel)(n:Nat)(out:List Bool)(_:Nat):List Bool:=zA4 (zAs cs n) out n
def zBc(cs:List Channel)(n k:Nat):List Bool:=zA4 (zAb cs n) ((List.replicate n false).set k true) n
theorem zM7{cs:List Channel}{a b:Nat}{out:List Bool}(h:out.getD a false=true):zA9 cs a out b=out.set a true:=by unfold zA9;rw[h];rfl
theorem zM6{cs:List Channel}{a b:Nat}{out:List Bool}(h:out.getD a false=false)(k:out.getD b false=false):zA9 cs a out b=out.set a false:=by unfold zA9;rw[h,k];rfl
theorem zM5{cs:List Channel}{a b:Nat}{out:List Bool}(h:out.getD a false=false)(k:out.getD b false=true):zA9 cs a out b=out.set a (zFy cs a b):=by unfold zA9;rw[h,k];rfl
theorem zMw{cs:List Channel}{a:Nat}{out:List Bool}{b:Nat}:(zA9 cs a out b).length=out.length:=List.length_set ..
theorem zHi{cs:List Channel}{n a:Nat}{out:List Bool}{k:Nat}:(zA4 (zA9 cs a) out k).length=out.length :=
 zDg (fun x:List Bool=>x.length=out.length) rfl (fun x k h=>zMw.trans h) k
theorem zF3{cs:List Channel}{n:Nat}{out:List Bool}{k:Nat}:(zA4 (zAs cs n) out k).length=out.length :=
 zDg (fun x:List Bool=>x.length=out.length) rfl (fun x k h=>(zHi (n:=n)).trans h) k
theorem zF2{cs:List Channel}{n:Nat}{out:List Bool}{k:Nat}:(zA4 (zAb cs n) out k).length=out.length :=
 zDg (fun x:List Bool=>x.length=out.length) rfl (fun x k h=>zF3.trans h) k
theorem zC0(cs:List Channel)(n k:Nat):(zBc cs n k).length=n:=by
 unfold zBc;rw[zF2];simp
theorem zMl(xs:Nat)(hl:xs<=1048576)(u:World):(Instr.makeSlice 59 (.int .i64 xs) (.int .i64 xs)).run Tryz.prog u =
   .ok (.slice (some ⟨u.heap.size,0,none⟩) xs xs) (u.alloc (.cells (madeCells #[.bool false] (xs*1)) 4)):=by
 obtain⟨i0,hi,hz0,hz1,hz2⟩:=info_parts zPs;have h:=run_make (P:=Tryz.prog) u 59 4 i0 (.bool false) Tryz.underlying59 hi hz0 .i64 .i64 xs xs (by omega) (Int.le_refl _) (by rw[hz2];omega) (by omega)
 simpa [hz1,Value.cells] using h
theorem Os.mono{α:Type}[GT α]{L L':Nat}{w:World}{v:Value}{xs:List α}(h:Os L w v xs)(hl:L'<=L):Os L' w v xs:=by
 obtain⟨F,h,o⟩:=h;exact⟨F,h,o.mono hl⟩
theorem Os.bool{L:Nat}{w:World}{b o n c:Nat}{xs:List Bool}(h:Os L w (.slice (some ⟨b,o,none⟩) n c) xs)(k:Nat)(hk:k < xs.length) :
  w.cell? ⟨b,o+k,none⟩=some (.bool (xs.getD k false))/\w.frozen? ⟨b,o+k,none⟩=false/\b < w.heap.size:=by
 obtain⟨b',o',x,hb,hlt,hx,hc⟩:=h.rs.atBool k hk;cases hb;obtain⟨b2,o2,cs2,F2,x0,hb2,_,_,_,_,hf⟩:=h.at k hk;cases hb2;rw[List.getD_eq_getElem?_getD,hx.out];exact⟨hc,hf _,hlt⟩
theorem Os.setB{L:Nat}{w:World}{b n c:Nat}{xs:List Bool}(h:Os L w (.slice (some ⟨b,0,none⟩) n c) xs)(hL:L<=w.heap.size)(k:Nat)(hk:k < xs.length)(y:Bool) :
  Os L (w.setCell ⟨b,k,none⟩ (.bool y)) (.slice (some ⟨b,0,none⟩) n c) (xs.set k y):=by
 have:=h.put (i:=k) (zr _) hk hL (⟨[],⟨rfl,rfl⟩,Own.nil _ _⟩:Ow _ _ [.bool y] y)
 simpa only[GT.sz,zAc,Nat.mul_one,Nat.zero_add] using this
theorem zL5(v:Value)(cs:List Channel)(n k:Nat)(w:World)(h:Rs w v cs)(hn:n<=5)(hk:k < n) :
  Calls Tryz.prog 22 #[v,.int .i64 n,.int .i64 k] w fun e w' => ∃ v',e = .returned v'/\Os w.heap.size w' v' (zBc cs n k)/\Ext w w':=by
 obtain⟨a,c,rfl,hl⟩:=h.form;have H:=zh h;clear h;have hmk:=zMl n (by omega)
 have HB1:=zh (by
  have:=Os.made (α:=Bool) w n 4 #[.bool false] false rfl rfl (by omega)
  have:=this.put (i:=k) (zr _) (by simpa using hk) (by simp) (⟨[],⟨rfl,rfl⟩,Own.nil _ _⟩:Ow _ _ [.bool true] true)
  simp only[GT.sz,zAc,Nat.mul_one,Nat.zero_add] at this
  rwa [World.setCell_alloc_at _ _ _ _ _ rfl] at this:Os w.heap.size (w.alloc (.cells ((madeCells #[.bool false] n).setIfInBounds k (.bool true)) 4)) (.slice (some ⟨w.heap.size,0,none⟩) n n) ((List.replicate n false).set k true))
 have hck:(madeCells #[.bool false] n)[k]? = some (.bool false):=by simp[madeCells,hk,Nat.mod_one]
 go_enter Tryz.func22,Tryz.ntmps22;go_wp2;clear hck;go_loopw [16] (fun i wr => ∃ j:Nat,j<=n/\i = .int .i64 j/\Os w.heap.size wr (.slice (some ⟨w.heap.size,0,none⟩) n n) (zA4 (zAb cs n) ((List.replicate n false).set k true) j)/\Ext w wr) (fun i _=>n - (intOf i).toNat)
 case atStart=>exact⟨0,Nat.zero_le _,rfl,HB1.out,(zr w).alloc _⟩
 case round =>
  obtain⟨j,hj,rfl,ho,hq⟩:=hrel;have HO:=zh ho;have HQ:=zh hq;clear ho hq;by_cases hjt:j < n
  ·have HS:=zh (rfl:zA4 (zAb cs n) ((List.replicate n false).set k true) (j+1)=zA4 (zAs cs n) (zA4 (zAb cs n) ((List.replicate n false).set k true) j) n);have HL:=zh ((zF2 (cs:=cs) (n:=n) (k:=j)).trans (by simp):(zA4 (zAb cs n) ((List.replicate n false).set k true) j).length=n)
   obtain⟨wo,rfl⟩:∃ wo:World,wo=wr:=⟨_,rfl⟩;go_wp2;go_loopw [19] (fun i wr => ∃ q:Nat,q<=n/\i = .int .i64 q/\Os w.heap.size wr (.slice (some ⟨w.heap.size,0,none⟩) n n) (zA4 (zAs cs n) (zA4 (zAb cs n) ((List.replicate n false).set k true) j) q)/\Ext w wr) (fun i _=>n - (intOf i).toNat)
   case atStart=>exact⟨0,Nat.zero_le _,rfl,HO.out,HQ.out⟩
   case round =>
    obtain⟨j2,hj2,rfl,ho,hq⟩:=hrel;have HO2:=zh ho;have HQ2:=zh hq;clear ho hq HO HQ;by_cases hjt2:j2 < n
    ·have HS2:=zh (rfl:zA4 (zAs cs n) (zA4 (zAb cs n) ((List.replicate n false).set k true) j) (j2+1)=zA4 (zA9 cs j2) (zA4 (zAs cs n) (zA4 (zAb cs n) ((List.replicate n false).set k true) j) j2) n);have HL2:=zh ((zF3 (cs:=cs) (n:=n) (k:=j2)).trans HL.out:(zA4 (zAs cs n) (zA4 (zAb cs n) ((List.replicate n false).set k true) j) j2).length=n);obtain⟨wo2,rfl⟩:∃ wo:World,wo=wr:=⟨_,rfl⟩;go_wp2;go_loopw [23] (fun i wr => ∃ q:Nat,q<=n/\i = .int .i64 q/\Os w.heap.size wr (.slice (some ⟨w.heap.size,0,none⟩) n n) (zA4 (zA9 cs j2) (zA4 (zAs cs n) (zA4 (zAb cs n) ((List.replicate n false).set k true) j) j2) q)/\Ext w wr) (fun i _=>n - (intOf i).toNat)
     case atStart=>exact⟨0,Nat.zero_le _,rfl,HO2.out,HQ2.out⟩
     case round =>
      obtain⟨j3,hj3,rfl,ho,hq⟩:=hrel;have HO3:=zh ho;have HQ3:=zh hq;clear ho hq HO2 HQ2;by_cases hjt3:j3 < n
      ·have HS3:=zh (rfl:zA4 (zA9 cs j2) (zA4 (zAs cs n) (zA4 (zAb cs n) ((List.replicate n false).set k true) j) j2) (j3+1)=zA9 cs j2 (zA4 (zA9 cs j2) (zA4 (zAs cs n) (zA4 (zAb cs n) ((List.replicate n false).set k true) j) j2) j3) j3);have HL3:=zh ((zHi (cs:=cs) (n:=n) (a:=j2) (k:=j3)).trans HL2.out:(zA4 (zA9 cs j2) (zA4 (zAs cs n) (zA4 (zAb cs n) ((List.replicate n false).set k true) j) j2) j3).length=n);obtain⟨hz1,hz2,hz3⟩:=HO3.out.bool j2 (by rw[HL3.out];exact hjt2)
       obtain⟨hy1,hy2,_⟩:=HO3.out.bool j3 (by rw[HL3.out];exact hjt3)
       rw[Nat.zero_add] at hz1 hz2 hy1 hy2;cases hx:(zA4 (zA9 cs j2) (zA4 (zAs cs n) (zA4 (zAb cs n) ((List.replicate n false).set k true) j) j2) j3).getD j2 false
       ·cases hy:(zA4 (zA9 cs j2) (zA4 (zAs cs n) (zA4 (zAb cs n) ((List.replicate n false).set k true) j) j2) j3).getD j3 false
        ·have HV:Hid (zA9 cs j2 (zA4 (zA9 cs j2) (zA4 (zAs cs n) (zA4 (zAb cs n) ((List.replicate n false).set k true) j) j2) j3) j3=(zA4 (zA9 cs j2) (zA4 (zAs cs n) (zA4 (zAb cs n) ((List.replicate n false).set k true) j) j2) j3).set j2 false):=zh (zM6 hx hy);rw[hx] at hz1;rw[hy] at hy1;clear hx hy;go_wp2;go_roundw
         case rel=>exact⟨j3+1,by omega,by go_num,by show Os _ _ _ (zA9 cs j2 (zA4 (zA9 cs j2) (zA4 (zAs cs n) (zA4 (zAb cs n) ((List.replicate n false).set k true) j) j2) j3) j3);rw[HV.out];exact HO3.out.setB HQ3.out.sz j2 (by rw[HL3.out];exact hjt2) false,HQ3.out.set (by simp) _⟩
         case measure=>simp[intOf];omega
        ·have HV:Hid (zA9 cs j2 (zA4 (zA9 cs j2) (zA4 (zAs cs n) (zA4 (zAb cs n) ((List.replicate n false).set k true) j) j2) j3) j3=(zA4 (zA9 cs j2) (zA4 (zAs cs n) (zA4 (zAb cs n) ((List.replicate n false).set k true) j) j2) j3).set j2 (zFy cs j2 j3)):=zh (zM5 hx hy);rw[hx] at hz1;rw[hy] at hy1;clear hx hy;go_wp2_with (go_at_call 57;refine(zNa _ _ _ _ _ (H.out.ext HQ3.out)).mono ?_;rintro e w2 ⟨rfl,he2⟩;obtain⟨hcb,hfb⟩:=zD9 he2;have E2:=zh he2;clear he2)
         go_roundw
         case rel=>exact⟨j3+1,by omega,by go_num,by show Os _ _ _ (zA9 cs j2 (zA4 (zA9 cs j2) (zA4 (zAs cs n) (zA4 (zAb cs n) ((List.replicate n false).set k true) j) j2) j3) j3);rw[HV.out];exact(HO3.out.ext E2.out).setB (HQ3.out.tr E2.out).sz j2 (by rw[HL3.out];exact hjt2) _,(HQ3.out.tr E2.out).set (by simp) _⟩
         case measure=>simp[intOf];omega
       ·have HV:Hid (zA9 cs j2 (zA4 (zA9 cs j2) (zA4 (zAs cs n) (zA4 (zAb cs n) ((List.replicate n false).set k true) j) j2) j3) j3=(zA4 (zA9 cs j2) (zA4 (zAs cs n) (zA4 (zAb cs n) ((List.replicate n false).set k true) j) j2) j3).set j2 true):=zh (zM7 hx);rw[hx] at hz1;clear hx hy1;go_wp2;go_roundw
        case rel=>exact⟨j3+1,by omega,by go_num,by show Os _ _ _ (zA9 cs j2 (zA4 (zA9 cs j2) (zA4 (zAs cs n) (zA4 (zAb cs n) ((List.replicate n false).set k true) j) j2) j3) j3);rw[HV.out];exact HO3.out.setB HQ3.out.sz j2 (by rw[HL3.out];exact hjt2) true,HQ3.out.set (by simp) _⟩
        case measure=>simp[intOf];omega
      ·obtain rfl:j3=n:=by omega
       go_wp2;go_roundw
       case rel=>exact⟨j2+1,by omega,by go_num,HO3.out,HQ3.out⟩
       case measure=>simp[intOf];omega
    ·obtain rfl:j2=n:=by omega
     go_wp2;go_roundw
     case rel=>exact⟨j+1,by omega,by go_num,HO2.out,HQ2.out⟩
     case measure=>simp[intOf];omega
  ·obtain rfl:j=n:=by omega
   go_wp2;go_ret;exact⟨_,rfl,HO.out,HQ.out⟩
theorem zMo(v:Value)(cs:List Channel)(n k:Nat)(w:World)(h:Rs w v cs)(hv:zCk cs n=true)(hk:k < n) :
  Calls Tryz.prog 29 #[v,.int .i64 n,.int .i64 k] w fun e w' => ∃ v',e = .returned v'/\Os w.heap.size w' v' (zBc cs n k)/\Ext w w':=by
 obtain⟨a,c,rfl,hl⟩:=h.form;have H:=zh h;clear h;have hn:n<=5:=by
  have:=hv;unfold zCk at this;simp only[Bool.and_eq_true,zA6] at this;omega
 have HV1:=zh hv;have hin:=zEm (n:=k) (lo:=0) (hi:=n - 1) (by omega) (by omega)
 have hmk:=zMl n (by omega)
 have hck:(madeCells #[.bool false] n)[k]? = some (.bool false):=by simp[madeCells,hk,Nat.mod_one]
 go_enter Tryz.func29,Tryz.ntmps29;go_wp2_with (first|(go_at_call 27;refine(zAe _ _ _ _).mono ?_;rintro e w' ⟨rfl,rfl⟩)|(go_at_call 60;refine(zAv _ _ _ _ H.out).mono ?_;rintro e w1 ⟨rfl,he1⟩;have E1:=zh he1;clear he1))
 have HB1:=zh (by
  have:=Os.made (α:=Bool) w1 n 4 #[.bool false] false rfl rfl (by omega)
  have:=this.put (i:=k) (zr _) (by simpa using hk) (by simp) (⟨[],⟨rfl,rfl⟩,Own.nil _ _⟩:Ow _ _ [.bool true] true)
  simp only[GT.sz,zAc,Nat.mul_one,Nat.zero_add] at this
  rwa [World.setCell_alloc_at _ _ _ _ _ rfl] at this:Os w1.heap.size (w1.alloc (.cells ((madeCells #[.bool false] n).setIfInBounds k (.bool true)) 4)) (.slice (some ⟨w1.heap.size,0,none⟩) n n) ((List.replicate n false).set k true))
 clear hck;go_loopw [8] (fun i wr => ∃ j:Nat,j<=n/\i = .int .i64 j/\Os w1.heap.size wr (.slice (some ⟨w1.heap.size,0,none⟩) n n) (zA4 (zAb cs n) ((List.replicate n false).set k true) j)/\Ext w1 wr) (fun i _=>n - (intOf i).toNat)
 case atStart=>exact⟨0,Nat.zero_le _,rfl,HB1.out,(zr w1).alloc _⟩
 case round =>
  obtain⟨j,hj,rfl,ho,hq⟩:=hrel;have HO:=zh ho;have HQ:=zh hq;clear ho hq;by_cases hjt:j < n
  ·have HS:=zh (rfl:zA4 (zAb cs n) ((List.replicate n false).set k true) (j+1)=zA4 (zAs cs n) (zA4 (zAb cs n) ((List.replicate n false).set k true) j) n);have HL:=zh ((zF2 (cs:=cs) (n:=n) (k:=j)).trans (by simp):(zA4 (zAb cs n) ((List.replicate n false).set k true) j).length=n)
   obtain⟨wo,rfl⟩:∃ wo:World,wo=wr:=⟨_,rfl⟩;go_wp2;go_loopw [9] (fun i wr => ∃ q:Nat,q<=n/\i = .int .i64 q/\Os w1.heap.size wr (.slice (some ⟨w1.heap.size,0,none⟩) n n) (zA4 (zAs cs n) (zA4 (zAb cs n) ((List.replicate n false).set k true) j) q)/\Ext w1 wr) (fun i _=>n - (intOf i).toNat)
   case atStart=>exact⟨0,Nat.zero_le _,rfl,HO.out,HQ.out⟩
   case round =>
    obtain⟨j2,hj2,rfl,ho,hq⟩:=hrel;have HO2:=zh ho;have HQ2:=zh hq;clear ho hq HO HQ;by_cases hjt2:j2 < n
    ·have HS2:=zh (rfl:zA4 (zAs cs n) (zA4 (zAb cs n) ((List.replicate n false).set k true) j) (j2+1)=zA4 (zA9 cs j2) (zA4 (zAs cs n) (zA4 (zAb cs n) ((List.replicate n false).set k true) j) j2) n);have HL2:=zh ((zF3 (cs:=cs) (n:=n) (k:=j2)).trans HL.out:(zA4 (zAs cs n) (zA4 (zAb cs n) ((List.replicate n false).set k true) j) j2).length=n);obtain⟨wo2,rfl⟩:∃ wo:World,wo=wr:=⟨_,rfl⟩;go_wp2;go_loopw [10] (fun i wr => ∃ q:Nat,q<=n/\i = .int .i64 q/\Os w1.heap.size wr (.slice (some ⟨w1.heap.size,0,none⟩) n n) (zA4 (zA9 cs j2) (zA4 (zAs cs n) (zA4 (zAb cs n) ((List.replicate n false).set k true) j) j2) q)/\Ext w1 wr) (fun i _=>n - (intOf i).toNat)
     case atStart=>exact⟨0,Nat.zero_le _,rfl,HO2.out,HQ2.out⟩
     case round =>
      obtain⟨j3,hj3,rfl,ho,hq⟩:=hrel;have HO3:=zh ho;have HQ3:=zh hq;clear ho hq HO2 HQ2;by_cases hjt3:j3 < n
      ·have HS3:=zh (rfl:zA4 (zA9 cs j2) (zA4 (zAs cs n) (zA4 (zAb cs n) ((List.replicate n false).set k true) j) j2) (j3+1)=zA9 cs j2 (zA4 (zA9 cs j2) (zA4 (zAs cs n) (zA4 (zAb cs n) ((List.replicate n false).set k true) j) j2) j3) j3);have HL3:=zh ((zHi (cs:=cs) (n:=n) (a:=j2) (k:=j3)).trans HL2.out:(zA4 (zA9 cs j2) (zA4 (zAs cs n) (zA4 (zAb cs n) ((List.replicate n false).set k true) j) j2) j3).length=n);obtain⟨hz1,hz2,hz3⟩:=HO3.out.bool j2 (by rw[HL3.out];exact hjt2)
       obtain⟨hy1,hy2,_⟩:=HO3.out.bool j3 (by rw[HL3.out];exact hjt3)
       rw[Nat.zero_add] at hz1 hz2 hy1 hy2;cases hx:(zA4 (zA9 cs j2) (zA4 (zAs cs n) (zA4 (zAb cs n) ((List.replicate n false).set k true) j) j2) j3).getD j2 false
       ·cases hy:(zA4 (zA9 cs j2) (zA4 (zAs cs n) (zA4 (zAb cs n) ((List.replicate n false).set k true) j) j2) j3).getD j3 false
        ·have HV:Hid (zA9 cs j2 (zA4 (zA9 cs j2) (zA4 (zAs cs n) (zA4 (zAb cs n) ((List.replicate n false).set k true) j) j2) j3) j3=(zA4 (zA9 cs j2) (zA4 (zAs cs n) (zA4 (zAb cs n) ((List.replicate n false).set k true) j) j2) j3).set j2 false):=zh (zM6 hx hy);rw[hx] at hz1;rw[hy] at hy1;clear hx hy;go_wp2;go_roundw
         case rel=>exact⟨j3+1,by omega,by go_num,by show Os _ _ _ (zA9 cs j2 (zA4 (zA9 cs j2) (zA4 (zAs cs n) (zA4 (zAb cs n) ((List.replicate n false).set k true) j) j2) j3) j3);rw[HV.out];exact HO3.out.setB HQ3.out.sz j2 (by rw[HL3.out];exact hjt2) false,HQ3.out.set (by simp) _⟩
         case measure=>simp[intOf];omega
        ·have HV:Hid (zA9 cs j2 (zA4 (zA9 cs j2) (zA4 (zAs cs n) (zA4 (zAb cs n) ((List.replicate n false).set k true) j) j2) j3) j3=(zA4 (zA9 cs j2) (zA4 (zAs cs n) (zA4 (zAb cs n) ((List.replicate n false).set k true) j) j2) j3).set j2 (zFy cs j2 j3)):=zh (zM5 hx hy);rw[hx] at hz1;rw[hy] at hy1;clear hx hy;go_wp2_with (go_at_call 61;refine(zK3 _ _ n j2 j3 _ (H.out.ext (E1.out.tr HQ3.out)) HV1.out hjt2 hjt3).mono ?_;rintro e w2 ⟨rfl,he2⟩;obtain⟨hcb,hfb⟩:=zD9 he2;have E2:=zh he2;clear he2)
         go_roundw
         case rel=>exact⟨j3+1,by omega,by go_num,by show Os _ _ _ (zA9 cs j2 (zA4 (zA9 cs j2) (zA4 (zAs cs n) (zA4 (zAb cs n) ((List.replicate n false).set k true) j) j2) j3) j3);rw[HV.out];exact(HO3.out.ext E2.out).setB (HQ3.out.tr E2.out).sz j2 (by rw[HL3.out];exact hjt2) _,(HQ3.out.tr E2.out).set (by simp) _⟩
         case measure=>simp[intOf];omega
       ·have HV:Hid (zA9 cs j2 (zA4 (zA9 cs j2) (zA4 (zAs cs n) (zA4 (zAb cs n) ((List.replicate n false).set k true) j) j2) j3) j3=(zA4 (zA9 cs j2) (zA4 (zAs cs n) (zA4 (zAb cs n) ((List.replicate n false).set k true) j) j2) j3).set j2 true):=zh (zM7 hx);rw[hx] at hz1;clear hx hy1;go_wp2;go_roundw
        case rel=>exact⟨j3+1,by omega,by go_num,by show Os _ _ _ (zA9 cs j2 (zA4 (zA9 cs j2) (zA4 (zAs cs n) (zA4 (zAb cs n) ((List.replicate n false).set k true) j) j2) j3) j3);rw[HV.out];exact HO3.out.setB HQ3.out.sz j2 (by rw[HL3.out];exact hjt2) true,HQ3.out.set (by simp) _⟩
        case measure=>simp[intOf];omega
      ·obtain rfl:j3=n:=by omega
       go_wp2;go_roundw
       case rel=>exact⟨j2+1,by omega,by go_num,HO3.out,HQ3.out⟩
       case measure=>simp[intOf];omega
    ·obtain rfl:j2=n:=by omega
     go_wp2;go_roundw
     case rel=>exact⟨j+1,by omega,by go_num,HO2.out,HQ2.out⟩
     case measure=>simp[intOf];omega
  ·obtain rfl:j=n:=by omega
   go_wp2;go_ret;exact⟨_,rfl,HO.out.mono E1.out.sz,E1.out.tr HQ.out⟩
end Sk
