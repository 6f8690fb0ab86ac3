/- Contracts of functions of the given program. -/
import Derived.Test.YtfjimbnblklhdaaGreatNums
namespace Sk
open Go Go.Proofs Go.RowKit
set_option maxHeartbeats 400000
set_option maxRecDepth 100000
set_option linter.unusedVariables false
set_option linter.unusedSimpArgs false
def zO6(f t:Int)(c:Channel):Bool:=(c.From == f && c.To == t) || (c.Kind == 3 && c.From == t && c.To == f)
def zG1(cs:List Channel)(f t:Int):Bool:=(f == t) || cs.any (zO6 f t)
theorem zLn(v:Value)(x:Channel)(b1 b2:Nat)(f t:Int)(w:World)(h:Rv w v x)(hb1:b1 < w.heap.size)(hb2:b2 < w.heap.size)(hc1:w.cell? ⟨b1,0,none⟩=some (.int .i64 f))(hc2:w.cell? ⟨b2,0,none⟩=some (.int .i64 t)) :
  Calls Tryz.prog 76 #[v,.pointer (some ⟨b1,0,none⟩),.pointer (some ⟨b2,0,none⟩)] w fun e w'=>e = .returned (.bool (zO6 f t x))/\Ext w w':=by
 obtain⟨rfl,hr0,hr1,hr2,hr3⟩:=h.openChannel;clear h;cases hA:(x.From == f)<;>cases hB:(x.To == t)<;>cases hK:(x.Kind == 3)<;>cases hC:(x.From == t)<;>cases hD:(x.To == f)
 all_goals
  have hm:=zh (by unfold zO6;rw[hA,hB,hK,hC,hD]:zO6 f t x=_)
  go_enter Tryz.func76,Tryz.ntmps76;go_wp2;go_ret;exact⟨zA2 hm.out.symm,(zr w).alloc _⟩
theorem zN8(v:Value)(cs:List Channel)(f t:Int)(w:World)(h:Rs w v cs) :
  Calls Tryz.prog 41 #[v,.int .i64 f,.int .i64 t] w fun e w'=>e = .returned (.bool (zG1 cs f t))/\Ext w w':=by
 have e0:=zh (((zr w).alloc (.cells #[.int .i64 f] 3)).alloc (.cells #[.int .i64 t] 3));have H:=zh h;obtain⟨a,c,rfl,hl⟩:=h.form;clear h;cases hA:(f == t)
 ·have hm:=zh (by unfold zG1;rw[hA];rfl:zG1 cs f t=cs.any (zO6 f t))
  have HX:=zh (zJu 76 #[.pointer (some ⟨w.heap.size,0,none⟩),.pointer (some ⟨w.heap.size+1,0,none⟩)] (zO6 f t) _ cs _ (H.out.ext e0.out) (zCv Tryz.func76 (by kernel_rfl) (by kernel_rfl))
   (fun w1 v x he _ hv=>zLn v x _ _ f t w1 hv (by have:=he.sz;simp at this;omega) (by have:=he.sz;simp at this;omega) (by rw[(zDi he).1 _ _ (by simp;omega)];simp) (by rw[(zDi he).1 _ _ (by simp)];simp)))
  go_enter Tryz.func41,Tryz.ntmps41;go_wp2_with (go_at_call 75;refine HX.out.mono ?_;rintro e w' ⟨rfl,he⟩)
  go_ret;exact⟨zA2 hm.out.symm,e0.out.tr he⟩
 ·have hm:=zh (by unfold zG1;rw[hA];rfl:zG1 cs f t=true)
  go_enter Tryz.func41,Tryz.ntmps41;go_wp2;go_ret;exact⟨zA2 hm.out.symm,e0.out⟩
theorem zLh{α:Type}(p : α -> Bool){xs:List α}{k:Nat}{x : α}(hk:xs[k]? = some x):(xs.take (k+1)).any p=((xs.take k).any p || p x):=by
 rw[zAn hk,List.any_append];simp
theorem zMl(a b c:Bool):(a || (b || c))=((a || b) || c):=(Bool.or_assoc a b c).symm
theorem zK4(v:Value)(cs:List Channel)(m:Nat)(f t:Nat)(w:World)(h:Rs w v cs)(hv:zD3 cs m=true)(hf:f < m)(ht:t < m) :
  Calls Tryz.prog 46 #[v,.int .i64 m,.int .i64 f,.int .i64 t] w fun e w'=>e = .returned (.bool (zG1 cs f t))/\Ext w w':=by
 obtain⟨a,c,rfl,hl⟩:=h.form;have H:=zh h;clear h;have hm5:m<=5:=by
  have:=hv;unfold zD3 at this;simp only[Bool.and_eq_true,zA6] at this;omega
 have h1:=zFb (n:=f) (lo:=0) (hi:=m - 1) (by omega) (by omega)
 have h2:=zFb (n:=t) (lo:=0) (hi:=m - 1) (by omega) (by omega)
 go_enter Tryz.func46,Tryz.ntmps46;go_wp2_with (first|(go_at_call 22;refine(zAf _ _ _ _).mono ?_;rintro e w' ⟨rfl,rfl⟩)|(go_at_call 45;refine(zB0 _ _ _ _ H.out).mono ?_;rintro e w1 ⟨rfl,he1⟩;have E1:=zh he1;clear he1))
 go_loopw [9,10] (fun u i wr => ∃ k:Nat,k<=cs.length/\i = .int .i64 k/\u = .bool (((f:Int) == t) || (cs.take k).any (zO6 f t))/\Ext w wr) (fun _ i _=>cs.length - (intOf i).toNat)
 case atStart=>exact⟨0,Nat.zero_le _,rfl,by simp,E1.out⟩
 case round =>
  obtain⟨k,hk,rfl,rfl,hq⟩:=hrel;have HQ:=zh hq;clear hq;by_cases hlt:k < cs.length
  ·obtain⟨b,o,x,rfl,hb,hx,hc0,hc1,hc2,hc3,hr0,hr1,hr2,hr3,hv⟩:=(H.out.ext HQ.out).atChannel k hlt;clear H;have hst:=zh (zLh (zO6 f t) hx.out)
   generalize hg:(((f:Int) == t) || (cs.take k).any (zO6 f t))=acc at *
   have HG:=zh hg;clear hg;cases acc
   ·cases hA:(x.From == f)<;>cases hB:(x.To == t)<;>cases hK:(x.Kind == 3)<;>cases hC:(x.From == t)<;>cases hD:(x.To == f)
    all_goals
     have hm:=zh (by unfold zO6;rw[hA,hB,hK,hC,hD]:zO6 f t x=_)
     go_wp2;go_roundw
     case rel=>exact⟨k+1,by omega,by go_num,by rw[hst.out,zMl,HG.out,hm.out];rfl,(HQ.out.alloc _)⟩
     case measure=>simp[intOf];omega
   ·go_wp2;go_roundw
    case rel=>exact⟨k+1,by omega,by go_num,by rw[hst.out,zMl,HG.out];rfl,(HQ.out.alloc _)⟩
    case measure=>simp[intOf];omega
  ·obtain rfl:k=cs.length:=by omega
   rw[List.take_length];clear H;go_wp2;go_ret;exact⟨rfl,HQ.out⟩
def zA5{β:Type}(f : β -> Nat -> β)(b : β):Nat -> β
 | 0=>b
 | k+1=>f (zA5 f b k) k
theorem zDo{β:Type}{f : β -> Nat -> β}{b : β}(P : β -> Prop)(h0:P b)(hs:∀ x k,P x->P (f x k))(k:Nat):P (zA5 f b k):=by
 induction k with
 | zero=>exact h0
 | succ k ih=>exact hs _ _ ih
def zAa(cs:List Channel)(a:Nat)(out:List Bool)(b:Nat):List Bool:=out.set a (out.getD a false || (out.getD b false && zG1 cs a b))
def zAx(cs:List Channel)(n:Nat)(out:List Bool)(a:Nat):List Bool:=zA5 (zAa cs a) out n
def zAb(cs:List Channel)(n:Nat)(out:List Bool)(_:Nat):List Bool:=zA5 (zAx cs n) out n
def zBd(cs:List Channel)(n k:Nat):List Bool:=zA5 (zAb cs n) ((List.replicate n false).set k true) n
theorem zM3{cs:List Channel}{a b:Nat}{out:List Bool}(h:out.getD a false=true):zAa cs a out b=out.set a true:=by unfold zAa;rw[h];rfl
theorem zM2{cs:List Channel}{a b:Nat}{out:List Bool}(h:out.getD a false=false)(k:out.getD b false=false):zAa cs a out b=out.set a false:=by unfold zAa;rw[h,k];rfl
theorem zM1{cs:List Channel}{a b:Nat}{out:List Bool}(h:out.getD a false=false)(k:out.getD b false=true):zAa cs a out b=out.set a (zG1 cs a b):=by unfold zAa;rw[h,k];rfl
theorem zMv{cs:List Channel}{a:Nat}{out:List Bool}{b:Nat}:(zAa cs a out b).length=out.length:=List.length_set ..
theorem zHo{cs:List Channel}{n a:Nat}{out:List Bool}{k:Nat}:(zA5 (zAa cs a) out k).length=out.length :=
 zDo (fun x:List Bool=>x.length=out.length) rfl (fun x k h=>zMv.trans h) k
theorem zFa{cs:List Channel}{n:Nat}{out:List Bool}{k:Nat}:(zA5 (zAx cs n) out k).length=out.length :=
 zDo (fun x:List Bool=>x.length=out.length) rfl (fun x k h=>(zHo (n:=n)).trans h) k
theorem zF9{cs:List Channel}{n:Nat}{out:List Bool}{k:Nat}:(zA5 (zAb cs n) out k).length=out.length :=
 zDo (fun x:List Bool=>x.length=out.length) rfl (fun x k h=>zFa.trans h) k
theorem zCl(cs:List Channel)(n k:Nat):(zBd cs n k).length=n:=by
 unfold zBd;rw[zF9];simp
theorem zMk(xs:Nat)(hl:xs<=1048576)(u:World):(Instr.makeSlice 53 (.int .i64 xs) (.int .i64 xs)).run Tryz.prog u =
   .ok (.slice (some ⟨u.heap.size,0,none⟩) xs xs) (u.alloc (.cells (madeCells #[.bool false] (xs*1)) 4)):=by
 obtain⟨i0,hi,hz0,hz1,hz2⟩:=info_parts zPr;have h:=run_make (P:=Tryz.prog) u 53 4 i0 (.bool false) Tryz.underlying53 hi hz0 .i64 .i64 xs xs (by omega) (Int.le_refl _) (by rw[hz2];omega) (by omega)
 simpa [hz1,Value.cells] using h
theorem Os.mono{α:Type}[GT α]{L L':Nat}{w:World}{v:Value}{xs:List α}(h:Os L w v xs)(hl:L'<=L):Os L' w v xs:=by
 obtain⟨F,h,o⟩:=h;exact⟨F,h,o.mono hl⟩
theorem Os.bool{L:Nat}{w:World}{b o n c:Nat}{xs:List Bool}(h:Os L w (.slice (some ⟨b,o,none⟩) n c) xs)(k:Nat)(hk:k < xs.length) :
  w.cell? ⟨b,o+k,none⟩=some (.bool (xs.getD k false))/\w.frozen? ⟨b,o+k,none⟩=false/\b < w.heap.size:=by
 obtain⟨b',o',x,hb,hlt,hx,hc⟩:=h.rs.atBool k hk;cases hb;obtain⟨b2,o2,cs2,F2,x0,hb2,_,_,_,_,hf⟩:=h.at k hk;cases hb2;rw[List.getD_eq_getElem?_getD,hx.out];exact⟨hc,hf _,hlt⟩
theorem Os.setB{L:Nat}{w:World}{b n c:Nat}{xs:List Bool}(h:Os L w (.slice (some ⟨b,0,none⟩) n c) xs)(hL:L<=w.heap.size)(k:Nat)(hk:k < xs.length)(y:Bool) :
  Os L (w.setCell ⟨b,k,none⟩ (.bool y)) (.slice (some ⟨b,0,none⟩) n c) (xs.set k y):=by
 have:=h.put (i:=k) (zr _) hk hL (⟨[],⟨rfl,rfl⟩,Own.nil _ _⟩:Ow _ _ [.bool y] y)
 simpa only[GT.sz,zAe,Nat.mul_one,Nat.zero_add] using this
theorem zOo(v:Value)(cs:List Channel)(n k:Nat)(w:World)(h:Rs w v cs)(hn:n<=5)(hk:k < n) :
  Calls Tryz.prog 19 #[v,.int .i64 n,.int .i64 k] w fun e w' => ∃ v',e = .returned v'/\Os w.heap.size w' v' (zBd cs n k)/\Ext w w':=by
 obtain⟨a,c,rfl,hl⟩:=h.form;have H:=zh h;clear h;have hmk:=zMk n (by omega)
 have HB1:=zh (by
  have:=Os.made (α:=Bool) w n 4 #[.bool false] false rfl rfl (by omega)
  have:=this.put (i:=k) (zr _) (by simpa using hk) (by simp) (⟨[],⟨rfl,rfl⟩,Own.nil _ _⟩:Ow _ _ [.bool true] true)
  simp only[GT.sz,zAe,Nat.mul_one,Nat.zero_add] at this
  rwa [World.setCell_alloc_at _ _ _ _ _ rfl] at this:Os w.heap.size (w.alloc (.cells ((madeCells #[.bool false] n).setIfInBounds k (.bool true)) 4)) (.slice (some ⟨w.heap.size,0,none⟩) n n) ((List.replicate n false).set k true))
 have hck:(madeCells #[.bool false] n)[k]? = some (.bool false):=by simp[madeCells,hk,Nat.mod_one]
 go_enter Tryz.func19,Tryz.ntmps19;go_wp2;clear hck;go_loopw [16] (fun i wr => ∃ j:Nat,j<=n/\i = .int .i64 j/\Os w.heap.size wr (.slice (some ⟨w.heap.size,0,none⟩) n n) (zA5 (zAb cs n) ((List.replicate n false).set k true) j)/\Ext w wr) (fun i _=>n - (intOf i).toNat)
 case atStart=>exact⟨0,Nat.zero_le _,rfl,HB1.out,(zr w).alloc _⟩
 case round =>
  obtain⟨j,hj,rfl,ho,hq⟩:=hrel;have HO:=zh ho;have HQ:=zh hq;clear ho hq;by_cases hjt:j < n
  ·have HS:=zh (rfl:zA5 (zAb cs n) ((List.replicate n false).set k true) (j+1)=zA5 (zAx cs n) (zA5 (zAb cs n) ((List.replicate n false).set k true) j) n);have HL:=zh ((zF9 (cs:=cs) (n:=n) (k:=j)).trans (by simp):(zA5 (zAb cs n) ((List.replicate n false).set k true) j).length=n)
   obtain⟨wo,rfl⟩:∃ wo:World,wo=wr:=⟨_,rfl⟩;go_wp2;go_loopw [19] (fun i wr => ∃ q:Nat,q<=n/\i = .int .i64 q/\Os w.heap.size wr (.slice (some ⟨w.heap.size,0,none⟩) n n) (zA5 (zAx cs n) (zA5 (zAb cs n) ((List.replicate n false).set k true) j) q)/\Ext w wr) (fun i _=>n - (intOf i).toNat)
   case atStart=>exact⟨0,Nat.zero_le _,rfl,HO.out,HQ.out⟩
   case round =>
    obtain⟨j2,hj2,rfl,ho,hq⟩:=hrel;have HO2:=zh ho;have HQ2:=zh hq;clear ho hq HO HQ;by_cases hjt2:j2 < n
    ·have HS2:=zh (rfl:zA5 (zAx cs n) (zA5 (zAb cs n) ((List.replicate n false).set k true) j) (j2+1)=zA5 (zAa cs j2) (zA5 (zAx cs n) (zA5 (zAb cs n) ((List.replicate n false).set k true) j) j2) n);have HL2:=zh ((zFa (cs:=cs) (n:=n) (k:=j2)).trans HL.out:(zA5 (zAx cs n) (zA5 (zAb cs n) ((List.replicate n false).set k true) j) j2).length=n);obtain⟨wo2,rfl⟩:∃ wo:World,wo=wr:=⟨_,rfl⟩;go_wp2;go_loopw [23] (fun i wr => ∃ q:Nat,q<=n/\i = .int .i64 q/\Os w.heap.size wr (.slice (some ⟨w.heap.size,0,none⟩) n n) (zA5 (zAa cs j2) (zA5 (zAx cs n) (zA5 (zAb cs n) ((List.replicate n false).set k true) j) j2) q)/\Ext w wr) (fun i _=>n - (intOf i).toNat)
     case atStart=>exact⟨0,Nat.zero_le _,rfl,HO2.out,HQ2.out⟩
     case round =>
      obtain⟨j3,hj3,rfl,ho,hq⟩:=hrel;have HO3:=zh ho;have HQ3:=zh hq;clear ho hq HO2 HQ2;by_cases hjt3:j3 < n
      ·have HS3:=zh (rfl:zA5 (zAa cs j2) (zA5 (zAx cs n) (zA5 (zAb cs n) ((List.replicate n false).set k true) j) j2) (j3+1)=zAa cs j2 (zA5 (zAa cs j2) (zA5 (zAx cs n) (zA5 (zAb cs n) ((List.replicate n false).set k true) j) j2) j3) j3);have HL3:=zh ((zHo (cs:=cs) (n:=n) (a:=j2) (k:=j3)).trans HL2.out:(zA5 (zAa cs j2) (zA5 (zAx cs n) (zA5 (zAb cs n) ((List.replicate n false).set k true) j) j2) j3).length=n);obtain⟨hz1,hz2,hz3⟩:=HO3.out.bool j2 (by rw[HL3.out];exact hjt2)
       obtain⟨hy1,hy2,_⟩:=HO3.out.bool j3 (by rw[HL3.out];exact hjt3)
       rw[Nat.zero_add] at hz1 hz2 hy1 hy2;cases hx:(zA5 (zAa cs j2) (zA5 (zAx cs n) (zA5 (zAb cs n) ((List.replicate n false).set k true) j) j2) j3).getD j2 false
       ·cases hy:(zA5 (zAa cs j2) (zA5 (zAx cs n) (zA5 (zAb cs n) ((List.replicate n false).set k true) j) j2) j3).getD j3 false
        ·have HV:Hid (zAa cs j2 (zA5 (zAa cs j2) (zA5 (zAx cs n) (zA5 (zAb cs n) ((List.replicate n false).set k true) j) j2) j3) j3=(zA5 (zAa cs j2) (zA5 (zAx cs n) (zA5 (zAb cs n) ((List.replicate n false).set k true) j) j2) j3).set j2 false):=zh (zM2 hx hy);rw[hx] at hz1;rw[hy] at hy1;clear hx hy;go_wp2;go_roundw
         case rel=>exact⟨j3+1,by omega,by go_num,by show Os _ _ _ (zAa cs j2 (zA5 (zAa cs j2) (zA5 (zAx cs n) (zA5 (zAb cs n) ((List.replicate n false).set k true) j) j2) j3) j3);rw[HV.out];exact HO3.out.setB HQ3.out.sz j2 (by rw[HL3.out];exact hjt2) false,HQ3.out.set (by simp) _⟩
         case measure=>simp[intOf];omega
        ·have HV:Hid (zAa cs j2 (zA5 (zAa cs j2) (zA5 (zAx cs n) (zA5 (zAb cs n) ((List.replicate n false).set k true) j) j2) j3) j3=(zA5 (zAa cs j2) (zA5 (zAx cs n) (zA5 (zAb cs n) ((List.replicate n false).set k true) j) j2) j3).set j2 (zG1 cs j2 j3)):=zh (zM1 hx hy);rw[hx] at hz1;rw[hy] at hy1;clear hx hy;go_wp2_with (go_at_call 41;refine(zN8 _ _ _ _ _ (H.out.ext HQ3.out)).mono ?_;rintro e w2 ⟨rfl,he2⟩;obtain⟨hcb,hfb⟩:=zDi he2;have E2:=zh he2;clear he2)
         go_roundw
         case rel=>exact⟨j3+1,by omega,by go_num,by show Os _ _ _ (zAa cs j2 (zA5 (zAa cs j2) (zA5 (zAx cs n) (zA5 (zAb cs n) ((List.replicate n false).set k true) j) j2) j3) j3);rw[HV.out];exact(HO3.out.ext E2.out).setB (HQ3.out.tr E2.out).sz j2 (by rw[HL3.out];exact hjt2) _,(HQ3.out.tr E2.out).set (by simp) _⟩
         case measure=>simp[intOf];omega
       ·have HV:Hid (zAa cs j2 (zA5 (zAa cs j2) (zA5 (zAx cs n) (zA5 (zAb cs n) ((List.replicate n false).set k true) j) j2) j3) j3=(zA5 (zAa cs j2) (zA5 (zAx cs n) (zA5 (zAb cs n) ((List.replicate n false).set k true) j) j2) j3).set j2 true):=zh (zM3 hx);rw[hx] at hz1;clear hx hy1;go_wp2;go_roundw
        case rel=>exact⟨j3+1,by omega,by go_num,by show Os _ _ _ (zAa cs j2 (zA5 (zAa cs j2) (zA5 (zAx cs n) (zA5 (zAb cs n) ((List.replicate n false).set k true) j) j2) j3) j3);rw[HV.out];exact HO3.out.setB HQ3.out.sz j2 (by rw[HL3.out];exact hjt2) true,HQ3.out.set (by simp) _⟩
        case measure=>simp[intOf];omega
      ·obtain rfl:j3=n:=by omega
       go_wp2;go_roundw
       case rel=>exact⟨j2+1,by omega,by go_num,HO3.out,HQ3.out⟩
       case measure=>simp[intOf];omega
    ·obtain rfl:j2=n:=by omega
     go_wp2;go_roundw
     case rel=>exact⟨j+1,by omega,by go_num,HO2.out,HQ2.out⟩
     case measure=>simp[intOf];omega
  ·obtain rfl:j=n:=by omega
   go_wp2;go_ret;exact⟨_,rfl,HO.out,HQ.out⟩
theorem zIj(v:Value)(cs:List Channel)(n k:Nat)(w:World)(h:Rs w v cs)(hv:zD3 cs n=true)(hk:k < n) :
  Calls Tryz.prog 25 #[v,.int .i64 n,.int .i64 k] w fun e w' => ∃ v',e = .returned v'/\Os w.heap.size w' v' (zBd cs n k)/\Ext w w':=by
 obtain⟨a,c,rfl,hl⟩:=h.form;have H:=zh h;clear h;have hn:n<=5:=by
  have:=hv;unfold zD3 at this;simp only[Bool.and_eq_true,zA6] at this;omega
 have HV1:=zh hv;have hin:=zFb (n:=k) (lo:=0) (hi:=n - 1) (by omega) (by omega)
 have hmk:=zMk n (by omega)
 have hck:(madeCells #[.bool false] n)[k]? = some (.bool false):=by simp[madeCells,hk,Nat.mod_one]
 go_enter Tryz.func25,Tryz.ntmps25;go_wp2_with (first|(go_at_call 22;refine(zAf _ _ _ _).mono ?_;rintro e w' ⟨rfl,rfl⟩)|(go_at_call 45;refine(zB0 _ _ _ _ H.out).mono ?_;rintro e w1 ⟨rfl,he1⟩;have E1:=zh he1;clear he1))
 have HB1:=zh (by
  have:=Os.made (α:=Bool) w1 n 4 #[.bool false] false rfl rfl (by omega)
  have:=this.put (i:=k) (zr _) (by simpa using hk) (by simp) (⟨[],⟨rfl,rfl⟩,Own.nil _ _⟩:Ow _ _ [.bool true] true)
  simp only[GT.sz,zAe,Nat.mul_one,Nat.zero_add] at this
  rwa [World.setCell_alloc_at _ _ _ _ _ rfl] at this:Os w1.heap.size (w1.alloc (.cells ((madeCells #[.bool false] n).setIfInBounds k (.bool true)) 4)) (.slice (some ⟨w1.heap.size,0,none⟩) n n) ((List.replicate n false).set k true))
 clear hck;go_loopw [8] (fun i wr => ∃ j:Nat,j<=n/\i = .int .i64 j/\Os w1.heap.size wr (.slice (some ⟨w1.heap.size,0,none⟩) n n) (zA5 (zAb cs n) ((List.replicate n false).set k true) j)/\Ext w1 wr) (fun i _=>n - (intOf i).toNat)
 case atStart=>exact⟨0,Nat.zero_le _,rfl,HB1.out,(zr w1).alloc _⟩
 case round =>
  obtain⟨j,hj,rfl,ho,hq⟩:=hrel;have HO:=zh ho;have HQ:=zh hq;clear ho hq;by_cases hjt:j < n
  ·have HS:=zh (rfl:zA5 (zAb cs n) ((List.replicate n false).set k true) (j+1)=zA5 (zAx cs n) (zA5 (zAb cs n) ((List.replicate n false).set k true) j) n);have HL:=zh ((zF9 (cs:=cs) (n:=n) (k:=j)).trans (by simp):(zA5 (zAb cs n) ((List.replicate n false).set k true) j).length=n)
   obtain⟨wo,rfl⟩:∃ wo:World,wo=wr:=⟨_,rfl⟩;go_wp2;go_loopw [9] (fun i wr => ∃ q:Nat,q<=n/\i = .int .i64 q/\Os w1.heap.size wr (.slice (some ⟨w1.heap.size,0,none⟩) n n) (zA5 (zAx cs n) (zA5 (zAb cs n) ((List.replicate n false).set k true) j) q)/\Ext w1 wr) (fun i _=>n - (intOf i).toNat)
   case atStart=>exact⟨0,Nat.zero_le _,rfl,HO.out,HQ.out⟩
   case round =>
    obtain⟨j2,hj2,rfl,ho,hq⟩:=hrel;have HO2:=zh ho;have HQ2:=zh hq;clear ho hq HO HQ;by_cases hjt2:j2 < n
    ·have HS2:=zh (rfl:zA5 (zAx cs n) (zA5 (zAb cs n) ((List.replicate n false).set k true) j) (j2+1)=zA5 (zAa cs j2) (zA5 (zAx cs n) (zA5 (zAb cs n) ((List.replicate n false).set k true) j) j2) n);have HL2:=zh ((zFa (cs:=cs) (n:=n) (k:=j2)).trans HL.out:(zA5 (zAx cs n) (zA5 (zAb cs n) ((List.replicate n false).set k true) j) j2).length=n);obtain⟨wo2,rfl⟩:∃ wo:World,wo=wr:=⟨_,rfl⟩;go_wp2;go_loopw [10] (fun i wr => ∃ q:Nat,q<=n/\i = .int .i64 q/\Os w1.heap.size wr (.slice (some ⟨w1.heap.size,0,none⟩) n n) (zA5 (zAa cs j2) (zA5 (zAx cs n) (zA5 (zAb cs n) ((List.replicate n false).set k true) j) j2) q)/\Ext w1 wr) (fun i _=>n - (intOf i).toNat)
     case atStart=>exact⟨0,Nat.zero_le _,rfl,HO2.out,HQ2.out⟩
     case round =>
      obtain⟨j3,hj3,rfl,ho,hq⟩:=hrel;have HO3:=zh ho;have HQ3:=zh hq;clear ho hq HO2 HQ2;by_cases hjt3:j3 < n
      ·have HS3:=zh (rfl:zA5 (zAa cs j2) (zA5 (zAx cs n) (zA5 (zAb cs n) ((List.replicate n false).set k true) j) j2) (j3+1)=zAa cs j2 (zA5 (zAa cs j2) (zA5 (zAx cs n) (zA5 (zAb cs n) ((List.replicate n false).set k true) j) j2) j3) j3);have HL3:=zh ((zHo (cs:=cs) (n:=n) (a:=j2) (k:=j3)).trans HL2.out:(zA5 (zAa cs j2) (zA5 (zAx cs n) (zA5 (zAb cs n) ((List.replicate n false).set k true) j) j2) j3).length=n);obtain⟨hz1,hz2,hz3⟩:=HO3.out.bool j2 (by rw[HL3.out];exact hjt2)
       obtain⟨hy1,hy2,_⟩:=HO3.out.bool j3 (by rw[HL3.out];exact hjt3)
       rw[Nat.zero_add] at hz1 hz2 hy1 hy2;cases hx:(zA5 (zAa cs j2) (zA5 (zAx cs n) (zA5 (zAb cs n) ((List.replicate n false).set k true) j) j2) j3).getD j2 false
       ·cases hy:(zA5 (zAa cs j2) (zA5 (zAx cs n) (zA5 (zAb cs n) ((List.replicate n false).set k true) j) j2) j3).getD j3 false
        ·have HV:Hid (zAa cs j2 (zA5 (zAa cs j2) (zA5 (zAx cs n) (zA5 (zAb cs n) ((List.replicate n false).set k true) j) j2) j3) j3=(zA5 (zAa cs j2) (zA5 (zAx cs n) (zA5 (zAb cs n) ((List.replicate n false).set k true) j) j2) j3).set j2 false):=zh (zM2 hx hy);rw[hx] at hz1;rw[hy] at hy1;clear hx hy;go_wp2;go_roundw
         case rel=>exact⟨j3+1,by omega,by go_num,by show Os _ _ _ (zAa cs j2 (zA5 (zAa cs j2) (zA5 (zAx cs n) (zA5 (zAb cs n) ((List.replicate n false).set k true) j) j2) j3) j3);rw[HV.out];exact HO3.out.setB HQ3.out.sz j2 (by rw[HL3.out];exact hjt2) false,HQ3.out.set (by simp) _⟩
         case measure=>simp[intOf];omega
        ·have HV:Hid (zAa cs j2 (zA5 (zAa cs j2) (zA5 (zAx cs n) (zA5 (zAb cs n) ((List.replicate n false).set k true) j) j2) j3) j3=(zA5 (zAa cs j2) (zA5 (zAx cs n) (zA5 (zAb cs n) ((List.replicate n false).set k true) j) j2) j3).set j2 (zG1 cs j2 j3)):=zh (zM1 hx hy);rw[hx] at hz1;rw[hy] at hy1;clear hx hy;go_wp2_with (go_at_call 46;refine(zK4 _ _ n j2 j3 _ (H.out.ext (E1.out.tr HQ3.out)) HV1.out hjt2 hjt3).mono ?_;rintro e w2 ⟨rfl,he2⟩;obtain⟨hcb,hfb⟩:=zDi he2;have E2:=zh he2;clear he2)
         go_roundw
         case rel=>exact⟨j3+1,by omega,by go_num,by show Os _ _ _ (zAa cs j2 (zA5 (zAa cs j2) (zA5 (zAx cs n) (zA5 (zAb cs n) ((List.replicate n false).set k true) j) j2) j3) j3);rw[HV.out];exact(HO3.out.ext E2.out).setB (HQ3.out.tr E2.out).sz j2 (by rw[HL3.out];exact hjt2) _,(HQ3.out.tr E2.out).set (by simp) _⟩
         case measure=>simp[intOf];omega
       ·have HV:Hid (zAa cs j2 (zA5 (zAa cs j2) (zA5 (zAx cs n) (zA5 (zAb cs n) ((List.replicate n false).set k true) j) j2) j3) j3=(zA5 (zAa cs j2) (zA5 (zAx cs n) (zA5 (zAb cs n) ((List.replicate n false).set k true) j) j2) j3).set j2 true):=zh (zM3 hx);rw[hx] at hz1;clear hx hy1;go_wp2;go_roundw
        case rel=>exact⟨j3+1,by omega,by go_num,by show Os _ _ _ (zAa cs j2 (zA5 (zAa cs j2) (zA5 (zAx cs n) (zA5 (zAb cs n) ((List.replicate n false).set k true) j) j2) j3) j3);rw[HV.out];exact HO3.out.setB HQ3.out.sz j2 (by rw[HL3.out];exact hjt2) true,HQ3.out.set (by simp) _⟩
        case measure=>simp[intOf];omega
      ·obtain rfl:j3=n:=by omega
       go_wp2;go_roundw
       case rel=>exact⟨j2+1,by omega,by go_num,HO3.out,HQ3.out⟩
       case measure=>simp[intOf];omega
    ·obtain rfl:j2=n:=by omega
     go_wp2;go_roundw
     case rel=>exact⟨j+1,by omega,by go_num,HO2.out,HQ2.out⟩
     case measure=>simp[intOf];omega
  ·obtain rfl:j=n:=by omega
   go_wp2;go_ret;exact⟨_,rfl,HO.out.mono E1.out.sz,E1.out.tr HQ.out⟩
end Sk
