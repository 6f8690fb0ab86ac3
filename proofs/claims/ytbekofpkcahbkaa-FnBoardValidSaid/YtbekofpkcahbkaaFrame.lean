/- Contracts of functions of the given program. -/
import Derived.Laws.CopyOwn
import Derived.Lib.AppendZeros
import Derived.Test.YtbekofpkcahbkaaCv
import Derived.Test.YtbekofpkcahbkaaDrawW
import Derived.Test.YtbekofpkcahbkaaHw
namespace Sk
open Go Go.Proofs Go.RowKit
set_option maxHeartbeats 1000000
set_option maxRecDepth 100000
set_option linter.unusedVariables false
set_option linter.unusedSimpArgs false
theorem info_int:(Try.prog.info? 3).map (fun i=>(i.zero,i.size,i.bytes))=some (some (.int .i64 0),1,8):=by kernel_rfl
theorem make_int(xs:Nat)(hl:xs<=1048576)(u:World):(Instr.makeSlice 61 (.int .i64 xs) (.int .i64 xs)).run Try.prog u =
   .ok (.slice (some ⟨u.heap.size,0,none⟩) xs xs) (u.alloc (.cells (madeCells #[.int .i64 0] (xs*1)) 3)):=by
 obtain⟨i1,hi1,hq0,hq1,hq2⟩:=info_parts info_int;have h:=run_make (P:=Try.prog) u 61 3 i1 (.int .i64 0) Try.underlying61 hi1 hq0 .i64 .i64 xs xs (by omega) (Int.le_refl _) (by rw[hq2];omega) (by omega)
 simpa [hq1,Value.cells] using h
theorem Oa.sh0{α:Type}[GT α]{e:TypeId}{L:Nat}{w:World}{v:Value}{xs:List α}{F:List Nat}(h:Oa e L w v xs F):∃ a n c,v = .slice a n c:=by
 obtain⟨a,c,h,_⟩:=h.form;exact⟨a,_,c,h⟩
def zAk(xs:List Slot):List Int:=xs.flatMap fun s=>List.replicate s.Ticks.toNat s.Who
theorem zGm{xs:List Slot}{k:Nat}{x:Slot}(h:xs[k]? = some x):zAk (xs.take (k+1))=zAk (xs.take k)++List.replicate x.Ticks.toNat x.Who:=by
 unfold zAk;rw[zAn h];simp
theorem zC4{xs:List Slot}(h:∀ x∈xs,1<=x.Ticks/\x.Ticks<=20):((zAk xs).length:Int)=zEb xs xs.length:=by
 unfold zEb;rw[List.take_length]
 induction xs with
 | nil=>rfl
 | cons x xs ih =>
  have h1:=h x (List.mem_cons_self ..);have h2:=ih (fun y hy=>h y (List.mem_cons_of_mem _ hy))
  simp only[zAk,List.flatMap_cons,List.length_append,List.length_replicate,List.map_cons,List.sum_cons] at h2 ⊢;omega
theorem zI8{xs:List Slot}(h:∀ x∈xs,1<=x.Ticks/\x.Ticks<=20)(k:Nat):(zAk (xs.take k)).length<=20*xs.length:=by
 have h1:=zC4 (xs:=xs.take k) (fun x hx=>h x (List.mem_of_mem_take hx))
 have h2:=zF7 (xs:=xs.take k) (fun x hx=>h x (List.mem_of_mem_take hx)) _ (Nat.le_refl _)
 rw[List.length_take] at h2;rw[List.length_take] at h1;omega
set_option maxHeartbeats 1500000
def zGl(xs:List Slot):Nat:=(zAk xs).length
def zE4(xs:List Slot)(t:Int):Int:=(zAk xs).getD (t.toNat % zGl xs) 0
def zG5(xs:List Slot)(n:Int)(t:Int):Int:=(t.toNat / zGl xs*(zAk xs).count n+((zAk xs).take (t.toNat % zGl xs)).count n:Nat)
structure M.SL (xs:List Slot):Prop where
 len:1<=xs.length/\xs.length<=12
 tk:∀ x∈xs,1<=x.Ticks/\x.Ticks<=20
theorem M.SL.of{xs:List Slot}{n:Int}(h:zCa xs n=true):M.SL xs:=by
 obtain⟨h1,h2,_,h3⟩:=zD8 h;exact⟨⟨h1,h2⟩,fun x hx=>(h3 x hx).1⟩
theorem M.SL.fl{xs:List Slot}(h:M.SL xs):1<=zGl xs/\zGl xs<=240:=by
 have h1:=zC4 h.tk;have h2:=zF7 h.tk _ (Nat.le_refl _)
 have:=h.len
 unfold zGl;omega
theorem M.SL.fl_tk{xs:List Slot}(h:M.SL xs):(zGl xs:Int)=zEb xs xs.length:=zC4 h.tk
theorem zHt{xs:List Slot}{n t:Int}(ht:t<=1000000):0<=zG5 xs n t/\zG5 xs n t<=1000000:=by
 unfold zG5;refine⟨Int.natCast_nonneg _,?_⟩;have h1:((zAk xs).take (t.toNat % zGl xs)).count n<=t.toNat % zGl xs:=Nat.le_trans List.count_le_length (by rw[List.length_take];omega)
 have h2:(zAk xs).count n<=zGl xs:=List.count_le_length;have h3:t.toNat / zGl xs*(zAk xs).count n<=t.toNat / zGl xs*zGl xs:=Nat.mul_le_mul_left _ h2;have h4:=Nat.div_add_mod t.toNat (zGl xs);rw[Nat.mul_comm] at h4;omega
theorem zJ2{xs:List Slot}(h:M.SL xs)(t:Int):∃ x∈xs,zE4 xs t=x.Who:=by
 have hl:=h.fl;unfold zE4;have hlt:t.toNat % zGl xs < (zAk xs).length:=Nat.mod_lt _ hl.1;rw[List.getD_eq_getElem?_getD,List.getElem?_eq_getElem hlt,Option.getD_some];have hm:=List.getElem_mem hlt;obtain⟨x,hx,hm⟩:=List.mem_flatMap.1 hm;exact⟨x,hx,(List.mem_replicate.1 hm).2⟩
theorem zI7{xs:List Slot}(h:∀ x∈xs,1<=x.Ticks/\x.Ticks<=20){k r:Nat}{x:Slot}(hx:xs[k]? = some x)(h1:zEb xs k<=r)(h2:(r:Int) < zEb xs k+x.Ticks):(zAk xs)[r]? = some x.Who:=by
 have hk:=zAc hx;have hsp:zAk xs=zAk (xs.take k)++(List.replicate x.Ticks.toNat x.Who++zAk (xs.drop (k+1))):=by
  have e:xs=xs.take k++x::xs.drop (k+1):=by
   obtain⟨hl,rfl⟩:=List.getElem?_eq_some_iff.1 hx;rw[List.getElem_cons_drop,List.take_append_drop]
  conv=>lhs;rw[e]
  unfold zAk;simp
 have hl:=zC4 (xs:=xs.take k) (fun y hy=>h y (List.mem_of_mem_take hy))
 have hl2:zEb (xs.take k) (xs.take k).length=zEb xs k:=by unfold zEb;rw[List.take_length]
 rw[hl2] at hl;have hxt:=h x (List.mem_of_getElem? hx);rw[hsp,List.getElem?_append_right (by omega),List.getElem?_append_left (by rw[List.length_replicate];omega),List.getElem?_replicate,if_pos (by omega)]
theorem zE6(v:Value)(xs:List Slot)(N t:Int)(w:World)(h:Rs w v xs)(hv:zCa xs N=true)(ht0:0<=t)(ht:t<=1000000) :
  Calls Try.prog 72 #[v,.int .i64 N,.int .i64 t] w fun e w'=>e = .returned (.int .i64 (zE4 xs t))/\Ext w w':=by
 obtain⟨t',rfl⟩:∃ t':Nat,t=t':=⟨t.toNat,by omega⟩
 obtain⟨a,c,rfl,hl⟩:=h.form;have H:=zh h;have hall:=zD8 hv;have HV:=zh hv;have HS:=zh (M.SL.of hv);obtain⟨hx1,hx12,_,hxx⟩:=hall;have HT:=zh (zF7 (fun x hx=>(hxx x hx).1))
 have HXX:=zh hxx;have HIN:=zh (zF4 ht0 ht:zA5 t' 0 1000000=true);have hfl:=HS.out.fl;have HFT:=zh HS.out.fl_tk;obtain⟨T,hT⟩:∃ T,zGl xs=T:=⟨_,rfl⟩;rw[hT] at HFT hfl;have hmod:(t':Int).tmod (T:Int)=((t' % T:Nat):Int):=Int.ofNat_tmod _ _;have hne:(T:Int)≠0:=by omega
 obtain⟨r,hr⟩:∃ r,t' % T=r:=⟨_,rfl⟩;have hrT:r < T:=by rw[<- hr];exact Nat.mod_lt _ (by omega)
 have HW:Hid (zE4 xs t'=(zAk xs).getD r 0):=zh (by unfold zE4;rw[hT,Int.toNat_natCast,hr])
 rw[hr] at hmod;replace hT:=zh hT;clear h hv hxx hr;go_enter Try.func72,Try.ntmps72
 go_wp2_with (first
  | (go_at_call 86;refine(zDd _ xs N _ (H.out.ext HE1.out) HV.out).mono ?_;rintro e w2 ⟨rfl,he⟩;rw[<- HFT.out];have HE2:=zh (HE1.out.tr he);clear he)
  | (go_at_call 49;refine(zBl _ xs N w H.out).mono ?_;rintro e w1 ⟨rfl,he⟩;rw[HV.out];have HE1:=zh he;clear he)
  | (go_at_call 31;refine(zAa _ _ _ _).mono ?_;rintro e w' ⟨rfl,rfl⟩;rw[HIN.out]))
 go_loopw [7,8] (fun u i wr => ∃ k:Nat,k < xs.length/\i = .int .i64 k/\zEb xs k<=r/\u = .int .i64 (r - zEb xs k)/\Ext w wr) (fun _ i _=>xs.length - (intOf i).toNat)
 case atStart=>exact⟨0,by omega,rfl,by rw[zGz];omega,by simp[zGz],HE2.out⟩
 case round =>
  clear HE1 HE2;obtain⟨k,hk,rfl,hle,rfl,hq⟩:=hrel;have HQ:=zh hq;clear hq;obtain⟨b,o,x,rfl,hbl,hx,hc0,hc1,hr0,hr1,hvx⟩:=(H.out.ext HQ.out).atSlot k hk;have hb:=HT.out k (by omega)
  have hxt:=HXX.out x (List.mem_of_getElem? hx.out);have HN:=zh (zE3 hx.out);by_cases hge:x.Ticks<=r - zEb xs k
  ·have hk1:k+1 < xs.length:=by
    by_cases hlast:k+1=xs.length
    ·exfalso;have h1:=HN.out;rw[hlast,<- HFT.out] at h1;omega
    ·omega
   go_wp2;go_roundw
   case rel=>exact⟨k+1,hk1,by go_num,by rw[HN.out];omega,by rw[HN.out];congr 1;omega,HQ.out⟩
   case measure=>simp[intOf];omega
  ·have hlt:(r:Int) < zEb xs k+x.Ticks:=by omega
   have HF:=zh (zI7 HS.out.tk hx.out hle hlt);have HWX:Hid (zE4 xs t'=x.Who):=zh (by rw[HW.out,List.getD_eq_getElem?_getD,HF.out];rfl)
   go_wp2;go_ret;exact⟨by rw[HWX.out];first|done|rfl,HQ.out⟩
theorem zEn{A:List Int}{r T:Nat}{n x:Int}:((A++List.replicate T x).take r).count n=(A.take r).count n+if x=n then min T (r - A.length) else 0:=by
 rw[List.take_append,List.count_append,List.take_replicate,List.count_replicate];by_cases h:x=n
 ·simp[h];omega
 ·simp[h]
theorem zGd(v:Value)(xs:List Slot)(N n t:Int)(w:World)(h:Rs w v xs)(hv:zCa xs N=true)(hn0:0<=n)(hn:n < N)(ht0:0<=t)(ht:t<=1000000) :
  Calls Try.prog 74 #[v,.int .i64 N,.int .i64 n,.int .i64 t] w fun e w'=>e = .returned (.int .i64 (zG5 xs n t))/\Ext w w':=by
 obtain⟨t',rfl⟩:∃ t':Nat,t=t':=⟨t.toNat,by omega⟩
 obtain⟨a,c,rfl,hl⟩:=h.form;have H:=zh h;have hall:=zD8 hv;have HV:=zh hv;have HS:=zh (M.SL.of hv);obtain⟨hx1,hx12,hN,hxx⟩:=hall;have HT:=zh (zF7 (fun x hx=>(hxx x hx).1))
 have HXX:=zh hxx;have HIN:=zh (zF4 ht0 ht:zA5 t' 0 1000000=true);have HI2:=zh (zF4 hn0 (by omega):zA5 n 0 (N - 1)=true)
 have hfl:=HS.out.fl;have HFT:=zh HS.out.fl_tk;obtain⟨T,hT⟩:∃ T,zGl xs=T:=⟨_,rfl⟩;rw[hT] at HFT hfl;have hmod:(t':Int).tmod (T:Int)=((t' % T:Nat):Int):=Int.ofNat_tmod _ _;have hdiv:(t':Int).tdiv (T:Int)=((t' / T:Nat):Int):=Int.ofNat_tdiv _ _;have hne:(T:Int)≠0:=by omega
 obtain⟨r,hr⟩:∃ r,t' % T=r:=⟨_,rfl⟩;obtain⟨d,hd⟩:∃ d,t' / T=d:=⟨_,rfl⟩;have hrT:r < T:=by rw[<- hr];exact Nat.mod_lt _ (by omega)
 have hdT:d<=t':=by rw[<- hd];exact Nat.div_le_self _ _
 have HW:Hid (zG5 xs n t'=(d*(zAk xs).count n+((zAk xs).take r).count n:Nat)):=zh (by unfold zG5;rw[hT,Int.toNat_natCast,hr,hd])
 rw[hr] at hmod;rw[hd] at hdiv;replace hT:=zh hT;clear h hv hxx hr hd;go_enter Try.func74,Try.ntmps74
 go_wp2_with (first
  | (go_at_call 86;refine(zDd _ xs N _ (H.out.ext HE1.out) HV.out).mono ?_;rintro e w2 ⟨rfl,he⟩;rw[<- HFT.out];have HE2:=zh (HE1.out.tr he);clear he)
  | (go_at_call 49;refine(zBl _ xs N w H.out).mono ?_;rintro e w1 ⟨rfl,he⟩;rw[HV.out];have HE1:=zh he;clear he)
  | (go_at_call 31;refine(zAa _ _ _ _).mono ?_;rintro e w' ⟨rfl,rfl⟩;first|rw[HIN.out]|rw[HI2.out]))
 go_loopw [10,11,12,13] (fun v10 v11 v12 i wr => ∃ (k A B:Nat),k<=xs.length/\i = .int .i64 k/\v10 = .int .i64 A/\A=(zAk (xs.take k)).count n/\v11 = .int .i64 B/\B=((zAk (xs.take k)).take r).count n/\v12 = .int .i64 (zEb xs k)/\Ext w wr) (fun _ _ _ i _=>xs.length - (intOf i).toNat)
 case atStart=>exact⟨0,0,0,by omega,rfl,rfl,rfl,rfl,by simp[zAk],rfl,HE2.out⟩
 case round =>
  clear HE1 HE2;obtain⟨k,A,B,hk,rfl,rfl,hA,rfl,hB,rfl,hq⟩:=hrel;have HQ:=zh hq;have hAl:A<=240:=by rw[hA];exact Nat.le_trans List.count_le_length (Nat.le_trans (zI8 HS.out.tk k) (by omega))
  have hBl:B<=r:=by rw[hB];exact Nat.le_trans List.count_le_length (by rw[List.length_take];omega)
  replace hA:=zh hA;replace hB:=zh hB;clear hq;have hb:=HT.out k (by omega)
  obtain⟨tk,htk⟩:∃ tk:Nat,zEb xs k=tk:=⟨(zEb xs k).toNat,by omega⟩
  rw[htk] at hb;have HTK:Hid ((zAk (xs.take k)).length=tk):=zh (by
   have hl:=zC4 (xs:=xs.take k) (fun y hy=>HS.out.tk y (List.mem_of_mem_take hy))
   have hl2:zEb (xs.take k) (xs.take k).length=zEb xs k:=by unfold zEb;rw[List.take_length]
   rw[hl2] at hl
   omega)
  rw[htk];replace htk:=zh htk;by_cases hkt:k < xs.length
  ·obtain⟨b,o,x,rfl,hbl,hx,hc0,hc1,hr0,hr1,hvx⟩:=(H.out.ext HQ.out).atSlot k hkt;have hxt:=HXX.out x (List.mem_of_getElem? hx.out);have HN:=zh (zE3 hx.out);have HFN:=zh (zGm hx.out);obtain⟨X,hX⟩:∃ X:Nat,x.Ticks=X:=⟨x.Ticks.toNat,by omega⟩
   have hXn:x.Ticks.toNat=X:=by omega
   have hX1:1<=X:=by omega
   have hX2:X<=20:=by omega
   rw[hX] at hc1;rw[hXn] at HFN;have HXT:=zh hX;clear hX hXn hxt hvx hr1;by_cases hxn:x.Who=n
   ·have hxe:(x.Who == n)=true:=by simp[hxn]
    have hxn2:=zh hxn;clear hxn;obtain⟨mn,hmn,hmn2⟩:∃ mn:Int,(if (r:Int) - tk < X then (r:Int) - tk else (X:Int))=mn/\(((min X (r - tk):Nat):Int)=if 0 < mn then mn else 0) /\ -240<=mn/\mn<=240:=⟨_,rfl,by split<;>split<;>omega,by split<;>omega⟩
    obtain⟨hmx,hmb⟩:=hmn2;replace hmx:=hmx.symm;obtain⟨m,hm⟩:∃ m:Nat,min X (r - tk)=m:=⟨_,rfl⟩;rw[hm] at hmx;have hm20:m<=20:=by omega
    have HC:=zh (@zEn (zAk (xs.take k)) r X n x.Who);rw[if_pos hxn2.out,HTK.out,hm] at HC;clear hm;go_upto_region 12 with (fail)
    go_big_quiet (fail)
    go_wp2;go_roundw
    case rel=>exact⟨k+1,A+X,B+m,by omega,by go_num,by simp,by rw[HFN.out,List.count_append,<- hA.out,List.count_replicate,hxe];simp,by simp,by rw[HFN.out,HC.out,<- hB.out],by rw[HN.out,htk.out,HXT.out],HQ.out.drewN _⟩
    case measure=>simp[intOf];omega
   ·have hxe:(x.Who == n)=false:=by simpa using hxn
    have HC:=zh (@zEn (zAk (xs.take k)) r X n x.Who);rw[if_neg hxn] at HC;have hxe2:=zh hxe;clear hxn;go_wp2;go_roundw
    case rel=>exact⟨k+1,A,B,by omega,by go_num,rfl,by rw[HFN.out,List.count_append,<- hA.out,List.count_replicate,hxe2.out];simp,rfl,by rw[HFN.out,HC.out,<- hB.out];simp,by rw[HN.out,htk.out,HXT.out],HQ.out⟩
    case measure=>simp[intOf];omega
  ·obtain rfl:k=xs.length:=by omega
   rw[List.take_length] at hA hB;have hmul:(d:Int)*(A:Int)=((d*A:Nat):Int):=by simp
   have hmb:d*A<=1000000*240:=Nat.mul_le_mul (by omega) (by omega)
   obtain⟨m,hm2⟩:∃ m,d*A=m:=⟨_,rfl⟩;have HWX:Hid (zG5 xs n t'=(m:Int)+B):=zh (by rw[HW.out,<- hA.out,<- hB.out,hm2];simp)
   rw[hm2] at hmul hmb;clear hm2;go_wp2;go_ret;exact⟨by rw[HWX.out];first|done|rfl,HQ.out⟩
theorem zFs(z:Array Value)(n:Nat):(Builtin.zeroCells z n).size=n*z.size:=by
 have key:∀ n,(Builtin.zeroCells z n).size=n*z.size:=by
  intro n;unfold Builtin.zeroCells;simp
 exact key n
def zBg(x:Hold)(k s m:Int):Hold × Int :=
 if k=1 then (⟨[m]⟩,0) else if (x.Lst.length:Int) < s then (⟨x.Lst ++ [m]⟩,0) else (x,zI4 (k == 3))
def zB9(x:Hold)(k:Int):Hold × Int :=
 match x.Lst with
 | []=>(x,-1)
 | m::rest=>if k=1 then (x,m) else (⟨rest⟩,m)
theorem M.send1{x:Hold}{k s m:Int}(h:k=1):zBg x k s m=(⟨[m]⟩,0):=if_pos h
theorem M.send2{x:Hold}{k s m:Int}(h:¬ k=1)(h2:(x.Lst.length:Int) < s):zBg x k s m=(⟨x.Lst ++ [m]⟩,0):=by unfold zBg;rw[if_neg h,if_pos h2]
theorem M.send3{x:Hold}{k s m:Int}(h:¬ k=1)(h2:¬ (x.Lst.length:Int) < s):zBg x k s m=(x,zI4 (k == 3)):=by unfold zBg;rw[if_neg h,if_neg h2]
theorem M.take0{x:Hold}{k:Int}(h:x.Lst = []):zB9 x k=(x,-1):=by unfold zB9;rw[h]
theorem M.take1{x:Hold}{k m:Int}{r:List Int}(h:x.Lst=m::r)(hk:k=1):zB9 x k=(x,m):=by unfold zB9;rw[h];exact if_pos hk
theorem M.take2{x:Hold}{k m:Int}{r:List Int}(h:x.Lst=m::r)(hk:¬ k=1):zB9 x k=(⟨r⟩,m):=by unfold zB9;rw[h];exact if_neg hk
theorem Ov.hold{L:Nat}{w:World}{v:Value}{xs:List Int}(h:Os L w v xs):Ov L w (.agg #[v]) (⟨xs⟩:Hold):=by
 obtain⟨F,h,ho⟩:=h;exact⟨[v],F,rfl,⟨v,rfl,h⟩,ho⟩
theorem Os.lit1(w:World)(x:Int)(hr:rng x):Os w.heap.size (w.alloc (.cells #[.int .i64 x] 3)) (.slice (some ⟨w.heap.size,0,none⟩) 1 1) [x]:=by
 have h:=Oa.lit (α:=Int) 3 w [.int .i64 x] [x] (n:=1) rfl (by simp[GT.sz]) (by simp) (Row.lit1 (cs:=[_]) ⟨rfl,hr,rfl⟩) (fun k hk=>by cases hk)
 exact h.os (Own.nil _ _)
theorem Os.setLow{α:Type}[GT α]{L:Nat}{w:World}{v:Value}{xs:List α}(h:Os L w v xs){p:Addr}(hp:p.block < L)(u:Value):Os L (w.setCell p u) v xs:=by
 obtain⟨F,h1,h2⟩:=h;exact⟨F,h1.set (fun hm=>by have:=(h2.2 _ hm).1;omega) u,h2.set p u⟩
theorem zB5{w:World}{b o k j:Nat}{u:Value}(h:b≠k):(w.setCell ⟨k,j,none⟩ u).cell? ⟨b,o,none⟩=w.cell? ⟨b,o,none⟩:=World.cell?_of_block (zA3 h)
end Sk
