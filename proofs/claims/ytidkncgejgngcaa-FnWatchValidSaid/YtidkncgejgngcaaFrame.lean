/- Contracts of functions of the given program. -/
import Derived.Laws.CopyOwn
import Derived.Test.YtidkncgejgngcaaDrawW
import Derived.Test.YtidkncgejgngcaaHw
import Derived.Test.YtidkncgejgngcaaSetupS
import Derived.Test.YtidkncgejgngcaaMachV
namespace Sk
open Go Go.Proofs Go.RowKit
set_option maxHeartbeats 1000000
set_option maxRecDepth 100000
set_option linter.unusedVariables false
set_option linter.unusedSimpArgs false
theorem info_int:(Try.prog.info? 3).map (fun i=>(i.zero,i.size,i.bytes))=some (some (.int .i64 0),1,8):=by kernel_rfl
theorem make_int(xs:Nat)(hl:xs<=1048576)(u:World):(Instr.makeSlice 55 (.int .i64 xs) (.int .i64 xs)).run Try.prog u =
   .ok (.slice (some ⟨u.heap.size,0,none⟩) xs xs) (u.alloc (.cells (madeCells #[.int .i64 0] (xs*1)) 3)):=by
 obtain⟨i1,hi1,hq0,hq1,hq2⟩:=info_parts info_int;have h:=run_make (P:=Try.prog) u 55 3 i1 (.int .i64 0) Try.underlying55 hi1 hq0 .i64 .i64 xs xs (by omega) (Int.le_refl _) (by rw[hq2];omega) (by omega)
 simpa [hq1,Value.cells] using h
theorem Oa.sh0{α:Type}[GT α]{e:TypeId}{L:Nat}{w:World}{v:Value}{xs:List α}{F:List Nat}(h:Oa e L w v xs F):∃ a n c,v = .slice a n c:=by
 obtain⟨a,c,h,_⟩:=h.form;exact⟨a,_,c,h⟩
def zAh(xs:List Slot):List Int:=xs.flatMap fun s=>List.replicate s.Ticks.toNat s.Who
theorem zGl{xs:List Slot}{k:Nat}{x:Slot}(h:xs[k]? = some x):zAh (xs.take (k+1))=zAh (xs.take k)++List.replicate x.Ticks.toNat x.Who:=by
 unfold zAh;rw[zAr h];simp
theorem zC0{xs:List Slot}(h:∀ x∈xs,1<=x.Ticks/\x.Ticks<=20):((zAh xs).length:Int)=zE9 xs xs.length:=by
 unfold zE9;rw[List.take_length]
 induction xs with
 | nil=>rfl
 | cons x xs ih =>
  have h1:=h x (List.mem_cons_self ..);have h2:=ih (fun y hy=>h y (List.mem_cons_of_mem _ hy))
  simp only[zAh,List.flatMap_cons,List.length_append,List.length_replicate,List.map_cons,List.sum_cons] at h2 ⊢;omega
theorem zHz{xs:List Slot}(h:∀ x∈xs,1<=x.Ticks/\x.Ticks<=20)(k:Nat):(zAh (xs.take k)).length<=20*xs.length:=by
 have h1:=zC0 (xs:=xs.take k) (fun x hx=>h x (List.mem_of_mem_take hx))
 have h2:=zF8 (xs:=xs.take k) (fun x hx=>h x (List.mem_of_mem_take hx)) _ (Nat.le_refl _)
 rw[List.length_take] at h2;rw[List.length_take] at h1;omega
set_option maxHeartbeats 1500000
def zGk(xs:List Slot):Nat:=(zAh xs).length
def zE3(xs:List Slot)(t:Int):Int:=(zAh xs).getD (t.toNat % zGk xs) 0
def zG4(xs:List Slot)(n:Int)(t:Int):Int:=(t.toNat / zGk xs*(zAh xs).count n+((zAh xs).take (t.toNat % zGk xs)).count n:Nat)
structure M.SL (xs:List Slot):Prop where
 len:1<=xs.length/\xs.length<=12
 tk:∀ x∈xs,1<=x.Ticks/\x.Ticks<=20
theorem M.SL.of{xs:List Slot}{n:Int}(h:zC6 xs n=true):M.SL xs:=by
 obtain⟨h1,h2,_,h3⟩:=zD6 h;exact⟨⟨h1,h2⟩,fun x hx=>(h3 x hx).1⟩
theorem M.SL.fl{xs:List Slot}(h:M.SL xs):1<=zGk xs/\zGk xs<=240:=by
 have h1:=zC0 h.tk;have h2:=zF8 h.tk _ (Nat.le_refl _)
 have:=h.len
 unfold zGk;omega
theorem M.SL.fl_tk{xs:List Slot}(h:M.SL xs):(zGk xs:Int)=zE9 xs xs.length:=zC0 h.tk
theorem zHn{xs:List Slot}{n t:Int}(ht:t<=1000000):0<=zG4 xs n t/\zG4 xs n t<=1000000:=by
 unfold zG4;refine⟨Int.natCast_nonneg _,?_⟩;have h1:((zAh xs).take (t.toNat % zGk xs)).count n<=t.toNat % zGk xs:=Nat.le_trans List.count_le_length (by rw[List.length_take];omega)
 have h2:(zAh xs).count n<=zGk xs:=List.count_le_length;have h3:t.toNat / zGk xs*(zAh xs).count n<=t.toNat / zGk xs*zGk xs:=Nat.mul_le_mul_left _ h2;have h4:=Nat.div_add_mod t.toNat (zGk xs);rw[Nat.mul_comm] at h4;omega
theorem zIz{xs:List Slot}(h:M.SL xs)(t:Int):∃ x∈xs,zE3 xs t=x.Who:=by
 have hl:=h.fl;unfold zE3;have hlt:t.toNat % zGk xs < (zAh xs).length:=Nat.mod_lt _ hl.1;rw[List.getD_eq_getElem?_getD,List.getElem?_eq_getElem hlt,Option.getD_some];have hm:=List.getElem_mem hlt;obtain⟨x,hx,hm⟩:=List.mem_flatMap.1 hm;exact⟨x,hx,(List.mem_replicate.1 hm).2⟩
theorem zHy{xs:List Slot}(h:∀ x∈xs,1<=x.Ticks/\x.Ticks<=20){k r:Nat}{x:Slot}(hx:xs[k]? = some x)(h1:zE9 xs k<=r)(h2:(r:Int) < zE9 xs k+x.Ticks):(zAh xs)[r]? = some x.Who:=by
 have hk:=zAe hx;have hsp:zAh xs=zAh (xs.take k)++(List.replicate x.Ticks.toNat x.Who++zAh (xs.drop (k+1))):=by
  have e:xs=xs.take k++x::xs.drop (k+1):=by
   obtain⟨hl,rfl⟩:=List.getElem?_eq_some_iff.1 hx;rw[List.getElem_cons_drop,List.take_append_drop]
  conv=>lhs;rw[e]
  unfold zAh;simp
 have hl:=zC0 (xs:=xs.take k) (fun y hy=>h y (List.mem_of_mem_take hy))
 have hl2:zE9 (xs.take k) (xs.take k).length=zE9 xs k:=by unfold zE9;rw[List.take_length]
 rw[hl2] at hl;have hxt:=h x (List.mem_of_getElem? hx);rw[hsp,List.getElem?_append_right (by omega),List.getElem?_append_left (by rw[List.length_replicate];omega),List.getElem?_replicate,if_pos (by omega)]
theorem zE6(v:Value)(xs:List Slot)(N t:Int)(w:World)(h:Rs w v xs)(hv:zC6 xs N=true)(ht0:0<=t)(ht:t<=1000000) :
  Calls Try.prog 71 #[v,.int .i64 N,.int .i64 t] w fun e w'=>e = .returned (.int .i64 (zE3 xs t))/\Ext w w':=by
 obtain⟨t',rfl⟩:∃ t':Nat,t=t':=⟨t.toNat,by omega⟩
 obtain⟨a,c,rfl,hl⟩:=h.form;have H:=zh h;have hall:=zD6 hv;have HV:=zh hv;have HS:=zh (M.SL.of hv);obtain⟨hx1,hx12,_,hxx⟩:=hall;have HT:=zh (zF8 (fun x hx=>(hxx x hx).1))
 have HXX:=zh hxx;have HIN:=zh (zF5 ht0 ht:zA6 t' 0 1000000=true);have hfl:=HS.out.fl;have HFT:=zh HS.out.fl_tk;obtain⟨T,hT⟩:∃ T,zGk xs=T:=⟨_,rfl⟩;rw[hT] at HFT hfl;have hmod:(t':Int).tmod (T:Int)=((t' % T:Nat):Int):=Int.ofNat_tmod _ _;have hne:(T:Int)≠0:=by omega
 obtain⟨r,hr⟩:∃ r,t' % T=r:=⟨_,rfl⟩;have hrT:r < T:=by rw[<- hr];exact Nat.mod_lt _ (by omega)
 have HW:Hid (zE3 xs t'=(zAh xs).getD r 0):=zh (by unfold zE3;rw[hT,Int.toNat_natCast,hr])
 rw[hr] at hmod;replace hT:=zh hT;clear h hv hxx hr;go_enter Try.func71,Try.ntmps71
 go_wp2_with (first
  | (go_at_call 85;refine(zDa _ xs N _ (H.out.ext HE1.out) HV.out).mono ?_;rintro e w2 ⟨rfl,he⟩;rw[<- HFT.out];have HE2:=zh (HE1.out.tr he);clear he)
  | (go_at_call 49;refine(zBf _ xs N w H.out).mono ?_;rintro e w1 ⟨rfl,he⟩;rw[HV.out];have HE1:=zh he;clear he)
  | (go_at_call 27;refine(zA8 _ _ _ _).mono ?_;rintro e w' ⟨rfl,rfl⟩;rw[HIN.out]))
 go_loopw [7,8] (fun u i wr => ∃ k:Nat,k < xs.length/\i = .int .i64 k/\zE9 xs k<=r/\u = .int .i64 (r - zE9 xs k)/\Ext w wr) (fun _ i _=>xs.length - (intOf i).toNat)
 case atStart=>exact⟨0,by omega,rfl,by rw[zGx];omega,by simp[zGx],HE2.out⟩
 case round =>
  clear HE1 HE2;obtain⟨k,hk,rfl,hle,rfl,hq⟩:=hrel;have HQ:=zh hq;clear hq;obtain⟨b,o,x,rfl,hbl,hx,hc0,hc1,hr0,hr1,hvx⟩:=(H.out.ext HQ.out).atSlot k hk;have hb:=HT.out k (by omega)
  have hxt:=HXX.out x (List.mem_of_getElem? hx.out);have HN:=zh (zE2 hx.out);by_cases hge:x.Ticks<=r - zE9 xs k
  ·have hk1:k+1 < xs.length:=by
    by_cases hlast:k+1=xs.length
    ·exfalso;have h1:=HN.out;rw[hlast,<- HFT.out] at h1;omega
    ·omega
   go_wp2;go_roundw
   case rel=>exact⟨k+1,hk1,by go_num,by rw[HN.out];omega,by rw[HN.out];congr 1;omega,HQ.out⟩
   case measure=>simp[intOf];omega
  ·have hlt:(r:Int) < zE9 xs k+x.Ticks:=by omega
   have HF:=zh (zHy HS.out.tk hx.out hle hlt);have HWX:Hid (zE3 xs t'=x.Who):=zh (by rw[HW.out,List.getD_eq_getElem?_getD,HF.out];rfl)
   go_wp2;go_ret;exact⟨by rw[HWX.out];first|done|rfl,HQ.out⟩
theorem zEk{A:List Int}{r T:Nat}{n x:Int}:((A++List.replicate T x).take r).count n=(A.take r).count n+if x=n then min T (r - A.length) else 0:=by
 rw[List.take_append,List.count_append,List.take_replicate,List.count_replicate];by_cases h:x=n
 ·simp[h];omega
 ·simp[h]
theorem zGe(v:Value)(xs:List Slot)(N n t:Int)(w:World)(h:Rs w v xs)(hv:zC6 xs N=true)(hn0:0<=n)(hn:n < N)(ht0:0<=t)(ht:t<=1000000) :
  Calls Try.prog 73 #[v,.int .i64 N,.int .i64 n,.int .i64 t] w fun e w'=>e = .returned (.int .i64 (zG4 xs n t))/\Ext w w':=by
 obtain⟨t',rfl⟩:∃ t':Nat,t=t':=⟨t.toNat,by omega⟩
 obtain⟨a,c,rfl,hl⟩:=h.form;have H:=zh h;have hall:=zD6 hv;have HV:=zh hv;have HS:=zh (M.SL.of hv);obtain⟨hx1,hx12,hN,hxx⟩:=hall;have HT:=zh (zF8 (fun x hx=>(hxx x hx).1))
 have HXX:=zh hxx;have HIN:=zh (zF5 ht0 ht:zA6 t' 0 1000000=true);have HI2:=zh (zF5 hn0 (by omega):zA6 n 0 (N - 1)=true)
 have hfl:=HS.out.fl;have HFT:=zh HS.out.fl_tk;obtain⟨T,hT⟩:∃ T,zGk xs=T:=⟨_,rfl⟩;rw[hT] at HFT hfl;have hmod:(t':Int).tmod (T:Int)=((t' % T:Nat):Int):=Int.ofNat_tmod _ _;have hdiv:(t':Int).tdiv (T:Int)=((t' / T:Nat):Int):=Int.ofNat_tdiv _ _;have hne:(T:Int)≠0:=by omega
 obtain⟨r,hr⟩:∃ r,t' % T=r:=⟨_,rfl⟩;obtain⟨d,hd⟩:∃ d,t' / T=d:=⟨_,rfl⟩;have hrT:r < T:=by rw[<- hr];exact Nat.mod_lt _ (by omega)
 have hdT:d<=t':=by rw[<- hd];exact Nat.div_le_self _ _
 have HW:Hid (zG4 xs n t'=(d*(zAh xs).count n+((zAh xs).take r).count n:Nat)):=zh (by unfold zG4;rw[hT,Int.toNat_natCast,hr,hd])
 rw[hr] at hmod;rw[hd] at hdiv;replace hT:=zh hT;clear h hv hxx hr hd;go_enter Try.func73,Try.ntmps73
 go_wp2_with (first
  | (go_at_call 85;refine(zDa _ xs N _ (H.out.ext HE1.out) HV.out).mono ?_;rintro e w2 ⟨rfl,he⟩;rw[<- HFT.out];have HE2:=zh (HE1.out.tr he);clear he)
  | (go_at_call 49;refine(zBf _ xs N w H.out).mono ?_;rintro e w1 ⟨rfl,he⟩;rw[HV.out];have HE1:=zh he;clear he)
  | (go_at_call 27;refine(zA8 _ _ _ _).mono ?_;rintro e w' ⟨rfl,rfl⟩;first|rw[HIN.out]|rw[HI2.out]))
 go_loopw [10,11,12,13] (fun v10 v11 v12 i wr => ∃ (k A B:Nat),k<=xs.length/\i = .int .i64 k/\v10 = .int .i64 A/\A=(zAh (xs.take k)).count n/\v11 = .int .i64 B/\B=((zAh (xs.take k)).take r).count n/\v12 = .int .i64 (zE9 xs k)/\Ext w wr) (fun _ _ _ i _=>xs.length - (intOf i).toNat)
 case atStart=>exact⟨0,0,0,by omega,rfl,rfl,rfl,rfl,by simp[zAh],rfl,HE2.out⟩
 case round =>
  clear HE1 HE2;obtain⟨k,A,B,hk,rfl,rfl,hA,rfl,hB,rfl,hq⟩:=hrel;have HQ:=zh hq;have hAl:A<=240:=by rw[hA];exact Nat.le_trans List.count_le_length (Nat.le_trans (zHz HS.out.tk k) (by omega))
  have hBl:B<=r:=by rw[hB];exact Nat.le_trans List.count_le_length (by rw[List.length_take];omega)
  replace hA:=zh hA;replace hB:=zh hB;clear hq;have hb:=HT.out k (by omega)
  obtain⟨tk,htk⟩:∃ tk:Nat,zE9 xs k=tk:=⟨(zE9 xs k).toNat,by omega⟩
  rw[htk] at hb;have HTK:Hid ((zAh (xs.take k)).length=tk):=zh (by
   have hl:=zC0 (xs:=xs.take k) (fun y hy=>HS.out.tk y (List.mem_of_mem_take hy))
   have hl2:zE9 (xs.take k) (xs.take k).length=zE9 xs k:=by unfold zE9;rw[List.take_length]
   rw[hl2] at hl
   omega)
  rw[htk];replace htk:=zh htk;by_cases hkt:k < xs.length
  ·obtain⟨b,o,x,rfl,hbl,hx,hc0,hc1,hr0,hr1,hvx⟩:=(H.out.ext HQ.out).atSlot k hkt;have hxt:=HXX.out x (List.mem_of_getElem? hx.out);have HN:=zh (zE2 hx.out);have HFN:=zh (zGl hx.out);obtain⟨X,hX⟩:∃ X:Nat,x.Ticks=X:=⟨x.Ticks.toNat,by omega⟩
   have hXn:x.Ticks.toNat=X:=by omega
   have hX1:1<=X:=by omega
   have hX2:X<=20:=by omega
   rw[hX] at hc1;rw[hXn] at HFN;have HXT:=zh hX;clear hX hXn hxt hvx hr1;by_cases hxn:x.Who=n
   ·have hxe:(x.Who == n)=true:=by simp[hxn]
    have hxn2:=zh hxn;clear hxn;obtain⟨mn,hmn,hmn2⟩:∃ mn:Int,(if (r:Int) - tk < X then (r:Int) - tk else (X:Int))=mn/\(((min X (r - tk):Nat):Int)=if 0 < mn then mn else 0) /\ -240<=mn/\mn<=240:=⟨_,rfl,by split<;>split<;>omega,by split<;>omega⟩
    obtain⟨hmx,hmb⟩:=hmn2;replace hmx:=hmx.symm;obtain⟨m,hm⟩:∃ m:Nat,min X (r - tk)=m:=⟨_,rfl⟩;rw[hm] at hmx;have hm20:m<=20:=by omega
    have HC:=zh (@zEk (zAh (xs.take k)) r X n x.Who);rw[if_pos hxn2.out,HTK.out,hm] at HC;clear hm;go_upto_region 12 with (fail)
    go_big_quiet (fail)
    go_wp2;go_roundw
    case rel=>exact⟨k+1,A+X,B+m,by omega,by go_num,by simp,by rw[HFN.out,List.count_append,<- hA.out,List.count_replicate,hxe];simp,by simp,by rw[HFN.out,HC.out,<- hB.out],by rw[HN.out,htk.out,HXT.out],HQ.out.drewN _⟩
    case measure=>simp[intOf];omega
   ·have hxe:(x.Who == n)=false:=by simpa using hxn
    have HC:=zh (@zEk (zAh (xs.take k)) r X n x.Who);rw[if_neg hxn] at HC;have hxe2:=zh hxe;clear hxn;go_wp2;go_roundw
    case rel=>exact⟨k+1,A,B,by omega,by go_num,rfl,by rw[HFN.out,List.count_append,<- hA.out,List.count_replicate,hxe2.out];simp,rfl,by rw[HFN.out,HC.out,<- hB.out];simp,by rw[HN.out,htk.out,HXT.out],HQ.out⟩
    case measure=>simp[intOf];omega
  ·obtain rfl:k=xs.length:=by omega
   rw[List.take_length] at hA hB;have hmul:(d:Int)*(A:Int)=((d*A:Nat):Int):=by simp
   have hmb:d*A<=1000000*240:=Nat.mul_le_mul (by omega) (by omega)
   obtain⟨m,hm2⟩:∃ m,d*A=m:=⟨_,rfl⟩;have HWX:Hid (zG4 xs n t'=(m:Int)+B):=zh (by rw[HW.out,<- hA.out,<- hB.out,hm2];simp)
   rw[hm2] at hmul hmb;clear hm2;go_wp2;go_ret;exact⟨by rw[HWX.out];first|done|rfl,HQ.out⟩
def zBb(x:Hold)(k s m:Int):Hold × Int :=
 if k=1 then (⟨[m]⟩,0) else if (x.Lst.length:Int) < s then (⟨x.Lst ++ [m]⟩,0) else (x,zHw (k == 3))
def zB8(x:Hold)(k:Int):Hold × Int :=
 match x.Lst with
 | []=>(x,-1)
 | m::rest=>if k=1 then (x,m) else (⟨rest⟩,m)
theorem M.send1{x:Hold}{k s m:Int}(h:k=1):zBb x k s m=(⟨[m]⟩,0):=if_pos h
theorem M.send2{x:Hold}{k s m:Int}(h:¬ k=1)(h2:(x.Lst.length:Int) < s):zBb x k s m=(⟨x.Lst ++ [m]⟩,0):=by unfold zBb;rw[if_neg h,if_pos h2]
theorem M.send3{x:Hold}{k s m:Int}(h:¬ k=1)(h2:¬ (x.Lst.length:Int) < s):zBb x k s m=(x,zHw (k == 3)):=by unfold zBb;rw[if_neg h,if_neg h2]
theorem M.take0{x:Hold}{k:Int}(h:x.Lst = []):zB8 x k=(x,-1):=by unfold zB8;rw[h]
theorem M.take1{x:Hold}{k m:Int}{r:List Int}(h:x.Lst=m::r)(hk:k=1):zB8 x k=(x,m):=by unfold zB8;rw[h];exact if_pos hk
theorem M.take2{x:Hold}{k m:Int}{r:List Int}(h:x.Lst=m::r)(hk:¬ k=1):zB8 x k=(⟨r⟩,m):=by unfold zB8;rw[h];exact if_neg hk
theorem Ov.hold{L:Nat}{w:World}{v:Value}{xs:List Int}(h:Os L w v xs):Ov L w (.agg #[v]) (⟨xs⟩:Hold):=by
 obtain⟨F,h,ho⟩:=h;exact⟨[v],F,rfl,⟨v,rfl,h⟩,ho⟩
theorem Os.lit1(w:World)(x:Int)(hr:rng x):Os w.heap.size (w.alloc (.cells #[.int .i64 x] 3)) (.slice (some ⟨w.heap.size,0,none⟩) 1 1) [x]:=by
 have h:=Oa.lit (α:=Int) 3 w [.int .i64 x] [x] (n:=1) rfl (by simp[GT.sz]) (by simp) (Row.lit1 (cs:=[_]) ⟨rfl,hr,rfl⟩) (fun k hk=>by cases hk)
 exact h.os (Own.nil _ _)
theorem Os.setLow{α:Type}[GT α]{L:Nat}{w:World}{v:Value}{xs:List α}(h:Os L w v xs){p:Addr}(hp:p.block < L)(u:Value):Os L (w.setCell p u) v xs:=by
 obtain⟨F,h1,h2⟩:=h;exact⟨F,h1.set (fun hm=>by have:=(h2.2 _ hm).1;omega) u,h2.set p u⟩
theorem zB4{w:World}{b o k j:Nat}{u:Value}(h:b≠k):(w.setCell ⟨k,j,none⟩ u).cell? ⟨b,o,none⟩=w.cell? ⟨b,o,none⟩:=World.cell?_of_block (zA3 h)
set_option maxHeartbeats 4000000
theorem Bk.putsAux{b:Nat}{T:TypeId}(cs:List Value):∀ {w:World} (pre rest:List Value),Bk w b (pre++rest) T->cs.length=rest.length->Bk (zA9 w b pre.length cs) b (pre++cs) T:=by
 induction cs with
 | nil=>intro w pre rest h hl;obtain rfl:rest = []:=List.length_eq_zero_iff.1 hl.symm;exact h
 | cons c cs ih =>
  intro w pre rest h hl;cases rest with
  | nil=>cases hl
  | cons r rest =>
   have h1:=h.set pre.length c;rw[List.set_append_right _ _ (Nat.le_refl _),Nat.sub_self,List.set_cons_zero] at h1;have h2:=ih (w:=w.setCell ⟨b,pre.length,none⟩ c) (pre ++ [c]) rest (by simpa using h1) (by simpa using hl)
   rw[List.length_append,List.length_singleton] at h2;rw[zA9]
   simpa using h2
theorem Bk.puts{w:World}{b:Nat}{cs0:List Value}{T:TypeId}(h:Bk w b cs0 T)(cs:List Value)(hl:cs.length=cs0.length):Bk (zA9 w b 0 cs) b cs T:=by
 have:=Bk.putsAux cs (w:=w) [] cs0 h hl
 simpa using this
theorem Bk.puts_ne{w:World}{b c o:Nat}{cs ds:List Value}{T:TypeId}(h:Bk w b cs T)(hb:b≠c):Bk (zA9 w c o ds) b cs T:=by
 unfold Bk at *;rw[zBe hb];exact h
theorem zBy{α:Type}[GT α]{w:World}{c o:Nat}{cs ds:List Value}{x : α}{F:List Nat}(h:GT.enc w cs x F)(hc:c ∉ F):GT.enc (zA9 w c o ds) cs x F :=
 GT.keep h fun k hk=>zBe (fun e=>hc (e ▸ hk))
theorem Sl.puts{α:Type}[GT α]{w:World}{c o:Nat}{v:Value}{ds:List Value}{x:List α}{F:List Nat}(h:Sl w v x F)(hc:c ∉ F):Sl (zA9 w c o ds) v x F :=
 h.keep fun k hk=>zBe (fun e=>hc (e ▸ hk))
theorem Bk.cellq{w:World}{b:Nat}{cs:List Value}{T:TypeId}(h:Bk w b cs T)(j:Nat):w.cell? ⟨b,j,none⟩=cs[j]?:=by
 unfold Bk at h;simp[World.cell?,h]
theorem Chg.one{b o:Nat}{F:List Nat}{a c:World}{cs:List Value}{T:TypeId}{v:Value}(h:Chg b o 1 F a c)(hb:Bk a b cs T)(ho:o < cs.length)(hv:c.cell? ⟨b,o,none⟩=some v):∃ T',Bk c b (cs.set o v) T':=by
 obtain⟨cs',T',hb'⟩:=h.fzk b ⟨_,_,hb⟩;have e:cs'=cs.set o v:=by
  apply List.ext_getElem?;intro j;rw[<- hb'.cellq j,List.getElem?_set];by_cases hj:o=j
  ·subst hj;rw[if_pos rfl,if_pos ho];exact hv
  ·rw[if_neg hj,h.cell (by omega)];exact hb.cellq j
 exact⟨T',e ▸ hb'⟩
theorem zIb{w:World}{m:Machine}{p0 p1 p2 v3 v4 v5:Value}{FP F3 F4 F5:List Nat}(hp:GT.enc w [p0,p1,p2] m.Plan FP)(h3:Sl w v3 m.Programs F3)(h4:Sl w v4 m.Cores F4)(h5:Sl w v5 m.Holds F5)(r:rng m.Tick):GT.enc w [p0,p1,p2,v3,v4,v5,.int .i64 m.Tick] m (FP++F3++F4++F5):=by
 obtain⟨v0,v1,v2,F0,F1,F2,e,s0,s1,s2,rfl⟩:=hp;simp only[List.cons.injEq] at e;obtain⟨rfl,rfl,rfl,_⟩:=e;exact⟨_,_,_,_,_,_,F0,F1,F2,F3,F4,F5,rfl,s0,s1,s2,h3,h4,h5,r,by simp[List.append_assoc]⟩
theorem Chg.enc{α:Type}[GT α]{b o n:Nat}{F G:List Nat}{a c:World}{cs:List Value}{x : α}(h:Chg b o n F a c)(hs:GT.enc a cs x G)(hb:b ∉ G)(hF:zAy G F):GT.enc c cs x G :=
 GT.keep hs fun k hk=>h.keep (GT.inh hs k hk) (fun e=>hb (e ▸ hk)) (fun hm=>hF k hk hm)
end Sk
