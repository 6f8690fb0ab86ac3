/- Contracts of functions of the given program. -/
import Derived.Lib.AppendZeros
import Derived.Test.YtpjdkfkfmebphaaGreatFrame
namespace Sk
open Go Go.Proofs Go.RowKit
set_option maxHeartbeats 1500000
set_option maxRecDepth 100000
set_option linter.unusedVariables false
set_option linter.unusedSimpArgs false
def zDb(xs:List Slot):Nat:=(zAm xs).length
def zC8(xs:List Slot)(t:Int):Int:=(zAm xs).getD (t.toNat % zDb xs) 0
def zEb(xs:List Slot)(n:Int)(t:Int):Int:=(t.toNat / zDb xs*(zAm xs).count n+((zAm xs).take (t.toNat % zDb xs)).count n:Nat)
structure zM2 (xs:List Slot):Prop where
 len:1<=xs.length/\xs.length<=12
 tk:∀ x∈xs,1<=x.Ticks/\x.Ticks<=20
theorem zM2.of{xs:List Slot}{n:Int}(h:zDo xs n=true):zM2 xs:=by
 obtain⟨h1,h2,_,h3⟩:=zEe h;exact⟨⟨h1,h2⟩,fun x hx=>(h3 x hx).1⟩
theorem zM2.fl{xs:List Slot}(h:zM2 xs):1<=zDb xs/\zDb xs<=240:=by
 have h1:=zDj h.tk;have h2:=zJn h.tk _ (Nat.le_refl _)
 have:=h.len
 unfold zDb;omega
theorem zM2.fl_tk{xs:List Slot}(h:zM2 xs):(zDb xs:Int)=zHg xs xs.length:=zDj h.tk
theorem zJ4{xs:List Slot}{n t:Int}(ht:t<=1000000):0<=zEb xs n t/\zEb xs n t<=1000000:=by
 unfold zEb;refine⟨Int.natCast_nonneg _,?_⟩;have h1:((zAm xs).take (t.toNat % zDb xs)).count n<=t.toNat % zDb xs:=Nat.le_trans List.count_le_length (by rw[List.length_take];omega)
 have h2:(zAm xs).count n<=zDb xs:=List.count_le_length;have h3:t.toNat / zDb xs*(zAm xs).count n<=t.toNat / zDb xs*zDb xs:=Nat.mul_le_mul_left _ h2;have h4:=Nat.div_add_mod t.toNat (zDb xs);rw[Nat.mul_comm] at h4;omega
theorem zPe{xs:List Slot}(h:zM2 xs)(t:Int):∃ x∈xs,zC8 xs t=x.Who:=by
 have hl:=h.fl;unfold zC8;have hlt:t.toNat % zDb xs < (zAm xs).length:=Nat.mod_lt _ hl.1;rw[List.getD_eq_getElem?_getD,List.getElem?_eq_getElem hlt,Option.getD_some];have hm:=List.getElem_mem hlt;obtain⟨x,hx,hm⟩:=List.mem_flatMap.1 hm;exact⟨x,hx,(List.mem_replicate.1 hm).2⟩
theorem zNt(v:Value)(xs:List Slot)(t:Int)(w:World)(h:Rs w v xs)(hv:zM2 xs)(ht0:0<=t)(ht:t<=1000000) :
  Calls Tryz.prog 75 #[v,.int .i64 t] w fun e w'=>e = .returned (.int .i64 (zC8 xs t))/\Ext w w':=by
 obtain⟨T,rfl⟩:∃ T:Nat,t=T:=⟨t.toNat,by omega⟩
 have H:=zh h;have hf:=hv.fl;obtain⟨a,c,rfl,hl⟩:=h.form;clear h;obtain⟨L,hL⟩:∃ L,zAm xs=L:=⟨_,rfl⟩;have hw:Hid (zC8 xs T=L.getD (T % L.length) 0):=zh (by unfold zC8 zDb;rw[hL];rfl)
 have hL12:1<=L.length/\L.length<=240:=by rw[<- hL];exact hf
 obtain⟨hL1,hL2⟩:=hL12;replace hL:=zh hL;clear hf;have HV:=zh hv;go_enter Tryz.func75,Tryz.ntmps75;go_upto_region 2 with (go_at_call 121;refine(zL6 _ xs w H.out HV.out.tk HV.out.len.2).mono ?_;rintro e w1 ⟨v1,rfl,hr,he⟩;rw[hL.out] at hr;obtain⟨p,q,rfl,_⟩:=hr.form;have HR:=zh hr;have HE:=zh he;clear hr he)
 clear hL hv;have hlt:T % L.length < L.length:=Nat.mod_lt _ (by omega)
 obtain⟨b,o,x,rfl,hb,hx,hc,hr⟩:=HR.out.atInt (T % L.length) hlt;have hm:(T:Int).tmod (L.length:Int)=((T % L.length:Nat):Int):=Int.ofNat_tmod _ _;have hne:(L.length:Int)≠0:=by omega
 have hxw:Hid (zC8 xs T=x):=zh (by rw[hw.out,List.getD_eq_getElem?_getD,hx.out];rfl)
 obtain⟨r,hr2⟩:∃ r,T % L.length=r:=⟨_,rfl⟩;rw[hr2] at hlt hc hm;clear hr2 hx hw;go_wp2;go_ret;exact⟨by rw[hxw.out];first|done|rfl,HE.out⟩
theorem zNs(v:Value)(xs:List Slot)(n t:Int)(w:World)(h:Rs w v xs)(hv:zM2 xs)(ht0:0<=t)(ht:t<=1000000) :
  Calls Tryz.prog 76 #[v,.int .i64 n,.int .i64 t] w fun e w'=>e = .returned (.int .i64 (zEb xs n t))/\Ext w w':=by
 obtain⟨T,rfl⟩:∃ T:Nat,t=T:=⟨t.toNat,by omega⟩
 have H:=zh h;have hf:=hv.fl;obtain⟨a,c,rfl,hl⟩:=h.form;clear h;obtain⟨L,hL⟩:∃ L,zAm xs=L:=⟨_,rfl⟩;have hw:Hid (zEb xs n T=(T / L.length*L.count n+(L.take (T % L.length)).count n:Nat)):=zh (by unfold zEb zDb;rw[hL];rfl)
 have hL12:1<=L.length/\L.length<=240:=by rw[<- hL];exact hf
 obtain⟨hL1,hL2⟩:=hL12;replace hL:=zh hL;clear hf;have HV:=zh hv;go_enter Tryz.func76,Tryz.ntmps76;go_upto_region 2 with (go_at_call 121;refine(zL6 _ xs w H.out HV.out.tk HV.out.len.2).mono ?_;rintro e w1 ⟨v1,rfl,hr,he⟩;rw[hL.out] at hr;obtain⟨p,q,rfl,_⟩:=hr.form;have HR:=zh hr;have HE:=zh he;clear hr he)
 clear hL hv;have hlt:T % L.length < L.length:=Nat.mod_lt _ (by omega)
 have hm:(T:Int).tmod (L.length:Int)=((T % L.length:Nat):Int):=Int.ofNat_tmod _ _;have hd:(T:Int).tdiv (L.length:Int)=((T / L.length:Nat):Int):=Int.ofNat_tdiv _ _;have hdb:T / L.length<=T:=Nat.div_le_self _ _;have hne:(L.length:Int)≠0:=by omega
 obtain⟨r,hr2⟩:∃ r,T % L.length=r:=⟨_,rfl⟩;obtain⟨d,hd2⟩:∃ d,T / L.length=d:=⟨_,rfl⟩;rw[hr2] at hlt hm hw;rw[hd2] at hd hdb hw;clear hr2 hd2;go_wp2;go_loopw [8,9,10,11,16] (fun v8 v9 _ _ i wr => ∃ k:Nat,k<=L.length/\i = .int .i64 k/\v8 = .int .i64 ((L.take k).count n:Nat)/\v9 = .int .i64 ((L.take (min k r)).count n:Nat)/\wr=w1) (fun _ _ _ _ i _=>L.length - (intOf i).toNat)
 case atStart=>exact⟨0,Nat.zero_le _,rfl,by simp,by simp,rfl⟩
 case round =>
  obtain⟨k,hk,rfl,rfl,rfl,rfl⟩:=hrel;have hb1:(L.take k).count n<=k:=Nat.le_trans List.count_le_length (by rw[List.length_take];omega)
  have hb2:(L.take (min k r)).count n<=k:=Nat.le_trans List.count_le_length (by rw[List.length_take];omega)
  by_cases hkt:k < L.length
  ·obtain⟨b,o,x,rfl,hb,hx,hc,hr⟩:=HR.out.atInt k hkt;have hs:=zh (zAg hx.out);obtain⟨A,hA⟩:∃ A,(L.take k).count n=A:=⟨_,rfl⟩;obtain⟨B,hB⟩:∃ B,(L.take (min k r)).count n=B:=⟨_,rfl⟩;rw[hA] at hb1 ⊢;rw[hB] at hb2 ⊢;replace hA:=zh hA;replace hB:=zh hB;by_cases hxn:x=n
   ·have hxe:(x == n)=true:=by simp[hxn]
    by_cases hkr:k < r
    ·have h1:=zh (show min k r=k by omega)
     have h2:=zh (show min (k+1) r=k+1 by omega)
     have hxn2:=zh hxn;clear hxn;go_wp2;go_roundw
     case rel=>exact⟨k+1,by omega,by go_num,by rw[hs.out,List.count_append,hA.out,hxn2.out];simp,by rw[h2.out,hs.out,List.count_append,<- hB.out,h1.out,hxn2.out];simp,by trivial⟩
     case measure=>simp[intOf];omega
    ·have h1:=zh (show min k r=r by omega)
     have h2:=zh (show min (k+1) r=r by omega)
     have hxn2:=zh hxn;clear hxn;go_wp2;go_roundw
     case rel=>exact⟨k+1,by omega,by go_num,by rw[hs.out,List.count_append,hA.out,hxn2.out];simp,by rw[h2.out,<- hB.out,h1.out],by trivial⟩
     case measure=>simp[intOf];omega
   ·have hxe:(x == n)=false:=by simpa using hxn
    have hxe2:=zh hxe;clear hxn;have hc1:=zh (show(L.take (min (k+1) r)).count n=B by
     by_cases hkr:k < r
     ·rw[show min (k+1) r=k+1 by omega,hs.out,List.count_append,<- hB.out,show min k r=k by omega,List.count_singleton,hxe2.out];rfl
     ·rw[show min (k+1) r=r by omega,<- hB.out,show min k r=r by omega])
    go_wp2;go_roundw
    case rel=>exact⟨k+1,by omega,by go_num,by rw[hs.out,List.count_append,hA.out,List.count_singleton,hxe2.out];rfl,by rw[hc1.out],by trivial⟩
    case measure=>simp[intOf];omega
  ·obtain rfl:k=L.length:=by omega
   rw[show min L.length r=r by omega] at *
   rw[List.take_length] at *;obtain⟨A,hA⟩:∃ A,L.count n=A:=⟨_,rfl⟩;obtain⟨B,hB⟩:∃ B,(L.take r).count n=B:=⟨_,rfl⟩;rw[hA] at hb1 hw ⊢;rw[hB] at hb2 hw ⊢;clear hA hB;have hmul:(d:Int)*(A:Int)=((d*A:Nat):Int):=by simp
   have hmb:d*A<=1000000*240:=Nat.mul_le_mul (by omega) (by omega)
   obtain⟨m,hm2⟩:∃ m,d*A=m:=⟨_,rfl⟩;rw[hm2] at hmul hmb hw;clear hm2;go_wp2;go_ret;exact⟨by rw[hw.out];simp,HE.out⟩
theorem zO6{xs:List Slot}(h:∀ x∈xs,1<=x.Ticks/\x.Ticks<=20){k r:Nat}{x:Slot}(hx:xs[k]? = some x)(h1:zHg xs k<=r)(h2:(r:Int) < zHg xs k+x.Ticks):(zAm xs)[r]? = some x.Who:=by
 have hk:=zA7 hx;have hsp:zAm xs=zAm (xs.take k)++(List.replicate x.Ticks.toNat x.Who++zAm (xs.drop (k+1))):=by
  have e:xs=xs.take k++x::xs.drop (k+1):=by
   obtain⟨hl,rfl⟩:=List.getElem?_eq_some_iff.1 hx;rw[List.getElem_cons_drop,List.take_append_drop]
  conv=>lhs;rw[e]
  unfold zAm;simp
 have hl:=zDj (xs:=xs.take k) (fun y hy=>h y (List.mem_of_mem_take hy))
 have hl2:zHg (xs.take k) (xs.take k).length=zHg xs k:=by unfold zHg;rw[List.take_length]
 rw[hl2] at hl;have hxt:=h x (List.mem_of_getElem? hx);rw[hsp,List.getElem?_append_right (by omega),List.getElem?_append_left (by rw[List.length_replicate];omega),List.getElem?_replicate,if_pos (by omega)]
theorem zHe(v:Value)(xs:List Slot)(N t:Int)(w:World)(h:Rs w v xs)(hv:zDo xs N=true)(ht0:0<=t)(ht:t<=1000000) :
  Calls Tryz.prog 156 #[v,.int .i64 N,.int .i64 t] w fun e w'=>e = .returned (.int .i64 (zC8 xs t))/\Ext w w':=by
 obtain⟨t',rfl⟩:∃ t':Nat,t=t':=⟨t.toNat,by omega⟩
 obtain⟨a,c,rfl,hl⟩:=h.form;have H:=zh h;have hall:=zEe hv;have HV:=zh hv;have HS:=zh (zM2.of hv);obtain⟨hx1,hx12,_,hxx⟩:=hall;have HT:=zh (zJn (fun x hx=>(hxx x hx).1))
 have HXX:=zh hxx;have HIN:=zh (zEm ht0 ht:zA8 t' 0 1000000=true);have hfl:=HS.out.fl;have HFT:=zh HS.out.fl_tk;obtain⟨T,hT⟩:∃ T,zDb xs=T:=⟨_,rfl⟩;rw[hT] at HFT hfl;have hmod:(t':Int).tmod (T:Int)=((t' % T:Nat):Int):=Int.ofNat_tmod _ _;have hne:(T:Int)≠0:=by omega
 obtain⟨r,hr⟩:∃ r,t' % T=r:=⟨_,rfl⟩;have hrT:r < T:=by rw[<- hr];exact Nat.mod_lt _ (by omega)
 have HW:Hid (zC8 xs t'=(zAm xs).getD r 0):=zh (by unfold zC8;rw[hT,Int.toNat_natCast,hr])
 rw[hr] at hmod;replace hT:=zh hT;clear h hv hxx hr;go_enter Tryz.func156,Tryz.ntmps156
 go_wp2_with (first
  | (go_at_call 165;refine(zFm _ xs N _ (H.out.ext HE1.out) HV.out).mono ?_;rintro e w2 ⟨rfl,he⟩;rw[<- HFT.out];have HE2:=zh (HE1.out.tr he);clear he)
  | (go_at_call 83;refine(zCt _ xs N w H.out).mono ?_;rintro e w1 ⟨rfl,he⟩;rw[HV.out];have HE1:=zh he;clear he)
  | (go_at_call 27;refine(zAe _ _ _ _).mono ?_;rintro e w' ⟨rfl,rfl⟩;rw[HIN.out]))
 go_loopw [7,8] (fun u i wr => ∃ k:Nat,k < xs.length/\i = .int .i64 k/\zHg xs k<=r/\u = .int .i64 (r - zHg xs k)/\Ext w wr) (fun _ i _=>xs.length - (intOf i).toNat)
 case atStart=>exact⟨0,by omega,rfl,by rw[zMg];omega,by simp[zMg],HE2.out⟩
 case round =>
  clear HE1 HE2;obtain⟨k,hk,rfl,hle,rfl,hq⟩:=hrel;have HQ:=zh hq;clear hq;obtain⟨b,o,x,rfl,hbl,hx,hc0,hc1,hr0,hr1,hvx⟩:=(H.out.ext HQ.out).atSlot k hk;have hb:=HT.out k (by omega)
  have hxt:=HXX.out x (List.mem_of_getElem? hx.out);have HN:=zh (zH6 hx.out);by_cases hge:x.Ticks<=r - zHg xs k
  ·have hk1:k+1 < xs.length:=by
    by_cases hlast:k+1=xs.length
    ·exfalso;have h1:=HN.out;rw[hlast,<- HFT.out] at h1;omega
    ·omega
   go_wp2;go_roundw
   case rel=>exact⟨k+1,hk1,by go_num,by rw[HN.out];omega,by rw[HN.out];congr 1;omega,HQ.out⟩
   case measure=>simp[intOf];omega
  ·have hlt:(r:Int) < zHg xs k+x.Ticks:=by omega
   have HF:=zh (zO6 HS.out.tk hx.out hle hlt);have HWX:Hid (zC8 xs t'=x.Who):=zh (by rw[HW.out,List.getD_eq_getElem?_getD,HF.out];rfl)
   go_wp2;go_ret;exact⟨by rw[HWX.out];first|done|rfl,HQ.out⟩
theorem zI8{A:List Int}{r T:Nat}{n x:Int}:((A++List.replicate T x).take r).count n=(A.take r).count n+if x=n then min T (r - A.length) else 0:=by
 rw[List.take_append,List.count_append,List.take_replicate,List.count_replicate];by_cases h:x=n
 ·simp[h];omega
 ·simp[h]
theorem zLv(v:Value)(xs:List Slot)(N n t:Int)(w:World)(h:Rs w v xs)(hv:zDo xs N=true)(hn0:0<=n)(hn:n < N)(ht0:0<=t)(ht:t<=1000000) :
  Calls Tryz.prog 158 #[v,.int .i64 N,.int .i64 n,.int .i64 t] w fun e w'=>e = .returned (.int .i64 (zEb xs n t))/\Ext w w':=by
 obtain⟨t',rfl⟩:∃ t':Nat,t=t':=⟨t.toNat,by omega⟩
 obtain⟨a,c,rfl,hl⟩:=h.form;have H:=zh h;have hall:=zEe hv;have HV:=zh hv;have HS:=zh (zM2.of hv);obtain⟨hx1,hx12,hN,hxx⟩:=hall;have HT:=zh (zJn (fun x hx=>(hxx x hx).1))
 have HXX:=zh hxx;have HIN:=zh (zEm ht0 ht:zA8 t' 0 1000000=true);have HI2:=zh (zEm hn0 (by omega):zA8 n 0 (N - 1)=true)
 have hfl:=HS.out.fl;have HFT:=zh HS.out.fl_tk;obtain⟨T,hT⟩:∃ T,zDb xs=T:=⟨_,rfl⟩;rw[hT] at HFT hfl;have hmod:(t':Int).tmod (T:Int)=((t' % T:Nat):Int):=Int.ofNat_tmod _ _;have hdiv:(t':Int).tdiv (T:Int)=((t' / T:Nat):Int):=Int.ofNat_tdiv _ _;have hne:(T:Int)≠0:=by omega
 obtain⟨r,hr⟩:∃ r,t' % T=r:=⟨_,rfl⟩;obtain⟨d,hd⟩:∃ d,t' / T=d:=⟨_,rfl⟩;have hrT:r < T:=by rw[<- hr];exact Nat.mod_lt _ (by omega)
 have hdT:d<=t':=by rw[<- hd];exact Nat.div_le_self _ _
 have HW:Hid (zEb xs n t'=(d*(zAm xs).count n+((zAm xs).take r).count n:Nat)):=zh (by unfold zEb;rw[hT,Int.toNat_natCast,hr,hd])
 rw[hr] at hmod;rw[hd] at hdiv;replace hT:=zh hT;clear h hv hxx hr hd;go_enter Tryz.func158,Tryz.ntmps158
 go_wp2_with (first
  | (go_at_call 165;refine(zFm _ xs N _ (H.out.ext HE1.out) HV.out).mono ?_;rintro e w2 ⟨rfl,he⟩;rw[<- HFT.out];have HE2:=zh (HE1.out.tr he);clear he)
  | (go_at_call 83;refine(zCt _ xs N w H.out).mono ?_;rintro e w1 ⟨rfl,he⟩;rw[HV.out];have HE1:=zh he;clear he)
  | (go_at_call 27;refine(zAe _ _ _ _).mono ?_;rintro e w' ⟨rfl,rfl⟩;first|rw[HIN.out]|rw[HI2.out]))
 go_loopw [10,11,12,13] (fun v10 v11 v12 i wr => ∃ (k A B:Nat),k<=xs.length/\i = .int .i64 k/\v10 = .int .i64 A/\A=(zAm (xs.take k)).count n/\v11 = .int .i64 B/\B=((zAm (xs.take k)).take r).count n/\v12 = .int .i64 (zHg xs k)/\Ext w wr) (fun _ _ _ i _=>xs.length - (intOf i).toNat)
 case atStart=>exact⟨0,0,0,by omega,rfl,rfl,rfl,rfl,by simp[zAm],rfl,HE2.out⟩
 case round =>
  clear HE1 HE2;obtain⟨k,A,B,hk,rfl,rfl,hA,rfl,hB,rfl,hq⟩:=hrel;have HQ:=zh hq;have hAl:A<=240:=by rw[hA];exact Nat.le_trans List.count_le_length (Nat.le_trans (zHh HS.out.tk k) (by omega))
  have hBl:B<=r:=by rw[hB];exact Nat.le_trans List.count_le_length (by rw[List.length_take];omega)
  replace hA:=zh hA;replace hB:=zh hB;clear hq;have hb:=HT.out k (by omega)
  obtain⟨tk,htk⟩:∃ tk:Nat,zHg xs k=tk:=⟨(zHg xs k).toNat,by omega⟩
  rw[htk] at hb;have HTK:Hid ((zAm (xs.take k)).length=tk):=zh (by
   have hl:=zDj (xs:=xs.take k) (fun y hy=>HS.out.tk y (List.mem_of_mem_take hy))
   have hl2:zHg (xs.take k) (xs.take k).length=zHg xs k:=by unfold zHg;rw[List.take_length]
   rw[hl2] at hl
   omega)
  rw[htk];replace htk:=zh htk;by_cases hkt:k < xs.length
  ·obtain⟨b,o,x,rfl,hbl,hx,hc0,hc1,hr0,hr1,hvx⟩:=(H.out.ext HQ.out).atSlot k hkt;have hxt:=HXX.out x (List.mem_of_getElem? hx.out);have HN:=zh (zH6 hx.out);have HFN:=zh (zI9 hx.out);obtain⟨X,hX⟩:∃ X:Nat,x.Ticks=X:=⟨x.Ticks.toNat,by omega⟩
   have hXn:x.Ticks.toNat=X:=by omega
   have hX1:1<=X:=by omega
   have hX2:X<=20:=by omega
   rw[hX] at hc1;rw[hXn] at HFN;have HXT:=zh hX;clear hX hXn hxt hvx hr1;by_cases hxn:x.Who=n
   ·have hxe:(x.Who == n)=true:=by simp[hxn]
    have hxn2:=zh hxn;clear hxn;obtain⟨mn,hmn,hmn2⟩:∃ mn:Int,(if (r:Int) - tk < X then (r:Int) - tk else (X:Int))=mn/\(((min X (r - tk):Nat):Int)=if 0 < mn then mn else 0) /\ -240<=mn/\mn<=240:=⟨_,rfl,by split<;>split<;>omega,by split<;>omega⟩
    obtain⟨hmx,hmb⟩:=hmn2;replace hmx:=hmx.symm;obtain⟨m,hm⟩:∃ m:Nat,min X (r - tk)=m:=⟨_,rfl⟩;rw[hm] at hmx;have hm20:m<=20:=by omega
    have HC:=zh (@zI8 (zAm (xs.take k)) r X n x.Who);rw[if_pos hxn2.out,HTK.out,hm] at HC;clear hm;go_upto_region 12 with (fail)
    go_big_quiet (fail)
    go_wp2;go_roundw
    case rel=>exact⟨k+1,A+X,B+m,by omega,by go_num,by simp,by rw[HFN.out,List.count_append,<- hA.out,List.count_replicate,hxe];simp,by simp,by rw[HFN.out,HC.out,<- hB.out],by rw[HN.out,htk.out,HXT.out],HQ.out.drewN _⟩
    case measure=>simp[intOf];omega
   ·have hxe:(x.Who == n)=false:=by simpa using hxn
    have HC:=zh (@zI8 (zAm (xs.take k)) r X n x.Who);rw[if_neg hxn] at HC;have hxe2:=zh hxe;clear hxn;go_wp2;go_roundw
    case rel=>exact⟨k+1,A,B,by omega,by go_num,rfl,by rw[HFN.out,List.count_append,<- hA.out,List.count_replicate,hxe2.out];simp,rfl,by rw[HFN.out,HC.out,<- hB.out];simp,by rw[HN.out,htk.out,HXT.out],HQ.out⟩
    case measure=>simp[intOf];omega
  ·obtain rfl:k=xs.length:=by omega
   rw[List.take_length] at hA hB;have hmul:(d:Int)*(A:Int)=((d*A:Nat):Int):=by simp
   have hmb:d*A<=1000000*240:=Nat.mul_le_mul (by omega) (by omega)
   obtain⟨m,hm2⟩:∃ m,d*A=m:=⟨_,rfl⟩;have HWX:Hid (zEb xs n t'=(m:Int)+B):=zh (by rw[HW.out,<- hA.out,<- hB.out,hm2];simp)
   rw[hm2] at hmul hmb;clear hm2;go_wp2;go_ret;exact⟨by rw[HWX.out];first|done|rfl,HQ.out⟩
theorem zGc(z:Array Value)(n:Nat):(Builtin.zeroCells z n).size=n*z.size:=by
 have key:∀ n,(Builtin.zeroCells z n).size=n*z.size:=by
  intro n;unfold Builtin.zeroCells;simp
 exact key n
theorem zIf(n:Nat)(hn:n<=1000000)(w:World) :
  Calls Tryz.prog 122 #[.slice none 0 0,.int .i64 n] w fun e w' => ∃ v',e = .returned v'/\Oa (α:=Int) 3 w.heap.size w' v' [] []/\Ext w w':=by
 by_cases h0:n=0
 ·subst h0;go_enter Tryz.func122,Tryz.ntmps122;go_wp2;go_ret;exact⟨_,rfl,Oa.nil _ _ _,zr _⟩
 ·obtain⟨i1,hi1,hq0,hq1,hq2⟩:=info_parts zNu;have hrun:(Builtin.append_ #[41,3] 41 #[.slice none 0 0,.int .i64 (n:Int)]).run Tryz.prog w = .ok (.slice (some ⟨w.heap.size,0,none⟩) n (grownCap w n 0 3)) (w.drew.alloc (.cells (Builtin.zeroCells #[.int .i64 0] n++Builtin.zeroCells #[.int .i64 0] (grownCap w n 0 3 - n)) 3)):=by
   have h:=Go.Lib.run_append_nil_zeros (P:=Tryz.prog) w 41 3 41 3 i1 (.int .i64 0) .i64 .i64 Tryz.underlying41 (by kernel_rfl) hi1 hq0 n (by omega) (by rw[hq1];decide) (by omega) (by rw[hq2];omega)
   simpa [Value.cells] using h
  have hge:=grownCap_ge w n 0 3;have hcm:grownCap w n 0 3<=maxLen:=grownCap_le_maxLen w n 0 3 (by unfold maxLen;omega)
  have hcsz:(Builtin.zeroCells #[Value.int .i64 0] n++Builtin.zeroCells #[Value.int .i64 0] (grownCap w n 0 3 - n)).size=grownCap w n 0 3:=by
   rw[Array.size_append,zGc,zGc];simp;omega
  obtain⟨cap,hcap⟩:∃ cap,grownCap w n 0 3=cap:=⟨_,rfl⟩;rw[hcap] at hrun hge hcm hcsz
  generalize Builtin.zeroCells #[Value.int .i64 0] n++Builtin.zeroCells #[Value.int .i64 0] (cap - n)=C at hrun hcsz
  have HC:=zh hcsz;have hcap1:1<=cap:=by omega
  have hcm2:cap<=9223372036854775807:=by unfold maxLen at hcm;exact hcm
  clear hcsz hcap;replace hrun:=zh hrun;go_enter Tryz.func122,Tryz.ntmps122;go_wp2_with (at_builtin;refine Go.Lib.wpList_append_run _ rfl (.tmp 20) (.tmp 21) 41 3 rfl _ _ rfl rfl _ _ hrun.out ?_)
  go_ret;refine⟨_,rfl,.inr ⟨w.heap.size,cap,C,rfl,Nat.le_refl _,by show(w.drew.heap.push (.cells C 3))[w.drew.heap.size]? = _;rw[Array.getElem?_push_size],Nat.zero_le _,hcm,by rw[HC.out];simp[GT.sz],rfl,by simp⟩,((zr w).drew).alloc _⟩
theorem zLs(v:Value)(xss:List (List Int))(w:World)(h:Rs w v xss)(hn:xss.length<=1000)(hl:∀ xs∈xss,xs.length<=1000) :
  Calls Tryz.prog 81 #[v] w fun e w' => ∃ a c,e = .returned (.slice a xss.flatten.length c)/\Os w.heap.size w' (.slice a xss.flatten.length c) xss.flatten/\xss.flatten.length<=c/\c<=9223372036854775807/\Ext w w':=by
 have H:=zh h;have HL:=zh hl;obtain⟨a,c,rfl,hln⟩:=h.form;clear h hl;have hfl:∀ k,k<=xss.length->(xss.take k).flatten.length<=1000*k:=by
  intro k
  induction k with
  | zero=>intro _;simp
  | succ k ih =>
   intro hk;have hx:xss[k]? = some xss[k]:=List.getElem?_eq_getElem (by omega)
   rw[zAg hx,List.flatten_append,List.length_append]
   have:=HL.out xss[k] (List.getElem_mem _)
   have:=ih (by omega)
   simp only[List.flatten_cons,List.flatten_nil,List.append_nil];omega
 have HFL:=zh hfl;clear hfl;go_enter Tryz.func81,Tryz.ntmps81;go_wp2;go_loopw [3,5,11] (fun v3 _ i wr => ∃ k:Nat,k<=xss.length/\i = .int .i64 k/\v3 = .int .i64 ((xss.take k).flatten.length:Nat)/\wr=w) (fun _ _ i _=>xss.length - (intOf i).toNat)
 case atStart=>exact⟨0,Nat.zero_le _,rfl,rfl,rfl⟩
 case round =>
  obtain⟨k,hk,rfl,rfl,hww⟩:=hrel;obtain rfl:w=wr:=hww.symm;have hb:=HFL.out k hk;obtain⟨A,hA⟩:∃ A,(xss.take k).flatten.length=A:=⟨_,rfl⟩;rw[hA] at hb ⊢;replace hA:=zh hA;by_cases hlt:k < xss.length
  ·obtain⟨b,o,xs,ax,cx,rfl,hbl,hx,hc,hrx,hlx⟩:=H.out.atList k hlt;have hxl:=HL.out xs (List.mem_of_getElem? hx.out);have HN:=zh (zAg hx.out);go_wp2;go_roundw
   case rel=>exact⟨k+1,by omega,by go_num,by rw[HN.out,List.flatten_append,List.length_append,hA.out];simp,by trivial⟩
   case measure=>simp[intOf];omega
  ·obtain rfl:k=xss.length:=by omega
   have hA2:Hid (xss.flatten.length=A):=zh (by have:=hA.out;rwa [List.take_length] at this)
   go_upto_region 10 with (go_at_call 122;refine(zIf A (by omega) _).mono ?_;rintro e w1 ⟨v1,rfl,ho,he⟩;have HO:=zh ho;have HE:=zh he;obtain⟨p1,n1,q1,rfl⟩:=Oa.sh0 ho;clear ho he)
   go_wp2_with fail
   go_loopw [6,8,27] (fun v6 _ i wr => ∃ (j:Nat) (ao:Option Addr) (no co:Nat),j<=xss.length/\i = .int .i64 j/\v6 = .slice ao no co/\Oa (α:=Int) 3 w.heap.size wr (.slice ao no co) (xss.take j).flatten []/\Ext w wr) (fun _ _ i _=>xss.length - (intOf i).toNat)
   case atStart=>exact⟨0,_,_,_,Nat.zero_le _,rfl,rfl,HO.out,HE.out⟩
   case round =>
    clear HO HE;obtain⟨j,ao,no,co,hj,rfl,rfl,ho,hq⟩:=hrel;have HO:=zh ho;have HQ:=zh hq;have hsz:=hq.sz;clear ho hq;by_cases hjt:j < xss.length
    ·obtain⟨b,o,xs,ax,cx,rfl,hbl,hx,hc,hrx,hlx⟩:=H.out.atList j hjt;have hxl:=HL.out xs (List.mem_of_getElem? hx.out);have HN:=zh (zAg hx.out);have hb2:=HFL.out j (by omega)
     have e1:=(zA0 HQ.out hbl).trans hc;clear hc;go_wp2_with (at_builtin;refine zBy (α:=Int) rfl _ _ 41 rfl 3 Tryz.underlying41 zCj (L:=w.heap.size) (v:=.slice ao no co) (xs:=(xss.take j).flatten) (ys:=xs) rfl HO.out rfl (hrx.out.ext HQ.out) (by omega) hsz ?_;intro v5 w5 hO5 hg5;have HO5:=zh hO5;have HE5:=zh (HQ.out.grown hg5 (fun k hk=>HO.out.own k hk));obtain⟨p5,n5,q5,rfl⟩:=Oa.sh0 hO5;clear hO5 hg5)
     go_roundw
     case rel=>exact⟨j+1,_,_,_,by omega,by go_num,rfl,by rw[HN.out,List.flatten_append];simpa using HO5.out,HE5.out⟩
     case measure=>simp[intOf];omega
    ·obtain rfl:j=xss.length:=by omega
     rw[List.take_length] at HO;obtain⟨_,_,hno,_⟩:=HO.out.form;cases hno;have hcap:=HO.out.cap;go_wp2;go_ret;exact⟨_,_,rfl,HO.out.os (Own.nil _ _),hcap.1,hcap.2,HQ.out⟩
end Sk
