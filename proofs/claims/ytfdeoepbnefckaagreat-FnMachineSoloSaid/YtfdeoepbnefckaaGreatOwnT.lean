/- Contracts of functions of the given program. -/
import Derived.Lib.AppendZeros
import Derived.Test.YtfdeoepbnefckaaGreatFrame
import Derived.Test.YtfdeoepbnefckaaGreatSame
namespace Sk
open Go Go.Proofs Go.RowKit
set_option maxHeartbeats 1500000
set_option maxRecDepth 100000
set_option linter.unusedVariables false
set_option linter.unusedSimpArgs false
def zC1(xs:List Slot):Nat:=(zAt xs).length
def zBq(xs:List Slot)(t:Int):Int:=(zAt xs).getD (t.toNat % zC1 xs) 0
def zEx(xs:List Slot)(n:Int)(t:Int):Int:=(t.toNat / zC1 xs*(zAt xs).count n+((zAt xs).take (t.toNat % zC1 xs)).count n:Nat)
structure zJ0 (xs:List Slot):Prop where
 len:1<=xs.length/\xs.length<=12
 tk:∀ x∈xs,1<=x.Ticks/\x.Ticks<=20
theorem zJ0.of{xs:List Slot}{n:Int}(h:zCg xs n=true):zJ0 xs:=by
 obtain⟨h1,h2,_,h3⟩:=zFk h;exact⟨⟨h1,h2⟩,fun x hx=>(h3 x hx).1⟩
theorem zJ0.fl{xs:List Slot}(h:zJ0 xs):1<=zC1 xs/\zC1 xs<=240:=by
 have h1:=zFi h.tk;have h2:=zJf h.tk _ (Nat.le_refl _)
 have:=h.len
 unfold zC1;omega
theorem zI9{xs:List Slot}{n t:Int}(ht:t<=1000000):0<=zEx xs n t/\zEx xs n t<=1000000:=by
 unfold zEx;refine⟨Int.natCast_nonneg _,?_⟩;have h1:((zAt xs).take (t.toNat % zC1 xs)).count n<=t.toNat % zC1 xs:=Nat.le_trans List.count_le_length (by rw[List.length_take];omega)
 have h2:(zAt xs).count n<=zC1 xs:=List.count_le_length;have h3:t.toNat / zC1 xs*(zAt xs).count n<=t.toNat / zC1 xs*zC1 xs:=Nat.mul_le_mul_left _ h2;have h4:=Nat.div_add_mod t.toNat (zC1 xs);rw[Nat.mul_comm] at h4;omega
theorem zJh{xs:List Slot}(h:zJ0 xs)(t:Int):∃ x∈xs,zBq xs t=x.Who:=by
 have hl:=h.fl;unfold zBq;have hlt:t.toNat % zC1 xs < (zAt xs).length:=Nat.mod_lt _ hl.1;rw[List.getD_eq_getElem?_getD,List.getElem?_eq_getElem hlt,Option.getD_some];have hm:=List.getElem_mem hlt;obtain⟨x,hx,hm⟩:=List.mem_flatMap.1 hm;exact⟨x,hx,(List.mem_replicate.1 hm).2⟩
theorem zIg(v:Value)(xs:List Slot)(t:Int)(w:World)(h:Rs w v xs)(hv:zJ0 xs)(ht0:0<=t)(ht:t<=1000000) :
  Calls Tryz.prog 74 #[v,.int .i64 t] w fun e w'=>e = .returned (.int .i64 (zBq xs t))/\Ext w w':=by
 obtain⟨T,rfl⟩:∃ T:Nat,t=T:=⟨t.toNat,by omega⟩
 have H:=zh h;have hf:=hv.fl;obtain⟨a,c,rfl,hl⟩:=h.form;clear h;obtain⟨L,hL⟩:∃ L,zAt xs=L:=⟨_,rfl⟩;have hw:Hid (zBq xs T=L.getD (T % L.length) 0):=zh (by unfold zBq zC1;rw[hL];rfl)
 have hL12:1<=L.length/\L.length<=240:=by rw[<- hL];exact hf
 obtain⟨hL1,hL2⟩:=hL12;replace hL:=zh hL;clear hf;have HV:=zh hv;go_enter Tryz.func74,Tryz.ntmps74;go_upto_region 2 with (go_at_call 84;refine(zGi _ xs w H.out HV.out.tk HV.out.len.2).mono ?_;rintro e w1 ⟨v1,rfl,hr,he⟩;rw[hL.out] at hr;obtain⟨p,q,rfl,_⟩:=hr.form;have HR:=zh hr;have HE:=zh he;clear hr he)
 clear hL hv;have hlt:T % L.length < L.length:=Nat.mod_lt _ (by omega)
 obtain⟨b,o,x,rfl,hb,hx,hc,hr⟩:=HR.out.atInt (T % L.length) hlt;have hm:(T:Int).tmod (L.length:Int)=((T % L.length:Nat):Int):=Int.ofNat_tmod _ _;have hne:(L.length:Int)≠0:=by omega
 have hxw:Hid (zBq xs T=x):=zh (by rw[hw.out,List.getD_eq_getElem?_getD,hx.out];rfl)
 obtain⟨r,hr2⟩:∃ r,T % L.length=r:=⟨_,rfl⟩;rw[hr2] at hlt hc hm;clear hr2 hx hw;go_wp2;go_ret;exact⟨by rw[hxw.out];first|done|rfl,HE.out⟩
theorem zIf(v:Value)(xs:List Slot)(n t:Int)(w:World)(h:Rs w v xs)(hv:zJ0 xs)(ht0:0<=t)(ht:t<=1000000) :
  Calls Tryz.prog 44 #[v,.int .i64 n,.int .i64 t] w fun e w'=>e = .returned (.int .i64 (zEx xs n t))/\Ext w w':=by
 obtain⟨T,rfl⟩:∃ T:Nat,t=T:=⟨t.toNat,by omega⟩
 have H:=zh h;have hf:=hv.fl;obtain⟨a,c,rfl,hl⟩:=h.form;clear h;obtain⟨L,hL⟩:∃ L,zAt xs=L:=⟨_,rfl⟩;have hw:Hid (zEx xs n T=(T / L.length*L.count n+(L.take (T % L.length)).count n:Nat)):=zh (by unfold zEx zC1;rw[hL];rfl)
 have hL12:1<=L.length/\L.length<=240:=by rw[<- hL];exact hf
 obtain⟨hL1,hL2⟩:=hL12;replace hL:=zh hL;clear hf;have HV:=zh hv;go_enter Tryz.func44,Tryz.ntmps44;go_upto_region 2 with (go_at_call 84;refine(zGi _ xs w H.out HV.out.tk HV.out.len.2).mono ?_;rintro e w1 ⟨v1,rfl,hr,he⟩;rw[hL.out] at hr;obtain⟨p,q,rfl,_⟩:=hr.form;have HR:=zh hr;have HE:=zh he;clear hr he)
 clear hL hv;have hlt:T % L.length < L.length:=Nat.mod_lt _ (by omega)
 have hm:(T:Int).tmod (L.length:Int)=((T % L.length:Nat):Int):=Int.ofNat_tmod _ _;have hd:(T:Int).tdiv (L.length:Int)=((T / L.length:Nat):Int):=Int.ofNat_tdiv _ _;have hdb:T / L.length<=T:=Nat.div_le_self _ _;have hne:(L.length:Int)≠0:=by omega
 obtain⟨r,hr2⟩:∃ r,T % L.length=r:=⟨_,rfl⟩;obtain⟨d,hd2⟩:∃ d,T / L.length=d:=⟨_,rfl⟩;rw[hr2] at hlt hm hw;rw[hd2] at hd hdb hw;clear hr2 hd2;go_wp2;go_loopw [8,9,10,11,16] (fun v8 v9 _ _ i wr => ∃ k:Nat,k<=L.length/\i = .int .i64 k/\v8 = .int .i64 ((L.take k).count n:Nat)/\v9 = .int .i64 ((L.take (min k r)).count n:Nat)/\wr=w1) (fun _ _ _ _ i _=>L.length - (intOf i).toNat)
 case atStart=>exact⟨0,Nat.zero_le _,rfl,by simp,by simp,rfl⟩
 case round =>
  obtain⟨k,hk,rfl,rfl,rfl,rfl⟩:=hrel;have hb1:(L.take k).count n<=k:=Nat.le_trans List.count_le_length (by rw[List.length_take];omega)
  have hb2:(L.take (min k r)).count n<=k:=Nat.le_trans List.count_le_length (by rw[List.length_take];omega)
  by_cases hkt:k < L.length
  ·obtain⟨b,o,x,rfl,hb,hx,hc,hr⟩:=HR.out.atInt k hkt;have hs:=zh (zAd hx.out);obtain⟨A,hA⟩:∃ A,(L.take k).count n=A:=⟨_,rfl⟩;obtain⟨B,hB⟩:∃ B,(L.take (min k r)).count n=B:=⟨_,rfl⟩;rw[hA] at hb1 ⊢;rw[hB] at hb2 ⊢;replace hA:=zh hA;replace hB:=zh hB;by_cases hxn:x=n
   ·have hxe:(x == n)=true:=by simp[hxn]
    by_cases hkr:k < r
    ·have h1:=zh (show min k r=k by omega)
     have h2:=zh (show min (k+1) r=k+1 by omega)
     have hxn2:=zh hxn;clear hxn;go_wp2;go_roundw
     case rel=>exact⟨k+1,by omega,by go_num,by rw[hs.out,List.count_append,hA.out,hxn2.out];simp,by rw[h2.out,hs.out,List.count_append,<- hB.out,h1.out,hxn2.out];simp,by trivial⟩
     case measure=>simp[intOf];omega
    ·have h1:=zh (show min k r=r by omega)
     have h2:=zh (show min (k+1) r=r by omega)
     have hxn2:=zh hxn;clear hxn;go_wp2;go_roundw
     case rel=>exact⟨k+1,by omega,by go_num,by rw[hs.out,List.count_append,hA.out,hxn2.out];simp,by rw[h2.out,<- hB.out,h1.out],by trivial⟩
     case measure=>simp[intOf];omega
   ·have hxe:(x == n)=false:=by simpa using hxn
    have hxe2:=zh hxe;clear hxn;have hc1:=zh (show(L.take (min (k+1) r)).count n=B by
     by_cases hkr:k < r
     ·rw[show min (k+1) r=k+1 by omega,hs.out,List.count_append,<- hB.out,show min k r=k by omega,List.count_singleton,hxe2.out];rfl
     ·rw[show min (k+1) r=r by omega,<- hB.out,show min k r=r by omega])
    go_wp2;go_roundw
    case rel=>exact⟨k+1,by omega,by go_num,by rw[hs.out,List.count_append,hA.out,List.count_singleton,hxe2.out];rfl,by rw[hc1.out],by trivial⟩
    case measure=>simp[intOf];omega
  ·obtain rfl:k=L.length:=by omega
   rw[show min L.length r=r by omega] at *
   rw[List.take_length] at *;obtain⟨A,hA⟩:∃ A,L.count n=A:=⟨_,rfl⟩;obtain⟨B,hB⟩:∃ B,(L.take r).count n=B:=⟨_,rfl⟩;rw[hA] at hb1 hw ⊢;rw[hB] at hb2 hw ⊢;clear hA hB;have hmul:(d:Int)*(A:Int)=((d*A:Nat):Int):=by simp
   have hmb:d*A<=1000000*240:=Nat.mul_le_mul (by omega) (by omega)
   obtain⟨m,hm2⟩:∃ m,d*A=m:=⟨_,rfl⟩;rw[hm2] at hmul hmb hw;clear hm2;go_wp2;go_ret;exact⟨by rw[hw.out];simp,HE.out⟩
theorem impl_OwnTicks(v:Value)(xs:List Slot)(N n t:Int)(w:World)(h:Rs w v xs)(hv:zCg xs N=true)(hn0:0<=n)(hn:n < N)(ht0:0<=t)(ht:t<=1000000) :
  Calls Tryz.prog 16 #[v,.int .i64 N,.int .i64 n,.int .i64 t] w fun e w'=>e = .returned (.int .i64 (zEx xs n t))/\Ext w w':=by
 have H:=zh h;obtain⟨a,c,rfl,hl⟩:=h.form;have hN:=(zFk hv).2.2.1;have HV:=zh hv;have HS:=zh (zJ0.of hv);have HI:=zh (zGl ht0 ht:zA4 t 0 1000000=true);have HI2:=zh (zGl hn0 (by omega):zA4 n 0 (N - 1)=true)
 clear h hv;go_enter Tryz.func16,Tryz.ntmps16
 go_wp2_with (first
  | (go_at_call 43;refine(zCx _ xs N w H.out).mono ?_;rintro e w1 ⟨rfl,he⟩;rw[HV.out];have HE1:=zh he;clear he)
  | (go_at_call 31;refine(zAc _ _ _ _).mono ?_;rintro e w' ⟨rfl,rfl⟩;first|rw[HI.out]|rw[HI2.out])
  | (go_at_call 44;refine(zIf _ xs n t _ (H.out.ext HE1.out) HS.out ht0 ht).mono ?_;rintro e w2 ⟨rfl,he⟩;have HE2:=zh (HE1.out.tr he);clear he))
 go_ret;exact⟨rfl,HE2.out⟩
theorem zDf(z:Array Value)(n:Nat):(Builtin.zeroCells z n).size=n*z.size:=by
 have key:∀ n,(Builtin.zeroCells z n).size=n*z.size:=by
  intro n;unfold Builtin.zeroCells;simp
 exact key n
theorem zHf(n:Nat)(hn:n<=1000000)(w:World) :
  Calls Tryz.prog 137 #[.slice none 0 0,.int .i64 n] w fun e w' => ∃ v',e = .returned v'/\Oa (α:=Int) 3 w.heap.size w' v' [] []/\Ext w w':=by
 by_cases h0:n=0
 ·subst h0;go_enter Tryz.func137,Tryz.ntmps137;go_wp2;go_ret;exact⟨_,rfl,Oa.nil _ _ _,zr _⟩
 ·obtain⟨i1,hi1,hq0,hq1,hq2⟩:=info_parts zIh;have hrun:(Builtin.append_ #[38,3] 38 #[.slice none 0 0,.int .i64 (n:Int)]).run Tryz.prog w = .ok (.slice (some ⟨w.heap.size,0,none⟩) n (grownCap w n 0 3)) (w.drew.alloc (.cells (Builtin.zeroCells #[.int .i64 0] n++Builtin.zeroCells #[.int .i64 0] (grownCap w n 0 3 - n)) 3)):=by
   have h:=Go.Lib.run_append_nil_zeros (P:=Tryz.prog) w 38 3 38 3 i1 (.int .i64 0) .i64 .i64 Tryz.underlying38 (by kernel_rfl) hi1 hq0 n (by omega) (by rw[hq1];decide) (by omega) (by rw[hq2];omega)
   simpa [Value.cells] using h
  have hge:=grownCap_ge w n 0 3;have hcm:grownCap w n 0 3<=maxLen:=grownCap_le_maxLen w n 0 3 (by unfold maxLen;omega)
  have hcsz:(Builtin.zeroCells #[Value.int .i64 0] n++Builtin.zeroCells #[Value.int .i64 0] (grownCap w n 0 3 - n)).size=grownCap w n 0 3:=by
   rw[Array.size_append,zDf,zDf];simp;omega
  obtain⟨cap,hcap⟩:∃ cap,grownCap w n 0 3=cap:=⟨_,rfl⟩;rw[hcap] at hrun hge hcm hcsz
  generalize Builtin.zeroCells #[Value.int .i64 0] n++Builtin.zeroCells #[Value.int .i64 0] (cap - n)=C at hrun hcsz
  have HC:=zh hcsz;have hcap1:1<=cap:=by omega
  have hcm2:cap<=9223372036854775807:=by unfold maxLen at hcm;exact hcm
  clear hcsz hcap;replace hrun:=zh hrun;go_enter Tryz.func137,Tryz.ntmps137;go_wp2_with (at_builtin;refine Go.Lib.wpList_append_run _ rfl (.tmp 20) (.tmp 21) 38 3 rfl _ _ rfl rfl _ _ hrun.out ?_)
  go_ret;refine⟨_,rfl,.inr ⟨w.heap.size,cap,C,rfl,Nat.le_refl _,by show(w.drew.heap.push (.cells C 3))[w.drew.heap.size]? = _;rw[Array.getElem?_push_size],Nat.zero_le _,hcm,by rw[HC.out];simp[GT.sz],rfl,by simp⟩,((zr w).drew).alloc _⟩
theorem zGq(v:Value)(xss:List (List Int))(w:World)(h:Rs w v xss)(hn:xss.length<=1000)(hl:∀ xs∈xss,xs.length<=1000) :
  Calls Tryz.prog 107 #[v] w fun e w' => ∃ a c,e = .returned (.slice a xss.flatten.length c)/\Os w.heap.size w' (.slice a xss.flatten.length c) xss.flatten/\xss.flatten.length<=c/\c<=9223372036854775807/\Ext w w':=by
 have H:=zh h;have HL:=zh hl;obtain⟨a,c,rfl,hln⟩:=h.form;clear h hl;have hfl:∀ k,k<=xss.length->(xss.take k).flatten.length<=1000*k:=by
  intro k
  induction k with
  | zero=>intro _;simp
  | succ k ih =>
   intro hk;have hx:xss[k]? = some xss[k]:=List.getElem?_eq_getElem (by omega)
   rw[zAd hx,List.flatten_append,List.length_append]
   have:=HL.out xss[k] (List.getElem_mem _)
   have:=ih (by omega)
   simp only[List.flatten_cons,List.flatten_nil,List.append_nil];omega
 have HFL:=zh hfl;clear hfl;go_enter Tryz.func107,Tryz.ntmps107;go_wp2;go_loopw [3,5,11] (fun v3 _ i wr => ∃ k:Nat,k<=xss.length/\i = .int .i64 k/\v3 = .int .i64 ((xss.take k).flatten.length:Nat)/\wr=w) (fun _ _ i _=>xss.length - (intOf i).toNat)
 case atStart=>exact⟨0,Nat.zero_le _,rfl,rfl,rfl⟩
 case round =>
  obtain⟨k,hk,rfl,rfl,hww⟩:=hrel;obtain rfl:w=wr:=hww.symm;have hb:=HFL.out k hk;obtain⟨A,hA⟩:∃ A,(xss.take k).flatten.length=A:=⟨_,rfl⟩;rw[hA] at hb ⊢;replace hA:=zh hA;by_cases hlt:k < xss.length
  ·obtain⟨b,o,xs,ax,cx,rfl,hbl,hx,hc,hrx,hlx⟩:=H.out.atList k hlt;have hxl:=HL.out xs (List.mem_of_getElem? hx.out);have HN:=zh (zAd hx.out);go_wp2;go_roundw
   case rel=>exact⟨k+1,by omega,by go_num,by rw[HN.out,List.flatten_append,List.length_append,hA.out];simp,by trivial⟩
   case measure=>simp[intOf];omega
  ·obtain rfl:k=xss.length:=by omega
   have hA2:Hid (xss.flatten.length=A):=zh (by have:=hA.out;rwa [List.take_length] at this)
   go_upto_region 10 with (go_at_call 137;refine(zHf A (by omega) _).mono ?_;rintro e w1 ⟨v1,rfl,ho,he⟩;have HO:=zh ho;have HE:=zh he;obtain⟨p1,n1,q1,rfl⟩:=Oa.sh0 ho;clear ho he)
   go_wp2_with fail
   go_loopw [6,8,27] (fun v6 _ i wr => ∃ (j:Nat) (ao:Option Addr) (no co:Nat),j<=xss.length/\i = .int .i64 j/\v6 = .slice ao no co/\Oa (α:=Int) 3 w.heap.size wr (.slice ao no co) (xss.take j).flatten []/\Ext w wr) (fun _ _ i _=>xss.length - (intOf i).toNat)
   case atStart=>exact⟨0,_,_,_,Nat.zero_le _,rfl,rfl,HO.out,HE.out⟩
   case round =>
    clear HO HE;obtain⟨j,ao,no,co,hj,rfl,rfl,ho,hq⟩:=hrel;have HO:=zh ho;have HQ:=zh hq;have hsz:=hq.sz;clear ho hq;by_cases hjt:j < xss.length
    ·obtain⟨b,o,xs,ax,cx,rfl,hbl,hx,hc,hrx,hlx⟩:=H.out.atList j hjt;have hxl:=HL.out xs (List.mem_of_getElem? hx.out);have HN:=zh (zAd hx.out);have hb2:=HFL.out j (by omega)
     have e1:=(zA0 HQ.out hbl).trans hc;clear hc;go_wp2_with (at_builtin;refine zFh (α:=Int) rfl _ _ 38 rfl 3 Tryz.underlying38 zEa (L:=w.heap.size) (v:=.slice ao no co) (xs:=(xss.take j).flatten) (ys:=xs) rfl HO.out rfl (hrx.out.ext HQ.out) (by omega) hsz ?_;intro v5 w5 hO5 hg5;have HO5:=zh hO5;have HE5:=zh (HQ.out.grown hg5 (fun k hk=>HO.out.own k hk));obtain⟨p5,n5,q5,rfl⟩:=Oa.sh0 hO5;clear hO5 hg5)
     go_roundw
     case rel=>exact⟨j+1,_,_,_,by omega,by go_num,rfl,by rw[HN.out,List.flatten_append];simpa using HO5.out,HE5.out⟩
     case measure=>simp[intOf];omega
    ·obtain rfl:j=xss.length:=by omega
     rw[List.take_length] at HO;obtain⟨_,_,hno,_⟩:=HO.out.form;cases hno;have hcap:=HO.out.cap;go_wp2;go_ret;exact⟨_,_,rfl,HO.out.os (Own.nil _ _),hcap.1,hcap.2,HQ.out⟩
end Sk
