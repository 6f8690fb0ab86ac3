/- Contracts of functions of the given program. -/
import Derived.Lib.AppendZeros
import Derived.Test.YtbekofpkcahbkaaGreatFrame
namespace Sk
open Go Go.Proofs Go.RowKit
set_option maxHeartbeats 1500000
set_option maxRecDepth 100000
set_option linter.unusedVariables false
set_option linter.unusedSimpArgs false
theorem zO2(v:Value)(xs:List Slot)(N:Int)(w:World)(h:Rs w v xs)(hv:zCv xs N=true) :
  Calls Tryz.prog 19 #[v,.int .i64 N] w fun e w'=>e = .returned (.int .i64 (zJ0 xs))/\Ext w w':=by
 have H:=zh h;obtain⟨a,c,rfl,hl⟩:=h.form;have HV:=zh hv;have HS:=zh (zKd.of hv);clear h hv;go_enter Tryz.func19,Tryz.ntmps19
 go_wp2_with (first
  | (go_at_call 43;refine(zEq _ xs N w H.out).mono ?_;rintro e w1 ⟨rfl,he⟩;rw[HV.out];have HE1:=zh he;clear he)
  | (go_at_call 44;refine(zF2 _ xs _ (H.out.ext HE1.out) HS.out.tk HS.out.len.2).mono ?_;rintro e w2 ⟨v2,rfl,hr,he⟩;obtain⟨p,q,rfl,_⟩:=hr.form;have HE2:=zh (HE1.out.tr he);clear hr he))
 go_ret;exact⟨rfl,HE2.out⟩
theorem zMm{xs:List Slot}(h:∀ x∈xs,1<=x.Ticks/\x.Ticks<=20){k r:Nat}{x:Slot}(hx:xs[k]? = some x)(h1:zFy xs k<=r)(h2:(r:Int) < zFy xs k+x.Ticks):(zAo xs)[r]? = some x.Who:=by
 have hk:=zA3 hx;have hsp:zAo xs=zAo (xs.take k)++(List.replicate x.Ticks.toNat x.Who++zAo (xs.drop (k+1))):=by
  have e:xs=xs.take k++x::xs.drop (k+1):=by
   obtain⟨hl,rfl⟩:=List.getElem?_eq_some_iff.1 hx;rw[List.getElem_cons_drop,List.take_append_drop]
  conv=>lhs;rw[e]
  unfold zAo;simp
 have hl:=zD4 (xs:=xs.take k) (fun y hy=>h y (List.mem_of_mem_take hy))
 have hl2:zFy (xs.take k) (xs.take k).length=zFy xs k:=by unfold zFy;rw[List.take_length]
 rw[hl2] at hl;have hxt:=h x (List.mem_of_getElem? hx);rw[hsp,List.getElem?_append_right (by omega),List.getElem?_append_left (by rw[List.length_replicate];omega),List.getElem?_replicate,if_pos (by omega)]
theorem zG9(v:Value)(xs:List Slot)(N t:Int)(w:World)(h:Rs w v xs)(hv:zCv xs N=true)(ht0:0<=t)(ht:t<=1000000) :
  Calls Tryz.prog 108 #[v,.int .i64 N,.int .i64 t] w fun e w'=>e = .returned (.int .i64 (zD0 xs t))/\Ext w w':=by
 obtain⟨t',rfl⟩:∃ t':Nat,t=t':=⟨t.toNat,by omega⟩
 obtain⟨a,c,rfl,hl⟩:=h.form;have H:=zh h;have hall:=zEp hv;have HV:=zh hv;have HS:=zh (zKd.of hv);obtain⟨hx1,hx12,_,hxx⟩:=hall;have HT:=zh (zIe (fun x hx=>(hxx x hx).1))
 have HXX:=zh hxx;have HIN:=zh (zI7 ht0 ht:zA8 t' 0 1000000=true);have hfl:=HS.out.fl;have HFT:=zh HS.out.fl_tk;obtain⟨T,hT⟩:∃ T,zJ0 xs=T:=⟨_,rfl⟩;rw[hT] at HFT hfl;have hmod:(t':Int).tmod (T:Int)=((t' % T:Nat):Int):=Int.ofNat_tmod _ _;have hne:(T:Int)≠0:=by omega
 obtain⟨r,hr⟩:∃ r,t' % T=r:=⟨_,rfl⟩;have hrT:r < T:=by rw[<- hr];exact Nat.mod_lt _ (by omega)
 have HW:Hid (zD0 xs t'=(zAo xs).getD r 0):=zh (by unfold zD0;rw[hT,Int.toNat_natCast,hr])
 rw[hr] at hmod;replace hT:=zh hT;clear h hv hxx hr;go_enter Tryz.func108,Tryz.ntmps108
 go_wp2_with (first
  | (go_at_call 41;refine(zDh _ xs N _ (H.out.ext HE1.out) HV.out).mono ?_;rintro e w2 ⟨rfl,he⟩;rw[<- HFT.out];have HE2:=zh (HE1.out.tr he);clear he)
  | (go_at_call 70;refine(zCg _ xs N w H.out).mono ?_;rintro e w1 ⟨rfl,he⟩;rw[HV.out];have HE1:=zh he;clear he)
  | (go_at_call 39;refine(zAb _ _ _ _).mono ?_;rintro e w' ⟨rfl,rfl⟩;rw[HIN.out]))
 go_loopw [7,8] (fun u i wr => ∃ k:Nat,k < xs.length/\i = .int .i64 k/\zFy xs k<=r/\u = .int .i64 (r - zFy xs k)/\Ext w wr) (fun _ i _=>xs.length - (intOf i).toNat)
 case atStart=>exact⟨0,by omega,rfl,by rw[zKr];omega,by simp[zKr],HE2.out⟩
 case round =>
  clear HE1 HE2;obtain⟨k,hk,rfl,hle,rfl,hq⟩:=hrel;have HQ:=zh hq;clear hq;obtain⟨b,o,x,rfl,hbl,hx,hc0,hc1,hr0,hr1,hvx⟩:=(H.out.ext HQ.out).atSlot k hk;have hb:=HT.out k (by omega)
  have hxt:=HXX.out x (List.mem_of_getElem? hx.out);have HN:=zh (zFz hx.out);by_cases hge:x.Ticks<=r - zFy xs k
  ·have hk1:k+1 < xs.length:=by
    by_cases hlast:k+1=xs.length
    ·exfalso;have h1:=HN.out;rw[hlast,<- HFT.out] at h1;omega
    ·omega
   go_wp2;go_roundw
   case rel=>exact⟨k+1,hk1,by go_num,by rw[HN.out];omega,by rw[HN.out];congr 1;omega,HQ.out⟩
   case measure=>simp[intOf];omega
  ·have hlt:(r:Int) < zFy xs k+x.Ticks:=by omega
   have HF:=zh (zMm HS.out.tk hx.out hle hlt);have HWX:Hid (zD0 xs t'=x.Who):=zh (by rw[HW.out,List.getD_eq_getElem?_getD,HF.out];rfl)
   go_wp2;go_ret;exact⟨by rw[HWX.out];first|done|rfl,HQ.out⟩
theorem zH9{A:List Int}{r T:Nat}{n x:Int}:((A++List.replicate T x).take r).count n=(A.take r).count n+if x=n then min T (r - A.length) else 0:=by
 rw[List.take_append,List.count_append,List.take_replicate,List.count_replicate];by_cases h:x=n
 ·simp[h];omega
 ·simp[h]
theorem zK6(v:Value)(xs:List Slot)(N n t:Int)(w:World)(h:Rs w v xs)(hv:zCv xs N=true)(hn0:0<=n)(hn:n < N)(ht0:0<=t)(ht:t<=1000000) :
  Calls Tryz.prog 110 #[v,.int .i64 N,.int .i64 n,.int .i64 t] w fun e w'=>e = .returned (.int .i64 (zGj xs n t))/\Ext w w':=by
 obtain⟨t',rfl⟩:∃ t':Nat,t=t':=⟨t.toNat,by omega⟩
 obtain⟨a,c,rfl,hl⟩:=h.form;have H:=zh h;have hall:=zEp hv;have HV:=zh hv;have HS:=zh (zKd.of hv);obtain⟨hx1,hx12,hN,hxx⟩:=hall;have HT:=zh (zIe (fun x hx=>(hxx x hx).1))
 have HXX:=zh hxx;have HIN:=zh (zI7 ht0 ht:zA8 t' 0 1000000=true);have HI2:=zh (zI7 hn0 (by omega):zA8 n 0 (N - 1)=true)
 have hfl:=HS.out.fl;have HFT:=zh HS.out.fl_tk;obtain⟨T,hT⟩:∃ T,zJ0 xs=T:=⟨_,rfl⟩;rw[hT] at HFT hfl;have hmod:(t':Int).tmod (T:Int)=((t' % T:Nat):Int):=Int.ofNat_tmod _ _;have hdiv:(t':Int).tdiv (T:Int)=((t' / T:Nat):Int):=Int.ofNat_tdiv _ _;have hne:(T:Int)≠0:=by omega
 obtain⟨r,hr⟩:∃ r,t' % T=r:=⟨_,rfl⟩;obtain⟨d,hd⟩:∃ d,t' / T=d:=⟨_,rfl⟩;have hrT:r < T:=by rw[<- hr];exact Nat.mod_lt _ (by omega)
 have hdT:d<=t':=by rw[<- hd];exact Nat.div_le_self _ _
 have HW:Hid (zGj xs n t'=(d*(zAo xs).count n+((zAo xs).take r).count n:Nat)):=zh (by unfold zGj;rw[hT,Int.toNat_natCast,hr,hd])
 rw[hr] at hmod;rw[hd] at hdiv;replace hT:=zh hT;clear h hv hxx hr hd;go_enter Tryz.func110,Tryz.ntmps110
 go_wp2_with (first
  | (go_at_call 41;refine(zDh _ xs N _ (H.out.ext HE1.out) HV.out).mono ?_;rintro e w2 ⟨rfl,he⟩;rw[<- HFT.out];have HE2:=zh (HE1.out.tr he);clear he)
  | (go_at_call 70;refine(zCg _ xs N w H.out).mono ?_;rintro e w1 ⟨rfl,he⟩;rw[HV.out];have HE1:=zh he;clear he)
  | (go_at_call 39;refine(zAb _ _ _ _).mono ?_;rintro e w' ⟨rfl,rfl⟩;first|rw[HIN.out]|rw[HI2.out]))
 go_loopw [10,11,12,13] (fun v10 v11 v12 i wr => ∃ (k A B:Nat),k<=xs.length/\i = .int .i64 k/\v10 = .int .i64 A/\A=(zAo (xs.take k)).count n/\v11 = .int .i64 B/\B=((zAo (xs.take k)).take r).count n/\v12 = .int .i64 (zFy xs k)/\Ext w wr) (fun _ _ _ i _=>xs.length - (intOf i).toNat)
 case atStart=>exact⟨0,0,0,by omega,rfl,rfl,rfl,rfl,by simp[zAo],rfl,HE2.out⟩
 case round =>
  clear HE1 HE2;obtain⟨k,A,B,hk,rfl,rfl,hA,rfl,hB,rfl,hq⟩:=hrel;have HQ:=zh hq;have hAl:A<=240:=by rw[hA];exact Nat.le_trans List.count_le_length (Nat.le_trans (zGi HS.out.tk k) (by omega))
  have hBl:B<=r:=by rw[hB];exact Nat.le_trans List.count_le_length (by rw[List.length_take];omega)
  replace hA:=zh hA;replace hB:=zh hB;clear hq;have hb:=HT.out k (by omega)
  obtain⟨tk,htk⟩:∃ tk:Nat,zFy xs k=tk:=⟨(zFy xs k).toNat,by omega⟩
  rw[htk] at hb;have HTK:Hid ((zAo (xs.take k)).length=tk):=zh (by
   have hl:=zD4 (xs:=xs.take k) (fun y hy=>HS.out.tk y (List.mem_of_mem_take hy))
   have hl2:zFy (xs.take k) (xs.take k).length=zFy xs k:=by unfold zFy;rw[List.take_length]
   rw[hl2] at hl
   omega)
  rw[htk];replace htk:=zh htk;by_cases hkt:k < xs.length
  ·obtain⟨b,o,x,rfl,hbl,hx,hc0,hc1,hr0,hr1,hvx⟩:=(H.out.ext HQ.out).atSlot k hkt;have hxt:=HXX.out x (List.mem_of_getElem? hx.out);have HN:=zh (zFz hx.out);have HFN:=zh (zHa hx.out);obtain⟨X,hX⟩:∃ X:Nat,x.Ticks=X:=⟨x.Ticks.toNat,by omega⟩
   have hXn:x.Ticks.toNat=X:=by omega
   have hX1:1<=X:=by omega
   have hX2:X<=20:=by omega
   rw[hX] at hc1;rw[hXn] at HFN;have HXT:=zh hX;clear hX hXn hxt hvx hr1;by_cases hxn:x.Who=n
   ·have hxe:(x.Who == n)=true:=by simp[hxn]
    have hxn2:=zh hxn;clear hxn;obtain⟨mn,hmn,hmn2⟩:∃ mn:Int,(if (r:Int) - tk < X then (r:Int) - tk else (X:Int))=mn/\(((min X (r - tk):Nat):Int)=if 0 < mn then mn else 0) /\ -240<=mn/\mn<=240:=⟨_,rfl,by split<;>split<;>omega,by split<;>omega⟩
    obtain⟨hmx,hmb⟩:=hmn2;replace hmx:=hmx.symm;obtain⟨m,hm⟩:∃ m:Nat,min X (r - tk)=m:=⟨_,rfl⟩;rw[hm] at hmx;have hm20:m<=20:=by omega
    have HC:=zh (@zH9 (zAo (xs.take k)) r X n x.Who);rw[if_pos hxn2.out,HTK.out,hm] at HC;clear hm;go_upto_region 12 with (fail)
    go_big_quiet (fail)
    go_wp2;go_roundw
    case rel=>exact⟨k+1,A+X,B+m,by omega,by go_num,by simp,by rw[HFN.out,List.count_append,<- hA.out,List.count_replicate,hxe];simp,by simp,by rw[HFN.out,HC.out,<- hB.out],by rw[HN.out,htk.out,HXT.out],HQ.out.drewN _⟩
    case measure=>simp[intOf];omega
   ·have hxe:(x.Who == n)=false:=by simpa using hxn
    have HC:=zh (@zH9 (zAo (xs.take k)) r X n x.Who);rw[if_neg hxn] at HC;have hxe2:=zh hxe;clear hxn;go_wp2;go_roundw
    case rel=>exact⟨k+1,A,B,by omega,by go_num,rfl,by rw[HFN.out,List.count_append,<- hA.out,List.count_replicate,hxe2.out];simp,rfl,by rw[HFN.out,HC.out,<- hB.out];simp,by rw[HN.out,htk.out,HXT.out],HQ.out⟩
    case measure=>simp[intOf];omega
  ·obtain rfl:k=xs.length:=by omega
   rw[List.take_length] at hA hB;have hmul:(d:Int)*(A:Int)=((d*A:Nat):Int):=by simp
   have hmb:d*A<=1000000*240:=Nat.mul_le_mul (by omega) (by omega)
   obtain⟨m,hm2⟩:∃ m,d*A=m:=⟨_,rfl⟩;have HWX:Hid (zGj xs n t'=(m:Int)+B):=zh (by rw[HW.out,<- hA.out,<- hB.out,hm2];simp)
   rw[hm2] at hmul hmb;clear hm2;go_wp2;go_ret;exact⟨by rw[HWX.out];first|done|rfl,HQ.out⟩
theorem zDv(z:Array Value)(n:Nat):(Builtin.zeroCells z n).size=n*z.size:=by
 have key:∀ n,(Builtin.zeroCells z n).size=n*z.size:=by
  intro n;unfold Builtin.zeroCells;simp
 exact key n
theorem zKy(n:Nat)(hn:n<=1000000)(w:World) :
  Calls Tryz.prog 160 #[.slice none 0 0,.int .i64 n] w fun e w' => ∃ v',e = .returned v'/\Oa (α:=Int) 3 w.heap.size w' v' [] []/\Ext w w':=by
 by_cases h0:n=0
 ·subst h0;go_enter Tryz.func160,Tryz.ntmps160;go_wp2;go_ret;exact⟨_,rfl,Oa.nil _ _ _,zr _⟩
 ·obtain⟨i1,hi1,hq0,hq1,hq2⟩:=info_parts zMf;have hrun:(Builtin.append_ #[34,3] 34 #[.slice none 0 0,.int .i64 (n:Int)]).run Tryz.prog w = .ok (.slice (some ⟨w.heap.size,0,none⟩) n (grownCap w n 0 3)) (w.drew.alloc (.cells (Builtin.zeroCells #[.int .i64 0] n++Builtin.zeroCells #[.int .i64 0] (grownCap w n 0 3 - n)) 3)):=by
   have h:=Go.Lib.run_append_nil_zeros (P:=Tryz.prog) w 34 3 34 3 i1 (.int .i64 0) .i64 .i64 Tryz.underlying34 (by kernel_rfl) hi1 hq0 n (by omega) (by rw[hq1];decide) (by omega) (by rw[hq2];omega)
   simpa [Value.cells] using h
  have hge:=grownCap_ge w n 0 3;have hcm:grownCap w n 0 3<=maxLen:=grownCap_le_maxLen w n 0 3 (by unfold maxLen;omega)
  have hcsz:(Builtin.zeroCells #[Value.int .i64 0] n++Builtin.zeroCells #[Value.int .i64 0] (grownCap w n 0 3 - n)).size=grownCap w n 0 3:=by
   rw[Array.size_append,zDv,zDv];simp;omega
  obtain⟨cap,hcap⟩:∃ cap,grownCap w n 0 3=cap:=⟨_,rfl⟩;rw[hcap] at hrun hge hcm hcsz
  generalize Builtin.zeroCells #[Value.int .i64 0] n++Builtin.zeroCells #[Value.int .i64 0] (cap - n)=C at hrun hcsz
  have HC:=zh hcsz;have hcap1:1<=cap:=by omega
  have hcm2:cap<=9223372036854775807:=by unfold maxLen at hcm;exact hcm
  clear hcsz hcap;replace hrun:=zh hrun;go_enter Tryz.func160,Tryz.ntmps160;go_wp2_with (at_builtin;refine Go.Lib.wpList_append_run _ rfl (.tmp 20) (.tmp 21) 34 3 rfl _ _ rfl rfl _ _ hrun.out ?_)
  go_ret;refine⟨_,rfl,.inr ⟨w.heap.size,cap,C,rfl,Nat.le_refl _,by show(w.drew.heap.push (.cells C 3))[w.drew.heap.size]? = _;rw[Array.getElem?_push_size],Nat.zero_le _,hcm,by rw[HC.out];simp[GT.sz],rfl,by simp⟩,((zr w).drew).alloc _⟩
theorem zK2(v:Value)(xss:List (List Int))(w:World)(h:Rs w v xss)(hn:xss.length<=1000)(hl:∀ xs∈xss,xs.length<=1000) :
  Calls Tryz.prog 129 #[v] w fun e w' => ∃ a c,e = .returned (.slice a xss.flatten.length c)/\Os w.heap.size w' (.slice a xss.flatten.length c) xss.flatten/\xss.flatten.length<=c/\c<=9223372036854775807/\Ext w w':=by
 have H:=zh h;have HL:=zh hl;obtain⟨a,c,rfl,hln⟩:=h.form;clear h hl;have hfl:∀ k,k<=xss.length->(xss.take k).flatten.length<=1000*k:=by
  intro k
  induction k with
  | zero=>intro _;simp
  | succ k ih =>
   intro hk;have hx:xss[k]? = some xss[k]:=List.getElem?_eq_getElem (by omega)
   rw[zAe hx,List.flatten_append,List.length_append]
   have:=HL.out xss[k] (List.getElem_mem _)
   have:=ih (by omega)
   simp only[List.flatten_cons,List.flatten_nil,List.append_nil];omega
 have HFL:=zh hfl;clear hfl;go_enter Tryz.func129,Tryz.ntmps129;go_wp2;go_loopw [3,5,11] (fun v3 _ i wr => ∃ k:Nat,k<=xss.length/\i = .int .i64 k/\v3 = .int .i64 ((xss.take k).flatten.length:Nat)/\wr=w) (fun _ _ i _=>xss.length - (intOf i).toNat)
 case atStart=>exact⟨0,Nat.zero_le _,rfl,rfl,rfl⟩
 case round =>
  obtain⟨k,hk,rfl,rfl,hww⟩:=hrel;obtain rfl:w=wr:=hww.symm;have hb:=HFL.out k hk;obtain⟨A,hA⟩:∃ A,(xss.take k).flatten.length=A:=⟨_,rfl⟩;rw[hA] at hb ⊢;replace hA:=zh hA;by_cases hlt:k < xss.length
  ·obtain⟨b,o,xs,ax,cx,rfl,hbl,hx,hc,hrx,hlx⟩:=H.out.atList k hlt;have hxl:=HL.out xs (List.mem_of_getElem? hx.out);have HN:=zh (zAe hx.out);go_wp2;go_roundw
   case rel=>exact⟨k+1,by omega,by go_num,by rw[HN.out,List.flatten_append,List.length_append,hA.out];simp,by trivial⟩
   case measure=>simp[intOf];omega
  ·obtain rfl:k=xss.length:=by omega
   have hA2:Hid (xss.flatten.length=A):=zh (by have:=hA.out;rwa [List.take_length] at this)
   go_upto_region 10 with (go_at_call 160;refine(zKy A (by omega) _).mono ?_;rintro e w1 ⟨v1,rfl,ho,he⟩;have HO:=zh ho;have HE:=zh he;obtain⟨p1,n1,q1,rfl⟩:=Oa.sh0 ho;clear ho he)
   go_wp2_with fail
   go_loopw [6,8,27] (fun v6 _ i wr => ∃ (j:Nat) (ao:Option Addr) (no co:Nat),j<=xss.length/\i = .int .i64 j/\v6 = .slice ao no co/\Oa (α:=Int) 3 w.heap.size wr (.slice ao no co) (xss.take j).flatten []/\Ext w wr) (fun _ _ i _=>xss.length - (intOf i).toNat)
   case atStart=>exact⟨0,_,_,_,Nat.zero_le _,rfl,rfl,HO.out,HE.out⟩
   case round =>
    clear HO HE;obtain⟨j,ao,no,co,hj,rfl,rfl,ho,hq⟩:=hrel;have HO:=zh ho;have HQ:=zh hq;have hsz:=hq.sz;clear ho hq;by_cases hjt:j < xss.length
    ·obtain⟨b,o,xs,ax,cx,rfl,hbl,hx,hc,hrx,hlx⟩:=H.out.atList j hjt;have hxl:=HL.out xs (List.mem_of_getElem? hx.out);have HN:=zh (zAe hx.out);have hb2:=HFL.out j (by omega)
     have e1:=(zA0 HQ.out hbl).trans hc;clear hc;go_wp2_with (at_builtin;refine zB7 (α:=Int) rfl _ _ 34 rfl 3 Tryz.underlying34 zDs (L:=w.heap.size) (v:=.slice ao no co) (xs:=(xss.take j).flatten) (ys:=xs) rfl HO.out rfl (hrx.out.ext HQ.out) (by omega) hsz ?_;intro v5 w5 hO5 hg5;have HO5:=zh hO5;have HE5:=zh (HQ.out.grown hg5 (fun k hk=>HO.out.own k hk));obtain⟨p5,n5,q5,rfl⟩:=Oa.sh0 hO5;clear hO5 hg5)
     go_roundw
     case rel=>exact⟨j+1,_,_,_,by omega,by go_num,rfl,by rw[HN.out,List.flatten_append];simpa using HO5.out,HE5.out⟩
     case measure=>simp[intOf];omega
    ·obtain rfl:j=xss.length:=by omega
     rw[List.take_length] at HO;obtain⟨_,_,hno,_⟩:=HO.out.form;cases hno;have hcap:=HO.out.cap;go_wp2;go_ret;exact⟨_,_,rfl,HO.out.os (Own.nil _ _),hcap.1,hcap.2,HQ.out⟩
theorem zBl(v:Value)(xs:List Int)(w:World)(h:Rs w v xs)(hn:xs.length<=100000000) :
  Calls Tryz.prog 81 #[v] w fun e w' => ∃ v',e = .returned v'/\Os w.heap.size w' v' xs/\Ext w w':=by
 obtain⟨F,hF⟩:=h;refine(zJ8 v xs w F hF hn).mono ?_;rintro e w' ⟨v',F',rfl,ho,_,_,he⟩;exact⟨v',rfl,ho.flat,he⟩
def zBn(x:Hold)(k s m:Int):Hold × Int :=
 if k=1 then (⟨[m]⟩,0) else if (x.Lst.length:Int) < s then (⟨x.Lst ++ [m]⟩,0) else (x,zFh (k == 3))
def zBf(x:Hold)(k:Int):Hold × Int :=
 match x.Lst with
 | []=>(x,-1)
 | m::rest=>if k=1 then (x,m) else (⟨rest⟩,m)
theorem zNk{x:Hold}{k s m:Int}(h:k=1):zBn x k s m=(⟨[m]⟩,0):=if_pos h
theorem zNl{x:Hold}{k s m:Int}(h:¬ k=1)(h2:(x.Lst.length:Int) < s):zBn x k s m=(⟨x.Lst ++ [m]⟩,0):=by unfold zBn;rw[if_neg h,if_pos h2]
theorem zNm{x:Hold}{k s m:Int}(h:¬ k=1)(h2:¬ (x.Lst.length:Int) < s):zBn x k s m=(x,zFh (k == 3)):=by unfold zBn;rw[if_neg h,if_neg h2]
theorem zNq{x:Hold}{k:Int}(h:x.Lst = []):zBf x k=(x,-1):=by unfold zBf;rw[h]
theorem zNr{x:Hold}{k m:Int}{r:List Int}(h:x.Lst=m::r)(hk:k=1):zBf x k=(x,m):=by unfold zBf;rw[h];exact if_pos hk
theorem zNs{x:Hold}{k m:Int}{r:List Int}(h:x.Lst=m::r)(hk:¬ k=1):zBf x k=(⟨r⟩,m):=by unfold zBf;rw[h];exact if_neg hk
theorem Ov.hold{L:Nat}{w:World}{v:Value}{xs:List Int}(h:Os L w v xs):Ov L w (.agg #[v]) (⟨xs⟩:Hold):=by
 obtain⟨F,h,ho⟩:=h;exact⟨[v],F,rfl,⟨v,rfl,h⟩,ho⟩
theorem Ov.hold0(L:Nat)(w:World):Ov L w (.agg #[.slice none 0 0]) (⟨[]⟩:Hold):=Ov.hold ⟨[],⟨none,0,rfl,Nat.le_refl _,Nat.zero_le _,.inl ⟨rfl,rfl⟩⟩,Own.nil _ _⟩
theorem Os.lit1(w:World)(x:Int)(hr:rng x):Os w.heap.size (w.alloc (.cells #[.int .i64 x] 3)) (.slice (some ⟨w.heap.size,0,none⟩) 1 1) [x]:=by
 have h:=Oa.lit (α:=Int) 3 w [.int .i64 x] [x] (n:=1) rfl (by simp[GT.sz]) (by simp) (Row.lit1 (cs:=[_]) ⟨rfl,hr,rfl⟩) (fun k hk=>by cases hk)
 exact h.os (Own.nil _ _)
theorem Os.setLow{α:Type}[GT α]{L:Nat}{w:World}{v:Value}{xs:List α}(h:Os L w v xs){p:Addr}(hp:p.block < L)(u:Value):Os L (w.setCell p u) v xs:=by
 obtain⟨F,h1,h2⟩:=h;exact⟨F,h1.set (fun hm=>by have:=(h2.2 _ hm).1;omega) u,h2.set p u⟩
theorem zAx{w:World}{b o k j:Nat}{u:Value}(h:b≠k):(w.setCell ⟨k,j,none⟩ u).cell? ⟨b,o,none⟩=w.cell? ⟨b,o,none⟩:=World.cell?_of_block (zA4 h)
theorem zJ5(v:Value)(x:Hold)(k s m:Int)(w:World)(h:Rv w v x)(hn:x.Lst.length<=1000)(hm:rng m) :
  Calls Tryz.prog 86 #[v,.int .i64 k,.int .i64 s,.int .i64 m] w fun e w' => ∃ v',e = .returned (.tuple #[v',.int .i64 (zBn x k s m).2])/\Ov w.heap.size w' v' (zBn x k s m).1/\Ext w w':=by
 obtain⟨a0,c0,rfl,hs,hl0⟩:=h.openHold;clear h;go_enter Tryz.func86,Tryz.ntmps86;go_upto_block 0 with (fail)
 refine zA1 (fun W=>Ext w W/\Bk W w.heap.size [.slice a0 x.Lst.length c0] 80/\Bk W (w.heap.size+1) [.slice none 0 0] 80) ⟨((zr _).alloc _).alloc _,(Bk.new _ _ _).ext ((zr _).alloc _),Bk.new1 _ _ _ _⟩ ?_
 rintro W ⟨e1,kA,kB⟩;have HE:=zh e1;have d0:=kA.cell (j:=0) rfl;have hA:=kA.lt;have HKB:=zh kB;have hB:=kB.lt;have r0:=kB.cell (j:=0) rfl;have hBf:=kB.fz;have hs2:=zh (hs.out.ext e1);have hsz:w.heap.size<=W.heap.size:=e1.sz;clear e1 kA kB hs;by_cases h1:k=1
 ·have hE:=zh (zNk (x:=x) (s:=s) (m:=m) h1);subst h1;obtain⟨V,hV⟩:∃ V:Value,V = .slice (some ⟨W.heap.size,0,none⟩) 1 1:=⟨_,rfl⟩;have hO:Hid (Os w.heap.size ((W.setCell ⟨w.heap.size+1,0,none⟩ V).alloc (.cells #[.int .i64 m] 3)) V [m]):=zh (by
   have h:=Os.lit1 (W.setCell ⟨w.heap.size+1,0,none⟩ V) m hm;rw[show(W.setCell ⟨w.heap.size+1,0,none⟩ V).heap.size=W.heap.size by simp,<- hV] at h
   exact h.mono hsz)
  have kz:=((HKB.out.set 0 V).alc (.cells #[.int .i64 m] 3)).cell (j:=0) rfl;have HX:Hid (Ext w ((W.setCell ⟨w.heap.size+1,0,none⟩ V).alloc (.cells #[.int .i64 m] 3))):=zh ((HE.out.set (by show w.heap.size<=w.heap.size+1;omega) _).alloc _)
  subst hV;go_wp2;refine bodyPost_ret (v:=.tuple #[.agg #[.slice (some ⟨W.heap.size,0,none⟩) 1 1],.int .i64 0]) (by simp[results,Tryz.results86,go_sem,kz]) rfl ⟨_,by rw[hE.out],by rw[hE.out];exact Ov.hold hO.out,HX.out⟩
 ·have h1':(k == 1)=false:=by simpa using h1
  by_cases h2:(x.Lst.length:Int) < s
  ·have hE:=zh (zNl (m:=m) h1 h2);have h2':decide ((x.Lst.length:Int) < s)=true:=decide_eq_true h2;clear h1 h2;have hXS:Hid (Rs ((W.alloc (.cells #[.int .i64 m] 3)).alloc (.cells #[.slice a0 x.Lst.length c0,.slice (some ⟨W.heap.size,0,none⟩) 1 1] 34)) (.slice (some ⟨W.heap.size+1,0,none⟩) 2 2) [x.Lst,[m]]):=zh (by
    obtain⟨F1,hF1⟩:=hs2.out;obtain⟨F2,hF2,_⟩:=Os.lit1 W m hm;refine⟨(W.heap.size+1)::(F1++(F2 ++ [])),some ⟨W.heap.size+1,0,none⟩,2,rfl,by simp,by simp[maxLen],.inr ⟨by simp,_,0,_,rfl,rfl,?_⟩⟩
    have hb:=Bk.new1 W (.cells #[.int .i64 m] 3) [.slice a0 x.Lst.length c0,.slice (some ⟨W.heap.size,0,none⟩) 1 1] 34;refine⟨[.slice a0 x.Lst.length c0],F1,_,⟨_,rfl,hF1.ext (((zr _).alloc _).alloc _)⟩,fun j u hj=>?_,rfl,[.slice (some ⟨W.heap.size,0,none⟩) 1 1],F2,[],⟨_,rfl,hF2.ext ((zr _).alloc _)⟩,fun j u hj=>?_,rfl,rfl⟩
    ·cases j with
     | zero=>cases hj;exact hb.cell (j:=0) rfl
     | succ j=>cases hj
    ·cases j with
     | zero=>cases hj;exact hb.cell (j:=1) rfl
     | succ j=>cases hj)
   have HX:=zK2 _ [x.Lst,[m]] _ hXS.out (by simp) (by
    intro ys hy;rcases List.mem_cons.1 hy with rfl|hy
    ·exact hn
    ·rw[List.mem_singleton.1 hy];simp)
   rw[show [x.Lst,[m]].flatten=x.Lst ++ [m] by simp,show(x.Lst ++ [m]).length=x.Lst.length+1 by simp] at HX
   replace HX:=zh HX
   go_wp2_with (first
    | (go_at_call 129;refine HX.out.mono ?_;rintro e w2 ⟨a2,c2,rfl,ho,hc1,hc2,he⟩;have HO:=zh ho;have HC:=zh (And.intro hc1 hc2);have HE2:=zh ((((zr W).alloc _).alloc _).tr he);have kB2:=HKB.out.ext HE2.out;have hB2:=kB2.lt;have r2:=kB2.cell (j:=0) rfl;have hBf2:=kB2.fz;have HKB2:=zh kB2;have hL2:Hid (w.heap.size+1 < ((W.alloc (.cells #[.int .i64 m] 3)).alloc (.cells #[.slice a0 x.Lst.length c0,.slice (some ⟨W.heap.size,0,none⟩) 1 1] 34)).heap.size):=zh (by simp;omega);clear ho hc1 hc2 he kB2)
    | (go_at_call 127;refine(zEs _ (x.Lst ++ [m]) _ a2 c2 (by simp) (by simpa using HC.out.1) HC.out.2).mono ?_;rintro e w3 ⟨rfl,rfl⟩))
   have HO2:=zh ((HO.out.clip.setLow (p:=⟨w.heap.size+1,0,none⟩) hL2.out (.slice a2 (x.Lst.length+1) (x.Lst.length+1))).mono (show w.heap.size<=_ from Nat.le_of_lt (Nat.lt_of_succ_lt hL2.out)))
   have kz:=(HKB2.out.set 0 (.slice a2 (x.Lst.length+1) (x.Lst.length+1))).cell (j:=0) rfl;refine bodyPost_ret (v:=.tuple #[.agg #[.slice a2 (x.Lst.length+1) (x.Lst.length+1)],.int .i64 0]) (by simp[results,Tryz.results86,go_sem,kz]) rfl ⟨_,by rw[hE.out],by rw[hE.out];exact Ov.hold HO2.out,(HE.out.tr HE2.out).set (by show w.heap.size<=w.heap.size+1;omega) _⟩
  ·have hE:=zh (zNm (m:=m) h1 h2);have h2':decide ((x.Lst.length:Int) < s)=false:=decide_eq_false h2;clear h1 h2
   go_wp2_with (first
    | (go_at_call 81;refine(zBl _ x.Lst _ hs2.out (by omega)).mono ?_;rintro e w2 ⟨v2,rfl,ho,he⟩;obtain⟨p2,q2,rfl,_⟩:=ho.form;have HO:=zh ho;have HE2:=zh he;have kB2:=HKB.out.ext he;have hB2:=kB2.lt;have r2:=kB2.cell (j:=0) rfl;have hBf2:=kB2.fz;have HKB2:=zh kB2;clear ho he kB2)
    | (go_at_call 130;refine(impl_bit _ _).mono ?_;rintro e w3 ⟨rfl,rfl⟩))
   have HO2:=zh ((HO.out.setLow (p:=⟨w.heap.size+1,0,none⟩) hB (.slice p2 x.Lst.length q2)).mono hsz);have kz:=(HKB2.out.set 0 (.slice p2 x.Lst.length q2)).cell (j:=0) rfl;refine bodyPost_ret (v:=.tuple #[.agg #[.slice p2 x.Lst.length q2],.int .i64 (zFh (k == 3))]) (by simp[results,Tryz.results86,go_sem,kz]) rfl ⟨_,by rw[hE.out],by rw[hE.out];exact Ov.hold HO2.out,(HE.out.tr HE2.out).set (by show w.heap.size<=w.heap.size+1;omega) _⟩
theorem zJ6(v:Value)(x:Hold)(k:Int)(w:World)(h:Rv w v x)(hn:x.Lst.length<=1000) :
  Calls Tryz.prog 85 #[v,.int .i64 k] w fun e w' => ∃ v',e = .returned (.tuple #[v',.int .i64 (zBf x k).2])/\Ov w.heap.size w' v' (zBf x k).1/\Ext w w':=by
 obtain⟨a0,c0,rfl,hs,hl0⟩:=h.openHold;clear h;obtain⟨L⟩:=x;simp only at hs hl0 hn;go_enter Tryz.func85,Tryz.ntmps85;go_upto_block 0 with (fail)
 refine zA1 (fun W=>Ext w W/\Bk W w.heap.size [.slice a0 L.length c0] 80/\Bk W (w.heap.size+1) [.slice none 0 0] 80) ⟨((zr _).alloc _).alloc _,(Bk.new _ _ _).ext ((zr _).alloc _),Bk.new1 _ _ _ _⟩ ?_
 rintro W ⟨e1,kA,kB⟩;have HE:=zh e1;have d0:=kA.cell (j:=0) rfl;have hA:=kA.lt;have HKB:=zh kB;have hB:=kB.lt;have r0:=kB.cell (j:=0) rfl;have hBf:=kB.fz;have hs2:=zh (hs.out.ext e1);have hsz:w.heap.size<=W.heap.size:=e1.sz;cases L with
 | nil =>
  clear e1 kA kB hs;have hE:=zh (zNq (x:=⟨[]⟩) (k:=k) rfl);go_wp2;refine bodyPost_ret (v:=.tuple #[.agg #[.slice none 0 0],.int .i64 (-1)]) (by simp[results,Tryz.results85,go_sem,r0]) rfl ⟨_,by rw[hE.out],by rw[hE.out];exact Ov.hold0 _ _,?_⟩
  exact HE.out.set (by show w.heap.size<=w.heap.size+1;omega) _
 | cons m rest =>
  rw[List.length_cons] at *;obtain⟨b,o,m',rfl,hb0,hm,hc,hr⟩:=hs.out.atInt 0 (by simp)
  obtain rfl:m=m':=by have:=hm.out;simpa using this
  rw[Nat.add_zero] at hc;have hb:b < W.heap.size:=by omega
  have hcw:=(zA0 e1 hb0).trans hc;have hbB:b≠w.heap.size+1:=by omega
  have hAB:w.heap.size≠w.heap.size+1:=by omega
  clear e1 kA kB hs hc;have hc:=hcw;clear hcw;by_cases h1:k=1
  ·have hE:=zh (zNr (x:=⟨m::rest⟩) rfl h1);subst h1;have hne:((rest.length:Int)+1 == 0)=false:=beq_eq_false_iff_ne.2 (by omega)
   go_upto_region 4 with (fail)
   go_region_held3 (fun u=>u.cell? ⟨w.heap.size,0,none⟩=some (.slice (some ⟨b,o,none⟩) (rest.length+1) c0)/\u.cell? ⟨b,o,none⟩=some (.int .i64 m))
    (first|exact⟨(zA0 HE2.out hA).trans d0,(zA0 HE2.out hb).trans hc⟩|exact⟨(zAx hAB).trans ((zA0 HE2.out hA).trans d0),(zAx hbB).trans ((zA0 HE2.out hb).trans hc)⟩|go_keep)
    (first|(go_at_call 81;refine(zBl _ (m::rest) _ (hs2.out.ext (zr W).drew) (by simp;omega)).mono ?_;rintro e w2 ⟨v2,rfl,ho,he⟩;obtain⟨p2,q2,rfl,_⟩:=ho.form;have HO:=zh ho;have HE2:=zh ((zr W).drew.tr he);have kB2:=HKB.out.ext HE2.out;have hB2:=kB2.lt;have r2:=kB2.cell (j:=0) rfl;have hBf2:=kB2.fz;have HKB2:=zh kB2;clear ho he kB2))
   go_wp2;have HO2:=zh ((HO.out.setLow (p:=⟨w.heap.size+1,0,none⟩) (by simpa using hB) (.slice p2 (rest.length+1) q2)).mono (by simpa using hsz))
   have kz:=(HKB2.out.set 0 (.slice p2 (rest.length+1) q2)).cell (j:=0) rfl;refine bodyPost_ret (v:=.tuple #[.agg #[.slice p2 (rest.length+1) q2],.int .i64 m]) (by simp[results,Tryz.results85,go_sem,kz]) rfl ⟨_,by rw[hE.out],by rw[hE.out];exact Ov.hold HO2.out,(HE.out.tr HE2.out).set (by show w.heap.size<=w.heap.size+1;omega) _⟩
  ·have hE:=zh (zNs (x:=⟨m::rest⟩) rfl h1);have h1':(k == 1)=false:=by simpa using h1
   have hne:((rest.length:Int)+1 == 0)=false:=beq_eq_false_iff_ne.2 (by omega)
   have HT:=zh hs2.out.tailI;clear h1;go_upto_region 5 with (fail)
   by_cases hco:c0=1
   ·have hr0:rest.length=0:=by
     obtain⟨_,_,_,e,h1,_⟩:=hs2.out;cases e;simp at h1;omega
    obtain rfl:rest = []:=List.length_eq_zero_iff.1 hr0;have HN:Hid (Rs W.drew (.slice (some ⟨b,o,none⟩) 0 0) ([]:List Int)):=zh ⟨[],_,0,rfl,Nat.le_refl _,Nat.zero_le _,.inl ⟨rfl,rfl⟩⟩;subst hco;simp only[List.length_nil,Nat.zero_add] at *
    go_region_held3 (fun u=>u.cell? ⟨w.heap.size,0,none⟩=some (.slice (some ⟨b,o,none⟩) 1 1)/\u.cell? ⟨b,o,none⟩=some (.int .i64 m))
     (first|exact⟨(zA0 HE2.out hA).trans d0,(zA0 HE2.out hb).trans hc⟩|exact⟨(zAx hAB).trans ((zA0 HE2.out hA).trans d0),(zAx hbB).trans ((zA0 HE2.out hb).trans hc)⟩|go_keep)
     (first|(go_at_call 81;refine(zBl _ [] _ (HN.out) (by simp)).mono ?_;rintro e w2 ⟨v2,rfl,ho,he⟩;obtain⟨p2,q2,rfl,_⟩:=ho.form;have HO:=zh ho;have HE2:=zh ((zr W).drew.tr he);have kB2:=HKB.out.ext HE2.out;have hB2:=kB2.lt;have r2:=kB2.cell (j:=0) rfl;have hBf2:=kB2.fz;have HKB2:=zh kB2;clear ho he kB2))
    go_wp2;have HO2:=zh ((HO.out.setLow (p:=⟨w.heap.size+1,0,none⟩) (by simpa using hB) (.slice p2 0 q2)).mono (by simpa using hsz))
    have kz:=(HKB2.out.set 0 (.slice p2 0 q2)).cell (j:=0) rfl;refine bodyPost_ret (v:=.tuple #[.agg #[.slice p2 0 q2],.int .i64 m]) (by simp[results,Tryz.results85,go_sem,kz]) rfl ⟨_,by rw[hE.out],by rw[hE.out];exact Ov.hold HO2.out,(HE.out.tr HE2.out).set (by show w.heap.size<=w.heap.size+1;omega) _⟩
   ·have hc1:1<=c0:=by
     obtain⟨_,_,_,e,h1,_⟩:=hs2.out;cases e;simp at h1;omega
    have hcI:(rest.length:Int)+1<=(c0:Int):=by
     obtain⟨_,_,_,e,h1,_⟩:=hs2.out;cases e;simp at h1;omega
    have hcN:rest.length+1<=c0:=by omega
    have hco2:¬ (c0 - 1=0):=by omega
    have hr1:(1:Int)<=(rest.length:Int)+1:=by omega
    have hr2:(0:Int)<=(rest.length:Int):=by omega
    go_region_held3 (fun u=>u.cell? ⟨w.heap.size,0,none⟩=some (.slice (some ⟨b,o,none⟩) (rest.length+1) c0)/\u.cell? ⟨b,o,none⟩=some (.int .i64 m))
     (first|exact⟨(zA0 HE2.out hA).trans d0,(zA0 HE2.out hb).trans hc⟩|exact⟨(zAx hAB).trans ((zA0 HE2.out hA).trans d0),(zAx hbB).trans ((zA0 HE2.out hb).trans hc)⟩|go_keep)
     (first|(go_at_call 81;refine(zBl _ rest _ (by simpa using HT.out.ext (zr W).drew) (by omega)).mono ?_;rintro e w2 ⟨v2,rfl,ho,he⟩;obtain⟨p2,q2,rfl,_⟩:=ho.form;have HO:=zh ho;have HE2:=zh ((zr W).drew.tr he);have kB2:=HKB.out.ext HE2.out;have hB2:=kB2.lt;have r2:=kB2.cell (j:=0) rfl;have hBf2:=kB2.fz;have HKB2:=zh kB2;clear ho he kB2))
    go_wp2;have HO2:=zh ((HO.out.setLow (p:=⟨w.heap.size+1,0,none⟩) (by simpa using hB) (.slice p2 rest.length q2)).mono (by simpa using hsz))
    have kz:=(HKB2.out.set 0 (.slice p2 rest.length q2)).cell (j:=0) rfl;refine bodyPost_ret (v:=.tuple #[.agg #[.slice p2 rest.length q2],.int .i64 m]) (by simp[results,Tryz.results85,go_sem,kz]) rfl ⟨_,by rw[hE.out],by rw[hE.out];exact Ov.hold HO2.out,(HE.out.tr HE2.out).set (by show w.heap.size<=w.heap.size+1;omega) _⟩
end Sk
