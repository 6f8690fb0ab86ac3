/- Contracts of functions of the given program. -/
import Derived.Laws.CopyOwn
import Derived.Lib.AppendZeros
import Derived.Test.YtfjimbnblklhdaaGreatFaultS
import Derived.Test.YtfjimbnblklhdaaGreatHw
namespace Sk
open Go Go.Proofs Go.RowKit
set_option maxHeartbeats 1000000
set_option maxRecDepth 100000
set_option linter.unusedVariables false
set_option linter.unusedSimpArgs false
theorem zOh(n:Nat)(h1:1<=n)(h2:n<=20)(w:World):Calls Tryz.prog 162 #[.int .u64 1,.int .u64 n] w fun e w'=>e = .returned (.tuple #[.int .u64 0,.int .u64 n])/\w=w':=by
 rcases(by omega:n=1\/n=2\/n=3\/n=4\/n=5\/n=6\/n=7\/n=8\/n=9\/n=10\/n=11\/n=12\/n=13\/n=14\/n=15\/n=16\/n=17\/n=18\/n=19\/n=20) with rfl|rfl|rfl|rfl|rfl|rfl|rfl|rfl|rfl|rfl|rfl|rfl|rfl|rfl|rfl|rfl|rfl|rfl|rfl|rfl
 all_goals
  clear h1 h2;go_enter Tryz.func162,Tryz.ntmps162;go_wp2;refine bodyPost_ret (v:=.tuple #[.int .u64 0,.int .u64 _]) (by simp only[results,Tryz.results162];kernel_rfl) rfl ⟨rfl,rfl⟩
theorem bits_Mul(n:Nat)(h1:1<=n)(h2:n<=20)(w:World):Calls Tryz.prog 154 #[.int .u64 1,.int .u64 n] w fun e w'=>e = .returned (.tuple #[.int .u64 0,.int .u64 n])/\w=w':=by
 go_enter Tryz.func154,Tryz.ntmps154;go_wp2_with (go_at_call 162;refine(zOh n h1 h2 _).mono ?_;rintro e w' ⟨rfl,rfl⟩)
 refine bodyPost_ret (v:=.tuple #[.int .u64 0,.int .u64 n]) (by simp[results,Tryz.results154,go_sem]) rfl ⟨rfl,rfl⟩
theorem zNx:(Tryz.prog.info? 3).map (fun i=>(i.zero,i.size,i.bytes))=some (some (.int .i64 0),1,8):=by kernel_rfl
theorem zLp(xs:Nat)(hl:xs<=1048576)(u:World):(Instr.makeSlice 35 (.int .i64 xs) (.int .i64 xs)).run Tryz.prog u =
   .ok (.slice (some ⟨u.heap.size,0,none⟩) xs xs) (u.alloc (.cells (madeCells #[.int .i64 0] (xs*1)) 3)):=by
 obtain⟨i1,hi1,hq0,hq1,hq2⟩:=info_parts zNx;have h:=run_make (P:=Tryz.prog) u 35 3 i1 (.int .i64 0) Tryz.underlying35 hi1 hq0 .i64 .i64 xs xs (by omega) (Int.le_refl _) (by rw[hq2];omega) (by omega)
 simpa [hq1,Value.cells] using h
theorem made_int(n:Nat):madeCells #[.int .i64 0] n=(List.replicate n (Value.int .i64 0)).toArray:=by
 refine Array.ext (by simp[madeCells]) fun i h1 h2=>?_
 simp[madeCells,Nat.mod_one]
theorem Row.ints{w:World}{g n:Nat}{x:Int}{T:TypeId}(h:Bk w g (List.replicate n (.int .i64 x)) T)(hr:rng x):Row w g 0 (List.replicate n x) []:=by
 have key:∀ m o,o+m<=n->Row w g o (List.replicate m x) []:=by
  intro m
  induction m with
  | zero=>intro o _;rfl
  | succ m ih =>
   intro o ho;refine⟨[.int .i64 x],[],[],⟨rfl,hr,rfl⟩,fun j u hj=>?_,rfl,ih (o+1) (by omega)⟩
   cases j with
   | zero=>cases hj;exact h.cell (by rw[List.getElem?_replicate,if_pos (by omega)])
   | succ j=>cases hj
 exact key n 0 (by omega)
theorem zKn(b:Nat)(x:Int)(n:Nat)(h1:1<=n)(h2:n<=20)(w:World)(hb:b < w.heap.size)(hx:w.cell? ⟨b,0,none⟩=some (.int .i64 x))(hr:rng x) :
  Calls Tryz.prog 144 #[.slice (some ⟨b,0,none⟩) 1 1,.int .i64 n] w fun e w' => ∃ v',e = .returned v'/\Rs w' v' (List.replicate n x)/\Ext w w':=by
 have hmk:∀ u:World,(Instr.makeSlice 35 (.int .i64 n) (.int .i64 n)).run Tryz.prog u = .ok (.slice (some ⟨u.heap.size,0,none⟩) n n) (u.alloc (.cells (madeCells #[.int .i64 0] (n*1)) 3)):=zLp n (by omega)
 go_enter Tryz.func144,Tryz.ntmps144;go_upto_if 26 with (go_at_call 154;refine(bits_Mul n h1 h2 _).mono ?_;rintro e w' ⟨rfl,rfl⟩)
 go_upto_region 7 with (fail)
 refine zA1 (fun W=>Ext w W/\Bk W w.heap.size (List.replicate n (.int .i64 0)) 3) ⟨(zr _).alloc _,by rw[made_int];exact Bk.new _ _ _⟩ ?_
 rintro W ⟨e1,kA⟩;have HE:=zh e1;have HK:=zh kA;have hx1:=(zA0 e1 hb).trans hx;clear e1 kA;obtain⟨C1,hC1⟩:∃ C1,C1 = [Value.int .i64 x]:=⟨_,rfl⟩;replace hC1:=zh hC1;have hsrc:∀ j v,C1[j]? = some v->W.cell? ((⟨b,0,none⟩:Addr).add j)=some v:=fun j v hv=>by
  rw[hC1.out] at hv;cases j with
  | zero=>cases hv;exact hx1
  | succ j=>cases hv
 have HSRC:=zh hsrc;have hl1:C1.length=1:=by rw[hC1.out];rfl
 have hl1':=zh hl1;clear hsrc hl1;go_upto_block 0 with (refine wpList_copy_splice rfl (.tmp 31) (.tmp 32) 35 35 rfl 3 Tryz.underlying35 (by kernel_rfl) _ _ _ _ _ _ rfl rfl w.heap.size 0 _ 3 HK.out C1 (by rw[hl1'.out];show 1=min 1 n;omega) (fun _=>⟨rfl,_,rfl,HSRC.out⟩) (by rw[hl1'.out,List.length_replicate];omega) (by rw[hC1.out];intro v hv;simp at hv;subst hv;rfl) w.heap.size w HE.out (Nat.le_refl _) ?_;intro w2 HG2 hB2;have HB2:=zh hB2;clear hB2)
 have hl1:=hl1'.out;have HB:Hid (Bk w2 w.heap.size (List.replicate 1 (.int .i64 x)++List.replicate (n - 1) (.int .i64 0)) 3):=zh (by
  have h:=HG2.out;rw[hC1.out] at h;unfold Bk;rw[h];obtain⟨m,rfl⟩:∃ m,n=m+1:=⟨n - 1,by omega⟩
  simp[splice,List.replicate_succ])
 clear HG2 HE HK hC1;try simp only[hl1]
 clear hl1;go_wp2;go_loopw [8] (fun v8 wr => ∃ k:Nat,1<=k/\k<=n/\v8 = .int .i64 k/\Bk wr w.heap.size (List.replicate k (.int .i64 x)++List.replicate (n - k) (.int .i64 0)) 3/\Ext w wr) (fun v8 _=>n - (intOf v8).toNat)
 case atStart=>exact⟨1,Nat.le_refl _,h1,rfl,HB.out,HB2.out⟩
 case round =>
  obtain⟨k,hk1,hkn,rfl,hb,he⟩:=hrel;have HB:=zh hb;have HE:=zh he;clear hb he HB2;by_cases hlt:k < n
  ·obtain⟨C,hC⟩:∃ C,C=List.replicate (min k (n - k)) (Value.int .i64 x):=⟨_,rfl⟩;replace hC:=zh hC;have hCl:C.length=min k (n - k):=by rw[hC.out];simp
   go_upto_region 9 with (fail)
   have hgl:=HB.out.lt;obtain⟨g,hg⟩:∃ g,g=w.heap.size:=⟨_,rfl⟩;rw[<- hg] at HB hgl ⊢;have hCg:Hid (splice (List.replicate k (Value.int .i64 x)++List.replicate (n - k) (.int .i64 0)) k C=List.replicate (k+min k (n - k)) (Value.int .i64 x)++List.replicate (n - (k+min k (n - k))) (.int .i64 0)):=zh (by
    rw[hC.out];unfold splice;rw[List.take_left' (by simp),List.drop_append,List.length_replicate,List.drop_eq_nil_of_le (by simp),List.length_replicate,List.nil_append,List.drop_replicate,<- List.append_assoc,List.replicate_append_replicate]
    congr 2
    omega)
   have hCn:Hid (C.length=Nat.min k (n - k)):=zh (by rw[hCl];first|done|rfl)
   have hC1:Hid (∀ v∈C,v.oneCell'=true):=zh (by rw[hC.out];intro v hv;rw[(List.mem_replicate.1 hv).2];rfl)
   have hsrc:Hid (∀ u:World,Bk u g (List.replicate k (Value.int .i64 x)++List.replicate (n - k) (.int .i64 0)) 3->∀ j v,C[j]? = some v->u.cell? ((⟨g,0,none⟩:Addr).add j)=some v):=zh (by
    intro u hu j v hv;rw[hC.out] at hv;have hj:=zAc hv;rw[List.length_replicate] at hj;rw[List.getElem?_replicate,if_pos hj] at hv;cases hv;have h2:=hu.cell (j:=j) (u:=.int .i64 x) (by rw[List.getElem?_append_left (by rw[List.length_replicate];omega),List.getElem?_replicate,if_pos (by omega)])
    unfold Addr.add
    split
    ·rename_i h0;subst h0;exact h2
    ·simpa using h2)
   have hm2:min k (n - k)<=20:=by omega
   obtain⟨q,hq⟩:∃ q,min k (n - k)=q:=⟨_,rfl⟩;have hq1:1<=q:=by omega
   have hqn:k+q<=n:=by omega
   have hCq:Hid (C.length=q):=zh (by rw[hCl];exact hq)
   rw[hq] at hCg;replace hg:=zh hg;clear hq hm2 hCl hC;have HS:Hid (∀ u:World,Bk u g (List.replicate k (Value.int .i64 x)++List.replicate (n - k) (.int .i64 0)) 3->Bk (u.setRow g ((List.replicate k (Value.int .i64 x)++List.replicate (n - k) (Value.int .i64 0)).toArray.toList.take k++(C++(List.replicate k (Value.int .i64 x)++List.replicate (n - k) (Value.int .i64 0)).toArray.toList.drop (k+C.length))).toArray) g (List.replicate (k+q) (.int .i64 x)++List.replicate (n - (k+q)) (.int .i64 0)) 3):=zh (by
    intro u hu;unfold Bk;rw[setRow_heap u g _ _ _ _ hu,<- hCg.out]
    rfl)
   refine zBa rfl 9 [(38,[38]),(39,[39]),(40,[40]),(41,[41]),(42,[42]),(43,[43]),(44,[44]),(45,[45]),(46,[46])]
    (fun i vs u F=>match i,vs with
     | 0,[y]=>y = .int .i64 k
     | 1,[y]=>y = .slice (some ⟨g,0,none⟩) n n
     | 2,[y]=>y = .int .i64 k
     | 3,[y]=>y = .slice (some ⟨g,k,none⟩) (n - k) (n - k)
     | 4,[y]=>y = .slice (some ⟨g,0,none⟩) n n
     | 5,[y]=>y = .int .i64 k
     | 6,[y]=>y = .slice (some ⟨g,0,none⟩) k n
     | 7,[y]=>y = .int .i64 q/\Bk u g (List.replicate (k+q) (.int .i64 x)++List.replicate (n - (k+q)) (.int .i64 0)) 3
     | 8,[y]=>y = .int .i64 ((k:Int)+(q:Int))
     | _,_=>False) 7 (some g) (by intro k hk;cases hk;exact hgl) (by decide +kernel) ?_ ?_ ?_
   ·intro i hi hne oo hoo U u F hG hd hap;rcases(by omega:i=0\/i=1\/i=2\/i=3\/i=4\/i=5\/i=6\/i=7\/i=8) with rfl|rfl|rfl|rfl|rfl|rfl|rfl|rfl|rfl
    iterate 3 (·cases hoo;simp only[fr];intro K hK;go_wp2;exact zk hK _ (fun _ _=>rfl))
    ·cases hoo;simp only[fr];obtain⟨⟨d1,-⟩,⟨d2,-⟩,-⟩:=fa [1,2] (by decide +kernel) hd
     simp only[fu] at d1 d2;try simp only[d1,d2]
     clear d1 d2;intro K hK;go_wp2;exact zk hK _ (fun _ _=>rfl)
    iterate 2 (·cases hoo;simp only[fr];intro K hK;go_wp2;exact zk hK _ (fun _ _=>rfl))
    ·cases hoo;simp only[fr];obtain⟨⟨d4,-⟩,⟨d5,-⟩,-⟩:=fa [4,5] (by decide +kernel) hd
     simp only[fu] at d4 d5;try simp only[d4,d5]
     clear d4 d5;intro K hK;go_wp2;exact zk hK _ (fun _ _=>rfl)
    ·exact absurd rfl hne
    ·cases hoo;simp only[fr];obtain⟨⟨d0,-⟩,⟨d1,-⟩,⟨d2,-⟩,⟨d3,-⟩,⟨d4,-⟩,⟨d5,-⟩,⟨d6,-⟩,⟨d7,-⟩,-⟩:=fa [0,1,2,3,4,5,6,7] (by decide +kernel) hd
     simp only[fu] at d0 d1 d2 d3 d4 d5 d6 d7;try simp only[d0,d1,d2,d3,d4,d5,d6,d7]
     intro K hK;go_wp2;exact zk hK _ (fun _ h=>rfl)
   ·intro _ oo hoo U u F hE hd hap;cases hoo;simp only[fr];obtain⟨⟨d1,-⟩,⟨d2,-⟩,⟨d3,-⟩,⟨d4,-⟩,⟨d5,-⟩,⟨d6,-⟩,-⟩:=fa [1,2,3,4,5,6] (by decide +kernel) hd
    simp only[fu] at d1 d2 d3 d4 d5 d6;try simp only[d1,d2,d3,d4,d5,d6]
    intro K hK;have kB:=HB.out.ext hE;refine wpList_copy_own rfl (.tmp 41) (.tmp 44) 35 35 rfl 3 Tryz.underlying35 (by kernel_rfl) g k (n - k) (n - k) ⟨g,0,none⟩ k n rfl rfl _ 3 kB C hCn.out (hsrc.out u kB) (by rw[hCq.out];simp;omega) hC1.out ?_
    have hS:=HS.out u kB;refine hK _ [] _ ⟨rfl,rfl,rfl,by simp,fun k _ hne=>setRow_other _ _ _ _ (fun e=>hne (e ▸ rfl))⟩ (fun w2 he=>⟨by show goInt C.length=_;rw[hCq.out];rfl,hS.ext he⟩) (Own.nil _ _)
   ·intro oo hoo U u F hG hφ hap;cases hoo;simp only[fr];obtain⟨⟨d0,-⟩,⟨d1,-⟩,⟨d2,-⟩,⟨d3,-⟩,⟨d4,-⟩,⟨d5,-⟩,⟨d6,-⟩,⟨d7,-⟩,⟨d8,-⟩,-⟩:=fb [0,1,2,3,4,5,6,7,8] (by decide +kernel) hφ
    simp only[fu] at d0 d1 d2 d3 d4 d5 d6 d7 d8;try simp only[d0,d1,d2,d3,d4,d5,d6,d7,d8]
    obtain⟨e7,k7⟩:=d7;have HB4:=zh k7;have HE4:=zh (HE.out.grown hG (fun k hk=>by cases hk;rw[hg.out];exact Nat.le_refl _))
    clear d0 d1 d2 d3 d4 d5 d6 d8 e7 k7 hφ hap hG;have hgo:=hg.out;clear hg;subst hgo;go_wp2;go_roundw
    case rel=>exact⟨k+q,by omega,by omega,by simp,HB4.out,HE4.out⟩
    case measure=>simp[intOf];omega
  ·obtain rfl:k=n:=by omega
   have HR:Hid (Bk wr w.heap.size (List.replicate k (.int .i64 x)) 3):=zh (by have:=HB.out;rwa [Nat.sub_self,List.replicate_zero,List.append_nil] at this)
   clear HB;go_wp2;go_ret;refine⟨_,rfl,⟨[w.heap.size],some ⟨w.heap.size,0,none⟩,k,by simp,by simp,by simp[maxLen];omega,.inr ⟨by intro e;have:=congrArg List.length e;simp at this;omega,w.heap.size,0,[],rfl,rfl,Row.ints HR.out hr⟩⟩,HE.out⟩
theorem Oa.sh0{α:Type}[GT α]{e:TypeId}{L:Nat}{w:World}{v:Value}{xs:List α}{F:List Nat}(h:Oa e L w v xs F):∃ a n c,v = .slice a n c:=by
 obtain⟨a,c,h,_⟩:=h.form;exact⟨a,_,c,h⟩
def zAz(xs:List Slot):List Int:=xs.flatMap fun s=>List.replicate s.Ticks.toNat s.Who
theorem zIb{xs:List Slot}{k:Nat}{x:Slot}(h:xs[k]? = some x):zAz (xs.take (k+1))=zAz (xs.take k)++List.replicate x.Ticks.toNat x.Who:=by
 unfold zAz;rw[zAn h];simp
theorem zDr{xs:List Slot}(h:∀ x∈xs,1<=x.Ticks/\x.Ticks<=20):((zAz xs).length:Int)=zHm xs xs.length:=by
 unfold zHm;rw[List.take_length]
 induction xs with
 | nil=>rfl
 | cons x xs ih =>
  have h1:=h x (List.mem_cons_self ..);have h2:=ih (fun y hy=>h y (List.mem_cons_of_mem _ hy))
  simp only[zAz,List.flatMap_cons,List.length_append,List.length_replicate,List.map_cons,List.sum_cons] at h2 ⊢;omega
theorem zHn{xs:List Slot}(h:∀ x∈xs,1<=x.Ticks/\x.Ticks<=20)(k:Nat):(zAz (xs.take k)).length<=20*xs.length:=by
 have h1:=zDr (xs:=xs.take k) (fun x hx=>h x (List.mem_of_mem_take hx))
 have h2:=zJo (xs:=xs.take k) (fun x hx=>h x (List.mem_of_mem_take hx)) _ (Nat.le_refl _)
 rw[List.length_take] at h2;rw[List.length_take] at h1;omega
theorem zL5(v:Value)(xs:List Slot)(w:World)(h:Rs w v xs)(hv:∀ x∈xs,1<=x.Ticks/\x.Ticks<=20)(hn:xs.length<=12) :
  Calls Tryz.prog 110 #[v] w fun e w' => ∃ v',e = .returned v'/\Rs w' v' (zAz xs)/\Ext w w':=by
 have H:=zh h;have HV:=zh hv;obtain⟨a,c,rfl,hl⟩:=h.form;clear h hv;go_enter Tryz.func110,Tryz.ntmps110;go_wp2;go_loopw [3,5,8] (fun v3 _ i wr => ∃ (k:Nat) (ao:Option Addr) (no co:Nat),k<=xs.length/\i = .int .i64 k/\v3 = .slice ao no co/\Oa 3 w.heap.size wr (.slice ao no co) (zAz (xs.take k)) []/\Ext w wr) (fun _ _ i _=>xs.length - (intOf i).toNat)
 case atStart=>exact⟨0,_,_,_,Nat.zero_le _,rfl,rfl,Oa.nil _ _ _,.refl _⟩
 case round =>
  obtain⟨k,ao,no,co,hk,rfl,rfl,ho,hq⟩:=hrel;have HO:=zh ho;have HQ:=zh hq;have hsz:=hq.sz;clear ho hq;by_cases hlt:k < xs.length
  ·obtain⟨b,o,x,rfl,hb,hx,hc0,hc1,hr0,hr1,hvx⟩:=(H.out.ext HQ.out).atSlot k hlt;have hxt:=HV.out x (List.mem_of_getElem? hx.out);obtain⟨T,hT⟩:∃ T:Nat,x.Ticks=T:=⟨x.Ticks.toNat,by omega⟩
   have hT1:1<=T:=by omega
   have hT2:T<=20:=by omega
   have hTn:x.Ticks.toNat=T:=by omega
   have HN:=zh (zIb hx.out);have hle:=zHn HV.out k;have hle2:=zHn HV.out (k+1);rw[HN.out,List.length_append,List.length_replicate,hTn] at hle2;rw[hTn] at HN;rw[hT] at hc1 hvx hr1 hxt;have hT3:=zh hT;clear hT hTn;obtain⟨wi,rfl⟩:∃ wi,wi=wr:=⟨_,rfl⟩;have e2:Hid (Ext wi ((wi.alloc (.cells #[.int .i64 x.Who,.int .i64 T] 86)).alloc (.cells #[.int .i64 x.Who] 3))):=zh (((zr wi).alloc _).alloc _)
   go_wp2_with (first
    | (go_at_call 144;refine(zKn (wi.heap.size+1) x.Who T hT1 hT2 _ (by simp) ((Bk.new1 wi _ _ _).cell (j:=0) rfl) hr0).mono ?_;rintro e w4 ⟨v4,rfl,hr4,he⟩;have HE4:=zh (e2.out.tr he);obtain⟨p4,q4,rfl,_⟩:=hr4.form;rw[List.length_replicate] at hr4;have HR4:=zh hr4;clear hr4 he)
    | (at_builtin;refine zC4 (α:=Int) rfl _ _ 35 rfl 3 Tryz.underlying35 zCo (L:=w.heap.size) (v:=.slice ao no co) (xs:=zAz (xs.take k)) (ys:=List.replicate T x.Who) rfl (HO.out.ext HE4.out) rfl HR4.out (by rw[List.length_replicate];omega) (by have:=HE4.out.sz;omega) ?_;intro v5 w5 hO5 hg5;have HO5:=zh hO5;have HE5:=zh ((HQ.out.tr HE4.out).grown hg5 (fun k hk=>HO.out.own k hk));obtain⟨p5,n5,q5,rfl⟩:=Oa.sh0 hO5;clear hO5 hg5))
   go_roundw
   case rel=>exact⟨k+1,_,_,_,by omega,by go_num,rfl,by rw[HN.out];exact HO5.out,HE5.out⟩
   case measure=>simp[intOf];omega
  ·obtain rfl:k=xs.length:=by omega
   rw[List.take_length] at HO;go_wp2;go_ret;exact⟨_,rfl,HO.out.rs,HQ.out⟩
set_option maxHeartbeats 1500000
def zL7(xs:List Slot):Nat:=(zAz xs).length
def zC0(xs:List Slot)(t:Int):Int:=(zAz xs).getD (t.toNat % zL7 xs) 0
def zGg(xs:List Slot)(n:Int)(t:Int):Int:=(t.toNat / zL7 xs*(zAz xs).count n+((zAz xs).take (t.toNat % zL7 xs)).count n:Nat)
structure zNd (xs:List Slot):Prop where
 len:1<=xs.length/\xs.length<=12
 tk:∀ x∈xs,1<=x.Ticks/\x.Ticks<=20
theorem zNd.of{xs:List Slot}{n:Int}(h:zDy xs n=true):zNd xs:=by
 obtain⟨h1,h2,_,h3⟩:=zFi h;exact⟨⟨h1,h2⟩,fun x hx=>(h3 x hx).1⟩
theorem zNd.fl{xs:List Slot}(h:zNd xs):1<=zL7 xs/\zL7 xs<=240:=by
 have h1:=zDr h.tk;have h2:=zJo h.tk _ (Nat.le_refl _)
 have:=h.len
 unfold zL7;omega
theorem zNd.fl_tk{xs:List Slot}(h:zNd xs):(zL7 xs:Int)=zHm xs xs.length:=zDr h.tk
theorem zJ9{xs:List Slot}{n t:Int}(ht:t<=1000000):0<=zGg xs n t/\zGg xs n t<=1000000:=by
 unfold zGg;refine⟨Int.natCast_nonneg _,?_⟩;have h1:((zAz xs).take (t.toNat % zL7 xs)).count n<=t.toNat % zL7 xs:=Nat.le_trans List.count_le_length (by rw[List.length_take];omega)
 have h2:(zAz xs).count n<=zL7 xs:=List.count_le_length;have h3:t.toNat / zL7 xs*(zAz xs).count n<=t.toNat / zL7 xs*zL7 xs:=Nat.mul_le_mul_left _ h2;have h4:=Nat.div_add_mod t.toNat (zL7 xs);rw[Nat.mul_comm] at h4;omega
theorem zPg{xs:List Slot}(h:zNd xs)(t:Int):∃ x∈xs,zC0 xs t=x.Who:=by
 have hl:=h.fl;unfold zC0;have hlt:t.toNat % zL7 xs < (zAz xs).length:=Nat.mod_lt _ hl.1;rw[List.getD_eq_getElem?_getD,List.getElem?_eq_getElem hlt,Option.getD_some];have hm:=List.getElem_mem hlt;obtain⟨x,hx,hm⟩:=List.mem_flatMap.1 hm;exact⟨x,hx,(List.mem_replicate.1 hm).2⟩
theorem zNw(v:Value)(xs:List Slot)(t:Int)(w:World)(h:Rs w v xs)(hv:zNd xs)(ht0:0<=t)(ht:t<=1000000) :
  Calls Tryz.prog 127 #[v,.int .i64 t] w fun e w'=>e = .returned (.int .i64 (zC0 xs t))/\Ext w w':=by
 obtain⟨T,rfl⟩:∃ T:Nat,t=T:=⟨t.toNat,by omega⟩
 have H:=zh h;have hf:=hv.fl;obtain⟨a,c,rfl,hl⟩:=h.form;clear h;obtain⟨L,hL⟩:∃ L,zAz xs=L:=⟨_,rfl⟩;have hw:Hid (zC0 xs T=L.getD (T % L.length) 0):=zh (by unfold zC0 zL7;rw[hL];rfl)
 have hL12:1<=L.length/\L.length<=240:=by rw[<- hL];exact hf
 obtain⟨hL1,hL2⟩:=hL12;replace hL:=zh hL;clear hf;have HV:=zh hv;go_enter Tryz.func127,Tryz.ntmps127;go_upto_region 2 with (go_at_call 110;refine(zL5 _ xs w H.out HV.out.tk HV.out.len.2).mono ?_;rintro e w1 ⟨v1,rfl,hr,he⟩;rw[hL.out] at hr;obtain⟨p,q,rfl,_⟩:=hr.form;have HR:=zh hr;have HE:=zh he;clear hr he)
 clear hL hv;have hlt:T % L.length < L.length:=Nat.mod_lt _ (by omega)
 obtain⟨b,o,x,rfl,hb,hx,hc,hr⟩:=HR.out.atInt (T % L.length) hlt;have hm:(T:Int).tmod (L.length:Int)=((T % L.length:Nat):Int):=Int.ofNat_tmod _ _;have hne:(L.length:Int)≠0:=by omega
 have hxw:Hid (zC0 xs T=x):=zh (by rw[hw.out,List.getD_eq_getElem?_getD,hx.out];rfl)
 obtain⟨r,hr2⟩:∃ r,T % L.length=r:=⟨_,rfl⟩;rw[hr2] at hlt hc hm;clear hr2 hx hw;go_wp2;go_ret;exact⟨by rw[hxw.out];first|done|rfl,HE.out⟩
theorem zNv(v:Value)(xs:List Slot)(n t:Int)(w:World)(h:Rs w v xs)(hv:zNd xs)(ht0:0<=t)(ht:t<=1000000) :
  Calls Tryz.prog 67 #[v,.int .i64 n,.int .i64 t] w fun e w'=>e = .returned (.int .i64 (zGg xs n t))/\Ext w w':=by
 obtain⟨T,rfl⟩:∃ T:Nat,t=T:=⟨t.toNat,by omega⟩
 have H:=zh h;have hf:=hv.fl;obtain⟨a,c,rfl,hl⟩:=h.form;clear h;obtain⟨L,hL⟩:∃ L,zAz xs=L:=⟨_,rfl⟩;have hw:Hid (zGg xs n T=(T / L.length*L.count n+(L.take (T % L.length)).count n:Nat)):=zh (by unfold zGg zL7;rw[hL];rfl)
 have hL12:1<=L.length/\L.length<=240:=by rw[<- hL];exact hf
 obtain⟨hL1,hL2⟩:=hL12;replace hL:=zh hL;clear hf;have HV:=zh hv;go_enter Tryz.func67,Tryz.ntmps67;go_upto_region 2 with (go_at_call 110;refine(zL5 _ xs w H.out HV.out.tk HV.out.len.2).mono ?_;rintro e w1 ⟨v1,rfl,hr,he⟩;rw[hL.out] at hr;obtain⟨p,q,rfl,_⟩:=hr.form;have HR:=zh hr;have HE:=zh he;clear hr he)
 clear hL hv;have hlt:T % L.length < L.length:=Nat.mod_lt _ (by omega)
 have hm:(T:Int).tmod (L.length:Int)=((T % L.length:Nat):Int):=Int.ofNat_tmod _ _;have hd:(T:Int).tdiv (L.length:Int)=((T / L.length:Nat):Int):=Int.ofNat_tdiv _ _;have hdb:T / L.length<=T:=Nat.div_le_self _ _;have hne:(L.length:Int)≠0:=by omega
 obtain⟨r,hr2⟩:∃ r,T % L.length=r:=⟨_,rfl⟩;obtain⟨d,hd2⟩:∃ d,T / L.length=d:=⟨_,rfl⟩;rw[hr2] at hlt hm hw;rw[hd2] at hd hdb hw;clear hr2 hd2;go_wp2;go_loopw [8,9,10,11,16] (fun v8 v9 _ _ i wr => ∃ k:Nat,k<=L.length/\i = .int .i64 k/\v8 = .int .i64 ((L.take k).count n:Nat)/\v9 = .int .i64 ((L.take (min k r)).count n:Nat)/\wr=w1) (fun _ _ _ _ i _=>L.length - (intOf i).toNat)
 case atStart=>exact⟨0,Nat.zero_le _,rfl,by simp,by simp,rfl⟩
 case round =>
  obtain⟨k,hk,rfl,rfl,rfl,rfl⟩:=hrel;have hb1:(L.take k).count n<=k:=Nat.le_trans List.count_le_length (by rw[List.length_take];omega)
  have hb2:(L.take (min k r)).count n<=k:=Nat.le_trans List.count_le_length (by rw[List.length_take];omega)
  by_cases hkt:k < L.length
  ·obtain⟨b,o,x,rfl,hb,hx,hc,hr⟩:=HR.out.atInt k hkt;have hs:=zh (zAn hx.out);obtain⟨A,hA⟩:∃ A,(L.take k).count n=A:=⟨_,rfl⟩;obtain⟨B,hB⟩:∃ B,(L.take (min k r)).count n=B:=⟨_,rfl⟩;rw[hA] at hb1 ⊢;rw[hB] at hb2 ⊢;replace hA:=zh hA;replace hB:=zh hB;by_cases hxn:x=n
   ·have hxe:(x == n)=true:=by simp[hxn]
    by_cases hkr:k < r
    ·have h1:=zh (show min k r=k by omega)
     have h2:=zh (show min (k+1) r=k+1 by omega)
     have hxn2:=zh hxn;clear hxn;go_wp2;go_roundw
     case rel=>exact⟨k+1,by omega,by go_num,by rw[hs.out,List.count_append,hA.out,hxn2.out];simp,by rw[h2.out,hs.out,List.count_append,<- hB.out,h1.out,hxn2.out];simp,by trivial⟩
     case measure=>simp[intOf];omega
    ·have h1:=zh (show min k r=r by omega)
     have h2:=zh (show min (k+1) r=r by omega)
     have hxn2:=zh hxn;clear hxn;go_wp2;go_roundw
     case rel=>exact⟨k+1,by omega,by go_num,by rw[hs.out,List.count_append,hA.out,hxn2.out];simp,by rw[h2.out,<- hB.out,h1.out],by trivial⟩
     case measure=>simp[intOf];omega
   ·have hxe:(x == n)=false:=by simpa using hxn
    have hxe2:=zh hxe;clear hxn;have hc1:=zh (show(L.take (min (k+1) r)).count n=B by
     by_cases hkr:k < r
     ·rw[show min (k+1) r=k+1 by omega,hs.out,List.count_append,<- hB.out,show min k r=k by omega,List.count_singleton,hxe2.out];rfl
     ·rw[show min (k+1) r=r by omega,<- hB.out,show min k r=r by omega])
    go_wp2;go_roundw
    case rel=>exact⟨k+1,by omega,by go_num,by rw[hs.out,List.count_append,hA.out,List.count_singleton,hxe2.out];rfl,by rw[hc1.out],by trivial⟩
    case measure=>simp[intOf];omega
  ·obtain rfl:k=L.length:=by omega
   rw[show min L.length r=r by omega] at *
   rw[List.take_length] at *;obtain⟨A,hA⟩:∃ A,L.count n=A:=⟨_,rfl⟩;obtain⟨B,hB⟩:∃ B,(L.take r).count n=B:=⟨_,rfl⟩;rw[hA] at hb1 hw ⊢;rw[hB] at hb2 hw ⊢;clear hA hB;have hmul:(d:Int)*(A:Int)=((d*A:Nat):Int):=by simp
   have hmb:d*A<=1000000*240:=Nat.mul_le_mul (by omega) (by omega)
   obtain⟨m,hm2⟩:∃ m,d*A=m:=⟨_,rfl⟩;rw[hm2] at hmul hmb hw;clear hm2;go_wp2;go_ret;exact⟨by rw[hw.out];simp,HE.out⟩
theorem zO9{xs:List Slot}(h:∀ x∈xs,1<=x.Ticks/\x.Ticks<=20){k r:Nat}{x:Slot}(hx:xs[k]? = some x)(h1:zHm xs k<=r)(h2:(r:Int) < zHm xs k+x.Ticks):(zAz xs)[r]? = some x.Who:=by
 have hk:=zAc hx;have hsp:zAz xs=zAz (xs.take k)++(List.replicate x.Ticks.toNat x.Who++zAz (xs.drop (k+1))):=by
  have e:xs=xs.take k++x::xs.drop (k+1):=by
   obtain⟨hl,rfl⟩:=List.getElem?_eq_some_iff.1 hx;rw[List.getElem_cons_drop,List.take_append_drop]
  conv=>lhs;rw[e]
  unfold zAz;simp
 have hl:=zDr (xs:=xs.take k) (fun y hy=>h y (List.mem_of_mem_take hy))
 have hl2:zHm (xs.take k) (xs.take k).length=zHm xs k:=by unfold zHm;rw[List.take_length]
 rw[hl2] at hl;have hxt:=h x (List.mem_of_getElem? hx);rw[hsp,List.getElem?_append_right (by omega),List.getElem?_append_left (by rw[List.length_replicate];omega),List.getElem?_replicate,if_pos (by omega)]
theorem zHk(v:Value)(xs:List Slot)(N t:Int)(w:World)(h:Rs w v xs)(hv:zDy xs N=true)(ht0:0<=t)(ht:t<=1000000) :
  Calls Tryz.prog 156 #[v,.int .i64 N,.int .i64 t] w fun e w'=>e = .returned (.int .i64 (zC0 xs t))/\Ext w w':=by
 obtain⟨t',rfl⟩:∃ t':Nat,t=t':=⟨t.toNat,by omega⟩
 obtain⟨a,c,rfl,hl⟩:=h.form;have H:=zh h;have hall:=zFi hv;have HV:=zh hv;have HS:=zh (zNd.of hv);obtain⟨hx1,hx12,_,hxx⟩:=hall;have HT:=zh (zJo (fun x hx=>(hxx x hx).1))
 have HXX:=zh hxx;have HIN:=zh (zFb ht0 ht:zA8 t' 0 1000000=true);have hfl:=HS.out.fl;have HFT:=zh HS.out.fl_tk;obtain⟨T,hT⟩:∃ T,zL7 xs=T:=⟨_,rfl⟩;rw[hT] at HFT hfl;have hmod:(t':Int).tmod (T:Int)=((t' % T:Nat):Int):=Int.ofNat_tmod _ _;have hne:(T:Int)≠0:=by omega
 obtain⟨r,hr⟩:∃ r,t' % T=r:=⟨_,rfl⟩;have hrT:r < T:=by rw[<- hr];exact Nat.mod_lt _ (by omega)
 have HW:Hid (zC0 xs t'=(zAz xs).getD r 0):=zh (by unfold zC0;rw[hT,Int.toNat_natCast,hr])
 rw[hr] at hmod;replace hT:=zh hT;clear h hv hxx hr;go_enter Tryz.func156,Tryz.ntmps156
 go_wp2_with (first
  | (go_at_call 164;refine(zFp _ xs N _ (H.out.ext HE1.out) HV.out).mono ?_;rintro e w2 ⟨rfl,he⟩;rw[<- HFT.out];have HE2:=zh (HE1.out.tr he);clear he)
  | (go_at_call 78;refine(zD1 _ xs N w H.out).mono ?_;rintro e w1 ⟨rfl,he⟩;rw[HV.out];have HE1:=zh he;clear he)
  | (go_at_call 22;refine(zAf _ _ _ _).mono ?_;rintro e w' ⟨rfl,rfl⟩;rw[HIN.out]))
 go_loopw [7,8] (fun u i wr => ∃ k:Nat,k < xs.length/\i = .int .i64 k/\zHm xs k<=r/\u = .int .i64 (r - zHm xs k)/\Ext w wr) (fun _ i _=>xs.length - (intOf i).toNat)
 case atStart=>exact⟨0,by omega,rfl,by rw[zMd];omega,by simp[zMd],HE2.out⟩
 case round =>
  clear HE1 HE2;obtain⟨k,hk,rfl,hle,rfl,hq⟩:=hrel;have HQ:=zh hq;clear hq;obtain⟨b,o,x,rfl,hbl,hx,hc0,hc1,hr0,hr1,hvx⟩:=(H.out.ext HQ.out).atSlot k hk;have hb:=HT.out k (by omega)
  have hxt:=HXX.out x (List.mem_of_getElem? hx.out);have HN:=zh (zH7 hx.out);by_cases hge:x.Ticks<=r - zHm xs k
  ·have hk1:k+1 < xs.length:=by
    by_cases hlast:k+1=xs.length
    ·exfalso;have h1:=HN.out;rw[hlast,<- HFT.out] at h1;omega
    ·omega
   go_wp2;go_roundw
   case rel=>exact⟨k+1,hk1,by go_num,by rw[HN.out];omega,by rw[HN.out];congr 1;omega,HQ.out⟩
   case measure=>simp[intOf];omega
  ·have hlt:(r:Int) < zHm xs k+x.Ticks:=by omega
   have HF:=zh (zO9 HS.out.tk hx.out hle hlt);have HWX:Hid (zC0 xs t'=x.Who):=zh (by rw[HW.out,List.getD_eq_getElem?_getD,HF.out];rfl)
   go_wp2;go_ret;exact⟨by rw[HWX.out];first|done|rfl,HQ.out⟩
theorem zIa{A:List Int}{r T:Nat}{n x:Int}:((A++List.replicate T x).take r).count n=(A.take r).count n+if x=n then min T (r - A.length) else 0:=by
 rw[List.take_append,List.count_append,List.take_replicate,List.count_replicate];by_cases h:x=n
 ·simp[h];omega
 ·simp[h]
theorem zLt(v:Value)(xs:List Slot)(N n t:Int)(w:World)(h:Rs w v xs)(hv:zDy xs N=true)(hn0:0<=n)(hn:n < N)(ht0:0<=t)(ht:t<=1000000) :
  Calls Tryz.prog 158 #[v,.int .i64 N,.int .i64 n,.int .i64 t] w fun e w'=>e = .returned (.int .i64 (zGg xs n t))/\Ext w w':=by
 obtain⟨t',rfl⟩:∃ t':Nat,t=t':=⟨t.toNat,by omega⟩
 obtain⟨a,c,rfl,hl⟩:=h.form;have H:=zh h;have hall:=zFi hv;have HV:=zh hv;have HS:=zh (zNd.of hv);obtain⟨hx1,hx12,hN,hxx⟩:=hall;have HT:=zh (zJo (fun x hx=>(hxx x hx).1))
 have HXX:=zh hxx;have HIN:=zh (zFb ht0 ht:zA8 t' 0 1000000=true);have HI2:=zh (zFb hn0 (by omega):zA8 n 0 (N - 1)=true)
 have hfl:=HS.out.fl;have HFT:=zh HS.out.fl_tk;obtain⟨T,hT⟩:∃ T,zL7 xs=T:=⟨_,rfl⟩;rw[hT] at HFT hfl;have hmod:(t':Int).tmod (T:Int)=((t' % T:Nat):Int):=Int.ofNat_tmod _ _;have hdiv:(t':Int).tdiv (T:Int)=((t' / T:Nat):Int):=Int.ofNat_tdiv _ _;have hne:(T:Int)≠0:=by omega
 obtain⟨r,hr⟩:∃ r,t' % T=r:=⟨_,rfl⟩;obtain⟨d,hd⟩:∃ d,t' / T=d:=⟨_,rfl⟩;have hrT:r < T:=by rw[<- hr];exact Nat.mod_lt _ (by omega)
 have hdT:d<=t':=by rw[<- hd];exact Nat.div_le_self _ _
 have HW:Hid (zGg xs n t'=(d*(zAz xs).count n+((zAz xs).take r).count n:Nat)):=zh (by unfold zGg;rw[hT,Int.toNat_natCast,hr,hd])
 rw[hr] at hmod;rw[hd] at hdiv;replace hT:=zh hT;clear h hv hxx hr hd;go_enter Tryz.func158,Tryz.ntmps158
 go_wp2_with (first
  | (go_at_call 164;refine(zFp _ xs N _ (H.out.ext HE1.out) HV.out).mono ?_;rintro e w2 ⟨rfl,he⟩;rw[<- HFT.out];have HE2:=zh (HE1.out.tr he);clear he)
  | (go_at_call 78;refine(zD1 _ xs N w H.out).mono ?_;rintro e w1 ⟨rfl,he⟩;rw[HV.out];have HE1:=zh he;clear he)
  | (go_at_call 22;refine(zAf _ _ _ _).mono ?_;rintro e w' ⟨rfl,rfl⟩;first|rw[HIN.out]|rw[HI2.out]))
 go_loopw [10,11,12,13] (fun v10 v11 v12 i wr => ∃ (k A B:Nat),k<=xs.length/\i = .int .i64 k/\v10 = .int .i64 A/\A=(zAz (xs.take k)).count n/\v11 = .int .i64 B/\B=((zAz (xs.take k)).take r).count n/\v12 = .int .i64 (zHm xs k)/\Ext w wr) (fun _ _ _ i _=>xs.length - (intOf i).toNat)
 case atStart=>exact⟨0,0,0,by omega,rfl,rfl,rfl,rfl,by simp[zAz],rfl,HE2.out⟩
 case round =>
  clear HE1 HE2;obtain⟨k,A,B,hk,rfl,rfl,hA,rfl,hB,rfl,hq⟩:=hrel;have HQ:=zh hq;have hAl:A<=240:=by rw[hA];exact Nat.le_trans List.count_le_length (Nat.le_trans (zHn HS.out.tk k) (by omega))
  have hBl:B<=r:=by rw[hB];exact Nat.le_trans List.count_le_length (by rw[List.length_take];omega)
  replace hA:=zh hA;replace hB:=zh hB;clear hq;have hb:=HT.out k (by omega)
  obtain⟨tk,htk⟩:∃ tk:Nat,zHm xs k=tk:=⟨(zHm xs k).toNat,by omega⟩
  rw[htk] at hb;have HTK:Hid ((zAz (xs.take k)).length=tk):=zh (by
   have hl:=zDr (xs:=xs.take k) (fun y hy=>HS.out.tk y (List.mem_of_mem_take hy))
   have hl2:zHm (xs.take k) (xs.take k).length=zHm xs k:=by unfold zHm;rw[List.take_length]
   rw[hl2] at hl
   omega)
  rw[htk];replace htk:=zh htk;by_cases hkt:k < xs.length
  ·obtain⟨b,o,x,rfl,hbl,hx,hc0,hc1,hr0,hr1,hvx⟩:=(H.out.ext HQ.out).atSlot k hkt;have hxt:=HXX.out x (List.mem_of_getElem? hx.out);have HN:=zh (zH7 hx.out);have HFN:=zh (zIb hx.out);obtain⟨X,hX⟩:∃ X:Nat,x.Ticks=X:=⟨x.Ticks.toNat,by omega⟩
   have hXn:x.Ticks.toNat=X:=by omega
   have hX1:1<=X:=by omega
   have hX2:X<=20:=by omega
   rw[hX] at hc1;rw[hXn] at HFN;have HXT:=zh hX;clear hX hXn hxt hvx hr1;by_cases hxn:x.Who=n
   ·have hxe:(x.Who == n)=true:=by simp[hxn]
    have hxn2:=zh hxn;clear hxn;obtain⟨mn,hmn,hmn2⟩:∃ mn:Int,(if (r:Int) - tk < X then (r:Int) - tk else (X:Int))=mn/\(((min X (r - tk):Nat):Int)=if 0 < mn then mn else 0) /\ -240<=mn/\mn<=240:=⟨_,rfl,by split<;>split<;>omega,by split<;>omega⟩
    obtain⟨hmx,hmb⟩:=hmn2;replace hmx:=hmx.symm;obtain⟨m,hm⟩:∃ m:Nat,min X (r - tk)=m:=⟨_,rfl⟩;rw[hm] at hmx;have hm20:m<=20:=by omega
    have HC:=zh (@zIa (zAz (xs.take k)) r X n x.Who);rw[if_pos hxn2.out,HTK.out,hm] at HC;clear hm;go_upto_region 12 with (fail)
    go_big_quiet (fail)
    go_wp2;go_roundw
    case rel=>exact⟨k+1,A+X,B+m,by omega,by go_num,by simp,by rw[HFN.out,List.count_append,<- hA.out,List.count_replicate,hxe];simp,by simp,by rw[HFN.out,HC.out,<- hB.out],by rw[HN.out,htk.out,HXT.out],HQ.out.drewN _⟩
    case measure=>simp[intOf];omega
   ·have hxe:(x.Who == n)=false:=by simpa using hxn
    have HC:=zh (@zIa (zAz (xs.take k)) r X n x.Who);rw[if_neg hxn] at HC;have hxe2:=zh hxe;clear hxn;go_wp2;go_roundw
    case rel=>exact⟨k+1,A,B,by omega,by go_num,rfl,by rw[HFN.out,List.count_append,<- hA.out,List.count_replicate,hxe2.out];simp,rfl,by rw[HFN.out,HC.out,<- hB.out];simp,by rw[HN.out,htk.out,HXT.out],HQ.out⟩
    case measure=>simp[intOf];omega
  ·obtain rfl:k=xs.length:=by omega
   rw[List.take_length] at hA hB;have hmul:(d:Int)*(A:Int)=((d*A:Nat):Int):=by simp
   have hmb:d*A<=1000000*240:=Nat.mul_le_mul (by omega) (by omega)
   obtain⟨m,hm2⟩:∃ m,d*A=m:=⟨_,rfl⟩;have HWX:Hid (zGg xs n t'=(m:Int)+B):=zh (by rw[HW.out,<- hA.out,<- hB.out,hm2];simp)
   rw[hm2] at hmul hmb;clear hm2;go_wp2;go_ret;exact⟨by rw[HWX.out];first|done|rfl,HQ.out⟩
theorem zGe(z:Array Value)(n:Nat):(Builtin.zeroCells z n).size=n*z.size:=by
 have key:∀ n,(Builtin.zeroCells z n).size=n*z.size:=by
  intro n;unfold Builtin.zeroCells;simp
 exact key n
theorem zIi(n:Nat)(hn:n<=1000000)(w:World) :
  Calls Tryz.prog 109 #[.slice none 0 0,.int .i64 n] w fun e w' => ∃ v',e = .returned v'/\Oa (α:=Int) 3 w.heap.size w' v' [] []/\Ext w w':=by
 by_cases h0:n=0
 ·subst h0;go_enter Tryz.func109,Tryz.ntmps109;go_wp2;go_ret;exact⟨_,rfl,Oa.nil _ _ _,zr _⟩
 ·obtain⟨i1,hi1,hq0,hq1,hq2⟩:=info_parts zNx;have hrun:(Builtin.append_ #[35,3] 35 #[.slice none 0 0,.int .i64 (n:Int)]).run Tryz.prog w = .ok (.slice (some ⟨w.heap.size,0,none⟩) n (grownCap w n 0 3)) (w.drew.alloc (.cells (Builtin.zeroCells #[.int .i64 0] n++Builtin.zeroCells #[.int .i64 0] (grownCap w n 0 3 - n)) 3)):=by
   have h:=Go.Lib.run_append_nil_zeros (P:=Tryz.prog) w 35 3 35 3 i1 (.int .i64 0) .i64 .i64 Tryz.underlying35 (by kernel_rfl) hi1 hq0 n (by omega) (by rw[hq1];decide) (by omega) (by rw[hq2];omega)
   simpa [Value.cells] using h
  have hge:=grownCap_ge w n 0 3;have hcm:grownCap w n 0 3<=maxLen:=grownCap_le_maxLen w n 0 3 (by unfold maxLen;omega)
  have hcsz:(Builtin.zeroCells #[Value.int .i64 0] n++Builtin.zeroCells #[Value.int .i64 0] (grownCap w n 0 3 - n)).size=grownCap w n 0 3:=by
   rw[Array.size_append,zGe,zGe];simp;omega
  obtain⟨cap,hcap⟩:∃ cap,grownCap w n 0 3=cap:=⟨_,rfl⟩;rw[hcap] at hrun hge hcm hcsz
  generalize Builtin.zeroCells #[Value.int .i64 0] n++Builtin.zeroCells #[Value.int .i64 0] (cap - n)=C at hrun hcsz
  have HC:=zh hcsz;have hcap1:1<=cap:=by omega
  have hcm2:cap<=9223372036854775807:=by unfold maxLen at hcm;exact hcm
  clear hcsz hcap;replace hrun:=zh hrun;go_enter Tryz.func109,Tryz.ntmps109;go_wp2_with (at_builtin;refine Go.Lib.wpList_append_run _ rfl (.tmp 20) (.tmp 21) 35 3 rfl _ _ rfl rfl _ _ hrun.out ?_)
  go_ret;refine⟨_,rfl,.inr ⟨w.heap.size,cap,C,rfl,Nat.le_refl _,by show(w.drew.heap.push (.cells C 3))[w.drew.heap.size]? = _;rw[Array.getElem?_push_size],Nat.zero_le _,hcm,by rw[HC.out];simp[GT.sz],rfl,by simp⟩,((zr w).drew).alloc _⟩
theorem zLq(v:Value)(xss:List (List Int))(w:World)(h:Rs w v xss)(hn:xss.length<=1000)(hl:∀ xs∈xss,xs.length<=1000) :
  Calls Tryz.prog 66 #[v] w fun e w' => ∃ a c,e = .returned (.slice a xss.flatten.length c)/\Os w.heap.size w' (.slice a xss.flatten.length c) xss.flatten/\xss.flatten.length<=c/\c<=9223372036854775807/\Ext w w':=by
 have H:=zh h;have HL:=zh hl;obtain⟨a,c,rfl,hln⟩:=h.form;clear h hl;have hfl:∀ k,k<=xss.length->(xss.take k).flatten.length<=1000*k:=by
  intro k
  induction k with
  | zero=>intro _;simp
  | succ k ih =>
   intro hk;have hx:xss[k]? = some xss[k]:=List.getElem?_eq_getElem (by omega)
   rw[zAn hx,List.flatten_append,List.length_append]
   have:=HL.out xss[k] (List.getElem_mem _)
   have:=ih (by omega)
   simp only[List.flatten_cons,List.flatten_nil,List.append_nil];omega
 have HFL:=zh hfl;clear hfl;go_enter Tryz.func66,Tryz.ntmps66;go_wp2;go_loopw [3,5,11] (fun v3 _ i wr => ∃ k:Nat,k<=xss.length/\i = .int .i64 k/\v3 = .int .i64 ((xss.take k).flatten.length:Nat)/\wr=w) (fun _ _ i _=>xss.length - (intOf i).toNat)
 case atStart=>exact⟨0,Nat.zero_le _,rfl,rfl,rfl⟩
 case round =>
  obtain⟨k,hk,rfl,rfl,hww⟩:=hrel;obtain rfl:w=wr:=hww.symm;have hb:=HFL.out k hk;obtain⟨A,hA⟩:∃ A,(xss.take k).flatten.length=A:=⟨_,rfl⟩;rw[hA] at hb ⊢;replace hA:=zh hA;by_cases hlt:k < xss.length
  ·obtain⟨b,o,xs,ax,cx,rfl,hbl,hx,hc,hrx,hlx⟩:=H.out.atList k hlt;have hxl:=HL.out xs (List.mem_of_getElem? hx.out);have HN:=zh (zAn hx.out);go_wp2;go_roundw
   case rel=>exact⟨k+1,by omega,by go_num,by rw[HN.out,List.flatten_append,List.length_append,hA.out];simp,by trivial⟩
   case measure=>simp[intOf];omega
  ·obtain rfl:k=xss.length:=by omega
   have hA2:Hid (xss.flatten.length=A):=zh (by have:=hA.out;rwa [List.take_length] at this)
   go_upto_region 10 with (go_at_call 109;refine(zIi A (by omega) _).mono ?_;rintro e w1 ⟨v1,rfl,ho,he⟩;have HO:=zh ho;have HE:=zh he;obtain⟨p1,n1,q1,rfl⟩:=Oa.sh0 ho;clear ho he)
   go_wp2_with fail
   go_loopw [6,8,27] (fun v6 _ i wr => ∃ (j:Nat) (ao:Option Addr) (no co:Nat),j<=xss.length/\i = .int .i64 j/\v6 = .slice ao no co/\Oa (α:=Int) 3 w.heap.size wr (.slice ao no co) (xss.take j).flatten []/\Ext w wr) (fun _ _ i _=>xss.length - (intOf i).toNat)
   case atStart=>exact⟨0,_,_,_,Nat.zero_le _,rfl,rfl,HO.out,HE.out⟩
   case round =>
    clear HO HE;obtain⟨j,ao,no,co,hj,rfl,rfl,ho,hq⟩:=hrel;have HO:=zh ho;have HQ:=zh hq;have hsz:=hq.sz;clear ho hq;by_cases hjt:j < xss.length
    ·obtain⟨b,o,xs,ax,cx,rfl,hbl,hx,hc,hrx,hlx⟩:=H.out.atList j hjt;have hxl:=HL.out xs (List.mem_of_getElem? hx.out);have HN:=zh (zAn hx.out);have hb2:=HFL.out j (by omega)
     have e1:=(zA0 HQ.out hbl).trans hc;clear hc;go_wp2_with (at_builtin;refine zC4 (α:=Int) rfl _ _ 35 rfl 3 Tryz.underlying35 zCo (L:=w.heap.size) (v:=.slice ao no co) (xs:=(xss.take j).flatten) (ys:=xs) rfl HO.out rfl (hrx.out.ext HQ.out) (by omega) hsz ?_;intro v5 w5 hO5 hg5;have HO5:=zh hO5;have HE5:=zh (HQ.out.grown hg5 (fun k hk=>HO.out.own k hk));obtain⟨p5,n5,q5,rfl⟩:=Oa.sh0 hO5;clear hO5 hg5)
     go_roundw
     case rel=>exact⟨j+1,_,_,_,by omega,by go_num,rfl,by rw[HN.out,List.flatten_append];simpa using HO5.out,HE5.out⟩
     case measure=>simp[intOf];omega
    ·obtain rfl:j=xss.length:=by omega
     rw[List.take_length] at HO;obtain⟨_,_,hno,_⟩:=HO.out.form;cases hno;have hcap:=HO.out.cap;go_wp2;go_ret;exact⟨_,_,rfl,HO.out.os (Own.nil _ _),hcap.1,hcap.2,HQ.out⟩
end Sk
