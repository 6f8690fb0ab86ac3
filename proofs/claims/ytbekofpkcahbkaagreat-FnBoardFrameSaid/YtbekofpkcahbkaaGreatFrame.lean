/- Contracts of functions of the given program. -/
import Derived.Laws.CopyOwn
import Derived.Test.YtbekofpkcahbkaaGreatFaultS
import Derived.Test.YtbekofpkcahbkaaGreatHw
import Derived.Test.YtbekofpkcahbkaaGreatSame
namespace Sk
open Go Go.Proofs Go.RowKit
set_option maxHeartbeats 1000000
set_option maxRecDepth 100000
set_option linter.unusedVariables false
set_option linter.unusedSimpArgs false
theorem zN0(n:Nat)(h1:1<=n)(h2:n<=20)(w:World):Calls Tryz.prog 151 #[.int .u64 1,.int .u64 n] w fun e w'=>e = .returned (.tuple #[.int .u64 0,.int .u64 n])/\w=w':=by
 rcases(by omega:n=1\/n=2\/n=3\/n=4\/n=5\/n=6\/n=7\/n=8\/n=9\/n=10\/n=11\/n=12\/n=13\/n=14\/n=15\/n=16\/n=17\/n=18\/n=19\/n=20) with rfl|rfl|rfl|rfl|rfl|rfl|rfl|rfl|rfl|rfl|rfl|rfl|rfl|rfl|rfl|rfl|rfl|rfl|rfl|rfl
 all_goals
  clear h1 h2;go_enter Tryz.func151,Tryz.ntmps151;go_wp2;refine bodyPost_ret (v:=.tuple #[.int .u64 0,.int .u64 _]) (by simp only[results,Tryz.results151];kernel_rfl) rfl ⟨rfl,rfl⟩
theorem bits_Mul(n:Nat)(h1:1<=n)(h2:n<=20)(w:World):Calls Tryz.prog 114 #[.int .u64 1,.int .u64 n] w fun e w'=>e = .returned (.tuple #[.int .u64 0,.int .u64 n])/\w=w':=by
 go_enter Tryz.func114,Tryz.ntmps114;go_wp2_with (go_at_call 151;refine(zN0 n h1 h2 _).mono ?_;rintro e w' ⟨rfl,rfl⟩)
 refine bodyPost_ret (v:=.tuple #[.int .u64 0,.int .u64 n]) (by simp[results,Tryz.results114,go_sem]) rfl ⟨rfl,rfl⟩
theorem zMf:(Tryz.prog.info? 3).map (fun i=>(i.zero,i.size,i.bytes))=some (some (.int .i64 0),1,8):=by kernel_rfl
theorem zMh(xs:Nat)(hl:xs<=1048576)(u:World):(Instr.makeSlice 34 (.int .i64 xs) (.int .i64 xs)).run Tryz.prog u =
   .ok (.slice (some ⟨u.heap.size,0,none⟩) xs xs) (u.alloc (.cells (madeCells #[.int .i64 0] (xs*1)) 3)):=by
 obtain⟨i1,hi1,hq0,hq1,hq2⟩:=info_parts zMf;have h:=run_make (P:=Tryz.prog) u 34 3 i1 (.int .i64 0) Tryz.underlying34 hi1 hq0 .i64 .i64 xs xs (by omega) (Int.le_refl _) (by rw[hq2];omega) (by omega)
 simpa [hq1,Value.cells] using h
theorem made_int(n:Nat):madeCells #[.int .i64 0] n=(List.replicate n (Value.int .i64 0)).toArray:=by
 refine Array.ext (by simp[madeCells]) fun i h1 h2=>?_
 simp[madeCells,Nat.mod_one]
theorem Row.ints{w:World}{g n:Nat}{x:Int}{T:TypeId}(h:Bk w g (List.replicate n (.int .i64 x)) T)(hr:rng x):Row w g 0 (List.replicate n x) []:=by
 have key:∀ m o,o+m<=n->Row w g o (List.replicate m x) []:=by
  intro m
  induction m with
  | zero=>intro o _;rfl
  | succ m ih =>
   intro o ho;refine⟨[.int .i64 x],[],[],⟨rfl,hr,rfl⟩,fun j u hj=>?_,rfl,ih (o+1) (by omega)⟩
   cases j with
   | zero=>cases hj;exact h.cell (by rw[List.getElem?_replicate,if_pos (by omega)])
   | succ j=>cases hj
 exact key n 0 (by omega)
theorem zJ9(b:Nat)(x:Int)(n:Nat)(h1:1<=n)(h2:n<=20)(w:World)(hb:b < w.heap.size)(hx:w.cell? ⟨b,0,none⟩=some (.int .i64 x))(hr:rng x) :
  Calls Tryz.prog 74 #[.slice (some ⟨b,0,none⟩) 1 1,.int .i64 n] w fun e w' => ∃ v',e = .returned v'/\Rs w' v' (List.replicate n x)/\Ext w w':=by
 have hmk:∀ u:World,(Instr.makeSlice 34 (.int .i64 n) (.int .i64 n)).run Tryz.prog u = .ok (.slice (some ⟨u.heap.size,0,none⟩) n n) (u.alloc (.cells (madeCells #[.int .i64 0] (n*1)) 3)):=zMh n (by omega)
 go_enter Tryz.func74,Tryz.ntmps74;go_upto_if 26 with (go_at_call 114;refine(bits_Mul n h1 h2 _).mono ?_;rintro e w' ⟨rfl,rfl⟩)
 go_upto_region 7 with (fail)
 refine zA1 (fun W=>Ext w W/\Bk W w.heap.size (List.replicate n (.int .i64 0)) 3) ⟨(zr _).alloc _,by rw[made_int];exact Bk.new _ _ _⟩ ?_
 rintro W ⟨e1,kA⟩;have HE:=zh e1;have HK:=zh kA;have hx1:=(zA0 e1 hb).trans hx;clear e1 kA;obtain⟨C1,hC1⟩:∃ C1,C1 = [Value.int .i64 x]:=⟨_,rfl⟩;replace hC1:=zh hC1;have hsrc:∀ j v,C1[j]? = some v->W.cell? ((⟨b,0,none⟩:Addr).add j)=some v:=fun j v hv=>by
  rw[hC1.out] at hv;cases j with
  | zero=>cases hv;exact hx1
  | succ j=>cases hv
 have HSRC:=zh hsrc;have hl1:C1.length=1:=by rw[hC1.out];rfl
 have hl1':=zh hl1;clear hsrc hl1;go_upto_block 0 with (refine wpList_copy_splice rfl (.tmp 31) (.tmp 32) 34 34 rfl 3 Tryz.underlying34 (by kernel_rfl) _ _ _ _ _ _ rfl rfl w.heap.size 0 _ 3 HK.out C1 (by rw[hl1'.out];show 1=min 1 n;omega) (fun _=>⟨rfl,_,rfl,HSRC.out⟩) (by rw[hl1'.out,List.length_replicate];omega) (by rw[hC1.out];intro v hv;simp at hv;subst hv;rfl) w.heap.size w HE.out (Nat.le_refl _) ?_;intro w2 HG2 hB2;have HB2:=zh hB2;clear hB2)
 have hl1:=hl1'.out;have HB:Hid (Bk w2 w.heap.size (List.replicate 1 (.int .i64 x)++List.replicate (n - 1) (.int .i64 0)) 3):=zh (by
  have h:=HG2.out;rw[hC1.out] at h;unfold Bk;rw[h];obtain⟨m,rfl⟩:∃ m,n=m+1:=⟨n - 1,by omega⟩
  simp[splice,List.replicate_succ])
 clear HG2 HE HK hC1;try simp only[hl1]
 clear hl1;go_wp2;go_loopw [8] (fun v8 wr => ∃ k:Nat,1<=k/\k<=n/\v8 = .int .i64 k/\Bk wr w.heap.size (List.replicate k (.int .i64 x)++List.replicate (n - k) (.int .i64 0)) 3/\Ext w wr) (fun v8 _=>n - (intOf v8).toNat)
 case atStart=>exact⟨1,Nat.le_refl _,h1,rfl,HB.out,HB2.out⟩
 case round =>
  obtain⟨k,hk1,hkn,rfl,hb,he⟩:=hrel;have HB:=zh hb;have HE:=zh he;clear hb he HB2;by_cases hlt:k < n
  ·obtain⟨C,hC⟩:∃ C,C=List.replicate (min k (n - k)) (Value.int .i64 x):=⟨_,rfl⟩;replace hC:=zh hC;have hCl:C.length=min k (n - k):=by rw[hC.out];simp
   go_upto_region 9 with (fail)
   have hgl:=HB.out.lt;obtain⟨g,hg⟩:∃ g,g=w.heap.size:=⟨_,rfl⟩;rw[<- hg] at HB hgl ⊢;have hCg:Hid (splice (List.replicate k (Value.int .i64 x)++List.replicate (n - k) (.int .i64 0)) k C=List.replicate (k+min k (n - k)) (Value.int .i64 x)++List.replicate (n - (k+min k (n - k))) (.int .i64 0)):=zh (by
    rw[hC.out];unfold splice;rw[List.take_left' (by simp),List.drop_append,List.length_replicate,List.drop_eq_nil_of_le (by simp),List.length_replicate,List.nil_append,List.drop_replicate,<- List.append_assoc,List.replicate_append_replicate]
    congr 2
    omega)
   have hCn:Hid (C.length=Nat.min k (n - k)):=zh (by rw[hCl];first|done|rfl)
   have hC1:Hid (∀ v∈C,v.oneCell'=true):=zh (by rw[hC.out];intro v hv;rw[(List.mem_replicate.1 hv).2];rfl)
   have hsrc:Hid (∀ u:World,Bk u g (List.replicate k (Value.int .i64 x)++List.replicate (n - k) (.int .i64 0)) 3->∀ j v,C[j]? = some v->u.cell? ((⟨g,0,none⟩:Addr).add j)=some v):=zh (by
    intro u hu j v hv;rw[hC.out] at hv;have hj:=zA3 hv;rw[List.length_replicate] at hj;rw[List.getElem?_replicate,if_pos hj] at hv;cases hv;have h2:=hu.cell (j:=j) (u:=.int .i64 x) (by rw[List.getElem?_append_left (by rw[List.length_replicate];omega),List.getElem?_replicate,if_pos (by omega)])
    unfold Addr.add
    split
    ·rename_i h0;subst h0;exact h2
    ·simpa using h2)
   have hm2:min k (n - k)<=20:=by omega
   obtain⟨q,hq⟩:∃ q,min k (n - k)=q:=⟨_,rfl⟩;have hq1:1<=q:=by omega
   have hqn:k+q<=n:=by omega
   have hCq:Hid (C.length=q):=zh (by rw[hCl];exact hq)
   rw[hq] at hCg;replace hg:=zh hg;clear hq hm2 hCl hC;have HS:Hid (∀ u:World,Bk u g (List.replicate k (Value.int .i64 x)++List.replicate (n - k) (.int .i64 0)) 3->Bk (u.setRow g ((List.replicate k (Value.int .i64 x)++List.replicate (n - k) (Value.int .i64 0)).toArray.toList.take k++(C++(List.replicate k (Value.int .i64 x)++List.replicate (n - k) (Value.int .i64 0)).toArray.toList.drop (k+C.length))).toArray) g (List.replicate (k+q) (.int .i64 x)++List.replicate (n - (k+q)) (.int .i64 0)) 3):=zh (by
    intro u hu;unfold Bk;rw[setRow_heap u g _ _ _ _ hu,<- hCg.out]
    rfl)
   refine zAn rfl 9 [(38,[38]),(39,[39]),(40,[40]),(41,[41]),(42,[42]),(43,[43]),(44,[44]),(45,[45]),(46,[46])]
    (fun i vs u F=>match i,vs with
     | 0,[y]=>y = .int .i64 k
     | 1,[y]=>y = .slice (some ⟨g,0,none⟩) n n
     | 2,[y]=>y = .int .i64 k
     | 3,[y]=>y = .slice (some ⟨g,k,none⟩) (n - k) (n - k)
     | 4,[y]=>y = .slice (some ⟨g,0,none⟩) n n
     | 5,[y]=>y = .int .i64 k
     | 6,[y]=>y = .slice (some ⟨g,0,none⟩) k n
     | 7,[y]=>y = .int .i64 q/\Bk u g (List.replicate (k+q) (.int .i64 x)++List.replicate (n - (k+q)) (.int .i64 0)) 3
     | 8,[y]=>y = .int .i64 ((k:Int)+(q:Int))
     | _,_=>False) 7 (some g) (by intro k hk;cases hk;exact hgl) (by decide +kernel) ?_ ?_ ?_
   ·intro i hi hne oo hoo U u F hG hd hap;rcases(by omega:i=0\/i=1\/i=2\/i=3\/i=4\/i=5\/i=6\/i=7\/i=8) with rfl|rfl|rfl|rfl|rfl|rfl|rfl|rfl|rfl
    iterate 3 (·cases hoo;simp only[fr];intro K hK;go_wp2;exact zk hK _ (fun _ _=>rfl))
    ·cases hoo;simp only[fr];obtain⟨⟨d1,-⟩,⟨d2,-⟩,-⟩:=fa [1,2] (by decide +kernel) hd
     simp only[fu] at d1 d2;try simp only[d1,d2]
     clear d1 d2;intro K hK;go_wp2;exact zk hK _ (fun _ _=>rfl)
    iterate 2 (·cases hoo;simp only[fr];intro K hK;go_wp2;exact zk hK _ (fun _ _=>rfl))
    ·cases hoo;simp only[fr];obtain⟨⟨d4,-⟩,⟨d5,-⟩,-⟩:=fa [4,5] (by decide +kernel) hd
     simp only[fu] at d4 d5;try simp only[d4,d5]
     clear d4 d5;intro K hK;go_wp2;exact zk hK _ (fun _ _=>rfl)
    ·exact absurd rfl hne
    ·cases hoo;simp only[fr];obtain⟨⟨d0,-⟩,⟨d1,-⟩,⟨d2,-⟩,⟨d3,-⟩,⟨d4,-⟩,⟨d5,-⟩,⟨d6,-⟩,⟨d7,-⟩,-⟩:=fa [0,1,2,3,4,5,6,7] (by decide +kernel) hd
     simp only[fu] at d0 d1 d2 d3 d4 d5 d6 d7;try simp only[d0,d1,d2,d3,d4,d5,d6,d7]
     intro K hK;go_wp2;exact zk hK _ (fun _ h=>rfl)
   ·intro _ oo hoo U u F hE hd hap;cases hoo;simp only[fr];obtain⟨⟨d1,-⟩,⟨d2,-⟩,⟨d3,-⟩,⟨d4,-⟩,⟨d5,-⟩,⟨d6,-⟩,-⟩:=fa [1,2,3,4,5,6] (by decide +kernel) hd
    simp only[fu] at d1 d2 d3 d4 d5 d6;try simp only[d1,d2,d3,d4,d5,d6]
    intro K hK;have kB:=HB.out.ext hE;refine wpList_copy_own rfl (.tmp 41) (.tmp 44) 34 34 rfl 3 Tryz.underlying34 (by kernel_rfl) g k (n - k) (n - k) ⟨g,0,none⟩ k n rfl rfl _ 3 kB C hCn.out (hsrc.out u kB) (by rw[hCq.out];simp;omega) hC1.out ?_
    have hS:=HS.out u kB;refine hK _ [] _ ⟨rfl,rfl,rfl,by simp,fun k _ hne=>setRow_other _ _ _ _ (fun e=>hne (e ▸ rfl))⟩ (fun w2 he=>⟨by show goInt C.length=_;rw[hCq.out];rfl,hS.ext he⟩) (Own.nil _ _)
   ·intro oo hoo U u F hG hφ hap;cases hoo;simp only[fr];obtain⟨⟨d0,-⟩,⟨d1,-⟩,⟨d2,-⟩,⟨d3,-⟩,⟨d4,-⟩,⟨d5,-⟩,⟨d6,-⟩,⟨d7,-⟩,⟨d8,-⟩,-⟩:=fb [0,1,2,3,4,5,6,7,8] (by decide +kernel) hφ
    simp only[fu] at d0 d1 d2 d3 d4 d5 d6 d7 d8;try simp only[d0,d1,d2,d3,d4,d5,d6,d7,d8]
    obtain⟨e7,k7⟩:=d7;have HB4:=zh k7;have HE4:=zh (HE.out.grown hG (fun k hk=>by cases hk;rw[hg.out];exact Nat.le_refl _))
    clear d0 d1 d2 d3 d4 d5 d6 d8 e7 k7 hφ hap hG;have hgo:=hg.out;clear hg;subst hgo;go_wp2;go_roundw
    case rel=>exact⟨k+q,by omega,by omega,by simp,HB4.out,HE4.out⟩
    case measure=>simp[intOf];omega
  ·obtain rfl:k=n:=by omega
   have HR:Hid (Bk wr w.heap.size (List.replicate k (.int .i64 x)) 3):=zh (by have:=HB.out;rwa [Nat.sub_self,List.replicate_zero,List.append_nil] at this)
   clear HB;go_wp2;go_ret;refine⟨_,rfl,⟨[w.heap.size],some ⟨w.heap.size,0,none⟩,k,by simp,by simp,by simp[maxLen];omega,.inr ⟨by intro e;have:=congrArg List.length e;simp at this;omega,w.heap.size,0,[],rfl,rfl,Row.ints HR.out hr⟩⟩,HE.out⟩
theorem Oa.sh0{α:Type}[GT α]{e:TypeId}{L:Nat}{w:World}{v:Value}{xs:List α}{F:List Nat}(h:Oa e L w v xs F):∃ a n c,v = .slice a n c:=by
 obtain⟨a,c,h,_⟩:=h.form;exact⟨a,_,c,h⟩
def zAo(xs:List Slot):List Int:=xs.flatMap fun s=>List.replicate s.Ticks.toNat s.Who
theorem zHa{xs:List Slot}{k:Nat}{x:Slot}(h:xs[k]? = some x):zAo (xs.take (k+1))=zAo (xs.take k)++List.replicate x.Ticks.toNat x.Who:=by
 unfold zAo;rw[zAe h];simp
theorem zD4{xs:List Slot}(h:∀ x∈xs,1<=x.Ticks/\x.Ticks<=20):((zAo xs).length:Int)=zFy xs xs.length:=by
 unfold zFy;rw[List.take_length]
 induction xs with
 | nil=>rfl
 | cons x xs ih =>
  have h1:=h x (List.mem_cons_self ..);have h2:=ih (fun y hy=>h y (List.mem_cons_of_mem _ hy))
  simp only[zAo,List.flatMap_cons,List.length_append,List.length_replicate,List.map_cons,List.sum_cons] at h2 ⊢;omega
theorem zGi{xs:List Slot}(h:∀ x∈xs,1<=x.Ticks/\x.Ticks<=20)(k:Nat):(zAo (xs.take k)).length<=20*xs.length:=by
 have h1:=zD4 (xs:=xs.take k) (fun x hx=>h x (List.mem_of_mem_take hx))
 have h2:=zIe (xs:=xs.take k) (fun x hx=>h x (List.mem_of_mem_take hx)) _ (Nat.le_refl _)
 rw[List.length_take] at h2;rw[List.length_take] at h1;omega
theorem zF2(v:Value)(xs:List Slot)(w:World)(h:Rs w v xs)(hv:∀ x∈xs,1<=x.Ticks/\x.Ticks<=20)(hn:xs.length<=12) :
  Calls Tryz.prog 44 #[v] w fun e w' => ∃ v',e = .returned v'/\Rs w' v' (zAo xs)/\Ext w w':=by
 have H:=zh h;have HV:=zh hv;obtain⟨a,c,rfl,hl⟩:=h.form;clear h hv;go_enter Tryz.func44,Tryz.ntmps44;go_wp2;go_loopw [3,5,8] (fun v3 _ i wr => ∃ (k:Nat) (ao:Option Addr) (no co:Nat),k<=xs.length/\i = .int .i64 k/\v3 = .slice ao no co/\Oa 3 w.heap.size wr (.slice ao no co) (zAo (xs.take k)) []/\Ext w wr) (fun _ _ i _=>xs.length - (intOf i).toNat)
 case atStart=>exact⟨0,_,_,_,Nat.zero_le _,rfl,rfl,Oa.nil _ _ _,.refl _⟩
 case round =>
  obtain⟨k,ao,no,co,hk,rfl,rfl,ho,hq⟩:=hrel;have HO:=zh ho;have HQ:=zh hq;have hsz:=hq.sz;clear ho hq;by_cases hlt:k < xs.length
  ·obtain⟨b,o,x,rfl,hb,hx,hc0,hc1,hr0,hr1,hvx⟩:=(H.out.ext HQ.out).atSlot k hlt;have hxt:=HV.out x (List.mem_of_getElem? hx.out);obtain⟨T,hT⟩:∃ T:Nat,x.Ticks=T:=⟨x.Ticks.toNat,by omega⟩
   have hT1:1<=T:=by omega
   have hT2:T<=20:=by omega
   have hTn:x.Ticks.toNat=T:=by omega
   have HN:=zh (zHa hx.out);have hle:=zGi HV.out k;have hle2:=zGi HV.out (k+1);rw[HN.out,List.length_append,List.length_replicate,hTn] at hle2;rw[hTn] at HN;rw[hT] at hc1 hvx hr1 hxt;have hT3:=zh hT;clear hT hTn;obtain⟨wi,rfl⟩:∃ wi,wi=wr:=⟨_,rfl⟩;have e2:Hid (Ext wi ((wi.alloc (.cells #[.int .i64 x.Who,.int .i64 T] 107)).alloc (.cells #[.int .i64 x.Who] 3))):=zh (((zr wi).alloc _).alloc _)
   go_wp2_with (first
    | (go_at_call 74;refine(zJ9 (wi.heap.size+1) x.Who T hT1 hT2 _ (by simp) ((Bk.new1 wi _ _ _).cell (j:=0) rfl) hr0).mono ?_;rintro e w4 ⟨v4,rfl,hr4,he⟩;have HE4:=zh (e2.out.tr he);obtain⟨p4,q4,rfl,_⟩:=hr4.form;rw[List.length_replicate] at hr4;have HR4:=zh hr4;clear hr4 he)
    | (at_builtin;refine zB7 (α:=Int) rfl _ _ 34 rfl 3 Tryz.underlying34 zDs (L:=w.heap.size) (v:=.slice ao no co) (xs:=zAo (xs.take k)) (ys:=List.replicate T x.Who) rfl (HO.out.ext HE4.out) rfl HR4.out (by rw[List.length_replicate];omega) (by have:=HE4.out.sz;omega) ?_;intro v5 w5 hO5 hg5;have HO5:=zh hO5;have HE5:=zh ((HQ.out.tr HE4.out).grown hg5 (fun k hk=>HO.out.own k hk));obtain⟨p5,n5,q5,rfl⟩:=Oa.sh0 hO5;clear hO5 hg5))
   go_roundw
   case rel=>exact⟨k+1,_,_,_,by omega,by go_num,rfl,by rw[HN.out];exact HO5.out,HE5.out⟩
   case measure=>simp[intOf];omega
  ·obtain rfl:k=xs.length:=by omega
   rw[List.take_length] at HO;go_wp2;go_ret;exact⟨_,rfl,HO.out.rs,HQ.out⟩
set_option maxHeartbeats 1500000
def zJ0(xs:List Slot):Nat:=(zAo xs).length
def zD0(xs:List Slot)(t:Int):Int:=(zAo xs).getD (t.toNat % zJ0 xs) 0
def zGj(xs:List Slot)(n:Int)(t:Int):Int:=(t.toNat / zJ0 xs*(zAo xs).count n+((zAo xs).take (t.toNat % zJ0 xs)).count n:Nat)
structure zKd (xs:List Slot):Prop where
 len:1<=xs.length/\xs.length<=12
 tk:∀ x∈xs,1<=x.Ticks/\x.Ticks<=20
theorem zKd.of{xs:List Slot}{n:Int}(h:zCv xs n=true):zKd xs:=by
 obtain⟨h1,h2,_,h3⟩:=zEp h;exact⟨⟨h1,h2⟩,fun x hx=>(h3 x hx).1⟩
theorem zKd.fl{xs:List Slot}(h:zKd xs):1<=zJ0 xs/\zJ0 xs<=240:=by
 have h1:=zD4 h.tk;have h2:=zIe h.tk _ (Nat.le_refl _)
 have:=h.len
 unfold zJ0;omega
theorem zKd.fl_tk{xs:List Slot}(h:zKd xs):(zJ0 xs:Int)=zFy xs xs.length:=zD4 h.tk
theorem zJx{xs:List Slot}{n t:Int}(ht:t<=1000000):0<=zGj xs n t/\zGj xs n t<=1000000:=by
 unfold zGj;refine⟨Int.natCast_nonneg _,?_⟩;have h1:((zAo xs).take (t.toNat % zJ0 xs)).count n<=t.toNat % zJ0 xs:=Nat.le_trans List.count_le_length (by rw[List.length_take];omega)
 have h2:(zAo xs).count n<=zJ0 xs:=List.count_le_length;have h3:t.toNat / zJ0 xs*(zAo xs).count n<=t.toNat / zJ0 xs*zJ0 xs:=Nat.mul_le_mul_left _ h2;have h4:=Nat.div_add_mod t.toNat (zJ0 xs);rw[Nat.mul_comm] at h4;omega
theorem zNw{xs:List Slot}(h:zKd xs)(t:Int):∃ x∈xs,zD0 xs t=x.Who:=by
 have hl:=h.fl;unfold zD0;have hlt:t.toNat % zJ0 xs < (zAo xs).length:=Nat.mod_lt _ hl.1;rw[List.getD_eq_getElem?_getD,List.getElem?_eq_getElem hlt,Option.getD_some];have hm:=List.getElem_mem hlt;obtain⟨x,hx,hm⟩:=List.mem_flatMap.1 hm;exact⟨x,hx,(List.mem_replicate.1 hm).2⟩
theorem zMe(v:Value)(xs:List Slot)(t:Int)(w:World)(h:Rs w v xs)(hv:zKd xs)(ht0:0<=t)(ht:t<=1000000) :
  Calls Tryz.prog 82 #[v,.int .i64 t] w fun e w'=>e = .returned (.int .i64 (zD0 xs t))/\Ext w w':=by
 obtain⟨T,rfl⟩:∃ T:Nat,t=T:=⟨t.toNat,by omega⟩
 have H:=zh h;have hf:=hv.fl;obtain⟨a,c,rfl,hl⟩:=h.form;clear h;obtain⟨L,hL⟩:∃ L,zAo xs=L:=⟨_,rfl⟩;have hw:Hid (zD0 xs T=L.getD (T % L.length) 0):=zh (by unfold zD0 zJ0;rw[hL];rfl)
 have hL12:1<=L.length/\L.length<=240:=by rw[<- hL];exact hf
 obtain⟨hL1,hL2⟩:=hL12;replace hL:=zh hL;clear hf;have HV:=zh hv;go_enter Tryz.func82,Tryz.ntmps82;go_upto_region 2 with (go_at_call 44;refine(zF2 _ xs w H.out HV.out.tk HV.out.len.2).mono ?_;rintro e w1 ⟨v1,rfl,hr,he⟩;rw[hL.out] at hr;obtain⟨p,q,rfl,_⟩:=hr.form;have HR:=zh hr;have HE:=zh he;clear hr he)
 clear hL hv;have hlt:T % L.length < L.length:=Nat.mod_lt _ (by omega)
 obtain⟨b,o,x,rfl,hb,hx,hc,hr⟩:=HR.out.atInt (T % L.length) hlt;have hm:(T:Int).tmod (L.length:Int)=((T % L.length:Nat):Int):=Int.ofNat_tmod _ _;have hne:(L.length:Int)≠0:=by omega
 have hxw:Hid (zD0 xs T=x):=zh (by rw[hw.out,List.getD_eq_getElem?_getD,hx.out];rfl)
 obtain⟨r,hr2⟩:∃ r,T % L.length=r:=⟨_,rfl⟩;rw[hr2] at hlt hc hm;clear hr2 hx hw;go_wp2;go_ret;exact⟨by rw[hxw.out];first|done|rfl,HE.out⟩
theorem impl_own(v:Value)(xs:List Slot)(n t:Int)(w:World)(h:Rs w v xs)(hv:zKd xs)(ht0:0<=t)(ht:t<=1000000) :
  Calls Tryz.prog 83 #[v,.int .i64 n,.int .i64 t] w fun e w'=>e = .returned (.int .i64 (zGj xs n t))/\Ext w w':=by
 obtain⟨T,rfl⟩:∃ T:Nat,t=T:=⟨t.toNat,by omega⟩
 have H:=zh h;have hf:=hv.fl;obtain⟨a,c,rfl,hl⟩:=h.form;clear h;obtain⟨L,hL⟩:∃ L,zAo xs=L:=⟨_,rfl⟩;have hw:Hid (zGj xs n T=(T / L.length*L.count n+(L.take (T % L.length)).count n:Nat)):=zh (by unfold zGj zJ0;rw[hL];rfl)
 have hL12:1<=L.length/\L.length<=240:=by rw[<- hL];exact hf
 obtain⟨hL1,hL2⟩:=hL12;replace hL:=zh hL;clear hf;have HV:=zh hv;go_enter Tryz.func83,Tryz.ntmps83;go_upto_region 2 with (go_at_call 44;refine(zF2 _ xs w H.out HV.out.tk HV.out.len.2).mono ?_;rintro e w1 ⟨v1,rfl,hr,he⟩;rw[hL.out] at hr;obtain⟨p,q,rfl,_⟩:=hr.form;have HR:=zh hr;have HE:=zh he;clear hr he)
 clear hL hv;have hlt:T % L.length < L.length:=Nat.mod_lt _ (by omega)
 have hm:(T:Int).tmod (L.length:Int)=((T % L.length:Nat):Int):=Int.ofNat_tmod _ _;have hd:(T:Int).tdiv (L.length:Int)=((T / L.length:Nat):Int):=Int.ofNat_tdiv _ _;have hdb:T / L.length<=T:=Nat.div_le_self _ _;have hne:(L.length:Int)≠0:=by omega
 obtain⟨r,hr2⟩:∃ r,T % L.length=r:=⟨_,rfl⟩;obtain⟨d,hd2⟩:∃ d,T / L.length=d:=⟨_,rfl⟩;rw[hr2] at hlt hm hw;rw[hd2] at hd hdb hw;clear hr2 hd2;go_wp2;go_loopw [8,9,10,11,16] (fun v8 v9 _ _ i wr => ∃ k:Nat,k<=L.length/\i = .int .i64 k/\v8 = .int .i64 ((L.take k).count n:Nat)/\v9 = .int .i64 ((L.take (min k r)).count n:Nat)/\wr=w1) (fun _ _ _ _ i _=>L.length - (intOf i).toNat)
 case atStart=>exact⟨0,Nat.zero_le _,rfl,by simp,by simp,rfl⟩
 case round =>
  obtain⟨k,hk,rfl,rfl,rfl,rfl⟩:=hrel;have hb1:(L.take k).count n<=k:=Nat.le_trans List.count_le_length (by rw[List.length_take];omega)
  have hb2:(L.take (min k r)).count n<=k:=Nat.le_trans List.count_le_length (by rw[List.length_take];omega)
  by_cases hkt:k < L.length
  ·obtain⟨b,o,x,rfl,hb,hx,hc,hr⟩:=HR.out.atInt k hkt;have hs:=zh (zAe hx.out);obtain⟨A,hA⟩:∃ A,(L.take k).count n=A:=⟨_,rfl⟩;obtain⟨B,hB⟩:∃ B,(L.take (min k r)).count n=B:=⟨_,rfl⟩;rw[hA] at hb1 ⊢;rw[hB] at hb2 ⊢;replace hA:=zh hA;replace hB:=zh hB;by_cases hxn:x=n
   ·have hxe:(x == n)=true:=by simp[hxn]
    by_cases hkr:k < r
    ·have h1:=zh (show min k r=k by omega)
     have h2:=zh (show min (k+1) r=k+1 by omega)
     have hxn2:=zh hxn;clear hxn;go_wp2;go_roundw
     case rel=>exact⟨k+1,by omega,by go_num,by rw[hs.out,List.count_append,hA.out,hxn2.out];simp,by rw[h2.out,hs.out,List.count_append,<- hB.out,h1.out,hxn2.out];simp,by trivial⟩
     case measure=>simp[intOf];omega
    ·have h1:=zh (show min k r=r by omega)
     have h2:=zh (show min (k+1) r=r by omega)
     have hxn2:=zh hxn;clear hxn;go_wp2;go_roundw
     case rel=>exact⟨k+1,by omega,by go_num,by rw[hs.out,List.count_append,hA.out,hxn2.out];simp,by rw[h2.out,<- hB.out,h1.out],by trivial⟩
     case measure=>simp[intOf];omega
   ·have hxe:(x == n)=false:=by simpa using hxn
    have hxe2:=zh hxe;clear hxn;have hc1:=zh (show(L.take (min (k+1) r)).count n=B by
     by_cases hkr:k < r
     ·rw[show min (k+1) r=k+1 by omega,hs.out,List.count_append,<- hB.out,show min k r=k by omega,List.count_singleton,hxe2.out];rfl
     ·rw[show min (k+1) r=r by omega,<- hB.out,show min k r=r by omega])
    go_wp2;go_roundw
    case rel=>exact⟨k+1,by omega,by go_num,by rw[hs.out,List.count_append,hA.out,List.count_singleton,hxe2.out];rfl,by rw[hc1.out],by trivial⟩
    case measure=>simp[intOf];omega
  ·obtain rfl:k=L.length:=by omega
   rw[show min L.length r=r by omega] at *
   rw[List.take_length] at *;obtain⟨A,hA⟩:∃ A,L.count n=A:=⟨_,rfl⟩;obtain⟨B,hB⟩:∃ B,(L.take r).count n=B:=⟨_,rfl⟩;rw[hA] at hb1 hw ⊢;rw[hB] at hb2 hw ⊢;clear hA hB;have hmul:(d:Int)*(A:Int)=((d*A:Nat):Int):=by simp
   have hmb:d*A<=1000000*240:=Nat.mul_le_mul (by omega) (by omega)
   obtain⟨m,hm2⟩:∃ m,d*A=m:=⟨_,rfl⟩;rw[hm2] at hmul hmb hw;clear hm2;go_wp2;go_ret;exact⟨by rw[hw.out];simp,HE.out⟩
end Sk
