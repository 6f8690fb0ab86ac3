/- Contracts of functions of the given program. -/
import Derived.Laws.CopyOwn
import Derived.Test.YtfdeoepbnefckaaGreatCv
import Derived.Test.YtfdeoepbnefckaaGreatHw
namespace Sk
open Go Go.Proofs Go.RowKit
set_option maxHeartbeats 1000000
set_option maxRecDepth 100000
set_option linter.unusedVariables false
set_option linter.unusedSimpArgs false
theorem zIt(n:Nat)(h1:1<=n)(h2:n<=20)(w:World):Calls Tryz.prog 149 #[.int .u64 1,.int .u64 n] w fun e w'=>e = .returned (.tuple #[.int .u64 0,.int .u64 n])/\w=w':=by
 rcases(by omega:n=1\/n=2\/n=3\/n=4\/n=5\/n=6\/n=7\/n=8\/n=9\/n=10\/n=11\/n=12\/n=13\/n=14\/n=15\/n=16\/n=17\/n=18\/n=19\/n=20) with rfl|rfl|rfl|rfl|rfl|rfl|rfl|rfl|rfl|rfl|rfl|rfl|rfl|rfl|rfl|rfl|rfl|rfl|rfl|rfl
 all_goals
  clear h1 h2;go_enter Tryz.func149,Tryz.ntmps149;go_wp2;refine bodyPost_ret (v:=.tuple #[.int .u64 0,.int .u64 _]) (by simp only[results,Tryz.results149];kernel_rfl) rfl ⟨rfl,rfl⟩
theorem bits_Mul(n:Nat)(h1:1<=n)(h2:n<=20)(w:World):Calls Tryz.prog 144 #[.int .u64 1,.int .u64 n] w fun e w'=>e = .returned (.tuple #[.int .u64 0,.int .u64 n])/\w=w':=by
 go_enter Tryz.func144,Tryz.ntmps144;go_wp2_with (go_at_call 149;refine(zIt n h1 h2 _).mono ?_;rintro e w' ⟨rfl,rfl⟩)
 refine bodyPost_ret (v:=.tuple #[.int .u64 0,.int .u64 n]) (by simp[results,Tryz.results144,go_sem]) rfl ⟨rfl,rfl⟩
theorem zIh:(Tryz.prog.info? 3).map (fun i=>(i.zero,i.size,i.bytes))=some (some (.int .i64 0),1,8):=by kernel_rfl
theorem zGp(xs:Nat)(hl:xs<=1048576)(u:World):(Instr.makeSlice 38 (.int .i64 xs) (.int .i64 xs)).run Tryz.prog u =
   .ok (.slice (some ⟨u.heap.size,0,none⟩) xs xs) (u.alloc (.cells (madeCells #[.int .i64 0] (xs*1)) 3)):=by
 obtain⟨i1,hi1,hq0,hq1,hq2⟩:=info_parts zIh;have h:=run_make (P:=Tryz.prog) u 38 3 i1 (.int .i64 0) Tryz.underlying38 hi1 hq0 .i64 .i64 xs xs (by omega) (Int.le_refl _) (by rw[hq2];omega) (by omega)
 simpa [hq1,Value.cells] using h
theorem made_int(n:Nat):madeCells #[.int .i64 0] n=(List.replicate n (Value.int .i64 0)).toArray:=by
 refine Array.ext (by simp[madeCells]) fun i h1 h2=>?_
 simp[madeCells,Nat.mod_one]
theorem Row.ints{w:World}{g n:Nat}{x:Int}{T:TypeId}(h:Bk w g (List.replicate n (.int .i64 x)) T)(hr:rng x):Row w g 0 (List.replicate n x) []:=by
 have key:∀ m o,o+m<=n->Row w g o (List.replicate m x) []:=by
  intro m
  induction m with
  | zero=>intro o _;rfl
  | succ m ih =>
   intro o ho;refine⟨[.int .i64 x],[],[],⟨rfl,hr,rfl⟩,fun j u hj=>?_,rfl,ih (o+1) (by omega)⟩
   cases j with
   | zero=>cases hj;exact h.cell (by rw[List.getElem?_replicate,if_pos (by omega)])
   | succ j=>cases hj
 exact key n 0 (by omega)
theorem zG6(b:Nat)(x:Int)(n:Nat)(h1:1<=n)(h2:n<=20)(w:World)(hb:b < w.heap.size)(hx:w.cell? ⟨b,0,none⟩=some (.int .i64 x))(hr:rng x) :
  Calls Tryz.prog 122 #[.slice (some ⟨b,0,none⟩) 1 1,.int .i64 n] w fun e w' => ∃ v',e = .returned v'/\Rs w' v' (List.replicate n x)/\Ext w w':=by
 have hmk:∀ u:World,(Instr.makeSlice 38 (.int .i64 n) (.int .i64 n)).run Tryz.prog u = .ok (.slice (some ⟨u.heap.size,0,none⟩) n n) (u.alloc (.cells (madeCells #[.int .i64 0] (n*1)) 3)):=zGp n (by omega)
 go_enter Tryz.func122,Tryz.ntmps122;go_upto_if 26 with (go_at_call 144;refine(bits_Mul n h1 h2 _).mono ?_;rintro e w' ⟨rfl,rfl⟩)
 go_upto_region 7 with (fail)
 refine zA2 (fun W=>Ext w W/\Bk W w.heap.size (List.replicate n (.int .i64 0)) 3) ⟨(zr _).alloc _,by rw[made_int];exact Bk.new _ _ _⟩ ?_
 rintro W ⟨e1,kA⟩;have HE:=zh e1;have HK:=zh kA;have hx1:=(zA0 e1 hb).trans hx;clear e1 kA;obtain⟨C1,hC1⟩:∃ C1,C1 = [Value.int .i64 x]:=⟨_,rfl⟩;replace hC1:=zh hC1;have hsrc:∀ j v,C1[j]? = some v->W.cell? ((⟨b,0,none⟩:Addr).add j)=some v:=fun j v hv=>by
  rw[hC1.out] at hv;cases j with
  | zero=>cases hv;exact hx1
  | succ j=>cases hv
 have HSRC:=zh hsrc;have hl1:C1.length=1:=by rw[hC1.out];rfl
 have hl1':=zh hl1;clear hsrc hl1;go_upto_block 0 with (refine wpList_copy_splice rfl (.tmp 31) (.tmp 32) 38 38 rfl 3 Tryz.underlying38 (by kernel_rfl) _ _ _ _ _ _ rfl rfl w.heap.size 0 _ 3 HK.out C1 (by rw[hl1'.out];show 1=min 1 n;omega) (fun _=>⟨rfl,_,rfl,HSRC.out⟩) (by rw[hl1'.out,List.length_replicate];omega) (by rw[hC1.out];intro v hv;simp at hv;subst hv;rfl) w.heap.size w HE.out (Nat.le_refl _) ?_;intro w2 HG2 hB2;have HB2:=zh hB2;clear hB2)
 have hl1:=hl1'.out;have HB:Hid (Bk w2 w.heap.size (List.replicate 1 (.int .i64 x)++List.replicate (n - 1) (.int .i64 0)) 3):=zh (by
  have h:=HG2.out;rw[hC1.out] at h;unfold Bk;rw[h];obtain⟨m,rfl⟩:∃ m,n=m+1:=⟨n - 1,by omega⟩
  simp[splice,List.replicate_succ])
 clear HG2 HE HK hC1;try simp only[hl1]
 clear hl1;go_wp2;go_loopw [8] (fun v8 wr => ∃ k:Nat,1<=k/\k<=n/\v8 = .int .i64 k/\Bk wr w.heap.size (List.replicate k (.int .i64 x)++List.replicate (n - k) (.int .i64 0)) 3/\Ext w wr) (fun v8 _=>n - (intOf v8).toNat)
 case atStart=>exact⟨1,Nat.le_refl _,h1,rfl,HB.out,HB2.out⟩
 case round =>
  obtain⟨k,hk1,hkn,rfl,hb,he⟩:=hrel;have HB:=zh hb;have HE:=zh he;clear hb he HB2;by_cases hlt:k < n
  ·obtain⟨C,hC⟩:∃ C,C=List.replicate (min k (n - k)) (Value.int .i64 x):=⟨_,rfl⟩;replace hC:=zh hC;have hCl:C.length=min k (n - k):=by rw[hC.out];simp
   go_upto_region 9 with (fail)
   have hgl:=HB.out.lt;obtain⟨g,hg⟩:∃ g,g=w.heap.size:=⟨_,rfl⟩;rw[<- hg] at HB hgl ⊢;have hCg:Hid (splice (List.replicate k (Value.int .i64 x)++List.replicate (n - k) (.int .i64 0)) k C=List.replicate (k+min k (n - k)) (Value.int .i64 x)++List.replicate (n - (k+min k (n - k))) (.int .i64 0)):=zh (by
    rw[hC.out];unfold splice;rw[List.take_left' (by simp),List.drop_append,List.length_replicate,List.drop_eq_nil_of_le (by simp),List.length_replicate,List.nil_append,List.drop_replicate,<- List.append_assoc,List.replicate_append_replicate]
    congr 2
    omega)
   have hCn:Hid (C.length=Nat.min k (n - k)):=zh (by rw[hCl];first|done|rfl)
   have hC1:Hid (∀ v∈C,v.oneCell'=true):=zh (by rw[hC.out];intro v hv;rw[(List.mem_replicate.1 hv).2];rfl)
   have hsrc:Hid (∀ u:World,Bk u g (List.replicate k (Value.int .i64 x)++List.replicate (n - k) (.int .i64 0)) 3->∀ j v,C[j]? = some v->u.cell? ((⟨g,0,none⟩:Addr).add j)=some v):=zh (by
    intro u hu j v hv;rw[hC.out] at hv;have hj:=zAh hv;rw[List.length_replicate] at hj;rw[List.getElem?_replicate,if_pos hj] at hv;cases hv;have h2:=hu.cell (j:=j) (u:=.int .i64 x) (by rw[List.getElem?_append_left (by rw[List.length_replicate];omega),List.getElem?_replicate,if_pos (by omega)])
    unfold Addr.add
    split
    ·rename_i h0;subst h0;exact h2
    ·simpa using h2)
   have hm2:min k (n - k)<=20:=by omega
   obtain⟨q,hq⟩:∃ q,min k (n - k)=q:=⟨_,rfl⟩;have hq1:1<=q:=by omega
   have hqn:k+q<=n:=by omega
   have hCq:Hid (C.length=q):=zh (by rw[hCl];exact hq)
   rw[hq] at hCg;replace hg:=zh hg;clear hq hm2 hCl hC;have HS:Hid (∀ u:World,Bk u g (List.replicate k (Value.int .i64 x)++List.replicate (n - k) (.int .i64 0)) 3->Bk (u.setRow g ((List.replicate k (Value.int .i64 x)++List.replicate (n - k) (Value.int .i64 0)).toArray.toList.take k++(C++(List.replicate k (Value.int .i64 x)++List.replicate (n - k) (Value.int .i64 0)).toArray.toList.drop (k+C.length))).toArray) g (List.replicate (k+q) (.int .i64 x)++List.replicate (n - (k+q)) (.int .i64 0)) 3):=zh (by
    intro u hu;unfold Bk;rw[setRow_heap u g _ _ _ _ hu,<- hCg.out]
    rfl)
   refine zAm rfl 9 [(38,[38]),(39,[39]),(40,[40]),(41,[41]),(42,[42]),(43,[43]),(44,[44]),(45,[45]),(46,[46])]
    (fun i vs u F=>match i,vs with
     | 0,[y]=>y = .int .i64 k
     | 1,[y]=>y = .slice (some ⟨g,0,none⟩) n n
     | 2,[y]=>y = .int .i64 k
     | 3,[y]=>y = .slice (some ⟨g,k,none⟩) (n - k) (n - k)
     | 4,[y]=>y = .slice (some ⟨g,0,none⟩) n n
     | 5,[y]=>y = .int .i64 k
     | 6,[y]=>y = .slice (some ⟨g,0,none⟩) k n
     | 7,[y]=>y = .int .i64 q/\Bk u g (List.replicate (k+q) (.int .i64 x)++List.replicate (n - (k+q)) (.int .i64 0)) 3
     | 8,[y]=>y = .int .i64 ((k:Int)+(q:Int))
     | _,_=>False) 7 (some g) (by intro k hk;cases hk;exact hgl) (by decide +kernel) ?_ ?_ ?_
   ·intro i hi hne oo hoo U u F hG hd hap;rcases(by omega:i=0\/i=1\/i=2\/i=3\/i=4\/i=5\/i=6\/i=7\/i=8) with rfl|rfl|rfl|rfl|rfl|rfl|rfl|rfl|rfl
    iterate 3 (·cases hoo;simp only[fr];intro K hK;go_wp2;exact zk hK _ (fun _ _=>rfl))
    ·cases hoo;simp only[fr];obtain⟨⟨d1,-⟩,⟨d2,-⟩,-⟩:=fa [1,2] (by decide +kernel) hd
     simp only[fu] at d1 d2;try simp only[d1,d2]
     clear d1 d2;intro K hK;go_wp2;exact zk hK _ (fun _ _=>rfl)
    iterate 2 (·cases hoo;simp only[fr];intro K hK;go_wp2;exact zk hK _ (fun _ _=>rfl))
    ·cases hoo;simp only[fr];obtain⟨⟨d4,-⟩,⟨d5,-⟩,-⟩:=fa [4,5] (by decide +kernel) hd
     simp only[fu] at d4 d5;try simp only[d4,d5]
     clear d4 d5;intro K hK;go_wp2;exact zk hK _ (fun _ _=>rfl)
    ·exact absurd rfl hne
    ·cases hoo;simp only[fr];obtain⟨⟨d0,-⟩,⟨d1,-⟩,⟨d2,-⟩,⟨d3,-⟩,⟨d4,-⟩,⟨d5,-⟩,⟨d6,-⟩,⟨d7,-⟩,-⟩:=fa [0,1,2,3,4,5,6,7] (by decide +kernel) hd
     simp only[fu] at d0 d1 d2 d3 d4 d5 d6 d7;try simp only[d0,d1,d2,d3,d4,d5,d6,d7]
     intro K hK;go_wp2;exact zk hK _ (fun _ h=>rfl)
   ·intro _ oo hoo U u F hE hd hap;cases hoo;simp only[fr];obtain⟨⟨d1,-⟩,⟨d2,-⟩,⟨d3,-⟩,⟨d4,-⟩,⟨d5,-⟩,⟨d6,-⟩,-⟩:=fa [1,2,3,4,5,6] (by decide +kernel) hd
    simp only[fu] at d1 d2 d3 d4 d5 d6;try simp only[d1,d2,d3,d4,d5,d6]
    intro K hK;have kB:=HB.out.ext hE;refine wpList_copy_own rfl (.tmp 41) (.tmp 44) 38 38 rfl 3 Tryz.underlying38 (by kernel_rfl) g k (n - k) (n - k) ⟨g,0,none⟩ k n rfl rfl _ 3 kB C hCn.out (hsrc.out u kB) (by rw[hCq.out];simp;omega) hC1.out ?_
    have hS:=HS.out u kB;refine hK _ [] _ ⟨rfl,rfl,rfl,by simp,fun k _ hne=>setRow_other _ _ _ _ (fun e=>hne (e ▸ rfl))⟩ (fun w2 he=>⟨by show goInt C.length=_;rw[hCq.out];rfl,hS.ext he⟩) (Own.nil _ _)
   ·intro oo hoo U u F hG hφ hap;cases hoo;simp only[fr];obtain⟨⟨d0,-⟩,⟨d1,-⟩,⟨d2,-⟩,⟨d3,-⟩,⟨d4,-⟩,⟨d5,-⟩,⟨d6,-⟩,⟨d7,-⟩,⟨d8,-⟩,-⟩:=fb [0,1,2,3,4,5,6,7,8] (by decide +kernel) hφ
    simp only[fu] at d0 d1 d2 d3 d4 d5 d6 d7 d8;try simp only[d0,d1,d2,d3,d4,d5,d6,d7,d8]
    obtain⟨e7,k7⟩:=d7;have HB4:=zh k7;have HE4:=zh (HE.out.grown hG (fun k hk=>by cases hk;rw[hg.out];exact Nat.le_refl _))
    clear d0 d1 d2 d3 d4 d5 d6 d8 e7 k7 hφ hap hG;have hgo:=hg.out;clear hg;subst hgo;go_wp2;go_roundw
    case rel=>exact⟨k+q,by omega,by omega,by simp,HB4.out,HE4.out⟩
    case measure=>simp[intOf];omega
  ·obtain rfl:k=n:=by omega
   have HR:Hid (Bk wr w.heap.size (List.replicate k (.int .i64 x)) 3):=zh (by have:=HB.out;rwa [Nat.sub_self,List.replicate_zero,List.append_nil] at this)
   clear HB;go_wp2;go_ret;refine⟨_,rfl,⟨[w.heap.size],some ⟨w.heap.size,0,none⟩,k,by simp,by simp,by simp[maxLen];omega,.inr ⟨by intro e;have:=congrArg List.length e;simp at this;omega,w.heap.size,0,[],rfl,rfl,Row.ints HR.out hr⟩⟩,HE.out⟩
theorem Oa.sh0{α:Type}[GT α]{e:TypeId}{L:Nat}{w:World}{v:Value}{xs:List α}{F:List Nat}(h:Oa e L w v xs F):∃ a n c,v = .slice a n c:=by
 obtain⟨a,c,h,_⟩:=h.form;exact⟨a,_,c,h⟩
def zAt(xs:List Slot):List Int:=xs.flatMap fun s=>List.replicate s.Ticks.toNat s.Who
theorem zH0{xs:List Slot}{k:Nat}{x:Slot}(h:xs[k]? = some x):zAt (xs.take (k+1))=zAt (xs.take k)++List.replicate x.Ticks.toNat x.Who:=by
 unfold zAt;rw[zAd h];simp
theorem zFi{xs:List Slot}(h:∀ x∈xs,1<=x.Ticks/\x.Ticks<=20):((zAt xs).length:Int)=M.tk xs xs.length:=by
 unfold M.tk;rw[List.take_length]
 induction xs with
 | nil=>rfl
 | cons x xs ih =>
  have h1:=h x (List.mem_cons_self ..);have h2:=ih (fun y hy=>h y (List.mem_cons_of_mem _ hy))
  simp only[zAt,List.flatMap_cons,List.length_append,List.length_replicate,List.map_cons,List.sum_cons] at h2 ⊢;omega
theorem zG9{xs:List Slot}(h:∀ x∈xs,1<=x.Ticks/\x.Ticks<=20)(k:Nat):(zAt (xs.take k)).length<=20*xs.length:=by
 have h1:=zFi (xs:=xs.take k) (fun x hx=>h x (List.mem_of_mem_take hx))
 have h2:=zJf (xs:=xs.take k) (fun x hx=>h x (List.mem_of_mem_take hx)) _ (Nat.le_refl _)
 rw[List.length_take] at h2;rw[List.length_take] at h1;omega
theorem zGi(v:Value)(xs:List Slot)(w:World)(h:Rs w v xs)(hv:∀ x∈xs,1<=x.Ticks/\x.Ticks<=20)(hn:xs.length<=12) :
  Calls Tryz.prog 84 #[v] w fun e w' => ∃ v',e = .returned v'/\Rs w' v' (zAt xs)/\Ext w w':=by
 have H:=zh h;have HV:=zh hv;obtain⟨a,c,rfl,hl⟩:=h.form;clear h hv;go_enter Tryz.func84,Tryz.ntmps84;go_wp2;go_loopw [3,5,8] (fun v3 _ i wr => ∃ (k:Nat) (ao:Option Addr) (no co:Nat),k<=xs.length/\i = .int .i64 k/\v3 = .slice ao no co/\Oa 3 w.heap.size wr (.slice ao no co) (zAt (xs.take k)) []/\Ext w wr) (fun _ _ i _=>xs.length - (intOf i).toNat)
 case atStart=>exact⟨0,_,_,_,Nat.zero_le _,rfl,rfl,Oa.nil _ _ _,.refl _⟩
 case round =>
  obtain⟨k,ao,no,co,hk,rfl,rfl,ho,hq⟩:=hrel;have HO:=zh ho;have HQ:=zh hq;have hsz:=hq.sz;clear ho hq;by_cases hlt:k < xs.length
  ·obtain⟨b,o,x,rfl,hb,hx,hc0,hc1,hr0,hr1,hvx⟩:=(H.out.ext HQ.out).atSlot k hlt;have hxt:=HV.out x (List.mem_of_getElem? hx.out);obtain⟨T,hT⟩:∃ T:Nat,x.Ticks=T:=⟨x.Ticks.toNat,by omega⟩
   have hT1:1<=T:=by omega
   have hT2:T<=20:=by omega
   have hTn:x.Ticks.toNat=T:=by omega
   have HN:=zh (zH0 hx.out);have hle:=zG9 HV.out k;have hle2:=zG9 HV.out (k+1);rw[HN.out,List.length_append,List.length_replicate,hTn] at hle2;rw[hTn] at HN;rw[hT] at hc1 hvx hr1 hxt;have hT3:=zh hT;clear hT hTn;obtain⟨wi,rfl⟩:∃ wi,wi=wr:=⟨_,rfl⟩;have e2:Hid (Ext wi ((wi.alloc (.cells #[.int .i64 x.Who,.int .i64 T] 101)).alloc (.cells #[.int .i64 x.Who] 3))):=zh (((zr wi).alloc _).alloc _)
   go_wp2_with (first
    | (go_at_call 122;refine(zG6 (wi.heap.size+1) x.Who T hT1 hT2 _ (by simp) ((Bk.new1 wi _ _ _).cell (j:=0) rfl) hr0).mono ?_;rintro e w4 ⟨v4,rfl,hr4,he⟩;have HE4:=zh (e2.out.tr he);obtain⟨p4,q4,rfl,_⟩:=hr4.form;rw[List.length_replicate] at hr4;have HR4:=zh hr4;clear hr4 he)
    | (at_builtin;refine zFh (α:=Int) rfl _ _ 38 rfl 3 Tryz.underlying38 zEa (L:=w.heap.size) (v:=.slice ao no co) (xs:=zAt (xs.take k)) (ys:=List.replicate T x.Who) rfl (HO.out.ext HE4.out) rfl HR4.out (by rw[List.length_replicate];omega) (by have:=HE4.out.sz;omega) ?_;intro v5 w5 hO5 hg5;have HO5:=zh hO5;have HE5:=zh ((HQ.out.tr HE4.out).grown hg5 (fun k hk=>HO.out.own k hk));obtain⟨p5,n5,q5,rfl⟩:=Oa.sh0 hO5;clear hO5 hg5))
   go_roundw
   case rel=>exact⟨k+1,_,_,_,by omega,by go_num,rfl,by rw[HN.out];exact HO5.out,HE5.out⟩
   case measure=>simp[intOf];omega
  ·obtain rfl:k=xs.length:=by omega
   rw[List.take_length] at HO;go_wp2;go_ret;exact⟨_,rfl,HO.out.rs,HQ.out⟩
end Sk
