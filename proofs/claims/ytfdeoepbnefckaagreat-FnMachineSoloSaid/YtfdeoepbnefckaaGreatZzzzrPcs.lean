/- Contracts of functions of the given program. -/
import Derived.Test.YtfdeoepbnefckaaGreatZzzzqPch
import Derived.Test.YtfdeoepbnefckaaGreatZeChOf
namespace Sk
open Go Go.Proofs Go.RowKit
set_option maxHeartbeats 4000000
set_option maxRecDepth 100000
set_option linter.unusedVariables false
set_option linter.unusedSimpArgs false
def M.pp(s:Bool)(n:Nat)(x:Order):Bool:=x.A == (n:Int) && x.Op == M.sop s
def M.pcn(xs:List Order)(s:Bool)(n:Nat):List Int:=((List.range n).filter fun j=>xs.any (M.pp s j)).map Int.ofNat
def M.pcs(xs:List Order)(c:Int)(s:Bool):List Int:=if zBg xs c then M.pcn xs s 8 else []
theorem M.pcn_len(xs:List Order)(s:Bool)(n:Nat):(M.pcn xs s n).length<=n:=by
 unfold M.pcn;rw[List.length_map];exact Nat.le_trans (List.length_filter_le _ _) (by simp)
set_option maxHeartbeats 1000000
theorem ssort_ext:∀ (l m:List Int),l.Pairwise (· < ·)->m.Pairwise (· < ·)->(∀ x,x∈l ↔ x∈m)->l=m:=by
 intro l
 induction l with
 | nil =>
  intro m _ _ h;cases m with
  | nil=>rfl
  | cons b m=>exact absurd ((h b).2 (List.mem_cons_self ..)) (by simp)
 | cons a l ih =>
  intro m hl hm h;cases m with
  | nil=>exact absurd ((h a).1 (List.mem_cons_self ..)) (by simp)
  | cons b m =>
   rw[List.pairwise_cons] at hl hm;have h1:=List.mem_cons.1 ((h a).1 (List.mem_cons_self ..));have h2:=List.mem_cons.1 ((h b).2 (List.mem_cons_self ..));have hab:a=b:=by
    rcases h1 with h1|h1
    ·exact h1
    ·rcases h2 with h2|h2
     ·exact h2.symm
     ·have:=hm.1 a h1;have:=hl.1 b h2;omega
   subst hab;rw[ih m hl.2 hm.2 fun x=>?_]
   constructor
   ·intro hx
    have:=hl.1 x hx
    rcases List.mem_cons.1 ((h x).1 (List.mem_cons_of_mem _ hx)) with e|e
    ·omega
    ·exact e
   ·intro hx
    have:=hm.1 x hx
    rcases List.mem_cons.1 ((h x).2 (List.mem_cons_of_mem _ hx)) with e|e
    ·omega
    ·exact e
theorem compact_sorted(d:Array Int)(hd:∀ i j,i<=j->j < d.size->d[i]! <= d[j]!):∀ m,m<=d.size ->
  (Lib.compactUpTo d m).Pairwise (· < ·)/\(∀ x∈Lib.compactUpTo d m,∃ i,i < m/\x=d[i]!)/\∀ i,i < m->d[i]! ∈ Lib.compactUpTo d m:=by
 intro m
 induction m with
 | zero=>intro _;refine⟨by simp[Lib.compactUpTo],by simp[Lib.compactUpTo],fun i h=>absurd h (Nat.not_lt_zero _)⟩
 | succ m ih =>
  intro hm;obtain⟨h1,h2,h3⟩:=ih (by omega)
  rw[Lib.compactUpTo_succ];by_cases hk:Lib.keeps d m=true
  ·rw[if_pos hk];refine⟨List.pairwise_append.2 ⟨h1,by simp,fun x hx y hy=>?_⟩,fun x hx=>?_,fun i hi=>?_⟩
   ·rw[List.mem_singleton] at hy;subst hy;obtain⟨i,hi,rfl⟩:=h2 x hx;have h4:=of_decide_eq_true hk;rcases h4 with h4|h4
    ·omega
    ·have a1:=hd i (m - 1) (by omega) (by omega)
     have a2:=hd (m - 1) m (by omega) (by omega)
     have:d[m - 1]! ≠ d[m]!:=fun e=>h4 e.symm
     omega
   ·rcases List.mem_append.1 hx with hx|hx
    ·obtain⟨i,hi,e⟩:=h2 x hx;exact⟨i,by omega,e⟩
    ·rw[List.mem_singleton] at hx;exact⟨m,by omega,hx⟩
   ·rcases Nat.lt_succ_iff_lt_or_eq.1 hi with h|h
    ·exact List.mem_append_left _ (h3 i h)
    ·subst h;exact List.mem_append_right _ (List.mem_singleton.2 rfl)
  ·rw[if_neg hk,List.append_nil];have h4:¬ (m=0\/d[m]! ≠ d[m - 1]!):=fun h=>hk (decide_eq_true h)
   have h5:m≠0:=fun h=>h4 (.inl h)
   have h6:d[m]! = d[m - 1]!:=Decidable.byContradiction fun h=>h4 (.inr h)
   refine⟨h1,fun x hx=>?_,fun i hi=>?_⟩
   ·obtain⟨i,hi,e⟩:=h2 x hx;exact⟨i,by omega,e⟩
   ·rcases Nat.lt_succ_iff_lt_or_eq.1 hi with h|h
    ·exact h3 i h
    ·subst h;rw[h6];exact h3 _ (by omega)
theorem M.srt_le(l:List Int):(M.srt l).Pairwise (fun x y=>x<=y):=by
 have h:=List.pairwise_mergeSort (le:=fun x y:Int=>decide (x<=y)) (fun a b c h1 h2=>decide_eq_true (by have:=of_decide_eq_true h1;have:=of_decide_eq_true h2;omega)) (fun a b=>by simp only[Bool.or_eq_true,decide_eq_true_eq];omega) l
 exact h.imp fun h=>of_decide_eq_true h
theorem M.compact_srt(l:List Int):(Lib.compact (M.srt l)).Pairwise (· < ·)/\∀ x,x∈Lib.compact (M.srt l) ↔ x∈l:=by
 have hs:=M.srt_le l;have h:=compact_sorted (M.srt l).toArray (fun i j hij hj=>by
  have hj':j < (M.srt l).length:=by simpa using hj
  have hi':i < (M.srt l).length:=by omega
  rw[getElem!_pos _ i (by simpa using hi'),getElem!_pos _ j hj]
  simp only[List.getElem_toArray];rcases Nat.lt_or_eq_of_le hij with h|h
  ·exact(List.pairwise_iff_getElem.1 hs) i j hi' hj' h
  ·subst h;exact Int.le_refl _) (M.srt l).length (by simp)
 refine⟨h.1,fun x=>⟨fun hx=>M.srt_mem.1 (M.compact_mem hx),fun hx=>?_⟩⟩
 obtain⟨i,hi,rfl⟩:=List.mem_iff_getElem.1 (M.srt_mem.2 hx)
 have:=h.2.2 i hi
 rwa [getElem!_pos _ i (by simpa using hi),List.getElem_toArray] at this
theorem M.pcn_sorted(xs:List Order)(s:Bool)(n:Nat):(M.pcn xs s n).Pairwise (· < ·):=by
 unfold M.pcn;rw[List.pairwise_map];exact(List.pairwise_lt_range.filter _).imp fun h=>Int.ofNat_lt.2 h
theorem M.pch_eq(xs:List Order)(c:Int)(s:Bool):M.pch xs c s=M.pcs xs c s:=by
 unfold M.pch M.pcs;cases h:zBg xs c with
 | false=>rfl
 | true =>
  simp only[if_true];have h1:=M.compact_srt (M.chs (M.sop s) xs);refine ssort_ext _ _ h1.1 (M.pcn_sorted xs s 8) fun x=>?_
  rw[h1.2 x];have hv:∀ o∈xs,o.Op=M.sop s->0<=o.A/\o.A<=7:=by
   intro o ho hop;simp only[zBg,Bool.and_eq_true,List.all_eq_true] at h;have h2:=h.2.2 o ho;unfold zDw zC2 at h2;have h3:o.Op=5\/o.Op=6:=by rw[hop];unfold M.sop;cases s<;>simp
   rw[if_neg (by omega),if_neg (by omega),if_neg (by omega),if_pos h3] at h2
   simp only[Bool.and_eq_true,zA7] at h2;exact h2.1
  unfold M.chs M.pcn;simp only[List.mem_map,List.mem_filter,List.mem_range,List.any_eq_true,M.pp,Bool.and_eq_true,beq_iff_eq];constructor
  ·rintro⟨o,⟨ho,hop⟩,rfl⟩;obtain⟨h2,h3⟩:=hv o ho hop;exact⟨o.A.toNat,⟨by omega,o,ho,by omega,hop⟩,by show((o.A.toNat:Nat):Int)=o.A;omega⟩
  ·rintro⟨n,⟨hn,o,ho,hA,hop⟩,rfl⟩;exact⟨o,⟨ho,hop⟩,hA⟩
theorem M.pcs_len(xs:List Order)(c:Int)(s:Bool):(M.pcs xs c s).length<=8:=by
 unfold M.pcs;cases zBg xs c;·simp
 ·exact M.pcn_len xs s 8
set_option maxHeartbeats 4000000
def M.stepN(x:Core)(p:List Order):Nat->Core
 | 0=>x
 | k+1=>(zBb (M.stepN x p k) p k).1
theorem M.stepN_fits{x:Core}{p:List Order}{q:Int}(h:zAr x p.length q=true)(hp:zBg p q=true):∀ k,zAr (M.stepN x p k) p.length q=true:=by
 intro k
 induction k with
 | zero=>exact h
 | succ k ih=>exact zFl ih hp (by omega)
theorem Om.coreOs{L:Nat}{w:World}{b o:Nat}{c:Core}{F:List Nat}(h:Om L w b o c F):∃ a0 c0,w.cell? ⟨b,o,none⟩=some (.slice a0 c.Cells.length c0)/\w.cell? ⟨b,o+1,none⟩=some (.int .i64 c.At)/\w.cell? ⟨b,o+2,none⟩=some (.bool c.Stopped)/\Os L w (.slice a0 c.Cells.length c0) c.Cells/\rng c.At:=by
 obtain⟨cs,⟨v0,rfl,h0,h1⟩,hat,ho⟩:=h;obtain⟨a0,c0,rfl,_⟩:=id h0;exact⟨a0,c0,by simpa using hat 0 _ rfl,by simpa using hat 1 _ rfl,by simpa using hat 2 _ rfl,⟨_,h0,(List.nodup_cons.1 ho.1).2,fun k hk=>ho.2 k (List.mem_cons_of_mem _ hk)⟩,h1⟩
theorem Om.ofCore{L C:Nat}{w:World}{v0:Value}{x:Core}{T:TypeId}(h:Os L w v0 x.Cells)(hr:rng x.At)(hC:C=w.heap.size)(hL:L<=C):∃ F,Om L (w.alloc (.cells #[v0,.int .i64 x.At,.bool x.Stopped] T)) C 0 x F:=by
 subst hC;obtain⟨F0,h0,o0⟩:=h;have hb:=Bk.new w [v0,.int .i64 x.At,.bool x.Stopped] T;have o1:=o0.ext ((zr w).alloc (.cells #[v0,.int .i64 x.At,.bool x.Stopped] T));refine⟨F0,[v0,.int .i64 x.At,.bool x.Stopped],⟨v0,rfl,h0.ext ((zr w).alloc _),hr⟩,fun j u hj=>by rw[Nat.zero_add];exact hb.cell hj,List.nodup_cons.2 ⟨fun hm=>?_,o1.1⟩,fun k hk=>?_⟩
 ·exact absurd (o0.lt hm) (Nat.lt_irrefl _)
 ·rcases List.mem_cons.1 hk with rfl|hk
  ·exact⟨hL,_,T,hb⟩
  ·exact o1.2 k hk
theorem Om.fge{α:Type}[GT α]{L:Nat}{w:World}{b o:Nat}{x : α}{F:List Nat}(h:Om L w b o x F):∀ k∈F,L<=k:=by
 obtain⟨cs,_,_,h3⟩:=h;exact fun k hk=>(h3.2 k (List.mem_cons_of_mem _ hk)).1
theorem impl_RunCore(v vl:Value)(x:Core)(p:List Order)(q:Int)(n:Nat)(w:World)(h:Rv w v x)(hl:Rs w vl p)(hf:zAr x p.length q=true)(hp:zBg p q=true)(hn:n<=200) :
  Calls Tryz.prog 15 #[v,vl,.int .i64 q,.int .i64 n] w fun e w' => ∃ v',e = .returned v'/\Rv w' v' (M.stepN x p n)/\Ext w w':=by
 have H:=zh h;have HL0:=zh hl;have hb:=zFd hp;obtain⟨f1,f2,f3⟩:=zAo.1 hf;have hin:Hid (zA4 (n:Int) 0 200=true):=zh (by rw[zA7];omega)
 obtain⟨a0,c0,rfl,hr,hs,hl0⟩:=h.openCore;obtain⟨al,cl,rfl,-⟩:=hl.form;clear h hl;go_enter Tryz.func15,Tryz.ntmps15;go_upto_region 1 with (fail)
 refine zA2 (fun W=>Ext w W/\Bk W w.heap.size [.slice a0 x.Cells.length c0,.int .i64 x.At,.bool x.Stopped] 43/\Bk W (w.heap.size+1) [.slice none 0 0,.int .i64 0,.bool false] 43) ⟨((zr _).alloc _).alloc _,(Bk.new _ _ _).ext ((zr _).alloc _),Bk.new1 _ _ _ _⟩ ?_
 rintro W ⟨e1,kA,kB⟩;have HE:=zh e1;have HKA:=zh kA;have HKB:=zh kB;obtain⟨d0,d1,d2⟩:=Bk.k3 kA;have hA:=kA.lt;have hB:=kB.lt;have HL:=zh (HL0.out.ext e1);have HX:=zh (H.out.ext e1);clear e1 kA kB H HL0;go_upto_region 4 with (first
  | (go_at_call 40;refine(impl_CoreValid _ _ x p q _ HX.out HL.out).mono ?_;rintro e w1 ⟨rfl,he⟩;rw[hp,hf];have E1:=zh he;have k1:=HKA.out.ext he;have c0':=k1.cell (j:=0) rfl;have c1':=k1.cell (j:=1) rfl;have c2':=k1.cell (j:=2) rfl;clear he k1)
  | (go_at_call 31;refine(zAc _ _ _ _).mono ?_;rintro e w' ⟨rfl,rfl⟩;rw[hin.out])
  | (go_at_call 41;refine(zF3 _ x _ (HX.out.ext E1.out) (by have:=hb.2;omega)).mono ?_;rintro e w2 ⟨p2,q2,rfl,ho,he⟩;have HO:=zh (ho.mono (L':=W.heap.size) E1.out.sz);have E2:=zh (E1.out.tr he);clear ho he))
 obtain⟨C,hC⟩:∃ C,C=w2.heap.size:=⟨_,rfl⟩;refine zA2 (fun u=>Ext W u/\∃ F,Om W.heap.size u C 0 x F) ⟨(E2.out.alloc _),Om.ofCore HO.out hr hC (by rw[hC];exact E2.out.sz)⟩ ?_
 have hWC:W.heap.size<=C:=by rw[hC];exact E2.out.sz
 rw[<- hC];clear hC HO E1 E2 c0' c1' c2' d0 d1 d2;rintro W3 ⟨e3,F3,om3⟩;have OM3:=zh om3;have E3:=zh e3;clear om3 e3;go_wp2;go_loopw [25] (fun i wr => ∃ (k:Nat) (F:List Nat),k<=n/\i = .int .i64 k/\Om W.heap.size wr C 0 (M.stepN x p k) F/\Ext W wr) (fun i _=>n - (RowKit.intOf i).toNat)
 case atStart=>exact⟨0,F3,Nat.zero_le _,rfl,OM3.out,E3.out⟩
 case round =>
  clear OM3 E3;obtain⟨k,F,hk,rfl,om,er⟩:=hrel;have OM:=zh om;have E:=zh er;clear om er;by_cases hkt:k < n
  ·go_wp2_with (go_at_call 42;refine(zG0 W.heap.size C 0 (M.stepN x p k) p q k F _ wr OM.out (HL.out.ext E.out) (M.stepN_fits hf hp k) hp (by omega) (by omega)).mono ?_;rintro e w5 ⟨rfl,F5,om5,ch5,sub5⟩;have OM5:=zh om5;have E5:=zh (ch5.ext E.out hWC OM.out.fge);clear om5 ch5 sub5)
   go_roundw
   case rel=>exact⟨k+1,F5,by omega,by go_num,OM5.out,E5.out⟩
   case measure=>simp[RowKit.intOf];omega
  ·obtain rfl:k=n:=by omega
   obtain⟨a5,c5,m0,m1,m2,ho5,hr5⟩:=OM.out.coreOs;have HO5:=zh ho5;clear ho5;have kB2:=HKB.out.ext E.out;have hBf:=kB2.fz;have hB2:=kB2.lt;obtain⟨r0,r1,r2⟩:=Bk.k3 kB2;clear kB2;go_wp2;refine bodyPost_ret (v:=.agg #[.slice a5 (M.stepN x p k).Cells.length c5,.int .i64 (M.stepN x p k).At,.bool (M.stepN x p k).Stopped]) (by simp[results,Tryz.results15,go_sem,r0,r1,r2]) rfl ⟨_,rfl,Rv.mkCore ((((HO5.out.setLow (p:=⟨w.heap.size+1,0,none⟩) hB _).setLow (p:=⟨w.heap.size+1,1,none⟩) hB _).setLow (p:=⟨w.heap.size+1,2,none⟩) hB _)).rs hr5,?_⟩
   exact(((HE.out.tr E.out).set (by simp) _).set (by simp) _).set (by simp) _
set_option maxHeartbeats 1000000
theorem M.pch_none{p:List Order}{c:Int}(hp:zBg p c=true)(h1:M.pch p c true = [])(h2:M.pch p c false = []):∀ o∈p,o.Op≠5/\o.Op≠6:=by
 have key:∀ s,M.pch p c s = []->∀ o∈p,o.Op≠M.sop s:=by
  intro s h o ho e;unfold M.pch at h;rw[if_pos hp] at h
  have:o.A∈M.chs (M.sop s) p:=List.mem_map.2 ⟨o,List.mem_filter.2 ⟨ho,by rw[e];exact beq_self_eq_true _⟩,rfl⟩
  have:=((M.compact_srt _).2 o.A).2 this
  rw[h] at this;cases this
 exact fun o ho=>⟨key true h1 o ho,key false h2 o ho⟩
theorem M.step_op{c:Core}{p:List Order}{t:Int}(hq:∀ o∈p,o.Op≠5/\o.Op≠6):(zBb c p t).2.Op≠5/\(zBb c p t).2.Op≠6:=by
 unfold zBb
 split
 ·show M.oz.Op≠5/\M.oz.Op≠6;exact⟨by decide,by decide⟩
 ·show(p.getD c.At.toNat M.oz).Op≠5/\(p.getD c.At.toNat M.oz).Op≠6
  rw[List.getD_eq_getElem?_getD];cases h:p[c.At.toNat]? with
  | none=>exact⟨by decide,by decide⟩
  | some o=>exact hq o (List.mem_of_getElem? h)
theorem M.own_zero(xs:List Slot)(n:Int):zEx xs n 0=0:=by
 unfold zEx;simp
theorem M.run_solo{m:Machine}(h:zDx m)(h0:m.Tick=0){k:Nat}{c:Core}{p:List Order}(hc:m.Cores[k]? = some c)(hp:m.Programs[k]? = some p)(hq:∀ o∈p,o.Op≠5/\o.Op≠6):∀ T:Nat,T<=100000->(zEy m T).Cores[k]? = some (M.stepN c p (zEx m.Plan.Slots k T).toNat):=by
 intro T
 induction T with
 | zero=>intro _;show m.Cores[k]? = _;rw[show((0:Nat):Int)=0 from rfl,M.own_zero];exact hc
 | succ T ih =>
  intro ht;have e:=ih (by omega)
  obtain⟨h1,h2,h3,h4,h5,h6⟩:=M.run_MV h T (by omega)
  have hs:=M.own_succ (zJ0.of h.ssv) (k:Int) (t:=(T:Int)) (by omega)
  rw[show((T+1:Nat):Int)=(T:Int)+1 by omega,hs]
  have hb:=(zI9 (xs:=m.Plan.Slots) (n:=(k:Int)) (t:=(T:Int)) (by omega)).1
  obtain⟨n,hn⟩:∃ n:Nat,zEx m.Plan.Slots k T=n:=⟨(zEx m.Plan.Slots k T).toNat,by omega⟩
  rw[hn] at e ⊢;rw[Int.toNat_natCast] at e;have htk:(zEy m T).Tick=(T:Int):=by rw[h2,h0];omega
  show(zB1 (zEy m T)).Cores[k]? = _
  by_cases hw:zBq m.Plan.Slots T=k
  ·rw[if_pos hw,show((n:Int)+1).toNat=n+1 by omega]
   unfold zB1;rw[h3,htk,hw,if_neg (by omega),Int.toNat_natCast]
   show((zEy m T).Cores.set k (zDg (zEy m T) k).1)[k]? = _
   rw[List.getElem?_set_self (by exact(List.getElem?_eq_some_iff.1 e).1)]
   have e1:zBn (zEy m T) k=zBb (M.stepN c p n) p n:=by
    unfold zBn;rw[h3,htk,h4,hn,List.getD_eq_getElem?_getD,e,List.getD_eq_getElem?_getD,hp];rfl
   have e2:=M.step_op (c:=M.stepN c p n) (t:=n) hq;unfold zDg;rw[e1];unfold zD7;rw[if_neg e2.1,if_neg e2.2]
   rfl
  ·rw[if_neg hw,Int.add_zero,Int.toNat_natCast,M.tick_other (by rw[h3,htk];exact hw)]
   exact e
end Sk
