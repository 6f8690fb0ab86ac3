/- Contracts of functions of the given program, each under the condition that it states. -/
import Derived.Test.YtfbkkjihlncnhaaGreatChecked
import Derived.Deep.CutBlock
import Derived.Deep.CutRange
import Derived.Test.YtfbkkjihlncnhaaGreatVVModel
import Derived.Test.YtfbkkjihlncnhaaGreatCutC
import Derived.Test.YtfbkkjihlncnhaaGreatUARuns
import Derived.Test.YtfbkkjihlncnhaaGreatMix
namespace Sk
open Go Go.Proofs Go.RowKit
set_option maxHeartbeats 4000000
set_option maxRecDepth 100000
set_option linter.unusedVariables false
set_option linter.unusedSimpArgs false
theorem impl_seen (v:Value) (m:Machine) (n:Int) (w:World) (h:Rv w v m) :
  Calls Tryz.prog 67 #[v,.int .i64 n] w fun e w'=>e = .returned (.bool (M.seen m n))∧Ext w w':=by
 have H:=zh h
 obtain ⟨a0,c0,a1,c1,a2,c2,a3,c3,a4,c4,a5,c5,rfl,rt,h0,l0,h1,l1,h2,l2,h3,l3,h4,l4,h5,l5⟩:=h.openMachine
 clear h h0 h1 h2 h3 h4 h5
 go_enter Tryz.func67,Tryz.ntmps67
 go_upto_region 1 with (fail)
 refine abs_world (fun W=>Ext w W∧Bk W w.heap.size [.slice a0 m.Plan.Parts.length c0,.slice a1 m.Plan.Channels.length c1,.slice a2 m.Plan.Slots.length c2,.slice a3 m.Programs.length c3,.slice a4 m.Cores.length c4,.slice a5 m.Holds.length c5,.int .i64 m.Tick] 32) ⟨(Ext.refl _).alloc _,Bk.new _ _ _⟩ ?_
 rintro W ⟨e1,kA⟩
 have HE0:=zh e1
 obtain ⟨d0,d1,d2,d3,d4,d5,d6⟩:=Bk.k7 kA
 have KA:=zh kA
 clear e1 kA
 cases g:M.mv m
 ·go_wp2_with (go_at_call 22;refine (impl_MachineValid _ m _ (H.out.ext HE0.out)).mono ?_;rintro e w0 ⟨rfl,he⟩;rw [g];have E:=zh (HE0.out.tr he);have KAx:=KA.out.ext he;have ltA:=KAx.lt;obtain ⟨x0,x1,x2,x3,x4,x5,x6⟩:=Bk.k7 KAx;  clear he KAx)
  go_ret
  exact ⟨wp_cond_ret (by unfold M.seen;rw [g];rfl),E.out⟩
 cases g1:M.inn n 0 ((m.Cores.length:Int) - 1)
 all_goals
  go_wp2_with (first
   | (go_at_call 22;refine (impl_MachineValid _ m _ (H.out.ext HE0.out)).mono ?_;rintro e w0 ⟨rfl,he⟩;rw [g];have E:=zh (HE0.out.tr he);have KAx:=KA.out.ext he;have ltA:=KAx.lt;obtain ⟨x0,x1,x2,x3,x4,x5,x6⟩:=Bk.k7 KAx;  clear he KAx)
   | (go_at_call 55;refine (impl_in _ _ _ _).mono ?_;rintro e w9 ⟨rfl,rfl⟩;rw [g1]))
  go_ret
  exact ⟨wp_cond_ret (by unfold M.seen;rw [g,g1];rfl),E.out⟩
theorem impl_ViewOf (v:Value) (m:Machine) (n:Int) (w:World) (h:Rv w v m) :
  Calls Tryz.prog 25 #[v,.int .i64 n] w fun e w' => ∃ v',e = .returned v'∧Os w.heap.size w' v' (M.viewOf m n)∧Ext w w':=by
 have H:=zh h
 obtain ⟨a0,c0,a1,c1,a2,c2,a3,c3,a4,c4,a5,c5,rfl,rt,h0,l0,h1,l1,h2,l2,h3,l3,h4,l4,h5,l5⟩:=h.openMachine
 clear h h0 h1 h2 h3 h4 h5
 go_enter Tryz.func25,Tryz.ntmps25
 go_upto_region 1 with (fail)
 refine abs_world (fun W=>Ext w W∧Bk W w.heap.size [.slice a0 m.Plan.Parts.length c0,.slice a1 m.Plan.Channels.length c1,.slice a2 m.Plan.Slots.length c2,.slice a3 m.Programs.length c3,.slice a4 m.Cores.length c4,.slice a5 m.Holds.length c5,.int .i64 m.Tick] 32) ⟨(Ext.refl _).alloc _,Bk.new _ _ _⟩ ?_
 rintro W ⟨e1,kA⟩
 have HE0:=zh e1
 obtain ⟨d0,d1,d2,d3,d4,d5,d6⟩:=Bk.k7 kA
 have KA:=zh kA
 clear e1 kA
 cases g:M.seen m n
 ·go_wp2_with (go_at_call 67;refine (impl_seen _ m n _ (H.out.ext HE0.out)).mono ?_;rintro e w0 ⟨rfl,he⟩;rw [g];have E:=zh (HE0.out.tr he);have KAx:=KA.out.ext he;have ltA:=KAx.lt;obtain ⟨x0,x1,x2,x3,x4,x5,x6⟩:=Bk.k7 KAx;  clear he KAx)
  go_ret
  exact ⟨_,rfl,by rw [M.viewOf_f g];exact (Oo.nil (α:=Int) 3 _ _).os,E.out⟩
 obtain ⟨hmv,hn0,hn1⟩:=M.seen_iff.1 g
 obtain ⟨N,rfl⟩:∃ N:Nat,n=N:=⟨n.toNat,by omega⟩
 have HV:=zh hmv
 have hres:=zh (M.viewOf_t g)
 go_wp2_with (first
  | (go_at_call 67;refine (impl_seen _ m N _ (H.out.ext HE0.out)).mono ?_;rintro e w0 ⟨rfl,he⟩;rw [g];have E:=zh (HE0.out.tr he);have KAx:=KA.out.ext he;have ltA:=KAx.lt;obtain ⟨x0,x1,x2,x3,x4,x5,x6⟩:=Bk.k7 KAx;replace KA:=zh KAx;clear he KAx)
  | (go_at_call 68;refine (impl_view w.heap.size m N _ (Br.start H.out KA.out E.out (Nat.le_refl _)).bm HV.out (by omega)).mono ?_;rintro e w5 ⟨a5,rfl,ho,he⟩;have HO:=zh ho;have E5:=zh (E.out.tr he);have hs:=E.out.sz;clear ho he))
 go_ret
 exact ⟨_,rfl,by rw [hres.out];obtain ⟨F,hF,hw⟩:=HO.out;exact ⟨F,hF,hw.mono hs⟩,E5.out⟩
theorem M.mix_rg (k:Int) (xs:List Int) (h0:0≤k) (h1:k≤1048572):rng (M.mix k xs):=by
 have:0≤M.mix k xs∧M.mix k xs≤1048572:=by
  unfold M.mix
  induction xs generalizing k with
  | nil=>exact ⟨h0,h1⟩
  | cons x xs ih=>exact ih (M.mix1 k x) (M.mix1_rng k x).1 (M.mix1_rng k x).2
 exact ⟨by omega,by omega⟩
def M.traceN (m:Machine) (n:Nat):Nat→List Int
 | 0 => []
 | k+1=>M.traceN m n k ++ [M.mix 7 (M.viewN (M.run m (k+1)) n)]
theorem M.traceN_len (m:Machine) (n:Nat):∀ k,(M.traceN m n k).length=k:=by
 intro k
 induction k with
 | zero=>rfl
 | succ k ih=>unfold M.traceN;rw [List.length_append,ih];rfl
theorem M.traceN_rng (m:Machine) (n:Nat):∀ k,∀ x∈M.traceN m n k,rng x:=by
 intro k
 induction k with
 | zero=>intro x hx;cases hx
 | succ k ih =>
  intro x hx
  unfold M.traceN at hx
  rcases List.mem_append.1 hx with h | h
  ·exact ih x h
  ·rw [List.mem_singleton.1 h]
   exact M.mix_rg 7 _ (by decide) (by decide)
noncomputable def M.viewTrace (m:Machine) (n t:Int):List Int:=if M.seen m n=true∧M.runs m t 200=true then M.traceN m n.toNat t.toNat else []
theorem M.viewTrace_f1 {m:Machine} {n t:Int} (h:M.seen m n=false):M.viewTrace m n t = []:=if_neg (fun k=>by rw [h] at k;cases k.1)
theorem M.viewTrace_f2 {m:Machine} {n t:Int} (h:M.runs m t 200=false):M.viewTrace m n t = []:=if_neg (fun k=>by rw [h] at k;cases k.2)
theorem M.viewTrace_t {m:Machine} {n t:Nat} (h:M.seen m n=true) (h2:M.runs m t 200=true):M.viewTrace m n t=M.traceN m n t:=if_pos ⟨h,h2⟩
def Bi (w:World) (g:Nat) (xs:List Int):Prop:=Bk w g (xs.map (Value.int .i64)) 3
theorem Bi.row {w:World} {g:Nat} (xs:List Int):∀ (o:Nat),(∀ x∈xs,rng x)→(∀ j x,xs[j]? = some x→w.cell? ⟨g,o+j,none⟩=some (.int .i64 x))→Row w g o xs []:=by
 induction xs with
 | nil=>intro o _ _;rfl
 | cons x xs ih =>
  intro o hr h
  refine ⟨[.int .i64 x],[],[],⟨rfl,hr x (List.mem_cons_self ..),rfl⟩,fun j u hj=>?_,rfl,ih (o+1) (fun y hy=>hr y (List.mem_cons_of_mem _ hy)) (fun j y hj=>?_)⟩
  ·match j,hj with
   | 0,hj=>cases hj;exact h 0 x rfl
  ·have:=h (j+1) y hj
   rwa [show o+(j+1)=o+1+j by omega] at this
theorem Bi.os {L:Nat} {w:World} {g:Nat} {xs:List Int} (h:Bi w g xs) (hL:L≤g) (hr:∀ x∈xs,rng x) (hl:xs.length≤9223372036854775807):Os L w (.slice (some ⟨g,0,none⟩) xs.length xs.length) xs:=by
 by_cases hx:xs = []
 ·subst hx
  exact ⟨[],⟨_,0,rfl,Nat.le_refl _,Nat.zero_le _,.inl ⟨rfl,rfl⟩⟩,Own.nil _ _⟩
 ·refine ⟨[g],⟨_,xs.length,rfl,Nat.le_refl _,by simpa [maxLen] using hl,.inr ⟨hx,g,0,[],rfl,rfl,Bi.row xs 0 hr fun j x hj=>?_⟩⟩,by simp,fun k hk=>?_⟩
  ·rw [Nat.zero_add]
   unfold Bi at h
   exact h.cell (by rw [List.getElem?_map,hj];rfl)
  ·obtain rfl:=List.mem_singleton.1 hk
   exact ⟨hL,_,_,h⟩
theorem Bi.set {w:World} {g:Nat} {xs:List Int} (h:Bi w g xs) (k:Nat) (z:Int):Bi (w.setCell ⟨g,k,none⟩ (.int .i64 z)) g (xs.set k z):=by
 unfold Bi at *
 have:=h.set k (.int .i64 z)
 rwa [List.map_set]
theorem Om.setO {α:Type} [GT α] {L:Nat} {w:World} {b o:Nat} {x : α} {F:List Nat} (h:Om L w b o x F) {p:Addr} (hp:p.block < L) (u:Value):Om L (w.setCell p u) b o x F:=by
 obtain ⟨cs,h1,h2,h3⟩:=h
 have hne:∀ k∈b :: F,k≠p.block:=fun k hk e=>by have:=(h3.2 k hk).1;omega
 exact ⟨cs,GT.keep h1 (fun k hk=>heap_set_ne (hne k (List.mem_cons_of_mem _ hk))),h2.keep (heap_set_ne (hne b (List.mem_cons_self ..))),h3.set p u⟩
theorem Om.ge {α:Type} [GT α] {L:Nat} {w:World} {b o:Nat} {x : α} {F:List Nat} (h:Om L w b o x F):L≤b∧∀ k∈F,L≤k:=by
 obtain ⟨cs,h1,h2,h3⟩:=h
 exact ⟨(h3.2 b (List.mem_cons_self ..)).1,fun k hk=>(h3.2 k (List.mem_cons_of_mem _ hk)).1⟩
theorem Bi.ext {w w':World} {g:Nat} {xs:List Int} (h:Bi w g xs) (he:Ext w w'):Bi w' g xs:=Bk.ext h he
theorem impl_ViewTrace (v:Value) (m:Machine) (n t:Int) (w:World) (h:Rv w v m) :
  Calls Tryz.prog 46 #[v,.int .i64 n,.int .i64 t] w fun e w' => ∃ v',e = .returned v'∧Os w.heap.size w' v' (M.viewTrace m n t)∧Ext w w':=by
 have H:=zh h
 obtain ⟨a0,c0,a1,c1,a2,c2,a3,c3,a4,c4,a5,c5,rfl,rt,h0,l0,h1,l1,h2,l2,h3,l3,h4,l4,h5,l5⟩:=h.openMachine
 clear h h0 h1 h2 h3 h4 h5
 go_enter Tryz.func46,Tryz.ntmps46
 go_upto_region 1 with (fail)
 refine abs_world (fun W=>Ext w W∧Bk W w.heap.size [.slice a0 m.Plan.Parts.length c0,.slice a1 m.Plan.Channels.length c1,.slice a2 m.Plan.Slots.length c2,.slice a3 m.Programs.length c3,.slice a4 m.Cores.length c4,.slice a5 m.Holds.length c5,.int .i64 m.Tick] 32) ⟨(Ext.refl _).alloc _,Bk.new _ _ _⟩ ?_
 rintro W ⟨e1,kA⟩
 have HE0:=zh e1
 obtain ⟨d0,d1,d2,d3,d4,d5,d6⟩:=Bk.k7 kA
 have KA:=zh kA
 clear e1 kA
 cases g:M.seen m n
 ·go_wp2_with (go_at_call 67;refine (impl_seen _ m n _ (H.out.ext HE0.out)).mono ?_;rintro e w0 ⟨rfl,he⟩;rw [g];have E:=zh (HE0.out.tr he);have KAx:=KA.out.ext he;have ltA:=KAx.lt;obtain ⟨x0,x1,x2,x3,x4,x5,x6⟩:=Bk.k7 KAx;  clear he KAx)
  go_ret
  exact ⟨_,rfl,by rw [M.viewTrace_f1 g];exact (Oo.nil (α:=Int) 3 _ _).os,E.out⟩
 have RUN2:=zh (fun (u:World) (hE:Ext w u)=>impl_runs _ m t 200 u (H.out.ext hE) (by decide))
 cases g1:M.runs m t 200
 ·go_wp2_with (first
   | (go_at_call 67;refine (impl_seen _ m n _ (H.out.ext HE0.out)).mono ?_;rintro e w0 ⟨rfl,he⟩;rw [g];have E:=zh (HE0.out.tr he);have KAx:=KA.out.ext he;have ltA:=KAx.lt;obtain ⟨x0,x1,x2,x3,x4,x5,x6⟩:=Bk.k7 KAx;replace KA:=zh KAx;clear he KAx)
   | (go_at_call 82;refine (RUN2.out _ E.out).mono ?_;rintro e w1 ⟨rfl,he⟩;rw [g1];replace E:=zh (E.out.tr he);clear he))
  go_ret
  exact ⟨_,rfl,by rw [M.viewTrace_f2 g1];exact (Oo.nil (α:=Int) 3 _ _).os,E.out⟩
 obtain ⟨hmv,hn0,hn1⟩:=M.seen_iff.1 g
 obtain ⟨_,⟨ht0,ht4⟩,hT⟩:=M.runs_iff.1 g1
 obtain ⟨N,rfl⟩:∃ N:Nat,n=N:=⟨n.toNat,by omega⟩
 obtain ⟨T,rfl⟩:∃ T:Nat,t=T:=⟨t.toNat,by omega⟩
 have htk:=hmv.tick
 have htot:GT.tot m≤1048576:=Nat.le_trans (M.mv_tot hmv) (by omega)
 have HV:=zh hmv
 have hres:=zh (M.viewTrace_t g g1)
 have hNl:N < m.Cores.length:=by omega
 have hmk:∀ u:World,(Instr.makeSlice 39 (.int .i64 T) (.int .i64 T)).run Tryz.prog u = .ok (.slice (some ⟨u.heap.size,0,none⟩) T T) (u.alloc (.cells (madeCells #[.int .i64 0] (T * 1)) 3)):=make_int T (by omega)
 clear hn0 hn1
 go_upto_region 4 with (first
  | (go_at_call 67;refine (impl_seen _ m N _ (H.out.ext HE0.out)).mono ?_;rintro e w0 ⟨rfl,he⟩;rw [g];have E:=zh (HE0.out.tr he);have KAx:=KA.out.ext he;have ltA:=KAx.lt;obtain ⟨x0,x1,x2,x3,x4,x5,x6⟩:=Bk.k7 KAx;replace KA:=zh KAx;clear he KAx)
  | (go_at_call 82;refine (RUN2.out _ E.out).mono ?_;rintro e w1 ⟨rfl,he⟩;rw [g1];replace E:=zh (E.out.tr he);replace KA:=zh (KA.out.ext he);clear he))
 clear hmk
 refine abs_world (fun W=>Ext w1 W∧Bi W w1.heap.size (List.replicate T 0)) ⟨(Ext.refl _).alloc _,by have:=Bk.new w1 (List.replicate T (.int .i64 0)) 3;unfold Bi;rw [List.map_replicate];rw [← made_int] at this;simpa using this⟩ ?_
 rintro w2 ⟨e2,bi⟩
 have HBI:=zh bi
 have hs01:=E.out.sz
 have hs12:=e2.sz
 have ltG:w1.heap.size < w2.heap.size:=Bk.lt bi
 have E2:=zh (E.out.tr e2)
 obtain ⟨y0,y1,y2,y3,y4,y5,y6⟩:=Bk.k7 (KA.out.ext e2)
 have ltA2:=(KA.out.ext e2).lt
 clear e2 bi KA HE0
 go_upto_region 5 with (go_at_call 56;refine (impl_copyOf_Machine _ m _ (H.out.ext E2.out) htot).mono ?_;rintro e w5 ⟨v5,rfl,hov,ex⟩;obtain ⟨cs5,F5,rfl,hen,how⟩:=hov;obtain ⟨v0,v1,v2,v3,v4,v5,G0,G1,G2,G3,G4,G5,rfl,⟨t0,u0,rfl,_⟩,⟨t1,u1,rfl,_⟩,⟨t2,u2,rfl,_⟩,⟨t3,u3,rfl,_⟩,⟨t4,u4,rfl,_⟩,⟨t5,u5,rfl,_⟩,_,_⟩:=id hen;have HEN:=zh hen;have HOW:=zh how;have EX:=zh ex;clear hen how ex)
 refine abs_world (fun W6=>Ext w5 W6∧Bk W6 w5.heap.size [.slice t0 m.Plan.Parts.length u0,.slice t1 m.Plan.Channels.length u1,.slice t2 m.Plan.Slots.length u2,.slice t3 m.Programs.length u3,.slice t4 m.Cores.length u4,.slice t5 m.Holds.length u5,.int .i64 m.Tick] 32) ⟨(Ext.refl _).alloc _,Bk.new _ _ _⟩ ?_
 rintro W6 ⟨E6,K6⟩
 have hs05:=EX.out.sz
 have hw0:=E2.out.sz
 have om:Om w2.heap.size W6 w5.heap.size 0 m F5:=⟨_,GT.ext HEN.out E6,fun j u hj=>by rw [Nat.zero_add];exact K6.cell hj,List.nodup_cons.2 ⟨fun hm=>Nat.lt_irrefl _ (HOW.out.lt hm),HOW.out.1⟩,fun k hk=>by
  rcases List.mem_cons.1 hk with rfl | hk
  ·exact ⟨hs05,⟨_,_,K6⟩⟩
  ·exact ⟨(HOW.out.2 k hk).1,((HOW.out.2 k hk).2).ext E6⟩⟩
 have E7:=zh ((E2.out.tr EX.out).tr E6)
 have HBI6:=zh ((HBI.out.ext EX.out).ext E6)
 have HF:Hid (∀ x∈F5,w2.heap.size≤x):=zh (fun x hx=>(HOW.out.2 x hx).1)
 have hs6:=E6.sz
 have OM0:=zh om
 have hle6:w2.heap.size≤W6.heap.size:=by omega
 have hw2:w.heap.size≤w2.heap.size:=by omega
 clear om K6 E6 hmv HEN HOW EX E2 E HBI HF
 generalize w5.heap.size=B at *
 go_wp2
 go_loopw [26] (fun i wr => ∃ (k:Nat) (Fk:List Nat),k≤T∧i = .int .i64 k∧Om w2.heap.size wr B 0 (M.run m k) Fk∧Ext w wr∧Bi wr w1.heap.size (M.traceN m N k ++ List.replicate (T - k) 0)) (fun i _=>T - (intOf i).toNat)
 case atStart=>exact ⟨0,F5,Nat.zero_le _,rfl,OM0.out,E7.out,by simpa [M.traceN] using HBI6.out⟩
 case round =>
  obtain ⟨k,Fk,hk,rfl,om,er,bi⟩:=hrel
  have OM:=zh om
  have ER:=zh er
  have BI:=zh bi
  have HG:=zh om.ge
  clear om er bi
  by_cases hkt:k < T
  ·have hrv:=M.run_MV HV.out k (by omega)
   have hrv1:=M.run_MV HV.out (k+1) (by omega)
   have HR:=zh (impl_tick w2.heap.size B (M.run m k) Fk wr OM.out (by have:=OM.out.bk.1;have:=HG.out.1;omega) hrv.1 (by rw [hrv.2.1];omega))
   have HV1:=zh hrv1.1
   have hN1:N < (M.run m (k+1)).Cores.length:=by rw [hrv1.2.2.2.2.1];exact hNl
   have hset:Hid ((M.traceN m N k ++ List.replicate (T - k) 0).set k (M.mix 7 (M.viewN (M.run m (k+1)) N))=M.traceN m N (k+1) ++ List.replicate (T - (k+1)) 0):=zh (set_fill _ _ _ _ _ hkt (M.traceN_len m N k))
   have hget:(M.traceN m N k ++ List.replicate (T - k) 0)[k]? = some 0:=by
    rw [List.getElem?_append_right (by rw [M.traceN_len];omega),M.traceN_len,Nat.sub_self,List.getElem?_replicate,if_pos (by omega)]
   have HGET:=zh hget
   clear hrv hrv1 hget
   go_wp2_with (first
    | (go_at_call 83;go_loud (refine HR.out.mono ?_;rintro e w7 ⟨rfl,F7,t7⟩;have OM7:=zh (show Om w2.heap.size w7 B 0 (M.run m (k+1)) F7 from t7.om);have ER7:=zh (t7.ch.ext ER.out (Nat.le_trans hw2 HG.out.1) (fun x hx=>Nat.le_trans hw2 (HG.out.2 x hx)));have BI7:=zh (show Bi w7 w1.heap.size _ from t7.ch.bk BI.out (fun e=>by have:=HG.out.1;omega) (fun hx=>by have:=HG.out.2 _ hx;omega));clear t7))
    | (go_at_call 68;refine (impl_view B (M.run m (k+1)) N _ OM7.out.bm HV1.out hN1).mono ?_;rintro e w8 ⟨a8,rfl,ho,he⟩;have HO8:=zh ho.rs;have OM8:=zh (OM7.out.ext he);have ER8:=zh (ER7.out.tr he);have bx:=BI7.out.ext he;have c8:=Bk.cell (j:=k) bx (by rw [List.getElem?_map,HGET.out];rfl);have f8:=Bk.fz bx;have lt8:=Bk.lt bx;have BI8:=zh bx;clear ho he bx)
    | (go_at_call 48;refine (impl_MixNumbers _ (M.viewN (M.run m (k+1)) N) 7 _ HO8.out (by decide) (by decide)).mono ?_;rintro e w9 ⟨rfl,rfl⟩))
   go_roundw
   case rel =>
    have bi9:=BI8.out.set k (M.mix 7 (M.viewN (M.run m (k+1)) N))
    rw [hset.out] at bi9
    exact ⟨k+1,F7,by omega,by go_num,OM8.out.setO ltG _,ER8.out.set hs01 _,bi9⟩
   case measure=>simp [intOf];omega
  ·obtain rfl:k=T:=by omega
   have HO:Hid (Os w.heap.size wr (.slice (some ⟨w1.heap.size,0,none⟩) k k) (M.traceN m N k)):=zh (by
    have h:=BI.out
    rw [Nat.sub_self,List.replicate_zero,List.append_nil] at h
    have:=h.os hs01 (M.traceN_rng m N k) (by rw [M.traceN_len];omega)
    rwa [M.traceN_len] at this)
   go_wp2
   go_ret
   exact ⟨_,rfl,by rw [hres.out];exact HO.out,ER.out⟩
end Sk
