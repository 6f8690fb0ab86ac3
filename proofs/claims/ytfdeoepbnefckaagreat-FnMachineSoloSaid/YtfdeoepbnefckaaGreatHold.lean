/- Contracts of functions of the given program. -/
import Derived.Test.YtfdeoepbnefckaaGreatOwnT
import Derived.Test.YtfdeoepbnefckaaGreatSetupS
import Derived.Test.YtfdeoepbnefckaaGreatMachV
namespace Sk
open Go Go.Proofs Go.RowKit
set_option maxHeartbeats 1500000
set_option maxRecDepth 100000
set_option linter.unusedVariables false
set_option linter.unusedSimpArgs false
theorem zB4(v:Value)(xs:List Int)(w:World)(h:Rs w v xs)(hn:xs.length<=100000000) :
  Calls Tryz.prog 57 #[v] w fun e w' => ∃ v',e = .returned v'/\Os w.heap.size w' v' xs/\Ext w w':=by
 obtain⟨F,hF⟩:=h;refine(zG4 v xs w F hF hn).mono ?_;rintro e w' ⟨v',F',rfl,ho,_,_,he⟩;exact⟨v',rfl,ho.flat,he⟩
def zBf(x:Hold)(k s m:Int):Hold × Int :=
 if k=1 then (⟨[m]⟩,0) else if (x.Lst.length:Int) < s then (⟨x.Lst ++ [m]⟩,0) else (x,zE8 (k == 3))
def zBc(x:Hold)(k:Int):Hold × Int :=
 match x.Lst with
 | []=>(x,-1)
 | m::rest=>if k=1 then (x,m) else (⟨rest⟩,m)
theorem M.send1{x:Hold}{k s m:Int}(h:k=1):zBf x k s m=(⟨[m]⟩,0):=if_pos h
theorem M.send2{x:Hold}{k s m:Int}(h:¬ k=1)(h2:(x.Lst.length:Int) < s):zBf x k s m=(⟨x.Lst ++ [m]⟩,0):=by unfold zBf;rw[if_neg h,if_pos h2]
theorem M.send3{x:Hold}{k s m:Int}(h:¬ k=1)(h2:¬ (x.Lst.length:Int) < s):zBf x k s m=(x,zE8 (k == 3)):=by unfold zBf;rw[if_neg h,if_neg h2]
theorem M.take0{x:Hold}{k:Int}(h:x.Lst = []):zBc x k=(x,-1):=by unfold zBc;rw[h]
theorem M.take1{x:Hold}{k m:Int}{r:List Int}(h:x.Lst=m::r)(hk:k=1):zBc x k=(x,m):=by unfold zBc;rw[h];exact if_pos hk
theorem M.take2{x:Hold}{k m:Int}{r:List Int}(h:x.Lst=m::r)(hk:¬ k=1):zBc x k=(⟨r⟩,m):=by unfold zBc;rw[h];exact if_neg hk
theorem Ov.hold{L:Nat}{w:World}{v:Value}{xs:List Int}(h:Os L w v xs):Ov L w (.agg #[v]) (⟨xs⟩:Hold):=by
 obtain⟨F,h,ho⟩:=h;exact⟨[v],F,rfl,⟨v,rfl,h⟩,ho⟩
theorem Ov.hold0(L:Nat)(w:World):Ov L w (.agg #[.slice none 0 0]) (⟨[]⟩:Hold):=Ov.hold ⟨[],⟨none,0,rfl,Nat.le_refl _,Nat.zero_le _,.inl ⟨rfl,rfl⟩⟩,Own.nil _ _⟩
theorem Os.lit1(w:World)(x:Int)(hr:rng x):Os w.heap.size (w.alloc (.cells #[.int .i64 x] 3)) (.slice (some ⟨w.heap.size,0,none⟩) 1 1) [x]:=by
 have h:=Oa.lit (α:=Int) 3 w [.int .i64 x] [x] (n:=1) rfl (by simp[GT.sz]) (by simp) (Row.lit1 (cs:=[_]) ⟨rfl,hr,rfl⟩) (fun k hk=>by cases hk)
 exact h.os (Own.nil _ _)
theorem Os.setLow{α:Type}[GT α]{L:Nat}{w:World}{v:Value}{xs:List α}(h:Os L w v xs){p:Addr}(hp:p.block < L)(u:Value):Os L (w.setCell p u) v xs:=by
 obtain⟨F,h1,h2⟩:=h;exact⟨F,h1.set (fun hm=>by have:=(h2.2 _ hm).1;omega) u,h2.set p u⟩
theorem zBv{w:World}{b o k j:Nat}{u:Value}(h:b≠k):(w.setCell ⟨k,j,none⟩ u).cell? ⟨b,o,none⟩=w.cell? ⟨b,o,none⟩:=World.cell?_of_block (zA8 h)
theorem zG1(v:Value)(x:Hold)(k s m:Int)(w:World)(h:Rv w v x)(hn:x.Lst.length<=1000)(hm:rng m) :
  Calls Tryz.prog 76 #[v,.int .i64 k,.int .i64 s,.int .i64 m] w fun e w' => ∃ v',e = .returned (.tuple #[v',.int .i64 (zBf x k s m).2])/\Ov w.heap.size w' v' (zBf x k s m).1/\Ext w w':=by
 obtain⟨a0,c0,rfl,hs,hl0⟩:=h.openHold;clear h;go_enter Tryz.func76,Tryz.ntmps76;go_upto_block 0 with (fail)
 refine zA2 (fun W=>Ext w W/\Bk W w.heap.size [.slice a0 x.Lst.length c0] 40/\Bk W (w.heap.size+1) [.slice none 0 0] 40) ⟨((zr _).alloc _).alloc _,(Bk.new _ _ _).ext ((zr _).alloc _),Bk.new1 _ _ _ _⟩ ?_
 rintro W ⟨e1,kA,kB⟩;have HE:=zh e1;have d0:=kA.cell (j:=0) rfl;have hA:=kA.lt;have HKB:=zh kB;have hB:=kB.lt;have r0:=kB.cell (j:=0) rfl;have hBf:=kB.fz;have hs2:=zh (hs.out.ext e1);have hsz:w.heap.size<=W.heap.size:=e1.sz;clear e1 kA kB hs;by_cases h1:k=1
 ·have hE:=zh (M.send1 (x:=x) (s:=s) (m:=m) h1);subst h1;obtain⟨V,hV⟩:∃ V:Value,V = .slice (some ⟨W.heap.size,0,none⟩) 1 1:=⟨_,rfl⟩;have hO:Hid (Os w.heap.size ((W.setCell ⟨w.heap.size+1,0,none⟩ V).alloc (.cells #[.int .i64 m] 3)) V [m]):=zh (by
   have h:=Os.lit1 (W.setCell ⟨w.heap.size+1,0,none⟩ V) m hm;rw[show(W.setCell ⟨w.heap.size+1,0,none⟩ V).heap.size=W.heap.size by simp,<- hV] at h
   exact h.mono hsz)
  have kz:=((HKB.out.set 0 V).alc (.cells #[.int .i64 m] 3)).cell (j:=0) rfl;have HX:Hid (Ext w ((W.setCell ⟨w.heap.size+1,0,none⟩ V).alloc (.cells #[.int .i64 m] 3))):=zh ((HE.out.set (by show w.heap.size<=w.heap.size+1;omega) _).alloc _)
  subst hV;go_wp2;refine bodyPost_ret (v:=.tuple #[.agg #[.slice (some ⟨W.heap.size,0,none⟩) 1 1],.int .i64 0]) (by simp[results,Tryz.results76,go_sem,kz]) rfl ⟨_,by rw[hE.out],by rw[hE.out];exact Ov.hold hO.out,HX.out⟩
 ·have h1':(k == 1)=false:=by simpa using h1
  by_cases h2:(x.Lst.length:Int) < s
  ·have hE:=zh (M.send2 (m:=m) h1 h2);have h2':decide ((x.Lst.length:Int) < s)=true:=decide_eq_true h2;clear h1 h2;have hXS:Hid (Rs ((W.alloc (.cells #[.int .i64 m] 3)).alloc (.cells #[.slice a0 x.Lst.length c0,.slice (some ⟨W.heap.size,0,none⟩) 1 1] 38)) (.slice (some ⟨W.heap.size+1,0,none⟩) 2 2) [x.Lst,[m]]):=zh (by
    obtain⟨F1,hF1⟩:=hs2.out;obtain⟨F2,hF2,_⟩:=Os.lit1 W m hm;refine⟨(W.heap.size+1)::(F1++(F2 ++ [])),some ⟨W.heap.size+1,0,none⟩,2,rfl,by simp,by simp[maxLen],.inr ⟨by simp,_,0,_,rfl,rfl,?_⟩⟩
    have hb:=Bk.new1 W (.cells #[.int .i64 m] 3) [.slice a0 x.Lst.length c0,.slice (some ⟨W.heap.size,0,none⟩) 1 1] 38;refine⟨[.slice a0 x.Lst.length c0],F1,_,⟨_,rfl,hF1.ext (((zr _).alloc _).alloc _)⟩,fun j u hj=>?_,rfl,[.slice (some ⟨W.heap.size,0,none⟩) 1 1],F2,[],⟨_,rfl,hF2.ext ((zr _).alloc _)⟩,fun j u hj=>?_,rfl,rfl⟩
    ·cases j with
     | zero=>cases hj;exact hb.cell (j:=0) rfl
     | succ j=>cases hj
    ·cases j with
     | zero=>cases hj;exact hb.cell (j:=1) rfl
     | succ j=>cases hj)
   have HX:=zGq _ [x.Lst,[m]] _ hXS.out (by simp) (by
    intro ys hy;rcases List.mem_cons.1 hy with rfl|hy
    ·exact hn
    ·rw[List.mem_singleton.1 hy];simp)
   rw[show [x.Lst,[m]].flatten=x.Lst ++ [m] by simp,show(x.Lst ++ [m]).length=x.Lst.length+1 by simp] at HX
   replace HX:=zh HX
   go_wp2_with (first
    | (go_at_call 107;refine HX.out.mono ?_;rintro e w2 ⟨a2,c2,rfl,ho,hc1,hc2,he⟩;have HO:=zh ho;have HC:=zh (And.intro hc1 hc2);have HE2:=zh ((((zr W).alloc _).alloc _).tr he);have kB2:=HKB.out.ext HE2.out;have hB2:=kB2.lt;have r2:=kB2.cell (j:=0) rfl;have hBf2:=kB2.fz;have HKB2:=zh kB2;have hL2:Hid (w.heap.size+1 < ((W.alloc (.cells #[.int .i64 m] 3)).alloc (.cells #[.slice a0 x.Lst.length c0,.slice (some ⟨W.heap.size,0,none⟩) 1 1] 38)).heap.size):=zh (by simp;omega);clear ho hc1 hc2 he kB2)
    | (go_at_call 38;refine(zCz _ (x.Lst ++ [m]) _ a2 c2 (by simp) (by simpa using HC.out.1) HC.out.2).mono ?_;rintro e w3 ⟨rfl,rfl⟩))
   have HO2:=zh ((HO.out.clip.setLow (p:=⟨w.heap.size+1,0,none⟩) hL2.out (.slice a2 (x.Lst.length+1) (x.Lst.length+1))).mono (show w.heap.size<=_ from Nat.le_of_lt (Nat.lt_of_succ_lt hL2.out)))
   have kz:=(HKB2.out.set 0 (.slice a2 (x.Lst.length+1) (x.Lst.length+1))).cell (j:=0) rfl;refine bodyPost_ret (v:=.tuple #[.agg #[.slice a2 (x.Lst.length+1) (x.Lst.length+1)],.int .i64 0]) (by simp[results,Tryz.results76,go_sem,kz]) rfl ⟨_,by rw[hE.out],by rw[hE.out];exact Ov.hold HO2.out,(HE.out.tr HE2.out).set (by show w.heap.size<=w.heap.size+1;omega) _⟩
  ·have hE:=zh (M.send3 (m:=m) h1 h2);have h2':decide ((x.Lst.length:Int) < s)=false:=decide_eq_false h2;clear h1 h2
   go_wp2_with (first
    | (go_at_call 57;refine(zB4 _ x.Lst _ hs2.out (by omega)).mono ?_;rintro e w2 ⟨v2,rfl,ho,he⟩;obtain⟨p2,q2,rfl,_⟩:=ho.form;have HO:=zh ho;have HE2:=zh he;have kB2:=HKB.out.ext he;have hB2:=kB2.lt;have r2:=kB2.cell (j:=0) rfl;have hBf2:=kB2.fz;have HKB2:=zh kB2;clear ho he kB2)
    | (go_at_call 108;refine(impl_bit _ _).mono ?_;rintro e w3 ⟨rfl,rfl⟩))
   have HO2:=zh ((HO.out.setLow (p:=⟨w.heap.size+1,0,none⟩) hB (.slice p2 x.Lst.length q2)).mono hsz);have kz:=(HKB2.out.set 0 (.slice p2 x.Lst.length q2)).cell (j:=0) rfl;refine bodyPost_ret (v:=.tuple #[.agg #[.slice p2 x.Lst.length q2],.int .i64 (zE8 (k == 3))]) (by simp[results,Tryz.results76,go_sem,kz]) rfl ⟨_,by rw[hE.out],by rw[hE.out];exact Ov.hold HO2.out,(HE.out.tr HE2.out).set (by show w.heap.size<=w.heap.size+1;omega) _⟩
theorem zG2(v:Value)(x:Hold)(k:Int)(w:World)(h:Rv w v x)(hn:x.Lst.length<=1000) :
  Calls Tryz.prog 75 #[v,.int .i64 k] w fun e w' => ∃ v',e = .returned (.tuple #[v',.int .i64 (zBc x k).2])/\Ov w.heap.size w' v' (zBc x k).1/\Ext w w':=by
 obtain⟨a0,c0,rfl,hs,hl0⟩:=h.openHold;clear h;obtain⟨L⟩:=x;simp only at hs hl0 hn;go_enter Tryz.func75,Tryz.ntmps75;go_upto_block 0 with (fail)
 refine zA2 (fun W=>Ext w W/\Bk W w.heap.size [.slice a0 L.length c0] 40/\Bk W (w.heap.size+1) [.slice none 0 0] 40) ⟨((zr _).alloc _).alloc _,(Bk.new _ _ _).ext ((zr _).alloc _),Bk.new1 _ _ _ _⟩ ?_
 rintro W ⟨e1,kA,kB⟩;have HE:=zh e1;have d0:=kA.cell (j:=0) rfl;have hA:=kA.lt;have HKB:=zh kB;have hB:=kB.lt;have r0:=kB.cell (j:=0) rfl;have hBf:=kB.fz;have hs2:=zh (hs.out.ext e1);have hsz:w.heap.size<=W.heap.size:=e1.sz;cases L with
 | nil =>
  clear e1 kA kB hs;have hE:=zh (M.take0 (x:=⟨[]⟩) (k:=k) rfl);go_wp2;refine bodyPost_ret (v:=.tuple #[.agg #[.slice none 0 0],.int .i64 (-1)]) (by simp[results,Tryz.results75,go_sem,r0]) rfl ⟨_,by rw[hE.out],by rw[hE.out];exact Ov.hold0 _ _,?_⟩
  exact HE.out.set (by show w.heap.size<=w.heap.size+1;omega) _
 | cons m rest =>
  rw[List.length_cons] at *;obtain⟨b,o,m',rfl,hb0,hm,hc,hr⟩:=hs.out.atInt 0 (by simp)
  obtain rfl:m=m':=by have:=hm.out;simpa using this
  rw[Nat.add_zero] at hc;have hb:b < W.heap.size:=by omega
  have hcw:=(zA0 e1 hb0).trans hc;have hbB:b≠w.heap.size+1:=by omega
  have hAB:w.heap.size≠w.heap.size+1:=by omega
  clear e1 kA kB hs hc;have hc:=hcw;clear hcw;by_cases h1:k=1
  ·have hE:=zh (M.take1 (x:=⟨m::rest⟩) rfl h1);subst h1;have hne:((rest.length:Int)+1 == 0)=false:=beq_eq_false_iff_ne.2 (by omega)
   go_upto_region 4 with (fail)
   go_region_held3 (fun u=>u.cell? ⟨w.heap.size,0,none⟩=some (.slice (some ⟨b,o,none⟩) (rest.length+1) c0)/\u.cell? ⟨b,o,none⟩=some (.int .i64 m))
    (first|exact⟨(zA0 HE2.out hA).trans d0,(zA0 HE2.out hb).trans hc⟩|exact⟨(zBv hAB).trans ((zA0 HE2.out hA).trans d0),(zBv hbB).trans ((zA0 HE2.out hb).trans hc)⟩|go_keep)
    (first|(go_at_call 57;refine(zB4 _ (m::rest) _ (hs2.out.ext (zr W).drew) (by simp;omega)).mono ?_;rintro e w2 ⟨v2,rfl,ho,he⟩;obtain⟨p2,q2,rfl,_⟩:=ho.form;have HO:=zh ho;have HE2:=zh ((zr W).drew.tr he);have kB2:=HKB.out.ext HE2.out;have hB2:=kB2.lt;have r2:=kB2.cell (j:=0) rfl;have hBf2:=kB2.fz;have HKB2:=zh kB2;clear ho he kB2))
   go_wp2;have HO2:=zh ((HO.out.setLow (p:=⟨w.heap.size+1,0,none⟩) (by simpa using hB) (.slice p2 (rest.length+1) q2)).mono (by simpa using hsz))
   have kz:=(HKB2.out.set 0 (.slice p2 (rest.length+1) q2)).cell (j:=0) rfl;refine bodyPost_ret (v:=.tuple #[.agg #[.slice p2 (rest.length+1) q2],.int .i64 m]) (by simp[results,Tryz.results75,go_sem,kz]) rfl ⟨_,by rw[hE.out],by rw[hE.out];exact Ov.hold HO2.out,(HE.out.tr HE2.out).set (by show w.heap.size<=w.heap.size+1;omega) _⟩
  ·have hE:=zh (M.take2 (x:=⟨m::rest⟩) rfl h1);have h1':(k == 1)=false:=by simpa using h1
   have hne:((rest.length:Int)+1 == 0)=false:=beq_eq_false_iff_ne.2 (by omega)
   have HT:=zh hs2.out.tailI;clear h1;go_upto_region 5 with (fail)
   by_cases hco:c0=1
   ·have hr0:rest.length=0:=by
     obtain⟨_,_,_,e,h1,_⟩:=hs2.out;cases e;simp at h1;omega
    obtain rfl:rest = []:=List.length_eq_zero_iff.1 hr0;have HN:Hid (Rs W.drew (.slice (some ⟨b,o,none⟩) 0 0) ([]:List Int)):=zh ⟨[],_,0,rfl,Nat.le_refl _,Nat.zero_le _,.inl ⟨rfl,rfl⟩⟩;subst hco;simp only[List.length_nil,Nat.zero_add] at *
    go_region_held3 (fun u=>u.cell? ⟨w.heap.size,0,none⟩=some (.slice (some ⟨b,o,none⟩) 1 1)/\u.cell? ⟨b,o,none⟩=some (.int .i64 m))
     (first|exact⟨(zA0 HE2.out hA).trans d0,(zA0 HE2.out hb).trans hc⟩|exact⟨(zBv hAB).trans ((zA0 HE2.out hA).trans d0),(zBv hbB).trans ((zA0 HE2.out hb).trans hc)⟩|go_keep)
     (first|(go_at_call 57;refine(zB4 _ [] _ (HN.out) (by simp)).mono ?_;rintro e w2 ⟨v2,rfl,ho,he⟩;obtain⟨p2,q2,rfl,_⟩:=ho.form;have HO:=zh ho;have HE2:=zh ((zr W).drew.tr he);have kB2:=HKB.out.ext HE2.out;have hB2:=kB2.lt;have r2:=kB2.cell (j:=0) rfl;have hBf2:=kB2.fz;have HKB2:=zh kB2;clear ho he kB2))
    go_wp2;have HO2:=zh ((HO.out.setLow (p:=⟨w.heap.size+1,0,none⟩) (by simpa using hB) (.slice p2 0 q2)).mono (by simpa using hsz))
    have kz:=(HKB2.out.set 0 (.slice p2 0 q2)).cell (j:=0) rfl;refine bodyPost_ret (v:=.tuple #[.agg #[.slice p2 0 q2],.int .i64 m]) (by simp[results,Tryz.results75,go_sem,kz]) rfl ⟨_,by rw[hE.out],by rw[hE.out];exact Ov.hold HO2.out,(HE.out.tr HE2.out).set (by show w.heap.size<=w.heap.size+1;omega) _⟩
   ·have hc1:1<=c0:=by
     obtain⟨_,_,_,e,h1,_⟩:=hs2.out;cases e;simp at h1;omega
    have hcI:(rest.length:Int)+1<=(c0:Int):=by
     obtain⟨_,_,_,e,h1,_⟩:=hs2.out;cases e;simp at h1;omega
    have hcN:rest.length+1<=c0:=by omega
    have hco2:¬ (c0 - 1=0):=by omega
    have hr1:(1:Int)<=(rest.length:Int)+1:=by omega
    have hr2:(0:Int)<=(rest.length:Int):=by omega
    go_region_held3 (fun u=>u.cell? ⟨w.heap.size,0,none⟩=some (.slice (some ⟨b,o,none⟩) (rest.length+1) c0)/\u.cell? ⟨b,o,none⟩=some (.int .i64 m))
     (first|exact⟨(zA0 HE2.out hA).trans d0,(zA0 HE2.out hb).trans hc⟩|exact⟨(zBv hAB).trans ((zA0 HE2.out hA).trans d0),(zBv hbB).trans ((zA0 HE2.out hb).trans hc)⟩|go_keep)
     (first|(go_at_call 57;refine(zB4 _ rest _ (by simpa using HT.out.ext (zr W).drew) (by omega)).mono ?_;rintro e w2 ⟨v2,rfl,ho,he⟩;obtain⟨p2,q2,rfl,_⟩:=ho.form;have HO:=zh ho;have HE2:=zh ((zr W).drew.tr he);have kB2:=HKB.out.ext HE2.out;have hB2:=kB2.lt;have r2:=kB2.cell (j:=0) rfl;have hBf2:=kB2.fz;have HKB2:=zh kB2;clear ho he kB2))
    go_wp2;have HO2:=zh ((HO.out.setLow (p:=⟨w.heap.size+1,0,none⟩) (by simpa using hB) (.slice p2 rest.length q2)).mono (by simpa using hsz))
    have kz:=(HKB2.out.set 0 (.slice p2 rest.length q2)).cell (j:=0) rfl;refine bodyPost_ret (v:=.tuple #[.agg #[.slice p2 rest.length q2],.int .i64 m]) (by simp[results,Tryz.results75,go_sem,kz]) rfl ⟨_,by rw[hE.out],by rw[hE.out];exact Ov.hold HO2.out,(HE.out.tr HE2.out).set (by show w.heap.size<=w.heap.size+1;omega) _⟩
set_option maxHeartbeats 4000000
theorem Bk.putsAux{b:Nat}{T:TypeId}(cs:List Value):∀ {w:World} (pre rest:List Value),Bk w b (pre++rest) T->cs.length=rest.length->Bk (zAq w b pre.length cs) b (pre++cs) T:=by
 induction cs with
 | nil=>intro w pre rest h hl;obtain rfl:rest = []:=List.length_eq_zero_iff.1 hl.symm;exact h
 | cons c cs ih =>
  intro w pre rest h hl;cases rest with
  | nil=>cases hl
  | cons r rest =>
   have h1:=h.set pre.length c;rw[List.set_append_right _ _ (Nat.le_refl _),Nat.sub_self,List.set_cons_zero] at h1;have h2:=ih (w:=w.setCell ⟨b,pre.length,none⟩ c) (pre ++ [c]) rest (by simpa using h1) (by simpa using hl)
   rw[List.length_append,List.length_singleton] at h2;rw[zAq]
   simpa using h2
theorem Bk.puts{w:World}{b:Nat}{cs0:List Value}{T:TypeId}(h:Bk w b cs0 T)(cs:List Value)(hl:cs.length=cs0.length):Bk (zAq w b 0 cs) b cs T:=by
 have:=Bk.putsAux cs (w:=w) [] cs0 h hl
 simpa using this
theorem Bk.puts_ne{w:World}{b c o:Nat}{cs ds:List Value}{T:TypeId}(h:Bk w b cs T)(hb:b≠c):Bk (zAq w c o ds) b cs T:=by
 unfold Bk at *;rw[zBh hb];exact h
theorem zD2{α:Type}[GT α]{w:World}{c o:Nat}{cs ds:List Value}{x : α}{F:List Nat}(h:GT.enc w cs x F)(hc:c ∉ F):GT.enc (zAq w c o ds) cs x F :=
 GT.keep h fun k hk=>zBh (fun e=>hc (e ▸ hk))
theorem Sl.puts{α:Type}[GT α]{w:World}{c o:Nat}{v:Value}{ds:List Value}{x:List α}{F:List Nat}(h:Sl w v x F)(hc:c ∉ F):Sl (zAq w c o ds) v x F :=
 h.keep fun k hk=>zBh (fun e=>hc (e ▸ hk))
theorem Bk.cellq{w:World}{b:Nat}{cs:List Value}{T:TypeId}(h:Bk w b cs T)(j:Nat):w.cell? ⟨b,j,none⟩=cs[j]?:=by
 unfold Bk at h;simp[World.cell?,h]
theorem Chg.one{b o:Nat}{F:List Nat}{a c:World}{cs:List Value}{T:TypeId}{v:Value}(h:Chg b o 1 F a c)(hb:Bk a b cs T)(ho:o < cs.length)(hv:c.cell? ⟨b,o,none⟩=some v):∃ T',Bk c b (cs.set o v) T':=by
 obtain⟨cs',T',hb'⟩:=h.fzk b ⟨_,_,hb⟩;have e:cs'=cs.set o v:=by
  apply List.ext_getElem?;intro j;rw[<- hb'.cellq j,List.getElem?_set];by_cases hj:o=j
  ·subst hj;rw[if_pos rfl,if_pos ho];exact hv
  ·rw[if_neg hj,h.cell (by omega)];exact hb.cellq j
 exact⟨T',e ▸ hb'⟩
theorem zGg{w:World}{m:Machine}{p0 p1 p2 v3 v4 v5:Value}{FP F3 F4 F5:List Nat}(hp:GT.enc w [p0,p1,p2] m.Plan FP)(h3:Sl w v3 m.Programs F3)(h4:Sl w v4 m.Cores F4)(h5:Sl w v5 m.Holds F5)(r:rng m.Tick):GT.enc w [p0,p1,p2,v3,v4,v5,.int .i64 m.Tick] m (FP++F3++F4++F5):=by
 obtain⟨v0,v1,v2,F0,F1,F2,e,s0,s1,s2,rfl⟩:=hp;simp only[List.cons.injEq] at e;obtain⟨rfl,rfl,rfl,_⟩:=e;exact⟨_,_,_,_,_,_,F0,F1,F2,F3,F4,F5,rfl,s0,s1,s2,h3,h4,h5,r,by simp[List.append_assoc]⟩
theorem Chg.enc{α:Type}[GT α]{b o n:Nat}{F G:List Nat}{a c:World}{cs:List Value}{x : α}(h:Chg b o n F a c)(hs:GT.enc a cs x G)(hb:b ∉ G)(hF:zAw G F):GT.enc c cs x G :=
 GT.keep hs fun k hk=>h.keep (GT.inh hs k hk) (fun e=>hb (e ▸ hk)) (fun hm=>hF k hk hm)
end Sk
