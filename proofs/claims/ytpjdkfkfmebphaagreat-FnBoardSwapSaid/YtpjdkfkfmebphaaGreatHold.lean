/- Contracts of functions of the given program. -/
import Derived.Test.YtpjdkfkfmebphaaGreatOwnT
import Derived.Test.YtpjdkfkfmebphaaGreatMachV
import Derived.Test.YtpjdkfkfmebphaaGreatSetupS
namespace Sk
open Go Go.Proofs Go.RowKit
set_option maxHeartbeats 1500000
set_option maxRecDepth 100000
set_option linter.unusedVariables false
set_option linter.unusedSimpArgs false
theorem zBu(v:Value)(xs:List Int)(w:World)(h:Rs w v xs)(hn:xs.length<=100000000) :
  Calls Tryz.prog 56 #[v] w fun e w' => ∃ v',e = .returned v'/\Os w.heap.size w' v' xs/\Ext w w':=by
 obtain⟨F,hF⟩:=h;refine(zKj v xs w F hF hn).mono ?_;rintro e w' ⟨v',F',rfl,ho,_,_,he⟩;exact⟨v',rfl,ho.flat,he⟩
def zBx(x:Hold)(k s m:Int):Hold × Int :=
 if k=1 then (⟨[m]⟩,0) else if (x.Lst.length:Int) < s then (⟨x.Lst ++ [m]⟩,0) else (x,zCv (k == 3))
def zBm(x:Hold)(k:Int):Hold × Int :=
 match x.Lst with
 | []=>(x,-1)
 | m::rest=>if k=1 then (x,m) else (⟨rest⟩,m)
theorem zP1{x:Hold}{k s m:Int}(h:k=1):zBx x k s m=(⟨[m]⟩,0):=if_pos h
theorem zP2{x:Hold}{k s m:Int}(h:¬ k=1)(h2:(x.Lst.length:Int) < s):zBx x k s m=(⟨x.Lst ++ [m]⟩,0):=by unfold zBx;rw[if_neg h,if_pos h2]
theorem zP3{x:Hold}{k s m:Int}(h:¬ k=1)(h2:¬ (x.Lst.length:Int) < s):zBx x k s m=(x,zCv (k == 3)):=by unfold zBx;rw[if_neg h,if_neg h2]
theorem zP9{x:Hold}{k:Int}(h:x.Lst = []):zBm x k=(x,-1):=by unfold zBm;rw[h]
theorem zPa{x:Hold}{k m:Int}{r:List Int}(h:x.Lst=m::r)(hk:k=1):zBm x k=(x,m):=by unfold zBm;rw[h];exact if_pos hk
theorem zPb{x:Hold}{k m:Int}{r:List Int}(h:x.Lst=m::r)(hk:¬ k=1):zBm x k=(⟨r⟩,m):=by unfold zBm;rw[h];exact if_neg hk
theorem Ov.hold{L:Nat}{w:World}{v:Value}{xs:List Int}(h:Os L w v xs):Ov L w (.agg #[v]) (⟨xs⟩:Hold):=by
 obtain⟨F,h,ho⟩:=h;exact⟨[v],F,rfl,⟨v,rfl,h⟩,ho⟩
theorem Ov.hold0(L:Nat)(w:World):Ov L w (.agg #[.slice none 0 0]) (⟨[]⟩:Hold):=Ov.hold ⟨[],⟨none,0,rfl,Nat.le_refl _,Nat.zero_le _,.inl ⟨rfl,rfl⟩⟩,Own.nil _ _⟩
theorem Os.lit1(w:World)(x:Int)(hr:rng x):Os w.heap.size (w.alloc (.cells #[.int .i64 x] 3)) (.slice (some ⟨w.heap.size,0,none⟩) 1 1) [x]:=by
 have h:=Oa.lit (α:=Int) 3 w [.int .i64 x] [x] (n:=1) rfl (by simp[GT.sz]) (by simp) (Row.lit1 (cs:=[_]) ⟨rfl,hr,rfl⟩) (fun k hk=>by cases hk)
 exact h.os (Own.nil _ _)
theorem Os.setLow{α:Type}[GT α]{L:Nat}{w:World}{v:Value}{xs:List α}(h:Os L w v xs){p:Addr}(hp:p.block < L)(u:Value):Os L (w.setCell p u) v xs:=by
 obtain⟨F,h1,h2⟩:=h;exact⟨F,h1.set (fun hm=>by have:=(h2.2 _ hm).1;omega) u,h2.set p u⟩
theorem zB5{w:World}{b o k j:Nat}{u:Value}(h:b≠k):(w.setCell ⟨k,j,none⟩ u).cell? ⟨b,o,none⟩=w.cell? ⟨b,o,none⟩:=World.cell?_of_block (zA3 h)
theorem zKg(v:Value)(x:Hold)(k s m:Int)(w:World)(h:Rv w v x)(hn:x.Lst.length<=1000)(hm:rng m) :
  Calls Tryz.prog 79 #[v,.int .i64 k,.int .i64 s,.int .i64 m] w fun e w' => ∃ v',e = .returned (.tuple #[v',.int .i64 (zBx x k s m).2])/\Ov w.heap.size w' v' (zBx x k s m).1/\Ext w w':=by
 obtain⟨a0,c0,rfl,hs,hl0⟩:=h.openHold;clear h;go_enter Tryz.func79,Tryz.ntmps79;go_upto_block 0 with (fail)
 refine zA1 (fun W=>Ext w W/\Bk W w.heap.size [.slice a0 x.Lst.length c0] 69/\Bk W (w.heap.size+1) [.slice none 0 0] 69) ⟨((zr _).alloc _).alloc _,(Bk.new _ _ _).ext ((zr _).alloc _),Bk.new1 _ _ _ _⟩ ?_
 rintro W ⟨e1,kA,kB⟩;have HE:=zh e1;have d0:=kA.cell (j:=0) rfl;have hA:=kA.lt;have HKB:=zh kB;have hB:=kB.lt;have r0:=kB.cell (j:=0) rfl;have hBf:=kB.fz;have hs2:=zh (hs.out.ext e1);have hsz:w.heap.size<=W.heap.size:=e1.sz;clear e1 kA kB hs;by_cases h1:k=1
 ·have hE:=zh (zP1 (x:=x) (s:=s) (m:=m) h1);subst h1;obtain⟨V,hV⟩:∃ V:Value,V = .slice (some ⟨W.heap.size,0,none⟩) 1 1:=⟨_,rfl⟩;have hO:Hid (Os w.heap.size ((W.setCell ⟨w.heap.size+1,0,none⟩ V).alloc (.cells #[.int .i64 m] 3)) V [m]):=zh (by
   have h:=Os.lit1 (W.setCell ⟨w.heap.size+1,0,none⟩ V) m hm;rw[show(W.setCell ⟨w.heap.size+1,0,none⟩ V).heap.size=W.heap.size by simp,<- hV] at h
   exact h.mono hsz)
  have kz:=((HKB.out.set 0 V).alc (.cells #[.int .i64 m] 3)).cell (j:=0) rfl;have HX:Hid (Ext w ((W.setCell ⟨w.heap.size+1,0,none⟩ V).alloc (.cells #[.int .i64 m] 3))):=zh ((HE.out.set (by show w.heap.size<=w.heap.size+1;omega) _).alloc _)
  subst hV;go_wp2;refine bodyPost_ret (v:=.tuple #[.agg #[.slice (some ⟨W.heap.size,0,none⟩) 1 1],.int .i64 0]) (by simp[results,Tryz.results79,go_sem,kz]) rfl ⟨_,by rw[hE.out],by rw[hE.out];exact Ov.hold hO.out,HX.out⟩
 ·have h1':(k == 1)=false:=by simpa using h1
  by_cases h2:(x.Lst.length:Int) < s
  ·have hE:=zh (zP2 (m:=m) h1 h2);have h2':decide ((x.Lst.length:Int) < s)=true:=decide_eq_true h2;clear h1 h2;have hXS:Hid (Rs ((W.alloc (.cells #[.int .i64 m] 3)).alloc (.cells #[.slice a0 x.Lst.length c0,.slice (some ⟨W.heap.size,0,none⟩) 1 1] 41)) (.slice (some ⟨W.heap.size+1,0,none⟩) 2 2) [x.Lst,[m]]):=zh (by
    obtain⟨F1,hF1⟩:=hs2.out;obtain⟨F2,hF2,_⟩:=Os.lit1 W m hm;refine⟨(W.heap.size+1)::(F1++(F2 ++ [])),some ⟨W.heap.size+1,0,none⟩,2,rfl,by simp,by simp[maxLen],.inr ⟨by simp,_,0,_,rfl,rfl,?_⟩⟩
    have hb:=Bk.new1 W (.cells #[.int .i64 m] 3) [.slice a0 x.Lst.length c0,.slice (some ⟨W.heap.size,0,none⟩) 1 1] 41;refine⟨[.slice a0 x.Lst.length c0],F1,_,⟨_,rfl,hF1.ext (((zr _).alloc _).alloc _)⟩,fun j u hj=>?_,rfl,[.slice (some ⟨W.heap.size,0,none⟩) 1 1],F2,[],⟨_,rfl,hF2.ext ((zr _).alloc _)⟩,fun j u hj=>?_,rfl,rfl⟩
    ·cases j with
     | zero=>cases hj;exact hb.cell (j:=0) rfl
     | succ j=>cases hj
    ·cases j with
     | zero=>cases hj;exact hb.cell (j:=1) rfl
     | succ j=>cases hj)
   have HX:=zLs _ [x.Lst,[m]] _ hXS.out (by simp) (by
    intro ys hy;rcases List.mem_cons.1 hy with rfl|hy
    ·exact hn
    ·rw[List.mem_singleton.1 hy];simp)
   rw[show [x.Lst,[m]].flatten=x.Lst ++ [m] by simp,show(x.Lst ++ [m]).length=x.Lst.length+1 by simp] at HX
   replace HX:=zh HX
   go_wp2_with (first
    | (go_at_call 81;refine HX.out.mono ?_;rintro e w2 ⟨a2,c2,rfl,ho,hc1,hc2,he⟩;have HO:=zh ho;have HC:=zh (And.intro hc1 hc2);have HE2:=zh ((((zr W).alloc _).alloc _).tr he);have kB2:=HKB.out.ext HE2.out;have hB2:=kB2.lt;have r2:=kB2.cell (j:=0) rfl;have hBf2:=kB2.fz;have HKB2:=zh kB2;have hL2:Hid (w.heap.size+1 < ((W.alloc (.cells #[.int .i64 m] 3)).alloc (.cells #[.slice a0 x.Lst.length c0,.slice (some ⟨W.heap.size,0,none⟩) 1 1] 41)).heap.size):=zh (by simp;omega);clear ho hc1 hc2 he kB2)
    | (go_at_call 74;refine(zCs _ (x.Lst ++ [m]) _ a2 c2 (by simp) (by simpa using HC.out.1) HC.out.2).mono ?_;rintro e w3 ⟨rfl,rfl⟩))
   have HO2:=zh ((HO.out.clip.setLow (p:=⟨w.heap.size+1,0,none⟩) hL2.out (.slice a2 (x.Lst.length+1) (x.Lst.length+1))).mono (show w.heap.size<=_ from Nat.le_of_lt (Nat.lt_of_succ_lt hL2.out)))
   have kz:=(HKB2.out.set 0 (.slice a2 (x.Lst.length+1) (x.Lst.length+1))).cell (j:=0) rfl;refine bodyPost_ret (v:=.tuple #[.agg #[.slice a2 (x.Lst.length+1) (x.Lst.length+1)],.int .i64 0]) (by simp[results,Tryz.results79,go_sem,kz]) rfl ⟨_,by rw[hE.out],by rw[hE.out];exact Ov.hold HO2.out,(HE.out.tr HE2.out).set (by show w.heap.size<=w.heap.size+1;omega) _⟩
  ·have hE:=zh (zP3 (m:=m) h1 h2);have h2':decide ((x.Lst.length:Int) < s)=false:=decide_eq_false h2;clear h1 h2
   go_wp2_with (first
    | (go_at_call 56;refine(zBu _ x.Lst _ hs2.out (by omega)).mono ?_;rintro e w2 ⟨v2,rfl,ho,he⟩;obtain⟨p2,q2,rfl,_⟩:=ho.form;have HO:=zh ho;have HE2:=zh he;have kB2:=HKB.out.ext he;have hB2:=kB2.lt;have r2:=kB2.cell (j:=0) rfl;have hBf2:=kB2.fz;have HKB2:=zh kB2;clear ho he kB2)
    | (go_at_call 73;refine(zLp _ _).mono ?_;rintro e w3 ⟨rfl,rfl⟩))
   have HO2:=zh ((HO.out.setLow (p:=⟨w.heap.size+1,0,none⟩) hB (.slice p2 x.Lst.length q2)).mono hsz);have kz:=(HKB2.out.set 0 (.slice p2 x.Lst.length q2)).cell (j:=0) rfl;refine bodyPost_ret (v:=.tuple #[.agg #[.slice p2 x.Lst.length q2],.int .i64 (zCv (k == 3))]) (by simp[results,Tryz.results79,go_sem,kz]) rfl ⟨_,by rw[hE.out],by rw[hE.out];exact Ov.hold HO2.out,(HE.out.tr HE2.out).set (by show w.heap.size<=w.heap.size+1;omega) _⟩
theorem zKh(v:Value)(x:Hold)(k:Int)(w:World)(h:Rv w v x)(hn:x.Lst.length<=1000) :
  Calls Tryz.prog 78 #[v,.int .i64 k] w fun e w' => ∃ v',e = .returned (.tuple #[v',.int .i64 (zBm x k).2])/\Ov w.heap.size w' v' (zBm x k).1/\Ext w w':=by
 obtain⟨a0,c0,rfl,hs,hl0⟩:=h.openHold;clear h;obtain⟨L⟩:=x;simp only at hs hl0 hn;go_enter Tryz.func78,Tryz.ntmps78;go_upto_block 0 with (fail)
 refine zA1 (fun W=>Ext w W/\Bk W w.heap.size [.slice a0 L.length c0] 69/\Bk W (w.heap.size+1) [.slice none 0 0] 69) ⟨((zr _).alloc _).alloc _,(Bk.new _ _ _).ext ((zr _).alloc _),Bk.new1 _ _ _ _⟩ ?_
 rintro W ⟨e1,kA,kB⟩;have HE:=zh e1;have d0:=kA.cell (j:=0) rfl;have hA:=kA.lt;have HKB:=zh kB;have hB:=kB.lt;have r0:=kB.cell (j:=0) rfl;have hBf:=kB.fz;have hs2:=zh (hs.out.ext e1);have hsz:w.heap.size<=W.heap.size:=e1.sz;cases L with
 | nil =>
  clear e1 kA kB hs;have hE:=zh (zP9 (x:=⟨[]⟩) (k:=k) rfl);go_wp2;refine bodyPost_ret (v:=.tuple #[.agg #[.slice none 0 0],.int .i64 (-1)]) (by simp[results,Tryz.results78,go_sem,r0]) rfl ⟨_,by rw[hE.out],by rw[hE.out];exact Ov.hold0 _ _,?_⟩
  exact HE.out.set (by show w.heap.size<=w.heap.size+1;omega) _
 | cons m rest =>
  rw[List.length_cons] at *;obtain⟨b,o,m',rfl,hb0,hm,hc,hr⟩:=hs.out.atInt 0 (by simp)
  obtain rfl:m=m':=by have:=hm.out;simpa using this
  rw[Nat.add_zero] at hc;have hb:b < W.heap.size:=by omega
  have hcw:=(zA0 e1 hb0).trans hc;have hbB:b≠w.heap.size+1:=by omega
  have hAB:w.heap.size≠w.heap.size+1:=by omega
  clear e1 kA kB hs hc;have hc:=hcw;clear hcw;by_cases h1:k=1
  ·have hE:=zh (zPa (x:=⟨m::rest⟩) rfl h1);subst h1;have hne:((rest.length:Int)+1 == 0)=false:=beq_eq_false_iff_ne.2 (by omega)
   go_upto_region 4 with (fail)
   go_region_held3 (fun u=>u.cell? ⟨w.heap.size,0,none⟩=some (.slice (some ⟨b,o,none⟩) (rest.length+1) c0)/\u.cell? ⟨b,o,none⟩=some (.int .i64 m))
    (first|exact⟨(zA0 HE2.out hA).trans d0,(zA0 HE2.out hb).trans hc⟩|exact⟨(zB5 hAB).trans ((zA0 HE2.out hA).trans d0),(zB5 hbB).trans ((zA0 HE2.out hb).trans hc)⟩|go_keep)
    (first|(go_at_call 56;refine(zBu _ (m::rest) _ (hs2.out.ext (zr W).drew) (by simp;omega)).mono ?_;rintro e w2 ⟨v2,rfl,ho,he⟩;obtain⟨p2,q2,rfl,_⟩:=ho.form;have HO:=zh ho;have HE2:=zh ((zr W).drew.tr he);have kB2:=HKB.out.ext HE2.out;have hB2:=kB2.lt;have r2:=kB2.cell (j:=0) rfl;have hBf2:=kB2.fz;have HKB2:=zh kB2;clear ho he kB2))
   go_wp2;have HO2:=zh ((HO.out.setLow (p:=⟨w.heap.size+1,0,none⟩) (by simpa using hB) (.slice p2 (rest.length+1) q2)).mono (by simpa using hsz))
   have kz:=(HKB2.out.set 0 (.slice p2 (rest.length+1) q2)).cell (j:=0) rfl;refine bodyPost_ret (v:=.tuple #[.agg #[.slice p2 (rest.length+1) q2],.int .i64 m]) (by simp[results,Tryz.results78,go_sem,kz]) rfl ⟨_,by rw[hE.out],by rw[hE.out];exact Ov.hold HO2.out,(HE.out.tr HE2.out).set (by show w.heap.size<=w.heap.size+1;omega) _⟩
  ·have hE:=zh (zPb (x:=⟨m::rest⟩) rfl h1);have h1':(k == 1)=false:=by simpa using h1
   have hne:((rest.length:Int)+1 == 0)=false:=beq_eq_false_iff_ne.2 (by omega)
   have HT:=zh hs2.out.tailI;clear h1;go_upto_region 5 with (fail)
   by_cases hco:c0=1
   ·have hr0:rest.length=0:=by
     obtain⟨_,_,_,e,h1,_⟩:=hs2.out;cases e;simp at h1;omega
    obtain rfl:rest = []:=List.length_eq_zero_iff.1 hr0;have HN:Hid (Rs W.drew (.slice (some ⟨b,o,none⟩) 0 0) ([]:List Int)):=zh ⟨[],_,0,rfl,Nat.le_refl _,Nat.zero_le _,.inl ⟨rfl,rfl⟩⟩;subst hco;simp only[List.length_nil,Nat.zero_add] at *
    go_region_held3 (fun u=>u.cell? ⟨w.heap.size,0,none⟩=some (.slice (some ⟨b,o,none⟩) 1 1)/\u.cell? ⟨b,o,none⟩=some (.int .i64 m))
     (first|exact⟨(zA0 HE2.out hA).trans d0,(zA0 HE2.out hb).trans hc⟩|exact⟨(zB5 hAB).trans ((zA0 HE2.out hA).trans d0),(zB5 hbB).trans ((zA0 HE2.out hb).trans hc)⟩|go_keep)
     (first|(go_at_call 56;refine(zBu _ [] _ (HN.out) (by simp)).mono ?_;rintro e w2 ⟨v2,rfl,ho,he⟩;obtain⟨p2,q2,rfl,_⟩:=ho.form;have HO:=zh ho;have HE2:=zh ((zr W).drew.tr he);have kB2:=HKB.out.ext HE2.out;have hB2:=kB2.lt;have r2:=kB2.cell (j:=0) rfl;have hBf2:=kB2.fz;have HKB2:=zh kB2;clear ho he kB2))
    go_wp2;have HO2:=zh ((HO.out.setLow (p:=⟨w.heap.size+1,0,none⟩) (by simpa using hB) (.slice p2 0 q2)).mono (by simpa using hsz))
    have kz:=(HKB2.out.set 0 (.slice p2 0 q2)).cell (j:=0) rfl;refine bodyPost_ret (v:=.tuple #[.agg #[.slice p2 0 q2],.int .i64 m]) (by simp[results,Tryz.results78,go_sem,kz]) rfl ⟨_,by rw[hE.out],by rw[hE.out];exact Ov.hold HO2.out,(HE.out.tr HE2.out).set (by show w.heap.size<=w.heap.size+1;omega) _⟩
   ·have hc1:1<=c0:=by
     obtain⟨_,_,_,e,h1,_⟩:=hs2.out;cases e;simp at h1;omega
    have hcI:(rest.length:Int)+1<=(c0:Int):=by
     obtain⟨_,_,_,e,h1,_⟩:=hs2.out;cases e;simp at h1;omega
    have hcN:rest.length+1<=c0:=by omega
    have hco2:¬ (c0 - 1=0):=by omega
    have hr1:(1:Int)<=(rest.length:Int)+1:=by omega
    have hr2:(0:Int)<=(rest.length:Int):=by omega
    go_region_held3 (fun u=>u.cell? ⟨w.heap.size,0,none⟩=some (.slice (some ⟨b,o,none⟩) (rest.length+1) c0)/\u.cell? ⟨b,o,none⟩=some (.int .i64 m))
     (first|exact⟨(zA0 HE2.out hA).trans d0,(zA0 HE2.out hb).trans hc⟩|exact⟨(zB5 hAB).trans ((zA0 HE2.out hA).trans d0),(zB5 hbB).trans ((zA0 HE2.out hb).trans hc)⟩|go_keep)
     (first|(go_at_call 56;refine(zBu _ rest _ (by simpa using HT.out.ext (zr W).drew) (by omega)).mono ?_;rintro e w2 ⟨v2,rfl,ho,he⟩;obtain⟨p2,q2,rfl,_⟩:=ho.form;have HO:=zh ho;have HE2:=zh ((zr W).drew.tr he);have kB2:=HKB.out.ext HE2.out;have hB2:=kB2.lt;have r2:=kB2.cell (j:=0) rfl;have hBf2:=kB2.fz;have HKB2:=zh kB2;clear ho he kB2))
    go_wp2;have HO2:=zh ((HO.out.setLow (p:=⟨w.heap.size+1,0,none⟩) (by simpa using hB) (.slice p2 rest.length q2)).mono (by simpa using hsz))
    have kz:=(HKB2.out.set 0 (.slice p2 rest.length q2)).cell (j:=0) rfl;refine bodyPost_ret (v:=.tuple #[.agg #[.slice p2 rest.length q2],.int .i64 m]) (by simp[results,Tryz.results78,go_sem,kz]) rfl ⟨_,by rw[hE.out],by rw[hE.out];exact Ov.hold HO2.out,(HE.out.tr HE2.out).set (by show w.heap.size<=w.heap.size+1;omega) _⟩
set_option maxHeartbeats 2000000
def zMq(b:Board)(x y z:Int):Bool :=
 zA8 x 0 (b.Boxes.length - 1) && (match b.Boxes[x.toNat]? with
  | some m=>zA8 y 0 (m.Cores.length - 1) && (match m.Cores[y.toNat]? with|some c=>zA8 z 0 (c.Cells.length - 1)|none=>false)
  | none=>false)
theorem M.hc0{b:Board}{x y z:Int}(h:zA8 x 0 (b.Boxes.length - 1)=false):zMq b x y z=false:=zB4 h
theorem M.hc1{b:Board}{X:Nat}{y z:Int}{m:Machine}(h:zA8 X 0 (b.Boxes.length - 1)=true)(hm:b.Boxes[X]? = some m)(h2:zA8 y 0 (m.Cores.length - 1)=false):zMq b X y z=false:=by
 unfold zMq;rw[h,Int.toNat_natCast,hm];simp only[h2];rfl
theorem M.hc2{b:Board}{X Y:Nat}{z:Int}{m:Machine}{c:Core}(h:zA8 X 0 (b.Boxes.length - 1)=true)(hm:b.Boxes[X]? = some m)(h2:zA8 Y 0 (m.Cores.length - 1)=true)(hc:m.Cores[Y]? = some c):zMq b X Y z=zA8 z 0 (c.Cells.length - 1):=by
 unfold zMq;rw[h,Int.toNat_natCast,hm];simp only[h2,Int.toNat_natCast,hc];rfl
def zFa(v w:Wire):Bool:=v.To == w.To && (v.ToPart == w.ToPart && v.ToCell == w.ToCell)
structure zMs (b:Board):Prop where
 nb:b.Boxes.length<=3
 nw:b.Wires.length<=6
 mv:∀ m∈b.Boxes,zG0 m=true
 ok:∀ (k:Nat) (w:Wire),b.Wires[k]? = some w->zMq b w.From w.FromPart w.FromCell=true/\zMq b w.To w.ToPart w.ToCell=true/\(b.Wires.take k).any (fun v=>zFa v w)=false
noncomputable def zO0(b:Board):Bool:=Bo (zMs b)
theorem M.bv_iff{b:Board}:zO0 b=true ↔ zMs b:=Bo.iff
theorem Rs.intsForm{x:Int}{n:Nat}(h1:0<=x)(h2:x<=n - 1):∃ X:Nat,x=X/\X < n:=⟨x.toNat,by omega,by omega⟩
theorem zBk(v:Value)(b:Board)(x y z:Int)(w:World)(h:Rv w v b) :
  Calls Tryz.prog 87 #[v,.int .i64 x,.int .i64 y,.int .i64 z] w fun e w'=>e = .returned (.bool (zMq b x y z))/\Ext w w':=by
 obtain⟨a0,c0,a1,c1,rfl,h0,l0,h1,l1⟩:=h.openBoard;clear h;have hn0:0<=(b.Boxes.length:Int):=by omega
 have e0:=zh ((zr w).alloc (.cells #[.slice a0 b.Boxes.length c0,.slice a1 b.Wires.length c1] 51));cases g1:zA8 x 0 (b.Boxes.length - 1)
 ·have HF:=zh (M.hc0 (y:=y) (z:=z) g1);go_enter Tryz.func87,Tryz.ntmps87;go_wp2_with (go_at_call 35;refine(zAj _ _ _ _).mono ?_;rintro e w' ⟨rfl,rfl⟩;first|rw[g1]|rw[g2]|skip)
  go_ret;exact⟨by rw[HF.out];first|done|rfl,e0.out⟩
 obtain⟨i1,i2⟩:=zA6.1 g1;obtain⟨X,rfl,hX⟩:=Rs.intsForm i1 i2;obtain⟨bm,om,m,a2,d2,a3,d3,a4,d4,a5,d5,a6,d6,a7,d7,rfl,hbm,hm,q0,q1,q2,q3,q4,q5,q6,rt,r0,k0,r1,k1,r2,k2,r3,k3,r4,k4,r5,k5,hvm⟩:=h0.out.atMachine X hX;clear q0 q1 q2 q3 q5 q6;have hn1:0<=(m.Cores.length:Int):=by omega
 cases g2:zA8 y 0 (m.Cores.length - 1)
 ·have HF:=zh (M.hc1 (z:=z) g1 hm.out g2);go_enter Tryz.func87,Tryz.ntmps87;go_wp2_with (go_at_call 35;refine(zAj _ _ _ _).mono ?_;rintro e w' ⟨rfl,rfl⟩;first|rw[g1]|rw[g2]|skip)
  go_ret;exact⟨by rw[HF.out];first|done|rfl,e0.out⟩
 obtain⟨i3,i4⟩:=zA6.1 g2;obtain⟨Y,rfl,hY⟩:=Rs.intsForm i3 i4;obtain⟨bc,oc,c,a8,d8,rfl,hbc,hc,s0,s1,s2,rr,rc,kc,hvc⟩:=r4.out.atCore Y hY;have hn2:0<=(c.Cells.length:Int):=by omega
 have HF:=zh (M.hc2 (z:=z) g1 hm.out g2 hc.out);go_enter Tryz.func87,Tryz.ntmps87;go_wp2_with (go_at_call 35;refine(zAj _ _ _ _).mono ?_;rintro e w' ⟨rfl,rfl⟩;first|rw[g1]|rw[g2]|skip)
 go_ret;exact⟨by rw[HF.out];first|done|rfl,e0.out⟩
theorem zHm(v:Value)(m:Machine)(w:World)(h:Rv w v m) :
  Calls Tryz.prog 86 #[v] w fun e w'=>e = .returned (.bool (!zG0 m))/\Ext w w':=by
 have H:=zh h;obtain⟨a0,c0,a1,c1,a2,c2,a3,c3,a4,c4,a5,c5,rfl,rt,h0,l0,h1,l1,h2,l2,h3,l3,h4,l4,h5,l5⟩:=h.openMachine;clear h;go_enter Tryz.func86,Tryz.ntmps86;go_wp2_with (go_at_call 10;refine(zAz _ m _ (H.out.ext ((zr w).alloc _))).mono ?_;rintro e w' ⟨rfl,he⟩;have HE:=zh he;clear he)
 go_ret;exact⟨rfl,((zr w).alloc _).tr HE.out⟩
theorem zHn(v:Value)(x y:Wire)(b1:Nat)(w:World)(h:Rv w v x)(hb1:b1 < w.heap.size)
  (q3:w.cell? ⟨b1,3,none⟩=some (.int .i64 y.To)) (q4:w.cell? ⟨b1,4,none⟩=some (.int .i64 y.ToPart)) (q5:w.cell? ⟨b1,5,none⟩=some (.int .i64 y.ToCell)) :
  Calls Tryz.prog 89 #[v,.pointer (some ⟨b1,0,none⟩)] w fun e w'=>e = .returned (.bool (zFa x y))/\Ext w w':=by
 obtain⟨rfl,hr0,hr1,hr2,hr3,hr4,hr5⟩:=h.openWire;clear h;have e0:=zh ((zr w).alloc (.cells #[.int .i64 x.From,.int .i64 x.FromPart,.int .i64 x.FromCell,.int .i64 x.To,.int .i64 x.ToPart,.int .i64 x.ToCell] 48));cases g1:(x.To == y.To)
 ·have HF:Hid (zFa x y=false):=zh (zB4 g1);go_enter Tryz.func89,Tryz.ntmps89;go_wp2;go_ret;exact⟨by rw[HF.out];first|done|rfl,e0.out⟩
 cases g2:(x.ToPart == y.ToPart)
 ·have HF:Hid (zFa x y=false):=zh ((zAt g1).trans (zB4 g2));go_enter Tryz.func89,Tryz.ntmps89;go_wp2;go_ret;exact⟨by rw[HF.out];first|done|rfl,e0.out⟩
 have HF:Hid (zFa x y=(x.ToCell == y.ToCell)):=zh ((zAt g1).trans (zAt g2));go_enter Tryz.func89,Tryz.ntmps89;go_wp2;go_ret;exact⟨by rw[HF.out];first|done|rfl,e0.out⟩
theorem zFi(v:Value)(b:Board)(w:World)(h:Rv w v b) :
  Calls Tryz.prog 46 #[v] w fun e w'=>e = .returned (.bool (zO0 b))/\Ext w w':=by
 have H:=zh h;obtain⟨a0,c0,a1,c1,rfl,h0,l0,h1,l1⟩:=h.openBoard;clear h;by_cases n3:b.Boxes.length<=3
 rotate_left
 ·have HF:Hid (zO0 b=false):=zh (Bo.f fun h=>n3 h.nb)
  have n3':decide ((3:Int) < (b.Boxes.length:Int))=true:=decide_eq_true (by omega)
  have e0:=zh ((zr w).alloc (.cells #[.slice a0 b.Boxes.length c0,.slice a1 b.Wires.length c1] 51));clear n3;go_enter Tryz.func46,Tryz.ntmps46;go_wp2;go_ret;exact⟨zA2 HF.out.symm,e0.out⟩
 have n3':decide ((3:Int) < (b.Boxes.length:Int))=false:=decide_eq_false (by omega)
 by_cases n6:b.Wires.length<=6
 rotate_left
 ·have HF:Hid (zO0 b=false):=zh (Bo.f fun h=>n6 h.nw)
  have n6':decide ((6:Int) < (b.Wires.length:Int))=true:=decide_eq_true (by omega)
  have e0:=zh ((zr w).alloc (.cells #[.slice a0 b.Boxes.length c0,.slice a1 b.Wires.length c1] 51));clear n6;go_enter Tryz.func46,Tryz.ntmps46;go_wp2;go_ret;exact⟨zA2 HF.out.symm,e0.out⟩
 have n6':decide ((6:Int) < (b.Wires.length:Int))=false:=decide_eq_false (by omega)
 have HX:=fun(u:World) (he:Ext w u)=>zN7 86 #[] (fun m => !zG0 m) _ b.Boxes u (h0.out.ext he) (zCo Tryz.func86 (by kernel_rfl) (by kernel_rfl)) (fun w1 v x _ _ hv=>zHm v x w1 hv)
 replace HX:=zh HX;go_enter Tryz.func46,Tryz.ntmps46;go_upto_region 1 with (fail)
 refine zA1 (fun W=>Ext w W/\Bk W w.heap.size [.slice a0 b.Boxes.length c0,.slice a1 b.Wires.length c1] 51) ⟨(zr _).alloc _,Bk.new _ _ _⟩ ?_
 rintro W ⟨e1,kA⟩;have HE0:=zh e1;have KA:=zh kA;obtain⟨d0,d1⟩:=Bk.k2 kA;clear e1 kA;cases g0:b.Boxes.any (fun m => !zG0 m)
 rotate_left
 ·have HF:Hid (zO0 b=false):=zh (Bo.f fun h=>by
   have:b.Boxes.any (fun m => !zG0 m)=false:=List.any_eq_false.2 fun m hm=>by rw[h.mv m hm];simp
   rw[g0] at this;cases this)
  go_wp2_with (go_at_call 85;refine(HX.out _ HE0.out).mono ?_;rintro e w1 ⟨rfl,he⟩;rw[g0];have HE1:=zh (HE0.out.tr he);clear he)
  go_ret;exact⟨zA2 HF.out.symm,HE1.out⟩
 have HMV:Hid (∀ m∈b.Boxes,zG0 m=true):=zh fun m hm=>by have:=List.any_eq_false.1 g0 m hm;simpa using this
 replace g0:=zh g0;go_upto_if 19 with (go_at_call 85;refine(HX.out _ HE0.out).mono ?_;rintro e w1 ⟨rfl,he⟩;rw[g0.out];have HE1:=zh (HE0.out.tr he);have KB:=zh (KA.out.ext he);obtain⟨f0,f1⟩:=Bk.k2 KB.out;have hB:=KB.out.lt;clear he)
 replace H:=zh (H.out.ext HE1.out);replace h1:=zh (h1.out.ext HE1.out);clear d0 d1 KA HX n3' n6' KB;go_wp2;go_loopw [23,3,4] (fun i _ _ wr => ∃ k:Nat,k<=b.Wires.length/\i = .int .i64 k/\(∀ (j:Nat) (x:Wire),j < k->b.Wires[j]? = some x->zMq b x.From x.FromPart x.FromCell=true/\zMq b x.To x.ToPart x.ToCell=true/\(b.Wires.take j).any (fun v=>zFa v x)=false)/\Ext w1 wr) (fun i _ _ _=>b.Wires.length - (intOf i).toNat)
 case atStart=>exact⟨0,Nat.zero_le _,rfl,fun j x hj=>absurd hj (Nat.not_lt_zero _),.refl _⟩
 case round =>
  obtain⟨k,hk,rfl,he,hq⟩:=hrel;have HE:=zh he;have HQ:=zh hq;clear he hq;have g0':=(zA0 HQ.out hB).trans f0;have g1':=(zA0 HQ.out hB).trans f1;have hB2:=zl hB HQ.out.sz;by_cases hlt:k < b.Wires.length
  ·obtain⟨bw,ow,x,rfl,hbw,hx,s0,s1,s2,s3,s4,s5,r0,r1,r2,r3,r4,r5,hvx⟩:=h1.out.atWire k hlt;have t0:=(zA0 HQ.out hbw).trans s0;have t1:=(zA0 HQ.out hbw).trans s1;have t2:=(zA0 HQ.out hbw).trans s2;have t3:=(zA0 HQ.out hbw).trans s3;have t4:=(zA0 HQ.out hbw).trans s4;have t5:=(zA0 HQ.out hbw).trans s5;clear s0 s1 s2 s3 s4 s5;have hk6:(k:Int)<=(c1:Int):=by
    obtain⟨_,_,_,e,q1,_⟩:=h1.out;cases e;omega
   have hk7:(0:Int)<=(k:Int):=by omega
   go_upto_region 6 with (fail)
   refine zA1 (fun W=>Ext wr W/\Bk W wr.heap.size [.int .i64 x.From,.int .i64 x.FromPart,.int .i64 x.FromCell,.int .i64 x.To,.int .i64 x.ToPart,.int .i64 x.ToCell] 48) ⟨(zr _).alloc _,Bk.new _ _ _⟩ ?_
   rintro W2 ⟨e3,kP⟩;obtain⟨u0,u1,u2,u3,u4,u5⟩:=Bk.k6 kP;have g0'':=(zA0 e3 hB2).trans g0';have g1'':=(zA0 e3 hB2).trans g1';have hB3:=zl hB2 e3.sz;have HKP:=zh kP;have hP:=kP.lt;have HW:=zh (HQ.out.tr e3);clear e3 kP g0' g1' t0 t1 t2 t3 t4 t5;cases q1:zMq b x.From x.FromPart x.FromCell
   ·have HF:Hid (zO0 b=false):=zh (Bo.f fun h=>by have:=(h.ok k x hx.out).1;rw[q1] at this;cases this)
    go_wp2_with (go_at_call 87;refine(zBk _ b x.From x.FromPart x.FromCell _ (H.out.ext HW.out)).mono ?_;rintro e w4 ⟨rfl,he⟩;rw[q1];have HE4:=zh (HW.out.tr he);clear he)
    go_ret;exact⟨zA2 HF.out.symm,HE1.out.tr HE4.out⟩
   cases q2:zMq b x.To x.ToPart x.ToCell
   ·have HF:Hid (zO0 b=false):=zh (Bo.f fun h=>by have:=(h.ok k x hx.out).2.1;rw[q2] at this;cases this)
    go_wp2_with (first
     | (go_at_call 87;refine(zBk _ b x.To x.ToPart x.ToCell _ (H.out.ext (HW.out.tr HX4.out))).mono ?_;rintro e w5 ⟨rfl,he⟩;rw[q2];have HE5:=zh (HX4.out.tr he);clear he)
     | (go_at_call 87;refine(zBk _ b x.From x.FromPart x.FromCell _ (H.out.ext HW.out)).mono ?_;rintro e w4 ⟨rfl,he⟩;rw[q1];have HX4:=zh he;have y0:=(zA0 he hB3).trans g0'';have y1:=(zA0 he hB3).trans g1'';have kp:=HKP.out.ext he;have v3:=kp.cell (j:=3) rfl;have v4:=kp.cell (j:=4) rfl;have v5:=kp.cell (j:=5) rfl;clear he kp))
    go_ret;exact⟨zA2 HF.out.symm,HE1.out.tr (HW.out.tr HE5.out)⟩
   have HXW:=fun(u:World) (he:Ext W2 u)=>has_Wire 89 #[.pointer (some ⟨wr.heap.size,0,none⟩)] (fun v=>zFa v x) _ (b.Wires.take k) u ((h1.out.take hk).ext (HW.out.tr he)) (zCo Tryz.func89 (by kernel_rfl) (by kernel_rfl))
    (fun w1 v z he2 _ hv=>zHn v z x wr.heap.size w1 hv (zl hP (he.tr he2).sz) ((zA0 (he.tr he2) hP).trans u3) ((zA0 (he.tr he2) hP).trans u4) ((zA0 (he.tr he2) hP).trans u5))
   replace HXW:=zh HXW;cases q3:(b.Wires.take k).any (fun v=>zFa v x)
   ·have Q:=zh (And.intro q1 (And.intro q2 q3))
    go_wp2_with (first
     | (go_at_call 88;refine(HXW.out _ HX5.out).mono ?_;rintro e w6 ⟨rfl,he⟩;rw[q3];have HX6:=zh (HX5.out.tr he);clear he)
     | (go_at_call 87;refine(zBk _ b x.To x.ToPart x.ToCell _ (H.out.ext (HW.out.tr HX4.out))).mono ?_;rintro e w5 ⟨rfl,he⟩;rw[q2];have HX5:=zh (HX4.out.tr he);have z1:=(zA0 HX5.out hB3).trans g1'';clear he)
     | (go_at_call 87;refine(zBk _ b x.From x.FromPart x.FromCell _ (H.out.ext HW.out)).mono ?_;rintro e w4 ⟨rfl,he⟩;rw[q1];have HX4:=zh he;have y0:=(zA0 he hB3).trans g0'';have y1:=(zA0 he hB3).trans g1'';have kp:=HKP.out.ext he;have v3:=kp.cell (j:=3) rfl;have v4:=kp.cell (j:=4) rfl;have v5:=kp.cell (j:=5) rfl;clear he kp))
    clear q1 q2 q3;go_roundw
    case rel=>exact⟨k+1,by omega,by go_num,fun j z hj hz=>by
     by_cases hjk:j < k
     ·exact HE.out j z hjk hz
     ·obtain rfl:j=k:=by omega
      rw[hx.out] at hz;cases hz;exact Q.out,HW.out.tr HX6.out⟩
    case measure=>simp[intOf];omega
   ·have HF:Hid (zO0 b=false):=zh (Bo.f fun h=>by have:=(h.ok k x hx.out).2.2;rw[q3] at this;cases this)
    go_wp2_with (first
     | (go_at_call 88;refine(HXW.out _ HX5.out).mono ?_;rintro e w6 ⟨rfl,he⟩;rw[q3];have HX6:=zh (HX5.out.tr he);clear he)
     | (go_at_call 87;refine(zBk _ b x.To x.ToPart x.ToCell _ (H.out.ext (HW.out.tr HX4.out))).mono ?_;rintro e w5 ⟨rfl,he⟩;rw[q2];have HX5:=zh (HX4.out.tr he);have z1:=(zA0 HX5.out hB3).trans g1'';clear he)
     | (go_at_call 87;refine(zBk _ b x.From x.FromPart x.FromCell _ (H.out.ext HW.out)).mono ?_;rintro e w4 ⟨rfl,he⟩;rw[q1];have HX4:=zh he;have y0:=(zA0 he hB3).trans g0'';have y1:=(zA0 he hB3).trans g1'';have kp:=HKP.out.ext he;have v3:=kp.cell (j:=3) rfl;have v4:=kp.cell (j:=4) rfl;have v5:=kp.cell (j:=5) rfl;clear he kp))
    go_ret;exact⟨zA2 HF.out.symm,HE1.out.tr (HW.out.tr HX6.out)⟩
  ·have HF:Hid (zO0 b=true):=zh (Bo.t ⟨n3,n6,HMV.out,fun j x hx=>HE.out j x (by have:=zA7 hx;omega) hx⟩)
   go_wp2;go_ret;exact⟨zA2 HF.out.symm,HE1.out.tr HQ.out⟩
set_option maxHeartbeats 4000000
theorem Bk.putsAux{b:Nat}{T:TypeId}(cs:List Value):∀ {w:World} (pre rest:List Value),Bk w b (pre++rest) T->cs.length=rest.length->Bk (zAc w b pre.length cs) b (pre++cs) T:=by
 induction cs with
 | nil=>intro w pre rest h hl;obtain rfl:rest = []:=List.length_eq_zero_iff.1 hl.symm;exact h
 | cons c cs ih =>
  intro w pre rest h hl;cases rest with
  | nil=>cases hl
  | cons r rest =>
   have h1:=h.set pre.length c;rw[List.set_append_right _ _ (Nat.le_refl _),Nat.sub_self,List.set_cons_zero] at h1;have h2:=ih (w:=w.setCell ⟨b,pre.length,none⟩ c) (pre ++ [c]) rest (by simpa using h1) (by simpa using hl)
   rw[List.length_append,List.length_singleton] at h2;rw[zAc]
   simpa using h2
theorem Bk.puts{w:World}{b:Nat}{cs0:List Value}{T:TypeId}(h:Bk w b cs0 T)(cs:List Value)(hl:cs.length=cs0.length):Bk (zAc w b 0 cs) b cs T:=by
 have:=Bk.putsAux cs (w:=w) [] cs0 h hl
 simpa using this
theorem Bk.puts_ne{w:World}{b c o:Nat}{cs ds:List Value}{T:TypeId}(h:Bk w b cs T)(hb:b≠c):Bk (zAc w c o ds) b cs T:=by
 unfold Bk at *;rw[zCr hb];exact h
theorem zBp{α:Type}[GT α]{w:World}{c o:Nat}{cs ds:List Value}{x : α}{F:List Nat}(h:GT.enc w cs x F)(hc:c ∉ F):GT.enc (zAc w c o ds) cs x F :=
 GT.keep h fun k hk=>zCr (fun e=>hc (e ▸ hk))
theorem Sl.puts{α:Type}[GT α]{w:World}{c o:Nat}{v:Value}{ds:List Value}{x:List α}{F:List Nat}(h:Sl w v x F)(hc:c ∉ F):Sl (zAc w c o ds) v x F :=
 h.keep fun k hk=>zCr (fun e=>hc (e ▸ hk))
theorem Bk.cellq{w:World}{b:Nat}{cs:List Value}{T:TypeId}(h:Bk w b cs T)(j:Nat):w.cell? ⟨b,j,none⟩=cs[j]?:=by
 unfold Bk at h;simp[World.cell?,h]
theorem Chg.one{b o:Nat}{F:List Nat}{a c:World}{cs:List Value}{T:TypeId}{v:Value}(h:Chg b o 1 F a c)(hb:Bk a b cs T)(ho:o < cs.length)(hv:c.cell? ⟨b,o,none⟩=some v):∃ T',Bk c b (cs.set o v) T':=by
 obtain⟨cs',T',hb'⟩:=h.fzk b ⟨_,_,hb⟩;have e:cs'=cs.set o v:=by
  apply List.ext_getElem?;intro j;rw[<- hb'.cellq j,List.getElem?_set];by_cases hj:o=j
  ·subst hj;rw[if_pos rfl,if_pos ho];exact hv
  ·rw[if_neg hj,h.cell (by omega)];exact hb.cellq j
 exact⟨T',e ▸ hb'⟩
theorem zL3{w:World}{m:Machine}{p0 p1 p2 v3 v4 v5:Value}{FP F3 F4 F5:List Nat}(hp:GT.enc w [p0,p1,p2] m.Plan FP)(h3:Sl w v3 m.Programs F3)(h4:Sl w v4 m.Cores F4)(h5:Sl w v5 m.Holds F5)(r:rng m.Tick):GT.enc w [p0,p1,p2,v3,v4,v5,.int .i64 m.Tick] m (FP++F3++F4++F5):=by
 obtain⟨v0,v1,v2,F0,F1,F2,e,s0,s1,s2,rfl⟩:=hp;simp only[List.cons.injEq] at e;obtain⟨rfl,rfl,rfl,_⟩:=e;exact⟨_,_,_,_,_,_,F0,F1,F2,F3,F4,F5,rfl,s0,s1,s2,h3,h4,h5,r,by simp[List.append_assoc]⟩
theorem Chg.enc{α:Type}[GT α]{b o n:Nat}{F G:List Nat}{a c:World}{cs:List Value}{x : α}(h:Chg b o n F a c)(hs:GT.enc a cs x G)(hb:b ∉ G)(hF:zBb G F):GT.enc c cs x G :=
 GT.keep hs fun k hk=>h.keep (GT.inh hs k hk) (fun e=>hb (e ▸ hk)) (fun hm=>hF k hk hm)
end Sk
