/- Contracts of functions of the given program. -/
import Derived.Test.YtidkncgejgngcaaNewW
import Derived.Test.YtidkncgejgngcaaTickB
namespace Sk
open Go Go.Proofs Go.RowKit
set_option maxHeartbeats 1600000
set_option maxRecDepth 100000
set_option linter.unusedVariables false
set_option linter.unusedSimpArgs false
def zEa(h:Health):Bool:=zA6 h.Restarts 0 3 && (h.Frozen || decide (h.Restarts < 3))
theorem zEv(v:Value)(h:Health)(w:World)(hh:Rv w v h) :
  Calls Try.prog 13 #[v] w fun e w'=>e = .returned (.bool (zEa h))/\Ext w w':=by
 obtain⟨rfl,hr⟩:=hh.openHealth;clear hh;obtain⟨fz,r⟩:=h;simp only at hr ⊢;cases g:zA6 r 0 3
 ·have hm:Hid (zEa ⟨fz,r⟩=false):=zh (by unfold zEa;rw[g];rfl)
  go_enter Try.func13,Try.ntmps13;go_wp2_with (go_at_call 25;refine(zAd _ _ _ _).mono ?_;rintro e w' ⟨rfl,rfl⟩;rw[g])
  go_ret;exact⟨zA1 hm.out.symm,(zr w).alloc _⟩
 ·cases fz
  ·by_cases h3:r < 3
   ·have hm:Hid (zEa ⟨false,r⟩=true):=zh (by unfold zEa;rw[g];simpa using h3)
    go_enter Try.func13,Try.ntmps13;go_wp2_with (go_at_call 25;refine(zAd _ _ _ _).mono ?_;rintro e w' ⟨rfl,rfl⟩;rw[g])
    go_ret;exact⟨zA1 hm.out.symm,(zr w).alloc _⟩
   ·have hm:Hid (zEa ⟨false,r⟩=false):=zh (by unfold zEa;rw[g];simpa using h3)
    go_enter Try.func13,Try.ntmps13;go_wp2_with (go_at_call 25;refine(zAd _ _ _ _).mono ?_;rintro e w' ⟨rfl,rfl⟩;rw[g])
    go_ret;exact⟨zA1 (by rw[hm.out];first|rfl|exact decide_eq_false (by omega)),(zr w).alloc _⟩
  ·have hm:Hid (zEa ⟨true,r⟩=true):=zh (by unfold zEa;rw[g];rfl)
   go_enter Try.func13,Try.ntmps13;go_wp2_with (go_at_call 25;refine(zAd _ _ _ _).mono ?_;rintro e w' ⟨rfl,rfl⟩;rw[g])
   all_goals go_ret
   all_goals exact⟨zA1 hm.out.symm,(zr w).alloc _⟩
theorem zD3(v:Value)(h:Health)(w:World)(hh:Rv w v h) :
  Calls Try.prog 14 #[v] w fun e w'=>e = .returned (.bool (zEa h))/\Ext w w':=by
 obtain⟨rfl,hr⟩:=hh.openHealth;clear hh;obtain⟨fz,r⟩:=h;simp only at hr ⊢;cases g:zA6 r 0 3
 ·have hm:Hid (zEa ⟨fz,r⟩=false):=zh (by unfold zEa;rw[g];rfl)
  go_enter Try.func14,Try.ntmps14;go_wp2_with (go_at_call 27;refine(zA8 _ _ _ _).mono ?_;rintro e w' ⟨rfl,rfl⟩;rw[g])
  go_ret;exact⟨zA1 hm.out.symm,(zr w).alloc _⟩
 ·cases fz
  ·by_cases h3:r < 3
   ·have hm:Hid (zEa ⟨false,r⟩=true):=zh (by unfold zEa;rw[g];simpa using h3)
    go_enter Try.func14,Try.ntmps14;go_wp2_with (go_at_call 27;refine(zA8 _ _ _ _).mono ?_;rintro e w' ⟨rfl,rfl⟩;rw[g])
    go_ret;exact⟨zA1 hm.out.symm,(zr w).alloc _⟩
   ·have hm:Hid (zEa ⟨false,r⟩=false):=zh (by unfold zEa;rw[g];simpa using h3)
    go_enter Try.func14,Try.ntmps14;go_wp2_with (go_at_call 27;refine(zA8 _ _ _ _).mono ?_;rintro e w' ⟨rfl,rfl⟩;rw[g])
    go_ret;exact⟨zA1 (by rw[hm.out];first|rfl|exact decide_eq_false (by omega)),(zr w).alloc _⟩
  ·have hm:Hid (zEa ⟨true,r⟩=true):=zh (by unfold zEa;rw[g];rfl)
   go_enter Try.func14,Try.ntmps14;go_wp2_with (go_at_call 27;refine(zA8 _ _ _ _).mono ?_;rintro e w' ⟨rfl,rfl⟩;rw[g])
   all_goals go_ret
   all_goals exact⟨zA1 hm.out.symm,(zr w).alloc _⟩
set_option maxHeartbeats 2000000
structure M.WV (x:Watch):Prop where
 box:zCh x.Box
 ns:x.States.length=x.Box.Cores.length
 hh:∀ h∈x.States,zEa h=true
noncomputable def zC9(x:Watch):Bool:=zDs x.Box && (decide (x.States.length=x.Box.Cores.length) && x.States.all zEa)
theorem zF9{x:Watch}:zC9 x=true ↔ M.WV x:=by
 unfold zC9;simp only[Bool.and_eq_true,decide_eq_true_eq,List.all_eq_true,zBs];exact⟨fun⟨h1,h2,h3⟩=>⟨h1,h2,h3⟩,fun h=>⟨h.box,h.ns,h.hh⟩⟩
theorem zEd(v:Value)(x:Health)(w:World)(h:Rv w v x) :
  Calls Try.prog 12 #[v] w fun e w'=>e = .returned (.bool (!zEa x))/\Ext w w':=by
 have H:=zh h;obtain⟨rfl,h1⟩:=h.openHealth;clear h;go_enter Try.func12,Try.ntmps12;go_wp2_with (go_at_call 13;refine(zEv _ x _ (H.out.ext ((zr w).alloc _))).mono ?_;rintro e w' ⟨rfl,he⟩)
 go_ret;exact⟨rfl,((zr w).alloc _).tr he⟩
theorem zD7(v:Value)(x:Watch)(w:World)(h:Rv w v x) :
  Calls Try.prog 5 #[v] w fun e w'=>e = .returned (.bool (zC9 x))/\Ext w w':=by
 obtain⟨a0,c0,a1,c1,a2,c2,a3,c3,a4,c4,a5,c5,a7,c7,rfl,r6,h0,l0,h1,l1,h2,l2,h3,l3,h4,l4,h5,l5,h7,l7⟩:=h.openWatch;clear h;have HX:=zh (fun(w1:World) (hw1:Ext w w1)=>zId 12 #[] (fun x => !zEa x) _ x.States w1 (h7.out.ext hw1) (zBz Try.func12 (by kernel_rfl) (by kernel_rfl)) (fun w2 v y _ _ hv=>zEd v y w2 hv))
 go_enter Try.func5,Try.ntmps5;go_upto_region 1 with (fail)
 refine zA2 (fun W=>Ext w W/\Bk W w.heap.size [.slice a0 x.Box.Plan.Parts.length c0,.slice a1 x.Box.Plan.Channels.length c1,.slice a2 x.Box.Plan.Slots.length c2,.slice a3 x.Box.Programs.length c3,.slice a4 x.Box.Cores.length c4,.slice a5 x.Box.Holds.length c5,.int .i64 x.Box.Tick,.slice a7 x.States.length c7] 35) ⟨(zr _).alloc _,Bk.new _ _ _⟩ ?_
 rintro W ⟨e1,kA⟩;have E:=zh e1;have KA:=zh kA;obtain⟨d0,d1,d2,d3,d4,d5,d6,d7⟩:=Bk.k8 kA;clear e1 kA;cases g:zDs x.Box
 ·have hm:Hid (zC9 x=false):=zh (by unfold zC9;rw[g];rfl)
  go_wp2_with (go_at_call 10;refine(zBm _ x.Box _ (Rv.mkMachine (h0.out.ext E.out) (h1.out.ext E.out) (h2.out.ext E.out) (h3.out.ext E.out) (h4.out.ext E.out) (h5.out.ext E.out) r6)).mono ?_;rintro e w1 ⟨rfl,he⟩;rw[g];have E1:=zh (E.out.tr he);have KAx:=KA.out.ext he;obtain⟨x0,x1,x2,x3,x4,x5,x6,x7⟩:=Bk.k8 KAx;clear he KAx)
  go_ret;exact⟨zA1 hm.out.symm,E1.out⟩
 by_cases hn:x.States.length=x.Box.Cores.length
 ·have hm:Hid (zC9 x=x.States.all zEa):=zh (by unfold zC9;rw[g,decide_eq_true hn];rfl)
  have hm2:=zh ((zB5 zEa x.States).trans hm.out.symm);have hb:((x.States.length:Int) == (x.Box.Cores.length:Int))=true:=beq_iff_eq.2 (by omega)
  clear hn
  go_wp2_with (first
   | (go_at_call 10;refine(zBm _ x.Box _ (Rv.mkMachine (h0.out.ext E.out) (h1.out.ext E.out) (h2.out.ext E.out) (h3.out.ext E.out) (h4.out.ext E.out) (h5.out.ext E.out) r6)).mono ?_;rintro e w1 ⟨rfl,he⟩;rw[g];have E1:=zh (E.out.tr he);have KAx:=KA.out.ext he;obtain⟨x0,x1,x2,x3,x4,x5,x6,x7⟩:=Bk.k8 KAx;clear he KAx)
   | (go_at_call 11;refine(HX.out _ E1.out).mono ?_;rintro e w2 ⟨rfl,he⟩;have E2:=zh (E1.out.tr he);clear he))
  go_ret;exact⟨zA1 hm2.out,E2.out⟩
 ·have hm:Hid (zC9 x=false):=zh (by unfold zC9;rw[g,decide_eq_false hn];rfl)
  have hb:((x.States.length:Int) == (x.Box.Cores.length:Int))=false:=beq_eq_false_iff_ne.2 (by omega)
  clear hn;go_wp2_with (go_at_call 10;refine(zBm _ x.Box _ (Rv.mkMachine (h0.out.ext E.out) (h1.out.ext E.out) (h2.out.ext E.out) (h3.out.ext E.out) (h4.out.ext E.out) (h5.out.ext E.out) r6)).mono ?_;rintro e w1 ⟨rfl,he⟩;rw[g];have E1:=zh (E.out.tr he);have KAx:=KA.out.ext he;obtain⟨x0,x1,x2,x3,x4,x5,x6,x7⟩:=Bk.k8 KAx;clear he KAx)
  go_ret;exact⟨zA1 hm.out.symm,E1.out⟩
theorem zFg(v:Value)(x:Watch)(w:World)(h:Rv w v x) :
  Calls Try.prog 6 #[v] w fun e w'=>e = .returned (.bool (zC9 x))/\Ext w w':=by
 obtain⟨a0,c0,a1,c1,a2,c2,a3,c3,a4,c4,a5,c5,a7,c7,rfl,r6,h0,l0,h1,l1,h2,l2,h3,l3,h4,l4,h5,l5,h7,l7⟩:=h.openWatch;clear h;go_enter Try.func6,Try.ntmps6;go_upto_region 1 with (fail)
 refine zA2 (fun W=>Ext w W/\Bk W w.heap.size [.slice a0 x.Box.Plan.Parts.length c0,.slice a1 x.Box.Plan.Channels.length c1,.slice a2 x.Box.Plan.Slots.length c2,.slice a3 x.Box.Programs.length c3,.slice a4 x.Box.Cores.length c4,.slice a5 x.Box.Holds.length c5,.int .i64 x.Box.Tick,.slice a7 x.States.length c7] 35) ⟨(zr _).alloc _,Bk.new _ _ _⟩ ?_
 rintro W ⟨e1,kA⟩;have E:=zh e1;have KA:=zh kA;clear e1 kA;go_wp2;go_loopw [3] (fun i wr => ∃ k:Nat,k<=x.States.length/\i = .int .i64 k/\Ext W wr/\∀ (j:Nat) (y:Health),j < k->x.States[j]? = some y->zEa y=true) (fun i _=>x.States.length - (intOf i).toNat)
 case atStart=>exact⟨0,Nat.zero_le _,rfl,zr _,fun j x hj _=>by omega⟩
 case round =>
  obtain⟨k,hk,rfl,er,hall⟩:=hrel;have ER:=zh (E.out.tr er);have EW:=zh er;have KR:=zh (KA.out.ext er);have HA:=zh hall;clear er hall;obtain⟨d0,d1,d2,d3,d4,d5,d6,d7⟩:=Bk.k8 KR.out;by_cases hkt:k < x.States.length
  ·obtain⟨b,o,y,rfl,hlt,hx,hc0,hc1,hrx,hyv⟩:=(h7.out.ext ER.out).atHealth k hkt;cases g:zEa y
   ·have hm:Hid (zC9 x=false):=zh (by
     cases e:zC9 x
     ·rfl
     ·have:=(zF9.1 e).hh y (List.mem_of_getElem? hx.out)
      rw[this] at g;cases g)
    go_wp2_with (go_at_call 14;refine(zD3 _ y _ hyv.out).mono ?_;rintro e w1 ⟨rfl,he⟩;rw[g];have E1:=zh (ER.out.tr he);clear he)
    go_ret;exact⟨zA1 hm.out.symm,E1.out⟩
   ·go_wp2_with (go_at_call 14;refine(zD3 _ y _ hyv.out).mono ?_;rintro e w1 ⟨rfl,he⟩;rw[g];have E1:=zh (EW.out.tr he);clear he)
    go_roundw
    case rel=>exact⟨k+1,by omega,by go_num,E1.out,fun j z hj hy=>by
     by_cases e:j=k
     ·subst e;rw[hx.out] at hy;obtain rfl:=Option.some.inj hy;exact g
     ·exact HA.out j z (by omega) hy⟩
    case measure=>simp[intOf];omega
  ·obtain rfl:k=x.States.length:=by omega
   have hA:Hid (x.States.all zEa=true):=zh (List.all_eq_true.2 fun y hx=>by
    obtain⟨j,hj,rfl⟩:=List.getElem_of_mem hx;exact HA.out j _ hj (List.getElem?_eq_getElem hj))
   clear HA EW hk hkt;cases g:zDs x.Box
   ·have hm:Hid (zC9 x=false):=zh (by unfold zC9;rw[g];rfl)
    go_wp2_with (go_at_call 15;refine(zAa _ x.Box _ (Rv.mkMachine (h0.out.ext ER.out) (h1.out.ext ER.out) (h2.out.ext ER.out) (h3.out.ext ER.out) (h4.out.ext ER.out) (h5.out.ext ER.out) r6)).mono ?_;rintro e w1 ⟨rfl,he⟩;rw[g];have E1:=zh (ER.out.tr he);have KAx:=KR.out.ext he;obtain⟨x0,x1,x2,x3,x4,x5,x6,x7⟩:=Bk.k8 KAx;clear he KAx)
    go_ret;exact⟨zA1 hm.out.symm,E1.out⟩
   by_cases hn:x.States.length=x.Box.Cores.length
   ·have hm:Hid (zC9 x=true):=zh (by unfold zC9;rw[g,decide_eq_true hn,hA.out];rfl)
    have hb:((x.States.length:Int) == (x.Box.Cores.length:Int))=true:=beq_iff_eq.2 (by omega)
    clear hn;go_wp2_with (go_at_call 15;refine(zAa _ x.Box _ (Rv.mkMachine (h0.out.ext ER.out) (h1.out.ext ER.out) (h2.out.ext ER.out) (h3.out.ext ER.out) (h4.out.ext ER.out) (h5.out.ext ER.out) r6)).mono ?_;rintro e w1 ⟨rfl,he⟩;rw[g];have E1:=zh (ER.out.tr he);have KAx:=KR.out.ext he;obtain⟨x0,x1,x2,x3,x4,x5,x6,x7⟩:=Bk.k8 KAx;clear he KAx)
    go_ret;exact⟨zA1 hm.out.symm,E1.out⟩
   ·have hm:Hid (zC9 x=false):=zh (by unfold zC9;rw[g,decide_eq_false hn];rfl)
    have hb:((x.States.length:Int) == (x.Box.Cores.length:Int))=false:=beq_eq_false_iff_ne.2 (by omega)
    clear hn;go_wp2_with (go_at_call 15;refine(zAa _ x.Box _ (Rv.mkMachine (h0.out.ext ER.out) (h1.out.ext ER.out) (h2.out.ext ER.out) (h3.out.ext ER.out) (h4.out.ext ER.out) (h5.out.ext ER.out) r6)).mono ?_;rintro e w1 ⟨rfl,he⟩;rw[g];have E1:=zh (ER.out.tr he);have KAx:=KR.out.ext he;obtain⟨x0,x1,x2,x3,x4,x5,x6,x7⟩:=Bk.k8 KAx;clear he KAx)
    go_ret;exact⟨zA1 hm.out.symm,E1.out⟩
set_option maxHeartbeats 1600000
def zH8(m:Machine)(n:Nat):Machine:={ m with Cores:=m.Cores.set n (zBw (m.Cores.getD n M.cz)) }
structure zFt (L b:Nat) (F:List Nat) (w W:World) (x:Watch) (F':List Nat):Prop where
 om:Om L W b 0 x F'
 ch:Chg b 0 8 F w W
 sub:∀ k∈F',k∈F\/w.heap.size<=k
 cl:∀ j,j≠6->W.cell? ⟨b,j,none⟩=w.cell? ⟨b,j,none⟩
theorem zFt.refl{L b:Nat}{F:List Nat}{w:World}{x:Watch}(h:Om L w b 0 x F):zFt L b F w w x F:=⟨h,Chg.refl _ _ _ _ _,fun _ h => .inl h,fun _ _=>rfl⟩
theorem zFt.lt{L b:Nat}{F F':List Nat}{w W:World}{x:Watch}(h:zFt L b F w W x F'):b < W.heap.size:=h.om.bk.1
theorem zFt.box{L b:Nat}{F F':List Nat}{w W:World}{x:Watch}(h:zFt L b F w W x F') :
  ∃ Fm,Om L W b 0 x.Box Fm/\(∀ k∈Fm,k∈F'/\k≠b)/\∀ W' m' Fm',zBj L b Fm W W' m' Fm'->∃ F2,zFt L b F w W' { x with Box:=m' } F2:=by
 obtain⟨_,_,_,ho⟩:=id h.om;obtain⟨Fm,lb⟩:=h.om.lWatchBox;refine⟨Fm,lb.om ho,Lens.fsub lb ho,fun W' m' Fm' tb=>?_⟩
 obtain⟨F2,h1,h2,h3⟩:=lb.back L W' m' Fm' ho tb.ch tb.om tb.sub;refine⟨F2,h1,h.ch.trF h3 h.sub,fun k hk=>?_,fun j hj=>(tb.cl j hj).trans (h.cl j hj)⟩
 rcases h2 k hk with h4|h4
 ·exact h.sub k h4
 ·rcases tb.sub k h4 with h5|h5
  ·exact h.sub k (Lens.fsub lb ho k h5).1
  ·exact .inr (Nat.le_trans h.ch.sz h5)
theorem zFt.st{L b:Nat}{F F':List Nat}{w W:World}{x:Watch}(h:zFt L b F w W x F'){g s n c N:Nat}(hv:w.cell? ⟨b,7,none⟩=some (.slice (some ⟨g,s,none⟩) n c))(hN:N < x.States.length) :
  ∃ k Fy,x.States[N]? = some k/\Om L W g (s+N*2) k Fy/\(∀ y∈g::Fy,y∈F'/\y≠b) /\
   ∀ W' k' Fy',Chg g (s+N*2) 2 Fy W W'->Om L W' g (s+N*2) k' Fy'->(∀ y∈Fy',y∈Fy\/W.heap.size<=y)->∃ F2,zFt L b F w W' { x with States:=x.States.set N k' } F2:=by
 obtain⟨_,_,_,ho⟩:=id h.om;obtain⟨Fc,lc⟩:=h.om.lWatchStates;obtain⟨g',s',Fy,k,e,hx,hsub,li⟩:=(lc.om ho).idxS (by rw[show 0+7=7 from rfl];exact(h.cl 7 (by decide)).trans hv) N hN
 cases e;have LC:=lc.comp li;have hs:∀ y∈g::Fy,y∈F'/\y≠b:=fun y hy=>Lens.fsub lc ho y (hsub y hy)
 refine⟨k,Fy,hx.out,LC.om ho,hs,fun W' k' Fy' hc hk' hf=>?_⟩
 obtain⟨F2,h1,h2,h3⟩:=LC.back L W' k' Fy' ho hc hk' hf;have hb:∀ j,W'.cell? ⟨b,j,none⟩=W.cell? ⟨b,j,none⟩:=fun j=>World.cell?_of_block (hc.keep h.lt (fun e=>(hs g (List.mem_cons_self ..)).2 e.symm) (fun hm=>(hs b (List.mem_cons_of_mem _ hm)).2 rfl))
 refine⟨F2,h1,h.ch.trF h3 h.sub,fun y hy=>?_,fun j hj=>(hb j).trans (h.cl j hj)⟩
 rcases h2 y hy with h4|h4
 ·exact h.sub y h4
 ·rcases hf y h4 with h5|h5
  ·exact h.sub y (hs y (List.mem_cons_of_mem _ h5)).1
  ·exact .inr (Nat.le_trans h.ch.sz h5)
theorem Om.openHe{L:Nat}{w:World}{b o:Nat}{x:Health}{F:List Nat}(h:Om L w b o x F):F = []/\w.cell? ⟨b,o,none⟩=some (.bool x.Frozen)/\w.cell? ⟨b,o+1,none⟩=some (.int .i64 x.Restarts)/\rng x.Restarts:=by
 obtain⟨cs,⟨rfl,r,rfl⟩,hat,_⟩:=h;exact⟨rfl,by simpa using hat 0 _ rfl,hat 1 _ rfl,r⟩
theorem zFt.putSt{L b:Nat}{F F':List Nat}{w W:World}{x:Watch}(h:zFt L b F w W x F'){g s n c N:Nat}(hv:w.cell? ⟨b,7,none⟩=some (.slice (some ⟨g,s,none⟩) n c))(hN:N < x.States.length)(k':Health)(hr:rng k'.Restarts) :
  ∃ F2,zFt L b F w ((W.setCell ⟨g,s+N*2,none⟩ (.bool k'.Frozen)).setCell ⟨g,s+N*2+1,none⟩ (.int .i64 k'.Restarts)) { x with States:=x.States.set N k' } F2:=by
 obtain⟨k,Fy,_,om,hs,hback⟩:=h.st hv hN;obtain⟨rfl,c0,c1,_⟩:=om.openHe;obtain⟨_,hen,hat,hown⟩:=id om;refine hback _ k' [] (((Chg.refl _ _ _ _ _).set ⟨Nat.le_refl _,by omega⟩ _).set ⟨by omega,by omega⟩ _) ⟨[.bool k'.Frozen,.int .i64 k'.Restarts],⟨rfl,hr,rfl⟩,?_,(hown.set _ _).set _ _⟩ (fun x hx=>by cases hx)
 intro j u hj
 match j,hj with
 | 0,hj=>cases hj;exact(zA4 (by omega)).trans (zAx c0)
 | 1,hj=>cases hj;exact zAx ((zA4 (by omega)).trans c1)
theorem zFt.stop{L b:Nat}{F F':List Nat}{w W:World}{x:Watch}(h:zFt L b F w W x F'){g s n c N:Nat}(hv:w.cell? ⟨b,4,none⟩=some (.slice (some ⟨g,s,none⟩) n c))(hN:N < x.Box.Cores.length) :
  ∃ F2,zFt L b F w (W.setCell ⟨g,s+N*3+2,none⟩ (.bool true)) { x with Box:=zH8 x.Box N } F2:=by
 obtain⟨Fm,om,_,hback⟩:=h.box;obtain⟨k,Fy,hk,omc,hs,hb2⟩:=(zBj.refl om).core ((h.cl 4 (by decide)).trans hv) hN
 obtain⟨_,_,_,hoc⟩:=id omc;obtain⟨Fs,ls⟩:=omc.lCoreStopped;obtain⟨F3,h1,h2,h3⟩:=ls.putB hoc true;have e:x.Box.Cores.getD N M.cz=k:=by rw[List.getD_eq_getElem?_getD,hk];rfl
 obtain⟨F4,tb⟩:=hb2 _ _ _ h3 h1 (fun y hy => .inl (h2 y hy))
 unfold zH8;rw[e];exact hback _ _ _ tb
theorem Om.wcells{L b:Nat}{F:List Nat}{w:World}{x:Watch}(h:Om L w b 0 x F){N:Nat}(hN:N < x.States.length)(hC:N < x.Box.Cores.length) :
  ∃ g7 s7 u7 g4 s4 u4,w.cell? ⟨b,7,none⟩=some (.slice (some ⟨g7,s7,none⟩) x.States.length u7)/\w.cell? ⟨b,4,none⟩=some (.slice (some ⟨g4,s4,none⟩) x.Box.Cores.length u4):=by
 obtain⟨_,_,_,ho⟩:=id h;obtain⟨F7,l7⟩:=h.lWatchStates;obtain⟨a7,u7,e7,_⟩:=(l7.om ho).cell;obtain⟨g7,s7,_,_,e,_⟩:=(l7.om ho).idxS e7 N hN;subst e;obtain⟨Fm,lb⟩:=h.lWatchBox;obtain⟨_,_,_,ho2⟩:=id (lb.om ho);obtain⟨F4,l4⟩:=(lb.om ho).lMachineCores;obtain⟨a4,u4,e4,_⟩:=(l4.om ho2).cell;obtain⟨g4,s4,_,_,e,_⟩:=(l4.om ho2).idxS e4 N hC;subst e;exact⟨g7,s7,u7,g4,s4,u4,e7,e4⟩
end Sk
