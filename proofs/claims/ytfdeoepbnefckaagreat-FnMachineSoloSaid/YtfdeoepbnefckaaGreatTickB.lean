/- Contracts of functions of the given program. -/
import Derived.Test.YtfdeoepbnefckaaGreatTickT
import Derived.Test.YtfdeoepbnefckaaGreatStep
namespace Sk
open Go Go.Proofs Go.RowKit
set_option maxHeartbeats 1000000
set_option linter.unusedVariables false
set_option linter.unusedSimpArgs false
theorem Om.putTickO{L:Nat}{w:World}{b off:Nat}{m:Machine}{F:List Nat}(h:Om L w b off m F)(u:Int)(hu:rng u):∃ F',Om L (w.setCell ⟨b,off+6,none⟩ (.int .i64 u)) b off { m with Tick:=u } F'/\(∀ k∈F',k∈F)/\Chg b off 7 F w (w.setCell ⟨b,off+6,none⟩ (.int .i64 u)):=by
 obtain⟨_,_,_,ho⟩:=id h;obtain⟨Fc,lc⟩:=h.lMachineTick;exact lc.putI ho u hu
theorem Om.openMo{L:Nat}{w:World}{b off:Nat}{m:Machine}{F:List Nat}(h:Om L w b off m F):∃ a0 c0 a1 c1 a2 c2 a3 c3 a4 c4 a5 c5,w.cell? ⟨b,off+0,none⟩=some (.slice a0 m.Plan.Parts.length c0)/\w.cell? ⟨b,off+1,none⟩=some (.slice a1 m.Plan.Channels.length c1)/\w.cell? ⟨b,off+2,none⟩=some (.slice a2 m.Plan.Slots.length c2)/\w.cell? ⟨b,off+3,none⟩=some (.slice a3 m.Programs.length c3)/\w.cell? ⟨b,off+4,none⟩=some (.slice a4 m.Cores.length c4)/\w.cell? ⟨b,off+5,none⟩=some (.slice a5 m.Holds.length c5)/\w.cell? ⟨b,off+6,none⟩=some (.int .i64 m.Tick)/\Rs w (.slice a0 m.Plan.Parts.length c0) m.Plan.Parts/\Rs w (.slice a1 m.Plan.Channels.length c1) m.Plan.Channels/\Rs w (.slice a2 m.Plan.Slots.length c2) m.Plan.Slots/\Rs w (.slice a3 m.Programs.length c3) m.Programs/\Rs w (.slice a4 m.Cores.length c4) m.Cores/\Rs w (.slice a5 m.Holds.length c5) m.Holds:=by
 obtain⟨cs,⟨v0,v1,v2,v3,v4,v5,F0,F1,F2,F3,F4,F5,rfl,h0,h1,h2,h3,h4,h5,r6,rfl⟩,hat,ho⟩:=h;obtain⟨a0,c0,rfl,_⟩:=id h0;obtain⟨a1,c1,rfl,_⟩:=id h1;obtain⟨a2,c2,rfl,_⟩:=id h2;obtain⟨a3,c3,rfl,_⟩:=id h3;obtain⟨a4,c4,rfl,_⟩:=id h4;obtain⟨a5,c5,rfl,_⟩:=id h5;exact⟨_,_,_,_,_,_,_,_,_,_,_,_,hat 0 _ rfl,hat 1 _ rfl,hat 2 _ rfl,hat 3 _ rfl,hat 4 _ rfl,hat 5 _ rfl,hat 6 _ rfl,⟨_,h0⟩,⟨_,h1⟩,⟨_,h2⟩,⟨_,h3⟩,⟨_,h4⟩,⟨_,h5⟩⟩
structure zB3 (L b off:Nat) (F:List Nat) (w W:World) (m:Machine) (F':List Nat):Prop where
 om:Om L W b off m F'
 ch:Chg b off 7 F w W
 sub:∀ k∈F',k∈F\/w.heap.size<=k
 cl:∀ j,j≠6->W.cell? ⟨b,off+j,none⟩=w.cell? ⟨b,off+j,none⟩
theorem zB3.refl{L b off:Nat}{F:List Nat}{w:World}{m:Machine}(h:Om L w b off m F):zB3 L b off F w w m F:=⟨h,Chg.refl _ _ _ _ _,fun _ h => .inl h,fun _ _=>rfl⟩
theorem zB3.lt{L b off:Nat}{F F':List Nat}{w W:World}{m:Machine}(h:zB3 L b off F w W m F'):b < W.heap.size:=h.om.bk.1
theorem zB3.ltF{L b off:Nat}{F F':List Nat}{w W:World}{m:Machine}(h:zB3 L b off F w W m F'):∀ k∈F',k < W.heap.size:=fun k hk=>by
 obtain⟨_,_,_,ho⟩:=id h.om;exact ho.lt (List.mem_cons_of_mem _ hk)
theorem zB3.fz{L b off:Nat}{F F':List Nat}{w W:World}{m:Machine}(h:zB3 L b off F w W m F'):∀ j,W.frozen? ⟨b,j,none⟩=false:=h.om.bk.2.2.2
theorem zB3.ext{L b off:Nat}{F F':List Nat}{w W W':World}{m:Machine}(h:zB3 L b off F w W m F')(he:Ext W W'):zB3 L b off F w W' m F' :=
 ⟨h.om.ext he,h.ch.tr (Chg.ofExt he h.lt),h.sub,fun j hj=>(zA0 he h.lt).trans (h.cl j hj)⟩
theorem zB3.trans{L b off:Nat}{F F1 F2:List Nat}{w W W':World}{m m':Machine}(h:zB3 L b off F w W m F1)(k:zB3 L b off F1 W W' m' F2):zB3 L b off F w W' m' F2 :=
 ⟨k.om,h.ch.trF k.ch h.sub,fun x hx=>(k.sub x hx).elim (fun h1=>h.sub x h1) (fun h1 => .inr (Nat.le_trans h.ch.sz h1)),fun j hj=>(k.cl j hj).trans (h.cl j hj)⟩
theorem zB3.bk{L b off:Nat}{F F':List Nat}{w W:World}{m:Machine}(h:zB3 L b off F w W m F'){k:Nat}{cs:List Value}{T:TypeId}(hk:Bk w k cs T)(hb:k≠b)(hF:k ∉ F):Bk W k cs T:=h.ch.bk hk hb hF
theorem zB3.tick{L b off:Nat}{F F':List Nat}{w W:World}{m:Machine}(h:zB3 L b off F w W m F')(u:Int)(hu:rng u):∃ F2,zB3 L b off F w (W.setCell ⟨b,off+6,none⟩ (.int .i64 u)) { m with Tick:=u } F2:=by
 obtain⟨F2,h1,h2,h3⟩:=h.om.putTickO u hu;exact⟨F2,h1,h.ch.trF h3 h.sub,fun k hk=>h.sub k (h2 k hk),fun j hj=>(zA6 (fun e=>hj (by omega))).trans (h.cl j hj)⟩
theorem zB3.core{L b off:Nat}{F F':List Nat}{w W:World}{m:Machine}(h:zB3 L b off F w W m F'){g s n c N:Nat}(hv:w.cell? ⟨b,off+4,none⟩=some (.slice (some ⟨g,s,none⟩) n c))(hN:N < m.Cores.length) :
  ∃ k Fy,m.Cores[N]? = some k/\Om L W g (s+N*3) k Fy/\(∀ x∈g::Fy,x∈F'/\x≠b) /\
   ∀ W' k' Fy',Chg g (s+N*3) 3 Fy W W'->Om L W' g (s+N*3) k' Fy'->(∀ x∈Fy',x∈Fy\/W.heap.size<=x)->∃ F2,zB3 L b off F w W' { m with Cores:=m.Cores.set N k' } F2:=by
 obtain⟨_,_,_,ho⟩:=id h.om;obtain⟨Fc,lc⟩:=h.om.lMachineCores;obtain⟨g',s',Fy,k,e,hx,hsub,li⟩:=(lc.om ho).idxS ((h.cl 4 (by decide)).trans hv) N hN
 cases e;have LC:=lc.comp li;have hs:∀ x∈g::Fy,x∈F'/\x≠b:=fun x hx=>Lens.fsub lc ho x (hsub x hx)
 refine⟨k,Fy,hx.out,LC.om ho,hs,fun W' k' Fy' hc hk' hf=>?_⟩
 obtain⟨F2,h1,h2,h3⟩:=LC.back L W' k' Fy' ho hc hk' hf;have hb:∀ j,W'.cell? ⟨b,off+j,none⟩=W.cell? ⟨b,off+j,none⟩:=fun j=>World.cell?_of_block (hc.keep h.lt (fun e=>(hs g (List.mem_cons_self ..)).2 e.symm) (fun hm=>(hs b (List.mem_cons_of_mem _ hm)).2 rfl))
 refine⟨F2,h1,h.ch.trF h3 h.sub,fun x hx=>?_,fun j hj=>(hb j).trans (h.cl j hj)⟩
 rcases h2 x hx with h4|h4
 ·exact h.sub x h4
 ·rcases hf x h4 with h5|h5
  ·exact h.sub x (hs x (List.mem_cons_of_mem _ h5)).1
  ·exact .inr (Nat.le_trans h.ch.sz h5)
theorem zB3.hold{L b off:Nat}{F F':List Nat}{w W:World}{m:Machine}(h:zB3 L b off F w W m F'){g s n c N:Nat}(hv:w.cell? ⟨b,off+5,none⟩=some (.slice (some ⟨g,s,none⟩) n c))(hN:N < m.Holds.length) :
  ∃ k Fy,m.Holds[N]? = some k/\Om L W g (s+N) k Fy/\(∀ x∈g::Fy,x∈F'/\x≠b) /\
   ∀ W' k' Fy',Chg g (s+N) 1 Fy W W'->Om L W' g (s+N) k' Fy'->(∀ x∈Fy',x∈Fy\/W.heap.size<=x)->∃ F2,zB3 L b off F w W' { m with Holds:=m.Holds.set N k' } F2:=by
 obtain⟨_,_,_,ho⟩:=id h.om;obtain⟨Fc,lc⟩:=h.om.lMachineHolds;obtain⟨g',s',Fy,k,e,hx,hsub,li⟩:=(lc.om ho).idxS ((h.cl 5 (by decide)).trans hv) N hN
 cases e;have LC:=lc.comp li;have hs:∀ x∈g::Fy,x∈F'/\x≠b:=fun x hx=>Lens.fsub lc ho x (hsub x hx)
 simp only[GT.sz,Nat.mul_one] at LC;refine⟨k,Fy,hx.out,LC.om ho,hs,fun W' k' Fy' hc hk' hf=>?_⟩
 obtain⟨F2,h1,h2,h3⟩:=LC.back L W' k' Fy' ho hc hk' hf;have hb:∀ j,W'.cell? ⟨b,off+j,none⟩=W.cell? ⟨b,off+j,none⟩:=fun j=>World.cell?_of_block (hc.keep h.lt (fun e=>(hs g (List.mem_cons_self ..)).2 e.symm) (fun hm=>(hs b (List.mem_cons_of_mem _ hm)).2 rfl))
 refine⟨F2,h1,h.ch.trF h3 h.sub,fun x hx=>?_,fun j hj=>(hb j).trans (h.cl j hj)⟩
 rcases h2 x hx with h4|h4
 ·exact h.sub x h4
 ·rcases hf x h4 with h5|h5
  ·exact h.sub x (hs x (List.mem_cons_of_mem _ h5)).1
  ·exact .inr (Nat.le_trans h.ch.sz h5)
structure zHl (L b:Nat) (F:List Nat) (w W:World) (m:Machine) (F':List Nat):Prop where
 om:Om L W b 0 m F'
 ch:Chg b 0 7 F w W
 sub:∀ k∈F',k∈F\/w.heap.size<=k
 cl:∀ j,j≠6->W.cell? ⟨b,j,none⟩=w.cell? ⟨b,j,none⟩
theorem zB3.tb{L b:Nat}{F F':List Nat}{w W:World}{m:Machine}(h:zB3 L b 0 F w W m F'):zHl L b F w W m F':=⟨h.om,h.ch,h.sub,fun j hj=>by simpa using h.cl j hj⟩
theorem zHl.tbo{L b:Nat}{F F':List Nat}{w W:World}{m:Machine}(h:zHl L b F w W m F'):zB3 L b 0 F w W m F':=⟨h.om,h.ch,h.sub,fun j hj=>by simpa using h.cl j hj⟩
theorem zHl.refl{L b:Nat}{F:List Nat}{w:World}{m:Machine}(h:Om L w b 0 m F):zHl L b F w w m F:=(zB3.refl h).tb
theorem zHl.lt{L b:Nat}{F F':List Nat}{w W:World}{m:Machine}(h:zHl L b F w W m F'):b < W.heap.size:=h.om.bk.1
theorem zHl.trans{L b:Nat}{F F1 F2:List Nat}{w W W':World}{m m':Machine}(h:zHl L b F w W m F1)(k:zHl L b F1 W W' m' F2):zHl L b F w W' m' F2:=(h.tbo.trans k.tbo).tb
theorem zHl.bk{L b:Nat}{F F':List Nat}{w W:World}{m:Machine}(h:zHl L b F w W m F'){k:Nat}{cs:List Value}{T:TypeId}(hk:Bk w k cs T)(hb:k≠b)(hF:k ∉ F):Bk W k cs T:=h.ch.bk hk hb hF
theorem Om.openH{L:Nat}{w:World}{b o:Nat}{x:Hold}{F:List Nat}(h:Om L w b o x F):∃ v,w.cell? ⟨b,o,none⟩=some v/\Rv w (.agg #[v]) x:=by
 obtain⟨cs,he,hat,ho⟩:=h;obtain⟨v,rfl,hs⟩:=id he;exact⟨v,by simpa using hat 0 _ rfl,[v],F,rfl,he⟩
theorem Om.openHs{L:Nat}{w:World}{b o:Nat}{x:Hold}{F:List Nat}(h:Om L w b o x F):∃ a c,w.cell? ⟨b,o,none⟩=some (.slice a x.Lst.length c)/\Rv w (.agg #[.slice a x.Lst.length c]) x:=by
 obtain⟨cs,he,hat,ho⟩:=h;obtain⟨v,rfl,hs⟩:=id he;obtain⟨a,c,rfl,_⟩:=id hs;exact⟨a,c,by simpa using hat 0 _ rfl,_,F,rfl,he⟩
theorem Om.putHold{L M:Nat}{w W:World}{g o:Nat}{x y:Hold}{F G:List Nat}{v:Value}(h:Om L w g o x F)(he:Ext w W)(hL:L<=M)(hM:w.heap.size<=M)(hy:GT.enc W [v] y G)(hG:Own M W G) :
  Chg g o 1 F w (W.setCell ⟨g,o,none⟩ v)/\Om L (W.setCell ⟨g,o,none⟩ v) g o y G/\∀ k∈G,w.heap.size<=k:=by
 obtain⟨hlt,hLg,hgF,_⟩:=h.bk;obtain⟨u,hc,_⟩:=h.openH;have hgG:g ∉ G:=fun hm=>by have:=(hG.2 g hm).1;omega
 refine⟨(Chg.ofExt he hlt).set ⟨Nat.le_refl _,by omega⟩ v,⟨[v],GT.keep hy (fun k hk=>zA8 (fun e=>hgG (by have e:k=g:=e;rw[<- e];exact hk))),fun j u hj=>?_,List.nodup_cons.2 ⟨hgG,hG.1⟩,fun k hk=>?_⟩,fun k hk=>Nat.le_trans hM (hG.2 k hk).1⟩
 ·match j,hj with
  | 0,hj=>cases hj;exact zAu ((zA0 he hlt).trans hc)
 ·rcases List.mem_cons.1 hk with rfl|hk
  ·exact⟨hLg,(h.own0.ext he).set _ _⟩
  ·exact⟨Nat.le_trans hL (hG.2 k hk).1,(hG.2 k hk).2.set _ _⟩
end Sk
