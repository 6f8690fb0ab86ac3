/- Contracts of functions of the given program. -/
import Derived.Test.YtbekofpkcahbkaaTickT
import Derived.Test.YtbekofpkcahbkaaTabt
namespace Sk
open Go Go.Proofs Go.RowKit
set_option maxHeartbeats 1000000
set_option linter.unusedVariables false
set_option linter.unusedSimpArgs false
theorem Om.putTickO{L:Nat}{w:World}{b off:Nat}{m:Machine}{F:List Nat}(h:Om L w b off m F)(u:Int)(hu:rng u):∃ F',Om L (w.setCell ⟨b,off+6,none⟩ (.int .i64 u)) b off { m with Tick:=u } F'/\(∀ k∈F',k∈F)/\Chg b off 7 F w (w.setCell ⟨b,off+6,none⟩ (.int .i64 u)):=by
 obtain⟨_,_,_,ho⟩:=id h;obtain⟨Fc,lc⟩:=h.lMachineTick;exact lc.putI ho u hu
theorem Om.putTick{L:Nat}{w:World}{b:Nat}{m:Machine}{F:List Nat}(h:Om L w b 0 m F)(u:Int)(hu:rng u):∃ F',Om L (w.setCell ⟨b,6,none⟩ (.int .i64 u)) b 0 { m with Tick:=u } F'/\(∀ k∈F',k∈F)/\Chg b 0 7 F w (w.setCell ⟨b,6,none⟩ (.int .i64 u)):=by simpa using h.putTickO u hu
structure zCk (L b off:Nat) (F:List Nat) (w W:World) (m:Machine) (F':List Nat):Prop where
 om:Om L W b off m F'
 ch:Chg b off 7 F w W
 sub:∀ k∈F',k∈F\/w.heap.size<=k
 cl:∀ j,j≠6->W.cell? ⟨b,off+j,none⟩=w.cell? ⟨b,off+j,none⟩
theorem zCk.refl{L b off:Nat}{F:List Nat}{w:World}{m:Machine}(h:Om L w b off m F):zCk L b off F w w m F:=⟨h,Chg.refl _ _ _ _ _,fun _ h => .inl h,fun _ _=>rfl⟩
theorem zCk.lt{L b off:Nat}{F F':List Nat}{w W:World}{m:Machine}(h:zCk L b off F w W m F'):b < W.heap.size:=h.om.bk.1
theorem zCk.ltF{L b off:Nat}{F F':List Nat}{w W:World}{m:Machine}(h:zCk L b off F w W m F'):∀ k∈F',k < W.heap.size:=fun k hk=>by
 obtain⟨_,_,_,ho⟩:=id h.om;exact ho.lt (List.mem_cons_of_mem _ hk)
theorem zCk.ext{L b off:Nat}{F F':List Nat}{w W W':World}{m:Machine}(h:zCk L b off F w W m F')(he:Ext W W'):zCk L b off F w W' m F' :=
 ⟨h.om.ext he,h.ch.tr (Chg.ofExt he h.lt),h.sub,fun j hj=>(zA0 he h.lt).trans (h.cl j hj)⟩
theorem zCk.tick{L b off:Nat}{F F':List Nat}{w W:World}{m:Machine}(h:zCk L b off F w W m F')(u:Int)(hu:rng u):∃ F2,zCk L b off F w (W.setCell ⟨b,off+6,none⟩ (.int .i64 u)) { m with Tick:=u } F2:=by
 obtain⟨F2,h1,h2,h3⟩:=h.om.putTickO u hu;exact⟨F2,h1,h.ch.trF h3 h.sub,fun k hk=>h.sub k (h2 k hk),fun j hj=>(zA7 (fun e=>hj (by omega))).trans (h.cl j hj)⟩
theorem zCk.core{L b off:Nat}{F F':List Nat}{w W:World}{m:Machine}(h:zCk L b off F w W m F'){g s n c N:Nat}(hv:w.cell? ⟨b,off+4,none⟩=some (.slice (some ⟨g,s,none⟩) n c))(hN:N < m.Cores.length) :
  ∃ k Fy,m.Cores[N]? = some k/\Om L W g (s+N*3) k Fy/\(∀ x∈g::Fy,x∈F'/\x≠b) /\
   ∀ W' k' Fy',Chg g (s+N*3) 3 Fy W W'->Om L W' g (s+N*3) k' Fy'->(∀ x∈Fy',x∈Fy\/W.heap.size<=x)->∃ F2,zCk L b off F w W' { m with Cores:=m.Cores.set N k' } F2:=by
 obtain⟨_,_,_,ho⟩:=id h.om;obtain⟨Fc,lc⟩:=h.om.lMachineCores;obtain⟨g',s',Fy,k,e,hx,hsub,li⟩:=(lc.om ho).idxS ((h.cl 4 (by decide)).trans hv) N hN
 cases e;have LC:=lc.comp li;have hs:∀ x∈g::Fy,x∈F'/\x≠b:=fun x hx=>Lens.fsub lc ho x (hsub x hx)
 refine⟨k,Fy,hx.out,LC.om ho,hs,fun W' k' Fy' hc hk' hf=>?_⟩
 obtain⟨F2,h1,h2,h3⟩:=LC.back L W' k' Fy' ho hc hk' hf;have hb:∀ j,W'.cell? ⟨b,off+j,none⟩=W.cell? ⟨b,off+j,none⟩:=fun j=>World.cell?_of_block (hc.keep h.lt (fun e=>(hs g (List.mem_cons_self ..)).2 e.symm) (fun hm=>(hs b (List.mem_cons_of_mem _ hm)).2 rfl))
 refine⟨F2,h1,h.ch.trF h3 h.sub,fun x hx=>?_,fun j hj=>(hb j).trans (h.cl j hj)⟩
 rcases h2 x hx with h4|h4
 ·exact h.sub x h4
 ·rcases hf x h4 with h5|h5
  ·exact h.sub x (hs x (List.mem_cons_of_mem _ h5)).1
  ·exact .inr (Nat.le_trans h.ch.sz h5)
theorem zCk.hold{L b off:Nat}{F F':List Nat}{w W:World}{m:Machine}(h:zCk L b off F w W m F'){g s n c N:Nat}(hv:w.cell? ⟨b,off+5,none⟩=some (.slice (some ⟨g,s,none⟩) n c))(hN:N < m.Holds.length) :
  ∃ k Fy,m.Holds[N]? = some k/\Om L W g (s+N) k Fy/\(∀ x∈g::Fy,x∈F'/\x≠b) /\
   ∀ W' k' Fy',Chg g (s+N) 1 Fy W W'->Om L W' g (s+N) k' Fy'->(∀ x∈Fy',x∈Fy\/W.heap.size<=x)->∃ F2,zCk L b off F w W' { m with Holds:=m.Holds.set N k' } F2:=by
 obtain⟨_,_,_,ho⟩:=id h.om;obtain⟨Fc,lc⟩:=h.om.lMachineHolds;obtain⟨g',s',Fy,k,e,hx,hsub,li⟩:=(lc.om ho).idxS ((h.cl 5 (by decide)).trans hv) N hN
 cases e;have LC:=lc.comp li;have hs:∀ x∈g::Fy,x∈F'/\x≠b:=fun x hx=>Lens.fsub lc ho x (hsub x hx)
 simp only[GT.sz,Nat.mul_one] at LC;refine⟨k,Fy,hx.out,LC.om ho,hs,fun W' k' Fy' hc hk' hf=>?_⟩
 obtain⟨F2,h1,h2,h3⟩:=LC.back L W' k' Fy' ho hc hk' hf;have hb:∀ j,W'.cell? ⟨b,off+j,none⟩=W.cell? ⟨b,off+j,none⟩:=fun j=>World.cell?_of_block (hc.keep h.lt (fun e=>(hs g (List.mem_cons_self ..)).2 e.symm) (fun hm=>(hs b (List.mem_cons_of_mem _ hm)).2 rfl))
 refine⟨F2,h1,h.ch.trF h3 h.sub,fun x hx=>?_,fun j hj=>(hb j).trans (h.cl j hj)⟩
 rcases h2 x hx with h4|h4
 ·exact h.sub x h4
 ·rcases hf x h4 with h5|h5
  ·exact h.sub x (hs x (List.mem_cons_of_mem _ h5)).1
  ·exact .inr (Nat.le_trans h.ch.sz h5)
structure zBw (L b:Nat) (F:List Nat) (w W:World) (m:Machine) (F':List Nat):Prop where
 om:Om L W b 0 m F'
 ch:Chg b 0 7 F w W
 sub:∀ k∈F',k∈F\/w.heap.size<=k
 cl:∀ j,j≠6->W.cell? ⟨b,j,none⟩=w.cell? ⟨b,j,none⟩
theorem zCk.tb{L b:Nat}{F F':List Nat}{w W:World}{m:Machine}(h:zCk L b 0 F w W m F'):zBw L b F w W m F':=⟨h.om,h.ch,h.sub,fun j hj=>by simpa using h.cl j hj⟩
theorem zBw.tbo{L b:Nat}{F F':List Nat}{w W:World}{m:Machine}(h:zBw L b F w W m F'):zCk L b 0 F w W m F':=⟨h.om,h.ch,h.sub,fun j hj=>by simpa using h.cl j hj⟩
theorem zBw.refl{L b:Nat}{F:List Nat}{w:World}{m:Machine}(h:Om L w b 0 m F):zBw L b F w w m F:=(zCk.refl h).tb
theorem zBw.lt{L b:Nat}{F F':List Nat}{w W:World}{m:Machine}(h:zBw L b F w W m F'):b < W.heap.size:=h.om.bk.1
theorem zBw.ltF{L b:Nat}{F F':List Nat}{w W:World}{m:Machine}(h:zBw L b F w W m F'):∀ k∈F',k < W.heap.size:=h.tbo.ltF
theorem zBw.fz{L b:Nat}{F F':List Nat}{w W:World}{m:Machine}(h:zBw L b F w W m F'):∀ j,W.frozen? ⟨b,j,none⟩=false:=h.om.bk.2.2.2
theorem zBw.ext{L b:Nat}{F F':List Nat}{w W W':World}{m:Machine}(h:zBw L b F w W m F')(he:Ext W W'):zBw L b F w W' m F':=(h.tbo.ext he).tb
theorem zBw.bk{L b:Nat}{F F':List Nat}{w W:World}{m:Machine}(h:zBw L b F w W m F'){k:Nat}{cs:List Value}{T:TypeId}(hk:Bk w k cs T)(hb:k≠b)(hF:k ∉ F):Bk W k cs T:=h.ch.bk hk hb hF
theorem zBw.tick{L b:Nat}{F F':List Nat}{w W:World}{m:Machine}(h:zBw L b F w W m F')(u:Int)(hu:rng u):∃ F2,zBw L b F w (W.setCell ⟨b,6,none⟩ (.int .i64 u)) { m with Tick:=u } F2:=by
 obtain⟨F2,h2⟩:=h.tbo.tick u hu;exact⟨F2,by simpa using h2.tb⟩
theorem zBw.core{L b:Nat}{F F':List Nat}{w W:World}{m:Machine}(h:zBw L b F w W m F'){g s n c N:Nat}(hv:w.cell? ⟨b,4,none⟩=some (.slice (some ⟨g,s,none⟩) n c))(hN:N < m.Cores.length) :
  ∃ k Fy,m.Cores[N]? = some k/\Om L W g (s+N*3) k Fy/\(∀ x∈g::Fy,x∈F'/\x≠b) /\
   ∀ W' k' Fy',Chg g (s+N*3) 3 Fy W W'->Om L W' g (s+N*3) k' Fy'->(∀ x∈Fy',x∈Fy\/W.heap.size<=x)->∃ F2,zBw L b F w W' { m with Cores:=m.Cores.set N k' } F2:=by
 obtain⟨k,Fy,h1,h2,h3,h4⟩:=h.tbo.core (g:=g) (s:=s) (n:=n) (c:=c) (by simpa using hv) hN
 exact⟨k,Fy,h1,h2,h3,fun W' k' Fy' a b c=>(h4 W' k' Fy' a b c).imp fun _ h=>h.tb⟩
theorem zBw.hold{L b:Nat}{F F':List Nat}{w W:World}{m:Machine}(h:zBw L b F w W m F'){g s n c N:Nat}(hv:w.cell? ⟨b,5,none⟩=some (.slice (some ⟨g,s,none⟩) n c))(hN:N < m.Holds.length) :
  ∃ k Fy,m.Holds[N]? = some k/\Om L W g (s+N) k Fy/\(∀ x∈g::Fy,x∈F'/\x≠b) /\
   ∀ W' k' Fy',Chg g (s+N) 1 Fy W W'->Om L W' g (s+N) k' Fy'->(∀ x∈Fy',x∈Fy\/W.heap.size<=x)->∃ F2,zBw L b F w W' { m with Holds:=m.Holds.set N k' } F2:=by
 obtain⟨k,Fy,h1,h2,h3,h4⟩:=h.tbo.hold (g:=g) (s:=s) (n:=n) (c:=c) (by simpa using hv) hN
 exact⟨k,Fy,h1,h2,h3,fun W' k' Fy' a b c=>(h4 W' k' Fy' a b c).imp fun _ h=>h.tb⟩
theorem Om.openH{L:Nat}{w:World}{b o:Nat}{x:Hold}{F:List Nat}(h:Om L w b o x F):∃ v,w.cell? ⟨b,o,none⟩=some v/\Rv w (.agg #[v]) x:=by
 obtain⟨cs,he,hat,ho⟩:=h;obtain⟨v,rfl,hs⟩:=id he;exact⟨v,by simpa using hat 0 _ rfl,[v],F,rfl,he⟩
theorem Om.openHs{L:Nat}{w:World}{b o:Nat}{x:Hold}{F:List Nat}(h:Om L w b o x F):∃ a c,w.cell? ⟨b,o,none⟩=some (.slice a x.Lst.length c)/\Rv w (.agg #[.slice a x.Lst.length c]) x:=by
 obtain⟨cs,he,hat,ho⟩:=h;obtain⟨v,rfl,hs⟩:=id he;obtain⟨a,c,rfl,_⟩:=id hs;exact⟨a,c,by simpa using hat 0 _ rfl,_,F,rfl,he⟩
theorem Om.putHold{L M:Nat}{w W:World}{g o:Nat}{x y:Hold}{F G:List Nat}{v:Value}(h:Om L w g o x F)(he:Ext w W)(hL:L<=M)(hM:w.heap.size<=M)(hy:GT.enc W [v] y G)(hG:Own M W G) :
  Chg g o 1 F w (W.setCell ⟨g,o,none⟩ v)/\Om L (W.setCell ⟨g,o,none⟩ v) g o y G/\∀ k∈G,w.heap.size<=k:=by
 obtain⟨hlt,hLg,hgF,_⟩:=h.bk;obtain⟨u,hc,_⟩:=h.openH;have hgG:g ∉ G:=fun hm=>by have:=(hG.2 g hm).1;omega
 refine⟨(Chg.ofExt he hlt).set ⟨Nat.le_refl _,by omega⟩ v,⟨[v],GT.keep hy (fun k hk=>zA3 (fun e=>hgG (by have e:k=g:=e;rw[<- e];exact hk))),fun j u hj=>?_,List.nodup_cons.2 ⟨hgG,hG.1⟩,fun k hk=>?_⟩,fun k hk=>Nat.le_trans hM (hG.2 k hk).1⟩
 ·match j,hj with
  | 0,hj=>cases hj;exact zB8 ((zA0 he hlt).trans hc)
 ·rcases List.mem_cons.1 hk with rfl|hk
  ·exact⟨hLg,(h.own0.ext he).set _ _⟩
  ·exact⟨Nat.le_trans hL (hG.2 k hk).1,(hG.2 k hk).2.set _ _⟩
set_option maxHeartbeats 4000000
set_option maxRecDepth 100000
noncomputable def zD3(m:Machine)(t q:Int):Bool:=zDm m && (zA5 t 0 q && decide (m.Tick+t<=100000))
theorem zFv{m:Machine}{t q:Int}:zD3 m t q=true ↔ zBm m/\(0<=t/\t<=q)/\m.Tick+t<=100000:=by
 unfold zD3;simp only[Bool.and_eq_true,zDe,zA4,decide_eq_true_eq]
def zCt(m:Machine):Nat->Machine
 | 0=>m
 | k+1=>zB3 (zCt m k)
theorem zG8{m:Machine}(h:zBm m):∀ k:Nat,m.Tick+k<=100000->zBm (zCt m k)/\(zCt m k).Tick=m.Tick+k/\(zCt m k).Plan=m.Plan/\(zCt m k).Programs=m.Programs/\(zCt m k).Cores.length=m.Cores.length/\(zCt m k).Holds.length=m.Holds.length:=by
 intro k
 induction k with
 | zero=>intro _;exact⟨h,(Int.add_zero _).symm,rfl,rfl,rfl,rfl⟩
 | succ k ih =>
  intro hk;obtain⟨h1,h2,h3,h4,h5,h6⟩:=ih (by omega)
  refine⟨zJ1 h1 (by omega),?_,?_,?_,?_,?_⟩
  ·show(zB3 _).Tick=_
   rw[zHi,h2];show _=m.Tick+((k+1:Nat):Int);omega
  ·show(zB3 _).Plan=_
   rw[zHg,h3]
  ·show(zB3 _).Programs=_
   rw[zGy,h4]
  ·show(zB3 _).Cores.length=_
   rw[zGw,h5]
  ·show(zB3 _).Holds.length=_
   rw[zGx,h6]
noncomputable def zHu(m:Machine)(t:Int):Machine:=if zD3 m t 400=true then zCt m t.toNat else M.mz
theorem zG7{m:Machine}{t:Int}(h:zD3 m t 400=false):zHu m t=M.mz:=if_neg (fun k=>by rw[h] at k;cases k)
theorem zHv{m:Machine}{t:Nat}(h:zD3 m t 400=true):zHu m t=zCt m t:=if_pos h
noncomputable def zBz(m:Machine):Machine:=if zDm m=true/\¬ m.Tick=100000 then zB3 m else M.mz
theorem zIg{m:Machine}(h:zDm m=false):zBz m=M.mz:=if_neg (fun k=>by rw[h] at k;cases k.1)
theorem zIh{m:Machine}(h:m.Tick=100000):zBz m=M.mz:=if_neg (fun k=>k.2 h)
theorem zGv{m:Machine}(h:zDm m=true)(ht:¬ m.Tick=100000):zBz m=zB3 m:=if_pos ⟨h,ht⟩
def Bx{α:Type}[GT α](L:Nat)(w:World)(b:Nat)(x : α)(T:TypeId):Prop:=∃ cs F,Bk w b cs T/\GT.enc w cs x F/\Own L w F
theorem Ext.puts{a:World}{b:Nat}(hb:a.heap.size<=b)(cs:List Value):∀ {w:World} {o:Nat},Ext a w->Ext a (zA8 w b o cs):=by
 induction cs with
 | nil=>intro w o h;exact h
 | cons c cs ih=>intro w o h;rw[zA8];exact ih (h.set (p:=⟨b,o,none⟩) hb c)
theorem Own.puts{L b:Nat}{F:List Nat}(cs:List Value):∀ {w:World} {o:Nat},Own L w F->Own L (zA8 w b o cs) F:=by
 induction cs with
 | nil=>intro w o h;exact h
 | cons c cs ih=>intro w o h;rw[zA8];exact ih (h.set ⟨b,o,none⟩ c)
theorem Bx.put{α:Type}[GT α]{L M:Nat}{w:World}{b:Nat}{y : α}{T:TypeId}{cs0 cs:List Value}{F:List Nat}(hb:Bk w b cs0 T)(hl:cs0.length=GT.sz α)(hy:GT.enc w cs y F)(ho:Own M w F)(hL:L<=M)(hM:b < M):Bx L (zA8 w b 0 cs) b y T :=
 ⟨cs,F,hb.puts cs ((GT.len hy).trans hl.symm),zCo hy (fun hm=>by have:=(ho.2 b hm).1;omega),(ho.mono hL).puts cs⟩
theorem Bx.openM{L:Nat}{w:World}{b:Nat}{m:Machine}{T:TypeId}(h:Bx L w b m T):∃ p0 q0 p1 q1 p2 q2 p3 q3 p4 q4 p5 q5 F,
  Bk w b [.slice p0 m.Plan.Parts.length q0,.slice p1 m.Plan.Channels.length q1,.slice p2 m.Plan.Slots.length q2,.slice p3 m.Programs.length q3,.slice p4 m.Cores.length q4,.slice p5 m.Holds.length q5,.int .i64 m.Tick] T /\
  GT.enc w [.slice p0 m.Plan.Parts.length q0,.slice p1 m.Plan.Channels.length q1,.slice p2 m.Plan.Slots.length q2,.slice p3 m.Programs.length q3,.slice p4 m.Cores.length q4,.slice p5 m.Holds.length q5,.int .i64 m.Tick] m F/\Own L w F:=by
 obtain⟨cs,F,h1,h2,h3⟩:=h;obtain⟨v0,v1,v2,v3,v4,v5,G0,G1,G2,G3,G4,G5,rfl,⟨t0,u0,rfl,_⟩,⟨t1,u1,rfl,_⟩,⟨t2,u2,rfl,_⟩,⟨t3,u3,rfl,_⟩,⟨t4,u4,rfl,_⟩,⟨t5,u5,rfl,_⟩,_,_⟩:=id h2;exact⟨_,_,_,_,_,_,_,_,_,_,_,_,F,h1,h2,h3⟩
theorem Ov.openE{L:Nat}{w:World}{v:Value}{m:Machine}(h:Ov L w v m):∃ p0 q0 p1 q1 p2 q2 p3 q3 p4 q4 p5 q5 F,
  v = .agg #[.slice p0 m.Plan.Parts.length q0,.slice p1 m.Plan.Channels.length q1,.slice p2 m.Plan.Slots.length q2,.slice p3 m.Programs.length q3,.slice p4 m.Cores.length q4,.slice p5 m.Holds.length q5,.int .i64 m.Tick] /\
  GT.enc w [.slice p0 m.Plan.Parts.length q0,.slice p1 m.Plan.Channels.length q1,.slice p2 m.Plan.Slots.length q2,.slice p3 m.Programs.length q3,.slice p4 m.Cores.length q4,.slice p5 m.Holds.length q5,.int .i64 m.Tick] m F/\Own L w F:=by
 obtain⟨cs,F,rfl,h2,h3⟩:=h;obtain⟨v0,v1,v2,v3,v4,v5,G0,G1,G2,G3,G4,G5,rfl,⟨t0,u0,rfl,_⟩,⟨t1,u1,rfl,_⟩,⟨t2,u2,rfl,_⟩,⟨t3,u3,rfl,_⟩,⟨t4,u4,rfl,_⟩,⟨t5,u5,rfl,_⟩,_,_⟩:=id h2;exact⟨_,_,_,_,_,_,_,_,_,_,_,_,F,rfl,h2,h3⟩
end Sk
