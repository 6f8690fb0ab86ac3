/- Contracts of functions of the given program. -/
import Derived.Test.YtbekofpkcahbkaaTickB
namespace Sk
open Go Go.Proofs Go.RowKit
set_option maxHeartbeats 1000000
set_option linter.unusedVariables false
set_option linter.unusedSimpArgs false
theorem Om.newG{α:Type}[GT α]{L:Nat}{u:World}{B:Nat}{cs:List Value}{F:List Nat}{x : α}{T:TypeId}{c0:List Value}(hen:GT.enc u cs x F)(how:Own L u F)(hb:Bk u B c0 T)(h0:c0.length=GT.sz α)(hL:L<=B)(hB:B ∉ F):Om L (zA8 u B 0 cs) B 0 x F:=by
 have hl:=GT.len hen;have hk:=hb.puts cs (by rw[h0,hl])
 exact⟨cs,zCo hen hB,fun j v hj=>by rw[Nat.zero_add];exact hk.cell hj,List.nodup_cons.2 ⟨hB,how.1⟩,fun k hk2=>by
  rcases List.mem_cons.1 hk2 with rfl|hk2
  ·exact⟨hL,_,_,hk⟩
  ·exact⟨(how.2 k hk2).1,zBq (how.2 k hk2).2⟩⟩
theorem Om.mcore{L:Nat}{w:World}{b off:Nat}{m:Machine}{F:List Nat}(h:Om L w b off m F){Y:Nat}(hY:Y < m.Cores.length):∃ g s c k Fy,
  w.cell? ⟨b,off+4,none⟩=some (.slice (some ⟨g,s,none⟩) m.Cores.length c)/\m.Cores[Y]? = some k/\Om L w g (s+Y*3) k Fy/\(∀ y∈g::Fy,y∈F/\y≠b) /\
   ∀ w' k' Fy',Chg g (s+Y*3) 3 Fy w w'->Om L w' g (s+Y*3) k' Fy'->(∀ y∈Fy',y∈Fy\/w.heap.size<=y)->∃ F',Om L w' b off { m with Cores:=m.Cores.set Y k' } F'/\(∀ y∈F',y∈F\/w.heap.size<=y)/\Chg b off 7 F w w':=by
 obtain⟨cs,⟨v0,v1,v2,v3,v4,v5,F0,F1,F2,F3,F4,F5,rfl,h0,h1,h2,h3,h4,h5,r6,rfl⟩,hat,ho⟩:=id h;obtain⟨a4,c4,rfl,_⟩:=id h4;obtain⟨Fc,lc⟩:=h.lMachineCores;have hv:w.cell? ⟨b,off+4,none⟩=some (.slice a4 m.Cores.length c4):=hat 4 _ rfl;obtain⟨g,s,Fy,k,rfl,hx,hsub,li⟩:=(lc.om ho).idxS hv Y hY;have LC:=lc.comp li;have hs:=fun y hy=>Lens.fsub lc ho y (hsub y hy)
 refine⟨g,s,c4,k,Fy,hv,hx.out,LC.om ho,hs,fun w' m' Fy' hc hm' hf=>?_⟩
 obtain⟨F2,g1,g2,g3⟩:=LC.back L w' m' Fy' ho hc hm' hf;exact⟨F2,g1,fun k hk=>(g2 k hk).elim .inl (fun e=>(hf k e).elim (fun e => .inl (hs k (List.mem_cons_of_mem _ e)).1) .inr),g3⟩
end Sk
