/- Contracts of functions of the given program. -/
import Derived.Deep.CutRange
import Derived.Test.YtbhedbaafflndaaRefc
namespace Sk
open Go Go.Proofs Go.RowKit
set_option maxHeartbeats 1600000
set_option maxRecDepth 100000
set_option linter.unusedVariables false
set_option linter.unusedSimpArgs false
theorem zBj(w:World):Calls Try.prog 29 #[.agg #[.int .i64 5,.int .i64 2,.bool false],.int .i64 6] w fun e w'=>e = .returned (.bool true)/\Ext w w':=by
 have hi:zA1 6 5 6=true:=by decide
 go_enter Try.func29,Try.ntmps29;go_wp2_with (go_at_call 19;refine(zAb _ _ _ _).mono ?_;rintro e w' ⟨rfl,rfl⟩)
 go_ret;exact⟨rfl,(zr w).alloc _⟩
theorem zBi(p q:Nat)(w:World)(hp:w.cell? ⟨p,0,none⟩=some (.int .i64 6))(hq:w.cell? ⟨q,0,none⟩=some (.bool false))(hpl:p < w.heap.size)(hql:q < w.heap.size) :
  Calls Try.prog 28 #[.agg #[.int .i64 5,.int .i64 2,.bool false],.pointer (some ⟨p,0,none⟩),.pointer (some ⟨q,0,none⟩)] w fun e w'=>e = .returned (.bool true)/\Ext w w':=by
 have HQ:=zh hq;clear hq;go_enter Try.func28,Try.ntmps28;have HB:=zh ((zr w).alloc (.cells #[.int .i64 5,.int .i64 2,.bool false] 42));have b2:=(Bk.new w [.int .i64 5,.int .i64 2,.bool false] 42);go_wp2_with (go_at_call 29;refine(zBj _).mono ?_;rintro e w1 ⟨rfl,he⟩;have c2:=(b2.ext he).cell (j:=2) rfl;have cq:w1.cell? ⟨q,0,none⟩=some (.bool false):=((bcell (HB.out.tr he)).1 q 0 hql).trans HQ.out;have HE:=zh (HB.out.tr he);clear he)
 go_ret;exact⟨rfl,HE.out⟩
theorem zBp(v:Value)(w:World)(h:Rs (α:=Window) w v [⟨5,2,false⟩]) :
  Calls Try.prog 17 #[v,.int .i64 6,.bool false] w fun e w'=>e = .returned (.int .i64 0)/\Ext w w':=by
 have H:=zh h;obtain⟨a,c,rfl,hl⟩:=h.form;have hv:M.wsv [⟨5,2,false⟩]=true:=by decide
 clear h;go_enter Try.func17,Try.ntmps17;go_upto_region 1 with (fail)
 refine zA7 (fun W=>Ext w W/\W.cell? ⟨w.heap.size,0,none⟩=some (.int .i64 6)/\W.cell? ⟨w.heap.size+1,0,none⟩=some (.bool false)/\w.heap.size+1 < W.heap.size) ⟨((zr w).alloc _).alloc _,((Bk.new w [.int .i64 6] 3).ext ((zr _).alloc _)).cell (j:=0) rfl,(Bk.new1 _ _ _ _).cell (j:=0) rfl,by simp⟩ ?_
 rintro W ⟨e0,c0,c1,hz⟩;have HE:=zh e0;have C0:=zh c0;have C1:=zh c1;clear e0 c0 c1
 go_wp2_with (first
  | (go_at_call 26;refine(zB9 _ _ _ (H.out.ext HE.out)).mono ?_;rintro e w1 ⟨rfl,he⟩;have HE1:=zh he;have hs1:=he.sz;clear he)
  | (go_at_call 27;refine(zBu 28 #[.pointer (some ⟨w.heap.size,0,none⟩),.pointer (some ⟨w.heap.size+1,0,none⟩)] (fun _=>true) _ _ _ (H.out.ext (HE.out.tr HE1.out)) (zBy Try.func28 (by kernel_rfl) (by kernel_rfl)) ?_).mono ?_))
 ·intro w3 v3 x3 he hx hv3;rw[List.mem_singleton] at hx;subst hx;obtain⟨rfl,_,_⟩:=hv3.openWindow;have hb:=(bcell (HE1.out.tr he)).1;exact zBi _ _ w3 ((hb _ 0 (by omega)).trans C0.out) ((hb _ 0 (by omega)).trans C1.out) (by have:=he.sz;omega) (by have:=he.sz;omega)
 ·rintro e w3 ⟨rfl,he3⟩;have hi:zBf (fun _=>true) [(⟨5,2,false⟩:Window)]=0:=rfl
  have HE3:=zh he3;clear he3;simp only[hi];go_wp2;go_ret;exact⟨rfl,(HE.out.tr HE1.out).tr HE3.out⟩
theorem law_alive(w:World):Calls Try.prog 8 #[] w fun e w'=>e = .returned (.bool true)/\Ext w w':=by
 have hr:Rs (α:=Window) ((w.alloc (.cells #[.int .i64 5,.int .i64 2,.bool false] 42))) (.slice (some ⟨w.heap.size,0,none⟩) 1 1) [⟨5,2,false⟩] :=
  ⟨[w.heap.size],_,1,rfl,by simp,by unfold maxLen;omega,.inr ⟨by simp,w.heap.size,0,[],rfl,rfl,Row.lit1 (cs:=[.int .i64 5,.int .i64 2,.bool false]) ⟨rfl,⟨by show _<=(5:Int);omega,by show(5:Int)<=_;omega⟩,⟨by show _<=(2:Int);omega,by show(2:Int)<=_;omega⟩,rfl⟩⟩⟩
 have HR:=zh hr;clear hr;go_enter Try.func8,Try.ntmps8;go_wp2_with (go_at_call 17;refine(zBp _ _ HR.out).mono ?_;rintro e w1 ⟨rfl,he⟩;have HE:=zh (((zr w).alloc _).tr he);clear he)
 go_ret;exact⟨rfl,HE.out⟩
end Sk
