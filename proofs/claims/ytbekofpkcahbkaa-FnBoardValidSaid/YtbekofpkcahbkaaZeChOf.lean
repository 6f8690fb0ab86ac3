/- Contracts of functions of the given program. -/
import Derived.Test.YtbekofpkcahbkaaZdDrwP
import Derived.Test.YtbekofpkcahbkaaFrame
namespace Sk
open Go Go.Proofs Go.RowKit
set_option maxHeartbeats 1600000
set_option maxRecDepth 100000
set_option linter.unusedVariables false
set_option linter.unusedSimpArgs false
theorem zDc(v:Value)(cs:List Channel)(N K:Nat)(q:Bool)(w:World)(h:Rs w v cs)(hv:zCx cs N=true) :
  Calls Try.prog 60 #[v,.int .i64 N,.int .i64 K,.bool q] w fun e w' => ∃ v' xs,e = .returned v'/\Os (α:=Int) w.heap.size w' v' xs/\(xs.length<=8/\∀ x∈xs,0<=x/\x < 8)/\Ext w w':=by
 obtain⟨a,c,rfl,hl⟩:=h.form;have hc8:cs.length<=8:=by simp only[zCx,Bool.and_eq_true,decide_eq_true_eq] at hv;exact hv.2.1
 have H:=zh h;clear h;go_enter Try.func60,Try.ntmps60;go_wp2;go_loopw [9,10] (fun out i wr => ∃ (k:Nat) (ao:Option Addr) (no co:Nat) (xs:List Int),k<=cs.length/\i = .int .i64 k/\out = .slice ao no co/\Oa (α:=Int) 3 w.heap.size wr (.slice ao no co) xs []/\(xs.length<=k/\∀ x∈xs,0<=x/\x < 8)/\Ext w wr) (fun _ i _=>cs.length - (intOf i).toNat)
 case atStart=>exact⟨0,_,_,_,[],Nat.zero_le _,rfl,rfl,Oa.lit0 (α:=Int) 3 w,⟨Nat.le_refl _,fun x hx=>by cases hx⟩,(zr w).alloc _⟩
 case round =>
  obtain⟨k,ao,no,co,xs,hk,rfl,rfl,ho,⟨hxl,hxb⟩,hq⟩:=hrel;have HO:=zh ho;have HQ:=zh hq;have HXB:=zh hxb;have hx8:xs.length<=8:=by omega
  clear ho hq hxb;by_cases hkt:k < cs.length
  ·obtain⟨bb,oo,ch,rfl,hbl,hch,c0,c1,c2,c3,_,_,_,_,_⟩:=(H.out.ext HQ.out).atChannel k hkt;cases q
   ·by_cases he:ch.To=(K:Int)
    ·have hb:(ch.To == (K:Int))=true:=by simpa using he
     clear he
     go_wp2_with (first
      | (go_at_call 48;refine(zAq _ cs N _ (H.out.ext HQ.out)).mono ?_;rintro e w2 ⟨rfl,he⟩;rw[hv];have HQ2:=zh (HQ.out.tr he);have HO2:=zh (HO.out.ext he);have hb2:=(zA0 he hbl).trans c1;have hb3:=(zA0 he hbl).trans c2;have hs2:=HQ2.out.sz;clear he)
      | (at_builtin;go_loud (refine zC2 (α:=Int) rfl _ _ 61 rfl 3 Try.underlying61 zEs (L:=w.heap.size) (v:=.slice ao no co) (ys:=[(k:Int)]) rfl (HO2.out.ext ((zr _).alloc _)) rfl (Os.lit1 w2 _ ⟨by omega,by omega⟩).rs (by rw[List.length_singleton];omega) (Nat.le_trans hs2 ((zr w2).alloc _).sz) ?_;intro v5 w5 hO5 hg5;have HO5:=zh hO5;have HE5:=zh ((HQ2.out.alloc (.cells #[.int .i64 (k:Nat)] 3)).grown hg5 (fun k hk=>HO2.out.own k hk));obtain⟨p5,n5,q5,rfl⟩:=Oa.sh0 hO5;clear hO5 hg5)))
     go_roundw
     case rel=>exact⟨k+1,_,_,_,xs ++ [(k:Int)],by omega,by go_num,rfl,HO5.out,⟨by rw[List.length_append,List.length_singleton];omega,fun y hy=>by rcases List.mem_append.1 hy with hy|hy;exact HXB.out y hy;rw[List.mem_singleton] at hy;subst hy;omega⟩,HE5.out⟩
     case measure=>simp[intOf];omega
    ·have hb:(ch.To == (K:Int))=false:=by simpa using he
     clear he;go_wp2_with (go_at_call 48;refine(zAq _ cs N _ (H.out.ext HQ.out)).mono ?_;rintro e w2 ⟨rfl,he⟩;rw[hv];have HQ2:=zh (HQ.out.tr he);have HO2:=zh (HO.out.ext he);have hb2:=(zA0 he hbl).trans c1;have hb3:=(zA0 he hbl).trans c2;have hs2:=HQ2.out.sz;clear he)
     go_roundw
     case rel=>exact⟨k+1,_,_,_,xs,by omega,by go_num,rfl,HO2.out,⟨by omega,HXB.out⟩,HQ2.out⟩
     case measure=>simp[intOf];omega
   ·by_cases he:ch.From=(K:Int)
    ·have hb:(ch.From == (K:Int))=true:=by simpa using he
     clear he
     go_wp2_with (first
      | (go_at_call 48;refine(zAq _ cs N _ (H.out.ext HQ.out)).mono ?_;rintro e w2 ⟨rfl,he⟩;rw[hv];have HQ2:=zh (HQ.out.tr he);have HO2:=zh (HO.out.ext he);have hb2:=(zA0 he hbl).trans c1;have hb3:=(zA0 he hbl).trans c2;have hs2:=HQ2.out.sz;clear he)
      | (at_builtin;go_loud (refine zC2 (α:=Int) rfl _ _ 61 rfl 3 Try.underlying61 zEs (L:=w.heap.size) (v:=.slice ao no co) (ys:=[(k:Int)]) rfl (HO2.out.ext ((zr _).alloc _)) rfl (Os.lit1 w2 _ ⟨by omega,by omega⟩).rs (by rw[List.length_singleton];omega) (Nat.le_trans hs2 ((zr w2).alloc _).sz) ?_;intro v5 w5 hO5 hg5;have HO5:=zh hO5;have HE5:=zh ((HQ2.out.alloc (.cells #[.int .i64 (k:Nat)] 3)).grown hg5 (fun k hk=>HO2.out.own k hk));obtain⟨p5,n5,q5,rfl⟩:=Oa.sh0 hO5;clear hO5 hg5)))
     go_roundw
     case rel=>exact⟨k+1,_,_,_,xs ++ [(k:Int)],by omega,by go_num,rfl,HO5.out,⟨by rw[List.length_append,List.length_singleton];omega,fun y hy=>by rcases List.mem_append.1 hy with hy|hy;exact HXB.out y hy;rw[List.mem_singleton] at hy;subst hy;omega⟩,HE5.out⟩
     case measure=>simp[intOf];omega
    ·have hb:(ch.From == (K:Int))=false:=by simpa using he
     clear he;go_wp2_with (go_at_call 48;refine(zAq _ cs N _ (H.out.ext HQ.out)).mono ?_;rintro e w2 ⟨rfl,he⟩;rw[hv];have HQ2:=zh (HQ.out.tr he);have HO2:=zh (HO.out.ext he);have hb2:=(zA0 he hbl).trans c1;have hb3:=(zA0 he hbl).trans c2;have hs2:=HQ2.out.sz;clear he)
     go_roundw
     case rel=>exact⟨k+1,_,_,_,xs,by omega,by go_num,rfl,HO2.out,⟨by omega,HXB.out⟩,HQ2.out⟩
     case measure=>simp[intOf];omega
  ·obtain rfl:k=cs.length:=by omega
   go_wp2;go_ret;exact⟨_,xs,rfl,HO.out.os (Own.nil _ _),⟨hx8,HXB.out⟩,HQ.out⟩
theorem zEr{w:World}{b o:Nat}{v:Value}(h:w.cell? ⟨b,o,none⟩=some v):w.setCell ⟨b,o,none⟩ v=w:=by
 unfold World.cell? at h;have key:(w.setCell ⟨b,o,none⟩ v).heap=w.heap:=by
  apply Array.ext_getElem?;intro i;unfold World.setCell;rw[Array.getElem?_modify]
  split
  ·rename_i e
   subst e;simp only at h
   split at h
   ·rename_i c T z hc
    rw[hc];simp only[Option.isSome_none,Bool.false_eq_true,if_false] at h;simp only[Option.map_some,Option.isSome_none,Bool.false_eq_true,if_false]
    congr 2
    apply Array.ext_getElem?;intro j;rw[Array.getElem?_setIfInBounds]
    split
    ·rename_i e;subst e;split
     ·exact h.symm
     ·rename_i hn;rw[Array.getElem?_eq_none (by omega)] at h;cases h
    ·rfl
   ·cases h
  ·rfl
 have:(w.setCell ⟨b,o,none⟩ v) = { w with heap:=(w.setCell ⟨b,o,none⟩ v).heap }:=rfl
 rw[this,key]
theorem Os.atO{L:Nat}{w:World}{a:Option Addr}{n c:Nat}{xs:List Order}(h:Os L w (.slice a n c) xs)(i:Nat)(hi:i < xs.length) :
  ∃ g s X A B,a=some ⟨g,s,none⟩/\Hid (xs[i]? = some ⟨X,A,B⟩)/\L<=g/\g < w.heap.size/\w.cell? ⟨g,s+i*3,none⟩=some (.int .i64 X)/\w.cell? ⟨g,s+i*3+1,none⟩=some (.int .i64 A)/\w.cell? ⟨g,s+i*3+2,none⟩=some (.int .i64 B)/\(∀ j,w.frozen? ⟨g,j,none⟩=false)/\rng X/\rng A/\rng B:=by
 obtain⟨g,s,cs,F,x,rfl,hx,hL,⟨rfl,r0,r1,r2,_⟩,hat,hf⟩:=h.at i hi;obtain⟨X,A,B⟩:=x;have hlt:=hat.lt (by simp)
 exact⟨g,s,X,A,B,rfl,hx,hL,hlt,by simpa [GT.sz] using hat 0 _ rfl,by simpa [GT.sz] using hat 1 _ rfl,by simpa [GT.sz] using hat 2 _ rfl,hf,r0,r1,r2⟩
theorem Os.setO{L:Nat}{w:World}{g s n c i:Nat}{xs:List Order}(h:Os L w (.slice (some ⟨g,s,none⟩) n c) xs)(hi:i < xs.length)(hL:L<=w.heap.size)(y:Order)(r0:rng y.Op)(r1:rng y.A)(r2:rng y.B) :
  Os L (((w.setCell ⟨g,s+i*3,none⟩ (.int .i64 y.Op)).setCell ⟨g,s+i*3+1,none⟩ (.int .i64 y.A)).setCell ⟨g,s+i*3+2,none⟩ (.int .i64 y.B)) (.slice (some ⟨g,s,none⟩) n c) (xs.set i y) :=
 Os.put (cs:=[.int .i64 y.Op,.int .i64 y.A,.int .i64 y.B]) h (zr _) hi hL ⟨[],⟨rfl,r0,r1,r2,rfl⟩,Own.nil _ _⟩
theorem Os.setA{L:Nat}{w:World}{g s n c i:Nat}{xs:List Order}{X A B z:Int}(h:Os L w (.slice (some ⟨g,s,none⟩) n c) xs)(hi:i < xs.length)(hL:L<=w.heap.size)(c0:w.cell? ⟨g,s+i*3,none⟩=some (.int .i64 X))(c1:w.cell? ⟨g,s+i*3+1,none⟩=some (.int .i64 A))(c2:w.cell? ⟨g,s+i*3+2,none⟩=some (.int .i64 B))(r0:rng X)(rz:rng z)(r2:rng B) :
  Os L (w.setCell ⟨g,s+i*3+1,none⟩ (.int .i64 z)) (.slice (some ⟨g,s,none⟩) n c) (xs.set i ⟨X,z,B⟩):=by
 have h1:=h.setO hi hL ⟨X,z,B⟩ r0 rz r2;simp only at h1
 rwa [zEr c0,zEr ((zA7 (by omega)).trans c2)] at h1
theorem Os.mw{α:Type}[GT α]{L:Nat}{w w':World}{v:Value}{xs:List α}{F:List Nat}(h:Os L w v xs)(k:Mw F w w')(hF:∀ x∈F,x < L):Os L w' v xs:=by
 obtain⟨G,h1,h2⟩:=h;have hd:∀ y∈G,y ∉ F:=fun y hy hm=>by have:=(h2.2 y hy).1;have:=hF y hm;omega
 exact⟨G,k.sl h1 (fun y hy hm=>hd y hy hm),k.own h2 hd⟩
theorem Rvb.lists{L:Nat}{w:World}{v0 v1 v2:Value}{s:Setup}(h:Rvb L w (.agg #[v0,v1,v2]) s):Rsb L w v0 s.Parts/\Rsb L w v1 s.Channels/\Rsb L w v2 s.Slots:=by
 obtain⟨cs,F,e,⟨u0,u1,u2,F0,F1,F2,rfl,h0,h1,h2,rfl⟩,hk⟩:=h;have e2:=congrArg (fun v=>match v with | .agg a=>a.toList|_ => []) e
 simp only[List.cons.injEq,and_true] at e2;obtain⟨rfl,rfl,rfl⟩:=e2;exact⟨⟨F0,h0,fun k h=>hk k (by simp[h])⟩,⟨F1,h1,fun k h=>hk k (by simp[h])⟩,⟨F2,h2,fun k h=>hk k (by simp[h])⟩⟩
end Sk
