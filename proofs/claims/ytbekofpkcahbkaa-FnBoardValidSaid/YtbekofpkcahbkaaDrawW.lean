/- Contracts of functions of the given program. -/
import Derived.Test.YtbekofpkcahbkaaTot
import Derived.Test.YtbekofpkcahbkaaRead
namespace Sk
open Go Go.Proofs Go.RowKit
set_option maxHeartbeats 1600000
set_option maxRecDepth 100000
set_option linter.unusedVariables false
set_option linter.unusedSimpArgs false
theorem Rsb.form{α:Type}[GT α]{L:Nat}{w:World}{v:Value}{xs:List α}(h:Rsb L w v xs):∃ a c,v = .slice a xs.length c/\xs.length<=9223372036854775807:=h.rs.form
theorem zAb{n:Int}(h1 : -1000000<=n)(h2:n<=1000000):rng n:=⟨by omega,by omega⟩
theorem zIi.bd{n k:Int}(h:zIi n k)(hn:n<=1000):0<=k/\k<=1000:=by
 obtain⟨h1,h2,h3⟩:=h;by_cases hx:1<=n
 ·have:=h2 hx;omega
 ·have:=h3 (by omega);omega
theorem zIi.lt{n k:Int}(h:zIi n k)(hn:1<=n):0<=k/\k < n:=⟨h.1,h.2.1 hn⟩
theorem zI1{u w':World}{b:Nat}{zs:List Int}{T:TypeId}{k n:Int}(hm:Mo [b] (u.alloc (.cells (zs.map fun z=>Value.int .i64 z).toArray T (0,0))) w')(hb:b < u.heap.size)(hk:zIi n k)(hn:n=zs.length)(hz:0 < zs.length) :
  ∃ z,w'.cell? ⟨u.heap.size,k.toNat,none⟩=some (.int .i64 z)/\z∈zs:=by
 have h1:=hk.lt (by omega)
 have hk2:k.toNat < zs.length:=by omega
 refine⟨zs[k.toNat],?_,List.getElem_mem _⟩;rw[hm.cell (by simp;omega)]
 refine(Bk.new u (zs.map fun z=>Value.int .i64 z) T).cell ?_
 simp[hk2]
structure Ab where
 v:List Bool
instance instGTAb:GT Ab where
 default:=⟨[]⟩
 sz:=1
 enc w cs x F:=∃ val,cs = [val]/\Oa 4 0 w val x.v []/\F=val.ownBlock.toList
 pos:=Nat.one_pos
 len:=by rintro w cs x F ⟨v,rfl,_⟩;rfl
 one:=by
  rintro w cs x F ⟨v,rfl,h,_⟩ u hu;obtain⟨a,c,rfl,_⟩:=h.form;simp at hu;subst hu;rfl
 inh:=by rintro w cs x F ⟨v,rfl,h,rfl⟩ b hb;exact h.lt b (Option.mem_toList.1 hb)
 keep:=by
  rintro w w' cs x F ⟨v,rfl,h,rfl⟩ hk;exact⟨v,rfl,h.keep (fun k hv=>hk k (Option.mem_toList.2 hv)) (fun k hk=>by cases hk),rfl⟩
 tot x:=x.v.length
 ct _:=1
 mkE x _:=x
 mkE_ct _ _:=rfl
 mkE_idem _ _:=rfl
 zc:=[.slice none 0 0]
 zero w:=⟨_,rfl,Oa.nil _ _ _,rfl⟩
theorem Oa.slS{w:World}{e:TypeId}{L:Nat}{v:Value}{xs:List Bool}(h:Oa e L w v xs []):∃ F,Sl w v xs F/\∀ k∈F,v.ownBlock=some k:=by
 rcases h with ⟨rfl,rfl,_⟩ | ⟨g,cap,cur,rfl,hL,hg,hl,hc,hs,hr,hn⟩
 ·exact⟨[],⟨none,0,rfl,Nat.le_refl _,Nat.zero_le _,.inl ⟨rfl,rfl⟩⟩,fun k hk=>by cases hk⟩
 ·by_cases hx:xs = []
  ·subst hx;exact⟨[],⟨_,cap,rfl,hl,hc,.inl ⟨rfl,rfl⟩⟩,fun k hk=>by cases hk⟩
  ·exact⟨[g],⟨_,cap,rfl,hl,hc,.inr ⟨hx,g,0,[],rfl,rfl,hr⟩⟩,fun k hk=>by rw[List.mem_singleton] at hk;subst hk;rfl⟩
theorem Row.abs{w:World}{b:Nat}{xs:List Ab}:∀ {o:Nat} {F:List Nat},Row w b o xs F->∃ F',Row w b o (xs.map Ab.v) F'/\∀ k∈F',k∈F:=by
 induction xs with
 | nil=>intro o F h;exact⟨[],rfl,fun k hk=>by cases hk⟩
 | cons x xs ih =>
  intro o F h;obtain⟨cs,F1,F2,⟨v,rfl,hv,rfl⟩,ha,rfl,hr⟩:=h;obtain⟨G,h1,h2⟩:=ih hr;obtain⟨G1,h3,h4⟩:=hv.slS;refine⟨G1++G,⟨[v],G1,G,⟨v,rfl,h3⟩,ha,rfl,h1⟩,fun k hk=>?_⟩
  rcases List.mem_append.1 hk with hk|hk
  ·exact List.mem_append_left _ (Option.mem_toList.2 (h4 k hk))
  ·exact List.mem_append_right _ (h2 k hk)
theorem Rsb.nil{α:Type}[GT α]{L:Nat}{w:World}{a:Option Addr}{n c:Nat}{xs:List α}(h:n=0)(hx:xs = [])(hc:c<=9223372036854775807):Rsb L w (.slice a n c) xs:=by
 subst h;subst hx;exact⟨[],⟨_,c,rfl,Nat.zero_le _,by unfold maxLen;omega,.inl ⟨rfl,rfl⟩⟩,fun k hk=>by cases hk⟩
theorem Mw.cell0{F:List Nat}{a b:World}(h:Mw F a b){p o:Nat}{x:Value}(hc:a.cell? ⟨p,o,none⟩=some x)(hp:p ∉ F)(hl:p < a.heap.size):b.cell? ⟨p,o,none⟩=some x:=(h.cell hp hl).trans hc
theorem zFb(w:World):Calls Try.prog 35 #[.agg #[.int .i64 5,.int .i64 2,.bool false],.int .i64 6] w fun e w'=>e = .returned (.bool true)/\Ext w w':=by
 have hi:zA5 6 5 6=true:=by decide
 go_enter Try.func35,Try.ntmps35;go_wp2_with (go_at_call 26;refine(zAf _ _ _ _).mono ?_;rintro e w' ⟨rfl,rfl⟩)
 go_ret;exact⟨rfl,(zr w).alloc _⟩
theorem zFa(p q:Nat)(w:World)(hp:w.cell? ⟨p,0,none⟩=some (.int .i64 6))(hq:w.cell? ⟨q,0,none⟩=some (.bool false))(hpl:p < w.heap.size)(hql:q < w.heap.size) :
  Calls Try.prog 34 #[.agg #[.int .i64 5,.int .i64 2,.bool false],.pointer (some ⟨p,0,none⟩),.pointer (some ⟨q,0,none⟩)] w fun e w'=>e = .returned (.bool true)/\Ext w w':=by
 have HQ:=zh hq;clear hq;go_enter Try.func34,Try.ntmps34;have HB:=zh ((zr w).alloc (.cells #[.int .i64 5,.int .i64 2,.bool false] 55));have b2:=(Bk.new w [.int .i64 5,.int .i64 2,.bool false] 55);go_wp2_with (go_at_call 35;refine(zFb _).mono ?_;rintro e w1 ⟨rfl,he⟩;have c2:=(b2.ext he).cell (j:=2) rfl;have cq:w1.cell? ⟨q,0,none⟩=some (.bool false):=((zE5 (HB.out.tr he)).1 q 0 hql).trans HQ.out;have HE:=zh (HB.out.tr he);clear he)
 go_ret;exact⟨rfl,HE.out⟩
theorem zFj(v:Value)(w:World)(h:Rs (α:=Window) w v [⟨5,2,false⟩]) :
  Calls Try.prog 19 #[v,.int .i64 6,.bool false] w fun e w'=>e = .returned (.int .i64 0)/\Ext w w':=by
 have H:=zh h;obtain⟨a,c,rfl,hl⟩:=h.form;have hv:zDv [⟨5,2,false⟩]=true:=by decide
 clear h;go_enter Try.func19,Try.ntmps19;go_upto_region 1 with (fail)
 refine zA2 (fun W=>Ext w W/\W.cell? ⟨w.heap.size,0,none⟩=some (.int .i64 6)/\W.cell? ⟨w.heap.size+1,0,none⟩=some (.bool false)/\w.heap.size+1 < W.heap.size) ⟨((zr w).alloc _).alloc _,((Bk.new w [.int .i64 6] 3).ext ((zr _).alloc _)).cell (j:=0) rfl,(Bk.new1 _ _ _ _).cell (j:=0) rfl,by simp⟩ ?_
 rintro W ⟨e0,c0,c1,hz⟩;have HE:=zh e0;have C0:=zh c0;have C1:=zh c1;clear e0 c0 c1
 go_wp2_with (first
  | (go_at_call 32;refine(zBo _ _ _ (H.out.ext HE.out)).mono ?_;rintro e w1 ⟨rfl,he⟩;have HE1:=zh he;have hs1:=he.sz;clear he)
  | (go_at_call 33;refine(zFz 34 #[.pointer (some ⟨w.heap.size,0,none⟩),.pointer (some ⟨w.heap.size+1,0,none⟩)] (fun _=>true) _ _ _ (H.out.ext (HE.out.tr HE1.out)) (zBu Try.func34 (by kernel_rfl) (by kernel_rfl)) ?_).mono ?_))
 ·intro w3 v3 x3 he hx hv3;rw[List.mem_singleton] at hx;subst hx;obtain⟨rfl,_,_⟩:=hv3.openWindow;have hb:=(zE5 (HE1.out.tr he)).1;exact zFa _ _ w3 ((hb _ 0 (by omega)).trans C0.out) ((hb _ 0 (by omega)).trans C1.out) (by have:=he.sz;omega) (by have:=he.sz;omega)
 ·rintro e w3 ⟨rfl,he3⟩;have hi:zC5 (fun _=>true) [(⟨5,2,false⟩:Window)]=0:=rfl
  have HE3:=zh he3;clear he3;simp only[hi];go_wp2;go_ret;exact⟨rfl,(HE.out.tr HE1.out).tr HE3.out⟩
theorem law_alive(w:World):Calls Try.prog 7 #[] w fun e w'=>e = .returned (.bool true)/\Ext w w':=by
 have hr:Rs (α:=Window) ((w.alloc (.cells #[.int .i64 5,.int .i64 2,.bool false] 55))) (.slice (some ⟨w.heap.size,0,none⟩) 1 1) [⟨5,2,false⟩] :=
  ⟨[w.heap.size],_,1,rfl,by simp,by unfold maxLen;omega,.inr ⟨by simp,w.heap.size,0,[],rfl,rfl,Row.lit1 (cs:=[.int .i64 5,.int .i64 2,.bool false]) ⟨rfl,⟨by show _<=(5:Int);omega,by show(5:Int)<=_;omega⟩,⟨by show _<=(2:Int);omega,by show(2:Int)<=_;omega⟩,rfl⟩⟩⟩
 have HR:=zh hr;clear hr;go_enter Try.func7,Try.ntmps7;go_wp2_with (go_at_call 19;refine(zFj _ _ HR.out).mono ?_;rintro e w1 ⟨rfl,he⟩;have HE:=zh (((zr w).alloc _).tr he);clear he)
 go_ret;exact⟨rfl,HE.out⟩
def Rsx{α:Type}[GT α](G:List Nat)(L:Nat)(w:World)(v:Value)(xs:List α):Prop:=∃ F,Sl w v xs F/\∀ k∈F,L<=k/\k ∉ G
theorem Rsx.mw{α:Type}[GT α]{G F:List Nat}{L:Nat}{w w':World}{v:Value}{xs:List α}(h:Rsx G L w v xs)(k:Mw F w w')(hF:∀ x∈F,x∈G):Rsx G L w' v xs:=by
 obtain⟨K,h1,h2⟩:=h;exact⟨K,k.sl h1 (fun y hy hf=>(h2 y hy).2 (hF y hf)),h2⟩
theorem Rsb.x{α:Type}[GT α]{G:List Nat}{L L':Nat}{w:World}{v:Value}{xs:List α}(h:Rsb L w v xs)(hG:∀ x∈G,x < L\/w.heap.size<=x)(hL:L'<=L):Rsx G L' w v xs:=by
 obtain⟨K,h1,h2⟩:=h;exact⟨K,h1,fun k hk=>⟨Nat.le_trans hL (h2 k hk),fun hm=>by have:=h1.inh k hk;have:=h2 k hk;rcases hG k hm with h|h<;>omega⟩⟩
theorem Rsx.ext{α:Type}[GT α]{G:List Nat}{L:Nat}{w w':World}{v:Value}{xs:List α}(h:Rsx G L w v xs)(k:Ext w w'):Rsx G L w' v xs:=h.mw (F:=[]) (Mw.ofExt k) (by simp)
theorem Rsx.set{α:Type}[GT α]{G:List Nat}{L:Nat}{w:World}{v:Value}{xs:List α}(h:Rsx G L w v xs){p:Addr}(hp:p.block∈G)(u:Value):Rsx G L (w.setCell p u) v xs :=
 h.mw (F:=[p.block]) (Mw.ofMo ((Mo.refl _ _).set (by simp) u)) (by simpa using hp)
theorem Rvb.openS{L:Nat}{w:World}{v:Value}{s:Setup}(h:Rvb L w v s):∃ a0 c0 a1 c1 a2 c2,v = .agg #[.slice a0 s.Parts.length c0,.slice a1 s.Channels.length c1,.slice a2 s.Slots.length c2]/\s.Parts.length<=9223372036854775807/\s.Channels.length<=9223372036854775807/\s.Slots.length<=9223372036854775807:=by
 obtain⟨cs,F,rfl,⟨v0,v1,v2,F0,F1,F2,rfl,h0,h1,h2,rfl⟩,_⟩:=h;obtain⟨a0,c0,rfl,g0⟩:=(show Rs w v0 s.Parts from⟨_,h0⟩).form
 obtain⟨a1,c1,rfl,g1⟩:=(show Rs w v1 s.Channels from⟨_,h1⟩).form
 obtain⟨a2,c2,rfl,g2⟩:=(show Rs w v2 s.Slots from⟨_,h2⟩).form
 exact⟨_,_,_,_,_,_,rfl,g0,g1,g2⟩
theorem Rvb.ext{α:Type}[GT α]{L:Nat}{w w':World}{v:Value}{x : α}(h:Rvb L w v x)(k:Ext w w'):Rvb L w' v x:=by
 obtain⟨cs,F,h1,h2,h3⟩:=h;exact⟨cs,F,h1,GT.ext h2 k,h3⟩
theorem Rvb.set{α:Type}[GT α]{L:Nat}{w:World}{v:Value}{x : α}(h:Rvb L w v x){p:Addr}(hp:p.block < L)(u:Value):Rvb L (w.setCell p u) v x:=by
 obtain⟨cs,F,h1,h2,h3⟩:=h;exact⟨cs,F,h1,GT.keep h2 (fun k hk=>zA3 (by have:=h3 k hk;omega)),h3⟩
theorem Rvb.mw{α:Type}[GT α]{L:Nat}{w w':World}{v:Value}{x : α}{F:List Nat}(h:Rvb L w v x)(k:Mw F w w')(hF:∀ y∈F,y < L):Rvb L w' v x:=by
 obtain⟨cs,G,h1,h2,h3⟩:=h;exact⟨cs,G,h1,k.enc h2 (fun y hy hf=>by have:=h3 y hy;have:=hF y hf;omega),h3⟩
theorem Rvb.mono{α:Type}[GT α]{L L':Nat}{w:World}{v:Value}{x : α}(h:Rvb L w v x)(k:L'<=L):Rvb L' w v x:=by
 obtain⟨cs,F,h1,h2,h3⟩:=h;exact⟨cs,F,h1,h2,fun y hy=>Nat.le_trans k (h3 y hy)⟩
set_option maxHeartbeats 2000000
def zEb(xs:List Slot)(k:Nat):Int:=((xs.take k).map (·.Ticks)).sum
theorem zGz(xs:List Slot):zEb xs 0=0:=rfl
theorem zE3{xs:List Slot}{k:Nat}{x:Slot}(h:xs[k]? = some x):zEb xs (k+1)=zEb xs k+x.Ticks:=by
 unfold zEb;rw[zAn h];simp
theorem zD8{xs:List Slot}{n:Int}(h:zCa xs n=true):1<=xs.length/\xs.length<=12/\(0<=n/\n<=5)/\∀ x∈xs,(1<=x.Ticks/\x.Ticks<=20) /\ -1<=x.Who/\x.Who<=n - 1:=by
 unfold zCa at h;simp only[Bool.and_eq_true,zA4,List.all_eq_true,zCl] at h;exact⟨by omega,by omega,h.1,fun x hx=>h.2.2 x hx⟩
theorem zF7{xs:List Slot}(h:∀ x∈xs,1<=x.Ticks/\x.Ticks<=20):∀ k,k<=xs.length->(k:Int)<=zEb xs k/\zEb xs k<=20*k:=by
 intro k
 induction k with
 | zero=>intro _;exact⟨Int.le_refl _,Int.le_refl _⟩
 | succ k ih =>
  intro hk;obtain⟨x,hx⟩:∃ x,xs[k]? = some x:=⟨_,List.getElem?_eq_getElem (by omega)⟩
  rw[zE3 hx]
  have:=ih (by omega)
  have:=h x (List.mem_of_getElem? hx)
  omega
theorem zDd(v:Value)(xs:List Slot)(n:Int)(w:World)(h:Rs w v xs)(hv:zCa xs n=true) :
  Calls Try.prog 86 #[v,.int .i64 n] w fun e w'=>e = .returned (.int .i64 (zEb xs xs.length))/\Ext w w':=by
 obtain⟨a,c,rfl,hl⟩:=h.form;have H:=zh h;have hall:=zD8 hv;have HV:=zh hv;obtain⟨hx1,hx12,_,hxx⟩:=hall;have HT:=zh (zF7 (fun x hx=>(hxx x hx).1))
 clear h hv hxx;go_enter Try.func86,Try.ntmps86;go_wp2_with (go_at_call 49;refine(zBl _ xs n w H.out).mono ?_;rintro e w1 ⟨rfl,he⟩;rw[HV.out];have HE1:=zh he;clear he)
 go_loopw [5,6] (fun t i wr => ∃ k:Nat,k<=xs.length/\t = .int .i64 (zEb xs k)/\i = .int .i64 k/\Ext w wr) (fun _ i _=>xs.length - (intOf i).toNat)
 case atStart=>exact⟨0,Nat.zero_le _,rfl,rfl,HE1.out⟩
 case round =>
  clear HE1;obtain⟨k,hk,rfl,rfl,hq⟩:=hrel;have HQ:=zh hq;clear hq;have hb:=HT.out k hk;by_cases hkt:k < xs.length
  ·obtain⟨b,o,x,rfl,hbl,hx,hc0,hc1,hr0,hr1,hvx⟩:=(H.out.ext HQ.out).atSlot k hkt;have hb2:=HT.out (k+1) (by omega)
   have HN:=zh (zE3 hx.out);have hb3:zEb xs (k+1)=zEb xs k+x.Ticks:=HN.out;rw[hb3] at hb2;clear hb3;go_wp2;go_roundw
   case rel=>exact⟨k+1,by omega,by rw[HN.out],by go_num,HQ.out⟩
   case measure=>simp[intOf];omega
  ·obtain rfl:k=xs.length:=by omega
   go_wp2;go_ret;exact⟨rfl,HQ.out⟩
end Sk
