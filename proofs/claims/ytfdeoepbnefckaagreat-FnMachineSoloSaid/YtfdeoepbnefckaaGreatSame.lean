/- Contracts of functions of the given program. -/
import Derived.Test.YtfdeoepbnefckaaGreatCopy
import Derived.Test.YtfdeoepbnefckaaGreatThr
namespace Sk
open Go Go.Proofs Go.RowKit
set_option maxHeartbeats 400000
set_option maxRecDepth 100000
set_option linter.unusedVariables false
set_option linter.unusedSimpArgs false
theorem zE2{α:Type}[BEq α][LawfulBEq α](x y : α):(x=y/\(x == y)=true/\(x != y)=false)\/(x≠y/\(x == y)=false/\(x != y)=true):=by
 by_cases h:x=y
 ·exact .inl ⟨h,by simpa using h,by simpa using h⟩
 ·exact .inr ⟨h,by simpa using h,by simpa using h⟩
theorem law_sameInts(v1 v2:Value)(xs ys:List Int)(w:World)(hv1:Rs w v1 xs)(hv2:Rs w v2 ys) :
  Calls Tryz.prog 23 #[v1,v2] w fun e w'=>e = .returned (.bool (Eqb xs ys))/\Ext w w':=by
 obtain⟨a,c,rfl,hl⟩:=hv1.form;obtain⟨a2,c2,rfl,hl2⟩:=hv2.form;by_cases hne:xs.length=ys.length
 ·have H:=zh hne;rw[<- hne] at hv2 hl2 ⊢;clear hne;have H1:=zh hv1;have H2:=zh hv2;clear hv1 hv2;go_enter Tryz.func23,Tryz.ntmps23;go_wp2;go_loopw [5] (fun i wr => ∃ k:Nat,k<=xs.length/\i = .int .i64 k/\xs.take k=ys.take k/\Ext w wr) (fun i _=>xs.length - (intOf i).toNat)
  case atStart=>exact⟨0,Nat.zero_le _,rfl,rfl,.refl _⟩
  case round =>
   obtain⟨k,hk,rfl,he,hq⟩:=hrel;have HE:=zh he;have HQ:=zh hq;clear he hq;by_cases hlt:k < xs.length
   ·obtain⟨b,o,x,rfl,_,hx1,hc1,g0⟩:=(H1.out.ext HQ.out).atInt k hlt;obtain⟨b2,o2,y,rfl,_,hx2,hc2,g1⟩:=(H2.out.ext HQ.out).atInt k (by have:=H.out;omega)
    clear H1 H2;rcases zE2 x y with ⟨hx,q1,q2⟩ | ⟨hx,q1,q2⟩
    ·have hx3:=zh hx;clear hx;go_wp2;go_quiet (fail)
     go_wp2;go_roundw
     case rel=>exact⟨k+1,by omega,by go_num,zEv hx1.out (by first|exact hx2.out|exact hx3.out ▸ hx2.out) HE.out,HQ.out.drewN _⟩
     case measure=>simp[intOf];omega
    ·have HN:=zh (Eqb.f (ne_at hx1.out hx2.out hx));clear hx;go_wp2;go_quiet (fail)
     go_wp2;go_ret;exact⟨zA1 HN.out.symm,HQ.out.drewN _⟩
   ·have HN:=zh (Eqb.t (zFy xs ys k H.out (by omega) HE.out))
    clear H1 H2;go_wp2;go_ret;exact⟨zA1 HN.out.symm,HQ.out⟩
 ·have HN:=zh (Eqb.f (fun h=>hne (by rw[h]):xs≠ys))
  have hb:decide (xs.length=ys.length)=false:=by simpa using hne
  clear hv1 hv2;go_enter Tryz.func23,Tryz.ntmps23;go_wp2
  all_goals go_ret
  all_goals exact⟨zA1 HN.out.symm,.refl _⟩
theorem law_sameOrders(v1 v2:Value)(xs ys:List Order)(w:World)(hv1:Rs w v1 xs)(hv2:Rs w v2 ys) :
  Calls Tryz.prog 25 #[v1,v2] w fun e w'=>e = .returned (.bool (Eqb xs ys))/\Ext w w':=by
 obtain⟨a,c,rfl,hl⟩:=hv1.form;obtain⟨a2,c2,rfl,hl2⟩:=hv2.form;by_cases hne:xs.length=ys.length
 ·have H:=zh hne;rw[<- hne] at hv2 hl2 ⊢;clear hne;have H1:=zh hv1;have H2:=zh hv2;clear hv1 hv2;go_enter Tryz.func25,Tryz.ntmps25;go_wp2;go_loopw [5] (fun i wr => ∃ k:Nat,k<=xs.length/\i = .int .i64 k/\xs.take k=ys.take k/\Ext w wr) (fun i _=>xs.length - (intOf i).toNat)
  case atStart=>exact⟨0,Nat.zero_le _,rfl,rfl,.refl _⟩
  case round =>
   obtain⟨k,hk,rfl,he,hq⟩:=hrel;have HE:=zh he;have HQ:=zh hq;clear he hq;by_cases hlt:k < xs.length
   ·obtain⟨b,o,x,rfl,_,hx1,hc0,hc1,hc2,g0,g1,g2,_⟩:=(H1.out.ext HQ.out).atOrder k hlt;obtain⟨b2,o2,y,rfl,_,hx2,hd0,hd1,hd2,f0,f1,f2,_⟩:=(H2.out.ext HQ.out).atOrder k (by have:=H.out;omega)
    clear H1 H2;rcases zE2 x.Op y.Op with ⟨h1,q1,r1⟩ | ⟨h1,q1,r1⟩<;>rcases zE2 x.A y.A with ⟨h2,q2,r2⟩ | ⟨h2,q2,r2⟩<;>rcases zE2 x.B y.B with ⟨h3,q3,r3⟩ | ⟨h3,q3,r3⟩
    ·have hx3:Hid (x=y):=zh (by cases x;cases y;simp_all)
     clear h1 h2 h3;go_wp2;go_quiet (fail)
     go_wp2;go_roundw
     case rel=>exact⟨k+1,by omega,by go_num,zEv hx1.out (by rw[hx3.out];exact hx2.out) HE.out,HQ.out.drewN _⟩
     case measure=>simp[intOf];omega
    all_goals
     have HN:=zh (Eqb.f (ne_at hx1.out hx2.out (fun e=>by subst e;first|exact h1 rfl|exact h2 rfl|exact h3 rfl)))
     clear h1 h2 h3;go_wp2;go_quiet (fail)
     go_wp2;go_ret;exact⟨zA1 HN.out.symm,HQ.out.drewN _⟩
   ·have HN:=zh (Eqb.t (zFy xs ys k H.out (by omega) HE.out))
    clear H1 H2;go_wp2;go_ret;exact⟨zA1 HN.out.symm,HQ.out⟩
 ·have HN:=zh (Eqb.f (fun h=>hne (by rw[h]):xs≠ys))
  have hb:decide (xs.length=ys.length)=false:=by simpa using hne
  clear hv1 hv2;go_enter Tryz.func25,Tryz.ntmps25;go_wp2
  all_goals go_ret
  all_goals exact⟨zA1 HN.out.symm,.refl _⟩
theorem zIm{s:Setup}(h:zAx s=true):GT.tot s<=1000:=by
 have h5:=zAv h;have h8:=zB5 h;have h12:=zEq h;have hp:=zBo 30 5 s.Parts h5 (fun x hx=>by
  obtain⟨k,hk⟩:=List.getElem?_of_mem hx;have hw:=zE9 h hk
  have:=zBo 0 12 x.Windows hw (fun y _=>Nat.le_refl _)
  show GT.tot x.Windows+GT.tot x.Cells<=_
  have h0:GT.tot x.Cells=0:=rfl
  omega)
 have hc:=zBo 0 8 s.Channels h8 (fun y _=>Nat.le_refl _)
 have hs:=zBo 0 12 s.Slots h12 (fun y _=>Nat.le_refl _)
 show GT.tot s.Parts+GT.tot s.Channels+GT.tot s.Slots<=_
 omega
set_option maxHeartbeats 4000000
theorem Rs.tailI{W:World}{b o n c:Nat}{x:Int}{xs:List Int}(h:Rs W (.slice (some ⟨b,o,none⟩) n c) (x::xs)):Rs W (.slice (some ⟨b,o+1,none⟩) (n - 1) (c - 1)) xs:=by
 obtain⟨F,a,c',he,hl,hc,⟨h1,_⟩ | ⟨_,b',o',F',h1,rfl,hr⟩⟩:=h
 ·cases h1
 ·cases he;cases h1;obtain⟨cs,F1,F2,_,_,rfl,hr⟩:=hr;simp only[List.length_cons] at hl;by_cases hx:xs = []
  ·subst hx;exact⟨[],some ⟨b,o+1,none⟩,c - 1,by simp,by simp,by unfold maxLen at *;omega,.inl ⟨rfl,rfl⟩⟩
  ·exact⟨b::F2,some ⟨b,o+1,none⟩,c - 1,by simp,by omega,by unfold maxLen at *;omega,.inr ⟨hx,b,o+1,F2,rfl,rfl,by simpa [GT.sz] using hr⟩⟩
theorem Mo.bk{F:List Nat}{a b:World}{p:Nat}{cs:List Value}{T:TypeId}(h:Mo F a b)(k:Bk a p cs T)(hp:p ∉ F):Bk b p cs T:=(Mx.ofMo h).bk k hp
theorem Mo.cell{F:List Nat}{a b:World}(h:Mo F a b){p o:Nat}(hp:p ∉ F):b.cell? ⟨p,o,none⟩=a.cell? ⟨p,o,none⟩:=World.cell?_of_block (h.2.2.1 p hp)
theorem Oo.mo{α:Type}[GT α]{e:TypeId}{L:Nat}{w w':World}{v:Value}{xs:List α}{F:List Nat}(h:Oo e L w v xs)(k:Mo F w w')(hF:∀ x∈F,x < L):Oo e L w' v xs:=by
 obtain⟨G,h1,h2⟩:=h;exact⟨G,h1.keep (fun x hx=>k.2.2.1 x (fun hm=>by have:=h1.own x hx;have:=hF x hm;omega)) (fun x hx=>k.2.2.1 x (fun hm=>by have:=(h2.2 x hx).1;have:=hF x hm;omega)),k.own h2⟩
theorem Mo.drewN{F:List Nat}{a b:World}(h:Mo F a b)(n:Nat):Mo F a (b.drewN n):=by
 obtain⟨h1,h2,h3,h4⟩:=h;exact⟨h1,⟨h2.os,h2.tape,h2.output,Nat.le_refl _,fun b hb=>by cases hb⟩,h3,fun k hk=>(h4 k hk).ext ((zr _).drewN n)⟩
theorem Mo.lt{F:List Nat}{a b:World}(h:Mo F a b):b.heap.size=a.heap.size:=h.1
theorem Fz.of{w w':World}{k:Nat}(h:Fz w k)(hk:w'.heap[k]? = w.heap[k]?):Fz w' k:=by
 obtain⟨cs,T,h⟩:=h;exact⟨cs,T,by unfold Bk at *;rw[hk];exact h⟩
theorem Own.of{L:Nat}{w w':World}{F:List Nat}(h:Own L w F)(hk:∀ k∈F,w'.heap[k]? = w.heap[k]?):Own L w' F:=⟨h.1,fun k hm=>⟨(h.2 k hm).1,(h.2 k hm).2.of (hk k hm)⟩⟩
def Oob{α:Type}[GT α](e:TypeId)(L M:Nat)(w:World)(v:Value)(xs:List α):Prop:=∃ F,Oa e L w v xs F/\Own L w F/\(∀ k∈F,k < M)/\∀ k,v.ownBlock=some k->k < M
theorem Oo.ob{α:Type}[GT α]{e:TypeId}{L:Nat}{w:World}{v:Value}{xs:List α}(h:Oo e L w v xs):Oob e L w.heap.size w v xs:=by
 have hl:=h.lt;obtain⟨F,h1,h2⟩:=h;exact⟨F,h1,h2,fun k hk=>h2.lt hk,hl⟩
theorem Oob.oo{α:Type}[GT α]{e:TypeId}{L M:Nat}{w:World}{v:Value}{xs:List α}(h:Oob e L M w v xs):Oo e L w v xs:=by
 obtain⟨F,h1,h2,_⟩:=h;exact⟨F,h1,h2⟩
theorem Oob.of{α:Type}[GT α]{e:TypeId}{L M:Nat}{w w':World}{v:Value}{xs:List α}(h:Oob e L M w v xs)(hk:∀ k,L<=k->k < M->w'.heap[k]? = w.heap[k]?):Oob e L M w' v xs:=by
 obtain⟨F,h1,h2,h3,h4⟩:=h;have hF:∀ k∈F,w'.heap[k]? = w.heap[k]?:=fun k hm=>hk k (h2.2 k hm).1 (h3 k hm)
 exact⟨F,h1.keep (fun k hm=>hk k (h1.own k hm) (h4 k hm)) hF,h2.of hF,h3,h4⟩
theorem Oob.own{α:Type}[GT α]{e:TypeId}{L M:Nat}{w:World}{v:Value}{xs:List α}(h:Oob e L M w v xs):∀ k,v.ownBlock=some k->L<=k/\k < M:=by
 obtain⟨F,h1,h2,h3,h4⟩:=h;exact fun k hk=>⟨h1.own k hk,h4 k hk⟩
theorem Osb.of{α:Type}[GT α]{L M:Nat}{w w':World}{v:Value}{xs:List α}(h:Osb L M w v xs)(hk:∀ k,L<=k->k < M->w'.heap[k]? = w.heap[k]?):Osb L M w' v xs:=by
 obtain⟨F,h1,h2,h3⟩:=h;have hF:∀ k∈F,w'.heap[k]? = w.heap[k]?:=fun k hm=>hk k (h2.2 k hm).1 (h3 k hm)
 exact⟨F,h1.keep hF,h2.of hF,h3⟩
theorem wp_appB{α:Type}[GT α]{P:Program}{w:World}{o:Oper}{a:Act}{K:Act->World->Prop}{Q:Exit->Act->World->Prop}(s x:Operand)(t:TypeId)
  (ho:o.op = .call { callee:=.builtin .append,args:=#[s,x],argTypes:=#[t,t] }) (e:TypeId) (ht:P.underlying t=some (.slice e)) (hel:El P e α)
  {L M:Nat} {v:Value} {xs ys:List α} {Fy:List Nat} (hs:a.eval s=v) (hO:Oob e L M w v xs) (hL:L<=M) (hM:M<=w.heap.size) {ab ao m c:Nat} (hx:a.eval x = .slice (some ⟨ab,ao,none⟩) m c) (hm:ys.length=m) (hy:Row w ab ao ys Fy)
  (hm0:0 < m) (hown:Own M w Fy) (hlen:xs.length+m<=4294967296)
  (h:∀ v' w',Oo e L w' v' (xs++ys)->Mw v.ownBlock.toList w w'->(v'.ownBlock=v.ownBlock\/v'.ownBlock=some w.heap.size)->K (a.put o.dst v') w'):o.wp P a w K Q:=by
 obtain⟨F,hA,hF,hFM,hvM⟩:=hO;have hd:∀ k∈Fy,v.ownBlock≠some k:=fun k hk e=>by have:=(hown.2 k hk).1;have:=hvM k e;omega
 refine zI5 s x t ho e ht hel hs hA hx hm hy hm0 hd hlen (Nat.le_trans hL hM) fun v' w' h1 h2 h3=>h v' w' ⟨_,h1,?_⟩ (Mw.ofGrown h2 (fun k hk=>by simp[hk])) h3
 have hnF:∀ k∈F,v.ownBlock≠some k:=fun k hk e=>by
   rcases hA with ⟨rfl,_,_⟩ | ⟨g,cap,cur,rfl,_,_,_,_,_,_,hg⟩
   ·cases e
   ·cases e;exact hg hk
 refine Own.grown (row:=v.ownBlock) (w:=w) (Own.app hF hown (fun b hb=>hFM b hb) hL) h2 fun k hk=>?_
 rcases List.mem_append.1 hk with hk|hk
 ·exact hnF k hk
 ·exact hd k hk
theorem zBa{α:Type}[GT α]{P:Program}{w:World}{ops:Array Oper}{rest:List Oper}{o:Oper}{a:Act}{Q:Exit->Act->World->Prop}(hgd:o.guard=none)(s x:Operand)(t:TypeId)
  (ho:o.op = .call { callee:=.builtin .append,args:=#[s,x],argTypes:=#[t,t] }) (e:TypeId) (ht:P.underlying t=some (.slice e)) (hel:El P e α)
  {L M:Nat} {v:Value} {xs ys:List α} {Fy:List Nat} (hs:a.eval s=v) (hO:Oob e L M w v xs) (hL:L<=M) (hM:M<=w.heap.size) {ab ao m c:Nat} (hx:a.eval x = .slice (some ⟨ab,ao,none⟩) m c) (hm:ys.length=m) (hy:Row w ab ao ys Fy)
  (hm0:0 < m) (hown:Own M w Fy) (hlen:xs.length+m<=4294967296)
  (h:∀ v' w',Oo e L w' v' (xs++ys)->Mw v.ownBlock.toList w w'->wpList P ops Q rest (a.put o.dst v') w'):wpList P ops Q (o::rest) a w :=
 wpList_plain hgd fun _ hK=>wp_appB s x t ho e ht hel hs hO hL hM hx hm hy hm0 hown hlen fun v' w' h1 h2 _=>hK _ _ (h v' w' h1 h2)
def Rvb{α:Type}[GT α](L:Nat)(w:World)(v:Value)(x : α):Prop:=∃ cs F,v = .agg cs.toArray/\GT.enc w cs x F/\∀ k∈F,L<=k
theorem Rvb.rv{α:Type}[GT α]{L:Nat}{w:World}{v:Value}{x : α}(h:Rvb L w v x):Rv w v x:=by
 obtain⟨cs,F,h1,h2,_⟩:=h;exact⟨cs,F,h1,h2⟩
set_option maxHeartbeats 1600000
structure By where
 v:Int
instance instGTBy:GT By where
 default:=⟨0⟩
 sz:=1
 enc _ cs x F:=cs = [.int .u8 x.v]/\0<=x.v/\x.v<=255/\F = []
 pos:=Nat.one_pos
 len:=by rintro w cs x F ⟨rfl,_⟩;rfl
 one:=by rintro w cs x F ⟨rfl,_,_,rfl⟩ u hu;simp at hu;subst hu;rfl
 inh:=by rintro w cs x F ⟨rfl,_,_,rfl⟩ b hb;cases hb
 keep:=by rintro w w' cs x F ⟨rfl,h,h2,rfl⟩ _;exact⟨rfl,h,h2,rfl⟩
 tot _:=0
 ct _:=1
 mkE x _:=x
 mkE_ct _ _:=rfl
 mkE_idem _ _:=rfl
 zc:=[.int .u8 0]
 zero _:=⟨rfl,by decide,by decide,rfl⟩
theorem Rs.atBy{w:World}{a:Option Addr}{n c:Nat}{xs:List By}(h:Rs w (.slice a n c) xs)(k:Nat)(hk:k < xs.length) :
  ∃ b o x,a=some ⟨b,o,none⟩/\b < w.heap.size/\w.cell? ⟨b,o+k,none⟩=some (.int .u8 x)/\0<=x/\x<=255:=by
 obtain⟨b,o,cs,F,x,rfl,hb,hx,⟨rfl,h1,h2,_⟩,ha⟩:=h.at k hk;exact⟨b,o,x.v,rfl,hb,by simpa [GT.sz] using ha 0 _ rfl,h1,h2⟩
def Rsb{α:Type}[GT α](L:Nat)(w:World)(v:Value)(xs:List α):Prop:=∃ F,Sl w v xs F/\∀ k∈F,L<=k
theorem Rsb.rs{α:Type}[GT α]{L:Nat}{w:World}{v:Value}{xs:List α}(h:Rsb L w v xs):Rs w v xs:=by obtain⟨F,h,_⟩:=h;exact⟨F,h⟩
theorem Rsb.mw{α:Type}[GT α]{L:Nat}{w w':World}{v:Value}{xs:List α}{F:List Nat}(h:Rsb L w v xs)(k:Mw F w w')(hF:∀ x∈F,x < L):Rsb L w' v xs:=by
 obtain⟨G,h1,h2⟩:=h;exact⟨G,k.sl h1 (fun y hy hf=>by have:=h2 y hy;have:=hF y hf;omega),h2⟩
theorem Rsb.mono{α:Type}[GT α]{L L':Nat}{w:World}{v:Value}{xs:List α}(h:Rsb L w v xs)(k:L'<=L):Rsb L' w v xs:=by
 obtain⟨G,h1,h2⟩:=h;exact⟨G,h1,fun x hx=>Nat.le_trans k (h2 x hx)⟩
theorem Oo.rsb{α:Type}[GT α]{e:TypeId}{L:Nat}{w:World}{v:Value}{xs:List α}(h:Oo e L w v xs):Rsb L w v xs:=by
 obtain⟨F,h1,h2⟩:=h.os;exact⟨F,h1,fun k hk=>(h2.2 k hk).1⟩
def Rd(W w:World)(b:Nat)(m:Nat):Prop :=
 W.heap.size<=b/\Ext W w/\∃ (bs:List By) (a:Option Addr) (c p:Nat),Bk w b [.slice a bs.length c,.int .i64 p] 88/\Rs W (.slice a bs.length c) bs/\bs.length<=2000/\p+m<=1000000000
theorem Rd.lt{W w:World}{b m:Nat}(h:Rd W w b m):b < w.heap.size:=by obtain⟨_,_,_,_,_,_,h,_⟩:=h;exact h.lt
theorem Rd.le{W w:World}{b m m':Nat}(h:Rd W w b m)(k:m'<=m):Rd W w b m':=by
 obtain⟨h1,h2,bs,a,c,p,h3,h4,h5,h6⟩:=h;exact⟨h1,h2,bs,a,c,p,h3,h4,h5,by omega⟩
theorem Rd.mw{W w w':World}{b m:Nat}{F:List Nat}(h:Rd W w b m)(k:Mw F w w')(hb:b ∉ F)(hF:∀ x∈F,W.heap.size<=x):Rd W w' b m:=by
 obtain⟨h1,h2,bs,a,c,p,h3,h4,h5,h6⟩:=h;exact⟨h1,k.ext h2 hF,bs,a,c,p,k.bk h3 hb,h4,h5,h6⟩
theorem Rd.ext{W w w':World}{b m:Nat}(h:Rd W w b m)(k:Ext w w'):Rd W w' b m:=h.mw (F:=[]) (Mw.ofExt k) (by simp) (by simp)
theorem Rd.set{W w:World}{b m:Nat}(h:Rd W w b m){p:Addr}(hp:b≠p.block)(hW:W.heap.size<=p.block)(u:Value):Rd W (w.setCell p u) b m :=
 h.mw (Mw.ofMo ((Mo.refl [p.block] w).set (by simp) u)) (by simpa using hp) (by simpa using hW)
theorem zHx{x y:Int}(hx:0<=x)(hy:0<=y)(hx2:x<=100000000000)(hy2:y<=100000000000):0<=bits .xor .i64 x y/\bits .xor .i64 x y<=137438953471:=by
 obtain⟨a,rfl⟩:∃ a:Nat,x=a:=⟨x.toNat,by omega⟩
 obtain⟨b,rfl⟩:∃ b:Nat,y=b:=⟨y.toNat,by omega⟩
 have h1:a ^^^ b < 2 ^ 37:=Nat.xor_lt_two_pow (by omega) (by omega)
 have h2:bits .xor .i64 (a:Int) (b:Int)=((a ^^^ b:Nat):Int):=by
  show IntKind.i64.wrap (((BitVec.ofInt 64 (a:Int)) ^^^ (BitVec.ofInt 64 (b:Int)):BitVec 64).toNat:Int)=_
  rw[BitVec.toNat_xor,BitVec.ofInt_natCast,BitVec.ofInt_natCast,BitVec.toNat_ofNat,BitVec.toNat_ofNat,Nat.mod_eq_of_lt (by omega),Nat.mod_eq_of_lt (by omega),IntKind.wrap_i64]
  omega
 rw[h2];omega
def zIs(n k:Int):Prop:=0<=k/\(1<=n->k < n)/\(n < 1->k=0)
theorem zA3(W w:World)(b m:Nat)(n:Int)(h:Rd W w b (m+1))(hn:rng n) :
  Calls Tryz.prog 49 #[.pointer (some ⟨b,0,none⟩),.int .i64 n] w fun e w' => ∃ k:Int,e = .returned (.int .i64 k)/\zIs n k/\Mo [b] w w'/\Rd W w' b m:=by
 obtain⟨hb,he,bs,a,c,p,hk,hr,hl,hp⟩:=h;obtain⟨f0,f1⟩:=Bk.k2 hk;have ff:=hk.fz;have hlt:=hk.lt;obtain⟨hn1,hn2⟩:=hn;have HE:=zh he;have HK:=zh hk;have HR:=zh hr;have key:∀ k,Rd W ((w.setCell ⟨b,1,none⟩ (.int .i64 ((p:Int)+1))).drewN k) b m:=fun k =>
  ⟨hb,(he.set hb _).drewN _,bs,a,c,p+1,by
   have:=(hk.set 1 (.int .i64 ((p:Int)+1))).ext ((zr _).drewN k)
   simpa using this,hr,hl,by omega⟩
 have key0:Rd W (w.setCell ⟨b,1,none⟩ (.int .i64 ((p:Int)+1))) b m :=
  ⟨hb,he.set hb _,bs,a,c,p+1,by
   have:=hk.set 1 (.int .i64 ((p:Int)+1))
   simpa using this,hr,hl,by omega⟩
 replace key:=zh key;replace key0:=zh key0;clear he hk hr;have hp2:(p:Int)<=1000000000:=by omega
 by_cases hn3:n < 1
 ·go_enter Tryz.func49,Tryz.ntmps49;go_wp2;go_ret;exact⟨0,rfl,⟨by omega,fun h=>by omega,fun _=>rfl⟩,(Mo.refl _ _).set (by simp) _,key0.out⟩
 ·by_cases hz:bs.length=0
  ·rw[hz] at f0;go_enter Tryz.func49,Tryz.ntmps49;go_wp2;go_ret;exact⟨0,rfl,⟨by omega,fun h=>by omega,fun _=>rfl⟩,(Mo.refl _ _).set (by simp) _,key0.out⟩
  ·by_cases hpl:p < bs.length
   ·obtain⟨b2,o2,x,rfl,hb2,hc,hx1,hx2⟩:=HR.out.atBy p hpl;have hb2':b2≠b:=by omega
    have hc2:(w.setCell ⟨b,1,none⟩ (.int .i64 ((p:Int)+1))).cell? ⟨b2,o2+p,none⟩=some (.int .u8 x):=by
     rw[World.cell?_of_block (zA8 hb2'),zA0 HE.out hb2];exact hc
    go_enter Tryz.func49,Tryz.ntmps49;go_wp2;go_ret;exact⟨x % n,rfl,⟨Int.emod_nonneg _ (by omega),fun _=>Int.emod_lt_of_pos _ (by omega),fun h=>by omega⟩,(Mo.refl _ _).set (by simp) _,key0.out⟩
   ·obtain⟨l,hll⟩:∃ l,l=bs.length:=⟨_,rfl⟩;have hlen0:0 < bs.length:=by omega
    have hq1:=Nat.mod_lt p hlen0;have hq2:=Nat.mod_lt (p*7+3) hlen0;obtain⟨b2,o2,x,rfl,hb2,hc,hx1,hx2⟩:=HR.out.atBy (p % bs.length) hq1;obtain⟨b3,o3,y,e3,hb3,hc',hy1,hy2⟩:=HR.out.atBy ((p*7+3) % bs.length) hq2;cases e3;have hb2':b2≠b:=by omega
    have hc2:(w.setCell ⟨b,1,none⟩ (.int .i64 ((p:Int)+1))).cell? ⟨b2,o2+p % bs.length,none⟩=some (.int .u8 x):=by
     rw[World.cell?_of_block (zA8 hb2'),zA0 HE.out hb2];exact hc
    have hc3:(w.setCell ⟨b,1,none⟩ (.int .i64 ((p:Int)+1))).cell? ⟨b2,o2+(p*7+3) % bs.length,none⟩=some (.int .u8 y):=by
     rw[World.cell?_of_block (zA8 hb2'),zA0 HE.out hb2];exact hc'
    have hpm1:(p:Int)*7<=7000000000:=by omega
    go_enter Tryz.func49,Tryz.ntmps49;go_upto_region 7 with (fail)
    refine zA2 (fun W1=>Mo [b] w W1/\Rd W W1 b m/\W1.cell? ⟨b,0,none⟩=some (.slice (some ⟨b2,o2,none⟩) bs.length c)/\W1.cell? ⟨b2,o2+p % bs.length,none⟩=some (.int .u8 x)/\W1.cell? ⟨b2,o2+(p*7+3) % bs.length,none⟩=some (.int .u8 y)) ⟨(Mo.refl _ _).set (by simp) _,key0.out,by rw[zA6 (by omega)];exact f0,hc2,hc3⟩ ?_
    clear f0 f1 hc hc' hc2 hc3 HK HR HE key key0 ff hll;have hn0:1<=n:=by omega
    have hn00:n≠0:=by omega
    clear hn3;rintro W1 ⟨hmo,hrd,f0,hc2,hc3⟩;replace hmo:=zh hmo;replace hrd:=zh hrd
    generalize hL:bs.length=len at *
    have hi1:((p % len:Nat):Int) < (len:Int):=by omega
    have hi2:(((p*7+3) % len:Nat):Int) < (len:Int):=by omega
    clear hL;have hm1:(p:Int).tmod (len:Int)=((p % len:Nat):Int):=(Int.ofNat_tmod p len).symm;have hm2:((p:Int)*7+3).tmod (len:Int)=(((p*7+3) % len:Nat):Int):=by
     have:=(Int.ofNat_tmod (p*7+3) len).symm
     rw[<- this];congr 1
    have hd1:(p:Int).tdiv (len:Int)=((p / len:Nat):Int):=(Int.ofNat_tdiv p len).symm;have hdl:p / len<=p:=Nat.div_le_self _ _;have hlz:(len:Int)≠0:=by omega
    generalize p % len=r1 at *
    generalize (p*7+3) % len=r2 at *
    generalize p / len=r3 at *
    go_quiet (fail)
    have hT1:0<=x*131+y*1117+(p:Int)*29+(r3:Int)*53:=by omega
    have hT2:x*131+y*1117+(p:Int)*29+(r3:Int)*53<=100000000000:=by omega
    generalize x*131+y*1117+(p:Int)*29+(r3:Int)*53=T at *
    have hX:=zHx (x:=T) (y:=T / 64) hT1 (by omega) hT2 (by omega)
    obtain⟨hX1,hX2⟩:=hX;have hxt:(bits BinOp.xor IntKind.i64 T (T / 64)).tmod n=bits BinOp.xor IntKind.i64 T (T / 64) % n:=by rw[Int.tmod_eq_emod_of_nonneg hX1]
    replace hxt:=zh hxt;go_wp2;go_ret;exact⟨_,rfl,by first|exact⟨Int.emod_nonneg _ (by omega),fun _=>Int.emod_lt_of_pos _ (by omega),fun h=>by omega⟩|(rw[hxt.out];exact⟨Int.emod_nonneg _ (by omega),fun _=>Int.emod_lt_of_pos _ (by omega),fun h=>by omega⟩),hmo.out.drewN _,hrd.out.ext ((zr _).drewN _)⟩
def RetB(e:Ending):Prop:=∃ q:Bool,e = .returned (.bool q)
theorem zC8(W w:World)(b m:Nat)(n:Int)(h:Rd W w b (m+1))(hn:rng n) :
  Calls Tryz.prog 20 #[.pointer (some ⟨b,0,none⟩),.int .i64 n] w fun e w'=>RetB e/\Mo [b] w w'/\Rd W w' b m:=by
 have H:=zh h;have HN:=zh hn;obtain⟨hn1,hn2⟩:=hn;clear h;by_cases hn3:0 < n
 ·go_enter Tryz.func20,Tryz.ntmps20;go_wp2_with (go_at_call 49;refine(zA3 W _ b m n H.out HN.out).mono ?_;rintro e w1 ⟨k,rfl,hk,hm,hr⟩;have HM:=zh hm;have HR:=zh hr;clear hk hm hr)
  go_ret;exact⟨⟨_,rfl⟩,HM.out,HR.out⟩
 ·go_enter Tryz.func20,Tryz.ntmps20;go_wp2;go_ret;exact⟨⟨_,rfl⟩,Mo.refl _ _,H.out.le (by omega)⟩
theorem Rs.take{α:Type}[GT α]{w:World}{a:Option Addr}{n c k:Nat}{xs:List α}(h:Rs w (.slice a n c) xs)(hk:k<=xs.length):Rs w (.slice a k c) (xs.take k):=by
 obtain⟨F,a',c',he,hl,hc,hr⟩:=h;cases he;have hlen:(xs.take k).length=k:=by rw[List.length_take];omega
 rcases hr with ⟨rfl,rfl⟩ | ⟨_,b,o,F',rfl,rfl,hr⟩
 ·exact⟨[],_,c,by rw[hlen],by rw[hlen];exact Nat.le_trans hk hl,hc,.inl ⟨by simp,rfl⟩⟩
 ·rw[<- List.take_append_drop k xs] at hr;obtain⟨F1,F2,rfl,h1,_⟩:=hr.split;by_cases hx:xs.take k = []
  ·exact⟨[],_,c,by rw[hlen],by rw[hlen];exact Nat.le_trans hk hl,hc,.inl ⟨hx,rfl⟩⟩
  ·exact⟨b::F1,_,c,by rw[hlen],by rw[hlen];exact Nat.le_trans hk hl,hc,.inr ⟨hx,b,o,F1,rfl,rfl,h1⟩⟩
theorem zHi(v:Value)(xs:List By)(w:World)(h:Rs w v xs) :
  Calls Tryz.prog 17 #[v] w fun e w' => ∃ b,e = .returned (.pointer (some ⟨b,0,none⟩))/\w.heap.size<=b/\Ext w w'/\Rd w w' b 1000000000:=by
 obtain⟨a,c,rfl,hl⟩:=h.form;have H:=zh h;have hc:xs.length<=c:=by
  obtain⟨_,_,_,e,h1,_⟩:=id h;cases e;exact h1
 clear h;by_cases hx:xs.length<=2000
 ·have key:=Bk.new w [.slice a xs.length c,.int .i64 0] 88;have key2:Rd w (w.alloc (.cells #[.slice a xs.length c,.int .i64 0] 88)) w.heap.size 1000000000:=⟨Nat.le_refl _,(zr _).alloc _,xs,a,c,0,key,H.out,hx,Nat.le_refl _⟩;replace key2:=zh key2;clear key;go_enter Tryz.func17,Tryz.ntmps17;go_wp2;go_ret;exact⟨_,rfl,Nat.le_refl _,(zr _).alloc _,key2.out⟩
 ·have key:=Bk.new w [.slice a 2000 c,.int .i64 0] 88;have hlen:(xs.take 2000).length=2000:=by rw[List.length_take];omega
  have key2:Rd w (w.alloc (.cells #[.slice a 2000 c,.int .i64 0] 88)) w.heap.size 1000000000:=⟨Nat.le_refl _,(zr _).alloc _,xs.take 2000,a,c,0,by rw[hlen];exact key,by rw[hlen];exact H.out.take (by omega),by omega,Nat.le_refl _⟩
  replace key2:=zh key2;clear key hlen;have hc2:(2000:Int)<=(c:Int):=by omega
  have hx2:2000<=c:=by omega
  go_enter Tryz.func17,Tryz.ntmps17;go_wp2;go_ret;exact⟨_,rfl,Nat.le_refl _,(zr _).alloc _,key2.out⟩
end Sk
