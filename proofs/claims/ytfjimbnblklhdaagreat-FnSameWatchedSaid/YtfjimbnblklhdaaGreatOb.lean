/- Contracts of functions of the given program. -/
import Derived.Test.YtfjimbnblklhdaaGreatThr
import Derived.Test.YtfjimbnblklhdaaGreatCutC
namespace Sk
open Go Go.Proofs Go.RowKit
set_option linter.unusedVariables false
set_option linter.unusedSimpArgs false
theorem Fz.of{w w':World}{k:Nat}(h:Fz w k)(hk:w'.heap[k]? = w.heap[k]?):Fz w' k:=by
 obtain⟨cs,T,h⟩:=h;exact⟨cs,T,by unfold Bk at *;rw[hk];exact h⟩
theorem Own.of{L:Nat}{w w':World}{F:List Nat}(h:Own L w F)(hk:∀ k∈F,w'.heap[k]? = w.heap[k]?):Own L w' F:=⟨h.1,fun k hm=>⟨(h.2 k hm).1,(h.2 k hm).2.of (hk k hm)⟩⟩
def Oob{α:Type}[GT α](e:TypeId)(L M:Nat)(w:World)(v:Value)(xs:List α):Prop:=∃ F,Oa e L w v xs F/\Own L w F/\(∀ k∈F,k < M)/\∀ k,v.ownBlock=some k->k < M
theorem Oo.ob{α:Type}[GT α]{e:TypeId}{L:Nat}{w:World}{v:Value}{xs:List α}(h:Oo e L w v xs):Oob e L w.heap.size w v xs:=by
 have hl:=h.lt;obtain⟨F,h1,h2⟩:=h;exact⟨F,h1,h2,fun k hk=>h2.lt hk,hl⟩
theorem Oob.of{α:Type}[GT α]{e:TypeId}{L M:Nat}{w w':World}{v:Value}{xs:List α}(h:Oob e L M w v xs)(hk:∀ k,L<=k->k < M->w'.heap[k]? = w.heap[k]?):Oob e L M w' v xs:=by
 obtain⟨F,h1,h2,h3,h4⟩:=h;have hF:∀ k∈F,w'.heap[k]? = w.heap[k]?:=fun k hm=>hk k (h2.2 k hm).1 (h3 k hm)
 exact⟨F,h1.keep (fun k hm=>hk k (h1.own k hm) (h4 k hm)) hF,h2.of hF,h3,h4⟩
theorem Oob.own{α:Type}[GT α]{e:TypeId}{L M:Nat}{w:World}{v:Value}{xs:List α}(h:Oob e L M w v xs):∀ k,v.ownBlock=some k->L<=k/\k < M:=by
 obtain⟨F,h1,h2,h3,h4⟩:=h;exact fun k hk=>⟨h1.own k hk,h4 k hk⟩
theorem Osb.of{α:Type}[GT α]{L M:Nat}{w w':World}{v:Value}{xs:List α}(h:Osb L M w v xs)(hk:∀ k,L<=k->k < M->w'.heap[k]? = w.heap[k]?):Osb L M w' v xs:=by
 obtain⟨F,h1,h2,h3⟩:=h;have hF:∀ k∈F,w'.heap[k]? = w.heap[k]?:=fun k hm=>hk k (h2.2 k hm).1 (h3 k hm)
 exact⟨F,h1.keep hF,h2.of hF,h3⟩
theorem wp_appB{α:Type}[GT α]{P:Program}{w:World}{o:Oper}{a:Act}{K:Act->World->Prop}{Q:Exit->Act->World->Prop}(s x:Operand)(t:TypeId)
  (ho:o.op = .call { callee:=.builtin .append,args:=#[s,x],argTypes:=#[t,t] }) (e:TypeId) (ht:P.underlying t=some (.slice e)) (hel:El P e α)
  {L M:Nat} {v:Value} {xs ys:List α} {Fy:List Nat} (hs:a.eval s=v) (hO:Oob e L M w v xs) (hL:L<=M) (hM:M<=w.heap.size) {ab ao m c:Nat} (hx:a.eval x = .slice (some ⟨ab,ao,none⟩) m c) (hm:ys.length=m) (hy:Row w ab ao ys Fy)
  (hm0:0 < m) (hown:Own M w Fy) (hlen:xs.length+m<=4294967296)
  (h:∀ v' w',Oo e L w' v' (xs++ys)->Mw v.ownBlock.toList w w'->(v'.ownBlock=v.ownBlock\/v'.ownBlock=some w.heap.size)->K (a.put o.dst v') w'):o.wp P a w K Q:=by
 obtain⟨F,hA,hF,hFM,hvM⟩:=hO;have hd:∀ k∈Fy,v.ownBlock≠some k:=fun k hk e=>by have:=(hown.2 k hk).1;have:=hvM k e;omega
 refine zNb s x t ho e ht hel hs hA hx hm hy hm0 hd hlen (Nat.le_trans hL hM) fun v' w' h1 h2 h3=>h v' w' ⟨_,h1,?_⟩ (Mw.ofGrown h2 (fun k hk=>by simp[hk])) h3
 have hnF:∀ k∈F,v.ownBlock≠some k:=fun k hk e=>by
   rcases hA with ⟨rfl,_,_⟩ | ⟨g,cap,cur,rfl,_,_,_,_,_,_,hg⟩
   ·cases e
   ·cases e;exact hg hk
 refine Own.grown (row:=v.ownBlock) (w:=w) (Own.app hF hown (fun b hb=>hFM b hb) hL) h2 fun k hk=>?_
 rcases List.mem_append.1 hk with hk|hk
 ·exact hnF k hk
 ·exact hd k hk
theorem zG0{α:Type}[GT α]{P:Program}{w:World}{ops:Array Oper}{rest:List Oper}{o:Oper}{a:Act}{Q:Exit->Act->World->Prop}(hgd:o.guard=none)(s x:Operand)(t:TypeId)
  (ho:o.op = .call { callee:=.builtin .append,args:=#[s,x],argTypes:=#[t,t] }) (e:TypeId) (ht:P.underlying t=some (.slice e)) (hel:El P e α)
  {L M:Nat} {v:Value} {xs ys:List α} {Fy:List Nat} (hs:a.eval s=v) (hO:Oob e L M w v xs) (hL:L<=M) (hM:M<=w.heap.size) {ab ao m c:Nat} (hx:a.eval x = .slice (some ⟨ab,ao,none⟩) m c) (hm:ys.length=m) (hy:Row w ab ao ys Fy)
  (hm0:0 < m) (hown:Own M w Fy) (hlen:xs.length+m<=4294967296)
  (h:∀ v' w',Oo e L w' v' (xs++ys)->Mw v.ownBlock.toList w w'->wpList P ops Q rest (a.put o.dst v') w'):wpList P ops Q (o::rest) a w :=
 wpList_plain hgd fun _ hK=>wp_appB s x t ho e ht hel hs hO hL hM hx hm hy hm0 hown hlen fun v' w' h1 h2 _=>hK _ _ (h v' w' h1 h2)
set_option maxHeartbeats 4000000
set_option maxRecDepth 100000
def Rvb{α:Type}[GT α](L:Nat)(w:World)(v:Value)(x : α):Prop:=∃ cs F,v = .agg cs.toArray/\GT.enc w cs x F/\∀ k∈F,L<=k
theorem Rvb.rv{α:Type}[GT α]{L:Nat}{w:World}{v:Value}{x : α}(h:Rvb L w v x):Rv w v x:=by
 obtain⟨cs,F,h1,h2,_⟩:=h;exact⟨cs,F,h1,h2⟩
set_option maxHeartbeats 1600000
theorem wp_appG{α:Type}[GT α][Fl α]{P:Program}{w:World}{o:Oper}{a:Act}{K:Act->World->Prop}{Q:Exit->Act->World->Prop}(s x:Operand)(t:TypeId)
  (ho:o.op = .call { callee:=.builtin .append,args:=#[s,x],argTypes:=#[t,t] }) (e:TypeId) (ht:P.underlying t=some (.slice e)) (hel:El P e α)
  {sa:Option Addr} {n:Nat} {xs ys:List α} (hs:a.eval s = .slice sa n n) (hS:Rs w (.slice sa n n) xs) {ab ao m c:Nat} (hx:a.eval x = .slice (some ⟨ab,ao,none⟩) m c) (hm:ys.length=m) {Fy:List Nat} (hy:Row w ab ao ys Fy)
  (hm0:0 < m) (hlen:xs.length+m<=2147483648)
  (h:∀ v' w',Os w.heap.size w' v' (xs++ys)->Ext w w'->K (a.put o.dst v') w'):o.wp P a w K Q:=by
 have hFy:=hy.fl;subst hFy;obtain⟨F,a',c',he,hl,hc,hr⟩:=hS;cases he;by_cases hsn:sa=none
 ·subst hsn;have hx0:xs = []:=by
   rcases hr with ⟨h,_⟩ | ⟨_,b,o',F',h,_⟩
   ·exact h
   ·cases h
  subst hx0;exact zO0 (L:=w.heap.size) s x t ho e ht hel hs (Oa.nil e _ w) hx hm hy hm0 (fun k hk=>by cases hk) (by omega) (Nat.le_refl _) fun v' w' h1 h2=>h v' w' (Oo.ofA h1).os (Ext.ofGb (by
   have:(Value.slice none 0 0).ownBlock=none:=rfl
   simpa [this] using h2))
 ·obtain⟨⟨b,o',sp⟩,rfl⟩:=Option.ne_none_iff_exists'.1 hsn;obtain⟨i,z,bytes,hi,hz,hsz,hby,hzc,hb⟩:=hel;have hp:=GT.pos (α:=α);obtain⟨news,hnl,hnat,hn1⟩:=hy.cells;have hadd:∀ (b' o' j:Nat),Addr.add ⟨b',o',none⟩ j=⟨b',o'+j,none⟩:=fun b' o' j=>by
   unfold Addr.add;split;·subst j;rfl
   ·rfl
  have holds:∃ olds:List Value,olds.length=xs.length*GT.sz α /\ (∀ j u,olds[j]? = some u->w.cell? (Addr.add ⟨b,o',sp⟩ j)=some u)/\(∀ u∈olds,u.oneCell'=true)/\∀ w' g,(∀ j u,olds[j]? = some u->w'.cell? ⟨g,j,none⟩=some u)->Row w' g 0 xs []:=by
   rcases hr with ⟨rfl,_⟩ | ⟨_,b',o'',F',h1,rfl,hr⟩
   ·exact⟨[],by simp,fun j u hj=>by simp at hj,fun u hu=>(by cases hu),fun w' g _=>rfl⟩
   ·cases h1
    have:=hr.fl
    subst this;obtain⟨olds,h1,h2,h3⟩:=hr.cells;refine⟨olds,h1,fun j u hj=>by rw[hadd];exact h2 j u hj,h3,fun w' g hc=>hr.move (fun k hk=>by cases hk) fun j u hj hu=>?_⟩
    have hj2:j < olds.length:=by omega
    have h4:=h2 j olds[j] (by simp[hj2])
    rw[h4] at hu;cases hu;rw[Nat.zero_add];exact hc j _ (by simp[hj2])
  obtain⟨olds,hol,holc,ho1,hmv⟩:=holds;have hbytes:(xs.length+m)*i.bytes<=140737488355328:=by
   rw[hby]
   have:=Nat.mul_le_mul (show xs.length+m<=4294967296 by omega) hb
   omega
  have hrun:=run_append_grow (P:=P) w t o.type e i z ht hi hz ⟨b,o',sp⟩ xs.length xs.length olds (by rw[hsz];exact hol) holc ⟨ab,ao,none⟩ m c news (by rw[hsz,<- hm];exact hnl) (fun j u hj=>by rw[hadd];exact hnat j u hj) (by omega) (by omega) (growslice_fits (by omega) hbytes)
  have hge:=grownCap_ge w (xs.length+m) xs.length e;have hcm:grownCap w (xs.length+m) xs.length e<=maxLen:=grownCap_le_maxLen w (xs.length+m) xs.length e (by unfold maxLen;omega)
  unfold Oper.wp execOp;simp only[ho,resolve,invoke,builtin,Sem.run_bind,Sem.run_pure,Result.andThen_ok,List.map_toArray,List.map_cons,List.map_nil,hs,hx,hrun];refine h _ _ ?_ ((zr w).drew.alloc _)
  generalize hC:olds.toArray++news.toArray++Builtin.zeroCells z.cells (grownCap w (xs.length+m) xs.length e - (xs.length+m))=C
  have hB:(w.drew.alloc (.cells C e)).heap[w.heap.size]? = some (.cells C e (0,0)):=by
   show(w.heap.push _)[w.heap.size]? = _
   simp
  have hcell:∀ j u,(olds++news)[j]? = some u->(w.drew.alloc (.cells C e)).cell? ⟨w.heap.size,j,none⟩=some u:=fun j u hj=>by
   refine(Bk.ofA hB).cell ?_;have hj2:=(List.getElem?_eq_some_iff.1 hj).1;rw[<- hC];simp only[Array.toList_append,List.append_assoc];rw[<- List.append_assoc,List.getElem?_append_left (by simpa using hj2)]
   simpa using hj
  refine⟨[w.heap.size],⟨_,_,by rw[List.length_append,hm],by rw[List.length_append,hm];exact hge,hcm,.inr ⟨fun e=>by have:=congrArg List.length e;rw[List.length_append,hm,List.length_nil] at this;omega,w.heap.size,0,[],rfl,rfl,?_⟩⟩,by simp,fun k hk=>?_⟩
  ·refine Row.append (F:=[]) (G:=[]) (hmv _ _ fun j u hj=>hcell j u (by rw[List.getElem?_append_left (List.getElem?_eq_some_iff.1 hj).1];exact hj)) (hy.move (fun k hk=>by cases hk) fun j u hj hu=>?_)
   have hj2:j < news.length:=by omega
   have h1:=hnat j news[j] (by simp[hj2])
   rw[h1] at hu;cases hu;rw[Nat.zero_add,<- hol];exact hcell _ _ (by rw[List.getElem?_append_right (by omega),Nat.add_sub_cancel_left];simp[hj2])
  ·rw[List.mem_singleton] at hk;subst hk;exact⟨Nat.le_refl _,_,_,Bk.ofA hB⟩
theorem wpl_appG{α:Type}[GT α][Fl α]{P:Program}{w:World}{ops:Array Oper}{rest:List Oper}{o:Oper}{a:Act}{Q:Exit->Act->World->Prop}(hgd:o.guard=none)(s x:Operand)(t:TypeId)
  (ho:o.op = .call { callee:=.builtin .append,args:=#[s,x],argTypes:=#[t,t] }) (e:TypeId) (ht:P.underlying t=some (.slice e)) (hel:El P e α)
  {sa:Option Addr} {n:Nat} {xs ys:List α} (hs:a.eval s = .slice sa n n) (hS:Rs w (.slice sa n n) xs) {ab ao m c:Nat} (hx:a.eval x = .slice (some ⟨ab,ao,none⟩) m c) (hm:ys.length=m) {Fy:List Nat} (hy:Row w ab ao ys Fy)
  (hm0:0 < m) (hlen:xs.length+m<=2147483648)
  (h:∀ v' w',Os w.heap.size w' v' (xs++ys)->Ext w w'->wpList P ops Q rest (a.put o.dst v') w'):wpList P ops Q (o::rest) a w :=
 wpList_plain hgd fun _ hK=>wp_appG s x t ho e ht hel hs hS hx hm hy hm0 hlen fun v' w' h1 h2=>hK _ _ (h v' w' h1 h2)
structure By where
 v:Int
instance instGTBy:GT By where
 default:=⟨0⟩
 sz:=1
 enc _ cs x F:=cs = [.int .u8 x.v]/\0<=x.v/\x.v<=255/\F = []
 pos:=Nat.one_pos
 len:=by rintro w cs x F ⟨rfl,_⟩;rfl
 one:=by rintro w cs x F ⟨rfl,_,_,rfl⟩ u hu;simp at hu;subst hu;rfl
 inh:=by rintro w cs x F ⟨rfl,_,_,rfl⟩ b hb;cases hb
 keep:=by rintro w w' cs x F ⟨rfl,h,h2,rfl⟩ _;exact⟨rfl,h,h2,rfl⟩
 tot _:=0
 ct _:=1
 mkE x _:=x
 mkE_ct _ _:=rfl
 mkE_idem _ _:=rfl
 zc:=[.int .u8 0]
 zero _:=⟨rfl,by decide,by decide,rfl⟩
theorem Rs.atBy{w:World}{a:Option Addr}{n c:Nat}{xs:List By}(h:Rs w (.slice a n c) xs)(k:Nat)(hk:k < xs.length) :
  ∃ b o x,a=some ⟨b,o,none⟩/\b < w.heap.size/\w.cell? ⟨b,o+k,none⟩=some (.int .u8 x)/\0<=x/\x<=255:=by
 obtain⟨b,o,cs,F,x,rfl,hb,hx,⟨rfl,h1,h2,_⟩,ha⟩:=h.at k hk;exact⟨b,o,x.v,rfl,hb,by simpa [GT.sz] using ha 0 _ rfl,h1,h2⟩
def Rsb{α:Type}[GT α](L:Nat)(w:World)(v:Value)(xs:List α):Prop:=∃ F,Sl w v xs F/\∀ k∈F,L<=k
theorem Rsb.rs{α:Type}[GT α]{L:Nat}{w:World}{v:Value}{xs:List α}(h:Rsb L w v xs):Rs w v xs:=by obtain⟨F,h,_⟩:=h;exact⟨F,h⟩
theorem Rsb.mw{α:Type}[GT α]{L:Nat}{w w':World}{v:Value}{xs:List α}{F:List Nat}(h:Rsb L w v xs)(k:Mw F w w')(hF:∀ x∈F,x < L):Rsb L w' v xs:=by
 obtain⟨G,h1,h2⟩:=h;exact⟨G,k.sl h1 (fun y hy hf=>by have:=h2 y hy;have:=hF y hf;omega),h2⟩
theorem Rsb.mono{α:Type}[GT α]{L L':Nat}{w:World}{v:Value}{xs:List α}(h:Rsb L w v xs)(k:L'<=L):Rsb L' w v xs:=by
 obtain⟨G,h1,h2⟩:=h;exact⟨G,h1,fun x hx=>Nat.le_trans k (h2 x hx)⟩
theorem Oo.rsb{α:Type}[GT α]{e:TypeId}{L:Nat}{w:World}{v:Value}{xs:List α}(h:Oo e L w v xs):Rsb L w v xs:=by
 obtain⟨F,h1,h2⟩:=h.os;exact⟨F,h1,fun k hk=>(h2.2 k hk).1⟩
def Rd(W w:World)(b:Nat)(m:Nat):Prop :=
 W.heap.size<=b/\Ext W w/\∃ (bs:List By) (a:Option Addr) (c p:Nat),Bk w b [.slice a bs.length c,.int .i64 p] 80/\Rs W (.slice a bs.length c) bs/\bs.length<=2000/\p+m<=1000000000
theorem Rd.lt{W w:World}{b m:Nat}(h:Rd W w b m):b < w.heap.size:=by obtain⟨_,_,_,_,_,_,h,_⟩:=h;exact h.lt
theorem Rd.le{W w:World}{b m m':Nat}(h:Rd W w b m)(k:m'<=m):Rd W w b m':=by
 obtain⟨h1,h2,bs,a,c,p,h3,h4,h5,h6⟩:=h;exact⟨h1,h2,bs,a,c,p,h3,h4,h5,by omega⟩
theorem Rd.mw{W w w':World}{b m:Nat}{F:List Nat}(h:Rd W w b m)(k:Mw F w w')(hb:b ∉ F)(hF:∀ x∈F,W.heap.size<=x):Rd W w' b m:=by
 obtain⟨h1,h2,bs,a,c,p,h3,h4,h5,h6⟩:=h;exact⟨h1,k.ext h2 hF,bs,a,c,p,k.bk h3 hb,h4,h5,h6⟩
theorem Rd.ext{W w w':World}{b m:Nat}(h:Rd W w b m)(k:Ext w w'):Rd W w' b m:=h.mw (F:=[]) (Mw.ofExt k) (by simp) (by simp)
theorem Rd.set{W w:World}{b m:Nat}(h:Rd W w b m){p:Addr}(hp:b≠p.block)(hW:W.heap.size<=p.block)(u:Value):Rd W (w.setCell p u) b m :=
 h.mw (Mw.ofMo ((Mo.refl [p.block] w).set (by simp) u)) (by simpa using hp) (by simpa using hW)
theorem zN4{x y:Int}(hx:0<=x)(hy:0<=y)(hx2:x<=100000000000)(hy2:y<=100000000000):0<=bits .xor .i64 x y/\bits .xor .i64 x y<=137438953471:=by
 obtain⟨a,rfl⟩:∃ a:Nat,x=a:=⟨x.toNat,by omega⟩
 obtain⟨b,rfl⟩:∃ b:Nat,y=b:=⟨y.toNat,by omega⟩
 have h1:a ^^^ b < 2 ^ 37:=Nat.xor_lt_two_pow (by omega) (by omega)
 have h2:bits .xor .i64 (a:Int) (b:Int)=((a ^^^ b:Nat):Int):=by
  show IntKind.i64.wrap (((BitVec.ofInt 64 (a:Int)) ^^^ (BitVec.ofInt 64 (b:Int)):BitVec 64).toNat:Int)=_
  rw[BitVec.toNat_xor,BitVec.ofInt_natCast,BitVec.ofInt_natCast,BitVec.toNat_ofNat,BitVec.toNat_ofNat,Nat.mod_eq_of_lt (by omega),Nat.mod_eq_of_lt (by omega),IntKind.wrap_i64]
  omega
 rw[h2];omega
def PickR(n k:Int):Prop:=0<=k/\(1<=n->k < n)/\(n < 1->k=0)
theorem zA9(W w:World)(b m:Nat)(n:Int)(h:Rd W w b (m+1))(hn:rng n) :
  Calls Tryz.prog 36 #[.pointer (some ⟨b,0,none⟩),.int .i64 n] w fun e w' => ∃ k:Int,e = .returned (.int .i64 k)/\PickR n k/\Mo [b] w w'/\Rd W w' b m:=by
 obtain⟨hb,he,bs,a,c,p,hk,hr,hl,hp⟩:=h;obtain⟨f0,f1⟩:=Bk.k2 hk;have ff:=hk.fz;have hlt:=hk.lt;obtain⟨hn1,hn2⟩:=hn;have HE:=zh he;have HK:=zh hk;have HR:=zh hr;have key:∀ k,Rd W ((w.setCell ⟨b,1,none⟩ (.int .i64 ((p:Int)+1))).drewN k) b m:=fun k =>
  ⟨hb,(he.set hb _).drewN _,bs,a,c,p+1,by
   have:=(hk.set 1 (.int .i64 ((p:Int)+1))).ext ((zr _).drewN k)
   simpa using this,hr,hl,by omega⟩
 have key0:Rd W (w.setCell ⟨b,1,none⟩ (.int .i64 ((p:Int)+1))) b m :=
  ⟨hb,he.set hb _,bs,a,c,p+1,by
   have:=hk.set 1 (.int .i64 ((p:Int)+1))
   simpa using this,hr,hl,by omega⟩
 replace key:=zh key;replace key0:=zh key0;clear he hk hr;have hp2:(p:Int)<=1000000000:=by omega
 by_cases hn3:n < 1
 ·go_enter Tryz.func36,Tryz.ntmps36;go_wp2;go_ret;exact⟨0,rfl,⟨by omega,fun h=>by omega,fun _=>rfl⟩,(Mo.refl _ _).set (by simp) _,key0.out⟩
 ·by_cases hz:bs.length=0
  ·rw[hz] at f0;go_enter Tryz.func36,Tryz.ntmps36;go_wp2;go_ret;exact⟨0,rfl,⟨by omega,fun h=>by omega,fun _=>rfl⟩,(Mo.refl _ _).set (by simp) _,key0.out⟩
  ·by_cases hpl:p < bs.length
   ·obtain⟨b2,o2,x,rfl,hb2,hc,hx1,hx2⟩:=HR.out.atBy p hpl;have hb2':b2≠b:=by omega
    have hc2:(w.setCell ⟨b,1,none⟩ (.int .i64 ((p:Int)+1))).cell? ⟨b2,o2+p,none⟩=some (.int .u8 x):=by
     rw[World.cell?_of_block (zA4 hb2'),zA0 HE.out hb2];exact hc
    go_enter Tryz.func36,Tryz.ntmps36;go_wp2;go_ret;exact⟨x % n,rfl,⟨Int.emod_nonneg _ (by omega),fun _=>Int.emod_lt_of_pos _ (by omega),fun h=>by omega⟩,(Mo.refl _ _).set (by simp) _,key0.out⟩
   ·obtain⟨l,hll⟩:∃ l,l=bs.length:=⟨_,rfl⟩;have hlen0:0 < bs.length:=by omega
    have hq1:=Nat.mod_lt p hlen0;have hq2:=Nat.mod_lt (p*7+3) hlen0;obtain⟨b2,o2,x,rfl,hb2,hc,hx1,hx2⟩:=HR.out.atBy (p % bs.length) hq1;obtain⟨b3,o3,y,e3,hb3,hc',hy1,hy2⟩:=HR.out.atBy ((p*7+3) % bs.length) hq2;cases e3;have hb2':b2≠b:=by omega
    have hc2:(w.setCell ⟨b,1,none⟩ (.int .i64 ((p:Int)+1))).cell? ⟨b2,o2+p % bs.length,none⟩=some (.int .u8 x):=by
     rw[World.cell?_of_block (zA4 hb2'),zA0 HE.out hb2];exact hc
    have hc3:(w.setCell ⟨b,1,none⟩ (.int .i64 ((p:Int)+1))).cell? ⟨b2,o2+(p*7+3) % bs.length,none⟩=some (.int .u8 y):=by
     rw[World.cell?_of_block (zA4 hb2'),zA0 HE.out hb2];exact hc'
    have hpm1:(p:Int)*7<=7000000000:=by omega
    go_enter Tryz.func36,Tryz.ntmps36;go_upto_region 7 with (fail)
    refine zA1 (fun W1=>Mo [b] w W1/\Rd W W1 b m/\W1.cell? ⟨b,0,none⟩=some (.slice (some ⟨b2,o2,none⟩) bs.length c)/\W1.cell? ⟨b2,o2+p % bs.length,none⟩=some (.int .u8 x)/\W1.cell? ⟨b2,o2+(p*7+3) % bs.length,none⟩=some (.int .u8 y)) ⟨(Mo.refl _ _).set (by simp) _,key0.out,by rw[zA3 (by omega)];exact f0,hc2,hc3⟩ ?_
    clear f0 f1 hc hc' hc2 hc3 HK HR HE key key0 ff hll;have hn0:1<=n:=by omega
    have hn00:n≠0:=by omega
    clear hn3;rintro W1 ⟨hmo,hrd,f0,hc2,hc3⟩;replace hmo:=zh hmo;replace hrd:=zh hrd
    generalize hL:bs.length=len at *
    have hi1:((p % len:Nat):Int) < (len:Int):=by omega
    have hi2:(((p*7+3) % len:Nat):Int) < (len:Int):=by omega
    clear hL;have hm1:(p:Int).tmod (len:Int)=((p % len:Nat):Int):=(Int.ofNat_tmod p len).symm;have hm2:((p:Int)*7+3).tmod (len:Int)=(((p*7+3) % len:Nat):Int):=by
     have:=(Int.ofNat_tmod (p*7+3) len).symm
     rw[<- this];congr 1
    have hd1:(p:Int).tdiv (len:Int)=((p / len:Nat):Int):=(Int.ofNat_tdiv p len).symm;have hdl:p / len<=p:=Nat.div_le_self _ _;have hlz:(len:Int)≠0:=by omega
    generalize p % len=r1 at *
    generalize (p*7+3) % len=r2 at *
    generalize p / len=r3 at *
    go_quiet (fail)
    have hT1:0<=x*131+y*1117+(p:Int)*29+(r3:Int)*53:=by omega
    have hT2:x*131+y*1117+(p:Int)*29+(r3:Int)*53<=100000000000:=by omega
    generalize x*131+y*1117+(p:Int)*29+(r3:Int)*53=T at *
    have hX:=zN4 (x:=T) (y:=T / 64) hT1 (by omega) hT2 (by omega)
    obtain⟨hX1,hX2⟩:=hX;have hxt:(bits BinOp.xor IntKind.i64 T (T / 64)).tmod n=bits BinOp.xor IntKind.i64 T (T / 64) % n:=by rw[Int.tmod_eq_emod_of_nonneg hX1]
    replace hxt:=zh hxt;go_wp2;go_ret;exact⟨_,rfl,by first|exact⟨Int.emod_nonneg _ (by omega),fun _=>Int.emod_lt_of_pos _ (by omega),fun h=>by omega⟩|(rw[hxt.out];exact⟨Int.emod_nonneg _ (by omega),fun _=>Int.emod_lt_of_pos _ (by omega),fun h=>by omega⟩),hmo.out.drewN _,hrd.out.ext ((zr _).drewN _)⟩
def RetB(e:Ending):Prop:=∃ q:Bool,e = .returned (.bool q)
theorem zF2(W w:World)(b m:Nat)(n:Int)(h:Rd W w b (m+1))(hn:rng n) :
  Calls Tryz.prog 34 #[.pointer (some ⟨b,0,none⟩),.int .i64 n] w fun e w'=>RetB e/\Mo [b] w w'/\Rd W w' b m:=by
 have H:=zh h;have HN:=zh hn;obtain⟨hn1,hn2⟩:=hn;clear h;by_cases hn3:0 < n
 ·go_enter Tryz.func34,Tryz.ntmps34;go_wp2_with (go_at_call 36;refine(zA9 W _ b m n H.out HN.out).mono ?_;rintro e w1 ⟨k,rfl,hk,hm,hr⟩;have HM:=zh hm;have HR:=zh hr;clear hk hm hr)
  go_ret;exact⟨⟨_,rfl⟩,HM.out,HR.out⟩
 ·go_enter Tryz.func34,Tryz.ntmps34;go_wp2;go_ret;exact⟨⟨_,rfl⟩,Mo.refl _ _,H.out.le (by omega)⟩
theorem Rs.take{α:Type}[GT α]{w:World}{a:Option Addr}{n c k:Nat}{xs:List α}(h:Rs w (.slice a n c) xs)(hk:k<=xs.length):Rs w (.slice a k c) (xs.take k):=by
 obtain⟨F,a',c',he,hl,hc,hr⟩:=h;cases he;have hlen:(xs.take k).length=k:=by rw[List.length_take];omega
 rcases hr with ⟨rfl,rfl⟩ | ⟨_,b,o,F',rfl,rfl,hr⟩
 ·exact⟨[],_,c,by rw[hlen],by rw[hlen];exact Nat.le_trans hk hl,hc,.inl ⟨by simp,rfl⟩⟩
 ·rw[<- List.take_append_drop k xs] at hr;obtain⟨F1,F2,rfl,h1,_⟩:=hr.split;by_cases hx:xs.take k = []
  ·exact⟨[],_,c,by rw[hlen],by rw[hlen];exact Nat.le_trans hk hl,hc,.inl ⟨hx,rfl⟩⟩
  ·exact⟨b::F1,_,c,by rw[hlen],by rw[hlen];exact Nat.le_trans hk hl,hc,.inr ⟨hx,b,o,F1,rfl,rfl,h1⟩⟩
theorem zIl(v:Value)(xs:List By)(w:World)(h:Rs w v xs) :
  Calls Tryz.prog 14 #[v] w fun e w' => ∃ b,e = .returned (.pointer (some ⟨b,0,none⟩))/\w.heap.size<=b/\Ext w w'/\Rd w w' b 1000000000:=by
 obtain⟨a,c,rfl,hl⟩:=h.form;have H:=zh h;have hc:xs.length<=c:=by
  obtain⟨_,_,_,e,h1,_⟩:=id h;cases e;exact h1
 clear h;by_cases hx:xs.length<=2000
 ·have key:=Bk.new w [.slice a xs.length c,.int .i64 0] 80;have key2:Rd w (w.alloc (.cells #[.slice a xs.length c,.int .i64 0] 80)) w.heap.size 1000000000:=⟨Nat.le_refl _,(zr _).alloc _,xs,a,c,0,key,H.out,hx,Nat.le_refl _⟩;replace key2:=zh key2;clear key;go_enter Tryz.func14,Tryz.ntmps14;go_wp2;go_ret;exact⟨_,rfl,Nat.le_refl _,(zr _).alloc _,key2.out⟩
 ·have key:=Bk.new w [.slice a 2000 c,.int .i64 0] 80;have hlen:(xs.take 2000).length=2000:=by rw[List.length_take];omega
  have key2:Rd w (w.alloc (.cells #[.slice a 2000 c,.int .i64 0] 80)) w.heap.size 1000000000:=⟨Nat.le_refl _,(zr _).alloc _,xs.take 2000,a,c,0,by rw[hlen];exact key,by rw[hlen];exact H.out.take (by omega),by omega,Nat.le_refl _⟩
  replace key2:=zh key2;clear key hlen;have hc2:(2000:Int)<=(c:Int):=by omega
  have hx2:2000<=c:=by omega
  go_enter Tryz.func14,Tryz.ntmps14;go_wp2;go_ret;exact⟨_,rfl,Nat.le_refl _,(zr _).alloc _,key2.out⟩
theorem Os.rsb{α:Type}[GT α]{L:Nat}{w:World}{v:Value}{xs:List α}(h:Os L w v xs):Rsb L w v xs:=by
 obtain⟨F,h1,h2⟩:=h;exact⟨F,h1,fun k hk=>(h2.2 k hk).1⟩
theorem Rsb.form{α:Type}[GT α]{L:Nat}{w:World}{v:Value}{xs:List α}(h:Rsb L w v xs):∃ a c,v = .slice a xs.length c/\xs.length<=9223372036854775807:=h.rs.form
theorem zAg{n:Int}(h1 : -1000000<=n)(h2:n<=1000000):rng n:=⟨by omega,by omega⟩
theorem PickR.lt{n k:Int}(h:PickR n k)(hn:1<=n):0<=k/\k < n:=⟨h.1,h.2.1 hn⟩
theorem zLo{u w':World}{b:Nat}{zs:List Int}{T:TypeId}{k n:Int}(hm:Mo [b] (u.alloc (.cells (zs.map fun z=>Value.int .i64 z).toArray T (0,0))) w')(hb:b < u.heap.size)(hk:PickR n k)(hn:n=zs.length)(hz:0 < zs.length) :
  ∃ z,w'.cell? ⟨u.heap.size,k.toNat,none⟩=some (.int .i64 z)/\z∈zs:=by
 have h1:=hk.lt (by omega)
 have hk2:k.toNat < zs.length:=by omega
 refine⟨zs[k.toNat],?_,List.getElem_mem _⟩;rw[hm.cell (by simp;omega)]
 refine(Bk.new u (zs.map fun z=>Value.int .i64 z) T).cell ?_
 simp[hk2]
theorem Rsb.nil{α:Type}[GT α]{L:Nat}{w:World}{a:Option Addr}{n c:Nat}{xs:List α}(h:n=0)(hx:xs = [])(hc:c<=9223372036854775807):Rsb L w (.slice a n c) xs:=by
 subst h;subst hx;exact⟨[],⟨_,c,rfl,Nat.zero_le _,by unfold maxLen;omega,.inl ⟨rfl,rfl⟩⟩,fun k hk=>by cases hk⟩
theorem Mw.cell0{F:List Nat}{a b:World}(h:Mw F a b){p o:Nat}{x:Value}(hc:a.cell? ⟨p,o,none⟩=some x)(hp:p ∉ F)(hl:p < a.heap.size):b.cell? ⟨p,o,none⟩=some x:=(h.cell hp hl).trans hc
theorem zJx(w:World):Calls Tryz.prog 50 #[.agg #[.int .i64 5,.int .i64 2,.bool false],.int .i64 6] w fun e w'=>e = .returned (.bool true)/\Ext w w':=by
 have hi:zA8 6 5 6=true:=by decide
 go_enter Tryz.func50,Tryz.ntmps50;go_wp2_with (go_at_call 37;refine(zAm _ _ _ _).mono ?_;rintro e w' ⟨rfl,rfl⟩)
 go_ret;exact⟨rfl,(zr w).alloc _⟩
theorem zJw(p q:Nat)(w:World)(hp:w.cell? ⟨p,0,none⟩=some (.int .i64 6))(hq:w.cell? ⟨q,0,none⟩=some (.bool false))(hpl:p < w.heap.size)(hql:q < w.heap.size) :
  Calls Tryz.prog 49 #[.agg #[.int .i64 5,.int .i64 2,.bool false],.pointer (some ⟨p,0,none⟩),.pointer (some ⟨q,0,none⟩)] w fun e w'=>e = .returned (.bool true)/\Ext w w':=by
 have HQ:=zh hq;clear hq;go_enter Tryz.func49,Tryz.ntmps49;have HB:=zh ((zr w).alloc (.cells #[.int .i64 5,.int .i64 2,.bool false] 69));have b2:=(Bk.new w [.int .i64 5,.int .i64 2,.bool false] 69);go_wp2_with (go_at_call 50;refine(zJx _).mono ?_;rintro e w1 ⟨rfl,he⟩;have c2:=(b2.ext he).cell (j:=2) rfl;have cq:w1.cell? ⟨q,0,none⟩=some (.bool false):=((zDi (HB.out.tr he)).1 q 0 hql).trans HQ.out;have HE:=zh (HB.out.tr he);clear he)
 go_ret;exact⟨rfl,HE.out⟩
theorem zKj(v:Value)(w:World)(h:Rs (α:=Window) w v [⟨5,2,false⟩]) :
  Calls Tryz.prog 27 #[v,.int .i64 6,.bool false] w fun e w'=>e = .returned (.int .i64 0)/\Ext w w':=by
 have H:=zh h;obtain⟨a,c,rfl,hl⟩:=h.form;have hv:zGl [⟨5,2,false⟩]=true:=by decide
 clear h;go_enter Tryz.func27,Tryz.ntmps27;go_upto_region 1 with (fail)
 refine zA1 (fun W=>Ext w W/\W.cell? ⟨w.heap.size,0,none⟩=some (.int .i64 6)/\W.cell? ⟨w.heap.size+1,0,none⟩=some (.bool false)/\w.heap.size+1 < W.heap.size) ⟨((zr w).alloc _).alloc _,((Bk.new w [.int .i64 6] 3).ext ((zr _).alloc _)).cell (j:=0) rfl,(Bk.new1 _ _ _ _).cell (j:=0) rfl,by simp⟩ ?_
 rintro W ⟨e0,c0,c1,hz⟩;have HE:=zh e0;have C0:=zh c0;have C1:=zh c1;clear e0 c0 c1
 go_wp2_with (first
  | (go_at_call 47;refine(zDa _ _ _ (H.out.ext HE.out)).mono ?_;rintro e w1 ⟨rfl,he⟩;have HE1:=zh he;have hs1:=he.sz;clear he)
  | (go_at_call 48;refine(zL4 49 #[.pointer (some ⟨w.heap.size,0,none⟩),.pointer (some ⟨w.heap.size+1,0,none⟩)] (fun _=>true) _ _ _ (H.out.ext (HE.out.tr HE1.out)) (zCv Tryz.func49 (by kernel_rfl) (by kernel_rfl)) ?_).mono ?_))
 ·intro w3 v3 x3 he hx hv3;rw[List.mem_singleton] at hx;subst hx;obtain⟨rfl,_,_⟩:=hv3.openWindow;have hb:=(zDi (HE1.out.tr he)).1;exact zJw _ _ w3 ((hb _ 0 (by omega)).trans C0.out) ((hb _ 0 (by omega)).trans C1.out) (by have:=he.sz;omega) (by have:=he.sz;omega)
 ·rintro e w3 ⟨rfl,he3⟩;have hi:zEd (fun _=>true) [(⟨5,2,false⟩:Window)]=0:=rfl
  have HE3:=zh he3;clear he3;simp only[hi];go_wp2;go_ret;exact⟨rfl,(HE.out.tr HE1.out).tr HE3.out⟩
theorem law_alive(w:World):Calls Tryz.prog 9 #[] w fun e w'=>e = .returned (.bool true)/\Ext w w':=by
 have hr:Rs (α:=Window) ((w.alloc (.cells #[.int .i64 5,.int .i64 2,.bool false] 69))) (.slice (some ⟨w.heap.size,0,none⟩) 1 1) [⟨5,2,false⟩] :=
  ⟨[w.heap.size],_,1,rfl,by simp,by unfold maxLen;omega,.inr ⟨by simp,w.heap.size,0,[],rfl,rfl,Row.lit1 (cs:=[.int .i64 5,.int .i64 2,.bool false]) ⟨rfl,⟨by show _<=(5:Int);omega,by show(5:Int)<=_;omega⟩,⟨by show _<=(2:Int);omega,by show(2:Int)<=_;omega⟩,rfl⟩⟩⟩
 have HR:=zh hr;clear hr;go_enter Tryz.func9,Tryz.ntmps9;go_wp2_with (go_at_call 27;refine(zKj _ _ HR.out).mono ?_;rintro e w1 ⟨rfl,he⟩;have HE:=zh (((zr w).alloc _).tr he);clear he)
 go_ret;exact⟨rfl,HE.out⟩
def Rsx{α:Type}[GT α](G:List Nat)(L:Nat)(w:World)(v:Value)(xs:List α):Prop:=∃ F,Sl w v xs F/\∀ k∈F,L<=k/\k ∉ G
theorem Rsx.mw{α:Type}[GT α]{G F:List Nat}{L:Nat}{w w':World}{v:Value}{xs:List α}(h:Rsx G L w v xs)(k:Mw F w w')(hF:∀ x∈F,x∈G):Rsx G L w' v xs:=by
 obtain⟨K,h1,h2⟩:=h;exact⟨K,k.sl h1 (fun y hy hf=>(h2 y hy).2 (hF y hf)),h2⟩
theorem Rsb.x{α:Type}[GT α]{G:List Nat}{L L':Nat}{w:World}{v:Value}{xs:List α}(h:Rsb L w v xs)(hG:∀ x∈G,x < L\/w.heap.size<=x)(hL:L'<=L):Rsx G L' w v xs:=by
 obtain⟨K,h1,h2⟩:=h;exact⟨K,h1,fun k hk=>⟨Nat.le_trans hL (h2 k hk),fun hm=>by have:=h1.inh k hk;have:=h2 k hk;rcases hG k hm with h|h<;>omega⟩⟩
theorem Rsx.ext{α:Type}[GT α]{G:List Nat}{L:Nat}{w w':World}{v:Value}{xs:List α}(h:Rsx G L w v xs)(k:Ext w w'):Rsx G L w' v xs:=h.mw (F:=[]) (Mw.ofExt k) (by simp)
theorem Rsx.set{α:Type}[GT α]{G:List Nat}{L:Nat}{w:World}{v:Value}{xs:List α}(h:Rsx G L w v xs){p:Addr}(hp:p.block∈G)(u:Value):Rsx G L (w.setCell p u) v xs :=
 h.mw (F:=[p.block]) (Mw.ofMo ((Mo.refl _ _).set (by simp) u)) (by simpa using hp)
theorem Rvb.openS{L:Nat}{w:World}{v:Value}{s:Setup}(h:Rvb L w v s):∃ a0 c0 a1 c1 a2 c2,v = .agg #[.slice a0 s.Parts.length c0,.slice a1 s.Channels.length c1,.slice a2 s.Slots.length c2]/\s.Parts.length<=9223372036854775807/\s.Channels.length<=9223372036854775807/\s.Slots.length<=9223372036854775807:=by
 obtain⟨cs,F,rfl,⟨v0,v1,v2,F0,F1,F2,rfl,h0,h1,h2,rfl⟩,_⟩:=h;obtain⟨a0,c0,rfl,g0⟩:=(show Rs w v0 s.Parts from⟨_,h0⟩).form
 obtain⟨a1,c1,rfl,g1⟩:=(show Rs w v1 s.Channels from⟨_,h1⟩).form
 obtain⟨a2,c2,rfl,g2⟩:=(show Rs w v2 s.Slots from⟨_,h2⟩).form
 exact⟨_,_,_,_,_,_,rfl,g0,g1,g2⟩
theorem Rvb.ext{α:Type}[GT α]{L:Nat}{w w':World}{v:Value}{x : α}(h:Rvb L w v x)(k:Ext w w'):Rvb L w' v x:=by
 obtain⟨cs,F,h1,h2,h3⟩:=h;exact⟨cs,F,h1,GT.ext h2 k,h3⟩
theorem Rvb.set{α:Type}[GT α]{L:Nat}{w:World}{v:Value}{x : α}(h:Rvb L w v x){p:Addr}(hp:p.block < L)(u:Value):Rvb L (w.setCell p u) v x:=by
 obtain⟨cs,F,h1,h2,h3⟩:=h;exact⟨cs,F,h1,GT.keep h2 (fun k hk=>zA4 (by have:=h3 k hk;omega)),h3⟩
theorem Rvb.mw{α:Type}[GT α]{L:Nat}{w w':World}{v:Value}{x : α}{F:List Nat}(h:Rvb L w v x)(k:Mw F w w')(hF:∀ y∈F,y < L):Rvb L w' v x:=by
 obtain⟨cs,G,h1,h2,h3⟩:=h;exact⟨cs,G,h1,k.enc h2 (fun y hy hf=>by have:=h3 y hy;have:=hF y hf;omega),h3⟩
theorem Rvb.mono{α:Type}[GT α]{L L':Nat}{w:World}{v:Value}{x : α}(h:Rvb L w v x)(k:L'<=L):Rvb L' w v x:=by
 obtain⟨cs,F,h1,h2,h3⟩:=h;exact⟨cs,F,h1,h2,fun y hy=>Nat.le_trans k (h3 y hy)⟩
theorem zFr{β:Type}{f : β -> Nat -> β}{m : β -> Nat}(h:∀ x k,f x k=x\/m x < m (f x k))(x : β):∀ k,(zA5 f x k=x/\∀ j,j < k->f x j=x)\/m x < m (zA5 f x k)
 | 0 => .inl ⟨rfl,fun j hj=>absurd hj (Nat.not_lt_zero j)⟩
 | k+1=>by
  show(f (zA5 f x k) k=x/\_)\/m x < m (f (zA5 f x k) k)
  rcases zFr h x k with ⟨h1,h2⟩|h1
  ·rw[h1];rcases h x k with h3|h3
   ·refine .inl ⟨h3,fun j hj=>?_⟩
    by_cases hjk:j=k
    ·subst hjk;exact h3
    ·exact h2 j (by omega)
   ·exact .inr h3
  ·rcases h (zA5 f x k) k with h3|h3
   ·rw[h3];exact .inr h1
   ·exact .inr (Nat.lt_trans h1 h3)
theorem zNz{β:Type}{f : β -> Nat -> β}{m : β -> Nat}(g : β -> β)(hg:∀ x k,f x k=g x)(h:∀ x,g x=x\/m x < m (g x))(x : β):∀ k,g (zA5 f x k)=zA5 f x k\/m x+k<=m (zA5 f x k)
 | 0 => .inr (Nat.le_refl _)
 | k+1=>by
  show g (f (zA5 f x k) k)=f (zA5 f x k) k\/m x+(k+1)<=m (f (zA5 f x k) k)
  rw[hg];rcases zNz g hg h x k with h1|h1
  ·rw[h1];exact .inl h1
  ·rcases h (zA5 f x k) with h2|h2
   ·rw[h2];exact .inl h2
   ·exact .inr (by omega)
theorem zIc(cs:List Channel)(a:Nat)(out:List Bool)(b:Nat):zAa cs a out b=out\/out.count true < (zAa cs a out b).count true:=by
 by_cases ha:a < out.length
 ·have hget:out.getD a false=out[a]:=by rw[List.getD_eq_getElem?_getD,List.getElem?_eq_getElem ha];rfl
  cases hx:out.getD a false
  ·cases hy:(out.getD b false && zG1 cs a b)
   ·left;unfold zAa;rw[hx,hy]
    show out.set a false=out
    rw[<- hx,hget];exact List.set_getElem_self ha
   ·right;unfold zAa;rw[hx,hy]
    show out.count true < (out.set a true).count true
    rw[List.count_set ha,<- hget,hx];simp
  ·left;unfold zAa;rw[hx]
   show out.set a true=out
   rw[<- hx,hget];exact List.set_getElem_self ha
 ·left;unfold zAa;exact List.set_eq_of_length_le (by omega)
theorem zJh(cs:List Channel)(n:Nat)(out:List Bool)(a:Nat):zAx cs n out a=out\/out.count true < (zAx cs n out a).count true:=by
 rcases zFr (m:=fun o:List Bool=>o.count true) (zIc cs a) out n with h|h
 ·exact .inl h.1
 ·exact .inr h
theorem zLa(cs:List Channel)(n:Nat)(out:List Bool)(k:Nat):zAb cs n out k=out\/out.count true < (zAb cs n out k).count true:=by
 rcases zFr (m:=fun o:List Bool=>o.count true) (zJh cs n) out n with h|h
 ·exact .inl h.1
 ·exact .inr h
theorem zDl{l:List Bool}{i:Nat}(h:i < l.length)(y:Bool):(l.set i y).getD i false=y:=by
 rw[List.getD_eq_getElem?_getD,List.getElem?_set_self h];rfl
theorem zGm{l:List Bool}{i j:Nat}(h:i≠j)(y:Bool):(l.set i y).getD j false=l.getD j false:=by
 rw[List.getD_eq_getElem?_getD,List.getElem?_set_ne h,List.getD_eq_getElem?_getD]
theorem zJt{l:List Bool}{i:Nat}(h:l.getD i false=true):i < l.length:=by
 by_cases hi:i < l.length
 ·exact hi
 ·rw[List.getD_eq_getElem?_getD,List.getElem?_eq_none (by omega)] at h;cases h
theorem zJg(cs:List Channel)(n k:Nat)(P:List Bool->Prop)(h0:P ((List.replicate n false).set k true))(hs:∀ out a b,P out->P (zAa cs a out b)):P (zBd cs n k) :=
 zDo P h0 (fun x _ h=>zDo P h (fun y a h'=>zDo P h' (fun z b h''=>hs z a b h'') n) n) n
theorem zLz(cs:List Channel){n k:Nat}(hk:k < n):(zBd cs n k).getD k false=true:=by
 refine zJg cs n k (fun o=>o.getD k false=true) (zDl (by simpa using hk) true) fun out a b h=>?_
 unfold zAa;by_cases hak:a=k
 ·subst hak;rw[zDl (zJt h),h];rfl
 ·rw[zGm hak];exact h
theorem zL8(cs:List Channel){n k:Nat}(S:Nat->Prop)(hk:S k)(hS:∀ a b,a < n->b < n->S b->zG1 cs a b=true->S a):∀ i,(zBd cs n k).getD i false=true->S i:=by
 refine(zJg cs n k (fun o=>o.length=n/\∀ i,o.getD i false=true->S i) ⟨by simp,fun i hi=>?_⟩ fun out a b h=>?_).2
 ·by_cases hik:k=i
  ·subst hik;exact hk
  ·rw[zGm hik] at hi
   have:=zJt hi
   rw[List.getD_eq_getElem?_getD] at hi;simp at this;simp[this] at hi
 ·refine⟨by unfold zAa;simpa using h.1,fun i hi=>?_⟩
  unfold zAa at hi;by_cases hai:a=i
  ·subst hai;have ha:=zJt hi;rw[List.length_set] at ha;rw[zDl ha] at hi;rcases Bool.or_eq_true_iff.1 hi with h1|h1
   ·exact h.2 _ h1
   ·obtain⟨h2,h3⟩:=Bool.and_eq_true_iff.1 h1;have hb:=zJt h2;exact hS a b (by omega) (by omega) (h.2 _ h2) h3
  ·rw[zGm hai] at hi;exact h.2 _ hi
theorem zPj(n k:Nat)(hk:k < n):((List.replicate n false).set k true).count true=1:=by
 rw[List.count_set (by simpa using hk)]
 simp[List.count_replicate]
theorem zG8(cs:List Channel){n k:Nat}(hk:k < n){a b:Nat}(ha:a < n)(hb:b < n)(h:(zBd cs n k).getD b false=true)(hd:zG1 cs a b=true):(zBd cs n k).getD a false=true:=by
 have hl:=zCl cs n k;have hfix:zAb cs n (zBd cs n k) 0=zBd cs n k:=by
  rcases zNz (m:=fun o:List Bool=>o.count true) (fun o=>zAb cs n o 0) (fun _ _=>rfl) (fun o=>zLa cs n o 0) ((List.replicate n false).set k true) n with h1|h1
  ·exact h1
  ·have h2:(zBd cs n k).count true<=n:=Nat.le_trans List.count_le_length (Nat.le_of_eq hl);have h3:((List.replicate n false).set k true).count true+n<=(zBd cs n k).count true:=h1;rw[zPj n k hk] at h3;omega
 generalize zBd cs n k=F at *
 rcases zFr (m:=fun o:List Bool=>o.count true) (zJh cs n) F n with h1|h1
 ·have h2:=h1.2 a ha;rcases zFr (m:=fun o:List Bool=>o.count true) (zIc cs a) F n with h3|h3
  ·have h4:=h3.2 b hb;unfold zAa at h4;rw[h,hd] at h4;simp only[Bool.and_self,Bool.or_true] at h4;rw[<- h4];exact zDl (by omega) true
  ·exfalso
   have:zA5 (zAa cs a) F n=F:=h2
   rw[this] at h3;exact Nat.lt_irrefl _ h3
 ·exfalso
  have:zA5 (zAx cs n) F n=F:=hfix
  rw[this] at h1;exact Nat.lt_irrefl _ h1
theorem zL9(cs:List Channel){n a b c:Nat}(hc:c < n)(h1:(zBd cs n b).getD a false=true)(h2:(zBd cs n c).getD b false=true):(zBd cs n c).getD a false=true :=
 zL8 cs (fun i=>(zBd cs n c).getD i false=true) h2 (fun i j hi hj hS hd=>zG8 cs hc hi hj hS hd) a h1
end Sk
