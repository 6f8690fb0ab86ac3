/- Contracts of functions of the given program. -/
import Derived.Deep.AppendLies
import Derived.Deep.RegionHeld3
import Derived.Test.YtfdeoepbnefckaaGreatChecked
import Derived.Test.YtfdeoepbnefckaaGreatTypes
namespace Sk
open Go Go.RowKit
def El(P:Program)(e:TypeId)(α:Type)[GT α]:Prop :=
 ∃ i z bytes,P.info? e=some i/\i.zero=some z/\i.size=GT.sz α /\ i.bytes=bytes/\z.cells.toList=GT.zc α /\ bytes<=256
theorem El.of{P:Program}{e:TypeId}{α:Type}[GT α]{z:Value}{n b:Nat}(h:(P.info? e).map (fun i=>(i.zero,i.size,i.bytes))=some (some z,n,b))(hn:n=GT.sz α)(hz:z.cells.toList=GT.zc α)(hb:b<=256):El P e α:=by
 obtain⟨i,hi,h1,h2,h3⟩:=info_parts h;exact⟨i,z,b,hi,h1,h2.trans hn,h3,hz,hb⟩
def Oa{α:Type}[GT α](e:TypeId)(L:Nat)(w:World)(v:Value)(xs:List α)(F:List Nat):Prop :=
 (v = .slice none 0 0/\xs = []/\F = []) \/
 ∃ g cap cur,v = .slice (some ⟨g,0,none⟩) xs.length cap/\L<=g/\w.heap[g]? = some (.cells cur e (0,0))/\xs.length<=cap/\cap<=maxLen/\cur.size=cap*GT.sz α /\ Row w g 0 xs F/\g ∉ F
theorem Row.cells{α:Type}[GT α]{w:World}{b:Nat}{xs:List α}:∀ {o:Nat} {F:List Nat},Row w b o xs F ->
  ∃ cs:List Value,cs.length=xs.length*GT.sz α /\ At w b o cs/\∀ u∈cs,u.oneCell'=true:=by
 induction xs with
 | nil=>intro o F _;exact⟨[],by simp,fun j u hj=>by simp at hj,fun u hu=>by cases hu⟩
 | cons x xs ih =>
  intro o F h;obtain⟨cs,F1,F2,he,ha,rfl,hr⟩:=h;obtain⟨ds,hl,hd,h1⟩:=ih hr;have hlc:=GT.len he;refine⟨cs++ds,by rw[List.length_append,hl,hlc,List.length_cons,Nat.succ_mul];omega,fun j u hj=>?_,fun u hu=>?_⟩
  ·by_cases hjc:j < cs.length
   ·rw[List.getElem?_append_left hjc] at hj;exact ha j u hj
   ·rw[List.getElem?_append_right (by omega)] at hj
    have:=hd _ u hj
    rw[show o+GT.sz α + (j - cs.length)=o+j by omega] at this
    exact this
  ·rcases List.mem_append.1 hu with hu|hu
   ·exact GT.one he u hu
   ·exact h1 u hu
theorem Oa.ext{α:Type}[GT α]{e:TypeId}{L:Nat}{w w':World}{v:Value}{xs:List α}{F:List Nat}(h:Oa e L w v xs F)(he:Ext w w'):Oa e L w' v xs F:=by
 rcases h with h | ⟨g,cap,cur,rfl,hL,hg,hl,hc,hs,hr,hn⟩
 ·exact .inl h
 ·have hgl:g < w.heap.size:=(Bk.ofA hg).lt;have hb:=he.block;exact .inr ⟨g,cap,cur,rfl,hL,by rw[hb g hgl];exact hg,hl,hc,hs,hr.keep (hb g hgl) (fun k hk=>hb k (hr.inh k hk)),hn⟩
theorem Oa.keep{α:Type}[GT α]{e:TypeId}{L:Nat}{w w':World}{v:Value}{xs:List α}{F:List Nat}(h:Oa e L w v xs F)(hv:∀ k,v.ownBlock=some k->w'.heap[k]? = w.heap[k]?)(hF:∀ k∈F,w'.heap[k]? = w.heap[k]?):Oa e L w' v xs F:=by
 rcases h with h | ⟨g,cap,cur,rfl,hL,hg,hl,hc,hs,hr,hn⟩
 ·exact .inl h
 ·have hb:=hv g rfl;exact .inr ⟨g,cap,cur,rfl,hL,by rw[hb];exact hg,hl,hc,hs,hr.keep hb hF,hn⟩
theorem Oa.own{α:Type}[GT α]{e:TypeId}{L:Nat}{w:World}{v:Value}{xs:List α}{F:List Nat}(h:Oa e L w v xs F):∀ k,v.ownBlock=some k->L<=k:=by
 rcases h with ⟨rfl,_⟩ | ⟨g,cap,cur,rfl,hL,_⟩
 ·intro k hk;cases hk
 ·intro k hk;cases hk;exact hL
theorem Oa.lt{α:Type}[GT α]{e:TypeId}{L:Nat}{w:World}{v:Value}{xs:List α}{F:List Nat}(h:Oa e L w v xs F):∀ k,v.ownBlock=some k->k < w.heap.size:=by
 rcases h with ⟨rfl,_⟩ | ⟨g,cap,cur,rfl,hL,hg,_⟩
 ·intro k hk;cases hk
 ·intro k hk;cases hk;exact(Bk.ofA hg).lt
theorem Oa.cap{α:Type}[GT α]{e:TypeId}{L:Nat}{w:World}{ad:Option Addr}{n c:Nat}{xs:List α}{F:List Nat}(h:Oa e L w (.slice ad n c) xs F):xs.length<=c/\c<=9223372036854775807:=by
 rcases h with ⟨h,rfl,_⟩ | ⟨g,cap,cur,h,hL,hg,hl,hc,_⟩
 ·cases h;exact⟨Nat.le_refl _,by simp⟩
 ·cases h;unfold maxLen at hc;exact⟨hl,hc⟩
theorem Sl.clip{α:Type}[GT α]{w:World}{ad:Option Addr}{n c:Nat}{xs:List α}{F:List Nat}(h:Sl w (.slice ad n c) xs F):Sl w (.slice ad n n) xs F:=by
 obtain⟨a',c',he,hl,hc,r⟩:=h;cases he;exact⟨ad,xs.length,rfl,Nat.le_refl _,Nat.le_trans hl hc,r⟩
theorem Os.clip{α:Type}[GT α]{L:Nat}{w:World}{ad:Option Addr}{n c:Nat}{xs:List α}(h:Os L w (.slice ad n c) xs):Os L w (.slice ad n n) xs:=by
 obtain⟨F,h,o⟩:=h;exact⟨F,h.clip,o⟩
theorem zAe{w w':World}{row:Option Nat}{b o:Nat}{u:Value}(hg:w.grownBy w' row)(hc:w.cell? ⟨b,o,none⟩=some u)(hb:b < w.heap.size)(hne:∀ k,row=some k->k≠b):w'.cell? ⟨b,o,none⟩=some u:=by
 rw[World.cell?_of_block (w:=w) (w':=w') (hg.block b hb (fun e=>hne b e.symm rfl))];exact hc
theorem Oa.form{α:Type}[GT α]{e:TypeId}{L:Nat}{w:World}{v:Value}{xs:List α}{F:List Nat}(h:Oa e L w v xs F):∃ a c,v = .slice a xs.length c/\xs.length<=9223372036854775807:=by
 rcases h with ⟨rfl,rfl,_⟩ | ⟨g,cap,cur,rfl,hL,hg,hl,hc,_⟩
 ·exact⟨none,0,rfl,by simp⟩
 ·unfold maxLen at hc;exact⟨_,cap,rfl,by omega⟩
theorem Oa.os{α:Type}[GT α]{e:TypeId}{L:Nat}{w:World}{v:Value}{xs:List α}{F:List Nat}(h:Oa e L w v xs F)(ho:Own L w F):Os L w v xs:=by
 rcases h with ⟨rfl,rfl,rfl⟩ | ⟨g,cap,cur,rfl,hL,hg,hl,hc,hs,hr,hn⟩
 ·exact⟨[],⟨none,0,rfl,Nat.le_refl _,Nat.zero_le _,.inl ⟨rfl,rfl⟩⟩,ho⟩
 ·by_cases hx:xs = []
  ·subst hx;exact⟨[],⟨_,cap,rfl,hl,hc,.inl ⟨rfl,rfl⟩⟩,Own.nil _ _⟩
  ·refine⟨g::F,⟨_,cap,rfl,hl,hc,.inr ⟨hx,g,0,F,rfl,rfl,hr⟩⟩,List.nodup_cons.2 ⟨hn,ho.1⟩,fun b hb=>?_⟩
   rcases List.mem_cons.1 hb with rfl|hb
   ·exact⟨hL,_,e,Bk.ofA hg⟩
   ·exact ho.2 b hb
theorem Oa.rs{α:Type}[GT α]{e:TypeId}{L:Nat}{w:World}{v:Value}{xs:List α}{F:List Nat}(h:Oa e L w v xs F):Rs w v xs:=by
 rcases h with ⟨rfl,rfl,rfl⟩ | ⟨g,cap,cur,rfl,hL,hg,hl,hc,hs,hr,hn⟩
 ·exact⟨[],none,0,rfl,Nat.le_refl _,Nat.zero_le _,.inl ⟨rfl,rfl⟩⟩
 ·by_cases hx:xs = []
  ·subst hx;exact⟨[],_,cap,rfl,hl,hc,.inl ⟨rfl,rfl⟩⟩
  ·exact⟨g::F,_,cap,rfl,hl,hc,.inr ⟨hx,g,0,F,rfl,rfl,hr⟩⟩
theorem Oa.nil{α:Type}[GT α](e:TypeId)(L:Nat)(w:World):Oa (α:=α) e L w (.slice none 0 0) [] []:=.inl ⟨rfl,rfl,rfl⟩
theorem Oa.lit{α:Type}[GT α](e:TypeId)(w:World)(cs:List Value)(xs:List α){F:List Nat}{n:Nat}(hn:n=xs.length)(hl:cs.length=xs.length*GT.sz α)(hm:xs.length<=9223372036854775807)
  (hr:Row (w.alloc (.cells cs.toArray e (0,0))) w.heap.size 0 xs F) (hF:∀ k∈F,k < w.heap.size) :
  Oa e w.heap.size (w.alloc (.cells cs.toArray e (0,0))) (.slice (some ⟨w.heap.size,0,none⟩) n n) xs F:=by
 subst hn;refine .inr ⟨w.heap.size,xs.length,cs.toArray,rfl,Nat.le_refl _,by show(w.heap.push _)[w.heap.size]? = _;simp,Nat.le_refl _,by simpa [maxLen] using hm,by simpa using hl,hr,fun h=>?_⟩
 have:=hF _ h;omega
theorem Oa.lit0{α:Type}[GT α](e:TypeId)(w:World):Oa (α:=α) e w.heap.size (w.alloc (.cells #[] e (0,0))) (.slice (some ⟨w.heap.size,0,none⟩) 0 0) [] [] :=
 Oa.lit e w [] [] rfl (by simp) (by simp) rfl (fun k hk=>by cases hk)
theorem Oa.mono{α:Type}[GT α]{e:TypeId}{L L':Nat}{w:World}{v:Value}{xs:List α}{F:List Nat}(h:Oa e L w v xs F)(hl:L'<=L):Oa e L' w v xs F:=by
 rcases h with h | ⟨g,cap,cur,rfl,hL,r⟩
 ·exact .inl h
 ·exact .inr ⟨g,cap,cur,rfl,Nat.le_trans hl hL,r⟩
theorem zFu{α:Type}[GT α]{w w':World}{g g' ad ao:Nat}{xs ys:List α}{F Fy:List Nat}{olds news:List Value}
  (hr:Row w g 0 xs F) (hy:Row w ad ao ys Fy) (hol:olds.length=xs.length*GT.sz α) (ho:At w g 0 olds) (hnl:news.length=ys.length*GT.sz α) (hn:At w ad ao news)
  (hc:∀ j u,(olds++news)[j]? = some u->w'.cell? ⟨g',j,none⟩=some u) (hF:∀ k∈F,w'.heap[k]? = w.heap[k]?) (hFy:∀ k∈Fy,w'.heap[k]? = w.heap[k]?) :
  Row w' g' 0 (xs++ys) (F++Fy):=by
 refine Row.append (hr.move hF fun j u hj hu=>?_) (hy.move hFy fun j u hj hu=>?_)
 ·have hj2:j < olds.length:=by omega
  have h1:=ho j olds[j] (by simp[hj2])
  rw[h1] at hu;cases hu;rw[Nat.zero_add];exact hc j _ (by rw[List.getElem?_append_left hj2];simp[hj2])
 ·have hj2:j < news.length:=by omega
  have h1:=hn j news[j] (by simp[hj2])
  rw[h1] at hu;cases hu;rw[Nat.zero_add,<- hol];exact hc _ _ (by rw[List.getElem?_append_right (by omega),Nat.add_sub_cancel_left];simp[hj2])
theorem zD4{w:World}{base e sz n g cap:Nat}{xs:List Value}(h:w.ownsRow base e sz (.slice (some ⟨g,0,none⟩) n cap) n xs) :
  base<=g/\n<=cap/\cap<=maxLen/\∃ cur,w.heap[g]? = some (.cells cur e (0,0))/\cur.size=cap*sz/\∀ j u,xs[j]? = some u->w.cell? ⟨g,j,none⟩=some u:=by
 obtain⟨hl,⟨h,_⟩ | ⟨g',cap',cur,he,hb,hg,hn,hc,hs,ht⟩⟩:=h
 ·cases h
 ·cases he;refine⟨hb,hn,hc,cur,hg,hs,fun j u hj=>?_⟩
  rw[<- ht] at hj;have hj2:=(List.getElem?_eq_some_iff.1 hj).1;rw[List.getElem?_take] at hj
  split at hj
  ·simp only[World.cell?,hg]
   simpa using hj
  ·cases hj
theorem zI5{α:Type}[GT α]{P:Program}{w:World}{o:Oper}{a:Act}{K:Act->World->Prop}{Q:Exit->Act->World->Prop}(s x:Operand)(t:TypeId)
  (ho:o.op = .call { callee:=.builtin .append,args:=#[s,x],argTypes:=#[t,t] }) (e:TypeId) (ht:P.underlying t=some (.slice e)) (hel:El P e α)
  {L:Nat} {v:Value} {xs ys:List α} {F Fy:List Nat} (hs:a.eval s=v) (hO:Oa e L w v xs F) {ab ao m c:Nat} (hx:a.eval x = .slice (some ⟨ab,ao,none⟩) m c) (hm:ys.length=m) (hy:Row w ab ao ys Fy)
  (hm0:0 < m) (hd:∀ k∈Fy,v.ownBlock≠some k) (hlen:xs.length+m<=4294967296) (hL:L<=w.heap.size)
  (h:∀ v' w',Oa e L w' v' (xs++ys) (F++Fy)->w.grownBy w' v.ownBlock->(v'.ownBlock=v.ownBlock\/v'.ownBlock=some w.heap.size)->K (a.put o.dst v') w'):o.wp P a w K Q:=by
 obtain⟨i,z,bytes,hi,hz,hsz,hby,hzc,hb⟩:=hel;have hzl:z.cells.size=GT.sz α:=by rw[<- GT.len (GT.zero (α:=α) w),<- hzc];simp
 have hp:=GT.pos (α:=α);obtain⟨news,hnl,hnat,hn1⟩:=hy.cells;have hadd:∀ (b' o' j:Nat),Addr.add ⟨b',o',none⟩ j=⟨b',o'+j,none⟩:=fun b' o' j=>by
  unfold Addr.add;split;·subst j;rfl
  ·rfl
 have hbytes:(xs.length+m)*bytes<=140737488355328:=by
  have:=Nat.mul_le_mul hlen hb
  omega
 have hmx:xs.length+m<=maxLen:=by unfold maxLen;omega
 have hnews:∀ j u,news[j]? = some u->w.cell? (Addr.add ⟨ab,ao,none⟩ j)=some u:=fun j u hj=>by rw[hadd];exact hnat j u hj
 have hOl:=hO.lt;have hown:∃ olds,olds.length=xs.length*GT.sz α /\ w.ownsRow L e (GT.sz α) v xs.length olds/\∀ g cap w',w'.ownsRow L e (GT.sz α) (.slice (some ⟨g,0,none⟩) (xs.length+m) cap) (xs.length+m) (olds++news) ->
   (∀ k∈F,w'.heap[k]? = w.heap[k]?)->(∀ k∈Fy,w'.heap[k]? = w.heap[k]?)->Row w' g 0 (xs++ys) (F++Fy):=by
  rcases hO with ⟨rfl,rfl,rfl⟩ | ⟨g,cap,cur,rfl,hLg,hg,hl,hc,hcs,hr,hgF⟩
  ·refine⟨[],by simp,⟨by simp,.inl ⟨rfl,rfl⟩⟩,fun g cap w' hw _ hFy=>?_⟩
   obtain⟨_,_,_,_,_,_,h6⟩:=zD4 hw;exact zFu (g:=0) (ad:=ab) (ao:=ao) (xs:=[]) rfl hy (by simp:([]:List Value).length=_) (fun j u hj=>by simp at hj) hnl hnat h6 (fun k hk=>by cases hk) hFy
  ·have e1:cur.toList.length=cap*GT.sz α:=by rw[Array.length_toList,hcs]
   have hcl:(cur.toList.take (xs.length*GT.sz α)).length=xs.length*GT.sz α:=by
    rw[List.length_take,e1,Nat.min_eq_left (Nat.mul_le_mul_right _ hl)]
   have hown:w.ownsRow L e (GT.sz α) (.slice (some ⟨g,0,none⟩) xs.length cap) xs.length (cur.toList.take (xs.length*GT.sz α)) :=
    ⟨hcl,.inr ⟨g,cap,cur,rfl,hLg,hg,hl,hc,hcs,rfl⟩⟩
   have hcat:At w g 0 (cur.toList.take (xs.length*GT.sz α)):=fun j u hj=>by
    obtain⟨_,_,_,cur3,_,_,h6⟩:=zD4 hown;rw[Nat.zero_add];exact h6 j u hj
   refine⟨_,hcl,hown,fun g' cap' w' hw hF hFy=>?_⟩
   obtain⟨_,_,_,_,_,_,h6⟩:=zD4 hw;exact zFu hr hy hcl hcat hnl hnat h6 hF hFy
 have hFlt:∀ k∈F,k < w.heap.size/\v.ownBlock≠some k:=by
  rcases hO with ⟨rfl,rfl,rfl⟩ | ⟨g,cap,cur,rfl,hLg,hg,hl,hc,hcs,hr,hgF⟩
  ·intro k hk;cases hk
  ·intro k hk;exact⟨hr.inh k hk,fun e=>by cases e;exact hgF hk⟩
 obtain⟨olds,hol,how,hrow⟩:=hown;refine wp_append_lies w s x t ho L e i z (GT.sz α) bytes ht hi hz hsz hby hzl hp v xs.length olds hs how ⟨ab,ao,none⟩ m c news hx (by rw[hnl,hm]) hnews hn1 hm0 hmx hbytes hL w.heap.size rfl fun g cap w' hown2 hgr hat hlt=>?_
 obtain⟨h1,h2,h3,cur2,h4,h5,_⟩:=zD4 hown2;refine h _ w' (.inr ⟨g,cap,cur2,by simp[hm],h1,h4,by simpa [hm] using h2,h3,h5,hrow g cap w' hown2 (fun k hk=>hgr.block k (hFlt k hk).1 (fun e=>(hFlt k hk).2 e.symm)) (fun k hk=>hgr.block k (hy.inh k hk) (fun e=>hd k hk e.symm)),fun hk=>?_⟩) hgr (hat.elim (fun h => .inl (by rw[h];rfl)) (fun h => .inr (by rw[h];rfl)))
 rcases List.mem_append.1 hk with hk|hk
 ·rcases hat with hat|hat
  ·exact(hFlt g hk).2 hat
  ·have:=(hFlt g hk).1;omega
 ·rcases hat with hat|hat
  ·exact hd g hk hat
  ·have:=hy.inh g hk;omega
theorem wp_app{α:Type}[GT α]{P:Program}{w:World}{o:Oper}{a:Act}{K:Act->World->Prop}{Q:Exit->Act->World->Prop}(s x:Operand)(t:TypeId)
  (ho:o.op = .call { callee:=.builtin .append,args:=#[s,x],argTypes:=#[t,t] }) (e:TypeId) (ht:P.underlying t=some (.slice e)) (hel:El P e α)
  {L:Nat} {v:Value} {xs ys:List α} {F Fy:List Nat} (hs:a.eval s=v) (hO:Oa e L w v xs F) {ab ao m c:Nat} (hx:a.eval x = .slice (some ⟨ab,ao,none⟩) m c) (hm:ys.length=m) (hy:Row w ab ao ys Fy)
  (hm0:0 < m) (hd:∀ k∈Fy,v.ownBlock≠some k) (hlen:xs.length+m<=4294967296) (hL:L<=w.heap.size)
  (h:∀ v' w',Oa e L w' v' (xs++ys) (F++Fy)->w.grownBy w' v.ownBlock->K (a.put o.dst v') w'):o.wp P a w K Q :=
 zI5 s x t ho e ht hel hs hO hx hm hy hm0 hd hlen hL fun v' w' h1 h2 _=>h v' w' h1 h2
theorem zCq{α:Type}[GT α]{P:Program}{w:World}{ops:Array Oper}{rest:List Oper}{o:Oper}{a:Act}{Q:Exit->Act->World->Prop}(hgd:o.guard=none)(s x:Operand)(t:TypeId)
  (ho:o.op = .call { callee:=.builtin .append,args:=#[s,x],argTypes:=#[t,t] }) (e:TypeId) (ht:P.underlying t=some (.slice e)) (hel:El P e α)
  {L:Nat} {v:Value} {xs ys:List α} {F Fy:List Nat} (hs:a.eval s=v) (hO:Oa e L w v xs F) {ab ao m c:Nat} (hx:a.eval x = .slice (some ⟨ab,ao,none⟩) m c) (hm:ys.length=m) (hy:Row w ab ao ys Fy)
  (hm0:0 < m) (hd:∀ k∈Fy,v.ownBlock≠some k) (hlen:xs.length+m<=4294967296) (hL:L<=w.heap.size)
  (h:∀ v' w',Oa e L w' v' (xs++ys) (F++Fy)->w.grownBy w' v.ownBlock->wpList P ops Q rest (a.put o.dst v') w'):wpList P ops Q (o::rest) a w :=
 wpList_plain hgd fun _ hK=>wp_app s x t ho e ht hel hs hO hx hm hy hm0 hd hlen hL fun v' w' h1 h2=>hK _ _ (h v' w' h1 h2)
open Go.Proofs
set_option maxHeartbeats 400000
set_option maxRecDepth 100000
set_option linter.unusedVariables false
set_option linter.unusedSimpArgs false
def zA4(n lo hi:Int):Bool:=decide (lo<=n) && decide (n<=hi)
theorem zGl{n lo hi:Int}(h1:lo<=n)(h2:n<=hi):zA4 n lo hi=true:=by simp[zA4,h1,h2]
theorem zJ4{n lo hi:Int}(h:¬ (lo<=n/\n<=hi)):zA4 n lo hi=false:=by simp[zA4];omega
theorem zA7{n lo hi:Int}:zA4 n lo hi=true ↔ lo<=n/\n<=hi:=by simp[zA4]
theorem zAb(n lo hi:Int)(w:World):Calls Tryz.prog 61 #[.int .i64 n,.int .i64 lo,.int .i64 hi] w fun e w'=>e = .returned (.bool (zA4 n lo hi))/\w=w':=by
 by_cases h1:lo<=n
 ·have hm:Hid (zA4 n lo hi=decide (n<=hi)):=by simp[zA4,h1,Hid]
  go_enter Tryz.func61,Tryz.ntmps61;go_wp2
  all_goals go_ret
  all_goals exact⟨by rw[hm.out];rfl,rfl⟩
 ·have hm:Hid (zA4 n lo hi=false):=by simp[zA4,h1,Hid]
  go_enter Tryz.func61,Tryz.ntmps61;go_wp2
  all_goals go_ret
  all_goals exact⟨by rw[hm.out];rfl,rfl⟩
theorem zAc(n lo hi:Int)(w:World):Calls Tryz.prog 31 #[.int .i64 n,.int .i64 lo,.int .i64 hi] w fun e w'=>e = .returned (.bool (zA4 n lo hi))/\w=w':=by
 by_cases h1:lo<=n
 ·have hm:Hid (zA4 n lo hi=decide (n<=hi)):=by simp[zA4,h1,Hid]
  go_enter Tryz.func31,Tryz.ntmps31;go_wp2
  all_goals go_ret
  all_goals exact⟨by rw[hm.out];rfl,rfl⟩
 ·have hm:Hid (zA4 n lo hi=false):=by simp[zA4,h1,Hid]
  go_enter Tryz.func31,Tryz.ntmps31;go_wp2
  all_goals go_ret
  all_goals exact⟨by rw[hm.out];rfl,rfl⟩
def zE8(b:Bool):Int:=if b then 1 else 0
theorem impl_bit(b:Bool)(w:World):Calls Tryz.prog 108 #[.bool b] w fun e w'=>e = .returned (.int .i64 (zE8 b))/\w=w':=by
 cases b
 iterate 2 (·go_enter Tryz.func108,Tryz.ntmps108;go_wp2;go_ret;exact⟨rfl,rfl⟩)
theorem zEs(n:Int)(w:World):Calls Tryz.prog 71 #[.int .i64 n] w fun e w'=>e = .returned (.bool (zA4 n 0 255))/\w=w':=by
 go_enter Tryz.func71,Tryz.ntmps71;go_wp2_with (go_at_call 31;refine(zAc _ _ _ _).mono ?_;rintro e w' ⟨rfl,rfl⟩)
 go_ret;exact⟨rfl,rfl⟩
noncomputable def zB6(k s:Int):Bool:=Bo (k=1/\s=1\/(k=2\/k=3)/\1<=s/\s<=4)
theorem zBk(k s:Int)(w:World):Calls Tryz.prog 72 #[.int .i64 k,.int .i64 s] w fun e w'=>e = .returned (.bool (zB6 k s))/\w=w':=by
 by_cases h1:k=1
 ·subst h1;have hm:Hid (zB6 1 s=(s == 1)):=by
   unfold Hid zB6;by_cases h:s=1
   ·rw[Bo.t (by omega)];simp[h]
   ·rw[Bo.f (by omega)];simp[h]
  go_enter Tryz.func72,Tryz.ntmps72;go_wp2
  all_goals go_ret
  all_goals exact⟨by rw[hm.out];(first|rfl|simp_all),rfl⟩
 ·have h1':(k == 1)=false:=by simpa using h1
  by_cases h2:k=2
  ·subst h2;have hm:Hid (zB6 2 s=zA4 s 1 4):=by
    unfold Hid zB6;by_cases h:1<=s/\s<=4
    ·rw[Bo.t (by omega),zGl h.1 h.2]
    ·rw[Bo.f (by omega),zJ4 h]
   clear h1 h1';go_enter Tryz.func72,Tryz.ntmps72;go_wp2_with (go_at_call 31;refine(zAc _ _ _ _).mono ?_;rintro e w' ⟨rfl,rfl⟩)
   go_ret;exact⟨by rw[hm.out];rfl,rfl⟩
  ·have h2':(k == 2)=false:=by simpa using h2
   by_cases h3:k=3
   ·subst h3;have hm:Hid (zB6 3 s=zA4 s 1 4):=by
     unfold Hid zB6;by_cases h:1<=s/\s<=4
     ·rw[Bo.t (by omega),zGl h.1 h.2]
     ·rw[Bo.f (by omega),zJ4 h]
    clear h1 h1' h2 h2';go_enter Tryz.func72,Tryz.ntmps72;go_wp2_with (go_at_call 31;refine(zAc _ _ _ _).mono ?_;rintro e w' ⟨rfl,rfl⟩)
    go_ret;exact⟨by rw[hm.out];rfl,rfl⟩
   ·have h3':(k == 3)=false:=by simpa using h3
    have hm:Hid (zB6 k s=false):=zh (Bo.f (by omega))
    clear h1 h2 h3;go_enter Tryz.func72,Tryz.ntmps72;go_wp2;go_ret;exact⟨by rw[hm.out];rfl,rfl⟩
end Sk
