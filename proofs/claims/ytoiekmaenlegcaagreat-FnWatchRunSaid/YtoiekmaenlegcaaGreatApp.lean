/- Contracts of functions of the given program. -/
import Derived.Deep.AppendLies
import Derived.Deep.RegionHeld3
import Derived.Test.YtoiekmaenlegcaaGreatChecked
import Derived.Test.YtoiekmaenlegcaaGreatTypes
namespace Sk
open Go Go.RowKit
def El(P:Program)(e:TypeId)(α:Type)[GT α]:Prop :=
 ∃ i z bytes,P.info? e=some i/\i.zero=some z/\i.size=GT.sz α /\ i.bytes=bytes/\z.cells.toList=GT.zc α /\ bytes<=256
theorem El.of{P:Program}{e:TypeId}{α:Type}[GT α]{z:Value}{n b:Nat}(h:(P.info? e).map (fun i=>(i.zero,i.size,i.bytes))=some (some z,n,b))(hn:n=GT.sz α)(hz:z.cells.toList=GT.zc α)(hb:b<=256):El P e α:=by
 obtain⟨i,hi,h1,h2,h3⟩:=info_parts h;exact⟨i,z,b,hi,h1,h2.trans hn,h3,hz,hb⟩
def Oa{α:Type}[GT α](e:TypeId)(L:Nat)(w:World)(v:Value)(xs:List α)(F:List Nat):Prop :=
 (v = .slice none 0 0/\xs = []/\F = []) \/
 ∃ g cap cur,v = .slice (some ⟨g,0,none⟩) xs.length cap/\L<=g/\w.heap[g]? = some (.cells cur e (0,0))/\xs.length<=cap/\cap<=maxLen/\cur.size=cap*GT.sz α /\ Row w g 0 xs F/\g ∉ F
theorem Row.cells{α:Type}[GT α]{w:World}{b:Nat}{xs:List α}:∀ {o:Nat} {F:List Nat},Row w b o xs F ->
  ∃ cs:List Value,cs.length=xs.length*GT.sz α /\ At w b o cs/\∀ u∈cs,u.oneCell'=true:=by
 induction xs with
 | nil=>intro o F _;exact⟨[],by simp,fun j u hj=>by simp at hj,fun u hu=>by cases hu⟩
 | cons x xs ih =>
  intro o F h;obtain⟨cs,F1,F2,he,ha,rfl,hr⟩:=h;obtain⟨ds,hl,hd,h1⟩:=ih hr;have hlc:=GT.len he;refine⟨cs++ds,by rw[List.length_append,hl,hlc,List.length_cons,Nat.succ_mul];omega,fun j u hj=>?_,fun u hu=>?_⟩
  ·by_cases hjc:j < cs.length
   ·rw[List.getElem?_append_left hjc] at hj;exact ha j u hj
   ·rw[List.getElem?_append_right (by omega)] at hj
    have:=hd _ u hj
    rw[show o+GT.sz α + (j - cs.length)=o+j by omega] at this
    exact this
  ·rcases List.mem_append.1 hu with hu|hu
   ·exact GT.one he u hu
   ·exact h1 u hu
theorem Oa.ext{α:Type}[GT α]{e:TypeId}{L:Nat}{w w':World}{v:Value}{xs:List α}{F:List Nat}(h:Oa e L w v xs F)(he:Ext w w'):Oa e L w' v xs F:=by
 rcases h with h | ⟨g,cap,cur,rfl,hL,hg,hl,hc,hs,hr,hn⟩
 ·exact .inl h
 ·have hgl:g < w.heap.size:=(Bk.ofA hg).lt;have hb:=he.block;exact .inr ⟨g,cap,cur,rfl,hL,by rw[hb g hgl];exact hg,hl,hc,hs,hr.keep (hb g hgl) (fun k hk=>hb k (hr.inh k hk)),hn⟩
theorem Oa.keep{α:Type}[GT α]{e:TypeId}{L:Nat}{w w':World}{v:Value}{xs:List α}{F:List Nat}(h:Oa e L w v xs F)(hv:∀ k,v.ownBlock=some k->w'.heap[k]? = w.heap[k]?)(hF:∀ k∈F,w'.heap[k]? = w.heap[k]?):Oa e L w' v xs F:=by
 rcases h with h | ⟨g,cap,cur,rfl,hL,hg,hl,hc,hs,hr,hn⟩
 ·exact .inl h
 ·have hb:=hv g rfl;exact .inr ⟨g,cap,cur,rfl,hL,by rw[hb];exact hg,hl,hc,hs,hr.keep hb hF,hn⟩
theorem Oa.own{α:Type}[GT α]{e:TypeId}{L:Nat}{w:World}{v:Value}{xs:List α}{F:List Nat}(h:Oa e L w v xs F):∀ k,v.ownBlock=some k->L<=k:=by
 rcases h with ⟨rfl,_⟩ | ⟨g,cap,cur,rfl,hL,_⟩
 ·intro k hk;cases hk
 ·intro k hk;cases hk;exact hL
theorem Oa.lt{α:Type}[GT α]{e:TypeId}{L:Nat}{w:World}{v:Value}{xs:List α}{F:List Nat}(h:Oa e L w v xs F):∀ k,v.ownBlock=some k->k < w.heap.size:=by
 rcases h with ⟨rfl,_⟩ | ⟨g,cap,cur,rfl,hL,hg,_⟩
 ·intro k hk;cases hk
 ·intro k hk;cases hk;exact(Bk.ofA hg).lt
theorem Oa.cap{α:Type}[GT α]{e:TypeId}{L:Nat}{w:World}{ad:Option Addr}{n c:Nat}{xs:List α}{F:List Nat}(h:Oa e L w (.slice ad n c) xs F):xs.length<=c/\c<=9223372036854775807:=by
 rcases h with ⟨h,rfl,_⟩ | ⟨g,cap,cur,h,hL,hg,hl,hc,_⟩
 ·cases h;exact⟨Nat.le_refl _,by simp⟩
 ·cases h;unfold maxLen at hc;exact⟨hl,hc⟩
theorem Sl.clip{α:Type}[GT α]{w:World}{ad:Option Addr}{n c:Nat}{xs:List α}{F:List Nat}(h:Sl w (.slice ad n c) xs F):Sl w (.slice ad n n) xs F:=by
 obtain⟨a',c',he,hl,hc,r⟩:=h;cases he;exact⟨ad,xs.length,rfl,Nat.le_refl _,Nat.le_trans hl hc,r⟩
theorem Os.clip{α:Type}[GT α]{L:Nat}{w:World}{ad:Option Addr}{n c:Nat}{xs:List α}(h:Os L w (.slice ad n c) xs):Os L w (.slice ad n n) xs:=by
 obtain⟨F,h,o⟩:=h;exact⟨F,h.clip,o⟩
theorem zB4{w w':World}{row:Option Nat}{b o:Nat}{u:Value}(hg:w.grownBy w' row)(hc:w.cell? ⟨b,o,none⟩=some u)(hb:b < w.heap.size)(hne:∀ k,row=some k->k≠b):w'.cell? ⟨b,o,none⟩=some u:=by
 rw[World.cell?_of_block (w:=w) (w':=w') (hg.block b hb (fun e=>hne b e.symm rfl))];exact hc
theorem Oa.form{α:Type}[GT α]{e:TypeId}{L:Nat}{w:World}{v:Value}{xs:List α}{F:List Nat}(h:Oa e L w v xs F):∃ a c,v = .slice a xs.length c/\xs.length<=9223372036854775807:=by
 rcases h with ⟨rfl,rfl,_⟩ | ⟨g,cap,cur,rfl,hL,hg,hl,hc,_⟩
 ·exact⟨none,0,rfl,by simp⟩
 ·unfold maxLen at hc;exact⟨_,cap,rfl,by omega⟩
theorem Oa.os{α:Type}[GT α]{e:TypeId}{L:Nat}{w:World}{v:Value}{xs:List α}{F:List Nat}(h:Oa e L w v xs F)(ho:Own L w F):Os L w v xs:=by
 rcases h with ⟨rfl,rfl,rfl⟩ | ⟨g,cap,cur,rfl,hL,hg,hl,hc,hs,hr,hn⟩
 ·exact⟨[],⟨none,0,rfl,Nat.le_refl _,Nat.zero_le _,.inl ⟨rfl,rfl⟩⟩,ho⟩
 ·by_cases hx:xs = []
  ·subst hx;exact⟨[],⟨_,cap,rfl,hl,hc,.inl ⟨rfl,rfl⟩⟩,Own.nil _ _⟩
  ·refine⟨g::F,⟨_,cap,rfl,hl,hc,.inr ⟨hx,g,0,F,rfl,rfl,hr⟩⟩,List.nodup_cons.2 ⟨hn,ho.1⟩,fun b hb=>?_⟩
   rcases List.mem_cons.1 hb with rfl|hb
   ·exact⟨hL,_,e,Bk.ofA hg⟩
   ·exact ho.2 b hb
theorem Oa.rs{α:Type}[GT α]{e:TypeId}{L:Nat}{w:World}{v:Value}{xs:List α}{F:List Nat}(h:Oa e L w v xs F):Rs w v xs:=by
 rcases h with ⟨rfl,rfl,rfl⟩ | ⟨g,cap,cur,rfl,hL,hg,hl,hc,hs,hr,hn⟩
 ·exact⟨[],none,0,rfl,Nat.le_refl _,Nat.zero_le _,.inl ⟨rfl,rfl⟩⟩
 ·by_cases hx:xs = []
  ·subst hx;exact⟨[],_,cap,rfl,hl,hc,.inl ⟨rfl,rfl⟩⟩
  ·exact⟨g::F,_,cap,rfl,hl,hc,.inr ⟨hx,g,0,F,rfl,rfl,hr⟩⟩
theorem Oa.nil{α:Type}[GT α](e:TypeId)(L:Nat)(w:World):Oa (α:=α) e L w (.slice none 0 0) [] []:=.inl ⟨rfl,rfl,rfl⟩
theorem Oa.lit{α:Type}[GT α](e:TypeId)(w:World)(cs:List Value)(xs:List α){F:List Nat}{n:Nat}(hn:n=xs.length)(hl:cs.length=xs.length*GT.sz α)(hm:xs.length<=9223372036854775807)
  (hr:Row (w.alloc (.cells cs.toArray e (0,0))) w.heap.size 0 xs F) (hF:∀ k∈F,k < w.heap.size) :
  Oa e w.heap.size (w.alloc (.cells cs.toArray e (0,0))) (.slice (some ⟨w.heap.size,0,none⟩) n n) xs F:=by
 subst hn;refine .inr ⟨w.heap.size,xs.length,cs.toArray,rfl,Nat.le_refl _,by show(w.heap.push _)[w.heap.size]? = _;simp,Nat.le_refl _,by simpa [maxLen] using hm,by simpa using hl,hr,fun h=>?_⟩
 have:=hF _ h;omega
theorem Oa.lit0{α:Type}[GT α](e:TypeId)(w:World):Oa (α:=α) e w.heap.size (w.alloc (.cells #[] e (0,0))) (.slice (some ⟨w.heap.size,0,none⟩) 0 0) [] [] :=
 Oa.lit e w [] [] rfl (by simp) (by simp) rfl (fun k hk=>by cases hk)
theorem Oa.mono{α:Type}[GT α]{e:TypeId}{L L':Nat}{w:World}{v:Value}{xs:List α}{F:List Nat}(h:Oa e L w v xs F)(hl:L'<=L):Oa e L' w v xs F:=by
 rcases h with h | ⟨g,cap,cur,rfl,hL,r⟩
 ·exact .inl h
 ·exact .inr ⟨g,cap,cur,rfl,Nat.le_trans hl hL,r⟩
theorem zJf{α:Type}[GT α]{w w':World}{g g' ad ao:Nat}{xs ys:List α}{F Fy:List Nat}{olds news:List Value}
  (hr:Row w g 0 xs F) (hy:Row w ad ao ys Fy) (hol:olds.length=xs.length*GT.sz α) (ho:At w g 0 olds) (hnl:news.length=ys.length*GT.sz α) (hn:At w ad ao news)
  (hc:∀ j u,(olds++news)[j]? = some u->w'.cell? ⟨g',j,none⟩=some u) (hF:∀ k∈F,w'.heap[k]? = w.heap[k]?) (hFy:∀ k∈Fy,w'.heap[k]? = w.heap[k]?) :
  Row w' g' 0 (xs++ys) (F++Fy):=by
 refine Row.append (hr.move hF fun j u hj hu=>?_) (hy.move hFy fun j u hj hu=>?_)
 ·have hj2:j < olds.length:=by omega
  have h1:=ho j olds[j] (by simp[hj2])
  rw[h1] at hu;cases hu;rw[Nat.zero_add];exact hc j _ (by rw[List.getElem?_append_left hj2];simp[hj2])
 ·have hj2:j < news.length:=by omega
  have h1:=hn j news[j] (by simp[hj2])
  rw[h1] at hu;cases hu;rw[Nat.zero_add,<- hol];exact hc _ _ (by rw[List.getElem?_append_right (by omega),Nat.add_sub_cancel_left];simp[hj2])
theorem zFe{w:World}{base e sz n g cap:Nat}{xs:List Value}(h:w.ownsRow base e sz (.slice (some ⟨g,0,none⟩) n cap) n xs) :
  base<=g/\n<=cap/\cap<=maxLen/\∃ cur,w.heap[g]? = some (.cells cur e (0,0))/\cur.size=cap*sz/\∀ j u,xs[j]? = some u->w.cell? ⟨g,j,none⟩=some u:=by
 obtain⟨hl,⟨h,_⟩ | ⟨g',cap',cur,he,hb,hg,hn,hc,hs,ht⟩⟩:=h
 ·cases h
 ·cases he;refine⟨hb,hn,hc,cur,hg,hs,fun j u hj=>?_⟩
  rw[<- ht] at hj;have hj2:=(List.getElem?_eq_some_iff.1 hj).1;rw[List.getElem?_take] at hj
  split at hj
  ·simp only[World.cell?,hg]
   simpa using hj
  ·cases hj
theorem zM3{α:Type}[GT α]{P:Program}{w:World}{o:Oper}{a:Act}{K:Act->World->Prop}{Q:Exit->Act->World->Prop}(s x:Operand)(t:TypeId)
  (ho:o.op = .call { callee:=.builtin .append,args:=#[s,x],argTypes:=#[t,t] }) (e:TypeId) (ht:P.underlying t=some (.slice e)) (hel:El P e α)
  {L:Nat} {v:Value} {xs ys:List α} {F Fy:List Nat} (hs:a.eval s=v) (hO:Oa e L w v xs F) {ab ao m c:Nat} (hx:a.eval x = .slice (some ⟨ab,ao,none⟩) m c) (hm:ys.length=m) (hy:Row w ab ao ys Fy)
  (hm0:0 < m) (hd:∀ k∈Fy,v.ownBlock≠some k) (hlen:xs.length+m<=4294967296) (hL:L<=w.heap.size)
  (h:∀ v' w',Oa e L w' v' (xs++ys) (F++Fy)->w.grownBy w' v.ownBlock->(v'.ownBlock=v.ownBlock\/v'.ownBlock=some w.heap.size)->K (a.put o.dst v') w'):o.wp P a w K Q:=by
 obtain⟨i,z,bytes,hi,hz,hsz,hby,hzc,hb⟩:=hel;have hzl:z.cells.size=GT.sz α:=by rw[<- GT.len (GT.zero (α:=α) w),<- hzc];simp
 have hp:=GT.pos (α:=α);obtain⟨news,hnl,hnat,hn1⟩:=hy.cells;have hadd:∀ (b' o' j:Nat),Addr.add ⟨b',o',none⟩ j=⟨b',o'+j,none⟩:=fun b' o' j=>by
  unfold Addr.add;split;·subst j;rfl
  ·rfl
 have hbytes:(xs.length+m)*bytes<=140737488355328:=by
  have:=Nat.mul_le_mul hlen hb
  omega
 have hmx:xs.length+m<=maxLen:=by unfold maxLen;omega
 have hnews:∀ j u,news[j]? = some u->w.cell? (Addr.add ⟨ab,ao,none⟩ j)=some u:=fun j u hj=>by rw[hadd];exact hnat j u hj
 have hOl:=hO.lt;have hown:∃ olds,olds.length=xs.length*GT.sz α /\ w.ownsRow L e (GT.sz α) v xs.length olds/\∀ g cap w',w'.ownsRow L e (GT.sz α) (.slice (some ⟨g,0,none⟩) (xs.length+m) cap) (xs.length+m) (olds++news) ->
   (∀ k∈F,w'.heap[k]? = w.heap[k]?)->(∀ k∈Fy,w'.heap[k]? = w.heap[k]?)->Row w' g 0 (xs++ys) (F++Fy):=by
  rcases hO with ⟨rfl,rfl,rfl⟩ | ⟨g,cap,cur,rfl,hLg,hg,hl,hc,hcs,hr,hgF⟩
  ·refine⟨[],by simp,⟨by simp,.inl ⟨rfl,rfl⟩⟩,fun g cap w' hw _ hFy=>?_⟩
   obtain⟨_,_,_,_,_,_,h6⟩:=zFe hw;exact zJf (g:=0) (ad:=ab) (ao:=ao) (xs:=[]) rfl hy (by simp:([]:List Value).length=_) (fun j u hj=>by simp at hj) hnl hnat h6 (fun k hk=>by cases hk) hFy
  ·have e1:cur.toList.length=cap*GT.sz α:=by rw[Array.length_toList,hcs]
   have hcl:(cur.toList.take (xs.length*GT.sz α)).length=xs.length*GT.sz α:=by
    rw[List.length_take,e1,Nat.min_eq_left (Nat.mul_le_mul_right _ hl)]
   have hown:w.ownsRow L e (GT.sz α) (.slice (some ⟨g,0,none⟩) xs.length cap) xs.length (cur.toList.take (xs.length*GT.sz α)) :=
    ⟨hcl,.inr ⟨g,cap,cur,rfl,hLg,hg,hl,hc,hcs,rfl⟩⟩
   have hcat:At w g 0 (cur.toList.take (xs.length*GT.sz α)):=fun j u hj=>by
    obtain⟨_,_,_,cur3,_,_,h6⟩:=zFe hown;rw[Nat.zero_add];exact h6 j u hj
   refine⟨_,hcl,hown,fun g' cap' w' hw hF hFy=>?_⟩
   obtain⟨_,_,_,_,_,_,h6⟩:=zFe hw;exact zJf hr hy hcl hcat hnl hnat h6 hF hFy
 have hFlt:∀ k∈F,k < w.heap.size/\v.ownBlock≠some k:=by
  rcases hO with ⟨rfl,rfl,rfl⟩ | ⟨g,cap,cur,rfl,hLg,hg,hl,hc,hcs,hr,hgF⟩
  ·intro k hk;cases hk
  ·intro k hk;exact⟨hr.inh k hk,fun e=>by cases e;exact hgF hk⟩
 obtain⟨olds,hol,how,hrow⟩:=hown;refine wp_append_lies w s x t ho L e i z (GT.sz α) bytes ht hi hz hsz hby hzl hp v xs.length olds hs how ⟨ab,ao,none⟩ m c news hx (by rw[hnl,hm]) hnews hn1 hm0 hmx hbytes hL w.heap.size rfl fun g cap w' hown2 hgr hat hlt=>?_
 obtain⟨h1,h2,h3,cur2,h4,h5,_⟩:=zFe hown2;refine h _ w' (.inr ⟨g,cap,cur2,by simp[hm],h1,h4,by simpa [hm] using h2,h3,h5,hrow g cap w' hown2 (fun k hk=>hgr.block k (hFlt k hk).1 (fun e=>(hFlt k hk).2 e.symm)) (fun k hk=>hgr.block k (hy.inh k hk) (fun e=>hd k hk e.symm)),fun hk=>?_⟩) hgr (hat.elim (fun h => .inl (by rw[h];rfl)) (fun h => .inr (by rw[h];rfl)))
 rcases List.mem_append.1 hk with hk|hk
 ·rcases hat with hat|hat
  ·exact(hFlt g hk).2 hat
  ·have:=(hFlt g hk).1;omega
 ·rcases hat with hat|hat
  ·exact hd g hk hat
  ·have:=hy.inh g hk;omega
theorem zO6{α:Type}[GT α]{P:Program}{w:World}{o:Oper}{a:Act}{K:Act->World->Prop}{Q:Exit->Act->World->Prop}(s x:Operand)(t:TypeId)
  (ho:o.op = .call { callee:=.builtin .append,args:=#[s,x],argTypes:=#[t,t] }) (e:TypeId) (ht:P.underlying t=some (.slice e)) (hel:El P e α)
  {L:Nat} {v:Value} {xs ys:List α} {F Fy:List Nat} (hs:a.eval s=v) (hO:Oa e L w v xs F) {ab ao m c:Nat} (hx:a.eval x = .slice (some ⟨ab,ao,none⟩) m c) (hm:ys.length=m) (hy:Row w ab ao ys Fy)
  (hm0:0 < m) (hd:∀ k∈Fy,v.ownBlock≠some k) (hlen:xs.length+m<=4294967296) (hL:L<=w.heap.size)
  (h:∀ v' w',Oa e L w' v' (xs++ys) (F++Fy)->w.grownBy w' v.ownBlock->K (a.put o.dst v') w'):o.wp P a w K Q :=
 zM3 s x t ho e ht hel hs hO hx hm hy hm0 hd hlen hL fun v' w' h1 h2 _=>h v' w' h1 h2
theorem zE1{α:Type}[GT α]{P:Program}{w:World}{ops:Array Oper}{rest:List Oper}{o:Oper}{a:Act}{Q:Exit->Act->World->Prop}(hgd:o.guard=none)(s x:Operand)(t:TypeId)
  (ho:o.op = .call { callee:=.builtin .append,args:=#[s,x],argTypes:=#[t,t] }) (e:TypeId) (ht:P.underlying t=some (.slice e)) (hel:El P e α)
  {L:Nat} {v:Value} {xs ys:List α} {F Fy:List Nat} (hs:a.eval s=v) (hO:Oa e L w v xs F) {ab ao m c:Nat} (hx:a.eval x = .slice (some ⟨ab,ao,none⟩) m c) (hm:ys.length=m) (hy:Row w ab ao ys Fy)
  (hm0:0 < m) (hd:∀ k∈Fy,v.ownBlock≠some k) (hlen:xs.length+m<=4294967296) (hL:L<=w.heap.size)
  (h:∀ v' w',Oa e L w' v' (xs++ys) (F++Fy)->w.grownBy w' v.ownBlock->wpList P ops Q rest (a.put o.dst v') w'):wpList P ops Q (o::rest) a w :=
 wpList_plain hgd fun _ hK=>zO6 s x t ho e ht hel hs hO hx hm hy hm0 hd hlen hL fun v' w' h1 h2=>hK _ _ (h v' w' h1 h2)
open Go.Proofs
set_option maxHeartbeats 400000
set_option maxRecDepth 100000
set_option linter.unusedVariables false
set_option linter.unusedSimpArgs false
def zA6(n lo hi:Int):Bool:=decide (lo<=n) && decide (n<=hi)
theorem zGy{n lo hi:Int}(h1:lo<=n)(h2:n<=hi):zA6 n lo hi=true:=by simp[zA6,h1,h2]
theorem zNj{n lo hi:Int}(h:¬ (lo<=n/\n<=hi)):zA6 n lo hi=false:=by simp[zA6];omega
theorem zA5{n lo hi:Int}:zA6 n lo hi=true ↔ lo<=n/\n<=hi:=by simp[zA6]
theorem zA8(n lo hi:Int)(w:World):Calls Tryz.prog 35 #[.int .i64 n,.int .i64 lo,.int .i64 hi] w fun e w'=>e = .returned (.bool (zA6 n lo hi))/\w=w':=by
 by_cases h1:lo<=n
 ·have hm:Hid (zA6 n lo hi=decide (n<=hi)):=by simp[zA6,h1,Hid]
  go_enter Tryz.func35,Tryz.ntmps35;go_wp2
  all_goals go_ret
  all_goals exact⟨by rw[hm.out];rfl,rfl⟩
 ·have hm:Hid (zA6 n lo hi=false):=by simp[zA6,h1,Hid]
  go_enter Tryz.func35,Tryz.ntmps35;go_wp2
  all_goals go_ret
  all_goals exact⟨by rw[hm.out];rfl,rfl⟩
theorem zAe(n lo hi:Int)(w:World):Calls Tryz.prog 30 #[.int .i64 n,.int .i64 lo,.int .i64 hi] w fun e w'=>e = .returned (.bool (zA6 n lo hi))/\w=w':=by
 by_cases h1:lo<=n
 ·have hm:Hid (zA6 n lo hi=decide (n<=hi)):=by simp[zA6,h1,Hid]
  go_enter Tryz.func30,Tryz.ntmps30;go_wp2
  all_goals go_ret
  all_goals exact⟨by rw[hm.out];rfl,rfl⟩
 ·have hm:Hid (zA6 n lo hi=false):=by simp[zA6,h1,Hid]
  go_enter Tryz.func30,Tryz.ntmps30;go_wp2
  all_goals go_ret
  all_goals exact⟨by rw[hm.out];rfl,rfl⟩
def zFt(b:Bool):Int:=if b then 1 else 0
theorem impl_bit(b:Bool)(w:World):Calls Tryz.prog 144 #[.bool b] w fun e w'=>e = .returned (.int .i64 (zFt b))/\w=w':=by
 cases b
 iterate 2 (·go_enter Tryz.func144,Tryz.ntmps144;go_wp2;go_ret;exact⟨rfl,rfl⟩)
theorem zHu(n:Int)(w:World):Calls Tryz.prog 116 #[.int .i64 n] w fun e w'=>e = .returned (.bool (zA6 n 0 255))/\w=w':=by
 go_enter Tryz.func116,Tryz.ntmps116;go_wp2_with (go_at_call 30;refine(zAe _ _ _ _).mono ?_;rintro e w' ⟨rfl,rfl⟩)
 go_ret;exact⟨rfl,rfl⟩
theorem zD6(n:Int)(w:World):Calls Tryz.prog 31 #[.int .i64 n] w fun e w'=>e = .returned (.bool (zA6 n 0 3))/\w=w':=by
 go_enter Tryz.func31,Tryz.ntmps31;go_wp2_with (go_at_call 30;refine(zAe _ _ _ _).mono ?_;rintro e w' ⟨rfl,rfl⟩)
 go_ret;exact⟨rfl,rfl⟩
noncomputable def zC4(k s:Int):Bool:=Bo (k=1/\s=1\/(k=2\/k=3)/\1<=s/\s<=4)
theorem zCx(k s:Int)(w:World):Calls Tryz.prog 117 #[.int .i64 k,.int .i64 s] w fun e w'=>e = .returned (.bool (zC4 k s))/\w=w':=by
 by_cases h1:k=1
 ·subst h1;have hm:Hid (zC4 1 s=(s == 1)):=by
   unfold Hid zC4;by_cases h:s=1
   ·rw[Bo.t (by omega)];simp[h]
   ·rw[Bo.f (by omega)];simp[h]
  go_enter Tryz.func117,Tryz.ntmps117;go_wp2
  all_goals go_ret
  all_goals exact⟨by rw[hm.out];(first|rfl|simp_all),rfl⟩
 ·have h1':(k == 1)=false:=by simpa using h1
  by_cases h2:k=2
  ·subst h2;have hm:Hid (zC4 2 s=zA6 s 1 4):=by
    unfold Hid zC4;by_cases h:1<=s/\s<=4
    ·rw[Bo.t (by omega),zGy h.1 h.2]
    ·rw[Bo.f (by omega),zNj h]
   clear h1 h1';go_enter Tryz.func117,Tryz.ntmps117;go_wp2_with (go_at_call 30;refine(zAe _ _ _ _).mono ?_;rintro e w' ⟨rfl,rfl⟩)
   go_ret;exact⟨by rw[hm.out];rfl,rfl⟩
  ·have h2':(k == 2)=false:=by simpa using h2
   by_cases h3:k=3
   ·subst h3;have hm:Hid (zC4 3 s=zA6 s 1 4):=by
     unfold Hid zC4;by_cases h:1<=s/\s<=4
     ·rw[Bo.t (by omega),zGy h.1 h.2]
     ·rw[Bo.f (by omega),zNj h]
    clear h1 h1' h2 h2';go_enter Tryz.func117,Tryz.ntmps117;go_wp2_with (go_at_call 30;refine(zAe _ _ _ _).mono ?_;rintro e w' ⟨rfl,rfl⟩)
    go_ret;exact⟨by rw[hm.out];rfl,rfl⟩
   ·have h3':(k == 3)=false:=by simpa using h3
    have hm:Hid (zC4 k s=false):=zh (Bo.f (by omega))
    clear h1 h2 h3;go_enter Tryz.func117,Tryz.ntmps117;go_wp2;go_ret;exact⟨by rw[hm.out];rfl,rfl⟩
def zDx{α:Type}(p : α -> Bool)(xs:List α):Int:=match xs.findIdx? p with|some i=>(i:Int)|none => -1
theorem zCt{α:Type}{p : α -> Bool}{xs:List α}(h:∀ x∈xs,p x=false):zDx p xs = -1:=by
 have:xs.findIdx? p=none:=by simpa using h
 simp[zDx,this]
theorem zEe{α:Type}{p : α -> Bool}{xs:List α}{k:Nat}{x : α}(h:∀ x∈xs.take k,p x=false)(hk:xs[k]? = some x)(hp:p x=true):zDx p xs=k:=by
 have:xs.findIdx? p=some k:=by
  obtain⟨hl,rfl⟩:=List.getElem?_eq_some_iff.1 hk;rw[List.findIdx?_eq_some_iff_getElem];refine⟨hl,hp,fun j hj=>?_⟩
  have:=h xs[j] (by rw[List.mem_take_iff_getElem];exact⟨j,by omega,rfl⟩)
  simp[this]
 simp[zDx,this]
theorem zDe{α:Type}{p : α -> Bool}{xs:List α}:decide (0<=zDx p xs)=xs.any p:=by
 unfold zDx;cases h:xs.findIdx? p with
 | none =>
  have:xs.any p=false:=by rw[List.any_eq_false];intro x hx;have:=List.findIdx?_eq_none_iff.1 h x hx;simp[this]
  simp[this]
 | some i =>
  have:xs.any p=true:=by
   obtain⟨hl,hp,_⟩:=List.findIdx?_eq_some_iff_getElem.1 h;rw[List.any_eq_true];exact⟨xs[i],List.getElem_mem hl,hp⟩
  simp[this]
theorem zKg(g:Nat)(caps:Array Value)(p:Window->Bool)(v:Value)(xs:List Window)(w:World)(h:Rs w v xs)(hg:∀ ar u,(callFunc g ar).run Tryz.prog u = .ok (.enter g ar) u)
  (hc:∀ (w1:World) (v:Value) (x:Window),Ext w w1->x∈xs->Rv w1 v x->Calls Tryz.prog g (#[v]++caps) w1 fun e w2=>e = .returned (.bool (p x))/\Ext w1 w2) :
  Calls Tryz.prog 71 #[v,.func (.func g) #[] caps] w fun e w'=>e = .returned (.int .i64 (zDx p xs))/\Ext w w':=by
 obtain⟨a,c,rfl,hl⟩:=h.form;have H:=zh h;have HC:=zh hc;clear h hc;go_enter Tryz.func71,Tryz.ntmps71;go_wp2;go_loopw [5,8] (fun _ i wr => ∃ k:Nat,k<=xs.length/\i = .int .i64 k/\(∀ x∈xs.take k,p x=false)/\Ext w wr) (fun _ i _=>xs.length - (intOf i).toNat)
 case atStart=>exact⟨0,Nat.zero_le _,rfl,by simp,.refl _⟩
 case round =>
  obtain⟨k,hk,rfl,he,hq⟩:=hrel;have HE:=zh he;have HQ:=zh hq;clear he hq;by_cases hlt:k < xs.length
  ·skip
   obtain⟨b,o,x,rfl,hb,hx1,hc0,hc1,hc2,hr0,hr1,hv⟩:=(H.out.ext HQ.out).atWindow k hlt;have hcx:=zh (HC.out wr _ x HQ.out (List.mem_of_getElem? hx1.out) hv.out);clear H HC;go_wp2_with fail
   refine hcx.out.mono ?_;rintro e w2 ⟨rfl,he2⟩;have HE2:=zh (HQ.out.tr he2);clear he2;by_cases hp:p x=true
   ·have HN:=zh (zEe HE.out hx1.out hp);go_wp2;go_ret;exact⟨zF0 HN.out.symm,HE2.out⟩
   ·rw[Bool.not_eq_true] at hp;go_wp2;go_roundw
    case rel =>
     refine⟨k+1,by omega,by go_num,?_,HE2.out⟩
     rw[zAm hx1.out];intro y hy;rcases List.mem_append.1 hy with hy|hy
     ·exact HE.out y hy
     ·rw[List.mem_singleton] at hy;subst hy;exact hp
    case measure=>simp[intOf];omega
  ·obtain rfl:k=xs.length:=by omega
   have HN:=zh (zCt (p:=p) (xs:=xs) (by have:=HE.out;rwa [List.take_length] at this))
   clear H HC;go_wp2;go_ret;exact⟨zF0 HN.out.symm,HQ.out⟩
theorem zN3(g:Nat)(caps:Array Value)(p:Window->Bool)(v:Value)(xs:List Window)(w:World)(h:Rs w v xs)(hg:∀ ar u,(callFunc g ar).run Tryz.prog u = .ok (.enter g ar) u)
  (hc:∀ (w1:World) (v:Value) (x:Window),Ext w w1->x∈xs->Rv w1 v x->Calls Tryz.prog g (#[v]++caps) w1 fun e w2=>e = .returned (.bool (p x))/\Ext w1 w2) :
  Calls Tryz.prog 110 #[v,.func (.func g) #[] caps] w fun e w'=>e = .returned (.bool (xs.any p))/\Ext w w':=by
 have HX:=zh (zKg g caps p v xs w h hg hc);clear hc hg h;go_enter Tryz.func110,Tryz.ntmps110;go_wp2_with fail
 refine HX.out.mono ?_;rintro e w2 ⟨rfl,he2⟩;have HE:=zh he2;have HN:=zh (zDe (p:=p) (xs:=xs));clear he2
 generalize zDx p xs=i at *
 go_wp2;go_ret;exact⟨zA2 HN.out,HE.out⟩
theorem idx_Part(g:Nat)(caps:Array Value)(p:Part->Bool)(v:Value)(xs:List Part)(w:World)(h:Rs w v xs)(hg:∀ ar u,(callFunc g ar).run Tryz.prog u = .ok (.enter g ar) u)
  (hc:∀ (w1:World) (v:Value) (x:Part),Ext w w1->x∈xs->Rv w1 v x->Calls Tryz.prog g (#[v]++caps) w1 fun e w2=>e = .returned (.bool (p x))/\Ext w1 w2) :
  Calls Tryz.prog 181 #[v,.func (.func g) #[] caps] w fun e w'=>e = .returned (.int .i64 (zDx p xs))/\Ext w w':=by
 obtain⟨a,c,rfl,hl⟩:=h.form;have H:=zh h;have HC:=zh hc;clear h hc;go_enter Tryz.func181,Tryz.ntmps181;go_wp2;go_loopw [5,8] (fun _ i wr => ∃ k:Nat,k<=xs.length/\i = .int .i64 k/\(∀ x∈xs.take k,p x=false)/\Ext w wr) (fun _ i _=>xs.length - (intOf i).toNat)
 case atStart=>exact⟨0,Nat.zero_le _,rfl,by simp,.refl _⟩
 case round =>
  obtain⟨k,hk,rfl,he,hq⟩:=hrel;have HE:=zh he;have HQ:=zh hq;clear he hq;by_cases hlt:k < xs.length
  ·skip
   obtain⟨b,o,x,a0,c0,rfl,hb,hx1,hc0,hc1,hr1,hs0,hl0,hv⟩:=(H.out.ext HQ.out).atPart k hlt;have hcx:=zh (HC.out wr _ x HQ.out (List.mem_of_getElem? hx1.out) hv.out);clear H HC;go_wp2_with fail
   refine hcx.out.mono ?_;rintro e w2 ⟨rfl,he2⟩;have HE2:=zh (HQ.out.tr he2);clear he2;by_cases hp:p x=true
   ·have HN:=zh (zEe HE.out hx1.out hp);go_wp2;go_ret;exact⟨zF0 HN.out.symm,HE2.out⟩
   ·rw[Bool.not_eq_true] at hp;go_wp2;go_roundw
    case rel =>
     refine⟨k+1,by omega,by go_num,?_,HE2.out⟩
     rw[zAm hx1.out];intro y hy;rcases List.mem_append.1 hy with hy|hy
     ·exact HE.out y hy
     ·rw[List.mem_singleton] at hy;subst hy;exact hp
    case measure=>simp[intOf];omega
  ·obtain rfl:k=xs.length:=by omega
   have HN:=zh (zCt (p:=p) (xs:=xs) (by have:=HE.out;rwa [List.take_length] at this))
   clear H HC;go_wp2;go_ret;exact⟨zF0 HN.out.symm,HQ.out⟩
theorem has_Part(g:Nat)(caps:Array Value)(p:Part->Bool)(v:Value)(xs:List Part)(w:World)(h:Rs w v xs)(hg:∀ ar u,(callFunc g ar).run Tryz.prog u = .ok (.enter g ar) u)
  (hc:∀ (w1:World) (v:Value) (x:Part),Ext w w1->x∈xs->Rv w1 v x->Calls Tryz.prog g (#[v]++caps) w1 fun e w2=>e = .returned (.bool (p x))/\Ext w1 w2) :
  Calls Tryz.prog 171 #[v,.func (.func g) #[] caps] w fun e w'=>e = .returned (.bool (xs.any p))/\Ext w w':=by
 have HX:=zh (idx_Part g caps p v xs w h hg hc);clear hc hg h;go_enter Tryz.func171,Tryz.ntmps171;go_wp2_with fail
 refine HX.out.mono ?_;rintro e w2 ⟨rfl,he2⟩;have HE:=zh he2;have HN:=zh (zDe (p:=p) (xs:=xs));clear he2
 generalize zDx p xs=i at *
 go_wp2;go_ret;exact⟨zA2 HN.out,HE.out⟩
theorem zM0(g:Nat)(caps:Array Value)(p:Channel->Bool)(v:Value)(xs:List Channel)(w:World)(h:Rs w v xs)(hg:∀ ar u,(callFunc g ar).run Tryz.prog u = .ok (.enter g ar) u)
  (hc:∀ (w1:World) (v:Value) (x:Channel),Ext w w1->x∈xs->Rv w1 v x->Calls Tryz.prog g (#[v]++caps) w1 fun e w2=>e = .returned (.bool (p x))/\Ext w1 w2) :
  Calls Tryz.prog 182 #[v,.func (.func g) #[] caps] w fun e w'=>e = .returned (.int .i64 (zDx p xs))/\Ext w w':=by
 obtain⟨a,c,rfl,hl⟩:=h.form;have H:=zh h;have HC:=zh hc;clear h hc;go_enter Tryz.func182,Tryz.ntmps182;go_wp2;go_loopw [5,8] (fun _ i wr => ∃ k:Nat,k<=xs.length/\i = .int .i64 k/\(∀ x∈xs.take k,p x=false)/\Ext w wr) (fun _ i _=>xs.length - (intOf i).toNat)
 case atStart=>exact⟨0,Nat.zero_le _,rfl,by simp,.refl _⟩
 case round =>
  obtain⟨k,hk,rfl,he,hq⟩:=hrel;have HE:=zh he;have HQ:=zh hq;clear he hq;by_cases hlt:k < xs.length
  ·skip
   obtain⟨b,o,x,rfl,hb,hx1,hc0,hc1,hc2,hc3,hr0,hr1,hr2,hr3,hv⟩:=(H.out.ext HQ.out).atChannel k hlt;have hcx:=zh (HC.out wr _ x HQ.out (List.mem_of_getElem? hx1.out) hv.out);clear H HC;go_wp2_with fail
   refine hcx.out.mono ?_;rintro e w2 ⟨rfl,he2⟩;have HE2:=zh (HQ.out.tr he2);clear he2;by_cases hp:p x=true
   ·have HN:=zh (zEe HE.out hx1.out hp);go_wp2;go_ret;exact⟨zF0 HN.out.symm,HE2.out⟩
   ·rw[Bool.not_eq_true] at hp;go_wp2;go_roundw
    case rel =>
     refine⟨k+1,by omega,by go_num,?_,HE2.out⟩
     rw[zAm hx1.out];intro y hy;rcases List.mem_append.1 hy with hy|hy
     ·exact HE.out y hy
     ·rw[List.mem_singleton] at hy;subst hy;exact hp
    case measure=>simp[intOf];omega
  ·obtain rfl:k=xs.length:=by omega
   have HN:=zh (zCt (p:=p) (xs:=xs) (by have:=HE.out;rwa [List.take_length] at this))
   clear H HC;go_wp2;go_ret;exact⟨zF0 HN.out.symm,HQ.out⟩
theorem zLy(g:Nat)(caps:Array Value)(p:Channel->Bool)(v:Value)(xs:List Channel)(w:World)(h:Rs w v xs)(hg:∀ ar u,(callFunc g ar).run Tryz.prog u = .ok (.enter g ar) u)
  (hc:∀ (w1:World) (v:Value) (x:Channel),Ext w w1->x∈xs->Rv w1 v x->Calls Tryz.prog g (#[v]++caps) w1 fun e w2=>e = .returned (.bool (p x))/\Ext w1 w2) :
  Calls Tryz.prog 173 #[v,.func (.func g) #[] caps] w fun e w'=>e = .returned (.bool (xs.any p))/\Ext w w':=by
 have HX:=zh (zM0 g caps p v xs w h hg hc);clear hc hg h;go_enter Tryz.func173,Tryz.ntmps173;go_wp2_with fail
 refine HX.out.mono ?_;rintro e w2 ⟨rfl,he2⟩;have HE:=zh he2;have HN:=zh (zDe (p:=p) (xs:=xs));clear he2
 generalize zDx p xs=i at *
 go_wp2;go_ret;exact⟨zA2 HN.out,HE.out⟩
theorem idx_Slot(g:Nat)(caps:Array Value)(p:Slot->Bool)(v:Value)(xs:List Slot)(w:World)(h:Rs w v xs)(hg:∀ ar u,(callFunc g ar).run Tryz.prog u = .ok (.enter g ar) u)
  (hc:∀ (w1:World) (v:Value) (x:Slot),Ext w w1->x∈xs->Rv w1 v x->Calls Tryz.prog g (#[v]++caps) w1 fun e w2=>e = .returned (.bool (p x))/\Ext w1 w2) :
  Calls Tryz.prog 145 #[v,.func (.func g) #[] caps] w fun e w'=>e = .returned (.int .i64 (zDx p xs))/\Ext w w':=by
 obtain⟨a,c,rfl,hl⟩:=h.form;have H:=zh h;have HC:=zh hc;clear h hc;go_enter Tryz.func145,Tryz.ntmps145;go_wp2;go_loopw [5,8] (fun _ i wr => ∃ k:Nat,k<=xs.length/\i = .int .i64 k/\(∀ x∈xs.take k,p x=false)/\Ext w wr) (fun _ i _=>xs.length - (intOf i).toNat)
 case atStart=>exact⟨0,Nat.zero_le _,rfl,by simp,.refl _⟩
 case round =>
  obtain⟨k,hk,rfl,he,hq⟩:=hrel;have HE:=zh he;have HQ:=zh hq;clear he hq;by_cases hlt:k < xs.length
  ·skip
   obtain⟨b,o,x,rfl,hb,hx1,hc0,hc1,hr0,hr1,hv⟩:=(H.out.ext HQ.out).atSlot k hlt;have hcx:=zh (HC.out wr _ x HQ.out (List.mem_of_getElem? hx1.out) hv.out);clear H HC;go_wp2_with fail
   refine hcx.out.mono ?_;rintro e w2 ⟨rfl,he2⟩;have HE2:=zh (HQ.out.tr he2);clear he2;by_cases hp:p x=true
   ·have HN:=zh (zEe HE.out hx1.out hp);go_wp2;go_ret;exact⟨zF0 HN.out.symm,HE2.out⟩
   ·rw[Bool.not_eq_true] at hp;go_wp2;go_roundw
    case rel =>
     refine⟨k+1,by omega,by go_num,?_,HE2.out⟩
     rw[zAm hx1.out];intro y hy;rcases List.mem_append.1 hy with hy|hy
     ·exact HE.out y hy
     ·rw[List.mem_singleton] at hy;subst hy;exact hp
    case measure=>simp[intOf];omega
  ·obtain rfl:k=xs.length:=by omega
   have HN:=zh (zCt (p:=p) (xs:=xs) (by have:=HE.out;rwa [List.take_length] at this))
   clear H HC;go_wp2;go_ret;exact⟨zF0 HN.out.symm,HQ.out⟩
theorem has_Slot(g:Nat)(caps:Array Value)(p:Slot->Bool)(v:Value)(xs:List Slot)(w:World)(h:Rs w v xs)(hg:∀ ar u,(callFunc g ar).run Tryz.prog u = .ok (.enter g ar) u)
  (hc:∀ (w1:World) (v:Value) (x:Slot),Ext w w1->x∈xs->Rv w1 v x->Calls Tryz.prog g (#[v]++caps) w1 fun e w2=>e = .returned (.bool (p x))/\Ext w1 w2) :
  Calls Tryz.prog 98 #[v,.func (.func g) #[] caps] w fun e w'=>e = .returned (.bool (xs.any p))/\Ext w w':=by
 have HX:=zh (idx_Slot g caps p v xs w h hg hc);clear hc hg h;go_enter Tryz.func98,Tryz.ntmps98;go_wp2_with fail
 refine HX.out.mono ?_;rintro e w2 ⟨rfl,he2⟩;have HE:=zh he2;have HN:=zh (zDe (p:=p) (xs:=xs));clear he2
 generalize zDx p xs=i at *
 go_wp2;go_ret;exact⟨zA2 HN.out,HE.out⟩
theorem zO1(g:Nat)(caps:Array Value)(p:Order->Bool)(v:Value)(xs:List Order)(w:World)(h:Rs w v xs)(hg:∀ ar u,(callFunc g ar).run Tryz.prog u = .ok (.enter g ar) u)
  (hc:∀ (w1:World) (v:Value) (x:Order),Ext w w1->x∈xs->Rv w1 v x->Calls Tryz.prog g (#[v]++caps) w1 fun e w2=>e = .returned (.bool (p x))/\Ext w1 w2) :
  Calls Tryz.prog 175 #[v,.func (.func g) #[] caps] w fun e w'=>e = .returned (.int .i64 (zDx p xs))/\Ext w w':=by
 obtain⟨a,c,rfl,hl⟩:=h.form;have H:=zh h;have HC:=zh hc;clear h hc;go_enter Tryz.func175,Tryz.ntmps175;go_wp2;go_loopw [5,8] (fun _ i wr => ∃ k:Nat,k<=xs.length/\i = .int .i64 k/\(∀ x∈xs.take k,p x=false)/\Ext w wr) (fun _ i _=>xs.length - (intOf i).toNat)
 case atStart=>exact⟨0,Nat.zero_le _,rfl,by simp,.refl _⟩
 case round =>
  obtain⟨k,hk,rfl,he,hq⟩:=hrel;have HE:=zh he;have HQ:=zh hq;clear he hq;by_cases hlt:k < xs.length
  ·skip
   obtain⟨b,o,x,rfl,hb,hx1,hc0,hc1,hc2,hr0,hr1,hr2,hv⟩:=(H.out.ext HQ.out).atOrder k hlt;have hcx:=zh (HC.out wr _ x HQ.out (List.mem_of_getElem? hx1.out) hv.out);clear H HC;go_wp2_with fail
   refine hcx.out.mono ?_;rintro e w2 ⟨rfl,he2⟩;have HE2:=zh (HQ.out.tr he2);clear he2;by_cases hp:p x=true
   ·have HN:=zh (zEe HE.out hx1.out hp);go_wp2;go_ret;exact⟨zF0 HN.out.symm,HE2.out⟩
   ·rw[Bool.not_eq_true] at hp;go_wp2;go_roundw
    case rel =>
     refine⟨k+1,by omega,by go_num,?_,HE2.out⟩
     rw[zAm hx1.out];intro y hy;rcases List.mem_append.1 hy with hy|hy
     ·exact HE.out y hy
     ·rw[List.mem_singleton] at hy;subst hy;exact hp
    case measure=>simp[intOf];omega
  ·obtain rfl:k=xs.length:=by omega
   have HN:=zh (zCt (p:=p) (xs:=xs) (by have:=HE.out;rwa [List.take_length] at this))
   clear H HC;go_wp2;go_ret;exact⟨zF0 HN.out.symm,HQ.out⟩
theorem zO0(g:Nat)(caps:Array Value)(p:Order->Bool)(v:Value)(xs:List Order)(w:World)(h:Rs w v xs)(hg:∀ ar u,(callFunc g ar).run Tryz.prog u = .ok (.enter g ar) u)
  (hc:∀ (w1:World) (v:Value) (x:Order),Ext w w1->x∈xs->Rv w1 v x->Calls Tryz.prog g (#[v]++caps) w1 fun e w2=>e = .returned (.bool (p x))/\Ext w1 w2) :
  Calls Tryz.prog 155 #[v,.func (.func g) #[] caps] w fun e w'=>e = .returned (.bool (xs.any p))/\Ext w w':=by
 have HX:=zh (zO1 g caps p v xs w h hg hc);clear hc hg h;go_enter Tryz.func155,Tryz.ntmps155;go_wp2_with fail
 refine HX.out.mono ?_;rintro e w2 ⟨rfl,he2⟩;have HE:=zh he2;have HN:=zh (zDe (p:=p) (xs:=xs));clear he2
 generalize zDx p xs=i at *
 go_wp2;go_ret;exact⟨zA2 HN.out,HE.out⟩
theorem zN4(g:Nat)(caps:Array Value)(p:Health->Bool)(v:Value)(xs:List Health)(w:World)(h:Rs w v xs)(hg:∀ ar u,(callFunc g ar).run Tryz.prog u = .ok (.enter g ar) u)
  (hc:∀ (w1:World) (v:Value) (x:Health),Ext w w1->x∈xs->Rv w1 v x->Calls Tryz.prog g (#[v]++caps) w1 fun e w2=>e = .returned (.bool (p x))/\Ext w1 w2) :
  Calls Tryz.prog 77 #[v,.func (.func g) #[] caps] w fun e w'=>e = .returned (.int .i64 (zDx p xs))/\Ext w w':=by
 obtain⟨a,c,rfl,hl⟩:=h.form;have H:=zh h;have HC:=zh hc;clear h hc;go_enter Tryz.func77,Tryz.ntmps77;go_wp2;go_loopw [5,8] (fun _ i wr => ∃ k:Nat,k<=xs.length/\i = .int .i64 k/\(∀ x∈xs.take k,p x=false)/\Ext w wr) (fun _ i _=>xs.length - (intOf i).toNat)
 case atStart=>exact⟨0,Nat.zero_le _,rfl,by simp,.refl _⟩
 case round =>
  obtain⟨k,hk,rfl,he,hq⟩:=hrel;have HE:=zh he;have HQ:=zh hq;clear he hq;by_cases hlt:k < xs.length
  ·skip
   obtain⟨b,o,x,rfl,hb,hx1,hc0,hc1,hr1,hv⟩:=(H.out.ext HQ.out).atHealth k hlt;have hcx:=zh (HC.out wr _ x HQ.out (List.mem_of_getElem? hx1.out) hv.out);clear H HC;go_wp2_with fail
   refine hcx.out.mono ?_;rintro e w2 ⟨rfl,he2⟩;have HE2:=zh (HQ.out.tr he2);clear he2;by_cases hp:p x=true
   ·have HN:=zh (zEe HE.out hx1.out hp);go_wp2;go_ret;exact⟨zF0 HN.out.symm,HE2.out⟩
   ·rw[Bool.not_eq_true] at hp;go_wp2;go_roundw
    case rel =>
     refine⟨k+1,by omega,by go_num,?_,HE2.out⟩
     rw[zAm hx1.out];intro y hy;rcases List.mem_append.1 hy with hy|hy
     ·exact HE.out y hy
     ·rw[List.mem_singleton] at hy;subst hy;exact hp
    case measure=>simp[intOf];omega
  ·obtain rfl:k=xs.length:=by omega
   have HN:=zh (zCt (p:=p) (xs:=xs) (by have:=HE.out;rwa [List.take_length] at this))
   clear H HC;go_wp2;go_ret;exact⟨zF0 HN.out.symm,HQ.out⟩
theorem zN2(g:Nat)(caps:Array Value)(p:Health->Bool)(v:Value)(xs:List Health)(w:World)(h:Rs w v xs)(hg:∀ ar u,(callFunc g ar).run Tryz.prog u = .ok (.enter g ar) u)
  (hc:∀ (w1:World) (v:Value) (x:Health),Ext w w1->x∈xs->Rv w1 v x->Calls Tryz.prog g (#[v]++caps) w1 fun e w2=>e = .returned (.bool (p x))/\Ext w1 w2) :
  Calls Tryz.prog 42 #[v,.func (.func g) #[] caps] w fun e w'=>e = .returned (.bool (xs.any p))/\Ext w w':=by
 have HX:=zh (zN4 g caps p v xs w h hg hc);clear hc hg h;go_enter Tryz.func42,Tryz.ntmps42;go_wp2_with fail
 refine HX.out.mono ?_;rintro e w2 ⟨rfl,he2⟩;have HE:=zh he2;have HN:=zh (zDe (p:=p) (xs:=xs));clear he2
 generalize zDx p xs=i at *
 go_wp2;go_ret;exact⟨zA2 HN.out,HE.out⟩
theorem idx_int(g:Nat)(caps:Array Value)(p:Int->Bool)(v:Value)(xs:List Int)(w:World)(h:Rs w v xs)(hg:∀ ar u,(callFunc g ar).run Tryz.prog u = .ok (.enter g ar) u)
  (hc:∀ (w1:World) (x:Int),Ext w w1->x∈xs->rng x->Calls Tryz.prog g (#[.int .i64 x]++caps) w1 fun e w2=>e = .returned (.bool (p x))/\Ext w1 w2) :
  Calls Tryz.prog 105 #[v,.func (.func g) #[] caps] w fun e w'=>e = .returned (.int .i64 (zDx p xs))/\Ext w w':=by
 obtain⟨a,c,rfl,hl⟩:=h.form;have H:=zh h;have HC:=zh hc;clear h hc;go_enter Tryz.func105,Tryz.ntmps105;go_wp2;go_loopw [5,8] (fun _ i wr => ∃ k:Nat,k<=xs.length/\i = .int .i64 k/\(∀ x∈xs.take k,p x=false)/\Ext w wr) (fun _ i _=>xs.length - (intOf i).toNat)
 case atStart=>exact⟨0,Nat.zero_le _,rfl,by simp,.refl _⟩
 case round =>
  obtain⟨k,hk,rfl,he,hq⟩:=hrel;have HE:=zh he;have HQ:=zh hq;clear he hq;by_cases hlt:k < xs.length
  ·skip
   obtain⟨b,o,x,rfl,hb,hx1,hc0,hr0⟩:=(H.out.ext HQ.out).atInt k hlt;have hcx:=zh (HC.out wr x HQ.out (List.mem_of_getElem? hx1.out) hr0);clear H HC;go_wp2_with fail
   refine hcx.out.mono ?_;rintro e w2 ⟨rfl,he2⟩;have HE2:=zh (HQ.out.tr he2);clear he2;by_cases hp:p x=true
   ·have HN:=zh (zEe HE.out hx1.out hp);go_wp2;go_ret;exact⟨zF0 HN.out.symm,HE2.out⟩
   ·rw[Bool.not_eq_true] at hp;go_wp2;go_roundw
    case rel =>
     refine⟨k+1,by omega,by go_num,?_,HE2.out⟩
     rw[zAm hx1.out];intro y hy;rcases List.mem_append.1 hy with hy|hy
     ·exact HE.out y hy
     ·rw[List.mem_singleton] at hy;subst hy;exact hp
    case measure=>simp[intOf];omega
  ·obtain rfl:k=xs.length:=by omega
   have HN:=zh (zCt (p:=p) (xs:=xs) (by have:=HE.out;rwa [List.take_length] at this))
   clear H HC;go_wp2;go_ret;exact⟨zF0 HN.out.symm,HQ.out⟩
theorem zLz(g:Nat)(caps:Array Value)(p:Int->Bool)(v:Value)(xs:List Int)(w:World)(h:Rs w v xs)(hg:∀ ar u,(callFunc g ar).run Tryz.prog u = .ok (.enter g ar) u)
  (hc:∀ (w1:World) (x:Int),Ext w w1->x∈xs->rng x->Calls Tryz.prog g (#[.int .i64 x]++caps) w1 fun e w2=>e = .returned (.bool (p x))/\Ext w1 w2) :
  Calls Tryz.prog 62 #[v,.func (.func g) #[] caps] w fun e w'=>e = .returned (.bool (xs.any p))/\Ext w w':=by
 have HX:=zh (idx_int g caps p v xs w h hg hc);clear hc hg h;go_enter Tryz.func62,Tryz.ntmps62;go_wp2_with fail
 refine HX.out.mono ?_;rintro e w2 ⟨rfl,he2⟩;have HE:=zh he2;have HN:=zh (zDe (p:=p) (xs:=xs));clear he2
 generalize zDx p xs=i at *
 go_wp2;go_ret;exact⟨zA2 HN.out,HE.out⟩
end Sk
