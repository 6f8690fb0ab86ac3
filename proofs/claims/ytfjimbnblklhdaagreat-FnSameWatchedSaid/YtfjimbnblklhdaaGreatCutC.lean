/- Contracts of functions of the given program. -/
import Derived.Test.YtfjimbnblklhdaaGreatCopy
namespace Sk
open Go Go.Proofs Go.RowKit
set_option maxHeartbeats 4000000
set_option maxRecDepth 100000
set_option linter.unusedVariables false
set_option linter.unusedSimpArgs false
theorem zJ6{s:Setup}(h:zAu s=true){x:Channel}(hx:x∈s.Channels):∃ i j:Nat,x.From=i/\x.To=j/\i < s.Parts.length/\j < s.Parts.length:=by
 have h1:=zHp h;unfold zD3 at h1;simp only[Bool.and_eq_true] at h1;have h2:=List.all_eq_true.1 h1.2.2 x hx;obtain⟨_,h3,h4,_⟩:=zJ5.1 h2;exact⟨x.From.toNat,x.To.toNat,by omega,by omega,by omega,by omega⟩
set_option maxHeartbeats 400000
theorem zBv{α:Type}[BEq α][LawfulBEq α](x y : α):(x=y/\(x == y)=true/\(x != y)=false)\/(x≠y/\(x == y)=false/\(x != y)=true):=by
 by_cases h:x=y
 ·exact .inl ⟨h,by simpa using h,by simpa using h⟩
 ·exact .inr ⟨h,by simpa using h,by simpa using h⟩
theorem zB2(v1 v2:Value)(xs ys:List Int)(w:World)(hv1:Rs w v1 xs)(hv2:Rs w v2 ys) :
  Calls Tryz.prog 17 #[v1,v2] w fun e w'=>e = .returned (.bool (Eqb xs ys))/\Ext w w':=by
 obtain⟨a,c,rfl,hl⟩:=hv1.form;obtain⟨a2,c2,rfl,hl2⟩:=hv2.form;by_cases hne:xs.length=ys.length
 ·have H:=zh hne;rw[<- hne] at hv2 hl2 ⊢;clear hne;have H1:=zh hv1;have H2:=zh hv2;clear hv1 hv2;go_enter Tryz.func17,Tryz.ntmps17;go_wp2;go_loopw [5,13] (fun _ i wr => ∃ k:Nat,k<=xs.length/\i = .int .i64 k/\xs.take k=ys.take k/\Ext w wr) (fun _ i _=>xs.length - (intOf i).toNat)
  case atStart=>exact⟨0,Nat.zero_le _,rfl,rfl,.refl _⟩
  case round =>
   obtain⟨k,hk,rfl,he,hq⟩:=hrel;have HE:=zh he;have HQ:=zh hq;clear he hq;by_cases hlt:k < xs.length
   ·obtain⟨b,o,x,rfl,_,hx1,hc1,g0⟩:=(H1.out.ext HQ.out).atInt k hlt;obtain⟨b2,o2,y,rfl,_,hx2,hc2,g1⟩:=(H2.out.ext HQ.out).atInt k (by have:=H.out;omega)
    clear H1 H2;rcases zBv x y with ⟨hx,q1,q2⟩ | ⟨hx,q1,q2⟩
    ·have hx3:=zh hx;clear hx;go_wp2;go_quiet (fail)
     go_wp2;go_roundw
     case rel=>exact⟨k+1,by omega,by go_num,zEa hx1.out (by first|exact hx2.out|exact hx3.out ▸ hx2.out) HE.out,HQ.out.drewN _⟩
     case measure=>simp[intOf];omega
    ·have HN:=zh (Eqb.f (ne_at hx1.out hx2.out hx));clear hx;go_wp2;go_quiet (fail)
     go_wp2;go_ret;exact⟨zA2 HN.out.symm,HQ.out.drewN _⟩
   ·have HN:=zh (Eqb.t (zF3 xs ys k H.out (by omega) HE.out))
    clear H1 H2;go_wp2;go_ret;exact⟨zA2 HN.out.symm,HQ.out⟩
 ·have HN:=zh (Eqb.f (fun h=>hne (by rw[h]):xs≠ys))
  have hb:decide (xs.length=ys.length)=false:=by simpa using hne
  clear hv1 hv2;go_enter Tryz.func17,Tryz.ntmps17;go_wp2
  all_goals go_ret
  all_goals exact⟨zA2 HN.out.symm,.refl _⟩
theorem zBg(v1 v2:Value)(xs ys:List Int)(w:World)(hv1:Rs w v1 xs)(hv2:Rs w v2 ys) :
  Calls Tryz.prog 23 #[v1,v2] w fun e w'=>e = .returned (.bool (Eqb xs ys))/\Ext w w':=by
 obtain⟨a,c,rfl,hl⟩:=hv1.form;obtain⟨a2,c2,rfl,hl2⟩:=hv2.form;by_cases hne:xs.length=ys.length
 ·have H:=zh hne;rw[<- hne] at hv2 hl2 ⊢;clear hne;have H1:=zh hv1;have H2:=zh hv2;clear hv1 hv2;go_enter Tryz.func23,Tryz.ntmps23;go_wp2;go_loopw [5] (fun i wr => ∃ k:Nat,k<=xs.length/\i = .int .i64 k/\xs.take k=ys.take k/\Ext w wr) (fun i _=>xs.length - (intOf i).toNat)
  case atStart=>exact⟨0,Nat.zero_le _,rfl,rfl,.refl _⟩
  case round =>
   obtain⟨k,hk,rfl,he,hq⟩:=hrel;have HE:=zh he;have HQ:=zh hq;clear he hq;by_cases hlt:k < xs.length
   ·obtain⟨b,o,x,rfl,_,hx1,hc1,g0⟩:=(H1.out.ext HQ.out).atInt k hlt;obtain⟨b2,o2,y,rfl,_,hx2,hc2,g1⟩:=(H2.out.ext HQ.out).atInt k (by have:=H.out;omega)
    clear H1 H2;rcases zBv x y with ⟨hx,q1,q2⟩ | ⟨hx,q1,q2⟩
    ·have hx3:=zh hx;clear hx;go_wp2;go_quiet (fail)
     go_wp2;go_roundw
     case rel=>exact⟨k+1,by omega,by go_num,zEa hx1.out (by first|exact hx2.out|exact hx3.out ▸ hx2.out) HE.out,HQ.out.drewN _⟩
     case measure=>simp[intOf];omega
    ·have HN:=zh (Eqb.f (ne_at hx1.out hx2.out hx));clear hx;go_wp2;go_quiet (fail)
     go_wp2;go_ret;exact⟨zA2 HN.out.symm,HQ.out.drewN _⟩
   ·have HN:=zh (Eqb.t (zF3 xs ys k H.out (by omega) HE.out))
    clear H1 H2;go_wp2;go_ret;exact⟨zA2 HN.out.symm,HQ.out⟩
 ·have HN:=zh (Eqb.f (fun h=>hne (by rw[h]):xs≠ys))
  have hb:decide (xs.length=ys.length)=false:=by simpa using hne
  clear hv1 hv2;go_enter Tryz.func23,Tryz.ntmps23;go_wp2
  all_goals go_ret
  all_goals exact⟨zA2 HN.out.symm,.refl _⟩
theorem zBb(v1 v2:Value)(xs ys:List Order)(w:World)(hv1:Rs w v1 xs)(hv2:Rs w v2 ys) :
  Calls Tryz.prog 20 #[v1,v2] w fun e w'=>e = .returned (.bool (Eqb xs ys))/\Ext w w':=by
 obtain⟨a,c,rfl,hl⟩:=hv1.form;obtain⟨a2,c2,rfl,hl2⟩:=hv2.form;by_cases hne:xs.length=ys.length
 ·have H:=zh hne;rw[<- hne] at hv2 hl2 ⊢;clear hne;have H1:=zh hv1;have H2:=zh hv2;clear hv1 hv2;go_enter Tryz.func20,Tryz.ntmps20;go_wp2;go_loopw [5,13] (fun _ i wr => ∃ k:Nat,k<=xs.length/\i = .int .i64 k/\xs.take k=ys.take k/\Ext w wr) (fun _ i _=>xs.length - (intOf i).toNat)
  case atStart=>exact⟨0,Nat.zero_le _,rfl,rfl,.refl _⟩
  case round =>
   obtain⟨k,hk,rfl,he,hq⟩:=hrel;have HE:=zh he;have HQ:=zh hq;clear he hq;by_cases hlt:k < xs.length
   ·obtain⟨b,o,x,rfl,_,hx1,hc0,hc1,hc2,g0,g1,g2,_⟩:=(H1.out.ext HQ.out).atOrder k hlt;obtain⟨b2,o2,y,rfl,_,hx2,hd0,hd1,hd2,f0,f1,f2,_⟩:=(H2.out.ext HQ.out).atOrder k (by have:=H.out;omega)
    clear H1 H2;rcases zBv x.Op y.Op with ⟨h1,q1,r1⟩ | ⟨h1,q1,r1⟩<;>rcases zBv x.A y.A with ⟨h2,q2,r2⟩ | ⟨h2,q2,r2⟩<;>rcases zBv x.B y.B with ⟨h3,q3,r3⟩ | ⟨h3,q3,r3⟩
    ·have hx3:Hid (x=y):=zh (by cases x;cases y;simp_all)
     clear h1 h2 h3;go_wp2;go_quiet (fail)
     go_wp2;go_roundw
     case rel=>exact⟨k+1,by omega,by go_num,zEa hx1.out (by rw[hx3.out];exact hx2.out) HE.out,HQ.out.drewN _⟩
     case measure=>simp[intOf];omega
    all_goals
     have HN:=zh (Eqb.f (ne_at hx1.out hx2.out (fun e=>by subst e;first|exact h1 rfl|exact h2 rfl|exact h3 rfl)))
     clear h1 h2 h3;go_wp2;go_quiet (fail)
     go_wp2;go_ret;exact⟨zA2 HN.out.symm,HQ.out.drewN _⟩
   ·have HN:=zh (Eqb.t (zF3 xs ys k H.out (by omega) HE.out))
    clear H1 H2;go_wp2;go_ret;exact⟨zA2 HN.out.symm,HQ.out⟩
 ·have HN:=zh (Eqb.f (fun h=>hne (by rw[h]):xs≠ys))
  have hb:decide (xs.length=ys.length)=false:=by simpa using hne
  clear hv1 hv2;go_enter Tryz.func20,Tryz.ntmps20;go_wp2
  all_goals go_ret
  all_goals exact⟨zA2 HN.out.symm,.refl _⟩
theorem zBp(v1 v2:Value)(xs ys:List Order)(w:World)(hv1:Rs w v1 xs)(hv2:Rs w v2 ys) :
  Calls Tryz.prog 26 #[v1,v2] w fun e w'=>e = .returned (.bool (Eqb xs ys))/\Ext w w':=by
 obtain⟨a,c,rfl,hl⟩:=hv1.form;obtain⟨a2,c2,rfl,hl2⟩:=hv2.form;by_cases hne:xs.length=ys.length
 ·have H:=zh hne;rw[<- hne] at hv2 hl2 ⊢;clear hne;have H1:=zh hv1;have H2:=zh hv2;clear hv1 hv2;go_enter Tryz.func26,Tryz.ntmps26;go_wp2;go_loopw [5] (fun i wr => ∃ k:Nat,k<=xs.length/\i = .int .i64 k/\xs.take k=ys.take k/\Ext w wr) (fun i _=>xs.length - (intOf i).toNat)
  case atStart=>exact⟨0,Nat.zero_le _,rfl,rfl,.refl _⟩
  case round =>
   obtain⟨k,hk,rfl,he,hq⟩:=hrel;have HE:=zh he;have HQ:=zh hq;clear he hq;by_cases hlt:k < xs.length
   ·obtain⟨b,o,x,rfl,_,hx1,hc0,hc1,hc2,g0,g1,g2,_⟩:=(H1.out.ext HQ.out).atOrder k hlt;obtain⟨b2,o2,y,rfl,_,hx2,hd0,hd1,hd2,f0,f1,f2,_⟩:=(H2.out.ext HQ.out).atOrder k (by have:=H.out;omega)
    clear H1 H2;rcases zBv x.Op y.Op with ⟨h1,q1,r1⟩ | ⟨h1,q1,r1⟩<;>rcases zBv x.A y.A with ⟨h2,q2,r2⟩ | ⟨h2,q2,r2⟩<;>rcases zBv x.B y.B with ⟨h3,q3,r3⟩ | ⟨h3,q3,r3⟩
    ·have hx3:Hid (x=y):=zh (by cases x;cases y;simp_all)
     clear h1 h2 h3;go_wp2;go_quiet (fail)
     go_wp2;go_roundw
     case rel=>exact⟨k+1,by omega,by go_num,zEa hx1.out (by rw[hx3.out];exact hx2.out) HE.out,HQ.out.drewN _⟩
     case measure=>simp[intOf];omega
    all_goals
     have HN:=zh (Eqb.f (ne_at hx1.out hx2.out (fun e=>by subst e;first|exact h1 rfl|exact h2 rfl|exact h3 rfl)))
     clear h1 h2 h3;go_wp2;go_quiet (fail)
     go_wp2;go_ret;exact⟨zA2 HN.out.symm,HQ.out.drewN _⟩
   ·have HN:=zh (Eqb.t (zF3 xs ys k H.out (by omega) HE.out))
    clear H1 H2;go_wp2;go_ret;exact⟨zA2 HN.out.symm,HQ.out⟩
 ·have HN:=zh (Eqb.f (fun h=>hne (by rw[h]):xs≠ys))
  have hb:decide (xs.length=ys.length)=false:=by simpa using hne
  clear hv1 hv2;go_enter Tryz.func26,Tryz.ntmps26;go_wp2
  all_goals go_ret
  all_goals exact⟨zA2 HN.out.symm,.refl _⟩
theorem zOc{s:Setup}(h:zAu s=true):GT.tot s<=1000:=by
 have h5:=zAh h;have h8:=zAv h;have h12:=zE7 h;have hp:=zDf 30 5 s.Parts h5 (fun x hx=>by
  obtain⟨k,hk⟩:=List.getElem?_of_mem hx;have hw:=zEo h hk
  have:=zDf 0 12 x.Windows hw (fun y _=>Nat.le_refl _)
  show GT.tot x.Windows+GT.tot x.Cells<=_
  have h0:GT.tot x.Cells=0:=rfl
  omega)
 have hc:=zDf 0 8 s.Channels h8 (fun y _=>Nat.le_refl _)
 have hs:=zDf 0 12 s.Slots h12 (fun y _=>Nat.le_refl _)
 show GT.tot s.Parts+GT.tot s.Channels+GT.tot s.Slots<=_
 omega
set_option maxHeartbeats 4000000
theorem Rs.tailI{W:World}{b o n c:Nat}{x:Int}{xs:List Int}(h:Rs W (.slice (some ⟨b,o,none⟩) n c) (x::xs)):Rs W (.slice (some ⟨b,o+1,none⟩) (n - 1) (c - 1)) xs:=by
 obtain⟨F,a,c',he,hl,hc,⟨h1,_⟩ | ⟨_,b',o',F',h1,rfl,hr⟩⟩:=h
 ·cases h1
 ·cases he;cases h1;obtain⟨cs,F1,F2,_,_,rfl,hr⟩:=hr;simp only[List.length_cons] at hl;by_cases hx:xs = []
  ·subst hx;exact⟨[],some ⟨b,o+1,none⟩,c - 1,by simp,by simp,by unfold maxLen at *;omega,.inl ⟨rfl,rfl⟩⟩
  ·exact⟨b::F2,some ⟨b,o+1,none⟩,c - 1,by simp,by omega,by unfold maxLen at *;omega,.inr ⟨hx,b,o+1,F2,rfl,rfl,by simpa [GT.sz] using hr⟩⟩
def M.hd:List Int->Int
 | []=>0
 | x::_=>x
theorem Mo.bk{F:List Nat}{a b:World}{p:Nat}{cs:List Value}{T:TypeId}(h:Mo F a b)(k:Bk a p cs T)(hp:p ∉ F):Bk b p cs T:=(Mx.ofMo h).bk k hp
theorem Mo.cell{F:List Nat}{a b:World}(h:Mo F a b){p o:Nat}(hp:p ∉ F):b.cell? ⟨p,o,none⟩=a.cell? ⟨p,o,none⟩:=World.cell?_of_block (h.2.2.1 p hp)
theorem Oo.mo{α:Type}[GT α]{e:TypeId}{L:Nat}{w w':World}{v:Value}{xs:List α}{F:List Nat}(h:Oo e L w v xs)(k:Mo F w w')(hF:∀ x∈F,x < L):Oo e L w' v xs:=by
 obtain⟨G,h1,h2⟩:=h;exact⟨G,h1.keep (fun x hx=>k.2.2.1 x (fun hm=>by have:=h1.own x hx;have:=hF x hm;omega)) (fun x hx=>k.2.2.1 x (fun hm=>by have:=(h2.2 x hx).1;have:=hF x hm;omega)),k.own h2⟩
theorem Mo.drewN{F:List Nat}{a b:World}(h:Mo F a b)(n:Nat):Mo F a (b.drewN n):=by
 obtain⟨h1,h2,h3,h4⟩:=h;exact⟨h1,⟨h2.os,h2.tape,h2.output,Nat.le_refl _,fun b hb=>by cases hb⟩,h3,fun k hk=>(h4 k hk).ext ((zr _).drewN n)⟩
theorem Mo.lt{F:List Nat}{a b:World}(h:Mo F a b):b.heap.size=a.heap.size:=h.1
def M.many(xs:List Int)(m:Int):Int:=if zA8 (M.hd xs) 0 m then M.hd xs else 0
def zP2(xs:List Int)(bad:Bool)(m:Int):Bool:=(bad || xs.isEmpty) || !zA8 (M.hd xs) 0 m
abbrev zGf:=List Int × Bool
def zP3(s:zGf):Int:=M.hd s.1
def zIm(s:zGf):zGf:=(s.1.tail,s.2 || s.1.isEmpty)
def M.mx(m:Int)(s:zGf):Int:=M.many s.1 m
def M.ms(m:Int)(s:zGf):zGf:=(s.1.tail,zP2 s.1 s.2 m)
def M.dec(x:Int):Int:=if x = -9223372036854775808 then 9223372036854775807 else x - 1
def zEi{α:Type}(f:zGf -> α × zGf):Nat->zGf->List α × zGf
 | 0,s=>([],s)
 | n+1,s=>((zEi f n s).1 ++ [(f (zEi f n s).2).1],(f (zEi f n s).2).2)
def zP0(s:zGf):Window × zGf:=(⟨zP3 s,zP3 (zIm s),zP3 (zIm (zIm s)) == 1⟩,zIm (zIm (zIm s)))
def M.iP1(s:zGf):Part × zGf :=
 (⟨(zEi zP0 (M.mx 12 (zIm s)).toNat (M.ms 12 (zIm s))).1,zP3 s⟩,(zEi zP0 (M.mx 12 (zIm s)).toNat (M.ms 12 (zIm s))).2)
def M.iC1(s:zGf):Channel × zGf:=(⟨zP3 s,zP3 (zIm s),zP3 (zIm (zIm s)),zP3 (zIm (zIm (zIm s)))⟩,zIm (zIm (zIm (zIm s))))
def M.iS1(s:zGf):Slot × zGf:=(⟨M.dec (zP3 s),zP3 (zIm s)⟩,zIm (zIm s))
def zOz(s:zGf):List Part × zGf:=zEi M.iP1 (M.mx 5 s).toNat (M.ms 5 s)
def M.iCs(s:zGf):List Channel × zGf:=zEi M.iC1 (M.mx 8 s).toNat (M.ms 8 s)
def M.iSs(s:zGf):List Slot × zGf:=zEi M.iS1 (M.mx 12 s).toNat (M.ms 12 s)
def M.iAll(s:zGf):Setup:=⟨(zOz s).1,(M.iCs (zOz s).2).1,(M.iSs (M.iCs (zOz s).2).2).1⟩
def M.iEnd(s:zGf):zGf:=(M.iSs (M.iCs (zOz s).2).2).2
end Sk
namespace Sk
open Go
theorem zGz(x:Int)(xs:List Int)(b:Bool):zIm (x::xs,b)=(xs,b):=by simp[zIm]
theorem zH1(x:Int)(xs:List Int)(b:Bool):zP3 (x::xs,b)=x:=rfl
theorem zGw{x m:Int}(xs:List Int)(b:Bool)(h:zA8 x 0 m=true):M.ms m (x::xs,b)=(xs,b):=by simp[M.ms,zP2,M.hd,h]
theorem zGx{x m:Int}(xs:List Int)(b:Bool)(h:zA8 x 0 m=true):M.mx m (x::xs,b)=x:=by simp[M.mx,M.many,M.hd,h]
theorem zMw{α:Type}{f:zGf -> α × zGf}{g : α -> List Int}{ok : α -> Prop}(h:∀ x rest,ok x->f (g x++rest,false)=(x,(rest,false)))(rest:List Int) :
  ∀ (xs:List α) (ys:List α),(∀ x∈ys++xs,ok x)->∀ s,zEi f ys.length s=(ys,(xs.flatMap g++rest,false))->zEi f (ys++xs).length s=(ys++xs,(rest,false)):=by
 intro xs
 induction xs with
 | nil=>intro ys _ s hs;simpa using hs
 | cons x xs ih =>
  intro ys hok s hs;have h1:zEi f (ys ++ [x]).length s=(ys ++ [x],(xs.flatMap g++rest,false)):=by
   rw[List.length_append,List.length_singleton,zEi,hs,List.flatMap_cons,List.append_assoc,h x _ (hok x (by simp))]
  have:=ih (ys ++ [x]) (by simpa using hok) s h1
  simpa using this
theorem zFv{α:Type}{f:zGf -> α × zGf}{g : α -> List Int}{ok : α -> Prop}(h:∀ x rest,ok x->f (g x++rest,false)=(x,(rest,false)))(rest:List Int)(xs:List α)(hok:∀ x∈xs,ok x) :
  zEi f xs.length (xs.flatMap g++rest,false)=(xs,(rest,false)):=by
 have:=zMw h rest xs [] (by simpa using hok) (xs.flatMap g++rest,false) rfl
 simpa using this
theorem M.bit_eq(b:Bool):(zD4 b == 1)=b:=by cases b<;>rfl
theorem M.iW1_ok(x:Window)(rest:List Int):zP0 (zMe x++rest,false)=(x,(rest,false)):=by
 simp only[zMe,List.cons_append,List.nil_append,zP0,zGz,zH1,M.bit_eq]
theorem zGv{n:Nat}{m:Int}(h:(n:Int)<=m):zA8 (n:Int) 0 m=true:=zA6.2 ⟨by omega,h⟩
theorem M.iP1_ok(x:Part)(rest:List Int)(h:x.Windows.length<=12):M.iP1 (zH2 x++rest,false)=(x,(rest,false)):=by
 have hi:zA8 (x.Windows.length:Int) 0 12=true:=zGv (by omega)
 have:=zFv (f:=zP0) (g:=zMe) (ok:=fun _=>True) (fun x r _=>M.iW1_ok x r) rest x.Windows (fun _ _=>trivial)
 simp only[zH2,List.cons_append,List.nil_append,M.iP1,zGz,zH1,zGw _ _ hi,zGx _ _ hi,Int.toNat_natCast,this]
theorem M.iC1_ok(x:Channel)(rest:List Int):M.iC1 (zKe x++rest,false)=(x,(rest,false)):=by
 simp only[zKe,List.cons_append,List.nil_append,M.iC1,zGz,zH1]
theorem M.dec_of{x:Int}(h : -1<=x):M.dec (x+1)=x:=by unfold M.dec;rw[if_neg (by omega)];omega
theorem M.iS1_ok(x:Slot)(rest:List Int)(h : -1<=x.Who):M.iS1 (zLy x++rest,false)=(x,(rest,false)):=by
 simp only[zLy,List.cons_append,List.nil_append,M.iS1,zGz,zH1,M.dec_of h]
end Sk
