/- Contracts of functions of the given program. -/
import Derived.Test.YtpjdkfkfmebphaaGreatCopy
import Derived.Test.YtpjdkfkfmebphaaGreatThr
namespace Sk
open Go Go.Proofs Go.RowKit
set_option maxHeartbeats 4000000
set_option maxRecDepth 100000
set_option linter.unusedVariables false
set_option linter.unusedSimpArgs false
theorem zLa{s:Setup}(h:zAr s=true){x:Channel}(hx:x∈s.Channels):∃ i j:Nat,x.From=i/\x.To=j/\i < s.Parts.length/\j < s.Parts.length:=by
 have h1:=zKy h;unfold zCk at h1;simp only[Bool.and_eq_true] at h1;have h2:=List.all_eq_true.1 h1.2.2 x hx;obtain⟨_,h3,h4,_⟩:=zJ2.1 h2;exact⟨x.From.toNat,x.To.toNat,by omega,by omega,by omega,by omega⟩
set_option maxHeartbeats 400000
theorem zCb{α:Type}[BEq α][LawfulBEq α](x y : α):(x=y/\(x == y)=true/\(x != y)=false)\/(x≠y/\(x == y)=false/\(x != y)=true):=by
 by_cases h:x=y
 ·exact .inl ⟨h,by simpa using h,by simpa using h⟩
 ·exact .inr ⟨h,by simpa using h,by simpa using h⟩
theorem zB1(v1 v2:Value)(xs ys:List Int)(w:World)(hv1:Rs w v1 xs)(hv2:Rs w v2 ys) :
  Calls Tryz.prog 36 #[v1,v2] w fun e w'=>e = .returned (.bool (Eqb xs ys))/\Ext w w':=by
 obtain⟨a,c,rfl,hl⟩:=hv1.form;obtain⟨a2,c2,rfl,hl2⟩:=hv2.form;by_cases hne:xs.length=ys.length
 ·have H:=zh hne;rw[<- hne] at hv2 hl2 ⊢;clear hne;have H1:=zh hv1;have H2:=zh hv2;clear hv1 hv2;go_enter Tryz.func36,Tryz.ntmps36;go_wp2;go_loopw [5,13] (fun _ i wr => ∃ k:Nat,k<=xs.length/\i = .int .i64 k/\xs.take k=ys.take k/\Ext w wr) (fun _ i _=>xs.length - (intOf i).toNat)
  case atStart=>exact⟨0,Nat.zero_le _,rfl,rfl,.refl _⟩
  case round =>
   obtain⟨k,hk,rfl,he,hq⟩:=hrel;have HE:=zh he;have HQ:=zh hq;clear he hq;by_cases hlt:k < xs.length
   ·obtain⟨b,o,x,rfl,_,hx1,hc1,g0⟩:=(H1.out.ext HQ.out).atInt k hlt;obtain⟨b2,o2,y,rfl,_,hx2,hc2,g1⟩:=(H2.out.ext HQ.out).atInt k (by have:=H.out;omega)
    clear H1 H2;rcases zCb x y with ⟨hx,q1,q2⟩ | ⟨hx,q1,q2⟩
    ·have hx3:=zh hx;clear hx;go_wp2;go_quiet (fail)
     go_wp2;go_roundw
     case rel=>exact⟨k+1,by omega,by go_num,zE3 hx1.out (by first|exact hx2.out|exact hx3.out ▸ hx2.out) HE.out,HQ.out.drewN _⟩
     case measure=>simp[intOf];omega
    ·have HN:=zh (Eqb.f (ne_at hx1.out hx2.out hx));clear hx;go_wp2;go_quiet (fail)
     go_wp2;go_ret;exact⟨zA2 HN.out.symm,HQ.out.drewN _⟩
   ·have HN:=zh (Eqb.t (zEv xs ys k H.out (by omega) HE.out))
    clear H1 H2;go_wp2;go_ret;exact⟨zA2 HN.out.symm,HQ.out⟩
 ·have HN:=zh (Eqb.f (fun h=>hne (by rw[h]):xs≠ys))
  have hb:decide (xs.length=ys.length)=false:=by simpa using hne
  clear hv1 hv2;go_enter Tryz.func36,Tryz.ntmps36;go_wp2
  all_goals go_ret
  all_goals exact⟨zA2 HN.out.symm,.refl _⟩
theorem law_sameInts(v1 v2:Value)(xs ys:List Int)(w:World)(hv1:Rs w v1 xs)(hv2:Rs w v2 ys) :
  Calls Tryz.prog 12 #[v1,v2] w fun e w'=>e = .returned (.bool (Eqb xs ys))/\Ext w w':=by
 obtain⟨a,c,rfl,hl⟩:=hv1.form;obtain⟨a2,c2,rfl,hl2⟩:=hv2.form;by_cases hne:xs.length=ys.length
 ·have H:=zh hne;rw[<- hne] at hv2 hl2 ⊢;clear hne;have H1:=zh hv1;have H2:=zh hv2;clear hv1 hv2;go_enter Tryz.func12,Tryz.ntmps12;go_wp2;go_loopw [5] (fun i wr => ∃ k:Nat,k<=xs.length/\i = .int .i64 k/\xs.take k=ys.take k/\Ext w wr) (fun i _=>xs.length - (intOf i).toNat)
  case atStart=>exact⟨0,Nat.zero_le _,rfl,rfl,.refl _⟩
  case round =>
   obtain⟨k,hk,rfl,he,hq⟩:=hrel;have HE:=zh he;have HQ:=zh hq;clear he hq;by_cases hlt:k < xs.length
   ·obtain⟨b,o,x,rfl,_,hx1,hc1,g0⟩:=(H1.out.ext HQ.out).atInt k hlt;obtain⟨b2,o2,y,rfl,_,hx2,hc2,g1⟩:=(H2.out.ext HQ.out).atInt k (by have:=H.out;omega)
    clear H1 H2;rcases zCb x y with ⟨hx,q1,q2⟩ | ⟨hx,q1,q2⟩
    ·have hx3:=zh hx;clear hx;go_wp2;go_quiet (fail)
     go_wp2;go_roundw
     case rel=>exact⟨k+1,by omega,by go_num,zE3 hx1.out (by first|exact hx2.out|exact hx3.out ▸ hx2.out) HE.out,HQ.out.drewN _⟩
     case measure=>simp[intOf];omega
    ·have HN:=zh (Eqb.f (ne_at hx1.out hx2.out hx));clear hx;go_wp2;go_quiet (fail)
     go_wp2;go_ret;exact⟨zA2 HN.out.symm,HQ.out.drewN _⟩
   ·have HN:=zh (Eqb.t (zEv xs ys k H.out (by omega) HE.out))
    clear H1 H2;go_wp2;go_ret;exact⟨zA2 HN.out.symm,HQ.out⟩
 ·have HN:=zh (Eqb.f (fun h=>hne (by rw[h]):xs≠ys))
  have hb:decide (xs.length=ys.length)=false:=by simpa using hne
  clear hv1 hv2;go_enter Tryz.func12,Tryz.ntmps12;go_wp2
  all_goals go_ret
  all_goals exact⟨zA2 HN.out.symm,.refl _⟩
theorem zB9(v1 v2:Value)(xs ys:List Order)(w:World)(hv1:Rs w v1 xs)(hv2:Rs w v2 ys) :
  Calls Tryz.prog 38 #[v1,v2] w fun e w'=>e = .returned (.bool (Eqb xs ys))/\Ext w w':=by
 obtain⟨a,c,rfl,hl⟩:=hv1.form;obtain⟨a2,c2,rfl,hl2⟩:=hv2.form;by_cases hne:xs.length=ys.length
 ·have H:=zh hne;rw[<- hne] at hv2 hl2 ⊢;clear hne;have H1:=zh hv1;have H2:=zh hv2;clear hv1 hv2;go_enter Tryz.func38,Tryz.ntmps38;go_wp2;go_loopw [5,13] (fun _ i wr => ∃ k:Nat,k<=xs.length/\i = .int .i64 k/\xs.take k=ys.take k/\Ext w wr) (fun _ i _=>xs.length - (intOf i).toNat)
  case atStart=>exact⟨0,Nat.zero_le _,rfl,rfl,.refl _⟩
  case round =>
   obtain⟨k,hk,rfl,he,hq⟩:=hrel;have HE:=zh he;have HQ:=zh hq;clear he hq;by_cases hlt:k < xs.length
   ·obtain⟨b,o,x,rfl,_,hx1,hc0,hc1,hc2,g0,g1,g2,_⟩:=(H1.out.ext HQ.out).atOrder k hlt;obtain⟨b2,o2,y,rfl,_,hx2,hd0,hd1,hd2,f0,f1,f2,_⟩:=(H2.out.ext HQ.out).atOrder k (by have:=H.out;omega)
    clear H1 H2;rcases zCb x.Op y.Op with ⟨h1,q1,r1⟩ | ⟨h1,q1,r1⟩<;>rcases zCb x.A y.A with ⟨h2,q2,r2⟩ | ⟨h2,q2,r2⟩<;>rcases zCb x.B y.B with ⟨h3,q3,r3⟩ | ⟨h3,q3,r3⟩
    ·have hx3:Hid (x=y):=zh (by cases x;cases y;simp_all)
     clear h1 h2 h3;go_wp2;go_quiet (fail)
     go_wp2;go_roundw
     case rel=>exact⟨k+1,by omega,by go_num,zE3 hx1.out (by rw[hx3.out];exact hx2.out) HE.out,HQ.out.drewN _⟩
     case measure=>simp[intOf];omega
    all_goals
     have HN:=zh (Eqb.f (ne_at hx1.out hx2.out (fun e=>by subst e;first|exact h1 rfl|exact h2 rfl|exact h3 rfl)))
     clear h1 h2 h3;go_wp2;go_quiet (fail)
     go_wp2;go_ret;exact⟨zA2 HN.out.symm,HQ.out.drewN _⟩
   ·have HN:=zh (Eqb.t (zEv xs ys k H.out (by omega) HE.out))
    clear H1 H2;go_wp2;go_ret;exact⟨zA2 HN.out.symm,HQ.out⟩
 ·have HN:=zh (Eqb.f (fun h=>hne (by rw[h]):xs≠ys))
  have hb:decide (xs.length=ys.length)=false:=by simpa using hne
  clear hv1 hv2;go_enter Tryz.func38,Tryz.ntmps38;go_wp2
  all_goals go_ret
  all_goals exact⟨zA2 HN.out.symm,.refl _⟩
theorem law_sameOrders(v1 v2:Value)(xs ys:List Order)(w:World)(hv1:Rs w v1 xs)(hv2:Rs w v2 ys) :
  Calls Tryz.prog 25 #[v1,v2] w fun e w'=>e = .returned (.bool (Eqb xs ys))/\Ext w w':=by
 obtain⟨a,c,rfl,hl⟩:=hv1.form;obtain⟨a2,c2,rfl,hl2⟩:=hv2.form;by_cases hne:xs.length=ys.length
 ·have H:=zh hne;rw[<- hne] at hv2 hl2 ⊢;clear hne;have H1:=zh hv1;have H2:=zh hv2;clear hv1 hv2;go_enter Tryz.func25,Tryz.ntmps25;go_wp2;go_loopw [5] (fun i wr => ∃ k:Nat,k<=xs.length/\i = .int .i64 k/\xs.take k=ys.take k/\Ext w wr) (fun i _=>xs.length - (intOf i).toNat)
  case atStart=>exact⟨0,Nat.zero_le _,rfl,rfl,.refl _⟩
  case round =>
   obtain⟨k,hk,rfl,he,hq⟩:=hrel;have HE:=zh he;have HQ:=zh hq;clear he hq;by_cases hlt:k < xs.length
   ·obtain⟨b,o,x,rfl,_,hx1,hc0,hc1,hc2,g0,g1,g2,_⟩:=(H1.out.ext HQ.out).atOrder k hlt;obtain⟨b2,o2,y,rfl,_,hx2,hd0,hd1,hd2,f0,f1,f2,_⟩:=(H2.out.ext HQ.out).atOrder k (by have:=H.out;omega)
    clear H1 H2;rcases zCb x.Op y.Op with ⟨h1,q1,r1⟩ | ⟨h1,q1,r1⟩<;>rcases zCb x.A y.A with ⟨h2,q2,r2⟩ | ⟨h2,q2,r2⟩<;>rcases zCb x.B y.B with ⟨h3,q3,r3⟩ | ⟨h3,q3,r3⟩
    ·have hx3:Hid (x=y):=zh (by cases x;cases y;simp_all)
     clear h1 h2 h3;go_wp2;go_quiet (fail)
     go_wp2;go_roundw
     case rel=>exact⟨k+1,by omega,by go_num,zE3 hx1.out (by rw[hx3.out];exact hx2.out) HE.out,HQ.out.drewN _⟩
     case measure=>simp[intOf];omega
    all_goals
     have HN:=zh (Eqb.f (ne_at hx1.out hx2.out (fun e=>by subst e;first|exact h1 rfl|exact h2 rfl|exact h3 rfl)))
     clear h1 h2 h3;go_wp2;go_quiet (fail)
     go_wp2;go_ret;exact⟨zA2 HN.out.symm,HQ.out.drewN _⟩
   ·have HN:=zh (Eqb.t (zEv xs ys k H.out (by omega) HE.out))
    clear H1 H2;go_wp2;go_ret;exact⟨zA2 HN.out.symm,HQ.out⟩
 ·have HN:=zh (Eqb.f (fun h=>hne (by rw[h]):xs≠ys))
  have hb:decide (xs.length=ys.length)=false:=by simpa using hne
  clear hv1 hv2;go_enter Tryz.func25,Tryz.ntmps25;go_wp2
  all_goals go_ret
  all_goals exact⟨zA2 HN.out.symm,.refl _⟩
theorem zOd{s:Setup}(h:zAr s=true):GT.tot s<=1000:=by
 have h5:=zAn h;have h8:=zAu h;have h12:=zDz h;have hp:=zD5 30 5 s.Parts h5 (fun x hx=>by
  obtain⟨k,hk⟩:=List.getElem?_of_mem hx;have hw:=zEd h hk
  have:=zD5 0 12 x.Windows hw (fun y _=>Nat.le_refl _)
  show GT.tot x.Windows+GT.tot x.Cells<=_
  have h0:GT.tot x.Cells=0:=rfl
  omega)
 have hc:=zD5 0 8 s.Channels h8 (fun y _=>Nat.le_refl _)
 have hs:=zD5 0 12 s.Slots h12 (fun y _=>Nat.le_refl _)
 show GT.tot s.Parts+GT.tot s.Channels+GT.tot s.Slots<=_
 omega
set_option maxHeartbeats 4000000
theorem Rs.tailI{W:World}{b o n c:Nat}{x:Int}{xs:List Int}(h:Rs W (.slice (some ⟨b,o,none⟩) n c) (x::xs)):Rs W (.slice (some ⟨b,o+1,none⟩) (n - 1) (c - 1)) xs:=by
 obtain⟨F,a,c',he,hl,hc,⟨h1,_⟩ | ⟨_,b',o',F',h1,rfl,hr⟩⟩:=h
 ·cases h1
 ·cases he;cases h1;obtain⟨cs,F1,F2,_,_,rfl,hr⟩:=hr;simp only[List.length_cons] at hl;by_cases hx:xs = []
  ·subst hx;exact⟨[],some ⟨b,o+1,none⟩,c - 1,by simp,by simp,by unfold maxLen at *;omega,.inl ⟨rfl,rfl⟩⟩
  ·exact⟨b::F2,some ⟨b,o+1,none⟩,c - 1,by simp,by omega,by unfold maxLen at *;omega,.inr ⟨hx,b,o+1,F2,rfl,rfl,by simpa [GT.sz] using hr⟩⟩
def M.hd:List Int->Int
 | []=>0
 | x::_=>x
theorem Mo.bk{F:List Nat}{a b:World}{p:Nat}{cs:List Value}{T:TypeId}(h:Mo F a b)(k:Bk a p cs T)(hp:p ∉ F):Bk b p cs T:=(Mx.ofMo h).bk k hp
theorem Mo.cell{F:List Nat}{a b:World}(h:Mo F a b){p o:Nat}(hp:p ∉ F):b.cell? ⟨p,o,none⟩=a.cell? ⟨p,o,none⟩:=World.cell?_of_block (h.2.2.1 p hp)
theorem Oo.mo{α:Type}[GT α]{e:TypeId}{L:Nat}{w w':World}{v:Value}{xs:List α}{F:List Nat}(h:Oo e L w v xs)(k:Mo F w w')(hF:∀ x∈F,x < L):Oo e L w' v xs:=by
 obtain⟨G,h1,h2⟩:=h;exact⟨G,h1.keep (fun x hx=>k.2.2.1 x (fun hm=>by have:=h1.own x hx;have:=hF x hm;omega)) (fun x hx=>k.2.2.1 x (fun hm=>by have:=(h2.2 x hx).1;have:=hF x hm;omega)),k.own h2⟩
theorem Mo.drewN{F:List Nat}{a b:World}(h:Mo F a b)(n:Nat):Mo F a (b.drewN n):=by
 obtain⟨h1,h2,h3,h4⟩:=h;exact⟨h1,⟨h2.os,h2.tape,h2.output,Nat.le_refl _,fun b hb=>by cases hb⟩,h3,fun k hk=>(h4 k hk).ext ((zr _).drewN n)⟩
theorem Mo.lt{F:List Nat}{a b:World}(h:Mo F a b):b.heap.size=a.heap.size:=h.1
def M.many(xs:List Int)(m:Int):Int:=if zA8 (M.hd xs) 0 m then M.hd xs else 0
def zOw(xs:List Int)(bad:Bool)(m:Int):Bool:=(bad || xs.isEmpty) || !zA8 (M.hd xs) 0 m
abbrev zGe:=List Int × Bool
def zOx(s:zGe):Int:=M.hd s.1
def zIl(s:zGe):zGe:=(s.1.tail,s.2 || s.1.isEmpty)
def M.mx(m:Int)(s:zGe):Int:=M.many s.1 m
def M.ms(m:Int)(s:zGe):zGe:=(s.1.tail,zOw s.1 s.2 m)
def M.dec(x:Int):Int:=if x = -9223372036854775808 then 9223372036854775807 else x - 1
def zE8{α:Type}(f:zGe -> α × zGe):Nat->zGe->List α × zGe
 | 0,s=>([],s)
 | n+1,s=>((zE8 f n s).1 ++ [(f (zE8 f n s).2).1],(f (zE8 f n s).2).2)
def zOu(s:zGe):Window × zGe:=(⟨zOx s,zOx (zIl s),zOx (zIl (zIl s)) == 1⟩,zIl (zIl (zIl s)))
def M.iP1(s:zGe):Part × zGe :=
 (⟨(zE8 zOu (M.mx 12 (zIl s)).toNat (M.ms 12 (zIl s))).1,zOx s⟩,(zE8 zOu (M.mx 12 (zIl s)).toNat (M.ms 12 (zIl s))).2)
def M.iC1(s:zGe):Channel × zGe:=(⟨zOx s,zOx (zIl s),zOx (zIl (zIl s)),zOx (zIl (zIl (zIl s)))⟩,zIl (zIl (zIl (zIl s))))
def M.iS1(s:zGe):Slot × zGe:=(⟨M.dec (zOx s),zOx (zIl s)⟩,zIl (zIl s))
def zOt(s:zGe):List Part × zGe:=zE8 M.iP1 (M.mx 5 s).toNat (M.ms 5 s)
def M.iCs(s:zGe):List Channel × zGe:=zE8 M.iC1 (M.mx 8 s).toNat (M.ms 8 s)
def M.iSs(s:zGe):List Slot × zGe:=zE8 M.iS1 (M.mx 12 s).toNat (M.ms 12 s)
def M.iAll(s:zGe):Setup:=⟨(zOt s).1,(M.iCs (zOt s).2).1,(M.iSs (M.iCs (zOt s).2).2).1⟩
def M.iEnd(s:zGe):zGe:=(M.iSs (M.iCs (zOt s).2).2).2
end Sk
namespace Sk
open Go
theorem zH1(x:Int)(xs:List Int)(b:Bool):zIl (x::xs,b)=(xs,b):=by simp[zIl]
theorem zH2(x:Int)(xs:List Int)(b:Bool):zOx (x::xs,b)=x:=rfl
theorem zGy{x m:Int}(xs:List Int)(b:Bool)(h:zA8 x 0 m=true):M.ms m (x::xs,b)=(xs,b):=by simp[M.ms,zOw,M.hd,h]
theorem zGz{x m:Int}(xs:List Int)(b:Bool)(h:zA8 x 0 m=true):M.mx m (x::xs,b)=x:=by simp[M.mx,M.many,M.hd,h]
theorem zMx{α:Type}{f:zGe -> α × zGe}{g : α -> List Int}{ok : α -> Prop}(h:∀ x rest,ok x->f (g x++rest,false)=(x,(rest,false)))(rest:List Int) :
  ∀ (xs:List α) (ys:List α),(∀ x∈ys++xs,ok x)->∀ s,zE8 f ys.length s=(ys,(xs.flatMap g++rest,false))->zE8 f (ys++xs).length s=(ys++xs,(rest,false)):=by
 intro xs
 induction xs with
 | nil=>intro ys _ s hs;simpa using hs
 | cons x xs ih =>
  intro ys hok s hs;have h1:zE8 f (ys ++ [x]).length s=(ys ++ [x],(xs.flatMap g++rest,false)):=by
   rw[List.length_append,List.length_singleton,zE8,hs,List.flatMap_cons,List.append_assoc,h x _ (hok x (by simp))]
  have:=ih (ys ++ [x]) (by simpa using hok) s h1
  simpa using this
theorem zFr{α:Type}{f:zGe -> α × zGe}{g : α -> List Int}{ok : α -> Prop}(h:∀ x rest,ok x->f (g x++rest,false)=(x,(rest,false)))(rest:List Int)(xs:List α)(hok:∀ x∈xs,ok x) :
  zE8 f xs.length (xs.flatMap g++rest,false)=(xs,(rest,false)):=by
 have:=zMx h rest xs [] (by simpa using hok) (xs.flatMap g++rest,false) rfl
 simpa using this
theorem M.bit_eq(b:Bool):(zCv b == 1)=b:=by cases b<;>rfl
theorem M.iW1_ok(x:Window)(rest:List Int):zOu (zMi x++rest,false)=(x,(rest,false)):=by
 simp only[zMi,List.cons_append,List.nil_append,zOu,zH1,zH2,M.bit_eq]
theorem zGw{n:Nat}{m:Int}(h:(n:Int)<=m):zA8 (n:Int) 0 m=true:=zA6.2 ⟨by omega,h⟩
theorem M.iP1_ok(x:Part)(rest:List Int)(h:x.Windows.length<=12):M.iP1 (zH3 x++rest,false)=(x,(rest,false)):=by
 have hi:zA8 (x.Windows.length:Int) 0 12=true:=zGw (by omega)
 have:=zFr (f:=zOu) (g:=zMi) (ok:=fun _=>True) (fun x r _=>M.iW1_ok x r) rest x.Windows (fun _ _=>trivial)
 simp only[zH3,List.cons_append,List.nil_append,M.iP1,zH1,zH2,zGy _ _ hi,zGz _ _ hi,Int.toNat_natCast,this]
theorem M.iC1_ok(x:Channel)(rest:List Int):M.iC1 (zKb x++rest,false)=(x,(rest,false)):=by
 simp only[zKb,List.cons_append,List.nil_append,M.iC1,zH1,zH2]
theorem M.dec_of{x:Int}(h : -1<=x):M.dec (x+1)=x:=by unfold M.dec;rw[if_neg (by omega)];omega
theorem M.iS1_ok(x:Slot)(rest:List Int)(h : -1<=x.Who):M.iS1 (zM1 x++rest,false)=(x,(rest,false)):=by
 simp only[zM1,List.cons_append,List.nil_append,M.iS1,zH1,zH2,M.dec_of h]
open Go.Proofs Go.RowKit
set_option linter.unusedVariables false
set_option linter.unusedSimpArgs false
theorem Fz.of{w w':World}{k:Nat}(h:Fz w k)(hk:w'.heap[k]? = w.heap[k]?):Fz w' k:=by
 obtain⟨cs,T,h⟩:=h;exact⟨cs,T,by unfold Bk at *;rw[hk];exact h⟩
theorem Own.of{L:Nat}{w w':World}{F:List Nat}(h:Own L w F)(hk:∀ k∈F,w'.heap[k]? = w.heap[k]?):Own L w' F:=⟨h.1,fun k hm=>⟨(h.2 k hm).1,(h.2 k hm).2.of (hk k hm)⟩⟩
def Oob{α:Type}[GT α](e:TypeId)(L M:Nat)(w:World)(v:Value)(xs:List α):Prop:=∃ F,Oa e L w v xs F/\Own L w F/\(∀ k∈F,k < M)/\∀ k,v.ownBlock=some k->k < M
theorem Oo.ob{α:Type}[GT α]{e:TypeId}{L:Nat}{w:World}{v:Value}{xs:List α}(h:Oo e L w v xs):Oob e L w.heap.size w v xs:=by
 have hl:=h.lt;obtain⟨F,h1,h2⟩:=h;exact⟨F,h1,h2,fun k hk=>h2.lt hk,hl⟩
theorem Oob.of{α:Type}[GT α]{e:TypeId}{L M:Nat}{w w':World}{v:Value}{xs:List α}(h:Oob e L M w v xs)(hk:∀ k,L<=k->k < M->w'.heap[k]? = w.heap[k]?):Oob e L M w' v xs:=by
 obtain⟨F,h1,h2,h3,h4⟩:=h;have hF:∀ k∈F,w'.heap[k]? = w.heap[k]?:=fun k hm=>hk k (h2.2 k hm).1 (h3 k hm)
 exact⟨F,h1.keep (fun k hm=>hk k (h1.own k hm) (h4 k hm)) hF,h2.of hF,h3,h4⟩
theorem Oob.own{α:Type}[GT α]{e:TypeId}{L M:Nat}{w:World}{v:Value}{xs:List α}(h:Oob e L M w v xs):∀ k,v.ownBlock=some k->L<=k/\k < M:=by
 obtain⟨F,h1,h2,h3,h4⟩:=h;exact fun k hk=>⟨h1.own k hk,h4 k hk⟩
theorem Osb.of{α:Type}[GT α]{L M:Nat}{w w':World}{v:Value}{xs:List α}(h:Osb L M w v xs)(hk:∀ k,L<=k->k < M->w'.heap[k]? = w.heap[k]?):Osb L M w' v xs:=by
 obtain⟨F,h1,h2,h3⟩:=h;have hF:∀ k∈F,w'.heap[k]? = w.heap[k]?:=fun k hm=>hk k (h2.2 k hm).1 (h3 k hm)
 exact⟨F,h1.keep hF,h2.of hF,h3⟩
theorem wp_appB{α:Type}[GT α]{P:Program}{w:World}{o:Oper}{a:Act}{K:Act->World->Prop}{Q:Exit->Act->World->Prop}(s x:Operand)(t:TypeId)
  (ho:o.op = .call { callee:=.builtin .append,args:=#[s,x],argTypes:=#[t,t] }) (e:TypeId) (ht:P.underlying t=some (.slice e)) (hel:El P e α)
  {L M:Nat} {v:Value} {xs ys:List α} {Fy:List Nat} (hs:a.eval s=v) (hO:Oob e L M w v xs) (hL:L<=M) (hM:M<=w.heap.size) {ab ao m c:Nat} (hx:a.eval x = .slice (some ⟨ab,ao,none⟩) m c) (hm:ys.length=m) (hy:Row w ab ao ys Fy)
  (hm0:0 < m) (hown:Own M w Fy) (hlen:xs.length+m<=4294967296)
  (h:∀ v' w',Oo e L w' v' (xs++ys)->Mw v.ownBlock.toList w w'->(v'.ownBlock=v.ownBlock\/v'.ownBlock=some w.heap.size)->K (a.put o.dst v') w'):o.wp P a w K Q:=by
 obtain⟨F,hA,hF,hFM,hvM⟩:=hO;have hd:∀ k∈Fy,v.ownBlock≠some k:=fun k hk e=>by have:=(hown.2 k hk).1;have:=hvM k e;omega
 refine zNc s x t ho e ht hel hs hA hx hm hy hm0 hd hlen (Nat.le_trans hL hM) fun v' w' h1 h2 h3=>h v' w' ⟨_,h1,?_⟩ (Mw.ofGrown h2 (fun k hk=>by simp[hk])) h3
 have hnF:∀ k∈F,v.ownBlock≠some k:=fun k hk e=>by
   rcases hA with ⟨rfl,_,_⟩ | ⟨g,cap,cur,rfl,_,_,_,_,_,_,hg⟩
   ·cases e
   ·cases e;exact hg hk
 refine Own.grown (row:=v.ownBlock) (w:=w) (Own.app hF hown (fun b hb=>hFM b hb) hL) h2 fun k hk=>?_
 rcases List.mem_append.1 hk with hk|hk
 ·exact hnF k hk
 ·exact hd k hk
theorem zFw{α:Type}[GT α]{P:Program}{w:World}{ops:Array Oper}{rest:List Oper}{o:Oper}{a:Act}{Q:Exit->Act->World->Prop}(hgd:o.guard=none)(s x:Operand)(t:TypeId)
  (ho:o.op = .call { callee:=.builtin .append,args:=#[s,x],argTypes:=#[t,t] }) (e:TypeId) (ht:P.underlying t=some (.slice e)) (hel:El P e α)
  {L M:Nat} {v:Value} {xs ys:List α} {Fy:List Nat} (hs:a.eval s=v) (hO:Oob e L M w v xs) (hL:L<=M) (hM:M<=w.heap.size) {ab ao m c:Nat} (hx:a.eval x = .slice (some ⟨ab,ao,none⟩) m c) (hm:ys.length=m) (hy:Row w ab ao ys Fy)
  (hm0:0 < m) (hown:Own M w Fy) (hlen:xs.length+m<=4294967296)
  (h:∀ v' w',Oo e L w' v' (xs++ys)->Mw v.ownBlock.toList w w'->wpList P ops Q rest (a.put o.dst v') w'):wpList P ops Q (o::rest) a w :=
 wpList_plain hgd fun _ hK=>wp_appB s x t ho e ht hel hs hO hL hM hx hm hy hm0 hown hlen fun v' w' h1 h2 _=>hK _ _ (h v' w' h1 h2)
set_option maxHeartbeats 4000000
set_option maxRecDepth 100000
def Rvb{α:Type}[GT α](L:Nat)(w:World)(v:Value)(x : α):Prop:=∃ cs F,v = .agg cs.toArray/\GT.enc w cs x F/\∀ k∈F,L<=k
theorem Rvb.rv{α:Type}[GT α]{L:Nat}{w:World}{v:Value}{x : α}(h:Rvb L w v x):Rv w v x:=by
 obtain⟨cs,F,h1,h2,_⟩:=h;exact⟨cs,F,h1,h2⟩
end Sk
