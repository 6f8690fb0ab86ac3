/- Contracts of functions of the given program. -/
import Derived.Test.YtfdeoepbnefckaaGreatChecked
import Derived.Test.YtfdeoepbnefckaaGreatTypes
namespace Sk
open Go Go.Proofs Go.RowKit
set_option maxHeartbeats 400000
set_option maxRecDepth 100000
set_option linter.unusedVariables false
set_option linter.unusedSimpArgs false
def zCl{α:Type}(p : α -> Bool)(xs:List α):Int:=match xs.findIdx? p with|some i=>(i:Int)|none => -1
theorem zBr{α:Type}{p : α -> Bool}{xs:List α}(h:∀ x∈xs,p x=false):zCl p xs = -1:=by
 have:xs.findIdx? p=none:=by simpa using h
 simp[zCl,this]
theorem zD1{α:Type}{p : α -> Bool}{xs:List α}{k:Nat}{x : α}(h:∀ x∈xs.take k,p x=false)(hk:xs[k]? = some x)(hp:p x=true):zCl p xs=k:=by
 have:xs.findIdx? p=some k:=by
  obtain⟨hl,rfl⟩:=List.getElem?_eq_some_iff.1 hk;rw[List.findIdx?_eq_some_iff_getElem];refine⟨hl,hp,fun j hj=>?_⟩
  have:=h xs[j] (by rw[List.mem_take_iff_getElem];exact⟨j,by omega,rfl⟩)
  simp[this]
 simp[zCl,this]
theorem zCd{α:Type}{p : α -> Bool}{xs:List α}:decide (0<=zCl p xs)=xs.any p:=by
 unfold zCl;cases h:xs.findIdx? p with
 | none =>
  have:xs.any p=false:=by rw[List.any_eq_false];intro x hx;have:=List.findIdx?_eq_none_iff.1 h x hx;simp[this]
  simp[this]
 | some i =>
  have:xs.any p=true:=by
   obtain⟨hl,hp,_⟩:=List.findIdx?_eq_some_iff_getElem.1 h;rw[List.any_eq_true];exact⟨xs[i],List.getElem_mem hl,hp⟩
  simp[this]
theorem zGh(g:Nat)(caps:Array Value)(p:Window->Bool)(v:Value)(xs:List Window)(w:World)(h:Rs w v xs)(hg:∀ ar u,(callFunc g ar).run Tryz.prog u = .ok (.enter g ar) u)
  (hc:∀ (w1:World) (v:Value) (x:Window),Ext w w1->x∈xs->Rv w1 v x->Calls Tryz.prog g (#[v]++caps) w1 fun e w2=>e = .returned (.bool (p x))/\Ext w1 w2) :
  Calls Tryz.prog 66 #[v,.func (.func g) #[] caps] w fun e w'=>e = .returned (.int .i64 (zCl p xs))/\Ext w w':=by
 obtain⟨a,c,rfl,hl⟩:=h.form;have H:=zh h;have HC:=zh hc;clear h hc;go_enter Tryz.func66,Tryz.ntmps66;go_wp2;go_loopw [5,8] (fun _ i wr => ∃ k:Nat,k<=xs.length/\i = .int .i64 k/\(∀ x∈xs.take k,p x=false)/\Ext w wr) (fun _ i _=>xs.length - (intOf i).toNat)
 case atStart=>exact⟨0,Nat.zero_le _,rfl,by simp,.refl _⟩
 case round =>
  obtain⟨k,hk,rfl,he,hq⟩:=hrel;have HE:=zh he;have HQ:=zh hq;clear he hq;by_cases hlt:k < xs.length
  ·skip
   obtain⟨b,o,x,rfl,hb,hx1,hc0,hc1,hc2,hr0,hr1,hv⟩:=(H.out.ext HQ.out).atWindow k hlt;have hcx:=zh (HC.out wr _ x HQ.out (List.mem_of_getElem? hx1.out) hv.out);clear H HC;go_wp2_with fail
   refine hcx.out.mono ?_;rintro e w2 ⟨rfl,he2⟩;have HE2:=zh (HQ.out.tr he2);clear he2;by_cases hp:p x=true
   ·have HN:=zh (zD1 HE.out hx1.out hp);go_wp2;go_ret;exact⟨zF4 HN.out.symm,HE2.out⟩
   ·rw[Bool.not_eq_true] at hp;go_wp2;go_roundw
    case rel =>
     refine⟨k+1,by omega,by go_num,?_,HE2.out⟩
     rw[zAd hx1.out];intro y hy;rcases List.mem_append.1 hy with hy|hy
     ·exact HE.out y hy
     ·rw[List.mem_singleton] at hy;subst hy;exact hp
    case measure=>simp[intOf];omega
  ·obtain rfl:k=xs.length:=by omega
   have HN:=zh (zBr (p:=p) (xs:=xs) (by have:=HE.out;rwa [List.take_length] at this))
   clear H HC;go_wp2;go_ret;exact⟨zF4 HN.out.symm,HQ.out⟩
theorem zIv(g:Nat)(caps:Array Value)(p:Window->Bool)(v:Value)(xs:List Window)(w:World)(h:Rs w v xs)(hg:∀ ar u,(callFunc g ar).run Tryz.prog u = .ok (.enter g ar) u)
  (hc:∀ (w1:World) (v:Value) (x:Window),Ext w w1->x∈xs->Rv w1 v x->Calls Tryz.prog g (#[v]++caps) w1 fun e w2=>e = .returned (.bool (p x))/\Ext w1 w2) :
  Calls Tryz.prog 103 #[v,.func (.func g) #[] caps] w fun e w'=>e = .returned (.bool (xs.any p))/\Ext w w':=by
 have HX:=zh (zGh g caps p v xs w h hg hc);clear hc hg h;go_enter Tryz.func103,Tryz.ntmps103;go_wp2_with fail
 refine HX.out.mono ?_;rintro e w2 ⟨rfl,he2⟩;have HE:=zh he2;have HN:=zh (zCd (p:=p) (xs:=xs));clear he2
 generalize zCl p xs=i at *
 go_wp2;go_ret;exact⟨zA1 HN.out,HE.out⟩
theorem idx_Part(g:Nat)(caps:Array Value)(p:Part->Bool)(v:Value)(xs:List Part)(w:World)(h:Rs w v xs)(hg:∀ ar u,(callFunc g ar).run Tryz.prog u = .ok (.enter g ar) u)
  (hc:∀ (w1:World) (v:Value) (x:Part),Ext w w1->x∈xs->Rv w1 v x->Calls Tryz.prog g (#[v]++caps) w1 fun e w2=>e = .returned (.bool (p x))/\Ext w1 w2) :
  Calls Tryz.prog 145 #[v,.func (.func g) #[] caps] w fun e w'=>e = .returned (.int .i64 (zCl p xs))/\Ext w w':=by
 obtain⟨a,c,rfl,hl⟩:=h.form;have H:=zh h;have HC:=zh hc;clear h hc;go_enter Tryz.func145,Tryz.ntmps145;go_wp2;go_loopw [5,8] (fun _ i wr => ∃ k:Nat,k<=xs.length/\i = .int .i64 k/\(∀ x∈xs.take k,p x=false)/\Ext w wr) (fun _ i _=>xs.length - (intOf i).toNat)
 case atStart=>exact⟨0,Nat.zero_le _,rfl,by simp,.refl _⟩
 case round =>
  obtain⟨k,hk,rfl,he,hq⟩:=hrel;have HE:=zh he;have HQ:=zh hq;clear he hq;by_cases hlt:k < xs.length
  ·skip
   obtain⟨b,o,x,a0,c0,rfl,hb,hx1,hc0,hc1,hr1,hs0,hl0,hv⟩:=(H.out.ext HQ.out).atPart k hlt;have hcx:=zh (HC.out wr _ x HQ.out (List.mem_of_getElem? hx1.out) hv.out);clear H HC;go_wp2_with fail
   refine hcx.out.mono ?_;rintro e w2 ⟨rfl,he2⟩;have HE2:=zh (HQ.out.tr he2);clear he2;by_cases hp:p x=true
   ·have HN:=zh (zD1 HE.out hx1.out hp);go_wp2;go_ret;exact⟨zF4 HN.out.symm,HE2.out⟩
   ·rw[Bool.not_eq_true] at hp;go_wp2;go_roundw
    case rel =>
     refine⟨k+1,by omega,by go_num,?_,HE2.out⟩
     rw[zAd hx1.out];intro y hy;rcases List.mem_append.1 hy with hy|hy
     ·exact HE.out y hy
     ·rw[List.mem_singleton] at hy;subst hy;exact hp
    case measure=>simp[intOf];omega
  ·obtain rfl:k=xs.length:=by omega
   have HN:=zh (zBr (p:=p) (xs:=xs) (by have:=HE.out;rwa [List.take_length] at this))
   clear H HC;go_wp2;go_ret;exact⟨zF4 HN.out.symm,HQ.out⟩
theorem has_Part(g:Nat)(caps:Array Value)(p:Part->Bool)(v:Value)(xs:List Part)(w:World)(h:Rs w v xs)(hg:∀ ar u,(callFunc g ar).run Tryz.prog u = .ok (.enter g ar) u)
  (hc:∀ (w1:World) (v:Value) (x:Part),Ext w w1->x∈xs->Rv w1 v x->Calls Tryz.prog g (#[v]++caps) w1 fun e w2=>e = .returned (.bool (p x))/\Ext w1 w2) :
  Calls Tryz.prog 124 #[v,.func (.func g) #[] caps] w fun e w'=>e = .returned (.bool (xs.any p))/\Ext w w':=by
 have HX:=zh (idx_Part g caps p v xs w h hg hc);clear hc hg h;go_enter Tryz.func124,Tryz.ntmps124;go_wp2_with fail
 refine HX.out.mono ?_;rintro e w2 ⟨rfl,he2⟩;have HE:=zh he2;have HN:=zh (zCd (p:=p) (xs:=xs));clear he2
 generalize zCl p xs=i at *
 go_wp2;go_ret;exact⟨zA1 HN.out,HE.out⟩
theorem zI0(g:Nat)(caps:Array Value)(p:Channel->Bool)(v:Value)(xs:List Channel)(w:World)(h:Rs w v xs)(hg:∀ ar u,(callFunc g ar).run Tryz.prog u = .ok (.enter g ar) u)
  (hc:∀ (w1:World) (v:Value) (x:Channel),Ext w w1->x∈xs->Rv w1 v x->Calls Tryz.prog g (#[v]++caps) w1 fun e w2=>e = .returned (.bool (p x))/\Ext w1 w2) :
  Calls Tryz.prog 146 #[v,.func (.func g) #[] caps] w fun e w'=>e = .returned (.int .i64 (zCl p xs))/\Ext w w':=by
 obtain⟨a,c,rfl,hl⟩:=h.form;have H:=zh h;have HC:=zh hc;clear h hc;go_enter Tryz.func146,Tryz.ntmps146;go_wp2;go_loopw [5,8] (fun _ i wr => ∃ k:Nat,k<=xs.length/\i = .int .i64 k/\(∀ x∈xs.take k,p x=false)/\Ext w wr) (fun _ i _=>xs.length - (intOf i).toNat)
 case atStart=>exact⟨0,Nat.zero_le _,rfl,by simp,.refl _⟩
 case round =>
  obtain⟨k,hk,rfl,he,hq⟩:=hrel;have HE:=zh he;have HQ:=zh hq;clear he hq;by_cases hlt:k < xs.length
  ·skip
   obtain⟨b,o,x,rfl,hb,hx1,hc0,hc1,hc2,hc3,hr0,hr1,hr2,hr3,hv⟩:=(H.out.ext HQ.out).atChannel k hlt;have hcx:=zh (HC.out wr _ x HQ.out (List.mem_of_getElem? hx1.out) hv.out);clear H HC;go_wp2_with fail
   refine hcx.out.mono ?_;rintro e w2 ⟨rfl,he2⟩;have HE2:=zh (HQ.out.tr he2);clear he2;by_cases hp:p x=true
   ·have HN:=zh (zD1 HE.out hx1.out hp);go_wp2;go_ret;exact⟨zF4 HN.out.symm,HE2.out⟩
   ·rw[Bool.not_eq_true] at hp;go_wp2;go_roundw
    case rel =>
     refine⟨k+1,by omega,by go_num,?_,HE2.out⟩
     rw[zAd hx1.out];intro y hy;rcases List.mem_append.1 hy with hy|hy
     ·exact HE.out y hy
     ·rw[List.mem_singleton] at hy;subst hy;exact hp
    case measure=>simp[intOf];omega
  ·obtain rfl:k=xs.length:=by omega
   have HN:=zh (zBr (p:=p) (xs:=xs) (by have:=HE.out;rwa [List.take_length] at this))
   clear H HC;go_wp2;go_ret;exact⟨zF4 HN.out.symm,HQ.out⟩
theorem zHz(g:Nat)(caps:Array Value)(p:Channel->Bool)(v:Value)(xs:List Channel)(w:World)(h:Rs w v xs)(hg:∀ ar u,(callFunc g ar).run Tryz.prog u = .ok (.enter g ar) u)
  (hc:∀ (w1:World) (v:Value) (x:Channel),Ext w w1->x∈xs->Rv w1 v x->Calls Tryz.prog g (#[v]++caps) w1 fun e w2=>e = .returned (.bool (p x))/\Ext w1 w2) :
  Calls Tryz.prog 126 #[v,.func (.func g) #[] caps] w fun e w'=>e = .returned (.bool (xs.any p))/\Ext w w':=by
 have HX:=zh (zI0 g caps p v xs w h hg hc);clear hc hg h;go_enter Tryz.func126,Tryz.ntmps126;go_wp2_with fail
 refine HX.out.mono ?_;rintro e w2 ⟨rfl,he2⟩;have HE:=zh he2;have HN:=zh (zCd (p:=p) (xs:=xs));clear he2
 generalize zCl p xs=i at *
 go_wp2;go_ret;exact⟨zA1 HN.out,HE.out⟩
theorem idx_Slot(g:Nat)(caps:Array Value)(p:Slot->Bool)(v:Value)(xs:List Slot)(w:World)(h:Rs w v xs)(hg:∀ ar u,(callFunc g ar).run Tryz.prog u = .ok (.enter g ar) u)
  (hc:∀ (w1:World) (v:Value) (x:Slot),Ext w w1->x∈xs->Rv w1 v x->Calls Tryz.prog g (#[v]++caps) w1 fun e w2=>e = .returned (.bool (p x))/\Ext w1 w2) :
  Calls Tryz.prog 121 #[v,.func (.func g) #[] caps] w fun e w'=>e = .returned (.int .i64 (zCl p xs))/\Ext w w':=by
 obtain⟨a,c,rfl,hl⟩:=h.form;have H:=zh h;have HC:=zh hc;clear h hc;go_enter Tryz.func121,Tryz.ntmps121;go_wp2;go_loopw [5,8] (fun _ i wr => ∃ k:Nat,k<=xs.length/\i = .int .i64 k/\(∀ x∈xs.take k,p x=false)/\Ext w wr) (fun _ i _=>xs.length - (intOf i).toNat)
 case atStart=>exact⟨0,Nat.zero_le _,rfl,by simp,.refl _⟩
 case round =>
  obtain⟨k,hk,rfl,he,hq⟩:=hrel;have HE:=zh he;have HQ:=zh hq;clear he hq;by_cases hlt:k < xs.length
  ·skip
   obtain⟨b,o,x,rfl,hb,hx1,hc0,hc1,hr0,hr1,hv⟩:=(H.out.ext HQ.out).atSlot k hlt;have hcx:=zh (HC.out wr _ x HQ.out (List.mem_of_getElem? hx1.out) hv.out);clear H HC;go_wp2_with fail
   refine hcx.out.mono ?_;rintro e w2 ⟨rfl,he2⟩;have HE2:=zh (HQ.out.tr he2);clear he2;by_cases hp:p x=true
   ·have HN:=zh (zD1 HE.out hx1.out hp);go_wp2;go_ret;exact⟨zF4 HN.out.symm,HE2.out⟩
   ·rw[Bool.not_eq_true] at hp;go_wp2;go_roundw
    case rel =>
     refine⟨k+1,by omega,by go_num,?_,HE2.out⟩
     rw[zAd hx1.out];intro y hy;rcases List.mem_append.1 hy with hy|hy
     ·exact HE.out y hy
     ·rw[List.mem_singleton] at hy;subst hy;exact hp
    case measure=>simp[intOf];omega
  ·obtain rfl:k=xs.length:=by omega
   have HN:=zh (zBr (p:=p) (xs:=xs) (by have:=HE.out;rwa [List.take_length] at this))
   clear H HC;go_wp2;go_ret;exact⟨zF4 HN.out.symm,HQ.out⟩
theorem has_Slot(g:Nat)(caps:Array Value)(p:Slot->Bool)(v:Value)(xs:List Slot)(w:World)(h:Rs w v xs)(hg:∀ ar u,(callFunc g ar).run Tryz.prog u = .ok (.enter g ar) u)
  (hc:∀ (w1:World) (v:Value) (x:Slot),Ext w w1->x∈xs->Rv w1 v x->Calls Tryz.prog g (#[v]++caps) w1 fun e w2=>e = .returned (.bool (p x))/\Ext w1 w2) :
  Calls Tryz.prog 82 #[v,.func (.func g) #[] caps] w fun e w'=>e = .returned (.bool (xs.any p))/\Ext w w':=by
 have HX:=zh (idx_Slot g caps p v xs w h hg hc);clear hc hg h;go_enter Tryz.func82,Tryz.ntmps82;go_wp2_with fail
 refine HX.out.mono ?_;rintro e w2 ⟨rfl,he2⟩;have HE:=zh he2;have HN:=zh (zCd (p:=p) (xs:=xs));clear he2
 generalize zCl p xs=i at *
 go_wp2;go_ret;exact⟨zA1 HN.out,HE.out⟩
theorem zJl(g:Nat)(caps:Array Value)(p:Order->Bool)(v:Value)(xs:List Order)(w:World)(h:Rs w v xs)(hg:∀ ar u,(callFunc g ar).run Tryz.prog u = .ok (.enter g ar) u)
  (hc:∀ (w1:World) (v:Value) (x:Order),Ext w w1->x∈xs->Rv w1 v x->Calls Tryz.prog g (#[v]++caps) w1 fun e w2=>e = .returned (.bool (p x))/\Ext w1 w2) :
  Calls Tryz.prog 109 #[v,.func (.func g) #[] caps] w fun e w'=>e = .returned (.int .i64 (zCl p xs))/\Ext w w':=by
 obtain⟨a,c,rfl,hl⟩:=h.form;have H:=zh h;have HC:=zh hc;clear h hc;go_enter Tryz.func109,Tryz.ntmps109;go_wp2;go_loopw [5,8] (fun _ i wr => ∃ k:Nat,k<=xs.length/\i = .int .i64 k/\(∀ x∈xs.take k,p x=false)/\Ext w wr) (fun _ i _=>xs.length - (intOf i).toNat)
 case atStart=>exact⟨0,Nat.zero_le _,rfl,by simp,.refl _⟩
 case round =>
  obtain⟨k,hk,rfl,he,hq⟩:=hrel;have HE:=zh he;have HQ:=zh hq;clear he hq;by_cases hlt:k < xs.length
  ·skip
   obtain⟨b,o,x,rfl,hb,hx1,hc0,hc1,hc2,hr0,hr1,hr2,hv⟩:=(H.out.ext HQ.out).atOrder k hlt;have hcx:=zh (HC.out wr _ x HQ.out (List.mem_of_getElem? hx1.out) hv.out);clear H HC;go_wp2_with fail
   refine hcx.out.mono ?_;rintro e w2 ⟨rfl,he2⟩;have HE2:=zh (HQ.out.tr he2);clear he2;by_cases hp:p x=true
   ·have HN:=zh (zD1 HE.out hx1.out hp);go_wp2;go_ret;exact⟨zF4 HN.out.symm,HE2.out⟩
   ·rw[Bool.not_eq_true] at hp;go_wp2;go_roundw
    case rel =>
     refine⟨k+1,by omega,by go_num,?_,HE2.out⟩
     rw[zAd hx1.out];intro y hy;rcases List.mem_append.1 hy with hy|hy
     ·exact HE.out y hy
     ·rw[List.mem_singleton] at hy;subst hy;exact hp
    case measure=>simp[intOf];omega
  ·obtain rfl:k=xs.length:=by omega
   have HN:=zh (zBr (p:=p) (xs:=xs) (by have:=HE.out;rwa [List.take_length] at this))
   clear H HC;go_wp2;go_ret;exact⟨zF4 HN.out.symm,HQ.out⟩
theorem zJj(g:Nat)(caps:Array Value)(p:Order->Bool)(v:Value)(xs:List Order)(w:World)(h:Rs w v xs)(hg:∀ ar u,(callFunc g ar).run Tryz.prog u = .ok (.enter g ar) u)
  (hc:∀ (w1:World) (v:Value) (x:Order),Ext w w1->x∈xs->Rv w1 v x->Calls Tryz.prog g (#[v]++caps) w1 fun e w2=>e = .returned (.bool (p x))/\Ext w1 w2) :
  Calls Tryz.prog 77 #[v,.func (.func g) #[] caps] w fun e w'=>e = .returned (.bool (xs.any p))/\Ext w w':=by
 have HX:=zh (zJl g caps p v xs w h hg hc);clear hc hg h;go_enter Tryz.func77,Tryz.ntmps77;go_wp2_with fail
 refine HX.out.mono ?_;rintro e w2 ⟨rfl,he2⟩;have HE:=zh he2;have HN:=zh (zCd (p:=p) (xs:=xs));clear he2
 generalize zCl p xs=i at *
 go_wp2;go_ret;exact⟨zA1 HN.out,HE.out⟩
theorem idx_int(g:Nat)(caps:Array Value)(p:Int->Bool)(v:Value)(xs:List Int)(w:World)(h:Rs w v xs)(hg:∀ ar u,(callFunc g ar).run Tryz.prog u = .ok (.enter g ar) u)
  (hc:∀ (w1:World) (x:Int),Ext w w1->x∈xs->rng x->Calls Tryz.prog g (#[.int .i64 x]++caps) w1 fun e w2=>e = .returned (.bool (p x))/\Ext w1 w2) :
  Calls Tryz.prog 106 #[v,.func (.func g) #[] caps] w fun e w'=>e = .returned (.int .i64 (zCl p xs))/\Ext w w':=by
 obtain⟨a,c,rfl,hl⟩:=h.form;have H:=zh h;have HC:=zh hc;clear h hc;go_enter Tryz.func106,Tryz.ntmps106;go_wp2;go_loopw [5,8] (fun _ i wr => ∃ k:Nat,k<=xs.length/\i = .int .i64 k/\(∀ x∈xs.take k,p x=false)/\Ext w wr) (fun _ i _=>xs.length - (intOf i).toNat)
 case atStart=>exact⟨0,Nat.zero_le _,rfl,by simp,.refl _⟩
 case round =>
  obtain⟨k,hk,rfl,he,hq⟩:=hrel;have HE:=zh he;have HQ:=zh hq;clear he hq;by_cases hlt:k < xs.length
  ·skip
   obtain⟨b,o,x,rfl,hb,hx1,hc0,hr0⟩:=(H.out.ext HQ.out).atInt k hlt;have hcx:=zh (HC.out wr x HQ.out (List.mem_of_getElem? hx1.out) hr0);clear H HC;go_wp2_with fail
   refine hcx.out.mono ?_;rintro e w2 ⟨rfl,he2⟩;have HE2:=zh (HQ.out.tr he2);clear he2;by_cases hp:p x=true
   ·have HN:=zh (zD1 HE.out hx1.out hp);go_wp2;go_ret;exact⟨zF4 HN.out.symm,HE2.out⟩
   ·rw[Bool.not_eq_true] at hp;go_wp2;go_roundw
    case rel =>
     refine⟨k+1,by omega,by go_num,?_,HE2.out⟩
     rw[zAd hx1.out];intro y hy;rcases List.mem_append.1 hy with hy|hy
     ·exact HE.out y hy
     ·rw[List.mem_singleton] at hy;subst hy;exact hp
    case measure=>simp[intOf];omega
  ·obtain rfl:k=xs.length:=by omega
   have HN:=zh (zBr (p:=p) (xs:=xs) (by have:=HE.out;rwa [List.take_length] at this))
   clear H HC;go_wp2;go_ret;exact⟨zF4 HN.out.symm,HQ.out⟩
theorem zJk(g:Nat)(caps:Array Value)(p:Int->Bool)(v:Value)(xs:List Int)(w:World)(h:Rs w v xs)(hg:∀ ar u,(callFunc g ar).run Tryz.prog u = .ok (.enter g ar) u)
  (hc:∀ (w1:World) (x:Int),Ext w w1->x∈xs->rng x->Calls Tryz.prog g (#[.int .i64 x]++caps) w1 fun e w2=>e = .returned (.bool (p x))/\Ext w1 w2) :
  Calls Tryz.prog 69 #[v,.func (.func g) #[] caps] w fun e w'=>e = .returned (.bool (xs.any p))/\Ext w w':=by
 have HX:=zh (idx_int g caps p v xs w h hg hc);clear hc hg h;go_enter Tryz.func69,Tryz.ntmps69;go_wp2_with fail
 refine HX.out.mono ?_;rintro e w2 ⟨rfl,he2⟩;have HE:=zh he2;have HN:=zh (zCd (p:=p) (xs:=xs));clear he2
 generalize zCl p xs=i at *
 go_wp2;go_ret;exact⟨zA1 HN.out,HE.out⟩
end Sk
