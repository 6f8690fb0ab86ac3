/- Contracts of functions of the given program. -/
import Derived.Test.YtbhedbaafflndaaZzzztPcM
import Derived.Test.YtbhedbaafflndaaZzzzsDpc
import Derived.Test.YtbhedbaafflndaaAlive
import Derived.Test.YtbhedbaafflndaaDrawPol
namespace Sk
open Go Go.Proofs Go.RowKit
set_option maxHeartbeats 8000000
set_option maxRecDepth 100000
set_option linter.unusedVariables false
set_option linter.unusedSimpArgs false
theorem zB5(v:Value)(xs:List By)(w:World)(h:Rs w v xs) :
  Calls Try.prog 3 #[v] w fun e w'=>e = .returned (.bool true)/\Ext w w':=by
 obtain⟨a,c,rfl,hl⟩:=h.form;have H:=zh h;clear h;by_cases hx:xs.length<=1048576
 case neg =>
  have hx2:1048576 < xs.length:=by omega
  clear hx;go_enter Try.func3,Try.ntmps3;go_wp2;go_ret;exact⟨rfl,zr w⟩
 go_enter Try.func3,Try.ntmps3;go_upto_region 4 with (go_at_call 4;refine(zAn _ _ _ H.out).mono ?_;rintro e w1 ⟨v1,ys,z,s,rfl,hv,hl21,he⟩;obtain⟨a1,c1,rfl,-⟩:=hv.form;have HV:=zh hv;have HE:=zh he;clear hv he)
 clear H;obtain⟨l,hl⟩:∃ l,zAs ys z s=l:=⟨_,rfl⟩;have HCI:=zh (zAg _ ys z s _ HV.out);have HCS:=zh (fun(u:World) (h:Rs u (.slice a1 ys.length c1) ys)=>zAv _ ys z s u h)
 rw[M.pch_eq,hl] at HCI;rw[hl] at HCS;have HAT:Hid (∀ (k:Nat) (n:Int),l[k]? = some n->∃ j:Nat,n=(j:Int)/\j < 8/\ys.any (zB1 s j)=true):=zh (fun k n h=>M.pcs_at (c:=z) (by rw[hl];exact h))
 have HLT:Hid (∀ (i k:Nat) (m n:Int),l[i]? = some m->l[k]? = some n->i < k->m < n):=zh (fun i k m n h1 h2 h=>M.pcs_lt (xs:=ys) (c:=z) (s:=s) (by rw[hl];exact h1) (by rw[hl];exact h2) h)
 have hl8:l.length<=8:=by rw[<- hl];exact zCk ys z s
 clear hl;go_upto_region 5 with (go_at_call 5;refine HCI.out.mono ?_;rintro e w2 ⟨v2,rfl,ho,he⟩;obtain⟨a2,c2,rfl,-⟩:=ho.rs.form;have HR:=zh ho.rs;have E:=zh he;clear ho he)
 clear HCI;replace HV:=zh (HV.out.ext E.out);replace HE:=zh (HE.out.tr E.out);replace E:=zh (zr w2);go_upto_region 7 with (first
  | (go_at_call 7;refine(HCS.out _ (HV.out.ext E.out)).mono ?_;rintro e w3 ⟨v3,rfl,ho,he⟩;have HR3:=zh ho.rs;replace E:=zh (E.out.tr he);clear ho he)
  | (go_at_call 6;refine(law_sameInts _ _ l l _ (HR.out.ext E.out) HR3.out).mono ?_;rintro e w4 ⟨rfl,he⟩;rw[Eqb.t rfl];replace E:=zh (E.out.tr he);clear he))
 clear HCS HR3;go_wp2;go_loopw [7] (fun i wr => ∃ k:Nat,k<=l.length/\i = .int .i64 k/\Ext w2 wr) (fun i _=>l.length - (RowKit.intOf i).toNat)
 case atStart=>exact⟨0,Nat.zero_le _,rfl,E.out⟩
 case round =>
  obtain⟨k,hk,rfl,er⟩:=hrel;replace E:=zh er;clear er;by_cases hkt:k < l.length
  ·obtain⟨b2,o2,n0,rfl,hb2,hx2,hc2,hr2⟩:=(HR.out.ext E.out).atInt k hkt;obtain⟨n,rfl,hn8,han⟩:=HAT.out k n0 hx2.out;have HAN:=zh han;clear han;have hki:(k:Int) < (l.length:Int):=by omega
   go_wp2;go_loopw [8,9] (fun fd i wr => ∃ j:Nat,j<=ys.length/\i = .int .i64 j/\fd = .bool ((ys.take j).any (zB1 s n))/\Ext w2 wr) (fun _ i _=>ys.length - (RowKit.intOf i).toNat)
   case atStart=>exact⟨0,Nat.zero_le _,rfl,by simp,E.out⟩
   case round =>
    obtain⟨j,hj,rfl,rfl,er⟩:=hrel;have E2:=zh er;clear er hc2 hb2;obtain⟨b2',o2',n0',e2,hb2,hx2',hc2,hr2'⟩:=(HR.out.ext E2.out).atInt k hkt;cases e2;obtain rfl:(n:Int)=n0':=Option.some.inj (hx2.out.symm.trans hx2'.out);clear hx2';by_cases hjt:j < ys.length
    ·obtain⟨b1,o1,x,rfl,hb1,hx1,hd0,hd1,hd2,hr0,hr1,hr3,hv1⟩:=(HV.out.ext E2.out).atOrder j hjt;have HN:=zh (zAq (zB1 s n) hx1.out);have hji:(j:Int) < (ys.length:Int):=by omega
     cases s with
     | true =>
      cases hf:(ys.take j).any (zB1 true n)
      ·by_cases hA:x.A=n
       ·have gA:(x.A == (n:Int))=true:=by rw[hA];exact beq_self_eq_true _
        by_cases hO:x.Op=5
        ·have gO:(x.Op == 5)=true:=by rw[hO];rfl
         go_upto_region 14 with (fail)
         go_big_quiet (fail)
         go_wp2;go_roundw
         case rel=>exact⟨j+1,by omega,by go_num,by rw[HN.out,hf];simp[zB1,hA,hO,zAx],E2.out.drewN _⟩
         case measure=>simp[RowKit.intOf];omega
        ·have gO:(x.Op == 5)=false:=by rw[beq_eq_false_iff_ne];exact hO
         go_upto_region 14 with (fail)
         go_big_quiet (fail)
         go_wp2;go_roundw
         case rel=>exact⟨j+1,by omega,by go_num,by rw[HN.out,hf];simp[zB1,hO,zAx],E2.out.drewN _⟩
         case measure=>simp[RowKit.intOf];omega
       ·have gA:(x.A == (n:Int))=false:=by rw[beq_eq_false_iff_ne];exact hA
        go_upto_region 14 with (fail)
        go_big_quiet (fail)
        go_wp2;go_roundw
        case rel=>exact⟨j+1,by omega,by go_num,by rw[HN.out,hf];simp[zB1,hA],E2.out.drewN _⟩
        case measure=>simp[RowKit.intOf];omega
      ·go_upto_region 14 with (fail)
       go_big_quiet (fail)
       go_wp2;go_roundw
       case rel=>exact⟨j+1,by omega,by go_num,by rw[HN.out,hf];rfl,E2.out.drewN _⟩
       case measure=>simp[RowKit.intOf];omega
     | false =>
      cases hf:(ys.take j).any (zB1 false n)
      ·by_cases hA:x.A=n
       ·have gA:(x.A == (n:Int))=true:=by rw[hA];exact beq_self_eq_true _
        by_cases hO:x.Op=6
        ·have gO:(x.Op == 6)=true:=by rw[hO];rfl
         go_upto_region 14 with (fail)
         go_big_quiet (fail)
         go_wp2;go_roundw
         case rel=>exact⟨j+1,by omega,by go_num,by rw[HN.out,hf];simp[zB1,hA,hO,zAx],E2.out.drewN _⟩
         case measure=>simp[RowKit.intOf];omega
        ·have gO:(x.Op == 6)=false:=by rw[beq_eq_false_iff_ne];exact hO
         go_upto_region 14 with (fail)
         go_big_quiet (fail)
         go_wp2;go_roundw
         case rel=>exact⟨j+1,by omega,by go_num,by rw[HN.out,hf];simp[zB1,hO,zAx],E2.out.drewN _⟩
         case measure=>simp[RowKit.intOf];omega
       ·have gA:(x.A == (n:Int))=false:=by rw[beq_eq_false_iff_ne];exact hA
        go_upto_region 14 with (fail)
        go_big_quiet (fail)
        go_wp2;go_roundw
        case rel=>exact⟨j+1,by omega,by go_num,by rw[HN.out,hf];simp[zB1,hA],E2.out.drewN _⟩
        case measure=>simp[RowKit.intOf];omega
      ·go_upto_region 14 with (fail)
       go_big_quiet (fail)
       go_wp2;go_roundw
       case rel=>exact⟨j+1,by omega,by go_num,by rw[HN.out,hf];rfl,E2.out.drewN _⟩
       case measure=>simp[RowKit.intOf];omega
    ·obtain rfl:j=ys.length:=by omega
     rw[List.take_length,HAN.out];replace E:=zh E2.out;clear E2;by_cases hk0:k=0
     ·subst hk0;have g3:decide ((0:Int) < ((0:Nat):Int))=false:=rfl;go_upto_region 15 with (fail)
      go_big_quiet (fail)
      go_wp2;go_roundw
      case rel=>exact⟨0+1,by omega,by go_num,E.out.drewN _⟩
      case measure=>simp[RowKit.intOf];omega
     ·obtain⟨k2,rfl⟩:∃ k2,k=k2+1:=⟨k - 1,by omega⟩
      obtain⟨b3,o3,n3,e3,hb3,hx3,hc3,hr3⟩:=(HR.out.ext E.out).atInt k2 (by omega)
      cases e3;have hlt:=HLT.out k2 (k2+1) n3 n hx3.out hx2.out (by omega)
      have g3:decide ((0:Int) < ((k2+1:Nat):Int))=true:=decide_eq_true (by omega)
      have g4:decide ((n:Int)<=n3)=false:=decide_eq_false (by omega)
      go_upto_region 15 with (fail)
      go_big_quiet (fail)
      go_wp2;go_roundw
      case rel=>exact⟨k2+1+1,by omega,by go_num,E.out.drewN _⟩
      case measure=>simp[RowKit.intOf];omega
  ·obtain rfl:k=l.length:=by omega
   clear HAT HLT;go_wp2;go_loopw [10,11] (fun qq i wr => ∃ (k:Nat) (ao:Option Addr) (no co:Nat),k<=ys.length/\i = .int .i64 k/\qq = .slice ao no co/\Oa (α:=Order) 30 w2.heap.size wr (.slice ao no co) (List.replicate k ⟨0,0,0⟩) []/\Ext w2 wr) (fun _ i _=>ys.length - (RowKit.intOf i).toNat)
   case atStart=>exact⟨0,_,_,_,Nat.zero_le _,rfl,rfl,(Oa.lit0 30 _).mono E.out.sz,E.out.alloc _⟩
   case round =>
    obtain⟨k,ao,no,co,hk2,rfl,rfl,ho,er⟩:=hrel;replace E:=zh er;have HO:=zh ho;clear er ho;by_cases hkt2:k < ys.length
    ·go_wp2_with (at_builtin;refine zBn (α:=Order) rfl _ _ 23 rfl 30 Try.underlying23 zCn (v:=.slice ao no co) (ys:=[⟨0,0,0⟩]) rfl (HO.out.ext ((zr _).alloc _)) rfl rfl (Row.lit1 (cs:=[_,_,_]) ⟨rfl,zAa,zAa,zAa,rfl⟩) (by omega) (by simp) (by simp;omega) (by have:=E.out.sz;simp;omega) ?_;intro v5 w5 hO5 hg5;have HO5:=zh hO5;have HE5:=zh ((E.out.alloc _).grown hg5 (fun k hk=>HO.out.own k hk));obtain⟨p5,q5,rfl,_⟩:=hO5.form;clear hO5 hg5)
     go_roundw
     case rel=>exact⟨k+1,_,_,_,by omega,by go_num,rfl,by rw[List.replicate_succ'];simpa using HO5.out,HE5.out⟩
     case measure=>simp[RowKit.intOf];omega
    ·obtain rfl:k=ys.length:=by omega
     have HQ:=zh (zAg _ (List.replicate ys.length ⟨0,0,0⟩) 1 s _ HO.out.osF.rs);rw[zC7] at HQ
     go_wp2_with (first
      | (go_at_call 5;refine HQ.out.mono ?_;rintro e w5 ⟨v5,rfl,ho,he⟩;obtain⟨a5,c5,rfl,-⟩:=ho.rs.form;replace E:=zh (E.out.tr he);clear ho he)
      | (go_at_call 8;refine(law_alive _).mono ?_;rintro e w9 ⟨rfl,he⟩;replace E:=zh (E.out.tr he);clear he))
     go_ret;exact⟨rfl,HE.out.tr E.out⟩
end Sk
