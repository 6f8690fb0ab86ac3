/- Contracts of functions of the given program. -/
import Derived.Test.YtbhedbaafflndaaZzzzqPch
import Derived.Test.YtbhedbaafflndaaFlow
namespace Sk
open Go Go.Proofs Go.RowKit
set_option maxHeartbeats 4000000
set_option maxRecDepth 100000
set_option linter.unusedVariables false
set_option linter.unusedSimpArgs false
def zB1(s:Bool)(n:Nat)(x:Order):Bool:=x.A == (n:Int) && x.Op == zAx s
def zBc(xs:List Order)(s:Bool)(n:Nat):List Int:=((List.range n).filter fun j=>xs.any (zB1 s j)).map Int.ofNat
def zAs(xs:List Order)(c:Int)(s:Bool):List Int:=if zAd xs c then zBc xs s 8 else []
theorem zBs(xs:List Order)(s:Bool)(n:Nat):zBc xs s (n+1)=zBc xs s n++if xs.any (zB1 s n) then [(n:Int)] else []:=by
 unfold zBc;rw[List.range_succ,List.filter_append,List.map_append];by_cases h:xs.any (zB1 s n)=true
 ·simp[h]
 ·simp only[Bool.not_eq_true] at h;simp[h]
theorem zBh(xs:List Order)(s:Bool)(n:Nat):(zBc xs s n).length<=n:=by
 unfold zBc;rw[List.length_map];exact Nat.le_trans (List.length_filter_le _ _) (by simp)
theorem zCv(v:Value)(xs:List Order)(c:Int)(w:World)(h:Rs w v xs) :
  Calls Try.prog 7 #[v,.int .i64 c,.bool true] w fun e w' => ∃ v',e = .returned v'/\Os w.heap.size w' v' (zAs xs c true)/\Ext w w':=by
 have H:=zh h;obtain⟨a,cp,rfl,hl⟩:=h.form;clear h;go_enter Try.func7,Try.ntmps7;go_wp2;go_loopw [7,8] (fun out i wr => ∃ (n:Nat) (ao:Option Addr) (no co:Nat),n<=8/\i = .int .i64 n/\out = .slice ao no co/\(0 < n->zAd xs c=true)/\Oa (α:=Int) 3 w.heap.size wr (.slice ao no co) (zBc xs true n) []/\Ext w wr) (fun _ i _=>8 - (RowKit.intOf i).toNat)
 case atStart=>exact⟨0,_,_,_,Nat.zero_le _,rfl,rfl,fun h=>absurd h (Nat.lt_irrefl _),Oa.lit0 3 w,(zr w).alloc _⟩
 case round =>
  obtain⟨n,ao,no,co,hn,rfl,rfl,hpv,ho,hq⟩:=hrel;have HO:=zh ho;have HQ:=zh hq;have HV:=zh hpv;clear ho hq hpv;by_cases hn8:n < 8
  ·cases g0:zAd xs c with
   | false =>
    have hn0:n=0:=by rcases Nat.eq_zero_or_pos n with h|h;exact h;rw[HV.out h] at g0;cases g0
    subst hn0;go_wp2_with (go_at_call 16;refine(zA9 _ xs c _ (H.out.ext HQ.out)).mono ?_;rintro e w1 ⟨rfl,he⟩;rw[g0];have HE1:=zh he;clear he)
    go_ret;exact⟨_,rfl,by rw[zAs,g0];exact(HO.out.ext HE1.out).osF,HQ.out.tr HE1.out⟩
   | true =>
    go_wp2_with (go_at_call 16;refine(zA9 _ xs c _ (H.out.ext HQ.out)).mono ?_;rintro e w1 ⟨rfl,he⟩;rw[g0];replace HO:=zh (HO.out.ext he);replace HQ:=zh (HQ.out.tr he);clear he)
    obtain⟨wq,rfl⟩:∃ wq:World,wq=w1:=⟨_,rfl⟩;go_loopw [9,10] (fun fd i wr => ∃ k:Nat,k<=xs.length/\i = .int .i64 k/\fd = .bool ((xs.take k).any (zB1 true n))/\wr=wq) (fun _ i _=>xs.length - (RowKit.intOf i).toNat)
    case atStart=>exact⟨0,Nat.zero_le _,rfl,by simp,rfl⟩
    case round =>
     obtain⟨k,hk,rfl,rfl,hww⟩:=hrel;obtain rfl:wq=wr:=hww.symm;by_cases hlt:k < xs.length
     ·obtain⟨b,o,x,rfl,hb,hx,hc0,hc1,hc2,hr0,hr1,hr2,hv⟩:=(H.out.ext HQ.out).atOrder k hlt;have HN:=zh (zAq (zB1 true n) hx.out);cases hf:(xs.take k).any (zB1 true n)
      ·by_cases hA:x.A=n
       ·by_cases hO:x.Op=5
        ·go_wp2;go_roundw
         case rel=>exact⟨k+1,by omega,by go_num,by rw[HN.out,hf];simp[zB1,hA,hO,zAx],by trivial⟩
         case measure=>simp[RowKit.intOf];omega
        ·go_wp2;go_roundw
         case rel=>exact⟨k+1,by omega,by go_num,by rw[HN.out,hf];simp[zB1,hO,zAx],by trivial⟩
         case measure=>simp[RowKit.intOf];omega
       ·go_wp2;go_roundw
        case rel=>exact⟨k+1,by omega,by go_num,by rw[HN.out,hf];simp[zB1,hA],by trivial⟩
        case measure=>simp[RowKit.intOf];omega
      ·go_wp2;go_roundw
       case rel=>exact⟨k+1,by omega,by go_num,by rw[HN.out,hf];rfl,by trivial⟩
       case measure=>simp[RowKit.intOf];omega
     ·obtain rfl:k=xs.length:=by omega
      rw[List.take_length];have HN:=zh (zBs xs true n);have hpl:=zBh xs true n;cases hf:xs.any (zB1 true n)
      ·go_wp2;go_roundw
       case rel=>exact⟨n+1,_,_,_,by omega,by go_num,rfl,fun _=>trivial,by rw[HN.out,hf];simpa using HO.out,HQ.out⟩
       case measure=>simp[RowKit.intOf];omega
      ·go_wp2_with (at_builtin;refine zBn (α:=Int) rfl _ _ 26 rfl 3 Try.underlying26 elInt (v:=.slice ao no co) (ys:=[(n:Int)]) rfl (HO.out.ext ((zr _).alloc _)) rfl rfl (CI.row ⟨by simp,rng_of (by omega) (by omega),trivial⟩) (by omega) (by simp) (by omega) (by have:=HQ.out.sz;simp;omega) ?_;intro v5 w5 hO5 hg5;have HO5:=zh hO5;have HE5:=zh ((HQ.out.alloc _).grown hg5 (fun k hk=>HO.out.own k hk));obtain⟨p5,q5,rfl,_⟩:=hO5.form;clear hO5 hg5)
       go_roundw
       case rel=>exact⟨n+1,_,_,_,by omega,by go_num,rfl,fun _=>trivial,by rw[HN.out,hf];simpa using HO5.out,HE5.out⟩
       case measure=>simp[RowKit.intOf];omega
  ·obtain rfl:n=8:=by omega
   have g0:=HV.out (by omega)
   go_wp2;go_ret;exact⟨_,rfl,by rw[zAs,g0];exact HO.out.osF,HQ.out⟩
theorem zCu(v:Value)(xs:List Order)(c:Int)(w:World)(h:Rs w v xs) :
  Calls Try.prog 7 #[v,.int .i64 c,.bool false] w fun e w' => ∃ v',e = .returned v'/\Os w.heap.size w' v' (zAs xs c false)/\Ext w w':=by
 have H:=zh h;obtain⟨a,cp,rfl,hl⟩:=h.form;clear h;go_enter Try.func7,Try.ntmps7;go_wp2;go_loopw [7,8] (fun out i wr => ∃ (n:Nat) (ao:Option Addr) (no co:Nat),n<=8/\i = .int .i64 n/\out = .slice ao no co/\(0 < n->zAd xs c=true)/\Oa (α:=Int) 3 w.heap.size wr (.slice ao no co) (zBc xs false n) []/\Ext w wr) (fun _ i _=>8 - (RowKit.intOf i).toNat)
 case atStart=>exact⟨0,_,_,_,Nat.zero_le _,rfl,rfl,fun h=>absurd h (Nat.lt_irrefl _),Oa.lit0 3 w,(zr w).alloc _⟩
 case round =>
  obtain⟨n,ao,no,co,hn,rfl,rfl,hpv,ho,hq⟩:=hrel;have HO:=zh ho;have HQ:=zh hq;have HV:=zh hpv;clear ho hq hpv;by_cases hn8:n < 8
  ·cases g0:zAd xs c with
   | false =>
    have hn0:n=0:=by rcases Nat.eq_zero_or_pos n with h|h;exact h;rw[HV.out h] at g0;cases g0
    subst hn0;go_wp2_with (go_at_call 16;refine(zA9 _ xs c _ (H.out.ext HQ.out)).mono ?_;rintro e w1 ⟨rfl,he⟩;rw[g0];have HE1:=zh he;clear he)
    go_ret;exact⟨_,rfl,by rw[zAs,g0];exact(HO.out.ext HE1.out).osF,HQ.out.tr HE1.out⟩
   | true =>
    go_wp2_with (go_at_call 16;refine(zA9 _ xs c _ (H.out.ext HQ.out)).mono ?_;rintro e w1 ⟨rfl,he⟩;rw[g0];replace HO:=zh (HO.out.ext he);replace HQ:=zh (HQ.out.tr he);clear he)
    obtain⟨wq,rfl⟩:∃ wq:World,wq=w1:=⟨_,rfl⟩;go_loopw [9,10] (fun fd i wr => ∃ k:Nat,k<=xs.length/\i = .int .i64 k/\fd = .bool ((xs.take k).any (zB1 false n))/\wr=wq) (fun _ i _=>xs.length - (RowKit.intOf i).toNat)
    case atStart=>exact⟨0,Nat.zero_le _,rfl,by simp,rfl⟩
    case round =>
     obtain⟨k,hk,rfl,rfl,hww⟩:=hrel;obtain rfl:wq=wr:=hww.symm;by_cases hlt:k < xs.length
     ·obtain⟨b,o,x,rfl,hb,hx,hc0,hc1,hc2,hr0,hr1,hr2,hv⟩:=(H.out.ext HQ.out).atOrder k hlt;have HN:=zh (zAq (zB1 false n) hx.out);cases hf:(xs.take k).any (zB1 false n)
      ·by_cases hA:x.A=n
       ·by_cases hO:x.Op=6
        ·go_wp2;go_roundw
         case rel=>exact⟨k+1,by omega,by go_num,by rw[HN.out,hf];simp[zB1,hA,hO,zAx],by trivial⟩
         case measure=>simp[RowKit.intOf];omega
        ·go_wp2;go_roundw
         case rel=>exact⟨k+1,by omega,by go_num,by rw[HN.out,hf];simp[zB1,hO,zAx],by trivial⟩
         case measure=>simp[RowKit.intOf];omega
       ·go_wp2;go_roundw
        case rel=>exact⟨k+1,by omega,by go_num,by rw[HN.out,hf];simp[zB1,hA],by trivial⟩
        case measure=>simp[RowKit.intOf];omega
      ·go_wp2;go_roundw
       case rel=>exact⟨k+1,by omega,by go_num,by rw[HN.out,hf];rfl,by trivial⟩
       case measure=>simp[RowKit.intOf];omega
     ·obtain rfl:k=xs.length:=by omega
      rw[List.take_length];have HN:=zh (zBs xs false n);have hpl:=zBh xs false n;cases hf:xs.any (zB1 false n)
      ·go_wp2;go_roundw
       case rel=>exact⟨n+1,_,_,_,by omega,by go_num,rfl,fun _=>trivial,by rw[HN.out,hf];simpa using HO.out,HQ.out⟩
       case measure=>simp[RowKit.intOf];omega
      ·go_wp2_with (at_builtin;refine zBn (α:=Int) rfl _ _ 26 rfl 3 Try.underlying26 elInt (v:=.slice ao no co) (ys:=[(n:Int)]) rfl (HO.out.ext ((zr _).alloc _)) rfl rfl (CI.row ⟨by simp,rng_of (by omega) (by omega),trivial⟩) (by omega) (by simp) (by omega) (by have:=HQ.out.sz;simp;omega) ?_;intro v5 w5 hO5 hg5;have HO5:=zh hO5;have HE5:=zh ((HQ.out.alloc _).grown hg5 (fun k hk=>HO.out.own k hk));obtain⟨p5,q5,rfl,_⟩:=hO5.form;clear hO5 hg5)
       go_roundw
       case rel=>exact⟨n+1,_,_,_,by omega,by go_num,rfl,fun _=>trivial,by rw[HN.out,hf];simpa using HO5.out,HE5.out⟩
       case measure=>simp[RowKit.intOf];omega
  ·obtain rfl:n=8:=by omega
   have g0:=HV.out (by omega)
   go_wp2;go_ret;exact⟨_,rfl,by rw[zAs,g0];exact HO.out.osF,HQ.out⟩
theorem zAv(v:Value)(xs:List Order)(c:Int)(s:Bool)(w:World)(h:Rs w v xs) :
  Calls Try.prog 7 #[v,.int .i64 c,.bool s] w fun e w' => ∃ v',e = .returned v'/\Os w.heap.size w' v' (zAs xs c s)/\Ext w w':=by
 cases s with
 | true=>exact zCv v xs c w h
 | false=>exact zCu v xs c w h
end Sk
