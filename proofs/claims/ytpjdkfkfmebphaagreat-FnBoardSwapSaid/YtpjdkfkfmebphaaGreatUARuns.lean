/- Contracts of functions of the given program. -/
import Derived.Test.YtpjdkfkfmebphaaGreatTickI
namespace Sk
open Go Go.Proofs Go.RowKit
set_option maxHeartbeats 4000000
set_option maxRecDepth 100000
set_option linter.unusedVariables false
set_option linter.unusedSimpArgs false
noncomputable def zCa(m:Machine)(t q:Int):Bool:=zG0 m && (zA8 t 0 q && decide (m.Tick+t<=100000))
theorem zEc{m:Machine}{t q:Int}:zCa m t q=true ↔ zBl m/\(0<=t/\t<=q)/\m.Tick+t<=100000:=by
 unfold zCa;simp only[Bool.and_eq_true,zCd,zA6,decide_eq_true_eq]
def zC1(m:Machine):Nat->Machine
 | 0=>m
 | k+1=>zBd (zC1 m k)
theorem zEo{m:Machine}(h:zBl m):∀ k:Nat,m.Tick+k<=100000->zBl (zC1 m k)/\(zC1 m k).Tick=m.Tick+k/\(zC1 m k).Plan=m.Plan/\(zC1 m k).Programs=m.Programs/\(zC1 m k).Cores.length=m.Cores.length/\(zC1 m k).Holds.length=m.Holds.length:=by
 intro k
 induction k with
 | zero=>intro _;exact⟨h,(Int.add_zero _).symm,rfl,rfl,rfl,rfl⟩
 | succ k ih =>
  intro hk;obtain⟨h1,h2,h3,h4,h5,h6⟩:=ih (by omega)
  refine⟨zJl h1 (by omega),?_,?_,?_,?_,?_⟩
  ·show(zBd _).Tick=_
   rw[zGi,h2];show _=m.Tick+((k+1:Nat):Int);omega
  ·show(zBd _).Plan=_
   rw[zDr,h3]
  ·show(zBd _).Programs=_
   rw[zFe,h4]
  ·show(zBd _).Cores.length=_
   rw[zFd,h5]
  ·show(zBd _).Holds.length=_
   rw[zMf,h6]
theorem zPp(v:Value)(m:Machine)(t q:Int)(w:World)(h:Rv w v m)(hq:q<=1000) :
  Calls Tryz.prog 39 #[v,.int .i64 t,.int .i64 q] w fun e w'=>e = .returned (.bool (zCa m t q))/\Ext w w':=by
 have H:=zh h;obtain⟨a0,c0,a1,c1,a2,c2,a3,c3,a4,c4,a5,c5,rfl,rt,h0,l0,h1,l1,h2,l2,h3,l3,h4,l4,h5,l5⟩:=h.openMachine;clear h h0 h1 h2 h3 h4 h5;go_enter Tryz.func39,Tryz.ntmps39;go_upto_region 1 with (fail)
 refine zA1 (fun W=>Ext w W/\Bk W w.heap.size [.slice a0 m.Plan.Parts.length c0,.slice a1 m.Plan.Channels.length c1,.slice a2 m.Plan.Slots.length c2,.slice a3 m.Programs.length c3,.slice a4 m.Cores.length c4,.slice a5 m.Holds.length c5,.int .i64 m.Tick] 32) ⟨(zr _).alloc _,Bk.new _ _ _⟩ ?_
 rintro W ⟨e1,kA⟩;have HE0:=zh e1;obtain⟨d0,d1,d2,d3,d4,d5,d6⟩:=Bk.k7 kA;have KA:=zh kA;clear e1 kA;cases g:zG0 m
 ·go_wp2_with (go_at_call 10;refine(zAz _ m _ (H.out.ext HE0.out)).mono ?_;rintro e w0 ⟨rfl,he⟩;rw[g];have E:=zh (HE0.out.tr he);have KAx:=KA.out.ext he;have ltA:=KAx.lt;obtain⟨x0,x1,x2,x3,x4,x5,x6⟩:=Bk.k7 KAx;  clear he KAx)
  go_ret;exact⟨by unfold zCa;rw[g];rfl,E.out⟩
 have hmv:=zCd.1 g;have htk:=hmv.tick;cases g1:zA8 t 0 q
 ·go_wp2_with (first
   | (go_at_call 10;refine(zAz _ m _ (H.out.ext HE0.out)).mono ?_;rintro e w0 ⟨rfl,he⟩;rw[g];have E:=zh (HE0.out.tr he);have KAx:=KA.out.ext he;have ltA:=KAx.lt;obtain⟨x0,x1,x2,x3,x4,x5,x6⟩:=Bk.k7 KAx;  clear he KAx)
   | (go_at_call 35;refine(zAj _ _ _ _).mono ?_;rintro e w9 ⟨rfl,rfl⟩;rw[g1]))
  go_ret;exact⟨by unfold zCa;rw[g,g1];rfl,E.out⟩
 obtain⟨b1,b2⟩:=zA6.1 g1;obtain⟨z,hz⟩:∃ z,m.Tick+t=z:=⟨_,rfl⟩;have hw1 : -9223372036854775808<=m.Tick+t:=by omega
 have hw2:m.Tick+t<=9223372036854775807:=by omega
 have hm:Hid (zCa m t q=decide (z<=100000)):=zh (by unfold zCa;rw[g,g1,hz];rfl)
 go_wp2_with (first
   | (go_at_call 10;refine(zAz _ m _ (H.out.ext HE0.out)).mono ?_;rintro e w0 ⟨rfl,he⟩;rw[g];have E:=zh (HE0.out.tr he);have KAx:=KA.out.ext he;have ltA:=KAx.lt;obtain⟨x0,x1,x2,x3,x4,x5,x6⟩:=Bk.k7 KAx;  clear he KAx)
   | (go_at_call 35;refine(zAj _ _ _ _).mono ?_;rintro e w9 ⟨rfl,rfl⟩;rw[g1]))
 go_ret;exact⟨by rw[hm.out];first|done|rfl,E.out⟩
noncomputable def zNm(m:Machine)(t:Int):Machine:=if zCa m t 400=true then zC1 m t.toNat else zO9
theorem zLj{m:Machine}{t:Int}(h:zCa m t 400=false):zNm m t=zO9:=if_neg (fun k=>by rw[h] at k;cases k)
theorem zNn{m:Machine}{t:Nat}(h:zCa m t 400=true):zNm m t=zC1 m t:=if_pos h
noncomputable def zD8(m:Machine):Machine:=if zG0 m=true/\¬ m.Tick=100000 then zBd m else zO9
theorem zOg{m:Machine}(h:zG0 m=false):zD8 m=zO9:=if_neg (fun k=>by rw[h] at k;cases k.1)
theorem zOh{m:Machine}(h:m.Tick=100000):zD8 m=zO9:=if_neg (fun k=>k.2 h)
theorem zMe{m:Machine}(h:zG0 m=true)(ht:¬ m.Tick=100000):zD8 m=zBd m:=if_pos ⟨h,ht⟩
def Bx{α:Type}[GT α](L:Nat)(w:World)(b:Nat)(x : α)(T:TypeId):Prop:=∃ cs F,Bk w b cs T/\GT.enc w cs x F/\Own L w F
theorem Ext.puts{a:World}{b:Nat}(hb:a.heap.size<=b)(cs:List Value):∀ {w:World} {o:Nat},Ext a w->Ext a (zAc w b o cs):=by
 induction cs with
 | nil=>intro w o h;exact h
 | cons c cs ih=>intro w o h;rw[zAc];exact ih (h.set (p:=⟨b,o,none⟩) hb c)
theorem Own.puts{L b:Nat}{F:List Nat}(cs:List Value):∀ {w:World} {o:Nat},Own L w F->Own L (zAc w b o cs) F:=by
 induction cs with
 | nil=>intro w o h;exact h
 | cons c cs ih=>intro w o h;rw[zAc];exact ih (h.set ⟨b,o,none⟩ c)
theorem Bx.put{α:Type}[GT α]{L M:Nat}{w:World}{b:Nat}{y : α}{T:TypeId}{cs0 cs:List Value}{F:List Nat}(hb:Bk w b cs0 T)(hl:cs0.length=GT.sz α)(hy:GT.enc w cs y F)(ho:Own M w F)(hL:L<=M)(hM:b < M):Bx L (zAc w b 0 cs) b y T :=
 ⟨cs,F,hb.puts cs ((GT.len hy).trans hl.symm),zBp hy (fun hm=>by have:=(ho.2 b hm).1;omega),(ho.mono hL).puts cs⟩
theorem Bx.openM{L:Nat}{w:World}{b:Nat}{m:Machine}{T:TypeId}(h:Bx L w b m T):∃ p0 q0 p1 q1 p2 q2 p3 q3 p4 q4 p5 q5 F,
  Bk w b [.slice p0 m.Plan.Parts.length q0,.slice p1 m.Plan.Channels.length q1,.slice p2 m.Plan.Slots.length q2,.slice p3 m.Programs.length q3,.slice p4 m.Cores.length q4,.slice p5 m.Holds.length q5,.int .i64 m.Tick] T /\
  GT.enc w [.slice p0 m.Plan.Parts.length q0,.slice p1 m.Plan.Channels.length q1,.slice p2 m.Plan.Slots.length q2,.slice p3 m.Programs.length q3,.slice p4 m.Cores.length q4,.slice p5 m.Holds.length q5,.int .i64 m.Tick] m F/\Own L w F:=by
 obtain⟨cs,F,h1,h2,h3⟩:=h;obtain⟨v0,v1,v2,v3,v4,v5,G0,G1,G2,G3,G4,G5,rfl,⟨t0,u0,rfl,_⟩,⟨t1,u1,rfl,_⟩,⟨t2,u2,rfl,_⟩,⟨t3,u3,rfl,_⟩,⟨t4,u4,rfl,_⟩,⟨t5,u5,rfl,_⟩,_,_⟩:=id h2;exact⟨_,_,_,_,_,_,_,_,_,_,_,_,F,h1,h2,h3⟩
theorem Ov.openE{L:Nat}{w:World}{v:Value}{m:Machine}(h:Ov L w v m):∃ p0 q0 p1 q1 p2 q2 p3 q3 p4 q4 p5 q5 F,
  v = .agg #[.slice p0 m.Plan.Parts.length q0,.slice p1 m.Plan.Channels.length q1,.slice p2 m.Plan.Slots.length q2,.slice p3 m.Programs.length q3,.slice p4 m.Cores.length q4,.slice p5 m.Holds.length q5,.int .i64 m.Tick] /\
  GT.enc w [.slice p0 m.Plan.Parts.length q0,.slice p1 m.Plan.Channels.length q1,.slice p2 m.Plan.Slots.length q2,.slice p3 m.Programs.length q3,.slice p4 m.Cores.length q4,.slice p5 m.Holds.length q5,.int .i64 m.Tick] m F/\Own L w F:=by
 obtain⟨cs,F,rfl,h2,h3⟩:=h;obtain⟨v0,v1,v2,v3,v4,v5,G0,G1,G2,G3,G4,G5,rfl,⟨t0,u0,rfl,_⟩,⟨t1,u1,rfl,_⟩,⟨t2,u2,rfl,_⟩,⟨t3,u3,rfl,_⟩,⟨t4,u4,rfl,_⟩,⟨t5,u5,rfl,_⟩,_,_⟩:=id h2;exact⟨_,_,_,_,_,_,_,_,_,_,_,_,F,rfl,h2,h3⟩
set_option maxHeartbeats 1500000
theorem zKl(v:Value)(xss:List (List Int))(w:World)(h:Rs w v xss)(hn:xss.length<=1000)(hl:∀ xs∈xss,xs.length<=1000) :
  Calls Tryz.prog 81 #[v] w fun e w' => ∃ a c,e = .returned (.slice a xss.flatten.length c)/\Oa (α:=Int) 3 w.heap.size w' (.slice a xss.flatten.length c) xss.flatten []/\Ext w w':=by
 have H:=zh h;have HL:=zh hl;obtain⟨a,c,rfl,hln⟩:=h.form;clear h hl;have hfl:∀ k,k<=xss.length->(xss.take k).flatten.length<=1000*k:=by
  intro k
  induction k with
  | zero=>intro _;simp
  | succ k ih =>
   intro hk;have hx:xss[k]? = some xss[k]:=List.getElem?_eq_getElem (by omega)
   rw[zAg hx,List.flatten_append,List.length_append]
   have:=HL.out xss[k] (List.getElem_mem _)
   have:=ih (by omega)
   simp only[List.flatten_cons,List.flatten_nil,List.append_nil];omega
 have HFL:=zh hfl;clear hfl;go_enter Tryz.func81,Tryz.ntmps81;go_wp2;go_loopw [3,5,11] (fun v3 _ i wr => ∃ k:Nat,k<=xss.length/\i = .int .i64 k/\v3 = .int .i64 ((xss.take k).flatten.length:Nat)/\wr=w) (fun _ _ i _=>xss.length - (intOf i).toNat)
 case atStart=>exact⟨0,Nat.zero_le _,rfl,rfl,rfl⟩
 case round =>
  obtain⟨k,hk,rfl,rfl,hww⟩:=hrel;obtain rfl:w=wr:=hww.symm;have hb:=HFL.out k hk;obtain⟨A,hA⟩:∃ A,(xss.take k).flatten.length=A:=⟨_,rfl⟩;rw[hA] at hb ⊢;replace hA:=zh hA;by_cases hlt:k < xss.length
  ·obtain⟨b,o,xs,ax,cx,rfl,hbl,hx,hc,hrx,hlx⟩:=H.out.atList k hlt;have hxl:=HL.out xs (List.mem_of_getElem? hx.out);have HN:=zh (zAg hx.out);go_wp2;go_roundw
   case rel=>exact⟨k+1,by omega,by go_num,by rw[HN.out,List.flatten_append,List.length_append,hA.out];simp,by trivial⟩
   case measure=>simp[intOf];omega
  ·obtain rfl:k=xss.length:=by omega
   have hA2:Hid (xss.flatten.length=A):=zh (by have:=hA.out;rwa [List.take_length] at this)
   go_upto_region 10 with (go_at_call 122;refine(zIf A (by omega) _).mono ?_;rintro e w1 ⟨v1,rfl,ho,he⟩;have HO:=zh ho;have HE:=zh he;obtain⟨p1,n1,q1,rfl⟩:=Oa.sh0 ho;clear ho he)
   go_wp2_with fail
   go_loopw [6,8,27] (fun v6 _ i wr => ∃ (j:Nat) (ao:Option Addr) (no co:Nat),j<=xss.length/\i = .int .i64 j/\v6 = .slice ao no co/\Oa (α:=Int) 3 w.heap.size wr (.slice ao no co) (xss.take j).flatten []/\Ext w wr) (fun _ _ i _=>xss.length - (intOf i).toNat)
   case atStart=>exact⟨0,_,_,_,Nat.zero_le _,rfl,rfl,HO.out,HE.out⟩
   case round =>
    clear HO HE;obtain⟨j,ao,no,co,hj,rfl,rfl,ho,hq⟩:=hrel;have HO:=zh ho;have HQ:=zh hq;have hsz:=hq.sz;clear ho hq;by_cases hjt:j < xss.length
    ·obtain⟨b,o,xs,ax,cx,rfl,hbl,hx,hc,hrx,hlx⟩:=H.out.atList j hjt;have hxl:=HL.out xs (List.mem_of_getElem? hx.out);have HN:=zh (zAg hx.out);have hb2:=HFL.out j (by omega)
     have e1:=(zA0 HQ.out hbl).trans hc;clear hc;go_wp2_with (at_builtin;refine zBy (α:=Int) rfl _ _ 41 rfl 3 Tryz.underlying41 zCj (L:=w.heap.size) (v:=.slice ao no co) (xs:=(xss.take j).flatten) (ys:=xs) rfl HO.out rfl (hrx.out.ext HQ.out) (by omega) hsz ?_;intro v5 w5 hO5 hg5;have HO5:=zh hO5;have HE5:=zh (HQ.out.grown hg5 (fun k hk=>HO.out.own k hk));obtain⟨p5,n5,q5,rfl⟩:=Oa.sh0 hO5;clear hO5 hg5)
     go_roundw
     case rel=>exact⟨j+1,_,_,_,by omega,by go_num,rfl,by rw[HN.out,List.flatten_append];simpa using HO5.out,HE5.out⟩
     case measure=>simp[intOf];omega
    ·obtain rfl:j=xss.length:=by omega
     rw[List.take_length] at HO;obtain⟨_,_,hno,_⟩:=HO.out.form;cases hno;have hcap:=HO.out.cap;go_wp2;go_ret;exact⟨_,_,rfl,HO.out,HQ.out⟩
end Sk
