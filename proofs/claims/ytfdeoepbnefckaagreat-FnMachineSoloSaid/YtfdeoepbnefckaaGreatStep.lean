/- Contracts of functions of the given program. -/
import Derived.Test.YtfdeoepbnefckaaGreatRst
namespace Sk
open Go Go.Proofs Go.RowKit
set_option maxHeartbeats 4000000
set_option maxRecDepth 100000
set_option linter.unusedVariables false
set_option linter.unusedSimpArgs false
def zHm(T:TypeId)(L g s:Nat)(F:List Nat)(B:Nat)(W wc:World)(o:Order)(r:Core)(v:Value):Prop :=
 ∃ (c1:Core) (n1:Int) (F1:List Nat),v = .int .i64 n1/\rng n1/\r = { c1 with At:=n1 } /\ Om L wc g s c1 F1/\Chg g s 3 F W wc/\(∀ k∈F1,k∈F)/\Bk wc B [.int .i64 0,.int .i64 0,.int .i64 0] T/\Bk wc (B+1) [.int .i64 o.Op,.int .i64 o.A,.int .i64 o.B] T
theorem zHm.of{T:TypeId}{L g s:Nat}{F:List Nat}{B:Nat}{W wc:World}{o:Order}{r c1:Core}{n1:Int}{F1:List Nat}{p:Addr}{u:Value}(hn:rng n1)(hr:r = { c1 with At:=n1 })(h:Om L (W.setCell p u) g s c1 F1/\(∀ k∈F1,k∈F)/\Chg g s 3 F W (W.setCell p u))(hq:Qt (W.setCell p u) wc)(hg:g < W.heap.size)(hpb:p.block < B)(hA:Bk W B [.int .i64 0,.int .i64 0,.int .i64 0] T)(hB:Bk W (B+1) [.int .i64 o.Op,.int .i64 o.A,.int .i64 o.B] T) :
  zHm T L g s F B W wc o r (.int .i64 n1):=by
 obtain⟨h1,h2,h3⟩:=h;exact⟨c1,n1,F1,rfl,hn,hr,h1.ext hq.ext,h3.tr (Chg.ofExt hq.ext (by simpa using hg)),h2,(hA.set_ne (by omega) _).ext hq.ext,(hB.set_ne (by omega) _).ext hq.ext⟩
theorem Om.setX{α:Type}[GT α]{L:Nat}{w:World}{b o:Nat}{x : α}{F:List Nat}(h:Om L w b o x F){p:Addr}(hb:b≠p.block)(hF:p.block ∉ F)(u:Value):Om L (w.setCell p u) b o x F:=by
 obtain⟨cs,h1,h2,h3⟩:=h;exact⟨cs,GT.keep h1 (fun k hk=>zA8 (fun e=>hF (e ▸ hk))),h2.keep (zA8 hb),h3.set _ _⟩
theorem Chg.setNew{b o n:Nat}{F:List Nat}{a c:World}(h:Chg b o n F a c){p:Addr}(hp:a.heap.size<=p.block)(hb:b < a.heap.size)(u:Value):Chg b o n F a (c.setCell p u):=by
 refine⟨?_,by simpa using h.2.1,fun x hx h1 h2=>by rw[zA8 (by omega)];exact h.2.2.1 x hx h1 h2,fun i hi=>?_,h.2.2.2.2.set _ u⟩
 ·obtain⟨h1,h2,h3,h4,h5⟩:=h.1;exact⟨h1,h2,h3,h4,h5⟩
 ·rw[World.cell?_of_block (w:=c) (zA8 (by show b≠p.block;omega))];exact h.2.2.2.1 i hi
theorem zHm.same{T:TypeId}{L g s:Nat}{F:List Nat}{B:Nat}{W w2:World}{o:Order}{r c1:Core}{n1:Int}(hn:rng n1)(hr:r = { c1 with At:=n1 })(h:Om L W g s c1 F)(hq:Qt W w2)(hg:g < W.heap.size)(hA:Bk W B [.int .i64 0,.int .i64 0,.int .i64 0] T)(hB:Bk W (B+1) [.int .i64 o.Op,.int .i64 o.A,.int .i64 o.B] T) :
  zHm T L g s F B W w2 o r (.int .i64 n1) :=
 ⟨c1,n1,F,rfl,hn,hr,h.ext hq.ext,Chg.ofExt hq.ext hg,fun k hk=>hk,hA.ext hq.ext,hB.ext hq.ext⟩
theorem zG0(L g s:Nat)(c:Core)(p:List Order)(q t:Int)(F:List Nat)(vl:Value)(w:World)(h:Om L w g s c F)(hl:Rs w vl p)(hf:zAr c p.length q=true)(hp:zBg p q=true)(ht0:0<=t)(ht:t<=1000000) :
  Calls Tryz.prog 42 #[.pointer (some ⟨g,s,none⟩),vl,.int .i64 t] w fun e w'=>e = .returned (.agg #[.int .i64 (zBb c p t).2.Op,.int .i64 (zBb c p t).2.A,.int .i64 (zBb c p t).2.B])/\∃ F',Om L w' g s (zBb c p t).1 F'/\Chg g s 3 F w w'/\∀ k∈F',k∈F:=by
 obtain⟨f1,f2,f3⟩:=zAo.1 hf;obtain⟨b1,b2⟩:=zFd hp;obtain⟨A,hA⟩:∃ A:Nat,c.At=A:=⟨c.At.toNat,by omega⟩
 have hAl:A < p.length:=by omega
 obtain⟨o,ho,hov⟩:=zGn hp hAl;obtain⟨al,cl,rfl,hll⟩:=hl.form;obtain⟨ob,oo,o',rfl,hob,ho',q0,q1,q2,r0,r1,r2⟩:=hl.atOrder A hAl;obtain rfl:o'=o:=Option.some.inj (ho'.out.symm.trans ho);clear ho';obtain⟨a0,c0,x0,x1,x2,hc,hrA⟩:=h.openC;obtain⟨ltg,hLg,ngF,gfz⟩:=h.bk;have HO:=zh h;clear hl;rw[hA] at x1;go_enter Tryz.func42,Tryz.ntmps42;cases hst:c.Stopped
 ·rw[hst] at x2;obtain⟨nx,hnx⟩:∃ nx:Nat,(A+1) % p.length=nx:=⟨_,rfl⟩;have hnl:nx < p.length:=by rw[<- hnx];exact Nat.mod_lt _ (by omega)
  have hE:Hid (zBb c p t=(zDk c p.length t o',o')):=zh (by
   unfold zBb;rw[if_neg (by rw[hst];decide),hA,Int.toNat_natCast,List.getD_eq_getElem?_getD,ho];rfl)
  have hAt:Hid ((c.At.toNat+1) % p.length=nx):=zh (by rw[hA,Int.toNat_natCast];exact hnx)
  have hm:((A:Int)+1).tmod (p.length:Int)=(nx:Int):=by rw[<- hnx];exact Int.ofNat_tmod _ _
  have hne:(p.length:Int)≠0:=by omega
  have HST:=zh hst;have HCA:=zh hA;clear hst hnx ho hA;go_upto_region 4 with (fail)
  refine zA2 (fun W=>Ext w W/\Bk W w.heap.size [.int .i64 0,.int .i64 0,.int .i64 0] 61/\Bk W (w.heap.size+1) [.int .i64 o'.Op,.int .i64 o'.A,.int .i64 o'.B] 61) ⟨((zr _).alloc _).alloc _,(Bk.new _ _ _).ext ((zr _).alloc _),Bk.new1 _ _ _ _⟩ ?_
  rintro W ⟨e1,kA,kB⟩;have y0:=(zA0 e1 ltg).trans x0;have y1:=(zA0 e1 ltg).trans x1;have y2:=(zA0 e1 ltg).trans x2;have af:=kA.fz;obtain⟨a0,a1,a2⟩:=Bk.k3 kA;obtain⟨b0,b1,b2⟩:=Bk.k3 kB;have E1:=zh e1;have KA:=zh kA;have KB:=zh kB;have HO1:=zh (HO.out.ext e1);have HC1:=zh (hc.ext e1);clear e1 x0 x1 x2 q0 q1 q2 hc kA kB h;have hFl:∀ k∈F,k < w.heap.size:=fun k hk=>by obtain⟨_,_,_,ho⟩:=id HO.out;exact ho.lt (List.mem_cons_of_mem _ hk)
  have ltgW:=zl ltg E1.out.sz;obtain⟨rOp,rA,rB,_⟩:rng o'.Op/\rng o'.A/\rng o'.B/\True:=⟨r0,r1,r2.1,trivial⟩;obtain⟨op,oa,obb⟩:=o';simp only at *;have hcs:=zCf hov;simp only at hcs;have rn:rng (nx:Int):=⟨by omega,by omega⟩
  clear r0 r1 r2 hov;go_upto_block 0 with (fail)
  go_cut [8] from 9 (fun v8 wc=>zHm 61 L g s F w.heap.size W wc ⟨op,oa,obb⟩ (zDk c p.length t ⟨op,oa,obb⟩) v8)
  case first =>
   rcases hcs with ⟨rfl,hc1,hc2⟩ | ⟨rfl,hc1,hc2⟩ | ⟨rfl,hc1,hc2⟩ | ⟨rfl,hc1,hc2⟩ | ⟨rfl,hc1,hc2⟩ | ⟨rfl,hc1,hc2⟩ | ⟨rfl,hc1,hc2⟩ | ⟨rfl|rfl,rfl,rfl⟩
   ·obtain⟨ia,rfl⟩:∃ ia:Nat,oa=ia:=⟨oa.toNat,by omega⟩
    have hia:ia < c.Cells.length:=by omega
    obtain⟨g2,s2,rfl,hg2,hg2F,ltg2,z0,gf2,rg2,hput⟩:=HO1.out.cellC y0 ia hia;have hb2:=hFl g2 hg2F;go_upto_region 7 with (fail)
    refine zAa 8 (by kernel_rfl) (by kernel_rfl) ?_
    simp only[List.take_succ_cons,List.take_zero,List.drop_succ_cons,List.drop_zero]
    repeat (go_big_quiet_step (fail))
    refine wpQuiet_nil ?_;go_wp2;go_meet
    obtain⟨F1,h⟩:=hput obb rB;exact zHm.of rn (by show _=(⟨_,_,c.Stopped⟩:Core);rw[HST.out,<- hAt.out];rfl) h (Qt.mk 1) ltgW (by show g2 < _;exact hb2) KA.out KB.out
   ·obtain⟨ia,rfl⟩:∃ ia:Nat,oa=ia:=⟨oa.toNat,by omega⟩
    have hia:ia < c.Cells.length:=by omega
    obtain⟨g2,s2,rfl,hg2,hg2F,ltg2,z0,gf2,rg2,hput⟩:=HO1.out.cellC y0 ia hia;have hb2:=hFl g2 hg2F;obtain⟨ib,rfl⟩:∃ ib:Nat,obb=ib:=⟨obb.toNat,by omega⟩
    have hib:ib < c.Cells.length:=by omega
    obtain⟨g3,s3,e3,_,_,_,z1,_,rg3,_⟩:=HO1.out.cellC y0 ib hib;obtain⟨rfl,rfl⟩:g2=g3/\s2=s3:=by cases e3;exact⟨rfl,rfl⟩
    clear e3;have hvx:=zE0 f3 ia;obtain⟨x,hx⟩:∃ x,c.Cells.getD ia 0=x:=⟨_,rfl⟩;rw[hx] at hvx z0;have hvy:=zE0 f3 ib;obtain⟨y,hy⟩:∃ y,c.Cells.getD ib 0=y:=⟨_,rfl⟩;rw[hy] at hvy z1;have hm2:(x+y).tmod 256=(x+y) % 256:=Int.tmod_eq_emod_of_nonneg (by omega)
    have hxy1 : -9223372036854775808<=x+y:=by omega
    have hxy2:x+y<=9223372036854775807:=by omega
    obtain⟨z,hz⟩:∃ z,(x+y) % 256=z:=⟨_,rfl⟩;have hzr:rng z:=⟨by omega,by omega⟩
    have HZ:=zh (show(c.Cells.getD ia 0+c.Cells.getD ib 0) % 256=z by rw[hx,hy];exact hz)
    rw[hz] at hm2;clear hz hx hy;go_upto_region 9 with (fail)
    refine zAa 24 (by kernel_rfl) (by kernel_rfl) ?_
    simp only[List.take_succ_cons,List.take_zero,List.drop_succ_cons,List.drop_zero]
    repeat (go_big_quiet_step (fail))
    refine wpQuiet_nil ?_;go_wp2;go_meet
    obtain⟨F1,h⟩:=hput z hzr;exact zHm.of rn (by show _=(⟨_,_,c.Stopped⟩:Core);rw[HST.out,<- hAt.out,<- HZ.out];rfl) h (Qt.mk 1) ltgW (by show g2 < _;exact hb2) KA.out KB.out
   ·obtain⟨ia,rfl⟩:∃ ia:Nat,oa=ia:=⟨oa.toNat,by omega⟩
    have hia:ia < c.Cells.length:=by omega
    obtain⟨g2,s2,rfl,hg2,hg2F,ltg2,z0,gf2,rg2,hput⟩:=HO1.out.cellC y0 ia hia;have hb2:=hFl g2 hg2F;obtain⟨ib,rfl⟩:∃ ib:Nat,obb=ib:=⟨obb.toNat,by omega⟩
    have hib:ib < c.Cells.length:=by omega
    obtain⟨g3,s3,e3,_,_,_,z1,_,rg3,_⟩:=HO1.out.cellC y0 ib hib;obtain⟨rfl,rfl⟩:g2=g3/\s2=s3:=by cases e3;exact⟨rfl,rfl⟩
    clear e3;obtain⟨x,hx⟩:∃ x,c.Cells.getD ib 0=x:=⟨_,rfl⟩;rw[hx] at z1 rg3;have HZ:=zh hx;clear hx;go_upto_region 11 with (fail)
    refine zAa 14 (by kernel_rfl) (by kernel_rfl) ?_
    simp only[List.take_succ_cons,List.take_zero,List.drop_succ_cons,List.drop_zero]
    repeat (go_big_quiet_step (fail))
    refine wpQuiet_nil ?_;go_wp2;go_meet
    obtain⟨F1,h⟩:=hput x rg3;exact zHm.of rn (by show _=(⟨_,_,c.Stopped⟩:Core);rw[HST.out,<- hAt.out,<- HZ.out];rfl) h (Qt.mk 1) ltgW (by show g2 < _;exact hb2) KA.out KB.out
   ·obtain⟨ib,rfl⟩:∃ ib:Nat,obb=ib:=⟨obb.toNat,by omega⟩
    have hib:ib < c.Cells.length:=by omega
    obtain⟨g2,s2,rfl,hg2,hg2F,ltg2,z0,gf2,rg2,hput⟩:=HO1.out.cellC y0 ib hib;clear hput;obtain⟨x,hx⟩:∃ x,c.Cells.getD ib 0=x:=⟨_,rfl⟩;rw[hx] at z0 rg2;have HX:=zh hx;clear hx;cases hx0:(x == 0)
    ·have HN:=zh hx0;go_upto_region 15 with (fail)
     go_quiet (fail)
     go_wp2;go_meet
     exact zHm.same rn (by show _=(⟨_,_,c.Stopped⟩:Core);rw[HST.out,<- hAt.out];exact zIp (by rw[HX.out];simpa using HN.out)) HO1.out (Qt.mk _) ltgW KA.out KB.out
    ·have HN:=zh hx0;go_upto_region 15 with (fail)
     go_quiet (fail)
     go_wp2;go_meet
     exact zHm.same rA (by show _=(⟨_,_,c.Stopped⟩:Core);rw[HST.out];exact zIq (by rw[HX.out];simpa using HN.out)) HO1.out (Qt.mk _) ltgW KA.out KB.out
   ·go_wp2;go_meet
    exact zHm.same rn (by show _=(⟨_,_,c.Stopped⟩:Core);rw[HST.out,<- hAt.out];rfl) HO1.out (Qt.refl _) ltgW KA.out KB.out
   ·go_wp2;go_meet
    exact zHm.same rn (by show _=(⟨_,_,c.Stopped⟩:Core);rw[HST.out,<- hAt.out];rfl) HO1.out (Qt.refl _) ltgW KA.out KB.out
   ·obtain⟨ia,rfl⟩:∃ ia:Nat,oa=ia:=⟨oa.toNat,by omega⟩
    have hia:ia < c.Cells.length:=by omega
    obtain⟨g2,s2,rfl,hg2,hg2F,ltg2,z0,gf2,rg2,hput⟩:=HO1.out.cellC y0 ia hia;have hb2:=hFl g2 hg2F;have hm2:t.tmod 256=t % 256:=Int.tmod_eq_emod_of_nonneg ht0;obtain⟨z,hz⟩:∃ z,t % 256=z:=⟨_,rfl⟩;have hzr:rng z:=⟨by omega,by omega⟩
    have HZ:=zh hz;rw[hz] at hm2;clear hz;go_upto_region 13 with (fail)
    refine zAa 8 (by kernel_rfl) (by kernel_rfl) ?_
    simp only[List.take_succ_cons,List.take_zero,List.drop_succ_cons,List.drop_zero]
    repeat (go_big_quiet_step (fail))
    refine wpQuiet_nil ?_;go_wp2;go_meet
    obtain⟨F1,h⟩:=hput z hzr;exact zHm.of rn (by show _=(⟨_,_,c.Stopped⟩:Core);rw[HST.out,<- hAt.out,<- HZ.out];rfl) h (Qt.mk 1) ltgW (by show g2 < _;exact hb2) KA.out KB.out
   ·go_wp2;go_meet
    exact zHm.same rn (by show _=(⟨_,_,c.Stopped⟩:Core);rw[HST.out,<- hAt.out];rfl) HO1.out (Qt.refl _) ltgW KA.out KB.out
   ·have hrA2:rng (A:Int):=by rw[<- HCA.out];exact hrA
    have gfW:∀ j,W.frozen? ⟨g,j,none⟩=false:=HO1.out.bk.2.2.2;obtain⟨F1,h⟩:=HO1.out.putStop true;replace h:=zh h;go_wp2;go_meet
    exact zHm.of hrA2 (by rw[<- HCA.out];rfl) h.out (Qt.refl _) ltgW ltg KA.out KB.out
  case rest =>
   obtain⟨c1,n1,F1,rfl,hn1,hr1,om1,ch1,sub1,kA1,kB1⟩:=hcut;have gfc:∀ j,wc.frozen? ⟨g,j,none⟩=false:=om1.bk.2.2.2;have hgA:g≠w.heap.size:=by omega
   have hgB:g≠w.heap.size+1:=by omega
   obtain⟨_,_,_,u1,_,_,_⟩:=om1.openC;obtain⟨F2,om2,sub2,ch2⟩:=om1.putAt n1 hn1;have kA2:=kA1.set_ne (p:=⟨g,s+1,none⟩) (fun e=>hgA e.symm) (.int .i64 n1)
   have kB2:=kB1.set_ne (p:=⟨g,s+1,none⟩) (fun e=>hgB e.symm) (.int .i64 n1)
   have OM2:=zh om2;have CH2:=zh ((Chg.ofExt E1.out ltg).tr (ch1.trF ch2 (fun x hx => .inl (sub1 x hx))))
   have SUB:=zh (fun k hk=>sub1 k (sub2 k hk))
   have HR:=zh hr1;clear om2 ch1 ch2 sub1 sub2 hr1 om1 HO HO1;go_upto_region 21 with (fail)
   refine zA2 (fun W2=>Om L W2 g s { c1 with At:=n1 } F2/\Chg g s 3 F w W2/\Bk W2 w.heap.size [.int .i64 0,.int .i64 0,.int .i64 0] 61/\Bk W2 (w.heap.size+1) [.int .i64 op,.int .i64 oa,.int .i64 obb] 61) ⟨OM2.out,CH2.out,kA2,kB2⟩ ?_
   rintro W2 ⟨om3,ch3,kA3,kB3⟩;obtain⟨cA0,cA1,cA2⟩:=Bk.k3 kA3;have cAf:=kA3.fz;obtain⟨cB0,cB1,cB2⟩:=Bk.k3 kB3;have KS:=zh (((kA3.set 0 (.int .i64 op)).set 1 (.int .i64 oa)).set 2 (.int .i64 obb));obtain⟨d0,d1,d2⟩:=Bk.k3 KS.out;have OM3:=zh om3;have CH3:=zh ch3;clear om3 ch3 kA3 kB3 kA1 kB1 kA2 kB2 OM2 CH2 u1;go_wp2;have hF2:w.heap.size ∉ F2:=fun hm=>by have:=hFl _ (SUB.out _ hm);omega
   have EE:Ext W2 W2:=zr _;refine bodyPost_ret (v:=.agg #[.int .i64 op,.int .i64 oa,.int .i64 obb]) (by simp[results,Tryz.results42,go_sem,d0,d1,d2]) rfl ⟨by rw[hE.out],F2,?_,?_,SUB.out⟩
   ·rw[hE.out,HR.out];exact((OM3.out.setX hgA hF2 _).setX hgA hF2 _).setX hgA hF2 _
   ·exact((CH3.out.setNew (Nat.le_refl _) ltg _).setNew (Nat.le_refl _) ltg _).setNew (Nat.le_refl _) ltg _
 ·rw[hst] at x2;have hE:zBb c p t=(c,M.oz):=by unfold zBb;rw[if_pos hst]
  clear hst;go_upto_region 1 with (fail)
  refine zA2 (fun W=>Ext w W/\Bk W w.heap.size [.int .i64 0,.int .i64 0,.int .i64 0] 61) ⟨(zr _).alloc _,Bk.new _ _ _⟩ ?_
  rintro W ⟨e1,kA⟩;have y2:=(zA0 e1 ltg).trans x2;obtain⟨a0,a1,a2⟩:=Bk.k3 kA;have af:=kA.fz;have E1:=zh e1;have KA:=zh kA;clear e1 x0 x1 x2 q0 q1 q2 hc;go_wp2;refine bodyPost_ret (v:=.agg #[.int .i64 0,.int .i64 0,.int .i64 0]) (by simp[results,Tryz.results42,go_sem,a0,a1,a2]) rfl ⟨by rw[hE];rfl,F,by rw[hE];exact HO.out.ext (((E1.out.set (Nat.le_refl _) _).set (Nat.le_refl _) _).set (Nat.le_refl _) _),Chg.ofExt (((E1.out.set (Nat.le_refl _) _).set (Nat.le_refl _) _).set (Nat.le_refl _) _) ltg,fun k hk=>hk⟩
end Sk
