/- Contracts of functions of the given program. -/
import Derived.Test.YtpjdkfkfmebphaaGreatCutC
namespace Sk
open Go Go.Proofs Go.RowKit
set_option maxHeartbeats 1600000
set_option maxRecDepth 100000
set_option linter.unusedVariables false
set_option linter.unusedSimpArgs false
structure By where
 v:Int
instance instGTBy:GT By where
 default:=⟨0⟩
 sz:=1
 enc _ cs x F:=cs = [.int .u8 x.v]/\0<=x.v/\x.v<=255/\F = []
 pos:=Nat.one_pos
 len:=by rintro w cs x F ⟨rfl,_⟩;rfl
 one:=by rintro w cs x F ⟨rfl,_,_,rfl⟩ u hu;simp at hu;subst hu;rfl
 inh:=by rintro w cs x F ⟨rfl,_,_,rfl⟩ b hb;cases hb
 keep:=by rintro w w' cs x F ⟨rfl,h,h2,rfl⟩ _;exact⟨rfl,h,h2,rfl⟩
 tot _:=0
 ct _:=1
 mkE x _:=x
 mkE_ct _ _:=rfl
 mkE_idem _ _:=rfl
 zc:=[.int .u8 0]
 zero _:=⟨rfl,by decide,by decide,rfl⟩
theorem Rs.atBy{w:World}{a:Option Addr}{n c:Nat}{xs:List By}(h:Rs w (.slice a n c) xs)(k:Nat)(hk:k < xs.length) :
  ∃ b o x,a=some ⟨b,o,none⟩/\b < w.heap.size/\w.cell? ⟨b,o+k,none⟩=some (.int .u8 x)/\0<=x/\x<=255:=by
 obtain⟨b,o,cs,F,x,rfl,hb,hx,⟨rfl,h1,h2,_⟩,ha⟩:=h.at k hk;exact⟨b,o,x.v,rfl,hb,by simpa [GT.sz] using ha 0 _ rfl,h1,h2⟩
def Rsb{α:Type}[GT α](L:Nat)(w:World)(v:Value)(xs:List α):Prop:=∃ F,Sl w v xs F/\∀ k∈F,L<=k
theorem Rsb.rs{α:Type}[GT α]{L:Nat}{w:World}{v:Value}{xs:List α}(h:Rsb L w v xs):Rs w v xs:=by obtain⟨F,h,_⟩:=h;exact⟨F,h⟩
theorem Rsb.mw{α:Type}[GT α]{L:Nat}{w w':World}{v:Value}{xs:List α}{F:List Nat}(h:Rsb L w v xs)(k:Mw F w w')(hF:∀ x∈F,x < L):Rsb L w' v xs:=by
 obtain⟨G,h1,h2⟩:=h;exact⟨G,k.sl h1 (fun y hy hf=>by have:=h2 y hy;have:=hF y hf;omega),h2⟩
theorem Oo.rsb{α:Type}[GT α]{e:TypeId}{L:Nat}{w:World}{v:Value}{xs:List α}(h:Oo e L w v xs):Rsb L w v xs:=by
 obtain⟨F,h1,h2⟩:=h.os;exact⟨F,h1,fun k hk=>(h2.2 k hk).1⟩
def Rd(W w:World)(b:Nat)(m:Nat):Prop :=
 W.heap.size<=b/\Ext W w/\∃ (bs:List By) (a:Option Addr) (c p:Nat),Bk w b [.slice a bs.length c,.int .i64 p] 96/\Rs W (.slice a bs.length c) bs/\bs.length<=2000/\p+m<=1000000000
theorem Rd.lt{W w:World}{b m:Nat}(h:Rd W w b m):b < w.heap.size:=by obtain⟨_,_,_,_,_,_,h,_⟩:=h;exact h.lt
theorem Rd.le{W w:World}{b m m':Nat}(h:Rd W w b m)(k:m'<=m):Rd W w b m':=by
 obtain⟨h1,h2,bs,a,c,p,h3,h4,h5,h6⟩:=h;exact⟨h1,h2,bs,a,c,p,h3,h4,h5,by omega⟩
theorem Rd.mw{W w w':World}{b m:Nat}{F:List Nat}(h:Rd W w b m)(k:Mw F w w')(hb:b ∉ F)(hF:∀ x∈F,W.heap.size<=x):Rd W w' b m:=by
 obtain⟨h1,h2,bs,a,c,p,h3,h4,h5,h6⟩:=h;exact⟨h1,k.ext h2 hF,bs,a,c,p,k.bk h3 hb,h4,h5,h6⟩
theorem Rd.ext{W w w':World}{b m:Nat}(h:Rd W w b m)(k:Ext w w'):Rd W w' b m:=h.mw (F:=[]) (Mw.ofExt k) (by simp) (by simp)
theorem Rd.set{W w:World}{b m:Nat}(h:Rd W w b m){p:Addr}(hp:b≠p.block)(hW:W.heap.size<=p.block)(u:Value):Rd W (w.setCell p u) b m :=
 h.mw (Mw.ofMo ((Mo.refl [p.block] w).set (by simp) u)) (by simpa using hp) (by simpa using hW)
theorem zN5{x y:Int}(hx:0<=x)(hy:0<=y)(hx2:x<=100000000000)(hy2:y<=100000000000):0<=bits .xor .i64 x y/\bits .xor .i64 x y<=137438953471:=by
 obtain⟨a,rfl⟩:∃ a:Nat,x=a:=⟨x.toNat,by omega⟩
 obtain⟨b,rfl⟩:∃ b:Nat,y=b:=⟨y.toNat,by omega⟩
 have h1:a ^^^ b < 2 ^ 37:=Nat.xor_lt_two_pow (by omega) (by omega)
 have h2:bits .xor .i64 (a:Int) (b:Int)=((a ^^^ b:Nat):Int):=by
  show IntKind.i64.wrap (((BitVec.ofInt 64 (a:Int)) ^^^ (BitVec.ofInt 64 (b:Int)):BitVec 64).toNat:Int)=_
  rw[BitVec.toNat_xor,BitVec.ofInt_natCast,BitVec.ofInt_natCast,BitVec.toNat_ofNat,BitVec.toNat_ofNat,Nat.mod_eq_of_lt (by omega),Nat.mod_eq_of_lt (by omega),IntKind.wrap_i64]
  omega
 rw[h2];omega
def PickR(n k:Int):Prop:=0<=k/\(1<=n->k < n)/\(n < 1->k=0)
theorem zAd(W w:World)(b m:Nat)(n:Int)(h:Rd W w b (m+1))(hn:rng n) :
  Calls Tryz.prog 49 #[.pointer (some ⟨b,0,none⟩),.int .i64 n] w fun e w' => ∃ k:Int,e = .returned (.int .i64 k)/\PickR n k/\Mo [b] w w'/\Rd W w' b m:=by
 obtain⟨hb,he,bs,a,c,p,hk,hr,hl,hp⟩:=h;obtain⟨f0,f1⟩:=Bk.k2 hk;have ff:=hk.fz;have hlt:=hk.lt;obtain⟨hn1,hn2⟩:=hn;have HE:=zh he;have HK:=zh hk;have HR:=zh hr;have key:∀ k,Rd W ((w.setCell ⟨b,1,none⟩ (.int .i64 ((p:Int)+1))).drewN k) b m:=fun k =>
  ⟨hb,(he.set hb _).drewN _,bs,a,c,p+1,by
   have:=(hk.set 1 (.int .i64 ((p:Int)+1))).ext ((zr _).drewN k)
   simpa using this,hr,hl,by omega⟩
 have key0:Rd W (w.setCell ⟨b,1,none⟩ (.int .i64 ((p:Int)+1))) b m :=
  ⟨hb,he.set hb _,bs,a,c,p+1,by
   have:=hk.set 1 (.int .i64 ((p:Int)+1))
   simpa using this,hr,hl,by omega⟩
 replace key:=zh key;replace key0:=zh key0;clear he hk hr;have hp2:(p:Int)<=1000000000:=by omega
 by_cases hn3:n < 1
 ·go_enter Tryz.func49,Tryz.ntmps49;go_wp2;go_ret;exact⟨0,rfl,⟨by omega,fun h=>by omega,fun _=>rfl⟩,(Mo.refl _ _).set (by simp) _,key0.out⟩
 ·by_cases hz:bs.length=0
  ·rw[hz] at f0;go_enter Tryz.func49,Tryz.ntmps49;go_wp2;go_ret;exact⟨0,rfl,⟨by omega,fun h=>by omega,fun _=>rfl⟩,(Mo.refl _ _).set (by simp) _,key0.out⟩
  ·by_cases hpl:p < bs.length
   ·obtain⟨b2,o2,x,rfl,hb2,hc,hx1,hx2⟩:=HR.out.atBy p hpl;have hb2':b2≠b:=by omega
    have hc2:(w.setCell ⟨b,1,none⟩ (.int .i64 ((p:Int)+1))).cell? ⟨b2,o2+p,none⟩=some (.int .u8 x):=by
     rw[World.cell?_of_block (zA3 hb2'),zA0 HE.out hb2];exact hc
    go_enter Tryz.func49,Tryz.ntmps49;go_wp2;go_ret;exact⟨x % n,rfl,⟨Int.emod_nonneg _ (by omega),fun _=>Int.emod_lt_of_pos _ (by omega),fun h=>by omega⟩,(Mo.refl _ _).set (by simp) _,key0.out⟩
   ·obtain⟨l,hll⟩:∃ l,l=bs.length:=⟨_,rfl⟩;have hlen0:0 < bs.length:=by omega
    have hq1:=Nat.mod_lt p hlen0;have hq2:=Nat.mod_lt (p*7+3) hlen0;obtain⟨b2,o2,x,rfl,hb2,hc,hx1,hx2⟩:=HR.out.atBy (p % bs.length) hq1;obtain⟨b3,o3,y,e3,hb3,hc',hy1,hy2⟩:=HR.out.atBy ((p*7+3) % bs.length) hq2;cases e3;have hb2':b2≠b:=by omega
    have hc2:(w.setCell ⟨b,1,none⟩ (.int .i64 ((p:Int)+1))).cell? ⟨b2,o2+p % bs.length,none⟩=some (.int .u8 x):=by
     rw[World.cell?_of_block (zA3 hb2'),zA0 HE.out hb2];exact hc
    have hc3:(w.setCell ⟨b,1,none⟩ (.int .i64 ((p:Int)+1))).cell? ⟨b2,o2+(p*7+3) % bs.length,none⟩=some (.int .u8 y):=by
     rw[World.cell?_of_block (zA3 hb2'),zA0 HE.out hb2];exact hc'
    have hpm1:(p:Int)*7<=7000000000:=by omega
    go_enter Tryz.func49,Tryz.ntmps49;go_upto_region 7 with (fail)
    refine zA1 (fun W1=>Mo [b] w W1/\Rd W W1 b m/\W1.cell? ⟨b,0,none⟩=some (.slice (some ⟨b2,o2,none⟩) bs.length c)/\W1.cell? ⟨b2,o2+p % bs.length,none⟩=some (.int .u8 x)/\W1.cell? ⟨b2,o2+(p*7+3) % bs.length,none⟩=some (.int .u8 y)) ⟨(Mo.refl _ _).set (by simp) _,key0.out,by rw[zA5 (by omega)];exact f0,hc2,hc3⟩ ?_
    clear f0 f1 hc hc' hc2 hc3 HK HR HE key key0 ff hll;have hn0:1<=n:=by omega
    have hn00:n≠0:=by omega
    clear hn3;rintro W1 ⟨hmo,hrd,f0,hc2,hc3⟩;replace hmo:=zh hmo;replace hrd:=zh hrd
    generalize hL:bs.length=len at *
    have hi1:((p % len:Nat):Int) < (len:Int):=by omega
    have hi2:(((p*7+3) % len:Nat):Int) < (len:Int):=by omega
    clear hL;have hm1:(p:Int).tmod (len:Int)=((p % len:Nat):Int):=(Int.ofNat_tmod p len).symm;have hm2:((p:Int)*7+3).tmod (len:Int)=(((p*7+3) % len:Nat):Int):=by
     have:=(Int.ofNat_tmod (p*7+3) len).symm
     rw[<- this];congr 1
    have hd1:(p:Int).tdiv (len:Int)=((p / len:Nat):Int):=(Int.ofNat_tdiv p len).symm;have hdl:p / len<=p:=Nat.div_le_self _ _;have hlz:(len:Int)≠0:=by omega
    generalize p % len=r1 at *
    generalize (p*7+3) % len=r2 at *
    generalize p / len=r3 at *
    go_quiet (fail)
    have hT1:0<=x*131+y*1117+(p:Int)*29+(r3:Int)*53:=by omega
    have hT2:x*131+y*1117+(p:Int)*29+(r3:Int)*53<=100000000000:=by omega
    generalize x*131+y*1117+(p:Int)*29+(r3:Int)*53=T at *
    have hX:=zN5 (x:=T) (y:=T / 64) hT1 (by omega) hT2 (by omega)
    obtain⟨hX1,hX2⟩:=hX;have hxt:(bits BinOp.xor IntKind.i64 T (T / 64)).tmod n=bits BinOp.xor IntKind.i64 T (T / 64) % n:=by rw[Int.tmod_eq_emod_of_nonneg hX1]
    replace hxt:=zh hxt;go_wp2;go_ret;exact⟨_,rfl,by first|exact⟨Int.emod_nonneg _ (by omega),fun _=>Int.emod_lt_of_pos _ (by omega),fun h=>by omega⟩|(rw[hxt.out];exact⟨Int.emod_nonneg _ (by omega),fun _=>Int.emod_lt_of_pos _ (by omega),fun h=>by omega⟩),hmo.out.drewN _,hrd.out.ext ((zr _).drewN _)⟩
def RetB(e:Ending):Prop:=∃ q:Bool,e = .returned (.bool q)
theorem zLy(W w:World)(b m:Nat)(n:Int)(h:Rd W w b (m+1))(hn:rng n) :
  Calls Tryz.prog 95 #[.pointer (some ⟨b,0,none⟩),.int .i64 n] w fun e w'=>RetB e/\Mo [b] w w'/\Rd W w' b m:=by
 have H:=zh h;have HN:=zh hn;obtain⟨hn1,hn2⟩:=hn;clear h;by_cases hn3:0 < n
 ·go_enter Tryz.func95,Tryz.ntmps95;go_wp2_with (go_at_call 49;refine(zAd W _ b m n H.out HN.out).mono ?_;rintro e w1 ⟨k,rfl,hk,hm,hr⟩;have HM:=zh hm;have HR:=zh hr;clear hk hm hr)
  go_ret;exact⟨⟨_,rfl⟩,HM.out,HR.out⟩
 ·go_enter Tryz.func95,Tryz.ntmps95;go_wp2;go_ret;exact⟨⟨_,rfl⟩,Mo.refl _ _,H.out.le (by omega)⟩
theorem Rs.take{α:Type}[GT α]{w:World}{a:Option Addr}{n c k:Nat}{xs:List α}(h:Rs w (.slice a n c) xs)(hk:k<=xs.length):Rs w (.slice a k c) (xs.take k):=by
 obtain⟨F,a',c',he,hl,hc,hr⟩:=h;cases he;have hlen:(xs.take k).length=k:=by rw[List.length_take];omega
 rcases hr with ⟨rfl,rfl⟩ | ⟨_,b,o,F',rfl,rfl,hr⟩
 ·exact⟨[],_,c,by rw[hlen],by rw[hlen];exact Nat.le_trans hk hl,hc,.inl ⟨by simp,rfl⟩⟩
 ·rw[<- List.take_append_drop k xs] at hr;obtain⟨F1,F2,rfl,h1,_⟩:=hr.split;by_cases hx:xs.take k = []
  ·exact⟨[],_,c,by rw[hlen],by rw[hlen];exact Nat.le_trans hk hl,hc,.inl ⟨hx,rfl⟩⟩
  ·exact⟨b::F1,_,c,by rw[hlen],by rw[hlen];exact Nat.le_trans hk hl,hc,.inr ⟨hx,b,o,F1,rfl,rfl,h1⟩⟩
theorem zIi(v:Value)(xs:List By)(w:World)(h:Rs w v xs) :
  Calls Tryz.prog 19 #[v] w fun e w' => ∃ b,e = .returned (.pointer (some ⟨b,0,none⟩))/\w.heap.size<=b/\Ext w w'/\Rd w w' b 1000000000:=by
 obtain⟨a,c,rfl,hl⟩:=h.form;have H:=zh h;have hc:xs.length<=c:=by
  obtain⟨_,_,_,e,h1,_⟩:=id h;cases e;exact h1
 clear h;by_cases hx:xs.length<=2000
 ·have key:=Bk.new w [.slice a xs.length c,.int .i64 0] 96;have key2:Rd w (w.alloc (.cells #[.slice a xs.length c,.int .i64 0] 96)) w.heap.size 1000000000:=⟨Nat.le_refl _,(zr _).alloc _,xs,a,c,0,key,H.out,hx,Nat.le_refl _⟩;replace key2:=zh key2;clear key;go_enter Tryz.func19,Tryz.ntmps19;go_wp2;go_ret;exact⟨_,rfl,Nat.le_refl _,(zr _).alloc _,key2.out⟩
 ·have key:=Bk.new w [.slice a 2000 c,.int .i64 0] 96;have hlen:(xs.take 2000).length=2000:=by rw[List.length_take];omega
  have key2:Rd w (w.alloc (.cells #[.slice a 2000 c,.int .i64 0] 96)) w.heap.size 1000000000:=⟨Nat.le_refl _,(zr _).alloc _,xs.take 2000,a,c,0,by rw[hlen];exact key,by rw[hlen];exact H.out.take (by omega),by omega,Nat.le_refl _⟩
  replace key2:=zh key2;clear key hlen;have hc2:(2000:Int)<=(c:Int):=by omega
  have hx2:2000<=c:=by omega
  go_enter Tryz.func19,Tryz.ntmps19;go_wp2;go_ret;exact⟨_,rfl,Nat.le_refl _,(zr _).alloc _,key2.out⟩
theorem Rsb.form{α:Type}[GT α]{L:Nat}{w:World}{v:Value}{xs:List α}(h:Rsb L w v xs):∃ a c,v = .slice a xs.length c/\xs.length<=9223372036854775807:=h.rs.form
theorem zAl{n:Int}(h1 : -1000000<=n)(h2:n<=1000000):rng n:=⟨by omega,by omega⟩
theorem PickR.lt{n k:Int}(h:PickR n k)(hn:1<=n):0<=k/\k < n:=⟨h.1,h.2.1 hn⟩
theorem zNv{u w':World}{b:Nat}{zs:List Int}{T:TypeId}{k n:Int}(hm:Mo [b] (u.alloc (.cells (zs.map fun z=>Value.int .i64 z).toArray T (0,0))) w')(hb:b < u.heap.size)(hk:PickR n k)(hn:n=zs.length)(hz:0 < zs.length) :
  ∃ z,w'.cell? ⟨u.heap.size,k.toNat,none⟩=some (.int .i64 z)/\z∈zs:=by
 have h1:=hk.lt (by omega)
 have hk2:k.toNat < zs.length:=by omega
 refine⟨zs[k.toNat],?_,List.getElem_mem _⟩;rw[hm.cell (by simp;omega)]
 refine(Bk.new u (zs.map fun z=>Value.int .i64 z) T).cell ?_
 simp[hk2]
theorem Rsb.nil{α:Type}[GT α]{L:Nat}{w:World}{a:Option Addr}{n c:Nat}{xs:List α}(h:n=0)(hx:xs = [])(hc:c<=9223372036854775807):Rsb L w (.slice a n c) xs:=by
 subst h;subst hx;exact⟨[],⟨_,c,rfl,Nat.zero_le _,by unfold maxLen;omega,.inl ⟨rfl,rfl⟩⟩,fun k hk=>by cases hk⟩
theorem Mw.cell0{F:List Nat}{a b:World}(h:Mw F a b){p o:Nat}{x:Value}(hc:a.cell? ⟨p,o,none⟩=some x)(hp:p ∉ F)(hl:p < a.heap.size):b.cell? ⟨p,o,none⟩=some x:=(h.cell hp hl).trans hc
theorem zJu(w:World):Calls Tryz.prog 65 #[.agg #[.int .i64 5,.int .i64 2,.bool false],.int .i64 6] w fun e w'=>e = .returned (.bool true)/\Ext w w':=by
 have hi:zA8 6 5 6=true:=by decide
 go_enter Tryz.func65,Tryz.ntmps65;go_wp2_with (go_at_call 35;refine(zAj _ _ _ _).mono ?_;rintro e w' ⟨rfl,rfl⟩)
 go_ret;exact⟨rfl,(zr w).alloc _⟩
theorem zJt(p q:Nat)(w:World)(hp:w.cell? ⟨p,0,none⟩=some (.int .i64 6))(hq:w.cell? ⟨q,0,none⟩=some (.bool false))(hpl:p < w.heap.size)(hql:q < w.heap.size) :
  Calls Tryz.prog 64 #[.agg #[.int .i64 5,.int .i64 2,.bool false],.pointer (some ⟨p,0,none⟩),.pointer (some ⟨q,0,none⟩)] w fun e w'=>e = .returned (.bool true)/\Ext w w':=by
 have HQ:=zh hq;clear hq;go_enter Tryz.func64,Tryz.ntmps64;have HB:=zh ((zr w).alloc (.cells #[.int .i64 5,.int .i64 2,.bool false] 80));have b2:=(Bk.new w [.int .i64 5,.int .i64 2,.bool false] 80);go_wp2_with (go_at_call 65;refine(zJu _).mono ?_;rintro e w1 ⟨rfl,he⟩;have c2:=(b2.ext he).cell (j:=2) rfl;have cq:w1.cell? ⟨q,0,none⟩=some (.bool false):=((zD9 (HB.out.tr he)).1 q 0 hql).trans HQ.out;have HE:=zh (HB.out.tr he);clear he)
 go_ret;exact⟨rfl,HE.out⟩
theorem zKi(v:Value)(w:World)(h:Rs (α:=Window) w v [⟨5,2,false⟩]) :
  Calls Tryz.prog 31 #[v,.int .i64 6,.bool false] w fun e w'=>e = .returned (.int .i64 0)/\Ext w w':=by
 have H:=zh h;obtain⟨a,c,rfl,hl⟩:=h.form;have hv:zGj [⟨5,2,false⟩]=true:=by decide
 clear h;go_enter Tryz.func31,Tryz.ntmps31;go_upto_region 1 with (fail)
 refine zA1 (fun W=>Ext w W/\W.cell? ⟨w.heap.size,0,none⟩=some (.int .i64 6)/\W.cell? ⟨w.heap.size+1,0,none⟩=some (.bool false)/\w.heap.size+1 < W.heap.size) ⟨((zr w).alloc _).alloc _,((Bk.new w [.int .i64 6] 3).ext ((zr _).alloc _)).cell (j:=0) rfl,(Bk.new1 _ _ _ _).cell (j:=0) rfl,by simp⟩ ?_
 rintro W ⟨e0,c0,c1,hz⟩;have HE:=zh e0;have C0:=zh c0;have C1:=zh c1;clear e0 c0 c1
 go_wp2_with (first
  | (go_at_call 62;refine(zCz _ _ _ (H.out.ext HE.out)).mono ?_;rintro e w1 ⟨rfl,he⟩;have HE1:=zh he;have hs1:=he.sz;clear he)
  | (go_at_call 63;refine(zL4 64 #[.pointer (some ⟨w.heap.size,0,none⟩),.pointer (some ⟨w.heap.size+1,0,none⟩)] (fun _=>true) _ _ _ (H.out.ext (HE.out.tr HE1.out)) (zCo Tryz.func64 (by kernel_rfl) (by kernel_rfl)) ?_).mono ?_))
 ·intro w3 v3 x3 he hx hv3;rw[List.mem_singleton] at hx;subst hx;obtain⟨rfl,_,_⟩:=hv3.openWindow;have hb:=(zD9 (HE1.out.tr he)).1;exact zJt _ _ w3 ((hb _ 0 (by omega)).trans C0.out) ((hb _ 0 (by omega)).trans C1.out) (by have:=he.sz;omega) (by have:=he.sz;omega)
 ·rintro e w3 ⟨rfl,he3⟩;have hi:zDk (fun _=>true) [(⟨5,2,false⟩:Window)]=0:=rfl
  have HE3:=zh he3;clear he3;simp only[hi];go_wp2;go_ret;exact⟨rfl,(HE.out.tr HE1.out).tr HE3.out⟩
theorem law_alive(w:World):Calls Tryz.prog 9 #[] w fun e w'=>e = .returned (.bool true)/\Ext w w':=by
 have hr:Rs (α:=Window) ((w.alloc (.cells #[.int .i64 5,.int .i64 2,.bool false] 80))) (.slice (some ⟨w.heap.size,0,none⟩) 1 1) [⟨5,2,false⟩] :=
  ⟨[w.heap.size],_,1,rfl,by simp,by unfold maxLen;omega,.inr ⟨by simp,w.heap.size,0,[],rfl,rfl,Row.lit1 (cs:=[.int .i64 5,.int .i64 2,.bool false]) ⟨rfl,⟨by show _<=(5:Int);omega,by show(5:Int)<=_;omega⟩,⟨by show _<=(2:Int);omega,by show(2:Int)<=_;omega⟩,rfl⟩⟩⟩
 have HR:=zh hr;clear hr;go_enter Tryz.func9,Tryz.ntmps9;go_wp2_with (go_at_call 31;refine(zKi _ _ HR.out).mono ?_;rintro e w1 ⟨rfl,he⟩;have HE:=zh (((zr w).alloc _).tr he);clear he)
 go_ret;exact⟨rfl,HE.out⟩
def Rsx{α:Type}[GT α](G:List Nat)(L:Nat)(w:World)(v:Value)(xs:List α):Prop:=∃ F,Sl w v xs F/\∀ k∈F,L<=k/\k ∉ G
theorem Rsx.mw{α:Type}[GT α]{G F:List Nat}{L:Nat}{w w':World}{v:Value}{xs:List α}(h:Rsx G L w v xs)(k:Mw F w w')(hF:∀ x∈F,x∈G):Rsx G L w' v xs:=by
 obtain⟨K,h1,h2⟩:=h;exact⟨K,k.sl h1 (fun y hy hf=>(h2 y hy).2 (hF y hf)),h2⟩
theorem Rsb.x{α:Type}[GT α]{G:List Nat}{L L':Nat}{w:World}{v:Value}{xs:List α}(h:Rsb L w v xs)(hG:∀ x∈G,x < L\/w.heap.size<=x)(hL:L'<=L):Rsx G L' w v xs:=by
 obtain⟨K,h1,h2⟩:=h;exact⟨K,h1,fun k hk=>⟨Nat.le_trans hL (h2 k hk),fun hm=>by have:=h1.inh k hk;have:=h2 k hk;rcases hG k hm with h|h<;>omega⟩⟩
theorem Rsx.ext{α:Type}[GT α]{G:List Nat}{L:Nat}{w w':World}{v:Value}{xs:List α}(h:Rsx G L w v xs)(k:Ext w w'):Rsx G L w' v xs:=h.mw (F:=[]) (Mw.ofExt k) (by simp)
theorem Rsx.set{α:Type}[GT α]{G:List Nat}{L:Nat}{w:World}{v:Value}{xs:List α}(h:Rsx G L w v xs){p:Addr}(hp:p.block∈G)(u:Value):Rsx G L (w.setCell p u) v xs :=
 h.mw (F:=[p.block]) (Mw.ofMo ((Mo.refl _ _).set (by simp) u)) (by simpa using hp)
theorem Rvb.openS{L:Nat}{w:World}{v:Value}{s:Setup}(h:Rvb L w v s):∃ a0 c0 a1 c1 a2 c2,v = .agg #[.slice a0 s.Parts.length c0,.slice a1 s.Channels.length c1,.slice a2 s.Slots.length c2]/\s.Parts.length<=9223372036854775807/\s.Channels.length<=9223372036854775807/\s.Slots.length<=9223372036854775807:=by
 obtain⟨cs,F,rfl,⟨v0,v1,v2,F0,F1,F2,rfl,h0,h1,h2,rfl⟩,_⟩:=h;obtain⟨a0,c0,rfl,g0⟩:=(show Rs w v0 s.Parts from⟨_,h0⟩).form
 obtain⟨a1,c1,rfl,g1⟩:=(show Rs w v1 s.Channels from⟨_,h1⟩).form
 obtain⟨a2,c2,rfl,g2⟩:=(show Rs w v2 s.Slots from⟨_,h2⟩).form
 exact⟨_,_,_,_,_,_,rfl,g0,g1,g2⟩
theorem Rvb.ext{α:Type}[GT α]{L:Nat}{w w':World}{v:Value}{x : α}(h:Rvb L w v x)(k:Ext w w'):Rvb L w' v x:=by
 obtain⟨cs,F,h1,h2,h3⟩:=h;exact⟨cs,F,h1,GT.ext h2 k,h3⟩
theorem Rvb.set{α:Type}[GT α]{L:Nat}{w:World}{v:Value}{x : α}(h:Rvb L w v x){p:Addr}(hp:p.block < L)(u:Value):Rvb L (w.setCell p u) v x:=by
 obtain⟨cs,F,h1,h2,h3⟩:=h;exact⟨cs,F,h1,GT.keep h2 (fun k hk=>zA3 (by have:=h3 k hk;omega)),h3⟩
theorem Rvb.mw{α:Type}[GT α]{L:Nat}{w w':World}{v:Value}{x : α}{F:List Nat}(h:Rvb L w v x)(k:Mw F w w')(hF:∀ y∈F,y < L):Rvb L w' v x:=by
 obtain⟨cs,G,h1,h2,h3⟩:=h;exact⟨cs,G,h1,k.enc h2 (fun y hy hf=>by have:=h3 y hy;have:=hF y hf;omega),h3⟩
theorem Rvb.mono{α:Type}[GT α]{L L':Nat}{w:World}{v:Value}{x : α}(h:Rvb L w v x)(k:L'<=L):Rvb L' w v x:=by
 obtain⟨cs,F,h1,h2,h3⟩:=h;exact⟨cs,F,h1,h2,fun y hy=>Nat.le_trans k (h3 y hy)⟩
theorem zFn{β:Type}{f : β -> Nat -> β}{m : β -> Nat}(h:∀ x k,f x k=x\/m x < m (f x k))(x : β):∀ k,(zA4 f x k=x/\∀ j,j < k->f x j=x)\/m x < m (zA4 f x k)
 | 0 => .inl ⟨rfl,fun j hj=>absurd hj (Nat.not_lt_zero j)⟩
 | k+1=>by
  show(f (zA4 f x k) k=x/\_)\/m x < m (f (zA4 f x k) k)
  rcases zFn h x k with ⟨h1,h2⟩|h1
  ·rw[h1];rcases h x k with h3|h3
   ·refine .inl ⟨h3,fun j hj=>?_⟩
    by_cases hjk:j=k
    ·subst hjk;exact h3
    ·exact h2 j (by omega)
   ·exact .inr h3
  ·rcases h (zA4 f x k) k with h3|h3
   ·rw[h3];exact .inr h1
   ·exact .inr (Nat.lt_trans h1 h3)
theorem zNx{β:Type}{f : β -> Nat -> β}{m : β -> Nat}(g : β -> β)(hg:∀ x k,f x k=g x)(h:∀ x,g x=x\/m x < m (g x))(x : β):∀ k,g (zA4 f x k)=zA4 f x k\/m x+k<=m (zA4 f x k)
 | 0 => .inr (Nat.le_refl _)
 | k+1=>by
  show g (f (zA4 f x k) k)=f (zA4 f x k) k\/m x+(k+1)<=m (f (zA4 f x k) k)
  rw[hg];rcases zNx g hg h x k with h1|h1
  ·rw[h1];exact .inl h1
  ·rcases h (zA4 f x k) with h2|h2
   ·rw[h2];exact .inl h2
   ·exact .inr (by omega)
theorem zIa(cs:List Channel)(a:Nat)(out:List Bool)(b:Nat):zA9 cs a out b=out\/out.count true < (zA9 cs a out b).count true:=by
 by_cases ha:a < out.length
 ·have hget:out.getD a false=out[a]:=by rw[List.getD_eq_getElem?_getD,List.getElem?_eq_getElem ha];rfl
  cases hx:out.getD a false
  ·cases hy:(out.getD b false && zFy cs a b)
   ·left;unfold zA9;rw[hx,hy]
    show out.set a false=out
    rw[<- hx,hget];exact List.set_getElem_self ha
   ·right;unfold zA9;rw[hx,hy]
    show out.count true < (out.set a true).count true
    rw[List.count_set ha,<- hget,hx];simp
  ·left;unfold zA9;rw[hx]
   show out.set a true=out
   rw[<- hx,hget];exact List.set_getElem_self ha
 ·left;unfold zA9;exact List.set_eq_of_length_le (by omega)
theorem zJe(cs:List Channel)(n:Nat)(out:List Bool)(a:Nat):zAs cs n out a=out\/out.count true < (zAs cs n out a).count true:=by
 rcases zFn (m:=fun o:List Bool=>o.count true) (zIa cs a) out n with h|h
 ·exact .inl h.1
 ·exact .inr h
theorem zLe(cs:List Channel)(n:Nat)(out:List Bool)(k:Nat):zAb cs n out k=out\/out.count true < (zAb cs n out k).count true:=by
 rcases zFn (m:=fun o:List Bool=>o.count true) (zJe cs n) out n with h|h
 ·exact .inl h.1
 ·exact .inr h
theorem zDe{l:List Bool}{i:Nat}(h:i < l.length)(y:Bool):(l.set i y).getD i false=y:=by
 rw[List.getD_eq_getElem?_getD,List.getElem?_set_self h];rfl
theorem zGk{l:List Bool}{i j:Nat}(h:i≠j)(y:Bool):(l.set i y).getD j false=l.getD j false:=by
 rw[List.getD_eq_getElem?_getD,List.getElem?_set_ne h,List.getD_eq_getElem?_getD]
theorem zJp{l:List Bool}{i:Nat}(h:l.getD i false=true):i < l.length:=by
 by_cases hi:i < l.length
 ·exact hi
 ·rw[List.getD_eq_getElem?_getD,List.getElem?_eq_none (by omega)] at h;cases h
theorem zJd(cs:List Channel)(n k:Nat)(P:List Bool->Prop)(h0:P ((List.replicate n false).set k true))(hs:∀ out a b,P out->P (zA9 cs a out b)):P (zBc cs n k) :=
 zDg P h0 (fun x _ h=>zDg P h (fun y a h'=>zDg P h' (fun z b h''=>hs z a b h'') n) n) n
theorem zM4(cs:List Channel){n k:Nat}(hk:k < n):(zBc cs n k).getD k false=true:=by
 refine zJd cs n k (fun o=>o.getD k false=true) (zDe (by simpa using hk) true) fun out a b h=>?_
 unfold zA9;by_cases hak:a=k
 ·subst hak;rw[zDe (zJp h),h];rfl
 ·rw[zGk hak];exact h
theorem zLc(cs:List Channel){n k:Nat}(S:Nat->Prop)(hk:S k)(hS:∀ a b,a < n->b < n->S b->zFy cs a b=true->S a):∀ i,(zBc cs n k).getD i false=true->S i:=by
 refine(zJd cs n k (fun o=>o.length=n/\∀ i,o.getD i false=true->S i) ⟨by simp,fun i hi=>?_⟩ fun out a b h=>?_).2
 ·by_cases hik:k=i
  ·subst hik;exact hk
  ·rw[zGk hik] at hi
   have:=zJp hi
   rw[List.getD_eq_getElem?_getD] at hi;simp at this;simp[this] at hi
 ·refine⟨by unfold zA9;simpa using h.1,fun i hi=>?_⟩
  unfold zA9 at hi;by_cases hai:a=i
  ·subst hai;have ha:=zJp hi;rw[List.length_set] at ha;rw[zDe ha] at hi;rcases Bool.or_eq_true_iff.1 hi with h1|h1
   ·exact h.2 _ h1
   ·obtain⟨h2,h3⟩:=Bool.and_eq_true_iff.1 h1;have hb:=zJp h2;exact hS a b (by omega) (by omega) (h.2 _ h2) h3
  ·rw[zGk hai] at hi;exact h.2 _ hi
theorem zPg(n k:Nat)(hk:k < n):((List.replicate n false).set k true).count true=1:=by
 rw[List.count_set (by simpa using hk)]
 simp[List.count_replicate]
theorem zG5(cs:List Channel){n k:Nat}(hk:k < n){a b:Nat}(ha:a < n)(hb:b < n)(h:(zBc cs n k).getD b false=true)(hd:zFy cs a b=true):(zBc cs n k).getD a false=true:=by
 have hl:=zC0 cs n k;have hfix:zAb cs n (zBc cs n k) 0=zBc cs n k:=by
  rcases zNx (m:=fun o:List Bool=>o.count true) (fun o=>zAb cs n o 0) (fun _ _=>rfl) (fun o=>zLe cs n o 0) ((List.replicate n false).set k true) n with h1|h1
  ·exact h1
  ·have h2:(zBc cs n k).count true<=n:=Nat.le_trans List.count_le_length (Nat.le_of_eq hl);have h3:((List.replicate n false).set k true).count true+n<=(zBc cs n k).count true:=h1;rw[zPg n k hk] at h3;omega
 generalize zBc cs n k=F at *
 rcases zFn (m:=fun o:List Bool=>o.count true) (zJe cs n) F n with h1|h1
 ·have h2:=h1.2 a ha;rcases zFn (m:=fun o:List Bool=>o.count true) (zIa cs a) F n with h3|h3
  ·have h4:=h3.2 b hb;unfold zA9 at h4;rw[h,hd] at h4;simp only[Bool.and_self,Bool.or_true] at h4;rw[<- h4];exact zDe (by omega) true
  ·exfalso
   have:zA4 (zA9 cs a) F n=F:=h2
   rw[this] at h3;exact Nat.lt_irrefl _ h3
 ·exfalso
  have:zA4 (zAs cs n) F n=F:=hfix
  rw[this] at h1;exact Nat.lt_irrefl _ h1
theorem zLd(cs:List Channel){n a b c:Nat}(hc:c < n)(h1:(zBc cs n b).getD a false=true)(h2:(zBc cs n c).getD b false=true):(zBc cs n c).getD a false=true :=
 zLc cs (fun i=>(zBc cs n c).getD i false=true) h2 (fun i j hi hj hS hd=>zG5 cs hc hi hj hS hd) a h1
end Sk
