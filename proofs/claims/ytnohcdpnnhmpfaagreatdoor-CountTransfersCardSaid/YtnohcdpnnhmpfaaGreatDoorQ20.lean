/-
  Chapter 13, Transfer: fractions reckoned with, by what they are.
  Chapter 13, the reference's Transfer: fractions of digits, by what they are; where their rows lie.
  Chapter 13: copies of lists of ints. (Picked out of AuE.)
  Chapter 13: sorted[int]. Printed by tools/gensorted.py.
  Chapter 13, Transfer: count.weight; (*hall).totals.
-/
import Derived.Test.YtnohcdpnnhmpfaaGreatDoorQ19
import Derived.Test.YtnohcdpnnhmpfaaGreatDoorQ12
import Derived.Test.YtnohcdpnnhmpfaaGreatDoorQ03
import Derived.Test.YtnohcdpnnhmpfaaGreatDoorQ18
import Derived.Lib.SliceRun
set_option linter.unusedVariables false
set_option linter.unusedSimpArgs false
set_option maxRecDepth 100000
set_option maxHeartbeats 4000000
namespace Go.Proofs.YtnohcdpnnhmpfaaGreatDoor.TR
open Go.RowKit Tryz ML FRP AU CT FM
theorem ZE(n:Nat)(w:World)(hn:n<18446744073709551616):Calls prog 118 #[.int .u64 (n:Int)] w fun e w'=> ∃a b,e=.returned (.agg #[a,b])∧FrV w' (Fr.wh n) a b∧Below w.heap.size w w':=
 (jfk n w hn).mono fun e w' ⟨on,od,cn,cd,he,hf,hb⟩=>⟨_,_,he,⟨on,cn,od,cd,rfl,rfl,hf⟩,hb⟩
theorem jjJ {x y:Fr}{a b c d:Value}(w:World)(hx:FrV w x a b)(hy:FrV w y c d)(ox:x.ok)(oy:y.ok)(lx:Qg x)(ly:Qg y):
 Calls prog 48 #[.agg #[a,b],.agg #[c,d]] w fun e w'=> ∃a' b',e=.returned (.agg #[a',b'])∧FrV w' (x.add y) a' b'∧Below w.heap.size w w':=by
 obtain⟨oa,ca,ob,cb,rfl,rfl,h1⟩:=hx;obtain⟨oc,cc,od,cd,rfl,rfl,h2⟩:=hy;have:=lx.ln;have:=lx.ld;have:=ly.ln;have:=ly.ld;exact(jfl x.n x.d y.n y.d oa ob oc od ca cb cc cd w h1 h2 (kf ox.1 oy.1) (by omega) (by omega) (by omega) (by omega)).mono fun e w' ⟨on,om,cn,cm,he,hf,hb⟩=>⟨_,_,he,⟨on,cn,om,cm,rfl,rfl,hf⟩,hb⟩
theorem jkR {x y:Fr}{a b c d:Value}(w:World)(hx:FrV w x a b)(hy:FrV w y c d)(ox:x.ok)(oy:y.ok)(lx:Qg x)(ly:Qg y):
 Calls prog 170 #[.agg #[a,b],.agg #[c,d]] w fun e w'=> ∃a' b',e=.returned (.agg #[a',b'])∧FrV w' (x.mul y) a' b'∧Below w.heap.size w w':=by
 obtain⟨oa,ca,ob,cb,rfl,rfl,h1⟩:=hx;obtain⟨oc,cc,od,cd,rfl,rfl,h2⟩:=hy;have:=lx.ln;have:=lx.ld;have:=ly.ln;have:=ly.ld;exact(ZZ x.n x.d y.n y.d oa ob oc od ca cb cc cd w h1 h2 (kf ox.1 oy.1) (by omega) (by omega) (by omega) (by omega)).mono fun e w' ⟨on,om,cn,cm,he,hf,hb⟩=>⟨_,_,he,⟨on,cn,om,cm,rfl,rfl,hf⟩,hb⟩
theorem jle {x y:Fr}{a b c d:Value}(w:World)(hx:FrV w x a b)(hy:FrV w y c d)(ox:x.ok)(oy:y.ok)(hle:y.v≤x.v)(lx:Qg x)(ly:Qg y):
 Calls prog 132 #[.agg #[a,b],.agg #[c,d]] w fun e w'=> ∃a' b',e=.returned (.agg #[a',b'])∧FrV w' (x.sub y) a' b'∧Below w.heap.size w w':=by
 obtain⟨oa,ca,ob,cb,rfl,rfl,h1⟩:=hx;obtain⟨oc,cc,od,cd,rfl,rfl,h2⟩:=hy;have:=lx.ln;have:=lx.ld;have:=ly.ln;have:=ly.ld;exact(jdY x.n x.d y.n y.d oa ob oc od ca cb cc cd w h1 h2 (kf ox.1 oy.1) ((Fr.le_iff oy.1 ox.1).1 hle) (by omega) (by omega) (by omega) (by omega)).mono fun e w' ⟨on,om,cn,cm,he,hf,hb⟩=>⟨_,_,he,⟨on,cn,om,cm,rfl,rfl,hf⟩,hb⟩
theorem jjO {x y:Fr}{a b c d:Value}(w:World)(hx:FrV w x a b)(hy:FrV w y c d)(ox:x.ok)(hy0:0<y.n)(lx:Qg x)(ly:Qg y):
 Calls prog 119 #[.agg #[a,b],.agg #[c,d]] w fun e w'=> ∃a' b',e=.returned (.agg #[a',b'])∧FrV w' (x.div y) a' b'∧Below w.heap.size w w':=by
 obtain⟨oa,ca,ob,cb,rfl,rfl,h1⟩:=hx;obtain⟨oc,cc,od,cd,rfl,rfl,h2⟩:=hy;have:=lx.ln;have:=lx.ld;have:=ly.ln;have:=ly.ld;exact(jfm x.n x.d y.n y.d oa ob oc od ca cb cc cd w h1 h2 (kf ox.1 hy0) (by omega) (by omega) (by omega) (by omega)).mono fun e w' ⟨on,om,cn,cm,he,hf,hb⟩=>⟨_,_,he,⟨on,cn,om,cm,rfl,rfl,hf⟩,hb⟩
def Qe(x y:Fr):Int:=NL.Jd (x.n*y.d) (y.n*x.d)
theorem Kh {x y:Fr}(ox:0<x.d)(oy:0<y.d):(Qe x y= -1∧x.v<y.v)∨(Qe x y=0∧x.v=y.v)∨(Qe x y=1∧y.v<x.v):=by
 unfold Qe;rcases Nat.lt_trichotomy (x.n*y.d) (y.n*x.d)with h|h|h;·exact .inl ⟨NL.Ve h,(Fr.lt_iff ox oy).2 h⟩
 ·refine .inr (.inl ⟨by rw [h];exact NL.YX _,?_⟩);exact Rat.le_antisymm ((Fr.le_iff ox oy).2 (kg h)) ((Fr.le_iff oy ox).2 (kg h.symm))
 ·exact .inr (.inr ⟨NL.Vf h,(Fr.lt_iff oy ox).2 h⟩)
theorem jlD {x y:Fr}{a b c d:Value}(w:World)(hx:FrV w x a b)(hy:FrV w y c d)(lx:Qg x)(ly:Qg y):
 Calls prog 51 #[.agg #[a,b],.agg #[c,d]] w fun e w'=>e=.returned (.int .i64 (Qe x y))∧Below w.heap.size w w':=by
 obtain⟨oa,ca,ob,cb,rfl,rfl,h1⟩:=hx;obtain⟨oc,cc,od,cd,rfl,rfl,h2⟩:=hy;have:=lx.ln;have:=lx.ld;have:=ly.ln;have:=ly.ld;exact jgG x.n x.d y.n y.d oa ob oc od ca cb cc cd w h1 h2 (by omega) (by omega) (by omega) (by omega)
def txt(x:Fr):Bytes×Bytes:=(Qj x.n,Qj x.d)
theorem jfL {x:Fr}{a b:Value}(w:World)(hx:FrV w x a b)(lx:Qg x):
 Calls prog 72 #[.agg #[a,b]] w fun e w'=>e=.returned (.agg #[.string ⟨(txt x).1.toArray⟩,.string ⟨(txt x).2.toArray⟩])∧Below w.heap.size w w':=by
 obtain⟨oa,ca,ob,cb,rfl,rfl,h1⟩:=hx;have:=lx.ln;have:=lx.ld;exact jbO x.n x.d oa ob ca cb w h1 (by omega) (by omega)
theorem jfg {w:World}{B:Nat}{a b:Value}{t:TypeId}(h:w.heap[B]?=some (.cells #[a,b] t (0,0))): ∀j u,([a,b]:List Value)[j]?=some u→w.cell? ((⟨B,0,none⟩:Addr).add j)=some u:=zG h
theorem zF(a b:Value)(h1:a.oneCell'=true)(h2:b.oneCell'=true):(#[a,b]:Array Value).all (·.oneCell')=true:=by simp [h1,h2]
theorem jjh(w:World):Calls prog 117 #[] w fun e w'=> ∃a b,e=.returned (.agg #[a,b])∧FrV w' zero a b∧Below w.heap.size w w':=by
 have QN:=jA (fun w=>ZE 0 w (by decide));have HS:=jA zn;go_enter Tryz.func117,Tryz.ntmps117;go_upto_region 1 with(fail);generalize hB:w.heap.size=B at*;refine xP (fun w1=>Below B w w1∧w1.heap[B]?=some (.cells #[.slice none 0 0,.slice none 0 0] 90 (0,0))) ⟨by rw [←hB];exact(jN _ _).alloc (jO _) _,by rw [←hB];exact xN rfl⟩ (fun w1 hw1=>?_);have B1:=jA hw1.1;have HC1:=jA hw1.2;have HB:=jA hB;have hB1:B<w1.heap.size:=lt_of_heap hw1.2;clear hw1 hB;go_wp2_with (first
  |(refine xM rfl rfl 90 _ _ rfl B #[.slice none 0 0,.slice none 0 0] #[a,b] 90 rfl rfl HC2.u rfl HS.u (zF _ _ F2.u.noLimb.2.2.1 F2.u.noLimb.2.2.2) ?_;intro w3 ho hp)
  |(go_at_call 118;refine(QN.u w1).mono ?_;rintro e w2 ⟨a,b,rfl,f2,bel2⟩;have F2:=jA f2;have B2:=jA (B1.u.trans (bel2.mono (jZ hB1)));have HC2:=jA (xK bel2 hB1 HC1.u);clear f2 bel2))
 have t:Trn 90 0 (some B) w2 w3:=Trn.of_only ho HC2.u (ji _) (fun u hu=>by simp at hu;subst hu;rfl);refine jm (jw rfl _ w3 B _ _ _ _ rfl hp underlying90 rfl HS.u) rfl ⟨a,b,rfl,t.fr F2.u,by rw [HB.u];exact xQ B2.u ho (jO _)⟩
def NrV(w:World)(x:Fr)(a b:Value):Prop:= ∃oa ca ob cb,a=.slice oa (ND.dig x.n).length ca∧b=.slice ob (ND.dig x.d).length cb∧NFr w x.n x.d oa ob
theorem NrV.below {w w':World}{x:Fr}{a b:Value}(h:NrV w x a b)(hb:Below w.heap.size w w'):NrV w' x a b:=by
 obtain⟨oa,ca,ob,cb,h1,h2,h3⟩:=h;exact⟨oa,ca,ob,cb,h1,h2,h3.below hb⟩
theorem NrV.one {w:World}{x:Fr}{a b:Value}(h:NrV w x a b):a.oneCell'=true∧b.oneCell'=true:=by
 obtain⟨oa,ca,ob,cb,rfl,rfl,_⟩:=h;exact⟨rfl,rfl⟩
def Yy(p:Nat→Prop)(a b:Value):Prop:=(∀x,a.ownBlock=some x→p x)∧(∀x,b.ownBlock=some x→p x)
theorem Yy.imp {p q:Nat→Prop}{a b:Value}(h:Yy p a b)(hpq: ∀x,p x→q x):Yy q a b:=⟨fun x hx=>hpq x (h.1 x hx),fun x hx=>hpq x (h.2 x hx)⟩
theorem ZT {M:Nat}{oa ob:Option Addr}{n m ca cb:Nat}(h1: ∀a,oa=some a→M≤a.block)(h2: ∀a,ob=some a→M≤a.block):Yy (fun x=>M≤x) (.slice oa n ca) (.slice ob m cb):=by
 constructor
 ·intro x hx;cases oa with
  |none=>cases hx
  |some a=>injection hx with hx;subst hx;exact h1 a rfl
 ·intro x hx;cases ob with
  |none=>cases hx
  |some a=>injection hx with hx;subst hx;exact h2 a rfl
theorem XH(n:Nat)(w:World)(hn:n<9223372036854775808):Calls prog 33 #[.int .i64 (n:Int)] w fun e w'=> ∃a b,e=.returned (.agg #[a,b])∧NrV w' (Fr.wh n) a b∧Below w.heap.size w w'∧Yy (fun x=>w.heap.size≤x) a b:=
 (jdt n w hn).mono fun e w' ⟨on,od,cn,cd,he,hf,hb,f1,f2⟩=>⟨_,_,he,⟨on,cn,od,cd,rfl,rfl,hf⟩,hb,ZT f1 f2⟩
theorem jhc {x y:Fr}{a b c d:Value}(w:World)(hx:NrV w x a b)(hy:NrV w y c d)(ox:x.ok)(oy:y.ok)(lx:Qg x)(ly:Qg y):
 Calls prog 36 #[.agg #[a,b],.agg #[c,d]] w fun e w'=> ∃a' b',e=.returned (.agg #[a',b'])∧NrV w' (x.add y) a' b'∧Below w.heap.size w w'∧Yy (fun x=>w.heap.size≤x) a' b':=by
 obtain⟨oa,ca,ob,cb,rfl,rfl,h1⟩:=hx;obtain⟨oc,cc,od,cd,rfl,rfl,h2⟩:=hy;have:=lx.dn;have:=lx.dd;have:=ly.dn;have:=ly.dd;exact(jeD x.n x.d y.n y.d oa ob oc od ca cb cc cd w h1 h2 (kf ox.1 oy.1) (by omega) (by omega) (by omega) (by omega)).mono fun e w' ⟨on,om,cn,cm,he,hf,hb,f1,f2⟩=>⟨_,_,he,⟨on,cn,om,cm,rfl,rfl,hf⟩,hb,ZT f1 f2⟩
theorem jjD {x y:Fr}{a b c d:Value}(w:World)(hx:NrV w x a b)(hy:NrV w y c d)(ox:x.ok)(oy:y.ok)(lx:Qg x)(ly:Qg y):
 Calls prog 44 #[.agg #[a,b],.agg #[c,d]] w fun e w'=> ∃a' b',e=.returned (.agg #[a',b'])∧NrV w' (x.mul y) a' b'∧Below w.heap.size w w'∧Yy (fun x=>w.heap.size≤x) a' b':=by
 obtain⟨oa,ca,ob,cb,rfl,rfl,h1⟩:=hx;obtain⟨oc,cc,od,cd,rfl,rfl,h2⟩:=hy;have:=lx.dn;have:=lx.dd;have:=ly.dn;have:=ly.dd;exact(jdu x.n x.d y.n y.d oa ob oc od ca cb cc cd w h1 h2 (kf ox.1 oy.1) (by omega) (by omega) (by omega) (by omega)).mono fun e w' ⟨on,om,cn,cm,he,hf,hb,f1,f2⟩=>⟨_,_,he,⟨on,cn,om,cm,rfl,rfl,hf⟩,hb,ZT f1 f2⟩
theorem jjE {x y:Fr}{a b c d:Value}(w:World)(hx:NrV w x a b)(hy:NrV w y c d)(ox:x.ok)(oy:y.ok)(hle:y.v≤x.v)(lx:Qg x)(ly:Qg y):
 Calls prog 43 #[.agg #[a,b],.agg #[c,d]] w fun e w'=> ∃a' b',e=.returned (.agg #[a',b'])∧NrV w' (x.sub y) a' b'∧Below w.heap.size w w'∧Yy (fun x=>w.heap.size≤x) a' b':=by
 obtain⟨oa,ca,ob,cb,rfl,rfl,h1⟩:=hx;obtain⟨oc,cc,od,cd,rfl,rfl,h2⟩:=hy;have:=lx.dn;have:=lx.dd;have:=ly.dn;have:=ly.dd;exact(jdx x.n x.d y.n y.d oa ob oc od ca cb cc cd w h1 h2 (kf ox.1 oy.1) ((Fr.le_iff oy.1 ox.1).1 hle) (by omega) (by omega) (by omega) (by omega)).mono fun e w' ⟨on,om,cn,cm,he,hf,hb,f1,f2⟩=>⟨_,_,he,⟨on,cn,om,cm,rfl,rfl,hf⟩,hb,ZT f1 f2⟩
theorem jhd {x y:Fr}{a b c d:Value}(w:World)(hx:NrV w x a b)(hy:NrV w y c d)(ox:x.ok)(hy0:0<y.n)(lx:Qg x)(ly:Qg y):
 Calls prog 32 #[.agg #[a,b],.agg #[c,d]] w fun e w'=> ∃a' b',e=.returned (.agg #[a',b'])∧NrV w' (x.div y) a' b'∧Below w.heap.size w w'∧Yy (fun x=>w.heap.size≤x) a' b':=by
 obtain⟨oa,ca,ob,cb,rfl,rfl,h1⟩:=hx;obtain⟨oc,cc,od,cd,rfl,rfl,h2⟩:=hy;have:=lx.dn;have:=lx.dd;have:=ly.dn;have:=ly.dd;exact(jeE x.n x.d y.n y.d oa ob oc od ca cb cc cd w h1 h2 (kf ox.1 hy0) (by omega) (by omega) (by omega) (by omega)).mono fun e w' ⟨on,om,cn,cm,he,hf,hb,f1,f2⟩=>⟨_,_,he,⟨on,cn,om,cm,rfl,rfl,hf⟩,hb,ZT f1 f2⟩
theorem jbd {x y:Fr}{a b c d:Value}(w:World)(hx:NrV w x a b)(hy:NrV w y c d)(lx:Qg x)(ly:Qg y):
 Calls prog 39 #[.agg #[a,b],.agg #[c,d]] w fun e w'=>e=.returned (.int .i64 (Qe x y))∧Below w.heap.size w w':=by
 obtain⟨oa,ca,ob,cb,rfl,rfl,h1⟩:=hx;obtain⟨oc,cc,od,cd,rfl,rfl,h2⟩:=hy;have:=lx.dn;have:=lx.dd;have:=ly.dn;have:=ly.dd;exact jdw x.n x.d y.n y.d oa ob oc od ca cb cc cd w h1 h2 (by omega) (by omega) (by omega) (by omega)
theorem jdA {x:Fr}{a b:Value}(w:World)(hx:NrV w x a b)(lx:Qg x):
 Calls prog 34 #[.agg #[a,b]] w fun e w'=>e=.returned (.agg #[.string ⟨(txt x).1.toArray⟩,.string ⟨(txt x).2.toArray⟩])∧Below w.heap.size w w':=by
 obtain⟨oa,ca,ob,cb,rfl,rfl,h1⟩:=hx;have:=lx.dn;have:=lx.dd;exact jeC x.n x.d oa ob ca cb w h1 (by omega) (by omega)
end Go.Proofs.YtnohcdpnnhmpfaaGreatDoor.TR
namespace Go.Proofs.YtnohcdpnnhmpfaaGreatDoor
open Go.RowKit Tryz ML FM AU CT
theorem jcI {w:World}{a:Addr}{L:List Int}(h:yj w (some a) L): ∀j u,(xU L)[j]?=some u→w.cell? (a.add j)=some u:=fun j u hj=>by
 unfold xU at hj;rw [qK]at hj;obtain⟨x,hx,rfl⟩:=Option.map_eq_some_iff.1 hj;obtain⟨hl,rfl⟩:=xA.1 hx;obtain⟨a',ha,_,hc⟩:=h.cells j hl;cases ha;exact hc
theorem Vr(oa:Option Addr)(L:List Int)(cap:Nat)(w:World)(h:yj w oa L)(hl:L.length<140737488355):
 Calls prog 126 #[.slice oa L.length cap] w fun e w'=> ∃ob cb,e=.returned (.slice ob L.length cb)∧w'.ownsRow w.heap.size 3 1 (.slice ob L.length cb) L.length (xU L)∧Below w.heap.size w w':=by
 obtain⟨i0,hi,hz0,hz1,hz2⟩:=info_parts KL;have I0:=jA hi;have IZ0:=jA hz0;have IZ1:=jA hz1;have IZ2:=jA hz2;clear hi hz0 hz1 hz2;have H:=jA h;clear h;cases oa with
 |
  none=>
  have hL:L= []:=by
   cases L with
   |nil=>rfl
   |cons x r=>obtain⟨a,ha,_⟩:=H.u.cells 0 (by simp);cases ha
  subst hL;have qE:=Lib.run_eql_slice_nil (P:=prog) w 29 3 none 0 cap 0 0 underlying29;simp only [Option.isNone_none]at qE;go_enter Tryz.func126,Tryz.ntmps126;go_wp2_with fail;go_ret;exact⟨none,0,rfl,qA _ _ _ _,jN _ _⟩
 |
  some a=>
  have qE:=Lib.run_eql_slice_nil (P:=prog) w 29 3 (some a) L.length cap 0 0 underlying29;simp only [Option.isNone_some]at qE;go_enter Tryz.func126,Tryz.ntmps126;go_wp2_with (at_builtin;refine kQ _ rfl (.tmp 5) (.tmp 6) 29 rfl w.heap.size 3 i0 (.int .i64 0) 1 8 underlying29 I0.u IZ0.u IZ1.u IZ2.u rfl (by decide) (.slice (some ⟨w.heap.size,0,none⟩) 0 0) 0 [] rfl (World.ownsRow_lit w #[] 0 (jO _) (by unfold maxLen;omega) rfl) a L.length cap (xU L) rfl (by simp [xU]) (jcI (H.u.below ((jN _ _).alloc (jO _) _))) (Qu _) (by unfold maxLen;omega) (by omega) (by simp) ?_;intro v' w2 own hg _);go_ret;simp only [js,kj]at own;obtain⟨ob,cb,rfl,_,_⟩:=zz own;exact⟨ob,cb,rfl,own,((jN _ _).alloc (jO _) _).grown hg (by simp) (fun q hq=>by simp [Value.ownBlock]at hq;omega)⟩
def orI(x y:Int):Int:=if x=0 then y else x
theorem jlP(x y:Int)(g:Nat)(cap:Nat)(w:World)(h0:w.cell? ⟨g,0,none⟩=some (.int .i64 x))(h1:w.cell? ⟨g,1,none⟩=some (.int .i64 y)):
 Calls prog 142 #[.slice (some ⟨g,0,none⟩) 2 cap] w fun e w'=>e=.returned (.int .i64 (orI x y))∧w=w':=by
 have H0:=jA h0;have H1:=jA h1;clear h0 h1;go_enter Tryz.func142,Tryz.ntmps142;go_wp2_with fail
 go_loop [8] (fun i=> ∃k:Nat,k≤2∧i=.int .i64 k∧(1≤k→x=0)∧(2≤k→y=0)) (fun i=>2-(intOf i).toNat)
 case atStart=>exact⟨0,by omega,rfl,fun h=>by omega,fun h=>by omega⟩
 case round=>
 obtain⟨k,hk,rfl,hx,hy⟩:=hrel;have HX:=jA hx;have HY:=jA hy;clear hx hy;rcases(show k=0∨k=1∨k=2 by omega)with rfl|rfl|rfl
 ·have h0:=H0.u;by_cases hz:x=0
  ·have b1:(x !=0)=false:=by rw [hz];rfl
   have HZ:=jA hz;clear hz;go_wp2_with fail
   go_round
   case rel=>exact⟨1,by omega,rfl,fun _=>HZ.u,fun h=>by omega⟩
   case measure=>simp [intOf]
  ·have b1:(x !=0)=true:=by simp [hz]
   have HZ:=jA (show orI x y=x from jT hz);clear hz;go_wp2_with fail;go_ret;exact⟨by rw [HZ.u];rfl,rfl⟩
 ·have h1:=H1.u;have HX0:=jA (show orI x y=y from jR (HX.u (by omega)));by_cases hz:y=0
  ·have b1:(y !=0)=false:=by rw [hz];rfl
   have HZ:=jA hz;clear hz;go_wp2_with fail
   go_round
   case rel=>exact⟨2,by omega,rfl,fun _=>HX.u (by omega),fun _=>HZ.u⟩
   case measure=>simp [intOf]
  ·have b1:(y !=0)=true:=by simp [hz]
   clear hz;go_wp2_with fail;go_ret;exact⟨by rw [HX0.u];rfl,rfl⟩
 ·have HX0:=jA (show orI x y=0 by unfold orI;rw [jR (HX.u (by omega)),HY.u (by omega)]);go_wp2_with fail;go_ret;exact⟨by rw [HX0.u];rfl,rfl⟩
structure SrtAt(w:World)(p q r:Nat)(r6:List Value)(V P:List Int):Prop where
 hp:w.heap[p]?=some (.cells #[.func (.func 101) #[] #[]] 107 (0,0))
 hq: ∃ov cv,w.heap[q]?=some (.cells #[.slice ov V.length cv] 29 (0,0))∧yj w ov V
 hr: ∃oP cP,w.heap[r]?=some (.cells (r6++ [Value.slice oP P.length cP]).toArray 62 (0,0))∧yj w oP P
 h6:r6.length=6
def cmpV(V P:List Int)(a b:Int):Int:=orI (Jd (V.getD b.toNat 0) (V.getD a.toNat 0)) (P.getD a.toNat 0-P.getD b.toNat 0)
theorem XQ {M:Nat}{w0 w':World}(h: ∃x:xS M w0,w'=x.w){a:Addr}{v:Value}(hb:a.block<M)(hc:w0.cell? a=some v):w'.cell? a=some v:=by
 obtain⟨x,rfl⟩:=h;exact(x.2.cell hb).trans hc
theorem jiv(n:Nat)(h:n≤12)(w:World):Calls prog 161 #[.int .u64 n] w fun e w'=>(∃k,e=.returned (.int .i64 k))∧w=w':=by
 rcases(show n=0∨n=1∨n=2∨n=3∨n=4∨n=5∨n=6∨n=7∨n=8∨n=9∨n=10∨n=11∨n=12 by omega)with rfl|rfl|rfl|rfl|rfl|rfl|rfl|rfl|rfl|rfl|rfl|rfl|rfl<;>clear h
 all_goals
  go_enter Tryz.func161,Tryz.ntmps161;go_wp2_with fail;go_ret;exact⟨⟨_,rfl⟩,rfl⟩
theorem jli(n:Nat)(h:n≤12)(w:World):Calls prog 112 #[.int .u64 n] w fun e w'=>(∃k,e=.returned (.int .i64 k))∧w=w':=by
 have Q:=jA (fun w=>jiv n h w);clear h;go_enter Tryz.func112,Tryz.ntmps112;go_wp2_with (go_at_call 161;refine(Q.u _).mono ?_;rintro e w1 ⟨⟨k,rfl⟩,rfl⟩);go_ret;exact⟨⟨_,rfl⟩,rfl⟩
end Go.Proofs.YtnohcdpnnhmpfaaGreatDoor
namespace Go.Proofs.YtnohcdpnnhmpfaaGreatDoor.TR
open Go.RowKit Tryz ML FRP AU CT FM
structure jjd(w:World)(oa:Option Addr)(xs:List Value):Prop where
 cells: ∀i (h:i<xs.length),∃a,oa=some a∧a.block<w.heap.size∧w.cell? (a.add i)=some xs[i]
theorem jjd.below {w w1:World}{oa:Option Addr}{xs:List Value}(h:jjd w oa xs)(hb:Below w.heap.size w w1):jjd w1 oa xs:=⟨fun i hi=>by
 obtain⟨a,h1,h2,h3⟩:=h.cells i hi;exact⟨a,h1,jV h2 hb.size,by rw [hb.cell (by rw [xy];exact h2)];exact h3⟩⟩
theorem Xx {w:World}{base:Nat}{e:TypeId}{v:Value}{n:Nat}{xs:List Value}(h:w.ownsRow base e 1 v n xs): ∃oa cap,v=.slice oa n cap∧n≤cap∧jjd w oa xs:=by
 have hl:=h.1;rcases h.2 with⟨hv,h0⟩|⟨g,cap,cur,hv,hb,hg,hnc,_,hc,ht⟩
 ·have:xs= []:=kY.1 (by omega);subst this;exact⟨none,0,by rw [hv,h0],by omega,⟨fun i hi=>by simp at hi⟩⟩
 ·exact⟨some ⟨g,0,none⟩,cap,hv,hnc,⟨fun i hi=>⟨_,rfl,lt_of_heap hg,h.cells (g:=g) (by rw [hv];rfl) i xs[i] (by simp [hi])⟩⟩⟩
theorem jjG(K:HK)(L:List Nat):(KC K L).length=L.length:=by simp [KC]
theorem jiJ(a:Fr)(l:List Fr)(x:Fr):QH a (l++ [x])=(QH a l).add x:=by simp [QH]
theorem jcw {w:World}{p:Nat}{r x y z:Value}{T:TypeId}(h:w.heap[p]?=some (.cells #[r,x,y,z] T (0,0))): ∀j u,([x,y]:List Value)[j]?=some u→w.cell? ((⟨p,1,none⟩:Addr).add j)=some u:=
 jaO h _ (fun j u hj=>by match j with|0=>exact hj|1=>exact hj|_+2=>cases hj)
theorem jaS(K:HK)(q:Fr)(S:St)(G:HG)(w:World)(hH:xZ K q S G w)(L:List Nat)(hL: ∀k∈L,k<K.m)(oa:Option Addr)(cap:Nat)(hV:jjd w oa (KC K L))(hl:L.length≤4096)
 (hs: ∀j,j≤L.length→Sml (QH zero ((L.take j).map fun k=>(S.V k).wt))) (hw: ∀k∈L,Sml (S.V k).wt):
 Calls prog 74 #[.slice oa L.length cap] w fun e w'=> ∃a b,e=.returned (.agg #[a,b])∧FrV w' (QH zero (L.map fun k=>(S.V k).wt)) a b∧Below w.heap.size w w':=by
 have QZ:=jA (fun w=>jjh w);have HS:=jA zn;have HH:=jA hH;have HL:=jA hL;have HV:=jA hV;have HSm:=jA hs;have HW:=jA hw;clear hH hL hV hs hw;go_enter Tryz.func74,Tryz.ntmps74;go_upto_region 1 with(fail);generalize hB:w.heap.size=B at*;refine xP (fun w1=>Below B w w1∧w1.heap[B]?=some (.cells #[.slice none 0 0,.slice none 0 0] 90 (0,0))) ⟨by rw [←hB];exact(jN _ _).alloc (jO _) _,by rw [←hB];exact xN rfl⟩ (fun w1 hw1=>?_);have B1:=jA hw1.1;have HC1:=jA hw1.2;have HB:=jA hB;have hB1:B<w1.heap.size:=lt_of_heap hw1.2;clear hw1 hB;go_upto_region 2 with(first
  |(go_at_call 117;refine(QZ.u w1).mono ?_;rintro e w2 ⟨a0,b0,rfl,f2,bel2⟩;have F2:=jA f2;have B2:=jA bel2;clear f2 bel2)
  |(refine xM rfl rfl 90 _ _ rfl w2.heap.size #[.slice none 0 0,.slice none 0 0] #[a0,b0] 90 rfl rfl (xN rfl) rfl HS.u (zF _ _ F2.u.noLimb.2.2.1 F2.u.noLimb.2.2.2) ?_;intro w4 ho hp))
 have hb4:Below w2.heap.size w2 w4:=xQ ((jN _ _).alloc (jO _) _) ho (jO _);have F4:=jA (F2.u.below hb4);have C4:=jA hp;have D4:=jA (xK hb4 (jV hB1 B2.u.size) (xK B2.u hB1 HC1.u));have B4:=jA (B1.u.trans ((B2.u.trans (hb4.mono B2.u.size)).mono (jZ hB1)));have hBC:B<w2.heap.size:=jV hB1 B2.u.size;clear ho hp hb4 F2 B2 HC1 B1;generalize w2.heap.size=C at*;clear hB1;go_wp2_with fail;go_loopw [9] (fun v wr=> ∃(k:Nat) (a b:Value),v=.int .i64 k∧k≤L.length∧FrV wr (QH zero ((L.take k).map fun k=>(S.V k).wt)) a b∧wr.heap[C]?=some (.cells #[a,b] 90 (0,0))∧wr.heap[B]?=some (.cells #[.slice none 0 0,.slice none 0 0] 90 (0,0))∧Below B w wr) (fun v _=>L.length-(intOf v).toNat);case atStart=>exact⟨0,a0,b0,rfl,ji _,F4.u,C4.u,D4.u,B4.u⟩
 case round=>
 obtain⟨k,a,b,rfl,hk,hf,hc,hd,hb⟩:=hrel;have F:=jA hf;have C':=jA hc;have D':=jA hd;have BR:=jA hb;have hCr:C<wr.heap.size:=lt_of_heap hc;clear hf hc hd hb F4 C4 D4 B4;by_cases hlt:k<L.length;case neg=>
  have dk:decide ((k:Int)<(L.length:Int))=false:=jS (by omega);have dk2:decide (k<L.length)=false:=jS hlt;obtain rfl:k=L.length:=by omega
  rw [kG]at F;have c1:wr.cell? ⟨C,0,none⟩=some a:=jM wr C 0 _ _ _ C'.u;have c2:wr.cell? ⟨C,1,none⟩=some b:=jM wr C 1 _ _ _ C'.u;go_wp2_with (first
   |(refine xM rfl rfl 90 _ _ rfl B #[.slice none 0 0,.slice none 0 0] #[a,b] 90 rfl rfl D'.u rfl HS.u (zF _ _ F.u.noLimb.2.2.1 F.u.noLimb.2.2.2) ?_;intro w5 ho hp))
  have t:Trn 90 0 (some B) wr w5:=Trn.of_only ho D'.u (ji _) (fun u hu=>by simp at hu;subst hu;rfl);refine jm (jw rfl _ w5 B _ _ _ _ rfl hp underlying90 rfl HS.u) rfl ⟨a,b,rfl,t.fr F.u,by rw [HB.u];exact xQ BR.u ho (jO _)⟩
 have dk:decide ((k:Int)<(L.length:Int))=true:=jQ (by omega);have dk2:decide (k<L.length)=true:=jQ hlt;have dki:(k:Int)<(L.length:Int):=by omega
 obtain⟨p,hoa,hpb,hpc0⟩:=(HV.u.below (HB.u.symm▸BR.u)).cells k (by rw [jjG];exact hlt);have hpc:wr.cell? (p.add k)=some (.pointer (some ⟨K.pb L[k],0,none⟩)):=by rw [hpc0];simp [KC]
 clear hpc0;have hkm:=HL.u _ (jj hlt);have HR:=jA (HH.u.below (HB.u.symm▸BR.u));have PK:=jA (HR.u.papers _ hkm);unfold Xa at PK;have FW:=jA (HR.u.wts _ hkm);have SW:=jA (HW.u _ (jj hlt));have S0:=jA (HSm.u k (by omega));have HTK:=jA (show QH zero ((L.take (k+1)).map fun k=>(S.V k).wt)=(QH zero ((L.take k).map fun k=>(S.V k).wt)).add (S.V L[k]).wt by rw [jk hlt,qx,List.map_singleton,jiJ]);subst hoa;generalize (S.V L[k]).wt=y at*;generalize QH zero ((L.take k).map fun k=>(S.V k).wt)=x at*;generalize G.wn L[k]=c at*;generalize G.wd L[k]=d at*;generalize K.pb L[k]=pk at*;generalize K.rn L[k]=rn at*;generalize K.rg L[k]=rg at*;generalize (S.V L[k]).rk.length=rl at*;generalize (S.V L[k]).nx=nx at*;have hpl:pk<wr.heap.size:=lt_of_heap PK.u;have QP:=jA (jjJ wr.drew (Trn.fr (Trn.of_below (jN _ _).drew 0 0) F.u) (Trn.fr (Trn.of_below (jN _ _).drew 0 0) FW.u) S0.u.ok SW.u.ok S0.u.lens SW.u.lens);go_upto_region 5 with(fail);refine Seg.xL (fun w'=> ∃x:xS wr.heap.size wr,w'=x.w) [] [0,1,2,3,4] 5 (by kernel_rfl) (by kernel_rfl) (fun _ _ d _ _ h=>by cases d<;>exact h) (⟨⟨_,(jN _ _).drew⟩,rfl⟩) ?_;simp only [jK,Seg.opAt,Seg.xW];refine xV rfl 90 _ rfl ⟨C,0,none⟩ [a,b] _ rfl (fun w' hw'=>by obtain⟨x,rfl⟩:=hw';exact jfg (xK x.2 hCr C'.u)) underlying90 rfl HS.u ?_;first|go_big_quiet_step (fail)|quiet_step (fail)
 first|go_big_quiet_step (fail)|quiet_step (fail)
 first|go_big_quiet_step (fail)|quiet_step (fail)
 refine xV rfl 90 _ rfl ⟨pk,1,none⟩ [c,d] _ rfl (fun w' hw'=>by obtain⟨x,rfl⟩:=hw';exact jcw (xK x.2 hpl PK.u)) underlying90 rfl HS.u ?_;refine jP ?_;go_wp2_with (first
  |(go_at_call 48;refine QP.u.mono ?_;rintro e w2' ⟨a',b',rfl,f2,bel2⟩;have F2:=jA f2;have B2:=jA (yV bel2);have C2:=jA (xK (yV bel2) hCr C'.u);have D2:=jA (xK (yV bel2) (lt_of_heap D'.u) D'.u);clear f2 bel2)
  |(refine xM rfl rfl 90 _ _ rfl C #[a,b] #[a',b'] 90 rfl rfl C2.u rfl HS.u (zF _ _ F2.u.noLimb.2.2.1 F2.u.noLimb.2.2.2) ?_;intro w5 ho hp))
 have hn:=F.u.noLimb
 have t:Trn 90 0 (some C) w2' w5:=Trn.of_only ho C2.u (ji _) (fun u hu=>by
  simp only [jg,jv,jx]at hu;rcases hu with rfl|rfl;·exact hn.1
  ·exact hn.2.1)
 have D5:=t.keepX D2.u (by intro e;injection e with e;omega);go_roundw;case rel=>exact⟨k+1,a',b',by go_num,by omega,by rw [HTK.u];exact t.fr F2.u,hp,D5,xQ (BR.u.trans (B2.u.mono (by have:=lt_of_heap D'.u;omega))) ho (by omega)⟩
 case measure=>simp [intOf];omega
theorem Zq:(prog.info? 90).map (fun i=>(i.zero,i.size,i.bytes))=some (some (.agg #[.slice none 0 0,.slice none 0 0]),2,48):=by kernel_rfl
theorem info_parts {P:Program}{T:TypeId}{z:Value}{s b:Nat}(h:(P.info? T).map (fun i=>(i.zero,i.size,i.bytes))=some (some z,s,b)): ∃i,P.info? T=some i∧i.zero=some z∧i.size=s∧i.bytes=b:=by
 cases hi:P.info? T with
 |none=>rw [hi]at h;cases h
 |some i=>rw [hi]at h;simp at h;exact⟨i,rfl,h.1,h.2.1,h.2.2⟩
theorem jgV {p:Value→Prop}{a b:Value}(h1:p a)(h2:p b): ∀u∈ [a,b],p u:=fun u hu=>by
 simp only [jg,jv,jx]at hu;rcases hu with rfl|rfl;·exact h1
 ·exact h2
def yg(n:Nat)(xa xb:Nat→Value):List Value:=(List.range n).flatMap fun i=> [xa i,xb i]
theorem zw(n:Nat)(xa xb:Nat→Value):(yg n xa xb).length=n*2:=by
 induction n with
 |zero=>rfl
 |succ n ih=>unfold yg at*;rw [qi,vF,ja,ih];simp;omega
theorem jgA(n:Nat)(xa xb:Nat→Value)(a b:Value):yg (n+1) (upd xa n a) (upd xb n b)=yg n xa xb++ [a,b]:=by
 unfold yg;rw [qi,vF];have h: ∀m,m≤n→(List.range m).flatMap (fun i=> [upd xa n a i,upd xb n b i])=(List.range m).flatMap fun i=> [xa i,xb i]:=by
  intro m hm
  induction m with
  |zero=>rfl
  |succ m ih=>rw [qi,vF,vF,ih (by omega)];simp [xX _ _ _ _ (show m≠n by omega)]
 rw [h n (jO _)];simp [xT]
theorem Kd(n:Nat)(xa xb:Nat→Value)(i:Nat)(hi:i<n):(yg n xa xb)[i*2]?=some (xa i)∧(yg n xa xb)[i*2+1]?=some (xb i):=by
 induction n with
 |zero=>omega
 |
  succ n ih=>
  have h1:yg (n+1) xa xb=yg n xa xb++ [xa n,xb n]:=by unfold yg;rw [qi,vF];simp
  rw [h1];by_cases h:i<n
  ·rw [qJ (by rw [zw];omega),qJ (by rw [zw];omega)];exact ih h
  ·obtain rfl:i=n:=by omega
   rw [ke (by rw [zw];omega),ke (by rw [zw];omega),zw];simp
structure Je(w:World)(base:Nat)(n:Nat)(T:Nat→Fr)(v:Value)(xa xb:Nat→Value):Prop where
 row:GRow noLimb w base 90 2 v n (yg n xa xb)
 frs: ∀i,i<n→FrV w (T i) (xa i) (xb i)
theorem Je.below {w w':World}{base n:Nat}{T:Nat→Fr}{v:Value}{xa xb:Nat→Value}(h:Je w base n T v xa xb)(hb:Below w.heap.size w w'):Je w' base n T v xa xb:=⟨h.row.below hb,fun i hi=>(h.frs i hi).below hb⟩
theorem jix {w:World}{B:Nat}{n:Nat}{xa xb:Nat→Value}{T:TypeId}(h:w.heap[B]?=some (.cells (yg n xa xb).toArray T (0,0))){i:Nat}(hi:i<n): ∀j u,([xa i,xb i]:List Value)[j]?=some u→w.cell? ((⟨B,i*2,none⟩:Addr).add j)=some u:=
 jaO h _ (fun j u hj=>by
  obtain⟨h1,h2⟩:=Kd n xa xb i hi
  match j with
  |0=>simpa using h1.trans hj
  |1=>simpa using h2.trans hj
  |_+2=>cases hj)
theorem YO {K:HK}{G:HG}{w:World}(h:w.heap[K.wb]?=some (.cells (jaR K G) 113 (0,0))){i:Nat}(hi:i<K.c.op.length):w.cell? ⟨K.wb,i,none⟩=some (G.pv i):=by
 rw [jM w K.wb i _ _ _ h];unfold jaR;simp [hi]
theorem jfK(K:HK)(q:Fr)(S:St)(G:HG)(w:World)(hH:xZ K q S G w)(hn:K.c.op.length≤12)(hm:K.m≤4096)(T:Nat→Fr)
 (hs: ∀i,i<K.c.op.length→ ∀j,j≤(G.PL (some i)).length→Sml (QH zero (((G.PL (some i)).take j).map fun k=>(S.V k).wt))) (hw: ∀k,k<K.m→Sml (S.V k).wt)
 (hT: ∀i,i<K.c.op.length→(QH zero ((G.PL (some i)).map fun k=>(S.V k).wt)).add (S.kept i)=T i∧Sml (T i)∧Sml (S.kept i)):
 Calls prog 73 #[.pointer (some ⟨K.hb,0,none⟩)] w fun e w'=> ∃v xa xb,e=.returned v∧Je w' w.heap.size K.c.op.length T v xa xb∧Below w.heap.size w w':=by
 have QW:=jA (fun(w1:World) (h1:xZ K q S G w1) (i:Nat) (hi:i<K.c.op.length) (oa:Option Addr) (cap:Nat) (hv:jjd w1 oa (KC K (G.PL (some i))))=>jaS K q S G w1 h1 (G.PL (some i)) (fun k hk=>((h1.pls _).2 k hk).1) oa cap hv (by
  have h2: ∀k∈G.PL (some i),k∈List.range K.m:=fun k hk=>jf.2 ((h1.pls _).2 k hk).1;have:=qQ (h1.pls (some i)).1 h2;rw [kZ]at this;omega) (hs i hi) (fun k hk=>hw k ((h1.pls _).2 k hk).1))
 have HS:=jA zn;have HH:=jA hH;have HT:=jA hT;have HSm:=jA hs;obtain⟨i0,hi0,hz0,hz1,hz2⟩:=info_parts Zq;have I0:=jA hi0;have IZ0:=jA hz0;have IZ1:=jA hz1;have IZ2:=jA hz2;have k9:w.cell? ⟨K.hb,9,none⟩=some (.slice (some ⟨K.wb,0,none⟩) K.c.op.length K.c.op.length):=jM w K.hb 9 _ _ _ hH.hall;obtain⟨n,hnn⟩: ∃n,n=K.c.op.length:=⟨_,rfl⟩;rw [←hnn]at k9 hn QW HT HSm ⊢;have HN:=jA hnn;clear hH hT hs hw hi0 hz0 hz1 hz2 hnn;go_enter Tryz.func73,Tryz.ntmps73;generalize hB:w.heap.size=B at*;have HB:=jA hB;clear hB;go_upto_region 3 with(fail);clear k9;go_loopw [10,3] (fun v l wr=> ∃(k:Nat) (xa xb:Nat→Value),v=.int .i64 k∧k≤n∧Je wr B k T l xa xb∧Below B w wr) (fun v _ _=>n-(intOf v).toNat);case atStart=>exact⟨0,fun _=>undef,fun _=>undef,rfl,ji _,⟨GRow.nil,fun i hi=>by omega⟩,jN _ _⟩
 case round=>
 obtain⟨k,xa,xb,rfl,hk,ht,hb⟩:=hrel;have TA:=jA ht;have BR:=jA hb;have hBr:B≤wr.heap.size:=by rw [←HB.u];exact(HB.u.symm▸hb).size
 clear ht hb;by_cases hlt:k<n;case neg=>
  have dk:decide ((k:Int)<(n:Int))=false:=jS (by omega);have dk2:decide (k<n)=false:=jS hlt;obtain rfl:k=n:=by omega
  go_wp2_with fail;go_ret;exact⟨_,xa,xb,rfl,TA.u,BR.u⟩
 have dk:decide ((k:Int)<(n:Int))=true:=jQ (by omega);have dk2:decide (k<n)=true:=jQ hlt;have dki:(k:Int)<(n:Int):=by omega
 have HR:=jA (HH.u.below (HB.u.symm▸BR.u));have hkn:k<K.c.op.length:=by rw [←HN.u];exact hlt
 obtain⟨op,cp,hpv,hpc,hva⟩:=Xx (HR.u.piles k hkn).own;have HVA:=jA hva;obtain⟨hTk,hT1,hT2⟩:=HT.u k hlt;have HTK:=jA hTk;have HT1:=jA hT1;have HT2:=jA hT2;have HP0:=jA (by have:=HSm.u k hlt _ (jO _);rwa [kG]at this);have FK:=jA (HR.u.keps k hkn);have h9:K.hb<wr.heap.size:=lt_of_heap HR.u.hall;have hwl:K.wb<wr.heap.size:=lt_of_heap HR.u.withs;have hkl:K.kb<wr.heap.size:=lt_of_heap HR.u.kepts;have d1: ∀x:xS wr.heap.size wr,x.w.cell? ⟨K.hb,9,none⟩=some (.slice (some ⟨K.wb,0,none⟩) n n):=fun x=>by rw [HN.u];exact jM _ K.hb 9 _ _ _ (xK x.2 h9 HR.u.hall)
 have d2: ∀x:xS wr.heap.size wr,x.w.cell? ⟨K.hb,11,none⟩=some (.slice (some ⟨K.kb,0,none⟩) n n):=fun x=>by rw [HN.u];exact jM _ K.hb 11 _ _ _ (xK x.2 h9 HR.u.hall)
 have d3: ∀x:xS wr.heap.size wr,x.w.cell? ⟨K.wb,k,none⟩=some (.slice op (G.PL (some k)).length cp):=fun x=>by rw [←hpv];exact YO (xK x.2 hwl HR.u.withs) hkn
 have KB:=jA (show wr.heap[K.kb]?=some (.cells (yg n G.kn G.kd).toArray 90 (0,0))by rw [HN.u];exact HR.u.kepts);clear hva hTk hT1 hT2 hpc;go_upto_region 5 with(fail);refine Seg.xL (fun w'=> ∃x:xS wr.heap.size wr,w'=x.w) [([0,1,2,3,4,5,6,7,9,10,11,12,13,14,15],8),([],16),([],17)] [] 18 (by kernel_rfl) (by kernel_rfl) (fun _ _ d _ _ h=>by cases d<;>exact h) (⟨⟨_,(jN _ _).drew⟩,rfl⟩) ?_;simp only [jK,Seg.opAt,Seg.xW];first|go_big_quiet_step (fail)|quiet_step (fail)
 first|go_big_quiet_step (fail)|quiet_step (fail)
 first|go_big_quiet_step (fail)|quiet_step (fail)
 first|go_big_quiet_step (fail)|quiet_step (fail)
 first|go_big_quiet_step (fail)|quiet_step (fail)
 first|go_big_quiet_step (fail)|quiet_step (fail)
 first|go_big_quiet_step (fail)|quiet_step (fail)
 first|go_big_quiet_step (fail)|quiet_step (fail)
 first|go_big_quiet_step (fail)|quiet_step (fail)
 first|go_big_quiet_step (fail)|quiet_step (fail)
 first|go_big_quiet_step (fail)|quiet_step (fail)
 first|go_big_quiet_step (fail)|quiet_step (fail)
 first|go_big_quiet_step (fail)|quiet_step (fail)
 first|go_big_quiet_step (fail)|quiet_step (fail)
 refine xV rfl 90 _ rfl ⟨K.kb,k*2,none⟩ [G.kn k,G.kd k] _ rfl (fun w' hw'=>by obtain⟨x,rfl⟩:=hw';exact jix (xK x.2 hkl KB.u) hlt) underlying90 rfl HS.u ?_;refine jP ?_;intro Kc hK;simp only [Region.wanted,jY];have QW':=jA (QW.u wr.drew (HR.u.below (jN _ _).drew) k hlt op cp (HVA.u.below (jN _ _).drew));go_wp2_with (go_at_call 74;refine QW'.u.mono ?_;rintro e w2 ⟨a,b,rfl,f2,bel2⟩);have F2:=jA f2;have B2:=jA (yV bel2);refine hK _ _ ⟨⟨w2,B2.u⟩,rfl⟩ ?_;clear hK Kc f2 bel2 d1 d2 d3 QW';repeat (any_goals (first|go_big_quiet_step (fail)|quiet_step (fail)))
 refine jP ?_;intro Kc hK;first|go_simp|skip
 have QP:=jA (jjJ w2 F2.u (FK.u.below B2.u) HP0.u.ok HT2.u.ok HP0.u.lens HT2.u.lens);go_wp2_with (go_at_call 48;refine QP.u.mono ?_;rintro e w3 ⟨a',b',rfl,f3,bel3⟩);have F3:=jA f3;have B3:=jA (B2.u.trans (bel3.mono B2.u.size));refine hK _ _ ⟨⟨w3,B3.u⟩,rfl⟩ ?_;clear hK Kc f3 bel3 QP F2 B2;repeat (any_goals (first|go_big_quiet_step (fail)|quiet_step (fail)))
 refine jP ?_;intro Kc hK;first|go_simp|skip
 go_wp2_with fail;have bh:Below w3.heap.size w3 (w3.alloc (.cells #[a',b'] 90)):=(jN _ _).alloc (jO _) _;have ed:(w3.alloc (.cells #[a',b'] 90)).heap[w3.heap.size]?=some (.cells #[a',b'] 90 (0,0)):=xN rfl;have F4:=jA (F3.u.below bh);have B4:=jA (B3.u.trans (bh.mono B3.u.size));refine hK _ _ ⟨⟨_,B4.u⟩,rfl⟩ ?_;clear hK Kc bh F3;generalize (w3.alloc (.cells #[a',b'] 90))=w4 at*;generalize w3.heap.size=C at*;clear B3;have TB:=jA (TA.u.below B4.u);repeat (any_goals (first|go_big_quiet_step (fail)|quiet_step (fail)))
 refine jP ?_;go_wp2_with (at_builtin;refine yS (good:=noLimb) _ rfl (.tmp 13) (.tmp 30) 114 rfl B 90 i0 (.agg #[.slice none 0 0,.slice none 0 0]) 2 48 underlying114 I0.u IZ0.u IZ1.u IZ2.u rfl (by decide) (fun u hu=>by simp [Value.cells]at hu;subst hu;rfl) u3 k (yg k xa xb) rfl TB.u.row ⟨C,0,none⟩ 1 1 [a',b'] rfl rfl (zG ed) (jgV (p:=fun u=>u.oneCell'=true) F4.u.noLimb.2.2.1 F4.u.noLimb.2.2.2) (jgV (p:=fun u=>noLimb u=true) F4.u.noLimb.1 F4.u.noLimb.2.1) (fun _=>by decide) (by unfold maxLen;omega) (by omega) (by have:=B4.u.size;omega) _ rfl ?_;intro g9 c9 w5 own hg hf hlt9);have t:Trn 90 B u3.ownBlock w4 w5:=⟨hg,GRow.typed TB.u.row⟩;go_roundw;case rel=>
  refine⟨k+1,upd xa k a',upd xb k b',by go_num,by omega,⟨by rw [jgA];exact own,fun i hi=>?_⟩,?_⟩
  ·by_cases e:i=k;·subst e;rw [xT,xT,←HTK.u];exact t.fr F4.u
   ·rw [xX _ _ _ _ e,xX _ _ _ _ e];exact t.fr (TB.u.frs i (by omega))
  ·exact(BR.u.trans (B4.u.mono hBr)).grown hg (by have:=B4.u.size;omega) (fun x hx=>(t.ty x hx).1)
 case measure=>simp [intOf];omega
end Go.Proofs.YtnohcdpnnhmpfaaGreatDoor.TR
