/- Chapter 13: whole numbers and quotients as fractions, and fractions told (picked out of other templates; count.told's body is nat.told's) Chapter 13, . -/
import Derived.Test.YtnohcdpnnhmpfaaGreatDoorE14
import Derived.Test.YtnohcdpnnhmpfaaGreatDoorE13
set_option linter.all false
set_option maxRecDepth 100000
set_option maxHeartbeats 4000000
namespace Go.Proofs.YtnohcdpnnhmpfaaGreatDoor
open Go.RowKit Tryz ML FM NL
theorem jgW(n:Nat)(w:m0)(hn:n<18446744073709551616):
 Calls prog 118 #[.int .u64 (n:Int)] w fun e w'=> ∃on od cn cd,e=.returned (.agg #[.slice on (dig n).length cn,.slice od (dig 1).length cd])∧LFr w' n 1 on od∧O0 w.heap.size w w':=by
 have QN:=jA (fun w=>jaB n w hn);have QO:=jA (fun w=>jaB 1 w (by decide));have HS:=jA JJ;generalize hl:(dig 1).length=l1 at*;clear hl hn;go_enter Tryz.func118,Tryz.ntmps118;go_upto_region 1 with(fail);generalize hB:w.heap.size=B at*;refine Go.bxE hB ?_;intro w1 ts;have B1:=jA ts.1;have oD:=jA ts.2;have HB:=jA hB;clear ts hB;go_wp2_with (first
  |(refine xg rfl rfl 90 _ _ rfl B #[.slice none 0 0,.slice none 0 0] #[.slice oa (dig n).length ca,.slice ob l1 cb] 90 rfl rfl OX.u rfl HS.u (ze _ _ _ _ _ _) ?_;intro w7 ho hp)
  |(go_at_call 96;refine(QO.u w2).mono ?_;rintro e w3 ⟨ob,cb,rfl,h3,_,ws⟩;have H3:=jA h3;have B3:=jA (B2.u.trans (ws.mono (HB.u▸B2.u.size)));have OX:=jA (xe ws (xZ GH.u) GH.u);have H23:=jA (H2.u.below ws);clear h3 ws)
  |(go_at_call 96;(with_reducible refine(QN.u w1).mono ?_);rintro e w2 ⟨oa,ca,rfl,h2,_,us⟩;have H2:=jA h2;have B2:=jA (B1.u.trans (us.mono (HB.u▸B1.u.size)));have GH:=jA (xe us (xZ oD.u) oD.u);clear h2 us))
 refine jq (kB rfl _ w7 B _ _ _ _ rfl hp underlying90 rfl HS.u) rfl ⟨oa,ob,ca,cb,rfl,⟨H23.u.spared OX.u yf ho,H3.u.spared OX.u yf ho⟩,by rw [HB.u];exact xl B3.u ho (jO _)⟩
theorem jgY(a b c d:Nat)(oa ob oc od:s0)(ca cb cc cd:Nat)(w:m0)(hX:LFr w a b oa ob)(hY:LFr w c d oc od)(h0:0<b*c)(l1:(dig a).length<274877906944)(l2:(dig b).length<274877906944)(l3:(dig c).length<274877906944)(l4:(dig d).length<274877906944):
 Calls prog 119 #[.agg #[.slice oa (dig a).length ca,.slice ob (dig b).length cb],.agg #[.slice oc (dig c).length cc,.slice od (dig d).length cd]] w fun e w'=> ∃on om cn cm,e=.returned (.agg #[.slice on (dig (a*d/Nat.gcd (a*d) (b*c))).length cn,.slice om (dig (b*c/Nat.gcd (a*d) (b*c))).length cm])∧LFr w' (a*d/Nat.gcd (a*d) (b*c)) (b*c/Nat.gcd (a*d) (b*c)) on om∧O0 w.heap.size w w':=by
 have QT:=jA (fun w h1 h2=>jaC a b d c oa ob od oc ca cb cd cc w h1 h2 h0 l1 l2 l4 l3);have HS:=jA JJ;have HX:=jA hX;have HY:=jA hY;generalize a*d/Nat.gcd (a*d) (b*c)=N at*;generalize b*c/Nat.gcd (a*d) (b*c)=D at*;clear hX hY h0 l1 l2 l3 l4;go_enter Tryz.func119,Tryz.ntmps119;go_upto_region 1 with(fail);have BX:=Xp.mk' w #[.slice oa (dig a).length ca,.slice ob (dig b).length cb] #[.slice oc (dig c).length cc,.slice od (dig d).length cd] #[.slice none 0 0,.slice none 0 0] 90 90;generalize hB:w.heap.size=B at*;refine xr (fun w1=>Xp B w w1 #[.slice oa (dig a).length ca,.slice ob (dig b).length cb] #[.slice oc (dig c).length cc,.slice od (dig d).length cd] #[.slice none 0 0,.slice none 0 0] 90 90) BX (fun w1 B1=>?_);have HB:=jA hB;have c1:=jM w1 B 0 _ _ _ B1.x;have c2:=jM w1 B 1 _ _ _ B1.x;have c3:=jM w1 (B+1) 0 _ _ _ B1.y;have c4:=jM w1 (B+1) 1 _ _ _ B1.y;have ny:B+1+1<w1.heap.size:=xZ B1.z;have bu:=jA B1;have W1:=jA (show O0 w.heap.size w w1 by rw [HB.u];exact B1.bel);clear BX hB B1;go_wp2_with (first
  |(go_at_call 170;refine(QT.u w1 (HX.u.below W1.u) ⟨HY.u.den.below W1.u,HY.u.num.below W1.u⟩).mono ?_;rintro e w4 ⟨or,os,cr,cs,rfl,hr,Fs⟩;have HR:=jA hr;have sy:=jA (bu.u.keep (by omega) Fs);have W4:=jA (W1.u.trans (Fs.mono W1.u.size));clear hr Fs)
  |(refine xg rfl rfl 90 _ _ rfl (B+1+1) #[.slice none 0 0,.slice none 0 0] #[.slice or (dig N).length cr,.slice os (dig D).length cs] 90 rfl rfl sy.u.z rfl HS.u (ze _ _ _ _ _ _) ?_;intro w5 ho hp))
 refine jq (kB rfl _ w5 (B+1+1) _ _ _ _ rfl hp underlying90 rfl HS.u) rfl ⟨or,os,cr,cs,rfl,⟨HR.u.num.spared sy.u.z yf ho,HR.u.den.spared sy.u.z yf ho⟩,xl W4.u ho (by rw [HB.u];omega)⟩
theorem jgd:(prog.info? 27).map (·.size)=some 2:=by kernel_rfl
theorem jbk(a b:ByteArray):(#[Value.string a,Value.string b]:t0).all (·.oneCell')=true:=by simp [Value.oneCell']
theorem jdm(n d:Nat)(on od:s0)(cn cd:Nat)(w:m0)(h:LFr w n d on od)(l1:(dig n).length<1099511627776)(l2:(dig d).length<1099511627776):
 Calls prog 72 #[.agg #[.slice on (dig n).length cn,.slice od (dig d).length cd]] w fun e w'=>e=.returned (.agg #[.string ⟨(VU n).toArray⟩,.string ⟨(VU d).toArray⟩])∧O0 w.heap.size w w':=by
 have QN:=jA (fun w h=>jaA n on cn w h l1);have QD:=jA (fun w h=>jaA d od cd w h l2);have HS:=jA jgd;have H:=jA h;clear h l1 l2;generalize VU n=N at*;generalize VU d=D at*;go_enter Tryz.func72,Tryz.ntmps72;go_upto_region 1 with(fail);have BX:=jad.mk' w #[.slice on (dig n).length cn,.slice od (dig d).length cd] #[.string ⟨#[]⟩,.string ⟨#[]⟩] 90 27;generalize hB:w.heap.size=B at*;refine xr (fun w1=>jad B w w1 #[.slice on (dig n).length cn,.slice od (dig d).length cd] #[.string ⟨#[]⟩,.string ⟨#[]⟩] 90 27) BX (fun w1 B1=>?_);have HB:=jA hB;have c1:=jM w1 B 0 _ _ _ B1.x;have c2:=jM w1 B 1 _ _ _ B1.x;have bu:=jA B1;clear BX hB B1;refine Seg.xf (fun w'=> ∃x:xj (B+1) w1,w'=x.w) [([0,1,3,4],2)] [] 5 (by kernel_rfl) (by kernel_rfl) (fun _ _ d _ _ h=>by cases d<;>exact h) (⟨⟨_,(jN _ _).drew⟩,rfl⟩) ?_;simp only [jK,Seg.opAt,Seg.xu];repeat (any_goals (first|go_big_quiet_step (fail)|quiet_step (fail)))
 refine jR ?_;intro K hK;simp only [Region.wanted,jY];have ny:B+1<w1.heap.size:=xZ bu.u.z;have W1:=jA (show O0 w.heap.size w w1 by rw [HB.u];exact bu.u.bel);have sx:=jA (show O0 w.heap.size w w1.drew from W1.u.drew);go_wp2_with (go_at_call 122;(with_reducible refine(QN.u _ (H.u.num.below sx.u)).mono ?_);rintro e w2 ⟨rfl,us⟩);have As:O0 w1.heap.size w1 w2:=yq us;refine hK _ _ ⟨⟨w2,As.mono (by omega)⟩,rfl⟩ ?_;have W2:=jA (W1.u.trans (As.mono W1.u.size));have iv:=jA (bu.u.keep (by omega) As);have GA:B+1<w2.heap.size:=xZ iv.u.z;clear hK K c1 c2 us As QN;repeat (any_goals (first|go_big_quiet_step (fail)|quiet_step (fail)))
 refine jR ?_;go_wp2_with (first
  |(go_at_call 122;refine(QD.u w2 (H.u.den.below W2.u)).mono ?_;rintro e w3 ⟨rfl,ws⟩;have iz:=jA (iv.u.keep (by omega) ws);have W3:=jA (W2.u.trans (ws.mono W2.u.size));clear ws)
  |(refine xg rfl rfl 27 _ _ rfl (B+1) #[.string ⟨#[]⟩,.string ⟨#[]⟩] #[.string ⟨N.toArray⟩,.string ⟨D.toArray⟩] 27 rfl rfl iz.u.z rfl HS.u (jbk _ _) ?_;intro w5 ho hp))
 refine jq (kB rfl _ w5 (B+1) _ _ _ _ rfl hp underlying27 rfl HS.u) rfl ⟨rfl,xl W3.u ho (by rw [HB.u];omega)⟩
end Go.Proofs.YtnohcdpnnhmpfaaGreatDoor
namespace Go.Proofs.YtnohcdpnnhmpfaaGreatDoor.TR
open Go.RowKit Tryz ML FRP AU CT FM
variable{a b c d:n0}
theorem jag(n:Nat)(w:m0)(hn:n<18446744073709551616):Calls prog 118 #[.int .u64 (n:Int)] w fun e w'=> ∃a b,e=.returned (.agg #[a,b])∧FrV w' (Fr.wh n) a b∧O0 w.heap.size w w':=
 (jgW n w hn).mono fun e w' ⟨on,od,cn,cd,he,hf,hb⟩=>⟨_,_,he,⟨on,cn,od,cd,rfl,rfl,hf⟩,hb⟩
theorem jlY {x y:Fr}(w:m0)(hx:FrV w x a b)(hy:FrV w y c d)(ox:x.ok)(oy:y.ok)(lx:VP x)(ly:VP y):
 Calls prog 48 #[.agg #[a,b],.agg #[c,d]] w fun e w'=> ∃a' b',e=.returned (.agg #[a',b'])∧FrV w' (x.add y) a' b'∧O0 w.heap.size w w':=by
 obtain⟨oa,ca,ob,cb,rfl,rfl,h1⟩:=hx;obtain⟨oc,cc,od,cd,rfl,rfl,h2⟩:=hy;have:=lx.ln;have:=lx.ld;have:=ly.ln;have:=ly.ld;exact(jgX x.n x.d y.n y.d oa ob oc od ca cb cc cd w h1 h2 (kr ox.1 oy.1) (by omega) (by omega) (by omega) (by omega)).mono fun e w' ⟨on,om,cn,cm,he,hf,hb⟩=>⟨_,_,he,⟨on,cn,om,cm,rfl,rfl,hf⟩,hb⟩
theorem jnu {x y:Fr}(w:m0)(hx:FrV w x a b)(hy:FrV w y c d)(ox:x.ok)(oy:y.ok)(lx:VP x)(ly:VP y):
 Calls prog 170 #[.agg #[a,b],.agg #[c,d]] w fun e w'=> ∃a' b',e=.returned (.agg #[a',b'])∧FrV w' (x.mul y) a' b'∧O0 w.heap.size w w':=by
 obtain⟨oa,ca,ob,cb,rfl,rfl,h1⟩:=hx;obtain⟨oc,cc,od,cd,rfl,rfl,h2⟩:=hy;have:=lx.ln;have:=lx.ld;have:=ly.ln;have:=ly.ld;exact(jaC x.n x.d y.n y.d oa ob oc od ca cb cc cd w h1 h2 (kr ox.1 oy.1) (by omega) (by omega) (by omega) (by omega)).mono fun e w' ⟨on,om,cn,cm,he,hf,hb⟩=>⟨_,_,he,⟨on,cn,om,cm,rfl,rfl,hf⟩,hb⟩
theorem jnU {x y:Fr}(w:m0)(hx:FrV w x a b)(hy:FrV w y c d)(ox:x.ok)(oy:y.ok)(Az:y.v≤x.v)(lx:VP x)(ly:VP y):
 Calls prog 132 #[.agg #[a,b],.agg #[c,d]] w fun e w'=> ∃a' b',e=.returned (.agg #[a',b'])∧FrV w' (x.sub y) a' b'∧O0 w.heap.size w w':=by
 obtain⟨oa,ca,ob,cb,rfl,rfl,h1⟩:=hx;obtain⟨oc,cc,od,cd,rfl,rfl,h2⟩:=hy;have:=lx.ln;have:=lx.ld;have:=ly.ln;have:=ly.ld;exact(jfG x.n x.d y.n y.d oa ob oc od ca cb cc cd w h1 h2 (kr ox.1 oy.1) ((Fr.le_iff oy.1 ox.1).1 Az) (by omega) (by omega) (by omega) (by omega)).mono fun e w' ⟨on,om,cn,cm,he,hf,hb⟩=>⟨_,_,he,⟨on,cn,om,cm,rfl,rfl,hf⟩,hb⟩
theorem jme {x y:Fr}(w:m0)(hx:FrV w x a b)(hy:FrV w y c d)(ox:x.ok)(Uv:0<y.n)(lx:VP x)(ly:VP y):
 Calls prog 119 #[.agg #[a,b],.agg #[c,d]] w fun e w'=> ∃a' b',e=.returned (.agg #[a',b'])∧FrV w' (x.div y) a' b'∧O0 w.heap.size w w':=by
 obtain⟨oa,ca,ob,cb,rfl,rfl,h1⟩:=hx;obtain⟨oc,cc,od,cd,rfl,rfl,h2⟩:=hy;have:=lx.ln;have:=lx.ld;have:=ly.ln;have:=ly.ld;exact(jgY x.n x.d y.n y.d oa ob oc od ca cb cc cd w h1 h2 (kr ox.1 Uv) (by omega) (by omega) (by omega) (by omega)).mono fun e w' ⟨on,om,cn,cm,he,hf,hb⟩=>⟨_,_,he,⟨on,cn,om,cm,rfl,rfl,hf⟩,hb⟩
def VM(x y:Fr):Int:=NL.Ja (x.n*y.d) (y.n*x.d)
theorem Qb {x y:Fr}(ox:0<x.d)(oy:0<y.d):(VM x y= -1∧x.v<y.v)∨(VM x y=0∧x.v=y.v)∨(VM x y=1∧y.v<x.v):=by
 unfold VM;rcases vf (x.n*y.d) (y.n*x.d)with h|h|h;·exact .inl ⟨NL.XV h,(Fr.lt_iff ox oy).2 h⟩
 ·refine .inr (.inl ⟨by rw [h];exact NL.ZW _,?_⟩);exact Rat.le_antisymm ((Fr.le_iff ox oy).2 (kh h)) ((Fr.le_iff oy ox).2 (kh h.symm))
 ·exact .inr (.inr ⟨NL.XW h,(Fr.lt_iff oy ox).2 h⟩)
theorem jow {x y:Fr}(w:m0)(hx:FrV w x a b)(hy:FrV w y c d)(lx:VP x)(ly:VP y):
 Calls prog 51 #[.agg #[a,b],.agg #[c,d]] w fun e w'=>e=.returned (.int .i64 (VM x y))∧O0 w.heap.size w w':=by
 obtain⟨oa,ca,ob,cb,rfl,rfl,h1⟩:=hx;obtain⟨oc,cc,od,cd,rfl,rfl,h2⟩:=hy;have:=lx.ln;have:=lx.ld;have:=ly.ln;have:=ly.ld;exact jiz x.n x.d y.n y.d oa ob oc od ca cb cc cd w h1 h2 (by omega) (by omega) (by omega) (by omega)
def txt(x:Fr):Bytes×Bytes:=(VU x.n,VU x.d)
theorem jhE {x:Fr}(w:m0)(hx:FrV w x a b)(lx:VP x):
 Calls prog 72 #[.agg #[a,b]] w fun e w'=>e=.returned (.agg #[.string ⟨(txt x).1.toArray⟩,.string ⟨(txt x).2.toArray⟩])∧O0 w.heap.size w w':=by
 obtain⟨oa,ca,ob,cb,rfl,rfl,h1⟩:=hx;have:=lx.ln;have:=lx.ld;exact jdm x.n x.d oa ob ca cb w h1 (by omega) (by omega)
theorem jgR {w:m0}{B:Nat}{t:o0}(h:w.heap[B]?=some (.cells #[a,b] t (0,0))): ∀j u,([a,b]:A0)[j]?=some u→w.cell? ((⟨B,0,none⟩:Addr).add j)=some u:=zK h
theorem zd(a b:n0)(h1:a.oneCell'=true)(h2:b.oneCell'=true):(#[a,b]:t0).all (·.oneCell')=true:=by simp [h1,h2]
theorem jlp(w:m0):Calls prog 117 #[] w fun e w'=> ∃a b,e=.returned (.agg #[a,b])∧FrV w' zero a b∧O0 w.heap.size w w':=by
 have QN:=jA (fun w=>jag 0 w (by decide));have HS:=jA JJ;go_enter Tryz.func117,Tryz.ntmps117;go_upto_region 1 with(fail);generalize hB:w.heap.size=B at*;refine Go.bxE hB ?_;intro w1 ts;have B1:=jA ts.1;have oD:=jA ts.2;have HB:=jA hB;have GE:B<w1.heap.size:=xZ ts.2;clear ts hB;go_wp2_with (first
  |(refine xg rfl rfl 90 _ _ rfl B #[.slice none 0 0,.slice none 0 0] #[a,b] 90 rfl rfl GH.u rfl HS.u (zd _ _ F2.u.noLimb.2.2.1 F2.u.noLimb.2.2.2) ?_;intro w3 ho hp)
  |(go_at_call 118;refine(QN.u w1).mono ?_;rintro e w2 ⟨a,b,rfl,f2,us⟩;have F2:=jA f2;have B2:=jA (B1.u.trans (us.mono (jX GE)));have GH:=jA (xe us GE oD.u);clear f2 us))
 have t:Trn 90 0 (some B) w2 w3:=Trn.of_only ho GH.u (ja _) (fun u hu=>by simp at hu;subst hu;rfl);refine jq (kB rfl _ w3 B _ _ _ _ rfl hp underlying90 rfl HS.u) rfl ⟨a,b,rfl,t.fr F2.u,by rw [HB.u];exact xl B2.u ho (jO _)⟩
end Go.Proofs.YtnohcdpnnhmpfaaGreatDoor.TR
namespace Go.Proofs.YtnohcdpnnhmpfaaGreatDoor
open Go.RowKit Tryz ML FM AU CT
variable{a:Addr}{w:m0}
theorem jeh{L:C0}(h:yW w (some a) L): ∀j u,(xq L)[j]?=some u→w.cell? (a.add j)=some u:=fun j u hj=>by
 unfold xq at hj;rw [qe]at hj;obtain⟨x,hx,rfl⟩:=Option.map_eq_some_iff.1 hj;obtain⟨hl,rfl⟩:=xO.1 hx;obtain⟨a',ha,_,hc⟩:=h.cells j hl;cases ha;exact hc
theorem Qo(oa:s0)(L:C0)(cap:Nat)(w:m0)(h:yW w oa L)(hl:L.length<140737488355):
 Calls prog 126 #[.slice oa L.length cap] w fun e w'=> ∃ob cb,e=.returned (.slice ob L.length cb)∧w'.ownsRow w.heap.size 3 1 (.slice ob L.length cb) L.length (xq L)∧O0 w.heap.size w w':=by
 obtain⟨i0,hi,Is,Ts,Ns⟩:=info_parts KC;have I0:=jA hi;have dN:=jA Is;have bN:=jA Ts;have aN:=jA Ns;clear hi Is Ts Ns;have H:=jA h;clear h;cases oa with
 |
  none=>
  have hL:L= []:=by
   cases L with
   |nil=>rfl
   |cons x r=>obtain⟨a,ha,_⟩:=H.u.cells 0 (by simp);cases ha
  subst hL;have qE:=Lib.run_eql_slice_nil (P:=prog) w 29 3 none 0 cap 0 0 underlying29;simp only [Option.isNone_none]at qE;go_enter Tryz.func126,Tryz.ntmps126;go_wp2_with fail;go_ret;exact⟨none,0,rfl,kg _ _ _ _,jN _ _⟩
 |
  some a=>
  have qE:=Lib.run_eql_slice_nil (P:=prog) w 29 3 (some a) L.length cap 0 0 underlying29;simp only [Option.isNone_some]at qE;go_enter Tryz.func126,Tryz.ntmps126;go_wp2_with (at_builtin;refine kV _ rfl (.tmp 5) (.tmp 6) 29 rfl w.heap.size 3 i0 (.int .i64 0) 1 8 underlying29 I0.u dN.u bN.u aN.u rfl (by decide) (.slice (some ⟨w.heap.size,0,none⟩) 0 0) 0 [] rfl (World.ownsRow_lit w #[] 0 (jO _) (by unfold maxLen;omega) rfl) a L.length cap (xq L) rfl (by simp [xq]) (jeh (H.u.below ((jN _ _).alloc (jO _) _))) (Kb _) (by unfold maxLen;omega) (by omega) (by simp) ?_;intro v' w2 own hg _);go_ret;simp only [jv,vQ]at own;obtain⟨ob,cb,rfl,_,_⟩:=zT own;exact⟨ob,cb,rfl,own,((jN _ _).alloc (jO _) _).grown hg (by simp) (fun q hq=>by simp [Value.ownBlock]at hq;omega)⟩
def orI(x y:Int):Int:=if x=0 then y else x
theorem jmi(x y:Int)(g:Nat)(cap:Nat)(w:m0)(h0:w.cell? ⟨g,0,none⟩=some (.int .i64 x))(h1:w.cell? ⟨g,1,none⟩=some (.int .i64 y)):
 Calls prog 142 #[.slice (some ⟨g,0,none⟩) 2 cap] w fun e w'=>e=.returned (.int .i64 (orI x y))∧w=w':=by
 have H0:=jA h0;have H1:=jA h1;clear h0 h1;go_enter Tryz.func142,Tryz.ntmps142;go_wp2_with fail
 go_loop [8] (fun i=> ∃k:Nat,k≤2∧i=.int .i64 k∧(1≤k→x=0)∧(2≤k→y=0)) (fun i=>2-(intOf i).toNat)
 case atStart=>exact⟨0,by omega,rfl,fun h=>by omega,fun h=>by omega⟩
 case round=>
 obtain⟨k,hk,rfl,hx,hy⟩:=hrel;have HX:=jA hx;have HY:=jA hy;clear hx hy;rcases(show k=0∨k=1∨k=2 by omega)with rfl|rfl|rfl
 ·have h0:=H0.u;by_cases hz:x=0
  ·have b1:(x !=0)=false:=by rw [hz];rfl
   have HZ:=jA hz;clear hz;go_wp2_with fail
   go_round
   case rel=>exact⟨1,by omega,rfl,fun _=>HZ.u,fun h=>by omega⟩
   case measure=>simp [intOf]
  ·have b1:(x !=0)=true:=by simp [hz]
   have HZ:=jA (show orI x y=x from jQ hz);clear hz;go_wp2_with fail;go_ret;exact⟨by rw [HZ.u];rfl,rfl⟩
 ·have h1:=H1.u;have HX0:=jA (show orI x y=y from jP (HX.u (by omega)));by_cases hz:y=0
  ·have b1:(y !=0)=false:=by rw [hz];rfl
   have HZ:=jA hz;clear hz;go_wp2_with fail
   go_round
   case rel=>exact⟨2,by omega,rfl,fun _=>HX.u (by omega),fun _=>HZ.u⟩
   case measure=>simp [intOf]
  ·have b1:(y !=0)=true:=by simp [hz]
   clear hz;go_wp2_with fail;go_ret;exact⟨by rw [HX0.u];rfl,rfl⟩
 ·have HX0:=jA (show orI x y=0 by unfold orI;rw [jP (HX.u (by omega)),HY.u (by omega)]);go_wp2_with fail;go_ret;exact⟨by rw [HX0.u];rfl,rfl⟩
structure jeG(w:m0)(p q r:Nat)(r6:A0)(V P:C0):Prop where
 hp:w.heap[p]?=some (.cells #[.func (.func 101) #[] #[]] 107 (0,0))
 hq: ∃ov cv,w.heap[q]?=some (.cells #[.slice ov V.length cv] 29 (0,0))∧yW w ov V
 hr: ∃oP cP,w.heap[r]?=some (.cells (r6++ [Value.slice oP P.length cP]).toArray 62 (0,0))∧yW w oP P
 h6:r6.length=6
theorem jeG.below {w1:m0}{p q r:Nat}{r6:A0}{V P:C0}(h:jeG w p q r r6 V P)(hb:O0 w.heap.size w w1):jeG w1 p q r r6 V P:=by
 obtain⟨ov,cv,hq,hV⟩:=h.hq;obtain⟨oP,cP,hr,hP⟩:=h.hr;exact⟨xe hb (xZ h.hp) h.hp,⟨ov,cv,xe hb (xZ hq) hq,hV.below hb⟩,⟨oP,cP,xe hb (xZ hr) hr,hP.below hb⟩,h.h6⟩
def jcN(V P:C0)(a b:Int):Int:=orI (Ja (V.getD b.toNat 0) (V.getD a.toNat 0)) (P.getD a.toNat 0-P.getD b.toNat 0)
theorem JO {M:Nat}{w0 w':m0}(h: ∃x:xj M w0,w'=x.w){v:n0}(hb:a.block<M)(hc:w0.cell? a=some v):w'.cell? a=some v:=by
 obtain⟨x,rfl⟩:=h;exact(x.2.cell hb).trans hc
theorem jde(i j:Nat)(p q r:Nat)(r6:A0)(V P:C0)(w:m0)(h:jeG w p q r r6 V P)(hi:i<V.length)(hj:j<V.length)(MO:V.length=P.length)(hl:V.length<1000)(fH: ∀x∈P,0≤x∧x<1000):
 Calls prog 141 #[.int .i64 i,.int .i64 j,.pointer (some ⟨p,0,none⟩),.pointer (some ⟨q,0,none⟩),.pointer (some ⟨r,0,none⟩)] w fun e w'=>e=.returned (.int .i64 (jcN V P i j))∧O0 w.heap.size w w':=by
 obtain⟨ov,cv,hq,hV⟩:=h.hq;obtain⟨oP,cP,hr,hP⟩:=h.hr;have hp:=h.hp;have h6:=h.h6;obtain⟨qv,UH,mQ,hvi⟩:=hV.cells i hi;obtain⟨qv2,pJ, -,hvj⟩:=hV.cells j hj;obtain⟨qp,hop,bM,aM⟩:=hP.cells i (by omega);obtain⟨qp2,sJ, -,hpj⟩:=hP.cells j (by omega);subst UH hop;obtain rfl:qv=qv2:=by injection pJ
 obtain rfl:qp=qp2:=by injection sJ
 have bi:=fH P[i] (jb _);have bj:=fH P[j] (jb _)
 have HE:=jA (show jcN V P i j=orI (Ja V[j] V[i]) (P[i]-P[j])by
  unfold jcN;simp only [ke,jV];rw [kL hi,kL hj,kL (by omega:i<P.length),kL (by omega:j<P.length)];rfl)
 have Q:=jA (fun w=>jmX V[j] V[i] w);have zi:(i:Int)<(V.length:Int):=by omega
 have zj:(j:Int)<(V.length:Int):=by omega
 rw [←MO]at hr;generalize V[i]=vi at*;generalize V[j]=vj at*;generalize P[i]=pi at*;generalize P[j]=pj at*;generalize V.length=n at*;obtain⟨M,hM⟩: ∃M,M=w.heap.size:=⟨_,rfl⟩;have hpM:p<M:=hM▸xZ hp;have SY:q<M:=hM▸xZ hq;have hrM:r<M:=hM▸xZ hr;rw [←hM]at mQ bM;have nt:O0 M w w.drew:=(jN _ _).drew;have Rz:M≤w.drew.heap.size:=kh hM;have c1:w.cell? ⟨p,0,none⟩=some (.func (.func 101) #[] #[]):=jM w p 0 _ _ _ hp;have c2:w.cell? ⟨q,0,none⟩=some (.slice (some qv) n cv):=jM w q 0 _ _ _ hq;have c3:w.cell? ⟨r,6,none⟩=some (.slice (some qp) n cP):=by
  rw [jM w r 6 _ _ _ hr];simp [h6]
 have C1:=jA c1;have C2:=jA c2;have C3:=jA c3;have VI:=jA hvi;have VJ:=jA hvj;have PI:=jA aM;have PJ:=jA hpj;have fZ:=yI qv i;have gG:=yI qv j;have eZ:=yI qp i;have hk4:=yI qp j;clear hV hP hp hq hr pJ sJ fH c1 c2 c3 hvi hvj aM hpj hM h;go_enter Tryz.func141,Tryz.ntmps141;go_wp2_with fail;have d1: ∀x:xj M w,x.w.cell? ⟨p,0,none⟩=some (.func (.func 101) #[] #[]):=fun x=>JO ⟨x,rfl⟩ hpM C1.u;have d2: ∀x:xj M w,x.w.cell? ⟨q,0,none⟩=some (.slice (some qv) n cv):=fun x=>JO ⟨x,rfl⟩ SY C2.u;have d3: ∀x:xj M w,x.w.cell? ⟨r,6,none⟩=some (.slice (some qp) n cP):=fun x=>JO ⟨x,rfl⟩ hrM C3.u;have d4: ∀x:xj M w,x.w.cell? (qv.add i)=some (.int .i64 vi):=fun x=>JO ⟨x,rfl⟩ (by omega) VI.u;have d5: ∀x:xj M w,x.w.cell? (qv.add j)=some (.int .i64 vj):=fun x=>JO ⟨x,rfl⟩ (by omega) VJ.u;have d6: ∀x:xj M w,x.w.cell? (qp.add i)=some (.int .i64 pi):=fun x=>JO ⟨x,rfl⟩ (by omega) PI.u;have d7: ∀x:xj M w,x.w.cell? (qp.add j)=some (.int .i64 pj):=fun x=>JO ⟨x,rfl⟩ (by omega) PJ.u;clear fZ gG eZ hk4;refine Seg.xf (fun w'=> ∃x:xj M w,w'=x.w) [([0,1,2,3,4,5,6,7,8,10,11,12,13,14,15,16,17,18,19,20],9)] [] 21 (by kernel_rfl) (by kernel_rfl) (fun _ _ d _ _ h=>by cases d<;>exact h) (⟨⟨_,nt⟩,rfl⟩) ?_;simp only [jK,Seg.opAt,Seg.xu];repeat (any_goals (first|go_big_quiet_step (fail)|quiet_step (fail)))
 refine jR ?_;intro K hK;simp only [Region.wanted,jY];go_wp2_with (go_at_call 101;refine(Q.u _).mono ?_;rintro e w1 ⟨rfl,rfl⟩);refine hK _ _ ⟨⟨_,nt⟩,rfl⟩ ?_;clear hK K;have QO:=jA (fun(g:Nat) (w1:m0) (h:w1.heap[g]?=some (.cells #[.int .i64 (Ja vj vi),.int .i64 (pi-pj)] 3 (0,0)))=>jmi (Ja vj vi) (pi-pj) g 2 w1 (jM w1 g 0 _ _ _ h) (jM w1 g 1 _ _ _ h));have QO2:=jA (QO.u w.heap.size (w.alloc (.cells #[.int .i64 (Ja vj vi),.int .i64 (pi-pj)] 3)).drew (xh rfl));clear QO;repeat (any_goals (first|go_big_quiet_step (fail)|quiet_step (fail)))
 refine jR ?_;go_wp2_with (go_at_call 142;refine QO2.u.mono ?_;rintro e w1 ⟨rfl,rfl⟩);go_ret;exact⟨by rw [HE.u];rfl,by first|exact((jN _ _).alloc (jO _) _).drew|exact(jN _ _).drew.alloc (jO _) _⟩
theorem jkB(n:Nat)(h:n≤12)(w:m0):Calls prog 161 #[.int .u64 n] w fun e w'=>(∃k,e=.returned (.int .i64 k))∧w=w':=by
 rcases(show n=0∨n=1∨n=2∨n=3∨n=4∨n=5∨n=6∨n=7∨n=8∨n=9∨n=10∨n=11∨n=12 by omega)with rfl|rfl|rfl|rfl|rfl|rfl|rfl|rfl|rfl|rfl|rfl|rfl|rfl<;>clear h
 all_goals
  go_enter Tryz.func161,Tryz.ntmps161;go_wp2_with fail;go_ret;exact⟨⟨_,rfl⟩,rfl⟩
theorem jnZ(n:Nat)(h:n≤12)(w:m0):Calls prog 112 #[.int .u64 n] w fun e w'=>(∃k,e=.returned (.int .i64 k))∧w=w':=by
 have Q:=jA (fun w=>jkB n h w);clear h;go_enter Tryz.func112,Tryz.ntmps112;go_wp2_with (go_at_call 161;refine(Q.u _).mono ?_;rintro e w1 ⟨⟨k,rfl⟩,rfl⟩);go_ret;exact⟨⟨_,rfl⟩,rfl⟩
end Go.Proofs.YtnohcdpnnhmpfaaGreatDoor
