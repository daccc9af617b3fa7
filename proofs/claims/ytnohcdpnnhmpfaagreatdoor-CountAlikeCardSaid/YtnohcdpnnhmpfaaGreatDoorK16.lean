/-
  Chapter 13: whole numbers and quotients as fractions, and fractions told (picked out of other templates; count.told's body is nat.told's)
  Chapter 13, Transfer: fractions reckoned with, by what they are.
  Chapter 13: copies of lists of ints. (Picked out of AuE.)
-/
import Derived.Test.YtnohcdpnnhmpfaaGreatDoorK07
import Derived.Test.YtnohcdpnnhmpfaaGreatDoorK15
import Derived.Test.YtnohcdpnnhmpfaaGreatDoorK09
import Derived.Test.YtnohcdpnnhmpfaaGreatDoorK14
import Derived.Test.YtnohcdpnnhmpfaaGreatDoorK08
import Derived.Test.YtnohcdpnnhmpfaaGreatDoorK13
import Derived.Lib.SliceRun
set_option linter.unusedVariables false
set_option linter.unusedSimpArgs false
set_option maxRecDepth 100000
set_option maxHeartbeats 4000000
namespace Go.Proofs.YtnohcdpnnhmpfaaGreatDoor
open Go.RowKit ML FM NL
theorem exWhole_any(n:Nat)(w:World)(hn:n<18446744073709551616):
 Calls Tryz.prog 118 #[.int .u64 (n:Int)] w fun e w'=> ∃on od cn cd,e=.returned (.agg #[.slice on (dig n).length cn,.slice od (dig 1).length cd])∧LFr w' n 1 on od∧Below w.heap.size w w':=by
 have QN:=Lib.hid (fun w=>exOf_any n w hn);have QO:=Lib.hid (fun w=>exOf_any 1 w (by decide));have HS:=Lib.hid size_lfr;generalize hl:(dig 1).length=l1 at*;clear hl hn;go_enter Tryz.func118,Tryz.ntmps118;go_upto_region 1 with(fail);generalize hB:w.heap.size=B at*;refine wp_abs (fun w1=>Below B w w1∧w1.heap[B]?=some (.cells #[.slice none 0 0,.slice none 0 0] 90 (0,0))) ⟨by rw [←hB];exact(Below.refl _ _).alloc (Nat.le_refl _) _,by rw [←hB];exact heap_at rfl⟩ (fun w1 hw1=>?_);have B1:=Lib.hid hw1.1;have HC1:=Lib.hid hw1.2;have HB:=Lib.hid hB;clear hw1 hB;go_wp2_with (first
  |(refine wpList_store_whole rfl rfl 90 _ _ rfl B #[.slice none 0 0,.slice none 0 0] #[.slice oa (dig n).length ca,.slice ob l1 cb] 90 rfl rfl HC3.out rfl HS.out (two_slices _ _ _ _ _ _) ?_;intro w7 ho hp)
  |(go_at_call 96;refine(QO.out w2).mono ?_;rintro e w3 ⟨ob,cb,rfl,h3,_,bel3⟩;have H3:=Lib.hid h3;have B3:=Lib.hid (B2.out.trans (bel3.mono (HB.out▸B2.out.size)));have HC3:=Lib.hid (bel_keep bel3 (lt_of_heap HC2.out) HC2.out);have H23:=Lib.hid (H2.out.below bel3);clear h3 bel3)
  |(go_at_call 96;(with_reducible refine(QN.out w1).mono ?_);rintro e w2 ⟨oa,ca,rfl,h2,_,bel2⟩;have H2:=Lib.hid h2;have B2:=Lib.hid (B1.out.trans (bel2.mono (HB.out▸B1.out.size)));have HC2:=Lib.hid (bel_keep bel2 (lt_of_heap HC1.out) HC1.out);clear h2 bel2))
 refine bodyPost_ret (results_cell_row rfl _ w7 B _ _ _ _ rfl hp Tryz.underlying90 rfl HS.out) rfl ⟨oa,ob,ca,cb,rfl,⟨H23.out.spared HC3.out two_noInt ho,H3.out.spared HC3.out two_noInt ho⟩,by rw [HB.out];exact bel_only B3.out ho (Nat.le_refl _)⟩
theorem exFOver_any(a b c d:Nat)(oa ob oc od:Option Addr)(ca cb cc cd:Nat)(w:World)(hX:LFr w a b oa ob)(hY:LFr w c d oc od)(h0:0<b*c)(l1:(dig a).length<274877906944)(l2:(dig b).length<274877906944)(l3:(dig c).length<274877906944)(l4:(dig d).length<274877906944):
 Calls Tryz.prog 119 #[.agg #[.slice oa (dig a).length ca,.slice ob (dig b).length cb],.agg #[.slice oc (dig c).length cc,.slice od (dig d).length cd]] w fun e w'=> ∃on om cn cm,e=.returned (.agg #[.slice on (dig (a*d/Nat.gcd (a*d) (b*c))).length cn,.slice om (dig (b*c/Nat.gcd (a*d) (b*c))).length cm])∧LFr w' (a*d/Nat.gcd (a*d) (b*c)) (b*c/Nat.gcd (a*d) (b*c)) on om∧Below w.heap.size w w':=by
 have QT:=Lib.hid (fun w h1 h2=>exFTimes_any a b d c oa ob od oc ca cb cd cc w h1 h2 h0 l1 l2 l4 l3);have HS:=Lib.hid size_lfr;have HX:=Lib.hid hX;have HY:=Lib.hid hY;generalize a*d/Nat.gcd (a*d) (b*c)=N at*;generalize b*c/Nat.gcd (a*d) (b*c)=D at*;clear hX hY h0 l1 l2 l3 l4;go_enter Tryz.func119,Tryz.ntmps119;go_upto_region 1 with(fail);have BX:=Box3.mk' w #[.slice oa (dig a).length ca,.slice ob (dig b).length cb] #[.slice oc (dig c).length cc,.slice od (dig d).length cd] #[.slice none 0 0,.slice none 0 0] 90 90;generalize hB:w.heap.size=B at*;refine wp_abs (fun w1=>Box3 B w w1 #[.slice oa (dig a).length ca,.slice ob (dig b).length cb] #[.slice oc (dig c).length cc,.slice od (dig d).length cd] #[.slice none 0 0,.slice none 0 0] 90 90) BX (fun w1 B1=>?_);have HB:=Lib.hid hB;have c1:=cell_of_row w1 B 0 _ _ _ B1.x;have c2:=cell_of_row w1 B 1 _ _ _ B1.x;have c3:=cell_of_row w1 (B+1) 0 _ _ _ B1.y;have c4:=cell_of_row w1 (B+1) 1 _ _ _ B1.y;have hBs1:B+1+1<w1.heap.size:=lt_of_heap B1.z;have HB1:=Lib.hid B1;have W1:=Lib.hid (show Below w.heap.size w w1 by rw [HB.out];exact B1.bel);clear BX hB B1;go_wp2_with (first
  |(go_at_call 170;refine(QT.out w1 (HX.out.below W1.out) ⟨HY.out.den.below W1.out,HY.out.num.below W1.out⟩).mono ?_;rintro e w4 ⟨or,os,cr,cs,rfl,hr,bel4⟩;have HR:=Lib.hid hr;have HB4:=Lib.hid (HB1.out.keep (by omega) bel4);have W4:=Lib.hid (W1.out.trans (bel4.mono W1.out.size));clear hr bel4)
  |(refine wpList_store_whole rfl rfl 90 _ _ rfl (B+1+1) #[.slice none 0 0,.slice none 0 0] #[.slice or (dig N).length cr,.slice os (dig D).length cs] 90 rfl rfl HB4.out.z rfl HS.out (two_slices _ _ _ _ _ _) ?_;intro w5 ho hp))
 refine bodyPost_ret (results_cell_row rfl _ w5 (B+1+1) _ _ _ _ rfl hp Tryz.underlying90 rfl HS.out) rfl ⟨or,os,cr,cs,rfl,⟨HR.out.num.spared HB4.out.z two_noInt ho,HR.out.den.spared HB4.out.z two_noInt ho⟩,bel_only W4.out ho (by rw [HB.out];omega)⟩
theorem size_api:(Tryz.prog.info? 27).map (·.size)=some 2:=by kernel_rfl
theorem two_strings(a b:ByteArray):(#[Value.string a,Value.string b]:Array Value).all (·.oneCell')=true:=by simp [Value.oneCell']
theorem countTold_any(n d:Nat)(on od:Option Addr)(cn cd:Nat)(w:World)(h:LFr w n d on od)(l1:(dig n).length<1099511627776)(l2:(dig d).length<1099511627776):
 Calls Tryz.prog 72 #[.agg #[.slice on (dig n).length cn,.slice od (dig d).length cd]] w fun e w'=>e=.returned (.agg #[.string ⟨(strD n).toArray⟩,.string ⟨(strD d).toArray⟩])∧Below w.heap.size w w':=by
 have QN:=Lib.hid (fun w h=>exString_any n on cn w h l1);have QD:=Lib.hid (fun w h=>exString_any d od cd w h l2);have HS:=Lib.hid size_api;have H:=Lib.hid h;clear h l1 l2;generalize strD n=N at*;generalize strD d=D at*;go_enter Tryz.func72,Tryz.ntmps72;go_upto_region 1 with(fail);have BX:=BoxR.mk' w #[.slice on (dig n).length cn,.slice od (dig d).length cd] #[.string ⟨#[]⟩,.string ⟨#[]⟩] 90 27;generalize hB:w.heap.size=B at*;refine wp_abs (fun w1=>BoxR B w w1 #[.slice on (dig n).length cn,.slice od (dig d).length cd] #[.string ⟨#[]⟩,.string ⟨#[]⟩] 90 27) BX (fun w1 B1=>?_);have HB:=Lib.hid hB;have c1:=cell_of_row w1 B 0 _ _ _ B1.x;have c2:=cell_of_row w1 B 1 _ _ _ B1.x;have HB1:=Lib.hid B1;clear BX hB B1;refine Seg.wp_region_segs (fun w'=> ∃x:BelowT (B+1) w1,w'=x.w) [([0,1,3,4],2)] [] 5 (by kernel_rfl) (by kernel_rfl) (fun _ _ d _ _ h=>by cases d<;>exact h) (⟨⟨_,(Below.refl _ _).drew⟩,rfl⟩) ?_;simp only [List.map_cons,List.map_nil,Seg.opAt,List.drop_succ_cons,List.drop_zero,Seg.wpSegs,Array.getD_eq_getD_getElem?,List.getElem?_toArray,List.getElem?_cons_succ,List.getElem?_cons_zero,Option.getD_some];repeat (any_goals (first|go_big_quiet_step (fail)|quiet_step (fail)))
 refine wpQuiet_nil ?_;intro K hK;simp only [Region.wanted,if_true];have hBs1:B+1<w1.heap.size:=lt_of_heap HB1.out.z;have W1:=Lib.hid (show Below w.heap.size w w1 by rw [HB.out];exact HB1.out.bel);have W1d:=Lib.hid (show Below w.heap.size w w1.drew from W1.out.drew);go_wp2_with (go_at_call 122;(with_reducible refine(QN.out _ (H.out.num.below W1d.out)).mono ?_);rintro e w2 ⟨rfl,bel2⟩);have bel2':Below w1.heap.size w1 w2:=undrew bel2;refine hK _ _ ⟨⟨w2,bel2'.mono (by omega)⟩,rfl⟩ ?_;have W2:=Lib.hid (W1.out.trans (bel2'.mono W1.out.size));have HB2:=Lib.hid (HB1.out.keep (by omega) bel2');have hBs2:B+1<w2.heap.size:=lt_of_heap HB2.out.z;clear hK K c1 c2 bel2 bel2' QN;repeat (any_goals (first|go_big_quiet_step (fail)|quiet_step (fail)))
 refine wpQuiet_nil ?_;go_wp2_with (first
  |(go_at_call 122;refine(QD.out w2 (H.out.den.below W2.out)).mono ?_;rintro e w3 ⟨rfl,bel3⟩;have HB3:=Lib.hid (HB2.out.keep (by omega) bel3);have W3:=Lib.hid (W2.out.trans (bel3.mono W2.out.size));clear bel3)
  |(refine wpList_store_whole rfl rfl 27 _ _ rfl (B+1) #[.string ⟨#[]⟩,.string ⟨#[]⟩] #[.string ⟨N.toArray⟩,.string ⟨D.toArray⟩] 27 rfl rfl HB3.out.z rfl HS.out (two_strings _ _) ?_;intro w5 ho hp))
 refine bodyPost_ret (results_cell_row rfl _ w5 (B+1) _ _ _ _ rfl hp Tryz.underlying27 rfl HS.out) rfl ⟨rfl,bel_only W3.out ho (by rw [HB.out];omega)⟩
end Go.Proofs.YtnohcdpnnhmpfaaGreatDoor
namespace Go.Proofs.YtnohcdpnnhmpfaaGreatDoor.TR
open Go.RowKit ML FRP AU CT FM
theorem whole_V(n:Nat)(w:World)(hn:n<18446744073709551616):Calls Tryz.prog 118 #[.int .u64 (n:Int)] w fun e w'=> ∃a b,e=.returned (.agg #[a,b])∧FrV w' (Fr.wh n) a b∧Below w.heap.size w w':=
 (exWhole_any n w hn).mono fun e w' ⟨on,od,cn,cd,he,hf,hb⟩=>⟨_,_,he,⟨on,cn,od,cd,rfl,rfl,hf⟩,hb⟩
theorem plus_V {x y:Fr}{a b c d:Value}(w:World)(hx:FrV w x a b)(hy:FrV w y c d)(ox:x.ok)(oy:y.ok)(lx:Lens x)(ly:Lens y):
 Calls Tryz.prog 48 #[.agg #[a,b],.agg #[c,d]] w fun e w'=> ∃a' b',e=.returned (.agg #[a',b'])∧FrV w' (x.add y) a' b'∧Below w.heap.size w w':=by
 obtain⟨oa,ca,ob,cb,rfl,rfl,h1⟩:=hx;obtain⟨oc,cc,od,cd,rfl,rfl,h2⟩:=hy;have:=lx.ln;have:=lx.ld;have:=ly.ln;have:=ly.ld;exact(exFPlus_any x.n x.d y.n y.d oa ob oc od ca cb cc cd w h1 h2 (Nat.mul_pos ox.1 oy.1) (by omega) (by omega) (by omega) (by omega)).mono fun e w' ⟨on,om,cn,cm,he,hf,hb⟩=>⟨_,_,he,⟨on,cn,om,cm,rfl,rfl,hf⟩,hb⟩
theorem times_V {x y:Fr}{a b c d:Value}(w:World)(hx:FrV w x a b)(hy:FrV w y c d)(ox:x.ok)(oy:y.ok)(lx:Lens x)(ly:Lens y):
 Calls Tryz.prog 170 #[.agg #[a,b],.agg #[c,d]] w fun e w'=> ∃a' b',e=.returned (.agg #[a',b'])∧FrV w' (x.mul y) a' b'∧Below w.heap.size w w':=by
 obtain⟨oa,ca,ob,cb,rfl,rfl,h1⟩:=hx;obtain⟨oc,cc,od,cd,rfl,rfl,h2⟩:=hy;have:=lx.ln;have:=lx.ld;have:=ly.ln;have:=ly.ld;exact(exFTimes_any x.n x.d y.n y.d oa ob oc od ca cb cc cd w h1 h2 (Nat.mul_pos ox.1 oy.1) (by omega) (by omega) (by omega) (by omega)).mono fun e w' ⟨on,om,cn,cm,he,hf,hb⟩=>⟨_,_,he,⟨on,cn,om,cm,rfl,rfl,hf⟩,hb⟩
theorem minus_V {x y:Fr}{a b c d:Value}(w:World)(hx:FrV w x a b)(hy:FrV w y c d)(ox:x.ok)(oy:y.ok)(hle:y.v≤x.v)(lx:Lens x)(ly:Lens y):
 Calls Tryz.prog 132 #[.agg #[a,b],.agg #[c,d]] w fun e w'=> ∃a' b',e=.returned (.agg #[a',b'])∧FrV w' (x.sub y) a' b'∧Below w.heap.size w w':=by
 obtain⟨oa,ca,ob,cb,rfl,rfl,h1⟩:=hx;obtain⟨oc,cc,od,cd,rfl,rfl,h2⟩:=hy;have:=lx.ln;have:=lx.ld;have:=ly.ln;have:=ly.ld;exact(exFMinus_any x.n x.d y.n y.d oa ob oc od ca cb cc cd w h1 h2 (Nat.mul_pos ox.1 oy.1) ((Fr.le_iff oy.1 ox.1).1 hle) (by omega) (by omega) (by omega) (by omega)).mono fun e w' ⟨on,om,cn,cm,he,hf,hb⟩=>⟨_,_,he,⟨on,cn,om,cm,rfl,rfl,hf⟩,hb⟩
theorem over_V {x y:Fr}{a b c d:Value}(w:World)(hx:FrV w x a b)(hy:FrV w y c d)(ox:x.ok)(hy0:0<y.n)(lx:Lens x)(ly:Lens y):
 Calls Tryz.prog 119 #[.agg #[a,b],.agg #[c,d]] w fun e w'=> ∃a' b',e=.returned (.agg #[a',b'])∧FrV w' (x.div y) a' b'∧Below w.heap.size w w':=by
 obtain⟨oa,ca,ob,cb,rfl,rfl,h1⟩:=hx;obtain⟨oc,cc,od,cd,rfl,rfl,h2⟩:=hy;have:=lx.ln;have:=lx.ld;have:=ly.ln;have:=ly.ld;exact(exFOver_any x.n x.d y.n y.d oa ob oc od ca cb cc cd w h1 h2 (Nat.mul_pos ox.1 hy0) (by omega) (by omega) (by omega) (by omega)).mono fun e w' ⟨on,om,cn,cm,he,hf,hb⟩=>⟨_,_,he,⟨on,cn,om,cm,rfl,rfl,hf⟩,hb⟩
def cmpF(x y:Fr):Int:=NL.cmpI (x.n*y.d) (y.n*x.d)
theorem cmpF_spec {x y:Fr}(ox:0<x.d)(oy:0<y.d):(cmpF x y= -1∧x.v<y.v)∨(cmpF x y=0∧x.v=y.v)∨(cmpF x y=1∧y.v<x.v):=by
 unfold cmpF;rcases Nat.lt_trichotomy (x.n*y.d) (y.n*x.d)with h|h|h;·exact .inl ⟨NL.cmpI_lt h,(Fr.lt_iff ox oy).2 h⟩
 ·refine .inr (.inl ⟨by rw [h];exact NL.cmpI_eq _,?_⟩);exact Rat.le_antisymm ((Fr.le_iff ox oy).2 (Nat.le_of_eq h)) ((Fr.le_iff oy ox).2 (Nat.le_of_eq h.symm))
 ·exact .inr (.inr ⟨NL.cmpI_gt h,(Fr.lt_iff oy ox).2 h⟩)
theorem cmp_V {x y:Fr}{a b c d:Value}(w:World)(hx:FrV w x a b)(hy:FrV w y c d)(lx:Lens x)(ly:Lens y):
 Calls Tryz.prog 51 #[.agg #[a,b],.agg #[c,d]] w fun e w'=>e=.returned (.int .i64 (cmpF x y))∧Below w.heap.size w w':=by
 obtain⟨oa,ca,ob,cb,rfl,rfl,h1⟩:=hx;obtain⟨oc,cc,od,cd,rfl,rfl,h2⟩:=hy;have:=lx.ln;have:=lx.ld;have:=ly.ln;have:=ly.ld;exact exFCmp_any x.n x.d y.n y.d oa ob oc od ca cb cc cd w h1 h2 (by omega) (by omega) (by omega) (by omega)
def txt(x:Fr):Bytes×Bytes:=(strD x.n,strD x.d)
theorem told_V {x:Fr}{a b:Value}(w:World)(hx:FrV w x a b)(lx:Lens x):
 Calls Tryz.prog 72 #[.agg #[a,b]] w fun e w'=>e=.returned (.agg #[.string ⟨(txt x).1.toArray⟩,.string ⟨(txt x).2.toArray⟩])∧Below w.heap.size w w':=by
 obtain⟨oa,ca,ob,cb,rfl,rfl,h1⟩:=hx;have:=lx.ln;have:=lx.ld;exact countTold_any x.n x.d oa ob ca cb w h1 (by omega) (by omega)
theorem frac_blk {w:World}{B:Nat}{a b:Value}{t:TypeId}(h:w.heap[B]?=some (.cells #[a,b] t (0,0))): ∀j u,([a,b]:List Value)[j]?=some u→w.cell? ((⟨B,0,none⟩:Addr).add j)=some u:=news_blk h
theorem two_one(a b:Value)(h1:a.oneCell'=true)(h2:b.oneCell'=true):(#[a,b]:Array Value).all (·.oneCell')=true:=by simp [h1,h2]
theorem zero_V(w:World):Calls Tryz.prog 117 #[] w fun e w'=> ∃a b,e=.returned (.agg #[a,b])∧FrV w' zero a b∧Below w.heap.size w w':=by
 have QN:=Lib.hid (fun w=>whole_V 0 w (by decide));have HS:=Lib.hid size_lfr;go_enter Tryz.func117,Tryz.ntmps117;go_upto_region 1 with(fail);generalize hB:w.heap.size=B at*;refine wp_abs (fun w1=>Below B w w1∧w1.heap[B]?=some (.cells #[.slice none 0 0,.slice none 0 0] 90 (0,0))) ⟨by rw [←hB];exact(Below.refl _ _).alloc (Nat.le_refl _) _,by rw [←hB];exact heap_at rfl⟩ (fun w1 hw1=>?_);have B1:=Lib.hid hw1.1;have HC1:=Lib.hid hw1.2;have HB:=Lib.hid hB;have hB1:B<w1.heap.size:=lt_of_heap hw1.2;clear hw1 hB;go_wp2_with (first
  |(refine wpList_store_whole rfl rfl 90 _ _ rfl B #[.slice none 0 0,.slice none 0 0] #[a,b] 90 rfl rfl HC2.out rfl HS.out (two_one _ _ F2.out.noLimb.2.2.1 F2.out.noLimb.2.2.2) ?_;intro w3 ho hp)
  |(go_at_call 118;refine(QN.out w1).mono ?_;rintro e w2 ⟨a,b,rfl,f2,bel2⟩;have F2:=Lib.hid f2;have B2:=Lib.hid (B1.out.trans (bel2.mono (Nat.le_of_lt hB1)));have HC2:=Lib.hid (bel_keep bel2 hB1 HC1.out);clear f2 bel2))
 have t:Trn 90 0 (some B) w2 w3:=Trn.of_only ho HC2.out (Nat.zero_le _) (fun u hu=>by simp at hu;subst hu;rfl);refine bodyPost_ret (results_cell_row rfl _ w3 B _ _ _ _ rfl hp Tryz.underlying90 rfl HS.out) rfl ⟨a,b,rfl,t.fr F2.out,by rw [HB.out];exact bel_only B2.out ho (Nat.le_refl _)⟩
end Go.Proofs.YtnohcdpnnhmpfaaGreatDoor.TR
namespace Go.Proofs.YtnohcdpnnhmpfaaGreatDoor
open Go.RowKit ML FM AU CT
theorem ints_flat {w:World}{a:Addr}{L:List Int}(h:IsAt w (some a) L): ∀j u,(ivals L)[j]?=some u→w.cell? (a.add j)=some u:=fun j u hj=>by
 unfold ivals at hj;rw [List.getElem?_map]at hj;obtain⟨x,hx,rfl⟩:=Option.map_eq_some_iff.1 hj;obtain⟨hl,rfl⟩:=List.getElem?_eq_some_iff.1 hx;obtain⟨a',ha,_,hc⟩:=h.cells j hl;cases ha;exact hc
theorem cloneInts_any(oa:Option Addr)(L:List Int)(cap:Nat)(w:World)(h:IsAt w oa L)(hl:L.length<140737488355):
 Calls Tryz.prog 126 #[.slice oa L.length cap] w fun e w'=> ∃ob cb,e=.returned (.slice ob L.length cb)∧w'.ownsRow w.heap.size 3 1 (.slice ob L.length cb) L.length (ivals L)∧Below w.heap.size w w':=by
 obtain⟨i0,hi,hz0,hz1,hz2⟩:=info_parts info_i64;have I0:=Lib.hid hi;have IZ0:=Lib.hid hz0;have IZ1:=Lib.hid hz1;have IZ2:=Lib.hid hz2;clear hi hz0 hz1 hz2;have H:=Lib.hid h;clear h;cases oa with
 |
  none=>
  have hL:L= []:=by
   cases L with
   |nil=>rfl
   |cons x r=>obtain⟨a,ha,_⟩:=H.out.cells 0 (by simp);cases ha
  subst hL;have qE:=Lib.run_eql_slice_nil (P:=Tryz.prog) w 29 3 none 0 cap 0 0 Tryz.underlying29;simp only [Option.isNone_none]at qE;go_enter Tryz.func126,Tryz.ntmps126;go_wp2_with fail;go_ret;exact⟨none,0,rfl,World.ownsRow_nil _ _ _ _,Below.refl _ _⟩
 |
  some a=>
  have qE:=Lib.run_eql_slice_nil (P:=Tryz.prog) w 29 3 (some a) L.length cap 0 0 Tryz.underlying29;simp only [Option.isNone_some]at qE;go_enter Tryz.func126,Tryz.ntmps126;go_wp2_with (at_builtin;refine wpList_append_own _ rfl (.tmp 5) (.tmp 6) 29 rfl w.heap.size 3 i0 (.int .i64 0) 1 8 Tryz.underlying29 I0.out IZ0.out IZ1.out IZ2.out rfl (by decide) (.slice (some ⟨w.heap.size,0,none⟩) 0 0) 0 [] rfl (World.ownsRow_lit w #[] 0 (Nat.le_refl _) (by unfold maxLen;omega) rfl) a L.length cap (ivals L) rfl (by simp [ivals]) (ints_flat (H.out.below ((Below.refl _ _).alloc (Nat.le_refl _) _))) (ivals_one _) (by unfold maxLen;omega) (by omega) (by simp) ?_;intro v' w2 own hg _);go_ret;simp only [Nat.zero_add,List.nil_append]at own;obtain⟨ob,cb,rfl,_,_⟩:=isAt_own own;exact⟨ob,cb,rfl,own,((Below.refl _ _).alloc (Nat.le_refl _) _).grown hg (by simp) (fun q hq=>by simp [Value.ownBlock]at hq;omega)⟩
end Go.Proofs.YtnohcdpnnhmpfaaGreatDoor
