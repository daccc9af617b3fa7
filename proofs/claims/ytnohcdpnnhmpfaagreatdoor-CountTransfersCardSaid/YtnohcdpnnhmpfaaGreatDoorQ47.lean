/-
  Chapter 13: CountTransfers walked. Printed by tools/gencrt.py.
-/
import Derived.Test.YtnohcdpnnhmpfaaGreatDoorQ46
set_option linter.unusedVariables false
set_option linter.unusedSimpArgs false
set_option maxRecDepth 100000
set_option maxHeartbeats 8000000
namespace Go.Proofs.YtnohcdpnnhmpfaaGreatDoor.TR
open Go.RowKit Tryz ML FRP AU CT FM
theorem KU:(prog.info? 27).map (·.size)=some 2:=by kernel_rfl
theorem Xo {P:Program}{ops:Array Oper}{rest:List Oper}{o:Oper}{a:Act}{w:World}{Q:Exit→Act→World→Prop}(hw:Region.wanted o (yielded ops a.tmps)=true)(ty:TypeId)(x:Operand)(ho:o.op=.load ty x)
 (p:Addr) (hx:a.eval x=.pointer (some p)) (cs:List Value) (d:TypeDesc) (hc: ∀j v,cs[j]?=some v→w.cell? (p.add j)=some v)
 (hu:P.underlying ty=some d) (hd:d.isRow=true) (hi:(P.info? ty).map (·.size)=some cs.length)
 (h:wpList P ops Q rest (a.put o.dst (.agg cs.toArray)) w):wpList P ops Q (o::rest) a w:=
 wpList_step fun K hK=>by
  rw [jR hw];have hl:(loadCells p cs.length).run P w=.ok cs.toArray w:=run_loadCells_list (P:=P) w p cs hc;cases hq:P.info? ty with
  |none=>simp [hq]at hi
  |
   some i=>
   have hs:i.size=cs.length:=by simpa [hq] using hi
   have hagg:(isAgg ty).run P w=.ok true w:=by
    unfold isAgg;rw [kJ,vK hu w];cases d<;>simp_all
   have hr:(loadVar ty p).run P w=.ok (.agg cs.toArray) w:=by simp [loadVar,kJ,hagg,sizeOf,typeInfo,hq,hs,hl]
   unfold Oper.wp execOp;simp only [ho,hx,Instr.loadAt,Instr.sureAddr,kJ,qo,qF,hr];exact hK _ _ h
theorem jaC(oa ob:Option Addr)(F:List (Bytes×Bytes))(ca cb:Nat)(w:World)(ha:jgS w oa F)(hb:jgS w ob F)(hl:F.length<9223372036854775808):
 Calls prog 45 #[.slice oa F.length ca,.slice ob F.length cb] w fun e w'=>e=.returned (.bool true)∧Below w.heap.size w w':=by
 have HA:=jA ha;have HBB:=jA hb;clear ha hb;go_enter Tryz.func45,Tryz.ntmps45;go_upto_region 4 with(fail);go_loopw [13] (fun i wr=> ∃k:Nat,k≤F.length∧i=.int .i64 k∧Below w.heap.size w wr) (fun i _=>F.length-(intOf i).toNat);case atStart=>exact⟨0,by omega,rfl,jN _ _⟩
 case round=>
 obtain⟨k,hk,rfl,bel⟩:=hrel;by_cases hlt:k<F.length
 ·have dk:decide ((k:Int)<(F.length:Int))=true:=jQ (by omega);have dk2:decide (k<F.length)=true:=jQ hlt;have hki:(k:Int)<(F.length:Int):=by omega
  obtain⟨a,hoa,hab,hac⟩:=(HA.u.below bel).cells k hlt;obtain⟨b,hob,hbb,hbc⟩:=(HBB.u.below bel).cells k hlt;subst hoa;subst hob;have BL:=jA bel;have HAC:=jA hac;have HBC:=jA hbc;clear bel hac hbc;generalize F[k]=x at*;obtain⟨P,R⟩:=x;go_upto_region 6 with(fail);refine Seg.xL (fun w'=> ∃m,w'=wr.drewN m) [] [0,1,2,3,4,5,6,7] 8 (by kernel_rfl) (by kernel_rfl) (fun _ _ d _ _ h=>by cases d<;>exact h) (⟨1,rfl⟩) ?_;simp only [jK,Seg.opAt,Seg.xW];first|go_big_quiet_step (fail)|quiet_step (fail)
  first|go_big_quiet_step (fail)|quiet_step (fail)
  first|go_big_quiet_step (fail)|quiet_step (fail)
  refine xV rfl 27 _ rfl (a.add (k*2)) [.string ⟨P.toArray⟩,.string ⟨R.toArray⟩] _ rfl (fun w' hw'=>by obtain⟨m,rfl⟩:=hw';exact HAC.u) underlying27 rfl KU ?_;first|go_big_quiet_step (fail)|quiet_step (fail)
  first|go_big_quiet_step (fail)|quiet_step (fail)
  first|go_big_quiet_step (fail)|quiet_step (fail)
  refine xV rfl 27 _ rfl (b.add (k*2)) [.string ⟨P.toArray⟩,.string ⟨R.toArray⟩] _ rfl (fun w' hw'=>by obtain⟨m,rfl⟩:=hw';exact HBC.u) underlying27 rfl KU ?_;refine jP ?_;go_wp2_with fail;go_roundw;case rel=>exact⟨k+1,by omega,by go_num,BL.u.drew⟩
  case measure=>simp [intOf];omega
 ·have dk:decide ((k:Int)<(F.length:Int))=false:=jS (by omega);have dk2:decide (k<F.length)=false:=jS hlt;go_wp2_with fail;go_ret;exact⟨rfl,bel⟩
theorem jaN {w:World}{B:Nat}{cs:Array Value}{T:TypeId}(h:w.heap[B]?=some (.cells cs T (0,0)))(o:Nat){x y:Value}(hx:cs[o]?=some x)(hy:cs[o+1]?=some y): ∀j u,([x,y]:List Value)[j]?=some u→w.cell? ((⟨B,o,none⟩:Addr).add j)=some u:=by
 intro j u hu
 match j with
 |0=>exact(jM w B o _ _ _ h).trans (hx.trans hu)
 |1=>exact(jM w B (o+1) _ _ _ h).trans (hy.trans hu)
 |_+2=>cases hu
theorem XF(Q1 Q2:Bytes)(R:List Rd)(E:List Nat)(oR oR' oE oE':Option Addr)(cR cR' cE cE':Nat)(w:World)(hR:jfE w oR R)(hR':jfE w oR' R)(hE:yj w oE (xq E))(hE':yj w oE' (xq E))(hl:R.length≤36)(hel:E.length≤12)(htl: ∀x∈R,x.tots.length≤12∧x.who.length≤12):
 Calls prog 11 #[.agg #[.string ⟨Q1.toArray⟩,.string ⟨Q2.toArray⟩,.slice oR R.length cR,.slice oE E.length cE],.agg #[.string ⟨Q1.toArray⟩,.string ⟨Q2.toArray⟩,.slice oR' R.length cR',.slice oE' E.length cE']] w fun e w'=>e=.returned (.bool true)∧Below w.heap.size w w':=by
 have HR:=jA hR;have HR':=jA hR';have HE:=jA hE;have HE':=jA hE';have HTL:=jA htl;clear hR hR' hE hE' htl;go_enter Tryz.func11,Tryz.ntmps11;go_upto_region 1 with(fail);have hbA:Below w.heap.size w ((w.alloc (.cells #[.string ⟨Q1.toArray⟩,.string ⟨Q2.toArray⟩,.slice oR R.length cR,.slice oE E.length cE] 31)).alloc (.cells #[.string ⟨Q1.toArray⟩,.string ⟨Q2.toArray⟩,.slice oR' R.length cR',.slice oE' E.length cE'] 31)):=((jN _ _).alloc (jO _) _).alloc (by simp) _;have hc1:((w.alloc (.cells #[.string ⟨Q1.toArray⟩,.string ⟨Q2.toArray⟩,.slice oR R.length cR,.slice oE E.length cE] 31)).alloc (.cells #[.string ⟨Q1.toArray⟩,.string ⟨Q2.toArray⟩,.slice oR' R.length cR',.slice oE' E.length cE'] 31)).heap[w.heap.size]?=some (.cells #[.string ⟨Q1.toArray⟩,.string ⟨Q2.toArray⟩,.slice oR R.length cR,.slice oE E.length cE] 31 (0,0)):=xx (xN rfl);have hc2:((w.alloc (.cells #[.string ⟨Q1.toArray⟩,.string ⟨Q2.toArray⟩,.slice oR R.length cR,.slice oE E.length cE] 31)).alloc (.cells #[.string ⟨Q1.toArray⟩,.string ⟨Q2.toArray⟩,.slice oR' R.length cR',.slice oE' E.length cE'] 31)).heap[w.heap.size+1]?=some (.cells #[.string ⟨Q1.toArray⟩,.string ⟨Q2.toArray⟩,.slice oR' R.length cR',.slice oE' E.length cE'] 31 (0,0)):=xN (by simp);generalize hB:w.heap.size=B at*;refine xP (fun w1=>Below B w w1∧w1.heap[B]?=some (.cells #[.string ⟨Q1.toArray⟩,.string ⟨Q2.toArray⟩,.slice oR R.length cR,.slice oE E.length cE] 31 (0,0))∧w1.heap[B+1]?=some (.cells #[.string ⟨Q1.toArray⟩,.string ⟨Q2.toArray⟩,.slice oR' R.length cR',.slice oE' E.length cE'] 31 (0,0))) ⟨hbA,hc1,hc2⟩ (fun w1 hw1=>?_);have HB:=jA hB;have B1:=jA hw1.1;have X1:=jA hw1.2.1;have Y1:=jA hw1.2.2;have hbw:Below w.heap.size w w1:=by rw [hB];exact hw1.1
 have R1:=jA (HR.u.below hbw);have R1':=jA (HR'.u.below hbw);have hE1:=HE.u.below hbw;have hE1':=HE'.u.below hbw;have QI:=jA (fun(w2:World) (h:Below w1.heap.size w1 w2)=>ZJ oE oE' (xq E) cE cE' w2 (hE1.below h) (hE1'.below h) (by rw [yO];omega));rw [yO]at QI;have hBl:B+1<w1.heap.size:=lt_of_heap hw1.2.2;have e1:w1.cell? ⟨B,2,none⟩=some (.slice oR R.length cR):=jM w1 B 2 _ _ _ X1.u;have e2:w1.cell? ⟨B+1,2,none⟩=some (.slice oR' R.length cR'):=jM w1 (B+1) 2 _ _ _ Y1.u;have e3:w1.cell? ⟨B,3,none⟩=some (.slice oE E.length cE):=jM w1 B 3 _ _ _ X1.u;have e4:w1.cell? ⟨B+1,3,none⟩=some (.slice oE' E.length cE'):=jM w1 (B+1) 3 _ _ _ Y1.u;clear hbA hc1 hc2 hB hw1 hbw hE1 hE1' HR HR' HE HE';go_upto_region 3 with(first
  |go_big_skip
  |(refine JF rfl 27 _ rfl ⟨B,0,none⟩ rfl [.string ⟨Q1.toArray⟩,.string ⟨Q2.toArray⟩] _ (jaN X1.u 0 rfl rfl) underlying27 rfl KU ?_)
  |(refine JF rfl 27 _ rfl ⟨B+1,0,none⟩ rfl [.string ⟨Q1.toArray⟩,.string ⟨Q2.toArray⟩] _ (jaN Y1.u 0 rfl rfl) underlying27 rfl KU ?_)
  |(go_at_call 19;refine(QI.u w1 (jN _ _)).mono ?_;rintro e w2 ⟨rfl,b2⟩;dsimp only;have B2:=jA b2;clear b2))
 have hB2:Below w.heap.size w w2:=by rw [HB.u];exact B1.u.trans (B2.u.mono (by omega))
 have BW:=jA hB2;have R2:=jA (R1.u.below B2.u);have R2':=jA (R1'.u.below B2.u);have X2:=jA (xK B2.u (by omega) X1.u);have Y2:=jA (xK B2.u hBl Y1.u);have e1':w2.cell? ⟨B,2,none⟩=some (.slice oR R.length cR):=jM w2 B 2 _ _ _ X2.u;have hB2l:B+1<w2.heap.size:=lt_of_heap Y2.u;clear e1 e2 e3 e4 QI hB2 B1 B2 X1 Y1 R1 R1' hBl;go_upto_block 0 with(fail);clear e1';go_wp2_with fail;go_loopw [33] (fun v wr=> ∃k:Nat,v=.int .i64 k∧k≤R.length∧Below w2.heap.size w2 wr) (fun v _=>R.length-(intOf v).toNat);case atStart=>exact⟨0,rfl,ji _,jN _ _⟩
 case round=>
 obtain⟨k,rfl,hk,hbr⟩:=hrel;have BR:=jA hbr;have h2r:w2.heap.size≤wr.heap.size:=hbr.size;clear hbr;by_cases hlt:k<R.length;case neg=>
  obtain rfl:k=R.length:=by omega
  have dk:decide ((R.length:Int)<(R.length:Int))=false:=jS (by omega);have dk2:decide (R.length<R.length)=false:=jS (by omega);go_wp2_with fail;go_ret;exact⟨rfl,BW.u.trans (BR.u.mono BW.u.size)⟩
 have dk:decide ((k:Int)<(R.length:Int))=true:=jQ (by omega);have dk2:decide (k<R.length)=true:=jQ hlt;have dki:(k:Int)<(R.length:Int):=by omega
 obtain⟨a,ot,ct,ow,cw,hoa,hab,hca,hfa,hia⟩:=(R2.u.below BR.u).cells k hlt;obtain⟨a',ot',ct',ow',cw',hoa',hab',hca',hfa',hia'⟩:=(R2'.u.below BR.u).cells k hlt;have hxl:=HTL.u _ (jj hlt);have CA:=jA hca;have CA':=jA hca';have FA:=jA hfa;have FA':=jA hfa';have IA:=jA hia;have IA':=jA hia';subst hoa;subst hoa';clear hca hca' hfa hfa' hia hia';generalize R[k]=x at*;unfold jhb at CA CA';go_upto_region 6 with(first
  |go_big_skip
  |(refine JF rfl 44 _ rfl (a.add (k*5)) rfl [.slice ot x.tots.length ct,.string ⟨(txt x.non).1.toArray⟩,.string ⟨(txt x.non).2.toArray⟩,.int .i64 (x.d:Int),.slice ow x.who.length cw] _ (CA.u) underlying44 rfl JX ?_)
  |(refine xM rfl rfl 44 _ _ rfl wr.heap.size #[.slice none 0 0,.string ⟨#[]⟩,.string ⟨#[]⟩,.int .i64 0,.slice none 0 0] #[.slice ot x.tots.length ct,.string ⟨(txt x.non).1.toArray⟩,.string ⟨(txt x.non).2.toArray⟩,.int .i64 (x.d:Int),.slice ow x.who.length cw] 44 rfl rfl (xN rfl) rfl JX (ZW _ _ _ _ _ rfl rfl rfl) ?_;intro w3 ho hp))
 have b3:Below wr.heap.size wr w3:=xQ ((jN _ _).alloc (jO _) _) ho (jO _);have C3:=jA hp;have CA3:=jA (fun j v h=>(b3.cell (p:=(a'.add (k*5)).add j) (by rw [yM,yM];exact hab')).trans (CA'.u j v h));have B3:=jA b3;have Y3:=jA (xK b3 (jV hB2l h2r) (xK BR.u hB2l Y2.u));have hCl:wr.heap.size<w3.heap.size:=lt_of_heap hp;obtain⟨C,hC⟩: ∃C,C=wr.heap.size:=⟨_,rfl⟩;rw [←hC]at C3 ⊢;have e2:w3.cell? ⟨B+1,2,none⟩=some (.slice (some a') R.length cR'):=jM w3 (B+1) 2 _ _ _ Y3.u;have hC3:C<w3.heap.size:=by omega
 clear ho hp b3 dk dk2 hC hCl;go_upto_region 7 with(first
  |go_big_skip
  |(refine JF rfl 44 _ rfl (a'.add (k*5)) rfl [.slice ot' x.tots.length ct',.string ⟨(txt x.non).1.toArray⟩,.string ⟨(txt x.non).2.toArray⟩,.int .i64 (x.d:Int),.slice ow' x.who.length cw'] _ (CA3.u) underlying44 rfl JX ?_)
  |(refine xM rfl rfl 44 _ _ rfl w3.heap.size #[.slice none 0 0,.string ⟨#[]⟩,.string ⟨#[]⟩,.int .i64 0,.slice none 0 0] #[.slice ot' x.tots.length ct',.string ⟨(txt x.non).1.toArray⟩,.string ⟨(txt x.non).2.toArray⟩,.int .i64 (x.d:Int),.slice ow' x.who.length cw'] 44 rfl rfl (xN rfl) rfl JX (ZW _ _ _ _ _ rfl rfl rfl) ?_;intro w4 ho hp))
 have b4:Below w3.heap.size w3 w4:=xQ ((jN _ _).alloc (jO _) _) ho (jO _);have D4:=jA hp;have C4:=jA (xK b4 hC3 C3.u);have B4:=jA (B3.u.trans (b4.mono B3.u.size));obtain⟨D,hD⟩: ∃D,D=w3.heap.size:=⟨_,rfl⟩;rw [←hD]at D4 ⊢;clear hD ho hp b4 e2 dki C3 CA CA' CA3 Y3 B3;have f1:w4.cell? ⟨C,3,none⟩=some (.int .i64 (x.d:Int)):=jM w4 C 3 _ _ _ C4.u;have f2:w4.cell? ⟨D,3,none⟩=some (.int .i64 (x.d:Int)):=jM w4 D 3 _ _ _ D4.u;have f3:w4.cell? ⟨C,4,none⟩=some (.slice ow x.who.length cw):=jM w4 C 4 _ _ _ C4.u;have f4:w4.cell? ⟨D,4,none⟩=some (.slice ow' x.who.length cw'):=jM w4 D 4 _ _ _ D4.u;have hCl4:C<w4.heap.size:=lt_of_heap C4.u;have hDl4:D<w4.heap.size:=lt_of_heap D4.u;have QI:=jA (ZJ ow ow' (xq x.who) cw cw' w4 (IA.u.below B4.u) (IA'.u.below B4.u) (by rw [yO];omega));rw [yO]at QI;have QF:=jA (fun(w5:World) (h:Below w4.heap.size w4 w5)=>jaC ot ot' (x.tots.map txt) ct ct' w5 ((FA.u.below B4.u).below h) ((FA'.u.below B4.u).below h) (by rw [jz];omega));rw [jz]at QF;go_upto_region 9 with(first
  |go_big_skip
  |(go_at_call 19;refine(QI.u).mono ?_;rintro e w5 ⟨rfl,b5⟩;dsimp only;have B5:=jA b5;have C5:=jA (xK b5 hCl4 C4.u);have D5:=jA (xK b5 hDl4 D4.u);have g1:=jM w5 C 0 _ _ _ C5.u;have g2:=jM w5 D 0 _ _ _ D5.u;clear b5)
  |((with_reducible refine xl 27 ?_);refine Xo ?_ 27 (.tmp 57) ?_ ⟨C,1,none⟩ ?_ [.string ⟨(txt x.non).1.toArray⟩,.string ⟨(txt x.non).2.toArray⟩] _ (jaN C5.u 1 rfl rfl) underlying27 ?_ KU ?_;rfl;rfl;rfl;rfl)
  |((with_reducible refine xl 27 ?_);refine Xo ?_ 27 (.tmp 59) ?_ ⟨D,1,none⟩ ?_ [.string ⟨(txt x.non).1.toArray⟩,.string ⟨(txt x.non).2.toArray⟩] _ (jaN D5.u 1 rfl rfl) underlying27 ?_ KU ?_;rfl;rfl;rfl;rfl)
  |(go_at_call 45;refine(QF.u w5 B5.u).mono ?_;rintro e w6 ⟨rfl,b6⟩;dsimp only;have B6:=jA b6;clear b6))
 go_wp2_with fail;go_roundw;case rel=>exact⟨k+1,by go_num,by omega,BR.u.trans ((B4.u.trans ((B5.u.trans (B6.u.mono B5.u.size)).mono B4.u.size)).mono h2r)⟩
 case measure=>simp [intOf];omega
theorem jfP {n m s:Nat}{q:Fr}{O:List Nat}{S0 S:St}{R:List Rd}(hn:n≤12)(ho:O.length≤12)(h:Vu n m s q O S0 R S): ∀x∈R,x.tots.length≤12∧x.who.length≤12:=by
 induction h with
 |nil=>intro x hx;cases hx
 |
  snoc h hd ih=>
  intro x hx;rcases jh.1 hx with hx|hx;·exact ih x hx
  ·rw [jo]at hx;subst hx;refine⟨by simp [St.rd];exact hn,?_⟩;show _≤12;have fl: ∀(p:Nat→Bool),(O.filter p).length≤12:=fun p=>jU (kt _ _) ho;cases hd with
   |elect _ h1 hr=>exact jU (kg hr.perm.length_eq) (jU (kt _ _) (fl _))
   |fill _ h1 h2 h3 hr=>exact jU (kg hr.perm.length_eq) (fl _)
   |move=>show 1≤12;omega
   |excl=>show 1≤12;omega
theorem Yu(c:yE)(P:List (Value×List Int))(lots:Bytes)(oa:Option Addr)(cap:Nat)(ob:Option Addr)(cb:Nat)(w:World)(hs:JD w oa c.op)(hP:Yw w ob P)(hf:c.Fits lots)(hnl:c.op.length<9223372036854775807):
 Calls prog 3 #[.agg (c.cells oa cap).toArray,.slice ob P.length cb,.string ⟨lots.toArray⟩] w fun e w'=>e=.returned (.bool true)∧Below w.heap.size w w':=by
 have hC:(c.cells oa cap).toArray= #[.string ⟨c.nm.toArray⟩,.slice oa c.op.length cap,.int .i64 c.rl,.int .i64 c.se,.int .i64 c.mo]:=rfl;rw [hC];have QT:=jA (fun w1 h1 h2=>jbP c P lots oa cap ob cb w1 h1 h2 hf hnl);have QR:=jA (fun w1 h1 h2=>jaE c P lots oa cap ob cb w1 h1 h2 hf hnl);unfold Vi at QT QR;have HS:=jA hs;have HP:=jA hP
 have HWC:=jA (fun(h:prE c P=0)=>(show(1≤c.op.length∧c.op.length≤12∧1≤c.se∧c.se≤c.op.length)∧KQ c.op.length P=0 by
  unfold prE at h;cases hw:zR c with
  |true=>rw [hw,jR rfl]at h;cases h
  |
   false=>
   rw [hw,jT (by decide)]at h;have h1:=Ze hw;exact⟨⟨h1.1,h1.2.1,h1.2.2.2.2⟩,h⟩))
 clear hs hP hf hC;go_enter Tryz.func3,Tryz.ntmps3;go_upto_region 1 with(fail);generalize hB:w.heap.size=B at*;refine xP (fun w1=>Below B w w1∧w1.heap[B]?=some (.cells #[.string ⟨c.nm.toArray⟩,.slice oa c.op.length cap,.int .i64 c.rl,.int .i64 c.se,.int .i64 c.mo] 24 (0,0))) ⟨by rw [←hB];exact(jN _ _).alloc (jO _) _,by rw [←hB];exact xN rfl⟩ (fun w1 hw1=>?_);have HB:=jA hB;have B1:=jA hw1.1;have X1:=jA hw1.2;have hBs:B<w1.heap.size:=lt_of_heap hw1.2;have Q1:=jA (QT.u w1 (HS.u.below (HB.u.symm▸B1.u)) (HP.u.below (HB.u.symm▸B1.u)));have hwb:w.heap.size=B:=hB;clear hB hw1 QT;by_cases h0:prE c P=0;case neg=>
  have H0:=jA h0;clear h0 HWC;obtain⟨E,hE⟩: ∃E,E=prE c P:=⟨_,rfl⟩;have HE:=jA hE;clear hE;go_upto_region 2 with(first
   |go_big_skip
   |((with_reducible refine xl 24 ?_);refine xO ?_ 24 (.tmp 3) ?_ B _ _ _ _ ?_ X1.u underlying24 ?_ xe ?_;rfl;rfl;rfl;rfl)
   |(go_at_call 9;refine(Q1.u).mono ?_;rintro e w3 ⟨b3,h3⟩;rw [jT H0.u,←HE.u]at h3;subst h3;dsimp only;have B3:=jA b3;clear b3)
   |(refine xM rfl rfl 31 _ _ rfl w3.heap.size #[.string ⟨#[]⟩,.string ⟨#[]⟩,.slice none 0 0,.slice none 0 0] #[.string ⟨#[]⟩,.string ⟨#[]⟩,.slice none 0 0,.slice none 0 0] 31 rfl rfl (xN rfl) rfl yG (JR _ _ _ _ rfl rfl) ?_;intro w4 ho hp))
  have b4:Below w3.heap.size w3 w4:=xQ ((jN _ _).alloc (jO _) _) ho (jO _);have b14:=B3.u.trans (b4.mono B3.u.size);have B4:=jA (B1.u.trans (b14.mono (jZ hBs)));have X4:=jA (xK b14 hBs X1.u);have hB4:B<w4.heap.size:=lt_of_heap X4.u;have D4:=jA hp;obtain⟨D,hD⟩: ∃D,D=w3.heap.size:=⟨_,rfl⟩;rw [←hD]at D4 ⊢;have hDl:D<w4.heap.size:=lt_of_heap D4.u;have Q4:=jA (QR.u w4 (HS.u.below (HB.u.symm▸B4.u)) (HP.u.below (HB.u.symm▸B4.u)));clear b4 b14 ho hp B1 X1 Q1 B3 hBs hD QR;go_upto_region 3 with(first
   |go_big_skip
   |((with_reducible refine xl 24 ?_);refine xO ?_ 24 (.tmp 3) ?_ B _ _ _ _ ?_ X4.u underlying24 ?_ xe ?_;rfl;rfl;rfl;rfl)
   |(go_at_call 10;refine(Q4.u).mono ?_;rintro e w5 ⟨b5,h5⟩;rw [jT H0.u,←HE.u]at h5;subst h5;dsimp only;have B5:=jA b5;clear b5)
   |(refine xM rfl rfl 31 _ _ rfl w5.heap.size #[.string ⟨#[]⟩,.string ⟨#[]⟩,.slice none 0 0,.slice none 0 0] #[.string ⟨#[]⟩,.string ⟨#[]⟩,.slice none 0 0,.slice none 0 0] 31 rfl rfl (xN rfl) rfl yG (JR _ _ _ _ rfl rfl) ?_;intro w6 ho hp))
  have b6:Below w5.heap.size w5 w6:=xQ ((jN _ _).alloc (jO _) _) ho (jO _);have b46:=B5.u.trans (b6.mono B5.u.size);have B6:=jA (B4.u.trans (b46.mono (jZ hB4)));have D6:=jA (xK b46 hDl D4.u);have F6:=jA hp;obtain⟨F,hF⟩: ∃F,F=w5.heap.size:=⟨_,rfl⟩;rw [←hF]at F6 ⊢;clear b6 b46 ho hp B4 X4 Q4 B5 D4 hF;have QS:=jA (XF [] [] [] [] none none none none 0 0 0 0 w6 ⟨fun i hi=>by simp at hi⟩ ⟨fun i hi=>by simp at hi⟩ ⟨fun i hi=>by simp [xq]at hi⟩ ⟨fun i hi=>by simp [xq]at hi⟩ (by simp) (by simp) (fun x hx=>by cases hx));go_wp2_with (first
   |go_big_skip
   |((with_reducible refine xl 31 ?_);refine xO ?_ 31 (.tmp 7) ?_ D _ _ _ _ ?_ D6.u underlying31 ?_ yG ?_;rfl;rfl;rfl;rfl)
   |((with_reducible refine xl 31 ?_);refine xO ?_ 31 (.tmp 9) ?_ F _ _ _ _ ?_ F6.u underlying31 ?_ yG ?_;rfl;rfl;rfl;rfl)
   |(go_at_call 11;refine(QS.u).mono ?_;rintro e w7 ⟨rfl,b7⟩;dsimp only;have B7:=jA b7;clear b7))
  go_ret;exact⟨rfl,by rw [HB.u];exact B6.u.trans (B7.u.mono (by have:=B6.u.size;rw [HB.u]at this;exact this))⟩
 obtain⟨⟨hn1,hn12,hs1,hsn⟩,hfe⟩:=HWC.u h0;have H0:=jA h0;have HFE:=jA hfe;clear h0 HWC hfe;obtain⟨T1,hT1⟩: ∃T1,T1=(txt (zN (P.filter (yX (c.rule 3))).length c.se.toNat)).1:=⟨_,rfl⟩;obtain⟨T2,hT2⟩: ∃T2,T2=(txt (zN (P.filter (yX (c.rule 3))).length c.se.toNat)).2:=⟨_,rfl⟩;have HT1:=jA hT1;have HT2:=jA hT2;clear hT1 hT2;go_upto_region 2 with(first
  |go_big_skip
  |((with_reducible refine xl 24 ?_);refine xO ?_ 24 (.tmp 3) ?_ B _ _ _ _ ?_ X1.u underlying24 ?_ xe ?_;rfl;rfl;rfl;rfl)
  |(go_at_call 9;refine(Q1.u).mono ?_;rintro e w3 ⟨b3,h3⟩;rw [jR H0.u]at h3;obtain⟨O,R,S,oR,cR,oE,cE,hO,hru,hen,he,hrd,hie⟩:=h3;rw [←HT1.u,←HT2.u]at he;subst he;dsimp only;have B3:=jA b3;have HO:=jA hO;have HRU:=jA hru;have HEN:=jA hen;have RD:=jA hrd;have IE:=jA hie;clear b3 hO hru hen hrd hie)
  |(refine xM rfl rfl 31 _ _ rfl w3.heap.size #[.string ⟨#[]⟩,.string ⟨#[]⟩,.slice none 0 0,.slice none 0 0] #[.string ⟨T1.toArray⟩,.string ⟨T2.toArray⟩,.slice oR R.length cR,.slice oE S.el.length cE] 31 rfl rfl (xN rfl) rfl yG (JR _ _ _ _ rfl rfl) ?_;intro w4 ho hp))
 have b4:Below w3.heap.size w3 w4:=xQ ((jN _ _).alloc (jO _) _) ho (jO _);have b14:=B3.u.trans (b4.mono B3.u.size);have B4:=jA (B1.u.trans (b14.mono (jZ hBs)));have X4:=jA (xK b14 hBs X1.u);have hB4:B<w4.heap.size:=lt_of_heap X4.u;have RD4:=jA (RD.u.below b4);have IE4:=jA (IE.u.below b4);have D4:=jA hp;obtain⟨D,hD⟩: ∃D,D=w3.heap.size:=⟨_,rfl⟩;rw [←hD]at D4 ⊢;have hDl:D<w4.heap.size:=lt_of_heap D4.u;have Q4:=jA (QR.u w4 (HS.u.below (HB.u.symm▸B4.u)) (HP.u.below (HB.u.symm▸B4.u)));clear b4 b14 ho hp B1 X1 Q1 B3 hBs hD QR RD IE;go_upto_region 3 with(first
  |go_big_skip
  |((with_reducible refine xl 24 ?_);refine xO ?_ 24 (.tmp 3) ?_ B _ _ _ _ ?_ X4.u underlying24 ?_ xe ?_;rfl;rfl;rfl;rfl)
  |(go_at_call 10;refine(Q4.u).mono ?_;rintro e w5 ⟨b5,h5⟩;rw [jR H0.u]at h5;obtain⟨O',R',S',oR',cR',oE',cE',hO',hru',hen',he,hrd',hie'⟩:=h5;rw [←HT1.u,←HT2.u]at he;subst he;obtain rfl:=HO.u.unique hO';obtain⟨rfl,rfl⟩:=HRU.u.unique HEN.u hru' hen';dsimp only;have B5:=jA b5;have RD5:=jA hrd';have IE5:=jA hie';clear b5 hO' hru' hen' hrd' hie')
  |(refine xM rfl rfl 31 _ _ rfl w5.heap.size #[.string ⟨#[]⟩,.string ⟨#[]⟩,.slice none 0 0,.slice none 0 0] #[.string ⟨T1.toArray⟩,.string ⟨T2.toArray⟩,.slice oR' R.length cR',.slice oE' S.el.length cE'] 31 rfl rfl (xN rfl) rfl yG (JR _ _ _ _ rfl rfl) ?_;intro w6 ho hp))
 have b6:Below w5.heap.size w5 w6:=xQ ((jN _ _).alloc (jO _) _) ho (jO _);have b46:=B5.u.trans (b6.mono B5.u.size);have B6:=jA (B4.u.trans (b46.mono (jZ hB4)));have D6:=jA (xK b46 hDl D4.u);have F6:=jA hp;obtain⟨F,hF⟩: ∃F,F=w5.heap.size:=⟨_,rfl⟩;rw [←hF]at F6 ⊢;obtain⟨hA,h4096⟩:=jdW HFE.u;have hol:(O.map Int.toNat).length=c.op.length:=by rw [jz];exact HO.u.len
 have hinv:=Zp (n:=c.op.length) (s:=c.se.toNat) (O:=O.map Int.toNat) (Rs:=yB (P.filter (yX (c.rule 3)))) (by omega) hn12 (ZP HO.u).1 (ZP HO.u).2 (fun rk hrk i hi=>by
  unfold yB at hrk;obtain⟨p,hp,rfl⟩:=jl.1 hrk;obtain⟨h1,h2⟩:=kB.1 hp;have h3:zY (c.rule 3) p.2=true:=by
   have h4:(zY (c.rule 3) p.2&&Qk p.2)=true:=h2;rw [jy]at h4;exact h4.1
  exact(jfW (c:=c.rule 3) rfl (hA p h1) h3).lt i hi)
 have hrl:(yB (P.filter (yX (c.rule 3)))).length=(P.filter (yX (c.rule 3))).length:=by unfold yB;rw [jz]
 rw [hrl]at hinv;obtain⟨hI,hlen⟩:=HRU.u.inv hinv (jU (kt _ _) h4096);have hmu:(S0 c.op.length (yB (P.filter (yX (c.rule 3)))) (P.filter (yX (c.rule 3))).length).mu (O.map Int.toNat)≤36:=by
  have h1:=Xi (l:=O.map Int.toNat) (S0 c.op.length (yB (P.filter (yX (c.rule 3)))) (P.filter (yX (c.rule 3))).length).cont;have h3:((S0 c.op.length (yB (P.filter (yX (c.rule 3)))) (P.filter (yX (c.rule 3))).length).wait (O.map Int.toNat)).length≤(O.map Int.toNat).length:=kt _ _;show 2* ((O.map Int.toNat).filter _).length+_≤36;omega
 have hel:S.el.length≤12:=by
  have h1:=HEN.u.2;omega
 have QS:=jA (XF T1 T2 R S.el oR oR' oE oE' cR cR' cE cE' w6 (RD4.u.below b46) (RD5.u.below b6) (IE4.u.below b46) (IE5.u.below b6) (by omega) hel (jfP hn12 (by omega) HRU.u));clear b6 b46 ho hp B4 X4 Q4 B5 D4 hF hA h4096 hinv hI hlen hmu hrl hel hol;go_wp2_with (first
  |go_big_skip
  |((with_reducible refine xl 31 ?_);refine xO ?_ 31 (.tmp 7) ?_ D _ _ _ _ ?_ D6.u underlying31 ?_ yG ?_;rfl;rfl;rfl;rfl)
  |((with_reducible refine xl 31 ?_);refine xO ?_ 31 (.tmp 9) ?_ F _ _ _ _ ?_ F6.u underlying31 ?_ yG ?_;rfl;rfl;rfl;rfl)
  |(go_at_call 11;refine(QS.u).mono ?_;rintro e w7 ⟨rfl,b7⟩;dsimp only;have B7:=jA b7;clear b7))
 go_ret;exact⟨rfl,by rw [HB.u];exact B6.u.trans (B7.u.mono (by have:=B6.u.size;rw [HB.u]at this;exact this))⟩
end Go.Proofs.YtnohcdpnnhmpfaaGreatDoor.TR
