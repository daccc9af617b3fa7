/-
  The reference's Joined and Tag.
  Chapter 13: the reference's Wrong, Lot, Ahead, Lots. Printed by tools/genrlots.py.
-/
import Derived.Test.YtnohcdpnnhmpfaaGreatDoorQ16
import Derived.Test.YtnohcdpnnhmpfaaGreatDoorQ35
import Derived.Test.YtnohcdpnnhmpfaaGreatDoorQ32
set_option linter.unusedVariables false
set_option linter.unusedSimpArgs false
set_option maxRecDepth 100000
set_option maxHeartbeats 4000000
namespace Go.Proofs.YtnohcdpnnhmpfaaGreatDoor
open Go.RowKit Tryz ML FM
theorem jbI(L:Bytes)(oa:Option Addr)(Ps:List Bytes)(cap:Nat)(w:World)(hs:JD w oa Ps)(hlen:(KI L Ps).length<9223372036854775808)(hnl:Ps.length<9223372036854775807):
 Calls prog 148 #[.string ⟨L.toArray⟩,.slice oa Ps.length cap] w fun e w'=>e=.returned (.string ⟨(KI L Ps).toArray⟩)∧Below w.heap.size w w':=by
 have HS:=jA hs;have HL:=jA hlen;clear hs hlen;have hsL:=zJ L;have h1:=Qd (L::Ps) 1;have e1:KJ (L::Ps) 1=Jb L.length++L:=by simp [KJ]
 have hll:4+L.length<9223372036854775808:=by
  have:=HL.u;rw [e1,ja,show(Jb L.length).length=4 from rfl]at h1;exact qB h1 this
 have hsF:=zJ (Jb L.length);rw [show(Jb L.length).length=4 from rfl]at hsF;have QF:=jA (jaj L.length w (by omega));clear h1;have E1:=jA e1;clear e1;go_enter Tryz.func148,Tryz.ntmps148;go_upto_region 2 with(go_at_call 184;refine QF.u.mono ?_;rintro e w1 ⟨rfl,hb1⟩);rw [Qx,←E1.u];clear QF hsF hsL;go_upto_region 3 with(fail);go_loopw [5,15] (fun s i wr=> ∃k:Nat,k≤Ps.length∧s=.string ⟨(KJ (L::Ps) (k+1)).toArray⟩∧i=.int .i64 k∧Below w.heap.size w wr) (fun _ i _=>Ps.length-(intOf i).toNat);case atStart=>exact⟨0,by omega,rfl,rfl,hb1⟩
 case round=>
 obtain⟨k,hk,rfl,rfl,bel⟩:=hrel;clear hb1;by_cases hlt:k<Ps.length
 ·have hd:decide ((k:Int)<(Ps.length:Int))=true:=by simp;omega
  obtain⟨a,hoa,hab,hac⟩:=(HS.u.below bel).cells k hlt;obtain⟨x,hx⟩: ∃x,x=Ps[k]:=⟨_,rfl⟩;rw [←hx]at hac;have hjl:=Qd (L::Ps) (k+1+1);have hjn:=jbl (L::Ps) (k+1) (by simpa using hlt);rw [show(L::Ps)[k+1]'(by simpa using hlt)=x by rw [hx];rfl]at hjn;have h4:=jA (show(Jb x.length).length=4 from rfl);have hjl2:(KJ (L::Ps) (k+1)).length+4+x.length<9223372036854775808:=by
   have h1:=HL.u;rw [hjn,ja,ja,h4.u]at hjl;exact qB hjl h1
  have HJN:=jA hjn;clear hjl hjn hx;have s1:=zJ (KJ (L::Ps) (k+1));have s2:=zJ (Jb x.length);have s3:=zJ x;have s4:=zJ (KJ (L::Ps) (k+1)++Jb x.length);rw [ja,h4.u]at s4;rw [h4.u]at s2;have QF:=jA (jaj x.length wr (by omega));subst hoa;have am:=Qx (KJ (L::Ps) (k+1)) (Jb x.length);generalize KJ (L::Ps) (k+1)=J at*;go_upto_region 6 with(go_at_call 184;refine QF.u.mono ?_;rintro e w3 ⟨rfl,hb3⟩);rw [Qx,←HJN.u];have bel3:=bel.trans (hb3.mono bel.size);clear QF hac hb3 bel;go_wp2_with fail;go_roundw;case rel=>exact⟨k+1,by omega,rfl,by go_num,bel3⟩
  case measure=>simp [intOf];omega
 ·have hd:decide ((k:Int)<(Ps.length:Int))=false:=by simp;omega
  obtain rfl:k=Ps.length:=by omega
  rw [jcG];go_wp2_with fail;go_ret;exact⟨rfl,bel⟩
theorem jfY(L:Bytes)(oa:Option Addr)(Ps:List Bytes)(cap:Nat)(w:World)(hs:JD w oa Ps)(hlen:(KI L Ps).length<4611686018427387904)(hnl:Ps.length<9223372036854775807):
 Calls prog 105 #[.string ⟨L.toArray⟩,.slice oa Ps.length cap] w fun e w'=>e=.returned (.string ⟨(Jm [] (KI L Ps)).toArray⟩)∧Below w.heap.size w w':=by
 have Q:=jA (jbI L oa Ps cap w hs (by omega) hnl);have Q2:=jA (fun w=>jbK (KI L Ps) w hlen);clear hs hlen;go_enter Tryz.func105,Tryz.ntmps105;go_wp2_with (first
  |(go_at_call 148;refine Q.u.mono ?_;rintro e w1 ⟨rfl,hb1⟩)
  |(go_at_call 147;refine(Q2.u _).mono ?_;rintro e w2 ⟨rfl,hb2⟩))
 go_ret;exact⟨rfl,hb1.trans (hb2.mono hb1.size)⟩
end Go.Proofs.YtnohcdpnnhmpfaaGreatDoor
namespace Go.Proofs.YtnohcdpnnhmpfaaGreatDoor
open Go.RowKit Tryz ML FM AU CT
def KS(c:yE):Int:=if zR c=true then 2 else 0
theorem jds(c:yE)(oa:Option Addr)(cap:Nat)(w:World)(hnl:c.op.length<9223372036854775807):
 Calls prog 76 #[.agg (c.cells oa cap).toArray] w fun e w'=>e=.returned (.int .i64 (KS c))∧Below w.heap.size w w':=by
 have hC:(c.cells oa cap).toArray= #[.string ⟨c.nm.toArray⟩,.slice oa c.op.length cap,.int .i64 c.rl,.int .i64 c.se,.int .i64 c.mo]:=rfl;rw [hC];clear hC;go_enter Tryz.func76,Tryz.ntmps76;go_upto_region 1 with(fail);generalize hB:w.heap.size=B at*;refine xP (fun w1=>Below B w w1∧w1.heap[B]?=some (.cells #[.string ⟨c.nm.toArray⟩,.slice oa c.op.length cap,.int .i64 c.rl,.int .i64 c.se,.int .i64 c.mo] 24 (0,0))) ⟨by rw [←hB];exact(jN _ _).alloc (jO _) _,by rw [←hB];exact xN rfl⟩ (fun w1 hw1=>?_);have HB:=jA hB;have B1:=jA hw1.1;have X1:=jA hw1.2;have hBs:B<w1.heap.size:=lt_of_heap hw1.2;have k0:w1.cell? ⟨B,0,none⟩=some (.string ⟨c.nm.toArray⟩):=jM w1 B 0 _ _ _ hw1.2;have k1:w1.cell? ⟨B,1,none⟩=some (.slice oa c.op.length cap):=jM w1 B 1 _ _ _ hw1.2;have k2:w1.cell? ⟨B,2,none⟩=some (.int .i64 c.rl):=jM w1 B 2 _ _ _ hw1.2;have k3:w1.cell? ⟨B,3,none⟩=some (.int .i64 c.se):=jM w1 B 3 _ _ _ hw1.2;clear hB hw1;clear k0;by_cases hc1:c.op.length<1
 ·have dhc1:decide ((c.op.length:Int)<1)=true:=jQ (by omega);have ehc1:decide (c.op.length<1)=true:=jQ hc1;have hW:=jA (show KS c=2 from jR (jQ (by omega)));clear hc1;go_wp2_with fail;go_ret;exact⟨by first|rfl|(rw [hW.u];rfl),by rw [HB.u];exact B1.u⟩
 have dhc1:decide ((c.op.length:Int)<1)=false:=jS (by omega);have ehc1:decide (c.op.length<1)=false:=jS hc1;by_cases hc2:12<c.op.length
 ·have dhc2:decide (12<(c.op.length:Int))=true:=jQ (by omega);have ehc2:decide (12<c.op.length)=true:=jQ hc2;have hW:=jA (show KS c=2 from jR (jQ (by omega)));clear hc1 hc2;go_wp2_with fail;go_ret;exact⟨by first|rfl|(rw [hW.u];rfl),by rw [HB.u];exact B1.u⟩
 have dhc2:decide (12<(c.op.length:Int))=false:=jS (by omega);have ehc2:decide (12<c.op.length)=false:=jS hc2;by_cases hc3:c.rl<1
 ·have dhc3:decide (c.rl<1)=true:=jQ (by omega);have hW:=jA (show KS c=2 from jR (jQ (by omega)));clear hc1 hc2 hc3;go_wp2_with fail;go_ret;exact⟨by first|rfl|(rw [hW.u];rfl),by rw [HB.u];exact B1.u⟩
 have dhc3:decide (c.rl<1)=false:=jS (by omega);by_cases hc4:4<c.rl
 ·have dhc4:decide (4<c.rl)=true:=jQ (by omega);have hW:=jA (show KS c=2 from jR (jQ (by omega)));clear hc1 hc2 hc3 hc4;go_wp2_with fail;go_ret;exact⟨by first|rfl|(rw [hW.u];rfl),by rw [HB.u];exact B1.u⟩
 have dhc4:decide (4<c.rl)=false:=jS (by omega);by_cases hc5:c.se<1
 ·have dhc5:decide (c.se<1)=true:=jQ (by omega);have hW:=jA (show KS c=2 from jR (jQ (by omega)));clear hc1 hc2 hc3 hc4 hc5;go_wp2_with fail;go_ret;exact⟨by first|rfl|(rw [hW.u];rfl),by rw [HB.u];exact B1.u⟩
 have dhc5:decide (c.se<1)=false:=jS (by omega);by_cases hc6:(c.op.length:Int)<c.se
 ·have dhc6:decide ((c.op.length:Int)<c.se)=true:=jQ (by omega);have hW:=jA (show KS c=2 from jR (jQ (by omega)));clear hc1 hc2 hc3 hc4 hc5 hc6;go_wp2_with fail;go_ret;exact⟨by first|rfl|(rw [hW.u];rfl),by rw [HB.u];exact B1.u⟩
 have dhc6:decide ((c.op.length:Int)<c.se)=false:=jS (by omega);have hW:=jA (show KS c=0 from jT (by rw [show zR c=false from jS (by omega)];decide));clear hc1 hc2 hc3 hc4 hc5 hc6;go_wp2_with fail;go_ret;exact⟨by first|rfl|(rw [hW.u];rfl),by rw [HB.u];exact B1.u⟩
theorem jba(c:yE)(lots:Bytes)(k:Nat)(oa:Option Addr)(cap:Nat)(w:World)(hs:JD w oa c.op)(hf:c.Fits lots)(hk:k<c.op.length)(hnl:c.op.length<9223372036854775807):
 Calls prog 61 #[.agg (c.cells oa cap).toArray,.string ⟨lots.toArray⟩,.int .i64 k] w fun e w'=>e=.returned (.string ⟨(Yr c lots k).toArray⟩)∧Below w.heap.size w w':=by
 have hC:(c.cells oa cap).toArray= #[.string ⟨c.nm.toArray⟩,.slice oa c.op.length cap,.int .i64 c.rl,.int .i64 c.se,.int .i64 c.mo]:=rfl;rw [hC];clear hC;obtain⟨q,hoa,hqb,hqc⟩:=hs.cells k hk;subst hoa;have HJ:=jA (hf.join k hk);have HLN:=jA (show Yr c lots k=Jm [] (KI jgr [lots,c.nm,c.op.getD k []])from rfl);have ho:c.op.getD k []=c.op[k]:=by rw [jW,kl hk];rfl
 rw [ho]at HJ HLN;clear ho hf hs;generalize c.op[k]=opt at*;have hki:(k:Int)<(c.op.length:Int):=by omega
 have HQC:=jA hqc;have hqk:=xy q k;clear hqc;go_enter Tryz.func61,Tryz.ntmps61;go_upto_region 1 with(fail);generalize hB:w.heap.size=B at*;refine xP (fun w1=>Below B w w1∧w1.heap[B]?=some (.cells #[.string ⟨c.nm.toArray⟩,.slice (some q) c.op.length cap,.int .i64 c.rl,.int .i64 c.se,.int .i64 c.mo] 24 (0,0))) ⟨by rw [←hB];exact(jN _ _).alloc (jO _) _,by rw [←hB];exact xN rfl⟩ (fun w1 hw1=>?_);have HB:=jA hB;have B1:=jA hw1.1;have X1:=jA hw1.2;have hBs:B<w1.heap.size:=lt_of_heap hw1.2;have k0:w1.cell? ⟨B,0,none⟩=some (.string ⟨c.nm.toArray⟩):=jM w1 B 0 _ _ _ hw1.2;have k1:w1.cell? ⟨B,1,none⟩=some (.slice (some q) c.op.length cap):=jM w1 B 1 _ _ _ hw1.2;have k2:w1.cell? ⟨B,2,none⟩=some (.int .i64 c.rl):=jM w1 B 2 _ _ _ hw1.2;have k3:w1.cell? ⟨B,3,none⟩=some (.int .i64 c.se):=jM w1 B 3 _ _ _ hw1.2;clear hB hw1;have hqc:=(B1.u.cell (p:=q.add k) (by omega)).trans HQC.u;clear k2 k3;have QT:=jA (fun(g:Nat) (w6:World) (h:w6.heap[g]?=some (.cells #[.string ⟨lots.toArray⟩,.string ⟨c.nm.toArray⟩,.string ⟨opt.toArray⟩] 9 (0,0)))=>jfY jgr (some ⟨g,0,none⟩) [lots,c.nm,opt] 3 w6 (ZH h) HJ.u (by show 3<9223372036854775807;decide));rw [←HLN.u]at QT;have QT2:=jA (QT.u w1.heap.size (w1.alloc (.cells #[.string ⟨lots.toArray⟩,.string ⟨c.nm.toArray⟩,.string ⟨opt.toArray⟩] 9)).drew (xN rfl));clear QT;refine Seg.xL (fun w'=> ∃m,w'=w1.drewN m) [] [0,1,2,3,4,5,6,7] 8 (by kernel_rfl) (by kernel_rfl) (fun _ _ d _ _ h=>by cases d<;>exact h) (⟨1,rfl⟩) ?_;simp only [jK,Seg.opAt,Seg.xW];repeat (any_goals (first|go_big_quiet_step (fail)|quiet_step (fail)))
 refine jP ?_;go_wp2_with (go_at_call 105;refine QT2.u.mono ?_;rintro e w2 ⟨rfl,b2⟩);go_ret;have ba:Below w1.heap.size w1 (w1.alloc (.cells #[.string ⟨lots.toArray⟩,.string ⟨c.nm.toArray⟩,.string ⟨opt.toArray⟩] 9)).drew:=((jN _ _).alloc (jO _) _).drew;exact⟨rfl,by rw [HB.u];exact B1.u.trans ((ba.trans (b2.mono ba.size)).mono (jZ hBs))⟩
theorem jdz(c:yE)(lots:Bytes)(i k:Nat)(oa:Option Addr)(cap:Nat)(w:World)(hs:JD w oa c.op)(hf:c.Fits lots)(hi:i<c.op.length)(hk:k<c.op.length)(hnl:c.op.length<9223372036854775807):
 Calls prog 77 #[.agg (c.cells oa cap).toArray,.string ⟨lots.toArray⟩,.int .i64 i,.int .i64 k] w fun e w'=>e=.returned (.bool (jbA (Xu c lots) i k))∧Below w.heap.size w w':=by
 have hC:(c.cells oa cap).toArray= #[.string ⟨c.nm.toArray⟩,.slice oa c.op.length cap,.int .i64 c.rl,.int .i64 c.se,.int .i64 c.mo]:=rfl;have Q1:=jA (fun w h=>jba c lots i oa cap w h hf hi hnl);have Q2:=jA (fun w h=>jba c lots k oa cap w h hf hk hnl);rw [hC]at Q1 Q2 ⊢;clear hC;have HS:=jA hs;have HA:=jA (show jbA (Xu c lots) i k=(Op.bytesLess (Yr c lots i) (Yr c lots k)||(Yr c lots i==Yr c lots k&&decide ((i:Int)<(k:Int))))from rfl);clear hs hf;generalize Yr c lots i=la at*;generalize Yr c lots k=lb at*;go_enter Tryz.func77,Tryz.ntmps77;go_upto_region 1 with(fail);generalize hB:w.heap.size=B at*;refine xP (fun w1=>Below B w w1∧w1.heap[B]?=some (.cells #[.string ⟨c.nm.toArray⟩,.slice oa c.op.length cap,.int .i64 c.rl,.int .i64 c.se,.int .i64 c.mo] 24 (0,0))) ⟨by rw [←hB];exact(jN _ _).alloc (jO _) _,by rw [←hB];exact xN rfl⟩ (fun w1 hw1=>?_);have HB:=jA hB;have B1:=jA hw1.1;have X1:=jA hw1.2;have hBs:B<w1.heap.size:=lt_of_heap hw1.2;have k0:w1.cell? ⟨B,0,none⟩=some (.string ⟨c.nm.toArray⟩):=jM w1 B 0 _ _ _ hw1.2;have k1:w1.cell? ⟨B,1,none⟩=some (.slice oa c.op.length cap):=jM w1 B 1 _ _ _ hw1.2;have k2:w1.cell? ⟨B,2,none⟩=some (.int .i64 c.rl):=jM w1 B 2 _ _ _ hw1.2;have k3:w1.cell? ⟨B,3,none⟩=some (.int .i64 c.se):=jM w1 B 3 _ _ _ hw1.2;clear hB hw1;clear k0 k1 k2 k3;obtain⟨M,hM⟩: ∃M,M=w1.heap.size:=⟨_,rfl⟩;have hx0:Below M w1 w1.drew:=(jN _ _).drew;have hBM:B<M:=by omega
 have QL1:=jA (fun w' (hx:Below M w1 w')=>Q1.u w' ((HS.u.below (HB.u.symm▸B1.u)).below (hM▸hx)));have QL2:=jA (fun w' (hx:Below M w1 w')=>Q2.u w' ((HS.u.below (HB.u.symm▸B1.u)).below (hM▸hx)));have HM:=jA hM;clear hM Q1 Q2 hBs;refine Seg.xL (fun w'=> ∃x:xS M w1,w'=x.w) [([0,1,2,4,5,6],3)] [] 7 (by kernel_rfl) (by kernel_rfl) (fun _ _ d _ _ h=>by cases d<;>exact h) (⟨⟨_,hx0⟩,rfl⟩) ?_;simp only [jK,Seg.opAt,Seg.xW];refine yR rfl 24 _ rfl B #[.string ⟨c.nm.toArray⟩,.slice oa c.op.length cap,.int .i64 c.rl,.int .i64 c.se,.int .i64 c.mo] _ _ _ rfl X1.u hBM underlying24 rfl xe ?_;first|go_big_quiet_step (fail)|quiet_step (fail)
 first|go_big_quiet_step (fail)|quiet_step (fail)
 refine yR rfl 24 _ rfl B #[.string ⟨c.nm.toArray⟩,.slice oa c.op.length cap,.int .i64 c.rl,.int .i64 c.se,.int .i64 c.mo] _ _ _ rfl X1.u hBM underlying24 rfl xe ?_;first|go_big_quiet_step (fail)|quiet_step (fail)
 first|go_big_quiet_step (fail)|quiet_step (fail)
 refine jP ?_;intro K hK;simp only [Region.wanted,jY];go_wp2_with (go_at_call 61;refine(QL1.u _ hx0).mono ?_;rintro e w2 ⟨rfl,b2⟩);have hx2:=hx0.trans (b2.mono (kg HM.u));refine hK _ _ ⟨⟨_,hx2⟩,rfl⟩ ?_;have HX2:=jA hx2;clear hK K hx0 hx2 b2 QL1;have QQ2:=jA (QL2.u w2 HX2.u);clear QL2;have hMs:M≤w2.heap.size:=by have:=HX2.u.size;rw [←HM.u]at this;exact this
 repeat (any_goals (first|go_big_quiet_step (fail)|quiet_step (fail)))
 refine jP ?_;by_cases hik:(i:Int)<(k:Int)
 ·have d1:decide ((i:Int)<(k:Int))=true:=jQ hik;have d2:decide (i<k)=true:=jQ (by omega);rw [d1]at HA;clear hik;cases h1:Op.bytesLess la lb<;>cases h2:la==lb<;>rw [h1,h2]at HA
  all_goals
   have h1':=h1;have h2':=h2;clear h1' h2';go_wp2_with (go_at_call 61;refine QQ2.u.mono ?_;rintro e w3 ⟨rfl,b3⟩);go_ret;exact⟨by rw [HA.u];rfl,by rw [HB.u];exact B1.u.trans ((HX2.u.mono (jZ hBM)).trans (b3.mono (by omega)))⟩
 ·have d1:decide ((i:Int)<(k:Int))=false:=jS hik;have d2:decide (i<k)=false:=jS (by omega);rw [d1]at HA;clear hik;cases h1:Op.bytesLess la lb<;>cases h2:la==lb<;>rw [h1,h2]at HA
  all_goals
   go_wp2_with (go_at_call 61;refine QQ2.u.mono ?_;rintro e w3 ⟨rfl,b3⟩);go_ret;exact⟨by rw [HA.u];rfl,by rw [HB.u];exact B1.u.trans ((HX2.u.mono (jZ hBM)).trans (b3.mono (by omega)))⟩
end Go.Proofs.YtnohcdpnnhmpfaaGreatDoor
