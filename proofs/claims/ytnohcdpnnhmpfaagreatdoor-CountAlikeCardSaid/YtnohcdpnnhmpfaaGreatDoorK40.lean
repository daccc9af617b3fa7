/-
  The reference's Joined and Tag.
  Chapter 13: the reference's Wrong, Lot, Ahead, Lots. Printed by tools/genrlots.py.
  Chapter 13, CountAlike: the law's all and twice. Printed by tools/genalk.py.
-/
import Derived.Test.YtnohcdpnnhmpfaaGreatDoorK11
import Derived.Test.YtnohcdpnnhmpfaaGreatDoorK39
import Derived.Test.YtnohcdpnnhmpfaaGreatDoorK32
import Derived.Test.YtnohcdpnnhmpfaaGreatDoorK29
import Derived.Test.YtnohcdpnnhmpfaaGreatDoorK35
set_option linter.unusedVariables false
set_option linter.unusedSimpArgs false
set_option maxRecDepth 100000
set_option maxHeartbeats 4000000
namespace Go.Proofs.YtnohcdpnnhmpfaaGreatDoor
open Go.RowKit ML FM
theorem refJoined_any(L:Bytes)(oa:Option Addr)(Ps:List Bytes)(cap:Nat)(w:World)(hs:StrsAt w oa Ps)(hlen:(joinL L Ps).length<9223372036854775808)(hnl:Ps.length<9223372036854775807):
 Calls Tryz.prog 148 #[.string ⟨L.toArray⟩,.slice oa Ps.length cap] w fun e w'=>e=.returned (.string ⟨(joinL L Ps).toArray⟩)∧Below w.heap.size w w':=by
 have HS:=Lib.hid hs;have HL:=Lib.hid hlen;clear hs hlen;have hsL:=size_mk L;have h1:=length_joinK_le (L::Ps) 1;have e1:joinK (L::Ps) 1=fourN L.length++L:=by simp [joinK]
 have hll:4+L.length<9223372036854775808:=by
  have:=HL.out;rw [e1,List.length_append,show(fourN L.length).length=4 from rfl]at h1;exact Nat.lt_of_le_of_lt h1 this
 have hsF:=size_mk (fourN L.length);rw [show(fourN L.length).length=4 from rfl]at hsF;have QF:=Lib.hid (refFour_any L.length w (by omega));clear h1;have E1:=Lib.hid e1;clear e1;go_enter Tryz.func148,Tryz.ntmps148;go_upto_region 2 with(go_at_call 184;refine QF.out.mono ?_;rintro e w1 ⟨rfl,hb1⟩);rw [append_mk,←E1.out];clear QF hsF hsL;go_upto_region 3 with(fail);go_loopw [5,15] (fun s i wr=> ∃k:Nat,k≤Ps.length∧s=.string ⟨(joinK (L::Ps) (k+1)).toArray⟩∧i=.int .i64 k∧Below w.heap.size w wr) (fun _ i _=>Ps.length-(intOf i).toNat);case atStart=>exact⟨0,by omega,rfl,rfl,hb1⟩
 case round=>
 obtain⟨k,hk,rfl,rfl,bel⟩:=hrel;clear hb1;by_cases hlt:k<Ps.length
 ·have hd:decide ((k:Int)<(Ps.length:Int))=true:=by simp;omega
  obtain⟨a,hoa,hab,hac⟩:=(HS.out.below bel).cells k hlt;obtain⟨x,hx⟩: ∃x,x=Ps[k]:=⟨_,rfl⟩;rw [←hx]at hac;have hjl:=length_joinK_le (L::Ps) (k+1+1);have hjn:=joinK_next (L::Ps) (k+1) (by simpa using hlt);rw [show(L::Ps)[k+1]'(by simpa using hlt)=x by rw [hx];rfl]at hjn;have h4:=Lib.hid (show(fourN x.length).length=4 from rfl);have hjl2:(joinK (L::Ps) (k+1)).length+4+x.length<9223372036854775808:=by
   have h1:=HL.out;rw [hjn,List.length_append,List.length_append,h4.out]at hjl;exact Nat.lt_of_le_of_lt hjl h1
  have HJN:=Lib.hid hjn;clear hjl hjn hx;have s1:=size_mk (joinK (L::Ps) (k+1));have s2:=size_mk (fourN x.length);have s3:=size_mk x;have s4:=size_mk (joinK (L::Ps) (k+1)++fourN x.length);rw [List.length_append,h4.out]at s4;rw [h4.out]at s2;have QF:=Lib.hid (refFour_any x.length wr (by omega));subst hoa;have am:=append_mk (joinK (L::Ps) (k+1)) (fourN x.length);generalize joinK (L::Ps) (k+1)=J at*;go_upto_region 6 with(go_at_call 184;refine QF.out.mono ?_;rintro e w3 ⟨rfl,hb3⟩);rw [append_mk,←HJN.out];have bel3:=bel.trans (hb3.mono bel.size);clear QF hac hb3 bel;go_wp2_with fail;go_roundw;case rel=>exact⟨k+1,by omega,rfl,by go_num,bel3⟩
  case measure=>simp [intOf];omega
 ·have hd:decide ((k:Int)<(Ps.length:Int))=false:=by simp;omega
  obtain rfl:k=Ps.length:=by omega
  rw [joinK_all];go_wp2_with fail;go_ret;exact⟨rfl,bel⟩
theorem refTag_any(L:Bytes)(oa:Option Addr)(Ps:List Bytes)(cap:Nat)(w:World)(hs:StrsAt w oa Ps)(hlen:(joinL L Ps).length<4611686018427387904)(hnl:Ps.length<9223372036854775807):
 Calls Tryz.prog 105 #[.string ⟨L.toArray⟩,.slice oa Ps.length cap] w fun e w'=>e=.returned (.string ⟨(digestL [] (joinL L Ps)).toArray⟩)∧Below w.heap.size w w':=by
 have Q:=Lib.hid (refJoined_any L oa Ps cap w hs (by omega) hnl);have Q2:=Lib.hid (fun w=>refDigest_any (joinL L Ps) w hlen);clear hs hlen;go_enter Tryz.func105,Tryz.ntmps105;go_wp2_with (first
  |(go_at_call 148;refine Q.out.mono ?_;rintro e w1 ⟨rfl,hb1⟩)
  |(go_at_call 147;refine(Q2.out _).mono ?_;rintro e w2 ⟨rfl,hb2⟩))
 go_ret;exact⟨rfl,hb1.trans (hb2.mono hb1.size)⟩
end Go.Proofs.YtnohcdpnnhmpfaaGreatDoor
namespace Go.Proofs.YtnohcdpnnhmpfaaGreatDoor
open Go.RowKit ML FM AU CT
def wrongE(c:CTest):Int:=if wrongC c=true then 2 else 0
theorem refLot_any(c:CTest)(lots:Bytes)(k:Nat)(oa:Option Addr)(cap:Nat)(w:World)(hs:StrsAt w oa c.op)(hf:c.Fits lots)(hk:k<c.op.length)(hnl:c.op.length<9223372036854775807):
 Calls Tryz.prog 61 #[.agg (c.cells oa cap).toArray,.string ⟨lots.toArray⟩,.int .i64 k] w fun e w'=>e=.returned (.string ⟨(lotN c lots k).toArray⟩)∧Below w.heap.size w w':=by
 have hC:(c.cells oa cap).toArray= #[.string ⟨c.nm.toArray⟩,.slice oa c.op.length cap,.int .i64 c.rl,.int .i64 c.se,.int .i64 c.mo]:=rfl;rw [hC];clear hC;obtain⟨q,hoa,hqb,hqc⟩:=hs.cells k hk;subst hoa;have HJ:=Lib.hid (hf.join k hk);have HLN:=Lib.hid (show lotN c lots k=digestL [] (joinL lotT [lots,c.nm,c.op.getD k []])from rfl);have ho:c.op.getD k []=c.op[k]:=by rw [List.getD_eq_getElem?_getD,List.getElem?_eq_getElem hk];rfl
 rw [ho]at HJ HLN;clear ho hf hs;generalize c.op[k]=opt at*;have hki:(k:Int)<(c.op.length:Int):=by omega
 have HQC:=Lib.hid hqc;have hqk:=addr_block q k;clear hqc;go_enter Tryz.func61,Tryz.ntmps61;go_upto_region 1 with(fail);generalize hB:w.heap.size=B at*;refine wp_abs (fun w1=>Below B w w1∧w1.heap[B]?=some (.cells #[.string ⟨c.nm.toArray⟩,.slice (some q) c.op.length cap,.int .i64 c.rl,.int .i64 c.se,.int .i64 c.mo] 24 (0,0))) ⟨by rw [←hB];exact(Below.refl _ _).alloc (Nat.le_refl _) _,by rw [←hB];exact heap_at rfl⟩ (fun w1 hw1=>?_);have HB:=Lib.hid hB;have B1:=Lib.hid hw1.1;have X1:=Lib.hid hw1.2;have hBs:B<w1.heap.size:=lt_of_heap hw1.2;have k0:w1.cell? ⟨B,0,none⟩=some (.string ⟨c.nm.toArray⟩):=cell_of_row w1 B 0 _ _ _ hw1.2;have k1:w1.cell? ⟨B,1,none⟩=some (.slice (some q) c.op.length cap):=cell_of_row w1 B 1 _ _ _ hw1.2;have k2:w1.cell? ⟨B,2,none⟩=some (.int .i64 c.rl):=cell_of_row w1 B 2 _ _ _ hw1.2;have k3:w1.cell? ⟨B,3,none⟩=some (.int .i64 c.se):=cell_of_row w1 B 3 _ _ _ hw1.2;clear hB hw1;have hqc:=(B1.out.cell (p:=q.add k) (by omega)).trans HQC.out;clear k2 k3;have QT:=Lib.hid (fun(g:Nat) (w6:World) (h:w6.heap[g]?=some (.cells #[.string ⟨lots.toArray⟩,.string ⟨c.nm.toArray⟩,.string ⟨opt.toArray⟩] 9 (0,0)))=>refTag_any lotT (some ⟨g,0,none⟩) [lots,c.nm,opt] 3 w6 (strsAt_three h) HJ.out (by show 3<9223372036854775807;decide));rw [←HLN.out]at QT;have QT2:=Lib.hid (QT.out w1.heap.size (w1.alloc (.cells #[.string ⟨lots.toArray⟩,.string ⟨c.nm.toArray⟩,.string ⟨opt.toArray⟩] 9)).drew (heap_at rfl));clear QT;refine Seg.wp_region_segs (fun w'=> ∃m,w'=w1.drewN m) [] [0,1,2,3,4,5,6,7] 8 (by kernel_rfl) (by kernel_rfl) (fun _ _ d _ _ h=>by cases d<;>exact h) (⟨1,rfl⟩) ?_;simp only [List.map_cons,List.map_nil,Seg.opAt,List.drop_succ_cons,List.drop_zero,Seg.wpSegs,Array.getD_eq_getD_getElem?,List.getElem?_toArray,List.getElem?_cons_succ,List.getElem?_cons_zero,Option.getD_some];repeat (any_goals (first|go_big_quiet_step (fail)|quiet_step (fail)))
 refine wpQuiet_nil ?_;go_wp2_with (go_at_call 105;refine QT2.out.mono ?_;rintro e w2 ⟨rfl,b2⟩);go_ret;have ba:Below w1.heap.size w1 (w1.alloc (.cells #[.string ⟨lots.toArray⟩,.string ⟨c.nm.toArray⟩,.string ⟨opt.toArray⟩] 9)).drew:=((Below.refl _ _).alloc (Nat.le_refl _) _).drew;exact⟨rfl,by rw [HB.out];exact B1.out.trans ((ba.trans (b2.mono ba.size)).mono (Nat.le_of_lt hBs))⟩
end Go.Proofs.YtnohcdpnnhmpfaaGreatDoor
namespace Go.Proofs.YtnohcdpnnhmpfaaGreatDoor.TR
open Go.RowKit ML FRP AU CT FM
def allB(L:List Int):Bool:=(List.range L.length).all fun i=>decide ((i:Int)∈L)
theorem allB_names {N:List Int}(h:allB N=true):Names N.length N:=⟨rfl,fun i hi=>of_decide_eq_true (List.all_eq_true.1 h i (List.mem_range.2 hi))⟩
theorem lawAll_any(oa:Option Addr)(L:List Int)(cap:Nat)(w:World)(h:IsAt w oa L)(hl:L.length<9223372036854775807):
 Calls Tryz.prog 23 #[.slice oa L.length cap] w fun e w'=>e=.returned (.bool (allB L))∧w=w':=by
 have QI:=Lib.hid (fun x=>lawIn_any oa L cap x w h (by omega));clear h;go_enter Tryz.func23,Tryz.ntmps23;go_upto_region 2 with(fail)
 go_loop [6] (fun i=> ∃k:Nat,k≤L.length∧i=.int .i64 k∧(List.range k).all (fun i=>decide ((i:Int)∈L))=true) (fun i=>L.length-(intOf i).toNat)
 case atStart=>exact⟨0,by omega,rfl,rfl⟩
 case round=>
 obtain⟨k,hk,rfl,hpre⟩:=hrel;have HP:=Lib.hid hpre;clear hpre;by_cases hlt:k<L.length
 ·have dk:decide ((k:Int)<(L.length:Int))=true:=decide_eq_true (by omega);have dk2:decide (k<L.length)=true:=decide_eq_true hlt;have hki:(k:Int)<(L.length:Int):=by omega
  have Q:=Lib.hid (QI.out (k:Int))
  have HN:=Lib.hid (show(List.range (k+1)).all (fun i=>decide ((i:Int)∈L))=decide ((k:Int)∈L)by
   rw [List.range_succ,List.all_append,HP.out];simp)
  have HF:=Lib.hid (fun(hb:decide ((k:Int)∈L)=false)=>(show allB L=false by
   unfold allB;rw [List.all_eq_false];exact⟨k,List.mem_range.2 hlt,by rw [hb];decide⟩))
  cases hb:decide ((k:Int)∈L)with
  |
   true=>
   rw [hb]at Q HN;clear hb HF;go_wp2_with (first
    |go_big_skip
    |(go_at_call 13;refine(Q.out).mono ?_;rintro e w1 ⟨rfl,rfl⟩;dsimp only))
   go_round
   case rel=>exact⟨k+1,by omega,by go_num,HN.out⟩
   case measure=>simp [intOf];omega
  |
   false=>
   have h2:=Lib.hid (HF.out hb);rw [hb]at Q HN;clear hb HF;go_wp2_with (first
    |go_big_skip
    |(go_at_call 13;refine(Q.out).mono ?_;rintro e w1 ⟨rfl,rfl⟩;dsimp only))
   go_ret;exact⟨by rw [h2.out];rfl,rfl⟩
 ·have dk:decide ((k:Int)<(L.length:Int))=false:=decide_eq_false (by omega);have dk2:decide (k<L.length)=false:=decide_eq_false hlt;obtain rfl:k=L.length:=by omega
  have h2:=Lib.hid (show allB L=true from HP.out);go_wp2_with fail;go_ret;exact⟨by rw [h2.out];rfl,rfl⟩
def twB(c:CTest)(lots:Bytes)(i k:Nat):Bool:=decide (lotN c lots i=lotN c lots k)
def twiceB(c:CTest)(lots:Bytes):Bool:=(List.range c.op.length).any fun i=>(List.range i).any fun k=>twB c lots i k
theorem twiceB_apt {c:CTest}{lots:Bytes}(h:twiceB c lots=false):Apt c lots:=by
 intro i j hi hj hne e;have key: ∀i k:Nat,i<c.op.length→k<i→lotN c lots i≠lotN c lots k:=fun i k hi hk e=>by
  have h1:twiceB c lots=true:=List.any_eq_true.2 ⟨i,List.mem_range.2 hi,List.any_eq_true.2 ⟨k,List.mem_range.2 hk,decide_eq_true e⟩⟩;rw [h]at h1;cases h1
 unfold lotF at e;rw [Int.toNat_natCast,Int.toNat_natCast]at e;rcases Nat.lt_or_ge i j with hl|hl;·exact key j i hj hl e.symm
 ·exact key i j hi (by omega) e
theorem lawTwice_any(c:CTest)(lots:Bytes)(oa:Option Addr)(cap:Nat)(w:World)(hs:StrsAt w oa c.op)(hf:c.Fits lots)(hn:c.op.length≤12):
 Calls Tryz.prog 24 #[.agg #[.string ⟨c.nm.toArray⟩,.slice oa c.op.length cap,.int .i64 c.rl,.int .i64 c.se,.int .i64 c.mo],.string ⟨lots.toArray⟩] w fun e w'=>e=.returned (.bool (twiceB c lots))∧Below w.heap.size w w':=by
 have QL:=Lib.hid (show ∀(k:Nat) (w:World) (h:StrsAt w oa c.op) (hk:k<c.op.length),Calls Tryz.prog 61 #[.agg #[.string ⟨c.nm.toArray⟩,.slice oa c.op.length cap,.int .i64 c.rl,.int .i64 c.se,.int .i64 c.mo],.string ⟨lots.toArray⟩,.int .i64 k] w (fun e w'=>e=.returned (.string ⟨(lotN c lots k).toArray⟩)∧Below w.heap.size w w')from fun k w h hk=>refLot_any c lots k oa cap w h hf hk (by omega));have HS:=Lib.hid hs;clear hs hf;go_enter Tryz.func24,Tryz.ntmps24;go_upto_region 1 with(fail);generalize hB:w.heap.size=B at*;refine wp_abs (fun w1=>Below B w w1∧w1.heap[B]?=some (.cells #[.string ⟨c.nm.toArray⟩,.slice oa c.op.length cap,.int .i64 c.rl,.int .i64 c.se,.int .i64 c.mo] 24 (0,0))) ⟨by rw [←hB];exact(Below.refl _ _).alloc (Nat.le_refl _) _,by rw [←hB];exact heap_at rfl⟩ (fun w1 hw1=>?_);have HB:=Lib.hid hB;have B1:=Lib.hid hw1.1;have X1:=Lib.hid hw1.2;have k1:w1.cell? ⟨B,1,none⟩=some (.slice oa c.op.length cap):=cell_of_row w1 B 1 _ _ _ hw1.2;clear hB hw1;go_wp2_with fail;clear k1;go_loopw [10] (fun v wr=> ∃i:Nat,v=.int .i64 i∧i≤c.op.length∧((List.range i).any fun i=>(List.range i).any fun k=>twB c lots i k)=false∧Below B w wr∧wr.heap[B]?=some (.cells #[.string ⟨c.nm.toArray⟩,.slice oa c.op.length cap,.int .i64 c.rl,.int .i64 c.se,.int .i64 c.mo] 24 (0,0))) (fun v _=>c.op.length-(intOf v).toNat);case atStart=>exact⟨0,rfl,Nat.zero_le _,rfl,B1.out,X1.out⟩
 case round=>
 clear B1 X1;obtain⟨i,rfl,hi,hpre,hb,hx⟩:=hrel;have HPRE:=Lib.hid hpre;have BR:=Lib.hid hb;have XR:=Lib.hid hx;clear hpre hb hx;by_cases hlt:i<c.op.length;case neg=>
  have dk:decide ((i:Int)<(c.op.length:Int))=false:=decide_eq_false (by omega);have dk2:decide (i<c.op.length)=false:=decide_eq_false hlt;obtain rfl:i=c.op.length:=by omega
  have h2:=Lib.hid (show twiceB c lots=false from HPRE.out);go_wp2_with fail;go_ret;exact⟨by rw [h2.out];rfl,by rw [HB.out];exact BR.out⟩
 have dk:decide ((i:Int)<(c.op.length:Int))=true:=decide_eq_true (by omega);have dk2:decide (i<c.op.length)=true:=decide_eq_true hlt;have hki:(i:Int)<(c.op.length:Int):=by omega
 obtain⟨wo,hwo⟩: ∃wo:World,wo=wr:=⟨_,rfl⟩;subst hwo;go_wp2_with fail;go_loopw [6] (fun v wr=> ∃k:Nat,v=.int .i64 k∧k≤i∧((List.range k).any fun k=>twB c lots i k)=false∧Below B w wr∧wr.heap[B]?=some (.cells #[.string ⟨c.nm.toArray⟩,.slice oa c.op.length cap,.int .i64 c.rl,.int .i64 c.se,.int .i64 c.mo] 24 (0,0))) (fun v _=>i-(intOf v).toNat);case atStart=>exact⟨0,rfl,Nat.zero_le _,rfl,BR.out,XR.out⟩
 case round=>
 clear BR XR;obtain⟨k,rfl,hk,hpk,hb,hx⟩:=hrel;have HPK:=Lib.hid hpk;have BK:=Lib.hid hb;have XK:=Lib.hid hx;clear hpk hb hx;by_cases hlk:k<i;case neg=>
  have ek:decide ((k:Int)<(i:Int))=false:=decide_eq_false (by omega);have ek2:decide (k<i)=false:=decide_eq_false hlk;obtain rfl:k=i:=by omega
  have HN:=Lib.hid (show((List.range (k+1)).any fun i=>(List.range i).any fun k=>twB c lots i k)=false by
   rw [List.range_succ,List.any_append,HPRE.out,List.any_cons,List.any_nil,HPK.out];rfl)
  go_wp2_with fail;go_roundw;case rel=>exact⟨k+1,by go_num,by omega,HN.out,BK.out,XK.out⟩
  case measure=>simp [intOf];omega
 have ek:decide ((k:Int)<(i:Int))=true:=decide_eq_true (by omega);have ek2:decide (k<i)=true:=decide_eq_true hlk;have hkin:k<c.op.length:=by omega
 have hBr:B<wr.heap.size:=lt_of_heap XK.out;obtain⟨M,hM⟩: ∃M,M=wr.heap.size:=⟨_,rfl⟩;have HM:=Lib.hid hM;have hBM:B<M:=by omega
 have hx0:Below M wr wr.drew:=(Below.refl _ _).drew;clear hM;have Q1:=Lib.hid (QL.out i wr.drew ((HS.out.below (HB.out.symm▸BK.out)).below (HM.out▸hx0)) hlt);have HYES:=Lib.hid (fun(hb:twB c lots i k=true)=>(show twiceB c lots=true from List.any_eq_true.2 ⟨i,List.mem_range.2 hlt,List.any_eq_true.2 ⟨k,List.mem_range.2 hlk,hb⟩⟩))
 have HNO:=Lib.hid (fun(hb:twB c lots i k=false)=>(show((List.range (k+1)).any fun k=>twB c lots i k)=false by
  rw [List.range_succ,List.any_append,HPK.out,List.any_cons,List.any_nil,hb];rfl))
 go_wp2_with fail;refine Seg.wp_region_segs (fun w'=> ∃x:BelowT M wr,w'=x.w) [([0,1,2,4,5,6],3)] [] 7 (by kernel_rfl) (by kernel_rfl) (fun _ _ d _ _ h=>by cases d<;>exact h) (⟨⟨_,hx0⟩,rfl⟩) ?_;simp only [List.map_cons,List.map_nil,Seg.opAt,List.drop_succ_cons,List.drop_zero,Seg.wpSegs,Array.getD_eq_getD_getElem?,List.getElem?_toArray,List.getElem?_cons_succ,List.getElem?_cons_zero,Option.getD_some];refine wpQuiet_load_whole rfl 24 _ rfl B #[.string ⟨c.nm.toArray⟩,.slice oa c.op.length cap,.int .i64 c.rl,.int .i64 c.se,.int .i64 c.mo] _ _ _ rfl XK.out hBM Tryz.underlying24 rfl size_contest ?_;first|go_big_quiet_step (fail)|quiet_step (fail)
 first|go_big_quiet_step (fail)|quiet_step (fail)
 refine wpQuiet_load_whole rfl 24 _ rfl B #[.string ⟨c.nm.toArray⟩,.slice oa c.op.length cap,.int .i64 c.rl,.int .i64 c.se,.int .i64 c.mo] _ _ _ rfl XK.out hBM Tryz.underlying24 rfl size_contest ?_;first|go_big_quiet_step (fail)|quiet_step (fail)
 first|go_big_quiet_step (fail)|quiet_step (fail)
 refine wpQuiet_nil ?_;intro Kc hK;simp only [Region.wanted,if_true];go_wp2_with (go_at_call 61;refine(Q1.out).mono ?_;rintro e w3 ⟨rfl,b3⟩);have B3:=Lib.hid (show Below M wr w3 from hx0.trans (b3.mono (Nat.le_of_eq HM.out)));refine hK _ _ ⟨⟨w3,B3.out⟩,rfl⟩ ?_;clear hK Kc b3 Q1 hx0;repeat (any_goals (first|go_big_quiet_step (fail)|quiet_step (fail)))
 refine wpQuiet_nil ?_;have bw:Below wr.heap.size wr w3:=HM.out▸B3.out;have Q2:=Lib.hid (QL.out k w3 ((HS.out.below (HB.out.symm▸BK.out)).below bw) hkin);have X3:=Lib.hid (bel_keep bw hBr XK.out);have BW3:=Lib.hid (BK.out.trans (bw.mono (Nat.le_of_lt hBr)));have hB3:B<w3.heap.size:=lt_of_heap X3.out;clear bw;cases hb:twB c lots i k with
 |
  true=>
  have h2:=Lib.hid (HYES.out hb);have he:lotN c lots i=lotN c lots k:=of_decide_eq_true hb;rw [he];clear hb HYES HNO he;generalize (lotN c lots k).toArray=tx at*;go_wp2_with (go_at_call 61;refine(Q2.out).mono ?_;rintro e w4 ⟨rfl,b4⟩;have B4:=Lib.hid (BW3.out.trans (b4.mono (Nat.le_of_lt hB3)));clear b4);go_ret;exact⟨by rw [h2.out];rfl,by rw [HB.out];exact B4.out⟩
 |
  false=>
  have h2:=Lib.hid (HNO.out hb);have he: ¬lotN c lots i=lotN c lots k:=of_decide_eq_false hb;have hne:((⟨(lotN c lots i).toArray⟩:ByteArray).toList==(⟨(lotN c lots k).toArray⟩:ByteArray).toList)=false:=by
   rw [ByteArray.toList_eq,ByteArray.toList_eq,beq_eq_false_iff_ne];exact he
  clear hb HYES HNO he;generalize (lotN c lots k).toArray=tx at*;generalize (lotN c lots i).toArray=ty at*;go_wp2_with (go_at_call 61;refine(Q2.out).mono ?_;rintro e w4 ⟨rfl,b4⟩;have B4:=Lib.hid (BW3.out.trans (b4.mono (Nat.le_of_lt hB3)));have X4:=Lib.hid (bel_keep b4 hB3 X3.out);clear b4);go_roundw;case rel=>exact⟨k+1,by go_num,by omega,h2.out,B4.out,X4.out⟩
  case measure=>simp [intOf];omega
end Go.Proofs.YtnohcdpnnhmpfaaGreatDoor.TR
