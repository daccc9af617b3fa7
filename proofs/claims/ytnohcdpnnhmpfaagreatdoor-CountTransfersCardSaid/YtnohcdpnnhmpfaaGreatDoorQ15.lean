/-
  fold.turn, corners, quarter, back: what each computes, for any words, in whatever world.
  fold.Stir: eighty quarters, for any words.
  fold.start, fold.Press: for any words.
  What is being folded, in memory: one block, eight words, a count, 64 bytes, how many are held. Its parts read and written.
-/
import Derived.Test.YtnohcdpnnhmpfaaGreatDoorProg
import Derived.Test.YtnohcdpnnhmpfaaGreatDoorQ01
import Derived.WalkKit
import Derived.BigQuiet
import Derived.Outline
import Derived.Lib.Hide
import Derived.Deep.Cut
import Derived.Deep.DeepCutAuto
import Derived.Test.YtnohcdpnnhmpfaaGreatDoorQ03
import Derived.Lib.UnsafeStr
import Derived.Lib.BufferWrite
import Derived.Lib.SliceRun
set_option linter.unusedVariables false
set_option linter.unusedSimpArgs false
set_option maxRecDepth 100000
set_option maxHeartbeats 4000000
namespace Go.Proofs.YtnohcdpnnhmpfaaGreatDoor
open Go.RowKit Tryz ML FM
theorem ZG(x:U)(n:Nat)(w:World)(h0:0<n)(h1:n<32):
 Calls prog 231 #[.int .u32 (un x),.int .i64 (n:Int)] w fun e w'=>e=.returned (.int .u32 (un (x.rotateRight n)))∧ ∃m,w'=w.drewN m:=by
 have hr:=jly x n h1;have hx0:=XC x;have hx1:=jeo x;have e1:(32-(n:Int)).toNat=32-n:=by omega
 go_enter Tryz.func231,Tryz.ntmps231;go_wp2
 go_quiet (fail)
 go_wp2;go_ret;exact⟨rfl,_,rfl⟩
theorem jfs(b i:Nat)(w:World)(h1:i<8):
 Calls prog 230 #[.pointer (some ⟨b,0,none⟩),.int .i64 (i:Int)] w fun e w'=>e=.returned (.tuple #[.pointer (some ⟨b,ca i,none⟩),.pointer (some ⟨b,cb i,none⟩),.pointer (some ⟨b,cc i,none⟩),.pointer (some ⟨b,cd i,none⟩)])∧ ∃m,w'=w.drewN m:=by
 unfold ca cb cc cd;go_enter Tryz.func230,Tryz.ntmps230;go_wp2
 go_quiet (fail)
 go_wp2;refine jm (v:=.tuple #[.pointer (some ⟨b,i%4,none⟩),.pointer (some ⟨b,4+(i+i/4)%4,none⟩),.pointer (some ⟨b,8+(i+2* (i/4))%4,none⟩),.pointer (some ⟨b,12+(i+3* (i/4))%4,none⟩)]) (by simp [results,Tryz.results230,go_sem]) rfl ⟨rfl,_,rfl⟩
theorem jii(r i:Nat)(w:World)(hr:r<10)(hi:i<16):
 Calls prog 223 #[.int .i64 (r:Int),.int .i64 (i:Int)] w fun e w'=>e=.returned (.int .i64 (yr r i:Int))∧w'=w:=by
 go_enter Tryz.func223,Tryz.ntmps223;go_wp2
 ·go_ret;exact⟨congrArg (fun n=>Ending.returned (Value.int .i64 n)) (jgh (16*r+i) (by rw [jcz];omega) (by assumption)),rfl⟩
 ·go_ret;exact⟨congrArg (fun n=>Ending.returned (Value.int .i64 n)) (jgg (16*r+i) (by rw [jcz];omega) (by assumption)),rfl⟩
theorem jdC(b i:Nat)(w:World)(T:TypeId)(oa ob oc od:Nat)(V:List U)(x y:U)(D:YZ oa ob oc od)(hlen:V.length=16)
 (hblk:w.heap[b]?=some (.cells (xj V) T (0,0)))
 (hcor: ∀w,Calls prog 230 #[.pointer (some ⟨b,0,none⟩),.int .i64 (i:Int)] w fun e w'=>e=.returned (.tuple #[.pointer (some ⟨b,oa,none⟩),.pointer (some ⟨b,ob,none⟩),.pointer (some ⟨b,oc,none⟩),.pointer (some ⟨b,od,none⟩)])∧ ∃m,w'=w.drewN m):
  Calls prog 222 #[.pointer (some ⟨b,0,none⟩),.int .i64 (i:Int),.int .u32 (un x),.int .u32 (un y)] w fun e w'=>e=.returned (.tuple #[])∧xp b w w'∧w'.heap[b]?=some (.cells (xj (VG V oa ob oc od x y)) T (0,0)):=by
 obtain⟨va0,Hva0⟩: ∃v,Hid (V.getD oa 0=v):=⟨_,jA rfl⟩;obtain⟨vb0,Hvb0⟩: ∃v,Hid (V.getD ob 0=v):=⟨_,jA rfl⟩;obtain⟨vc0,Hvc0⟩: ∃v,Hid (V.getD oc 0=v):=⟨_,jA rfl⟩;obtain⟨vd0,Hvd0⟩: ∃v,Hid (V.getD od 0=v):=⟨_,jA rfl⟩;have SX:Qq b T oa ob oc od w w V va0 vb0 vc0 vd0:=⟨xp.refl _ _,hblk,hlen,Hva0.u,Hvb0.u,Hvc0.u,Hvd0.u⟩;clear hblk hlen;have R2:=jlv;have RX:=jbc;have RS2:=jmd;have Hcor:=jA hcor;clear hcor;go_enter Tryz.func222,Tryz.ntmps222;go_wp2_with (go_at_call 230;refine(Hcor.u _).mono ?_;rintro e w' ⟨rfl,m,rfl⟩);refine xP (fun w1=>Qq b T oa ob oc od w w1 V va0 vb0 vc0 vd0) ⟨SX.only.drewN _,SX.blk,SX.len,SX.ga,SX.gb,SX.gc,SX.gd⟩ (fun w0 S0=>?_);clear SX;obtain⟨ha,hb,hc,hd,fa,fb,fc,fd⟩:=S0.cells D;refine Seg.xL (fun w'=> ∃n,w'=w0.drewN n) [] [0,1,2,3,4,5,6,7] 8 (by kernel_rfl) (by kernel_rfl) (fun _ _ d _ _ h=>by cases d<;>exact h) (⟨1,rfl⟩) ?_;simp only [jK,Seg.opAt,Seg.xW];repeat (any_goals (first|go_big_quiet_step (fail)|quiet_step (fail)))
 refine jP ?_;go_wp2_with fail;refine xP (fun w1=>Qq b T oa ob oc od w w1 (V.set oa (va0+(vb0+x))) (va0+(vb0+x)) vb0 vc0 vd0) (S0.seta D _ _) (fun w1 S1=>?_);clear ha hb hc hd fa fb fc fd S0;generalize hva1:va0+(vb0+x)=va1 at*;have Hva1:=jA hva1;clear hva1;obtain⟨ha,hb,hc,hd,fa,fb,fc,fd⟩:=S1.cells D;refine Seg.xL (fun w'=> ∃n,w'=w1.drewN n) [([0,1,2,3,4,5,6,7],8)] [] 9 (by kernel_rfl) (by kernel_rfl) (fun _ _ d _ _ h=>by cases d<;>exact h) (⟨1,rfl⟩) ?_;simp only [jK,Seg.opAt,Seg.xW];repeat (any_goals (first|go_big_quiet_step (fail)|quiet_step (fail)))
 refine jP ?_;intro K hK;simp only [Region.wanted,jY];go_wp2_with (go_at_call 231;refine(ZG _ 16 _ (by decide) (by decide)).mono ?_;rintro e w' ⟨rfl,m,rfl⟩);refine hK _ _ ⟨_,rfl⟩ ?_;clear hK K;repeat (any_goals (first|go_big_quiet_step (fail)|quiet_step (fail)))
 refine jP ?_;go_wp2_with fail;refine xP (fun w1=>Qq b T oa ob oc od w w1 ((V.set oa va1).set od ((vd0 ^^^ va1).rotateRight 16)) va1 vb0 vc0 ((vd0 ^^^ va1).rotateRight 16)) (S1.setd D _ _) (fun w2 S2=>?_);clear ha hb hc hd fa fb fc fd S1;generalize hvd1:(vd0 ^^^ va1).rotateRight 16=vd1 at*;have Hvd1:=jA hvd1;clear hvd1;obtain⟨ha,hb,hc,hd,fa,fb,fc,fd⟩:=S2.cells D;refine Seg.xL (fun w'=> ∃n,w'=w2.drewN n) [] [0,1,2,3,4,5] 6 (by kernel_rfl) (by kernel_rfl) (fun _ _ d _ _ h=>by cases d<;>exact h) (⟨1,rfl⟩) ?_;simp only [jK,Seg.opAt,Seg.xW];repeat (any_goals (first|go_big_quiet_step (fail)|quiet_step (fail)))
 refine jP ?_;go_wp2_with fail;refine xP (fun w1=>Qq b T oa ob oc od w w1 (((V.set oa va1).set od vd1).set oc (vc0+vd1)) va1 vb0 (vc0+vd1) vd1) (S2.setc D _ _) (fun w3 S3=>?_);clear ha hb hc hd fa fb fc fd S2;generalize hvc1:vc0+vd1=vc1 at*;have Hvc1:=jA hvc1;clear hvc1;obtain⟨ha,hb,hc,hd,fa,fb,fc,fd⟩:=S3.cells D;refine Seg.xL (fun w'=> ∃n,w'=w3.drewN n) [([0,1,2,3,4,5,6,7],8)] [] 9 (by kernel_rfl) (by kernel_rfl) (fun _ _ d _ _ h=>by cases d<;>exact h) (⟨1,rfl⟩) ?_;simp only [jK,Seg.opAt,Seg.xW];repeat (any_goals (first|go_big_quiet_step (fail)|quiet_step (fail)))
 refine jP ?_;intro K hK;simp only [Region.wanted,jY];go_wp2_with (go_at_call 231;refine(ZG _ 12 _ (by decide) (by decide)).mono ?_;rintro e w' ⟨rfl,m,rfl⟩);refine hK _ _ ⟨_,rfl⟩ ?_;clear hK K;repeat (any_goals (first|go_big_quiet_step (fail)|quiet_step (fail)))
 refine jP ?_;go_wp2_with fail;refine xP (fun w1=>Qq b T oa ob oc od w w1 ((((V.set oa va1).set od vd1).set oc vc1).set ob ((vb0 ^^^ vc1).rotateRight 12)) va1 ((vb0 ^^^ vc1).rotateRight 12) vc1 vd1) (S3.setb D _ _) (fun w4 S4=>?_);clear ha hb hc hd fa fb fc fd S3;generalize hvb1:(vb0 ^^^ vc1).rotateRight 12=vb1 at*;have Hvb1:=jA hvb1;clear hvb1;obtain⟨ha,hb,hc,hd,fa,fb,fc,fd⟩:=S4.cells D;refine Seg.xL (fun w'=> ∃n,w'=w4.drewN n) [] [0,1,2,3,4,5,6,7] 8 (by kernel_rfl) (by kernel_rfl) (fun _ _ d _ _ h=>by cases d<;>exact h) (⟨1,rfl⟩) ?_;simp only [jK,Seg.opAt,Seg.xW];repeat (any_goals (first|go_big_quiet_step (fail)|quiet_step (fail)))
 refine jP ?_;go_wp2_with fail;refine xP (fun w1=>Qq b T oa ob oc od w w1 (((((V.set oa va1).set od vd1).set oc vc1).set ob vb1).set oa (va1+(vb1+y))) (va1+(vb1+y)) vb1 vc1 vd1) (S4.seta D _ _) (fun w5 S5=>?_);clear ha hb hc hd fa fb fc fd S4;generalize hva2:va1+(vb1+y)=va2 at*;have Hva2:=jA hva2;clear hva2;obtain⟨ha,hb,hc,hd,fa,fb,fc,fd⟩:=S5.cells D;refine Seg.xL (fun w'=> ∃n,w'=w5.drewN n) [([0,1,2,3,4,5,6,7],8)] [] 9 (by kernel_rfl) (by kernel_rfl) (fun _ _ d _ _ h=>by cases d<;>exact h) (⟨1,rfl⟩) ?_;simp only [jK,Seg.opAt,Seg.xW];repeat (any_goals (first|go_big_quiet_step (fail)|quiet_step (fail)))
 refine jP ?_;intro K hK;simp only [Region.wanted,jY];go_wp2_with (go_at_call 231;refine(ZG _ 8 _ (by decide) (by decide)).mono ?_;rintro e w' ⟨rfl,m,rfl⟩);refine hK _ _ ⟨_,rfl⟩ ?_;clear hK K;repeat (any_goals (first|go_big_quiet_step (fail)|quiet_step (fail)))
 refine jP ?_;go_wp2_with fail;refine xP (fun w1=>Qq b T oa ob oc od w w1 ((((((V.set oa va1).set od vd1).set oc vc1).set ob vb1).set oa va2).set od ((vd1 ^^^ va2).rotateRight 8)) va2 vb1 vc1 ((vd1 ^^^ va2).rotateRight 8)) (S5.setd D _ _) (fun w6 S6=>?_);clear ha hb hc hd fa fb fc fd S5;generalize hvd2:(vd1 ^^^ va2).rotateRight 8=vd2 at*;have Hvd2:=jA hvd2;clear hvd2;obtain⟨ha,hb,hc,hd,fa,fb,fc,fd⟩:=S6.cells D;refine Seg.xL (fun w'=> ∃n,w'=w6.drewN n) [] [0,1,2,3,4,5] 6 (by kernel_rfl) (by kernel_rfl) (fun _ _ d _ _ h=>by cases d<;>exact h) (⟨1,rfl⟩) ?_;simp only [jK,Seg.opAt,Seg.xW];repeat (any_goals (first|go_big_quiet_step (fail)|quiet_step (fail)))
 refine jP ?_;go_wp2_with fail;refine xP (fun w1=>Qq b T oa ob oc od w w1 (((((((V.set oa va1).set od vd1).set oc vc1).set ob vb1).set oa va2).set od vd2).set oc (vc1+vd2)) va2 vb1 (vc1+vd2) vd2) (S6.setc D _ _) (fun w7 S7=>?_);clear ha hb hc hd fa fb fc fd S6;generalize hvc2:vc1+vd2=vc2 at*;have Hvc2:=jA hvc2;clear hvc2;obtain⟨ha,hb,hc,hd,fa,fb,fc,fd⟩:=S7.cells D;refine Seg.xL (fun w'=> ∃n,w'=w7.drewN n) [([0,1,2,3,4,5,6,7],8)] [] 9 (by kernel_rfl) (by kernel_rfl) (fun _ _ d _ _ h=>by cases d<;>exact h) (⟨1,rfl⟩) ?_;simp only [jK,Seg.opAt,Seg.xW];repeat (any_goals (first|go_big_quiet_step (fail)|quiet_step (fail)))
 refine jP ?_;intro K hK;simp only [Region.wanted,jY];go_wp2_with (go_at_call 231;refine(ZG _ 7 _ (by decide) (by decide)).mono ?_;rintro e w' ⟨rfl,m,rfl⟩);refine hK _ _ ⟨_,rfl⟩ ?_;clear hK K;repeat (any_goals (first|go_big_quiet_step (fail)|quiet_step (fail)))
 refine jP ?_;go_wp2_with fail;refine jjI (fun w1=>Qq b T oa ob oc od w w1 ((((((((V.set oa va1).set od vd1).set oc vc1).set ob vb1).set oa va2).set od vd2).set oc vc2).set ob ((vb1 ^^^ vc2).rotateRight 7)) va2 ((vb1 ^^^ vc2).rotateRight 7) vc2 vd2) (S7.setb D _ _) (fun w8 S8=>?_);clear ha hb hc hd fa fb fc fd S7
 go_end0
 refine⟨rfl,S8.only,?_⟩;have hfin:=S8.blk;have e0:=Hvd2.u;subst e0;have e1:=Hvd1.u;subst e1;have e2:=Hvc2.u;subst e2;have e3:=Hvc1.u;subst e3;have e4:=Hvb1.u;subst e4;have e5:=Hva2.u;subst e5;have e6:=Hva1.u;subst e6;have f0:=Hva0.u;subst f0;have f1:=Hvb0.u;subst f1;have f2:=Hvc0.u;subst f2;have f3:=Hvd0.u;subst f3;exact hfin
theorem jeL(b i:Nat)(w:World)(T:TypeId)(V:List U)(x y:U)(hi:i<8)(hlen:V.length=16)(hblk:w.heap[b]?=some (.cells (xj V) T (0,0))):
 Calls prog 222 #[.pointer (some ⟨b,0,none⟩),.int .i64 (i:Int),.int .u32 (un x),.int .u32 (un y)] w fun e w'=>e=.returned (.tuple #[])∧xp b w w'∧w'.heap[b]?=some (.cells (xj (VG V (ca i) (cb i) (cc i) (cd i) x y)) T (0,0)):=
 jdC b i w T _ _ _ _ V x y (jaJ i) hlen hblk (fun w=>jfs b i w hi)
theorem zl:(prog.info? 235).map (·.size)=some 16:=by kernel_rfl
theorem jbY:(prog.info? 266).map (·.size)=some 16:=by kernel_rfl
theorem jeO(r i:Nat)(ri ii:Int)(w:World)(h1:ri=r)(h2:ii=i)(hr:r<10)(hi:i<16):
 Calls prog 223 #[.int .i64 ri,.int .i64 ii] w fun e w'=>e=.returned (.int .i64 (yr r i:Int))∧w'=w:=by
 subst h1;subst h2;exact jii r i w hr hi
structure Vt(B:Nat)(w:World)(M Z:List U)(wr:World):Prop where
 below:Below B w wr
 m:wr.heap[B+1]?=some (.cells (xj M) 235 (0,0))
 r:wr.heap[B+2]?=some (.cells (xj (List.replicate 16 0)) 235 (0,0))
 p:wr.heap[B+3]?=some (.cells (xj Z) 266 (0,0))
theorem Vt.drewN {B:Nat}{w:World}{M Z:List U}{wr:World}(h:Vt B w M Z wr)(n:Nat):Vt B w M Z (wr.drewN n):=⟨XO h.below n,h.m,h.r,h.p⟩
theorem Vt.turned {B:Nat}{w:World}{M Z Z':List U}{wr w1:World}(h:Vt B w M Z wr)(ho:xp (B+3) wr w1)
 (hp:w1.heap[B+3]?=some (.cells (xj Z') 266 (0,0))):Vt B w M Z' w1:=
 ⟨xQ h.below ho (by omega),(ho.block _ (by omega)).trans h.m,(ho.block _ (by omega)).trans h.r,hp⟩
theorem jjv(V M:List U)(w:World)(hV:V.length=16)(hM:M.length=16):
 Calls prog 212 #[.agg (xj V),.agg (xj M)] w fun e w'=>e=.returned (.agg (xj (zU V M 80)))∧Below w.heap.size w w':=by
 have HV:=jA hV;have HM:=jA hM;clear hV hM;go_enter Tryz.func212,Tryz.ntmps212;go_upto_region 1 with(fail)
 refine xP (fun w1=>Below w.heap.size w w1∧w1.heap.size=w.heap.size+3∧w1.heap[w.heap.size]?=some (.cells (xj V) 235 (0,0))∧
  w1.heap[w.heap.size+1]?=some (.cells (xj M) 235 (0,0))∧w1.heap[w.heap.size+2]?=some (.cells (xj (List.replicate 16 0)) 235 (0,0))) ?_ (fun w1 hw1=>?_)
 ·refine⟨(((jN _ _).alloc (jO _) _).alloc (by simp) _).alloc (by simp;omega) _,by simp,?_,?_,?_⟩;·exact xx (xx (xN rfl))
  ·exact xx (xN (by simp))
  ·exact xN (by simp)
 obtain⟨hbel,hsz,h0,h1,h2⟩:=hw1;generalize hB:w.heap.size=B at*;have HB:=jA hB;clear hB;apply qk;refine xi rfl 235 _ rfl B _ _ _ _ rfl h0 underlying235 rfl (by rw [xt,HV.u];exact zl) ?_;have hsp:=jA (show(prog.info? 266).map (·.size)=some (xj V).size by rw [xt,HV.u];exact jbY);go_upto_region 2 with(refine xM rfl rfl 266 _ _ rfl (B+3) (xj (List.replicate 16 0)) (xj V) 266 rfl rfl ?hb ?hs hsp.u (yU V) ?_);case hb=>exact xN hsz
 case hs=>rw [xt,xt,HV.u];rfl
 intro w2 ho hp;have S0:Vt B w M V w2:=⟨xQ (hbel.alloc (by omega) _) ho (by omega),ho.keep (by omega) (xx h1),ho.keep (by omega) (xx h2),hp⟩;clear ho hp hbel hsz h0 h1 h2 hsp;go_wp2_with fail;go_loopw [9] (fun r wr=> ∃k:Nat,k≤10∧r=.int .i64 k∧Vt B w M (zU V M (8*k)) wr) (fun r _=>10-(intOf r).toNat);case atStart=>exact⟨0,by omega,rfl,S0⟩
 case round=>
  obtain⟨k,hk,rfl,S⟩:=hrel;clear S0;by_cases hlt:k<10
  ·have hd10:decide ((k:Int)<10)=true:=by simp;omega
   go_wp2_with fail;obtain⟨wo,rfl⟩: ∃wo:World,wo=wr:=⟨_,rfl⟩;go_loopw [12] (fun i wi=> ∃j:Nat,j≤8∧i=.int .i64 j∧Vt B w M (zU V M (8*k+j)) wi) (fun i _=>8-(intOf i).toNat);case atStart=>exact⟨0,by omega,rfl,S⟩
   case round=>
    obtain⟨j,hj,rfl,Si⟩:=hrel;clear S;by_cases hjt:j<8
    ·have hd8:decide ((j:Int)<8)=true:=by simp;omega
     have p1:=Qr k (2*j) hlt (by omega);have p2:=Qr k (2*j+1) hlt (by omega);have c1:wr.cell? ⟨B+1,yr k (2*j),none⟩=some (.int .u32 (un (M.getD (yr k (2*j)) 0))):=yK Si.m _ (by rw [HM.u];exact p1);have c2:wr.cell? ⟨B+1,yr k (2*j+1),none⟩=some (.int .u32 (un (M.getD (yr k (2*j+1)) 0))):=yK Si.m _ (by rw [HM.u];exact p2);generalize hx1:M.getD (yr k (2*j)) 0=x1 at*;generalize hx2:M.getD (yr k (2*j+1)) 0=x2 at*;generalize hn1:yr k (2*j)=n1 at*;generalize hn2:yr k (2*j+1)=n2 at*;have Hx1:=jA hx1;have Hx2:=jA hx2;have Hn1:=jA hn1;have Hn2:=jA hn2;clear hx1 hx2 hn1 hn2;go_upto_region 8 with(fail);refine Seg.xL (fun w'=> ∃n,w'=wr.drewN n) [([0,1,2,3,7,8,9,10],4),([5,6],11)] [12,13] 14 (by kernel_rfl) (by kernel_rfl) (fun _ _ d _ _ h=>by cases d<;>exact h) (⟨1,rfl⟩) ?_;simp only [jK,Seg.opAt,Seg.xW];repeat (any_goals (first|go_big_quiet_step (fail)|quiet_step (fail)))
     refine jP ?_;intro K hK;simp only [Region.wanted,jY];go_wp2_with (go_at_call 223;refine(jeO k (2*j) _ _ _ (by omega) (by omega) hlt (by omega)).mono ?_;rw [Hn1.u];rintro e w' ⟨rfl,rfl⟩);refine hK _ _ ⟨_,rfl⟩ ?_;clear hK K;repeat (any_goals (first|go_big_quiet_step (fail)|quiet_step (fail)))
     refine jP ?_;intro K hK;simp only [Region.wanted,jY];go_wp2_with (go_at_call 223;refine(jeO k (2*j+1) _ _ _ (by omega) (by omega) hlt (by omega)).mono ?_;rw [Hn2.u];rintro e w' ⟨rfl,rfl⟩);refine hK _ _ ⟨_,rfl⟩ ?_;clear hK K;repeat (any_goals (first|go_big_quiet_step (fail)|quiet_step (fail)))
     refine jP ?_;have QQ:=jA (jeL (B+3) j wr.drew 266 (zU V M (8*k+j)) x1 x2 hjt (by rw [zB,HV.u]) (by exact Si.p));go_wp2_with fail;refine QQ.u.mono ?_;clear QQ;rintro e w3 ⟨rfl,ho,hp⟩;have S':Vt B w M (zU V M (8*k+(j+1))) w3:=by
      rw [show 8*k+(j+1)=8*k+j+1 by omega,jet V M k j hjt,Hn1.u,Hn2.u,Hx1.u,Hx2.u];exact(Si.drewN 1).turned ho hp
     clear ho hp c1 c2 Si;go_wp2_with fail;go_roundw;case rel=>exact⟨j+1,by omega,by go_num,S'⟩
     case measure=>simp [intOf];omega
    ·have hd8:decide ((j:Int)<8)=false:=by simp;omega
     go_wp2_with fail;go_roundw;case rel=>exact⟨k+1,by omega,by go_num,by rw [show 8* (k+1)=8*k+j by omega];exact Si⟩
     case measure=>simp [intOf];omega
  ·have hd10:decide ((k:Int)<10)=false:=by simp;omega
   obtain rfl:k=10:=by omega
   go_upto_region 11 with(fail);apply qk;have hl80:(zU V M 80).length=16:=by rw [zB,HV.u]
   have hs1:=jA (show(prog.info? 266).map (·.size)=some (xj (zU V M 80)).size by rw [xt,hl80];exact jbY);have hs2:=jA (show(prog.info? 235).map (·.size)=some (xj (zU V M 80)).size by rw [xt,hl80];exact zl);clear hl80;refine xi rfl 266 _ rfl (B+3) (xj (zU V M 80)) _ _ _ rfl S.p underlying266 rfl hs1.u ?_;refine xM rfl rfl 235 _ _ rfl (B+2) (xj (List.replicate 16 0)) (xj (zU V M 80)) 235 rfl rfl S.r ?_ hs2.u (yU _) ?_;·rw [xt,xt,zB,HV.u];rfl
   intro w3 ho hp;go_wp2_with fail;refine jm (jw rfl _ w3 (B+2) _ _ _ _ rfl hp underlying235 rfl hs2.u) rfl ⟨rfl,?_⟩;rw [HB.u];exact xQ S.below ho (by omega)
theorem JN:(prog.info? 205).map (·.size)=some 8:=by kernel_rfl
theorem jaY:(prog.info? 180).map (·.size)=some 1:=by kernel_rfl
theorem jbX(w:World):
 Calls prog 190 #[] w fun e w'=>e=.returned (.agg (xj ivL))∧Below w.heap.size w w':=by
 have HF:=jA (show(prog.info? 205).map (·.size)=some (xj ivL).size by kernel_rfl);go_enter Tryz.func190,Tryz.ntmps190;go_wp2_with (refine xM rfl rfl 205 _ _ rfl w.heap.size (xj (List.replicate 8 0)) (xj ivL) 205 rfl rfl (xN rfl) rfl HF.u (yU _) ?_;intro w2 ho hp);refine jm (jw rfl _ w2 w.heap.size _ _ _ _ rfl hp underlying205 rfl HF.u) rfl ⟨rfl,?_⟩;exact xQ ((jN _ _).alloc (jO _) _) ho (jO _)
structure yu(B:Nat)(w:World)(H M V:List U)(wr:World):Prop where
 below:Below B w wr
 h:wr.heap[B]?=some (.cells (xj H) 205 (0,0))
 m:wr.heap[B+1]?=some (.cells (xj M) 235 (0,0))
 r:wr.heap[B+2]?=some (.cells (xj (List.replicate 8 0)) 205 (0,0))
 v:wr.heap[B+3]?=some (.cells (xj V) 235 (0,0))
theorem yu.turnedV {B:Nat}{w:World}{H M V V':List U}{wr w1:World}(h:yu B w H M V wr)(ho:xp (B+3) wr w1)
 (hp:w1.heap[B+3]?=some (.cells (xj V') 235 (0,0))):yu B w H M V' w1:=
 ⟨xQ h.below ho (by omega),ho.keep (by omega) h.h,ho.keep (by omega) h.m,ho.keep (by omega) h.r,hp⟩
theorem yu.turnedH {B:Nat}{w:World}{H M V H':List U}{wr w1:World}(h:yu B w H M V wr)(ho:xp B wr w1)
 (hp:w1.heap[B]?=some (.cells (xj H') 205 (0,0))):yu B w H' M V w1:=
 ⟨xQ h.below ho (jO _),hp,ho.keep (by omega) h.m,ho.keep (by omega) h.r,ho.keep (by omega) h.v⟩
theorem yu.kept {B:Nat}{w:World}{H M V:List U}{wr w1:World}(h:yu B w H M V wr)(hb:Below (B+4) wr w1):yu B w H M V w1:=
 ⟨h.below.trans (hb.mono (by omega)),xK hb (by omega) h.h,xK hb (by omega) h.m,xK hb (by omega) h.r,xK hb (by omega) h.v⟩
theorem jcr(H M:List U)(n:Nat)(last:Bool)(w:World)(hH:H.length=8)(hM:M.length=16)(hn:n<18446744073709551616):
 Calls prog 191 #[.agg (xj H),.agg (xj M),.int .u64 (n:Int),.bool last] w fun e w'=>e=.returned (.agg (xj (JH H M n last)))∧Below w.heap.size w w':=by
 have HH:=jA hH;have HM:=jA hM;have HN:=jA hn;clear hH hM hn;go_enter Tryz.func191,Tryz.ntmps191;go_upto_region 2 with(fail)
 refine xP (fun w1=>Below w.heap.size w w1∧w1.heap.size=w.heap.size+4∧w1.heap[w.heap.size]?=some (.cells (xj H) 205 (0,0))∧
  w1.heap[w.heap.size+1]?=some (.cells (xj M) 235 (0,0))∧w1.heap[w.heap.size+2]?=some (.cells (xj (List.replicate 8 0)) 205 (0,0))∧
  w1.heap[w.heap.size+3]?=some (.cells (xj (List.replicate 16 0)) 235 (0,0))) ?_ (fun w1 hw1=>?_)
 ·refine⟨((((jN _ _).alloc (jO _) _).alloc (by simp) _).alloc (by simp;omega) _).alloc (by simp;omega) _,by simp,?_,?_,?_,?_⟩;·exact xx (xx (xx (xN rfl)))
  ·exact xx (xx (xN (by simp)))
  ·exact xx (xN (by simp))
  ·exact xN (by simp)
 obtain⟨hbel,hsz,h0,h1,h2,h3⟩:=hw1;generalize hB:w.heap.size=B at*;have HB:=jA hB;have H0:=jA h0;have H1:=jA h1;have H2:=jA h2;have H3:=jA h3;have HBE:=jA hbel;have HSZ:=jA hsz;clear hB h0 h1 h2 h3 hbel hsz;have HI8:=jA (show(prog.info? 205).map (·.size)=some (xj ivL).size by kernel_rfl);go_upto_region 3 with(first
  |(go_at_call 190;refine(jbX _).mono ?_;rintro e w2 ⟨rfl,hb2⟩)
  |(refine xM rfl rfl 205 _ _ rfl w2.heap.size (xj (List.replicate 8 0)) (xj ivL) 205 rfl rfl (xN rfl) rfl HI8.u (yU _) ?_;intro w3 ho3 hp3))
 have b3:Below (B+4) w1 w3:=by
  have:=hb2.size;rw [HSZ.u]at hb2 this;exact(hb2.alloc (by omega) _).trans (ho3.below (by omega))
 have hD:B+4≤w2.heap.size:=by have:=hb2.size;rw [HSZ.u]at this;exact this
 generalize w2.heap.size=D at*;have S3:yu B w H M (List.replicate 16 0) w3:=⟨HBE.u.trans (b3.mono (by omega)),xK b3 (by omega) H0.u,xK b3 (by omega) H1.u,xK b3 (by omega) H2.u,xK b3 (by omega) H3.u⟩;have HP3:=jA hp3;clear hb2 ho3 b3 H0 H1 H2 H3 HBE HSZ hp3;refine Seg.xL (fun w'=> ∃n,w'=w3.drewN n) [] [0,1] 2 (by kernel_rfl) (by kernel_rfl) (fun _ _ d _ _ h=>by cases d<;>exact h) (⟨1,rfl⟩) ?_;simp only [jK,Seg.opAt,Seg.xW];repeat (any_goals (first|go_big_quiet_step (fail)|quiet_step (fail)))
 refine jP ?_;refine Vz rfl _ _ 87 87 rfl 180 underlying87 jaY (B+3) 0 8 16 ⟨B,0,none⟩ 8 8 rfl rfl (xj (List.replicate 16 0)) 235 S3.v (H.map uv) (by rw [jz,HH.u];rfl) ?_ (by rw [jz,HH.u];decide) (jaT _) ?_;·exact jeu (w:=w3.drew) S3.h
 intro w4 ho4 hp4;rw [jcV]at hp4;have S4:=S3.turnedV ((xp.refl _ w3).drew.trans ho4) hp4;have HP4:=jA (((xp.refl _ w3).drew.trans ho4).keep (show D≠B+3 by omega) HP3.u);clear ho4 hp4 S3 HP3;go_upto_region 4 with(fail);refine Seg.xL (fun w'=> ∃n,w'=w4.drewN n) [] [0,1] 2 (by kernel_rfl) (by kernel_rfl) (fun _ _ d _ _ h=>by cases d<;>exact h) (⟨1,rfl⟩) ?_;simp only [jK,Seg.opAt,Seg.xW];repeat (any_goals (first|go_big_quiet_step (fail)|quiet_step (fail)))
 refine jP ?_;refine Vz rfl _ _ 87 87 rfl 180 underlying87 jaY (B+3) 8 8 8 ⟨D,0,none⟩ 8 8 rfl rfl (xj _) 235 S4.v (ivL.map uv) (by decide) (jeu (w:=w4.drew) HP4.u) (by rw [xt];simp [ivL,HH.u]) (jaT _) ?_;intro w5 ho5 hp5;rw [jcV]at hp5;have hval:((List.replicate 16 0).take 0++(H++(List.replicate 16 0).drop (0+H.length)):List U).take 8++(ivL++((List.replicate 16 0).take 0++(H++(List.replicate 16 0).drop (0+H.length)):List U).drop (8+ivL.length))=H++ivL:=by
  have h8:=HH.u;simp [h8,ivL]
 rw [hval]at hp5;clear hval;have S5:=S4.turnedV ((xp.refl _ w4).drew.trans ho5) hp5;clear ho5 hp5 S4 HP4 hD;go_upto_region 5 with(fail);refine xP (fun w6=>yu B w H M (H++ivL) w6) S5 (fun w6 S6=>?_);clear S5;have hl:(H++ivL).length=16:=by simp [HH.u,ivL]
 have hfin:=fun x12 x13 h12 h13=>jcs H _ n last x12 x13 rfl h12 h13;generalize H++ivL=V at*;have c12:=yK S6.v 12 (by omega);have c13:=yK S6.v 13 (by omega);have f12:=ye S6.v 12;have f13:=ye S6.v 13;have u0:=jfJ n;have u1:=jgU n;have RX:=jbc;have hfin':=hfin _ _ rfl rfl;clear hfin;generalize V.getD 12 0=x12 at*;generalize V.getD 13 0=x13 at*;have HL:=jA hl;have HFIN:=jA hfin';clear hl hfin';go_upto_region 7 with(fail);refine xP (fun w7=>yu B w H M ((V.set 12 (x12 ^^^ BitVec.ofNat 32 n)).set 13 (x13 ^^^ BitVec.ofNat 32 (n/4294967296))) w7)
  (S6.turnedV (((xp.refl _ w6).setCell _ _).setCell _ _) (zA (zA S6.v _ _) _ _)) (fun w7 S7=>?_)
 have hfin:=HFIN.u;have hl2:((V.set 12 (x12 ^^^ BitVec.ofNat 32 n)).set 13 (x13 ^^^ BitVec.ofNat 32 (n/4294967296))).length=16:=by simp [HL.u]
 clear S6 c12 c13 f12 f13 u0 u1 HFIN HL;generalize (V.set 12 (x12 ^^^ BitVec.ofNat 32 n)).set 13 (x13 ^^^ BitVec.ofNat 32 (n/4294967296))=V2 at*;have HFIN:=jA hfin;clear hfin;have c14:=yK S7.v 14 (by omega);have f14:=ye S7.v 14;have HLV:=jA (Yh H n last HH.u);clear hl2;generalize V2.getD 14 0=x14 at*;have RN:=jjr x14
 go_upto_if 33 with(fail)
 go_cut [] (fun w'=>yu B w H M (KW H n last) w');case first=>
  cases last
  ·go_wp2_with fail;go_meet;case rel=>rw [HFIN.u];exact S7
  ·go_wp2_with fail;go_meet;case rel=>rw [HFIN.u];exact S7.turnedV ((xp.refl _ w7).setCell _ _) (zA S7.v _ _)
 case rest=>
  have S8:yu B w H M (KW H n last) wc:=hcut;clear hcut S7 c14 f14 RN HFIN;have HZ:=jA (show JH H M n last=Qm H (zU (KW H n last) M 80) 8 from rfl);generalize KW H n last=V3 at*;have s1:=jA (show(prog.info? 235).map (·.size)=some (xj V3).size by rw [xt,HLV.u];exact zl);have s2:=jA (show(prog.info? 235).map (·.size)=some (xj M).size by rw [xt,HM.u];exact zl);have s3:=jA (show(prog.info? 235).map (·.size)=some (xj (zU V3 M 80)).size by rw [xt,zB,HLV.u];exact zl);have hlW:(zU V3 M 80).length=16:=by rw [zB,HLV.u]
  have hB4:B+4≤wc.heap.size:=lt_of_heap S8.v;go_upto_region 9 with(fail);apply qk;refine xi rfl 235 _ rfl (B+3) (xj V3) _ _ _ rfl S8.v underlying235 rfl s1.u ?_;refine xi rfl 235 _ rfl (B+1) (xj M) _ _ _ rfl S8.m underlying235 rfl s2.u ?_;have QQ:=jA (jjv V3 M wc HLV.u HM.u);generalize zU V3 M 80=Z at*;go_upto_region 10 with(first
   |(go_at_call 212;refine QQ.u.mono ?_;rintro e w2 ⟨rfl,hb2⟩)
   |(refine xM rfl rfl 235 _ _ rfl w2.heap.size (xj (List.replicate 16 0)) (xj Z) 235 rfl rfl (xN rfl) (by rw [xt,xt,hlW];rfl) s3.u (yU _) ?_;intro w3 ho3 hp3))
  have hD2:B+4≤w2.heap.size:=jU hB4 hb2.size;have b3:Below (B+4) wc w3:=((hb2.mono hB4).alloc hD2 _).trans (ho3.below hD2);have S9:=S8.kept b3;generalize w2.heap.size=E at*;clear S8 b3 ho3 hb2 QQ hB4 s1 s2 s3;go_wp2_with fail;go_loopw [41] (fun i wr=> ∃k:Nat,k≤8∧i=.int .i64 k∧yu B w (Qm H Z k) M V3 wr∧wr.heap[E]?=some (.cells (xj Z) 235 (0,0))) (fun i _=>8-(intOf i).toNat);case atStart=>exact⟨0,by omega,rfl,S9,hp3⟩
  case round=>
   obtain⟨k,hk,rfl,S,hE⟩:=hrel;clear S9 hp3;by_cases hlt:k<8
   ·have hd8:decide ((k:Int)<8)=true:=by simp;omega
    have hlk:(Qm H Z k).length=8:=by rw [JJ,HH.u]
    have c0:=yK S.h k (by omega);have f0:=ye S.h k;have c1:=yK hE k (by omega);have c2:=yK hE (k+8) (by omega);have hnext:=jcB H Z k;generalize (Qm H Z k).getD k 0=x0 at*;generalize Z.getD k 0=x1 at*;generalize Z.getD (k+8) 0=x2 at*;have HNX:=jA hnext;clear hnext hlk;have HE:=jA hE;clear hE;go_upto_region 13 with(fail);refine Seg.xL (fun w'=> ∃n,w'=wr.drewN n) [] [0,1,2,3,4,5,6,7,8,9,10] 11 (by kernel_rfl) (by kernel_rfl) (fun _ _ d _ _ h=>by cases d<;>exact h) (⟨1,rfl⟩) ?_;simp only [jK,Seg.opAt,Seg.xW];repeat (any_goals (first|go_big_quiet_step (fail)|quiet_step (fail)))
    refine jP ?_;go_upto_region 14 with(fail);refine xP (fun w5=>yu B w (Qm H Z (k+1)) M V3 w5∧w5.heap[E]?=some (.cells (xj Z) 235 (0,0)))
     ⟨by rw [HNX.u];exact S.turnedH (((xp.refl B wr).drewN 1).setCell _ _) (zA (w:=wr.drew) S.h _ _),(((xp.refl B wr).drewN 1).setCell k _).keep (by omega) HE.u⟩ (fun w5 hw5=>?_)
    obtain⟨S5,hE5⟩:=hw5;clear S c0 f0 c1 c2 HE HNX;go_wp2_with fail;go_roundw;case rel=>exact⟨k+1,by omega,by go_num,S5,hE5⟩
    case measure=>simp [intOf];omega
   ·have hd8:decide ((k:Int)<8)=false:=by simp;omega
    obtain rfl:k=8:=by omega
    have hs8:=jA (show(prog.info? 205).map (·.size)=some (xj (Qm H Z 8)).size by rw [xt,JJ,HH.u];exact JN);go_upto_region 15 with(fail);apply qk;refine xi rfl 205 _ rfl B (xj (Qm H Z 8)) _ _ _ rfl S.h underlying205 rfl hs8.u ?_;refine xM rfl rfl 205 _ _ rfl (B+2) (xj (List.replicate 8 0)) (xj (Qm H Z 8)) 205 rfl rfl S.r ?_ hs8.u (yU _) ?_;·rw [xt,xt,JJ,HH.u];rfl
    intro w6 ho hp;go_wp2_with fail;refine jm (jw rfl _ w6 (B+2) _ _ _ _ rfl hp underlying205 rfl hs8.u) rfl ⟨by rw [HZ.u],?_⟩;rw [HB.u];exact xQ S.below ho (by omega)
theorem Yd {P:Program}(w:World)(t e:TypeId)(n:Nat)(cs:Array Value)(k q:IntKind)(i:Nat)(v:Value)(h:P.underlying t=some (.array n e))(hi:i<n)(hs:(P.info? e).map (·.size)=some 1)(hu:P.underlying e=some (.int q))
 (hv:cs[i]?=some v):(Instr.index t (.agg cs) (.int k (i:Int))).run P w=.ok v w:=by
 have hn:(0:Int)≤i∧(i:Int)<(n:Int):=by omega
 cases hq:P.info? e with
 |none=>simp [hq]at hs
 |
  some x=>
  have hx:x.size=1:=by simpa [hq] using hs
  simp [Instr.index,vK h,asIntOf,hn,sizeOf,typeInfo,hq,hx,hi];unfold part;simp [isAgg,kJ,vK hu,hv]
theorem jdp {P:Program}(w:World)(dT sT ty elem:TypeId)(b o dLen dCap:Nat)(s:ByteArray)
 (hu:P.underlying dT=some (.slice elem)) (hz:(P.info? elem).map (·.size)=some 1) (ht:w.there b o (Nat.min s.size dLen)):
 (Builtin.copy_ #[dT,sT] ty #[.slice (some ⟨b,o,none⟩) dLen dCap,.string s]).run P w=.ok (goInt (Nat.min s.size dLen)) (w.setCells b o (Lib.byteCells (s.data.toList.take (Nat.min s.size dLen)))):=by
 have hl:(Lib.byteCells (s.data.toList.take (Nat.min s.size dLen))).length=Nat.min s.size dLen:=by
  rw [Lib.byteCells_length,jX,←Lib.size_eq];have:Nat.min s.size dLen≤s.size:=Nat.min_le_left _ _;omega
 have hst:=run_storeCells_cells (P:=P) b o (Lib.byteCells (s.data.toList.take (Nat.min s.size dLen))) 0 w (by rw [hl];intro j hj;simpa using (ht j hj).1) (by rw [hl];intro j hj;simpa using (ht j hj).2) (Lib.byteCells_one _);have htk:List.take (Nat.min s.size dLen) (List.map (fun b:UInt8=>Value.int IntKind.u8 (b.toNat:Int)) s.data.toList)=Lib.byteCells (s.data.toList.take (Nat.min s.size dLen)):=by
  unfold Lib.byteCells;rw [List.map_take]
 simp only [qV]at hst;cases hq:P.info? elem with
 |none=>simp [hq]at hz
 |
  some i=>
  have hi:i.size=1:=by simpa [hq] using hz
  simp [Builtin.copy_,vK hu,Builtin.lenOf,Builtin.firstCells,sizeOf,typeInfo,hq,hi];rw [htk,hst];simp [Result.andThen]
theorem Xp {P:Program}{w:World}{ops:Array Oper}{rest:List Oper}{o:Oper}{a:Act}{Q:Exit→Act→World→Prop}(hgd:o.guard=none)(d s:Operand)(dT sT:TypeId)
 (ho:o.op=.call {callee:=.builtin .copy,args:= #[d,s],argTypes:= #[dT,sT]}) (elem:TypeId) (hu:P.underlying dT=some (.slice elem)) (hsz:(P.info? elem).map (·.size)=some 1)
 (g off dLen dCap:Nat) (S:ByteArray) (hd:a.eval d=.slice (some ⟨g,off,none⟩) dLen dCap) (hs:a.eval s=.string S) (ht:w.there g off (Nat.min S.size dLen))
 (h:wpList P ops Q rest (a.put o.dst (goInt (Nat.min S.size dLen))) (w.setCells g off (Lib.byteCells (S.data.toList.take (Nat.min S.size dLen))))):wpList P ops Q (o::rest) a w:=by
 refine wpList_plain hgd fun K hK=>?_;have hrun:=jdp (P:=P) w dT sT o.type elem g off dLen dCap S hu hsz ht;unfold Oper.wp;simp [execOp,ho,resolve,invoke,builtin,hd,hs,hrun,Result.andThen];exact hK _ _ h
theorem Vy {P:Program}{ops:Array Oper}{rest:List Oper}{o:Oper}{a:Act}{S:World→Prop}{K:Act→Prop}(hw:Region.wanted o (yielded ops a.tmps)=true)(ty:TypeId)(y:Operand)(ho:o.op=.load ty y)(b off:Nat)(cs:List Value)(d:TypeDesc)
 (hx:a.eval y=.pointer (some ⟨b,off,none⟩)) (hb: ∀w',S w'→w'.rangeAt b off cs) (hu:P.underlying ty=some d) (hd:d.isRow=true)
 (hi:(P.info? ty).map (·.size)=some cs.length) (h:wpQuiet P ops S K rest (a.put o.dst (.agg cs.toArray))):
 wpQuiet P ops S K (o::rest) a:=by
 unfold wpQuiet;rw [jR hw];refine⟨.agg cs.toArray,fun w' hw'=>?_,h⟩;have hr:=run_loadVar_mid (P:=P) w' b off ty cs d (hb w' hw') hu hd hi;unfold Oper.quietAt execOp;simp only [ho,hx,Instr.loadAt,Instr.sureAddr,kJ,qo,qF,hr];exact⟨rfl,rfl⟩
def yZ(H:List U)(n:Nat)(D:Bytes)(t:Nat):List Value:=H.map uv++(Value.int .u64 (n:Int)::(Lib.byteCells D++ [Value.int .i64 (t:Int)]))
structure FoldAt(b:Nat)(H:List U)(n:Nat)(D:Bytes)(t:Nat)(w:World):Prop where
 blk:w.heap[b]?=some (.cells (yZ H n D t).toArray 208 (0,0))
 hl:H.length=8
 dl:D.length=64
theorem Ja {H:List U}{n:Nat}{D:Bytes}{t:Nat}(hl:H.length=8)(dl:D.length=64):(yZ H n D t).length=74:=by
 simp [yZ,yH,hl,dl]
theorem jiM {H:List U}{n:Nat}{D:Bytes}{t:Nat}(hl:H.length=8)(j:Nat)(hj:j<8):(yZ H n D t)[j]?=(H.map uv)[j]?:=by
 unfold yZ;rw [qJ (by simp [hl];omega)]
theorem jiL {H:List U}{n:Nat}{D:Bytes}{t:Nat}(hl:H.length=8):(yZ H n D t)[8]?=some (.int .u64 n):=by
 unfold yZ;rw [ke (by simp [hl])];simp [hl]
theorem jiN {H:List U}{n:Nat}{D:Bytes}{t:Nat}(hl:H.length=8)(dl:D.length=64)(j:Nat)(hj:j<64):(yZ H n D t)[9+j]?=(Lib.byteCells D)[j]?:=by
 unfold yZ;rw [ke (by simp [hl];omega)];rw [show 9+j-(H.map uv).length=j+1 by simp [hl];omega,jC,qJ (by rw [yH,dl];exact hj)]
theorem jgz {H:List U}{n:Nat}{D:Bytes}{t:Nat}(hl:H.length=8)(dl:D.length=64):(yZ H n D t)[73]?=some (.int .i64 t):=by
 unfold yZ;rw [ke (by simp [hl])];rw [show 73-(H.map uv).length=64+1 by simp [hl],jC,ke (by rw [yH,dl];exact jO _),yH,dl];rfl
namespace FoldAt
variable {b:Nat} {H:List U} {n:Nat} {D:Bytes} {t:Nat} {w w1:World}
theorem cell(h:FoldAt b H n D t w)(j:Nat)(_:j<74):w.cell? ⟨b,j,none⟩=(yZ H n D t)[j]?:=by
 rw [jM w b j _ _ _ h.blk];simp
theorem frozen(h:FoldAt b H n D t w)(j:Nat):w.frozen? ⟨b,j,none⟩=false:=jb w b j _ _ h.blk
theorem cellN(h:FoldAt b H n D t w):w.cell? ⟨b,8,none⟩=some (.int .u64 n):=by rw [h.cell 8 (by omega),jiL h.hl]
theorem cellAt(h:FoldAt b H n D t w):w.cell? ⟨b,73,none⟩=some (.int .i64 t):=by rw [h.cell 73 (by omega),jgz h.hl h.dl]
theorem rangeH(h:FoldAt b H n D t w):w.rangeAt b 0 (H.map uv):=fun j v hv=>by
 have hj:j<8:=by have:=(xA.1 hv).1;simpa [h.hl] using this
 rw [js,h.cell j (by omega),jiM h.hl j hj,hv]
theorem rangeD(h:FoldAt b H n D t w):w.rangeAt b 9 (Lib.byteCells D):=fun j v hv=>by
 have hj:j<64:=by have:=(xA.1 hv).1;rwa [yH,h.dl]at this
 rw [h.cell (9+j) (by omega),jiN h.hl h.dl j hj,hv]
theorem there(h:FoldAt b H n D t w)(o k:Nat)(hk:o+k≤74):w.there b o k:=fun j hj=>by
 refine⟨?_,h.frozen _⟩;rw [h.cell (o+j) (by omega)];simp [Ja h.hl h.dl];omega
theorem kept(h:FoldAt b H n D t w)(hb:w1.heap[b]?=w.heap[b]?):FoldAt b H n D t w1:=⟨hb.trans h.blk,h.hl,h.dl⟩
theorem drewN(h:FoldAt b H n D t w)(k:Nat):FoldAt b H n D t (w.drewN k):=⟨h.blk,h.hl,h.dl⟩
theorem below {B:Nat}(h:FoldAt b H n D t w)(hb:Below B w w1)(hlt:b<B):FoldAt b H n D t w1:=h.kept (hb.block b hlt)
theorem only {c:Nat}(h:FoldAt b H n D t w)(ho:xp c w w1)(hne:b≠c):FoldAt b H n D t w1:=h.kept (ho.block b hne)
theorem setN(h:FoldAt b H n D t w)(m:Nat):FoldAt b H m D t (w.setCell ⟨b,8,none⟩ (.int .u64 (m:Int))):=by
 refine⟨?_,h.hl,h.dl⟩;rw [jd w b 8 _ _ _ h.blk];congr 2;simp [yZ,h.hl]
theorem setAt(h:FoldAt b H n D t w)(m:Nat):FoldAt b H n D m (w.setCell ⟨b,73,none⟩ (.int .i64 (m:Int))):=by
 refine⟨?_,h.hl,h.dl⟩;rw [jd w b 73 _ _ _ h.blk];congr 2;simp [yZ,h.hl,h.dl,yH]
theorem setH(h:FoldAt b H n D t w)(H':List U)(hl:H'.length=8):FoldAt b H' n D t (w.setCells b 0 (H'.map uv)):=by
 refine⟨?_,hl,h.dl⟩;rw [Ql b _ _ 0 w _ h.blk (by simp [hl,Ja h.hl h.dl])];congr 2;simp [yZ,hl,h.hl]
theorem setD(h:FoldAt b H n D t w)(o:Nat)(E:Bytes)(ho:o+E.length≤64):FoldAt b H n (D.take o++(E++D.drop (o+E.length))) t (w.setCells b (9+o) (Lib.byteCells E)):=by
 refine⟨?_,h.hl,by simp [h.dl];omega⟩;rw [Ql b _ _ (9+o) w _ h.blk (by simp [yH,Ja h.hl h.dl];omega)];congr 2;have dl:=h.dl;have hl:=h.hl;have e1:List.take (9+o) (yZ H n D t)=H.map uv++(Value.int .u64 (n:Int)::Lib.byteCells (D.take o)):=by
  unfold yZ;rw [List.take_append,show 9+o-(H.map uv).length=o+1 by simp [hl];omega,jc (by simp [hl];omega),List.take_succ_cons,xH (by rw [yH];omega)];simp [Lib.byteCells,List.map_take]
 have e2:List.drop (9+o+E.length) (yZ H n D t)=Lib.byteCells (D.drop (o+E.length))++ [.int .i64 (t:Int)]:=by
  unfold yZ;rw [List.drop_append,show 9+o+E.length-(H.map uv).length=(o+E.length)+1 by simp [hl];omega,qI (by simp [hl];omega),jF,List.drop_append_of_le_length (by rw [yH];omega)];simp [Lib.byteCells,List.map_drop]
 rw [List.toList_toArray,yH,e1,e2];simp [yZ,Lib.byteCells]
end FoldAt
structure KM(b:Nat)(h0:List U)(T:Bytes)(w:World):Prop where
 ex: ∃p t D,Yx T p t D∧(T= []∨0<t)∧FoldAt b (zL h0 T p) (64*p) D t w
theorem xR {b:Nat}{w w1:World}(h:xp b w w1):w.grownBy w1 (some b):=⟨h.os,h.tape,h.output,by rw [h.size];exact jO _,fun k _ hk=>h.block k (fun e=>hk (by rw [e]))⟩
theorem zg {b:Nat}{w w1:World}(h:Below w.heap.size w w1):w.grownBy w1 (some b):=⟨h.os,h.tape,h.output,h.size,fun k hk _=>h.block k hk⟩
end Go.Proofs.YtnohcdpnnhmpfaaGreatDoor
