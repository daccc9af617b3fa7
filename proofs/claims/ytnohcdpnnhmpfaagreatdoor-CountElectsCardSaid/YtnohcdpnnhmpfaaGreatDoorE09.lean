/- fold.turn, corners, quarter, back: what each computes, for any words, in whatever world. -/
import Derived.Test.YtnohcdpnnhmpfaaGreatDoorProg
import Derived.Outline
import Derived.Deep.Cut
import Derived.Deep.DeepCutAuto
import Derived.Test.YtnohcdpnnhmpfaaGreatDoorE04
set_option linter.all false
set_option maxRecDepth 100000
set_option maxHeartbeats 4000000
namespace Go.Proofs.YtnohcdpnnhmpfaaGreatDoor
open Go.RowKit Tryz ML FM
theorem jai(x:U)(n:Nat)(w:m0)(h0:0<n)(h1:n<32):
 Calls prog 231 #[.int .u32 (un x),.int .i64 (n:Int)] w fun e w'=>e=.returned (.int .u32 (un (x.rotateRight n)))∧ ∃m,w'=w.drewN m:=by
 have hr:=jos x n h1;have nt:=Xw x;have Fw:=jfV x;have e1:(32-(n:Int)).toNat=32-n:=by omega
 go_enter Tryz.func231,Tryz.ntmps231;go_wp2
 go_quiet (fail)
 go_wp2;go_ret;exact⟨rfl,_,rfl⟩
theorem jhg(b i:Nat)(w:m0)(h1:i<8):
 Calls prog 230 #[.pointer (some ⟨b,0,none⟩),.int .i64 (i:Int)] w fun e w'=>e=.returned (.tuple #[.pointer (some ⟨b,ca i,none⟩),.pointer (some ⟨b,cb i,none⟩),.pointer (some ⟨b,cc i,none⟩),.pointer (some ⟨b,cd i,none⟩)])∧ ∃m,w'=w.drewN m:=by
 unfold ca cb cc cd;go_enter Tryz.func230,Tryz.ntmps230;go_wp2
 go_quiet (fail)
 go_wp2;refine jq (v:=.tuple #[.pointer (some ⟨b,i%4,none⟩),.pointer (some ⟨b,4+(i+i/4)%4,none⟩),.pointer (some ⟨b,8+(i+2* (i/4))%4,none⟩),.pointer (some ⟨b,12+(i+3* (i/4))%4,none⟩)]) (by simp [results,Tryz.results230,go_sem]) rfl ⟨rfl,_,rfl⟩
theorem jkk(r i:Nat)(w:m0)(hr:r<10)(hi:i<16):
 Calls prog 223 #[.int .i64 (r:Int),.int .i64 (i:Int)] w fun e w'=>e=.returned (.int .i64 (zJ r i:Int))∧w'=w:=by
 go_enter Tryz.func223,Tryz.ntmps223;go_wp2
 ·go_ret;exact⟨qO (fun n=>Ending.returned (Value.int .i64 n)) (jhZ (16*r+i) (by rw [jdW];omega) (by assumption)),rfl⟩
 ·go_ret;exact⟨qO (fun n=>Ending.returned (Value.int .i64 n)) (jhY (16*r+i) (by rw [jdW];omega) (by assumption)),rfl⟩
theorem jfl(b i:Nat)(w:m0)(T:o0)(oa ob oc od:Nat)(V:List U)(x y:U)(D:Zb oa ob oc od)(Ds:V.length=16)
 (my:w.heap[b]?=some (.cells (yF V) T (0,0)))
 (hcor: ∀w,Calls prog 230 #[.pointer (some ⟨b,0,none⟩),.int .i64 (i:Int)] w fun e w'=>e=.returned (.tuple #[.pointer (some ⟨b,oa,none⟩),.pointer (some ⟨b,ob,none⟩),.pointer (some ⟨b,oc,none⟩),.pointer (some ⟨b,od,none⟩)])∧ ∃m,w'=w.drewN m):
  Calls prog 222 #[.pointer (some ⟨b,0,none⟩),.int .i64 (i:Int),.int .u32 (un x),.int .u32 (un y)] w fun e w'=>e=.returned (.tuple #[])∧yG b w w'∧w'.heap[b]?=some (.cells (yF (Vp V oa ob oc od x y)) T (0,0)):=by
 obtain⟨va0,Hva0⟩: ∃v,Hid (V.getD oa 0=v):=⟨_,jA rfl⟩;obtain⟨vb0,Hvb0⟩: ∃v,Hid (V.getD ob 0=v):=⟨_,jA rfl⟩;obtain⟨vc0,Hvc0⟩: ∃v,Hid (V.getD oc 0=v):=⟨_,jA rfl⟩;obtain⟨vd0,Hvd0⟩: ∃v,Hid (V.getD od 0=v):=⟨_,jA rfl⟩;have SX:Vb b T oa ob oc od w w V va0 vb0 vc0 vd0:=⟨yG.refl _ _,my,Ds,Hva0.u,Hvb0.u,Hvc0.u,Hvd0.u⟩;clear my Ds;have R2:=jop;have RX:=jcn;have RS2:=jpf;have Hcor:=jA hcor;clear hcor;go_enter Tryz.func222,Tryz.ntmps222;go_wp2_with (go_at_call 230;refine(Hcor.u _).mono ?_;rintro e w' ⟨rfl,m,rfl⟩);refine xr (fun w1=>Vb b T oa ob oc od w w1 V va0 vb0 vc0 vd0) ⟨SX.only.drewN _,SX.blk,SX.len,SX.ga,SX.gb,SX.gc,SX.gd⟩ (fun w0 S0=>?_);clear SX;obtain⟨ha,hb,hc,hd,fa,fb,fc,fd⟩:=S0.cells D;refine Seg.xf (fun w'=> ∃n,w'=w0.drewN n) [] [0,1,2,3,4,5,6,7] 8 (by kernel_rfl) (by kernel_rfl) (fun _ _ d _ _ h=>by cases d<;>exact h) (⟨1,rfl⟩) ?_;simp only [jK,Seg.opAt,Seg.xu];repeat (any_goals (first|go_big_quiet_step (fail)|quiet_step (fail)))
 refine jR ?_;go_wp2_with fail;refine xr (fun w1=>Vb b T oa ob oc od w w1 (V.set oa (va0+(vb0+x))) (va0+(vb0+x)) vb0 vc0 vd0) (S0.seta D _ _) (fun w1 S1=>?_);clear ha hb hc hd fa fb fc fd S0;generalize hva1:va0+(vb0+x)=va1 at*;have Hva1:=jA hva1;clear hva1;obtain⟨ha,hb,hc,hd,fa,fb,fc,fd⟩:=S1.cells D;refine Seg.xf (fun w'=> ∃n,w'=w1.drewN n) [([0,1,2,3,4,5,6,7],8)] [] 9 (by kernel_rfl) (by kernel_rfl) (fun _ _ d _ _ h=>by cases d<;>exact h) (⟨1,rfl⟩) ?_;simp only [jK,Seg.opAt,Seg.xu];repeat (any_goals (first|go_big_quiet_step (fail)|quiet_step (fail)))
 refine jR ?_;intro K hK;simp only [Region.wanted,jY];go_wp2_with (go_at_call 231;refine(jai _ 16 _ (by decide) (by decide)).mono ?_;rintro e w' ⟨rfl,m,rfl⟩);refine hK _ _ ⟨_,rfl⟩ ?_;clear hK K;repeat (any_goals (first|go_big_quiet_step (fail)|quiet_step (fail)))
 refine jR ?_;go_wp2_with fail;refine xr (fun w1=>Vb b T oa ob oc od w w1 ((V.set oa va1).set od ((vd0 ^^^ va1).rotateRight 16)) va1 vb0 vc0 ((vd0 ^^^ va1).rotateRight 16)) (S1.setd D _ _) (fun w2 S2=>?_);clear ha hb hc hd fa fb fc fd S1;generalize hvd1:(vd0 ^^^ va1).rotateRight 16=vd1 at*;have Hvd1:=jA hvd1;clear hvd1;obtain⟨ha,hb,hc,hd,fa,fb,fc,fd⟩:=S2.cells D;refine Seg.xf (fun w'=> ∃n,w'=w2.drewN n) [] [0,1,2,3,4,5] 6 (by kernel_rfl) (by kernel_rfl) (fun _ _ d _ _ h=>by cases d<;>exact h) (⟨1,rfl⟩) ?_;simp only [jK,Seg.opAt,Seg.xu];repeat (any_goals (first|go_big_quiet_step (fail)|quiet_step (fail)))
 refine jR ?_;go_wp2_with fail;refine xr (fun w1=>Vb b T oa ob oc od w w1 (((V.set oa va1).set od vd1).set oc (vc0+vd1)) va1 vb0 (vc0+vd1) vd1) (S2.setc D _ _) (fun w3 S3=>?_);clear ha hb hc hd fa fb fc fd S2;generalize hvc1:vc0+vd1=vc1 at*;have Hvc1:=jA hvc1;clear hvc1;obtain⟨ha,hb,hc,hd,fa,fb,fc,fd⟩:=S3.cells D;refine Seg.xf (fun w'=> ∃n,w'=w3.drewN n) [([0,1,2,3,4,5,6,7],8)] [] 9 (by kernel_rfl) (by kernel_rfl) (fun _ _ d _ _ h=>by cases d<;>exact h) (⟨1,rfl⟩) ?_;simp only [jK,Seg.opAt,Seg.xu];repeat (any_goals (first|go_big_quiet_step (fail)|quiet_step (fail)))
 refine jR ?_;intro K hK;simp only [Region.wanted,jY];go_wp2_with (go_at_call 231;refine(jai _ 12 _ (by decide) (by decide)).mono ?_;rintro e w' ⟨rfl,m,rfl⟩);refine hK _ _ ⟨_,rfl⟩ ?_;clear hK K;repeat (any_goals (first|go_big_quiet_step (fail)|quiet_step (fail)))
 refine jR ?_;go_wp2_with fail;refine xr (fun w1=>Vb b T oa ob oc od w w1 ((((V.set oa va1).set od vd1).set oc vc1).set ob ((vb0 ^^^ vc1).rotateRight 12)) va1 ((vb0 ^^^ vc1).rotateRight 12) vc1 vd1) (S3.setb D _ _) (fun w4 S4=>?_);clear ha hb hc hd fa fb fc fd S3;generalize hvb1:(vb0 ^^^ vc1).rotateRight 12=vb1 at*;have Hvb1:=jA hvb1;clear hvb1;obtain⟨ha,hb,hc,hd,fa,fb,fc,fd⟩:=S4.cells D;refine Seg.xf (fun w'=> ∃n,w'=w4.drewN n) [] [0,1,2,3,4,5,6,7] 8 (by kernel_rfl) (by kernel_rfl) (fun _ _ d _ _ h=>by cases d<;>exact h) (⟨1,rfl⟩) ?_;simp only [jK,Seg.opAt,Seg.xu];repeat (any_goals (first|go_big_quiet_step (fail)|quiet_step (fail)))
 refine jR ?_;go_wp2_with fail;refine xr (fun w1=>Vb b T oa ob oc od w w1 (((((V.set oa va1).set od vd1).set oc vc1).set ob vb1).set oa (va1+(vb1+y))) (va1+(vb1+y)) vb1 vc1 vd1) (S4.seta D _ _) (fun w5 S5=>?_);clear ha hb hc hd fa fb fc fd S4;generalize hva2:va1+(vb1+y)=va2 at*;have Hva2:=jA hva2;clear hva2;obtain⟨ha,hb,hc,hd,fa,fb,fc,fd⟩:=S5.cells D;refine Seg.xf (fun w'=> ∃n,w'=w5.drewN n) [([0,1,2,3,4,5,6,7],8)] [] 9 (by kernel_rfl) (by kernel_rfl) (fun _ _ d _ _ h=>by cases d<;>exact h) (⟨1,rfl⟩) ?_;simp only [jK,Seg.opAt,Seg.xu];repeat (any_goals (first|go_big_quiet_step (fail)|quiet_step (fail)))
 refine jR ?_;intro K hK;simp only [Region.wanted,jY];go_wp2_with (go_at_call 231;refine(jai _ 8 _ (by decide) (by decide)).mono ?_;rintro e w' ⟨rfl,m,rfl⟩);refine hK _ _ ⟨_,rfl⟩ ?_;clear hK K;repeat (any_goals (first|go_big_quiet_step (fail)|quiet_step (fail)))
 refine jR ?_;go_wp2_with fail;refine xr (fun w1=>Vb b T oa ob oc od w w1 ((((((V.set oa va1).set od vd1).set oc vc1).set ob vb1).set oa va2).set od ((vd1 ^^^ va2).rotateRight 8)) va2 vb1 vc1 ((vd1 ^^^ va2).rotateRight 8)) (S5.setd D _ _) (fun w6 S6=>?_);clear ha hb hc hd fa fb fc fd S5;generalize hvd2:(vd1 ^^^ va2).rotateRight 8=vd2 at*;have Hvd2:=jA hvd2;clear hvd2;obtain⟨ha,hb,hc,hd,fa,fb,fc,fd⟩:=S6.cells D;refine Seg.xf (fun w'=> ∃n,w'=w6.drewN n) [] [0,1,2,3,4,5] 6 (by kernel_rfl) (by kernel_rfl) (fun _ _ d _ _ h=>by cases d<;>exact h) (⟨1,rfl⟩) ?_;simp only [jK,Seg.opAt,Seg.xu];repeat (any_goals (first|go_big_quiet_step (fail)|quiet_step (fail)))
 refine jR ?_;go_wp2_with fail;refine xr (fun w1=>Vb b T oa ob oc od w w1 (((((((V.set oa va1).set od vd1).set oc vc1).set ob vb1).set oa va2).set od vd2).set oc (vc1+vd2)) va2 vb1 (vc1+vd2) vd2) (S6.setc D _ _) (fun w7 S7=>?_);clear ha hb hc hd fa fb fc fd S6;generalize hvc2:vc1+vd2=vc2 at*;have Hvc2:=jA hvc2;clear hvc2;obtain⟨ha,hb,hc,hd,fa,fb,fc,fd⟩:=S7.cells D;refine Seg.xf (fun w'=> ∃n,w'=w7.drewN n) [([0,1,2,3,4,5,6,7],8)] [] 9 (by kernel_rfl) (by kernel_rfl) (fun _ _ d _ _ h=>by cases d<;>exact h) (⟨1,rfl⟩) ?_;simp only [jK,Seg.opAt,Seg.xu];repeat (any_goals (first|go_big_quiet_step (fail)|quiet_step (fail)))
 refine jR ?_;intro K hK;simp only [Region.wanted,jY];go_wp2_with (go_at_call 231;refine(jai _ 7 _ (by decide) (by decide)).mono ?_;rintro e w' ⟨rfl,m,rfl⟩);refine hK _ _ ⟨_,rfl⟩ ?_;clear hK K;repeat (any_goals (first|go_big_quiet_step (fail)|quiet_step (fail)))
 refine jR ?_;go_wp2_with fail;refine jlX (fun w1=>Vb b T oa ob oc od w w1 ((((((((V.set oa va1).set od vd1).set oc vc1).set ob vb1).set oa va2).set od vd2).set oc vc2).set ob ((vb1 ^^^ vc2).rotateRight 7)) va2 ((vb1 ^^^ vc2).rotateRight 7) vc2 vd2) (S7.setb D _ _) (fun w8 S8=>?_);clear ha hb hc hd fa fb fc fd S7
 go_end0
 refine⟨rfl,S8.only,?_⟩;have Wt:=S8.blk;have e0:=Hvd2.u;subst e0;have e1:=Hvd1.u;subst e1;have e2:=Hvc2.u;subst e2;have e3:=Hvc1.u;subst e3;have e4:=Hvb1.u;subst e4;have e5:=Hva2.u;subst e5;have e6:=Hva1.u;subst e6;have f0:=Hva0.u;subst f0;have f1:=Hvb0.u;subst f1;have f2:=Hvc0.u;subst f2;have f3:=Hvd0.u;subst f3;exact Wt
theorem jgs(b i:Nat)(w:m0)(T:o0)(V:List U)(x y:U)(hi:i<8)(Ds:V.length=16)(my:w.heap[b]?=some (.cells (yF V) T (0,0))):
 Calls prog 222 #[.pointer (some ⟨b,0,none⟩),.int .i64 (i:Int),.int .u32 (un x),.int .u32 (un y)] w fun e w'=>e=.returned (.tuple #[])∧yG b w w'∧w'.heap[b]?=some (.cells (yF (Vp V (ca i) (cb i) (cc i) (cd i) x y)) T (0,0)):=
 jfl b i w T _ _ _ _ V x y (jbP i) Ds my (fun w=>jhg b i w hi)
theorem JH:(prog.info? 235).map (·.size)=some 16:=by kernel_rfl
theorem jdw:(prog.info? 266).map (·.size)=some 16:=by kernel_rfl
theorem jgu(r i:Nat)(ri ii:Int)(w:m0)(h1:ri=r)(h2:ii=i)(hr:r<10)(hi:i<16):
 Calls prog 223 #[.int .i64 ri,.int .i64 ii] w fun e w'=>e=.returned (.int .i64 (zJ r i:Int))∧w'=w:=by
 subst h1;subst h2;exact jkk r i w hr hi
structure Xm(B:Nat)(w:m0)(M Z:List U)(wr:m0):Prop where
 below:O0 B w wr
 m:wr.heap[B+1]?=some (.cells (yF M) 235 (0,0))
 r:wr.heap[B+2]?=some (.cells (yF (List.replicate 16 0)) 235 (0,0))
 p:wr.heap[B+3]?=some (.cells (yF Z) 266 (0,0))
theorem Xm.drewN {B:Nat}{w:m0}{M Z:List U}{wr:m0}(h:Xm B w M Z wr)(n:Nat):Xm B w M Z (wr.drewN n):=⟨yl h.below n,h.m,h.r,h.p⟩
theorem Xm.turned {B:Nat}{w:m0}{M Z Z':List U}{wr w1:m0}(h:Xm B w M Z wr)(ho:yG (B+3) wr w1)
 (hp:w1.heap[B+3]?=some (.cells (yF Z') 266 (0,0))):Xm B w M Z' w1:=
 ⟨xl h.below ho (by omega),(ho.block _ (by omega)).trans h.m,(ho.block _ (by omega)).trans h.r,hp⟩
theorem jlD(V M:List U)(w:m0)(hV:V.length=16)(hM:M.length=16):
 Calls prog 212 #[.agg (yF V),.agg (yF M)] w fun e w'=>e=.returned (.agg (yF (zt V M 80)))∧O0 w.heap.size w w':=by
 have HV:=jA hV;have HM:=jA hM;clear hV hM;go_enter Tryz.func212,Tryz.ntmps212;go_upto_region 1 with(fail)
 refine xr (fun w1=>O0 w.heap.size w w1∧w1.heap.size=w.heap.size+3∧w1.heap[w.heap.size]?=some (.cells (yF V) 235 (0,0))∧
  w1.heap[w.heap.size+1]?=some (.cells (yF M) 235 (0,0))∧w1.heap[w.heap.size+2]?=some (.cells (yF (List.replicate 16 0)) 235 (0,0))) ?_ (fun w1 ts=>?_)
 ·refine⟨(((jN _ _).alloc (jO _) _).alloc (by simp) _).alloc (by simp;omega) _,by simp,?_,?_,?_⟩;·exact yM (yM (xh rfl))
  ·exact yM (xh (by simp))
  ·exact xh (by simp)
 obtain⟨it,Iu,h0,h1,h2⟩:=ts;generalize hB:w.heap.size=B at*;have HB:=jA hB;clear hB;apply vB;refine xy rfl 235 _ rfl B _ _ _ _ rfl h0 underlying235 rfl (by rw [yL,HV.u];exact JH) ?_;have hsp:=jA (show(prog.info? 266).map (·.size)=some (yF V).size by rw [yL,HV.u];exact jdw);go_upto_region 2 with(refine xg rfl rfl 266 _ _ rfl (B+3) (yF (List.replicate 16 0)) (yF V) 266 rfl rfl ?hb ?hs hsp.u (yp V) ?_);case hb=>exact xh Iu
 case hs=>rw [yL,yL,HV.u];rfl
 intro w2 ho hp;have S0:Xm B w M V w2:=⟨xl (it.alloc (by omega) _) ho (by omega),ho.keep (by omega) (yM h1),ho.keep (by omega) (yM h2),hp⟩;clear ho hp it Iu h0 h1 h2 hsp;go_wp2_with fail;go_loopw [9] (fun r wr=> ∃k:Nat,k≤10∧r=.int .i64 k∧Xm B w M (zt V M (8*k)) wr) (fun r _=>10-(intOf r).toNat);case atStart=>exact⟨0,by omega,rfl,S0⟩
 case round=>
  obtain⟨k,hk,rfl,S⟩:=hrel;clear S0;by_cases ns:k<10
  ·have eU:decide ((k:Int)<10)=true:=by simp;omega
   go_wp2_with fail;obtain⟨wo,rfl⟩: ∃wo:m0,wo=wr:=⟨_,rfl⟩;go_loopw [12] (fun i wi=> ∃j:Nat,j≤8∧i=.int .i64 j∧Xm B w M (zt V M (8*k+j)) wi) (fun i _=>8-(intOf i).toNat);case atStart=>exact⟨0,by omega,rfl,S⟩
   case round=>
    obtain⟨j,hj,rfl,Si⟩:=hrel;clear S;by_cases Dw:j<8
    ·have lI:decide ((j:Int)<8)=true:=by simp;omega
     have p1:=Vc k (2*j) ns (by omega);have p2:=Vc k (2*j+1) ns (by omega);have c1:wr.cell? ⟨B+1,zJ k (2*j),none⟩=some (.int .u32 (un (M.getD (zJ k (2*j)) 0))):=ye Si.m _ (by rw [HM.u];exact p1);have c2:wr.cell? ⟨B+1,zJ k (2*j+1),none⟩=some (.int .u32 (un (M.getD (zJ k (2*j+1)) 0))):=ye Si.m _ (by rw [HM.u];exact p2);generalize Fw:M.getD (zJ k (2*j)) 0=x1 at*;generalize Lv:M.getD (zJ k (2*j+1)) 0=x2 at*;generalize Sw:zJ k (2*j)=n1 at*;generalize cI:zJ k (2*j+1)=n2 at*;have Hx1:=jA Fw;have Hx2:=jA Lv;have Hn1:=jA Sw;have Hn2:=jA cI;clear Fw Lv Sw cI;go_upto_region 8 with(fail);refine Seg.xf (fun w'=> ∃n,w'=wr.drewN n) [([0,1,2,3,7,8,9,10],4),([5,6],11)] [12,13] 14 (by kernel_rfl) (by kernel_rfl) (fun _ _ d _ _ h=>by cases d<;>exact h) (⟨1,rfl⟩) ?_;simp only [jK,Seg.opAt,Seg.xu];repeat (any_goals (first|go_big_quiet_step (fail)|quiet_step (fail)))
     refine jR ?_;intro K hK;simp only [Region.wanted,jY];go_wp2_with (go_at_call 223;refine(jgu k (2*j) _ _ _ (by omega) (by omega) ns (by omega)).mono ?_;rw [Hn1.u];rintro e w' ⟨rfl,rfl⟩);refine hK _ _ ⟨_,rfl⟩ ?_;clear hK K;repeat (any_goals (first|go_big_quiet_step (fail)|quiet_step (fail)))
     refine jR ?_;intro K hK;simp only [Region.wanted,jY];go_wp2_with (go_at_call 223;refine(jgu k (2*j+1) _ _ _ (by omega) (by omega) ns (by omega)).mono ?_;rw [Hn2.u];rintro e w' ⟨rfl,rfl⟩);refine hK _ _ ⟨_,rfl⟩ ?_;clear hK K;repeat (any_goals (first|go_big_quiet_step (fail)|quiet_step (fail)))
     refine jR ?_;have QQ:=jA (jgs (B+3) j wr.drew 266 (zt V M (8*k+j)) x1 x2 Dw (by rw [zX,HV.u]) (by exact Si.p));go_wp2_with fail;refine QQ.u.mono ?_;clear QQ;rintro e w3 ⟨rfl,ho,hp⟩;have S':Xm B w M (zt V M (8*k+(j+1))) w3:=by
      rw [show 8*k+(j+1)=8*k+j+1 by omega,jga V M k j Dw,Hn1.u,Hn2.u,Hx1.u,Hx2.u];exact(Si.drewN 1).turned ho hp
     clear ho hp c1 c2 Si;go_wp2_with fail;go_roundw;case rel=>exact⟨j+1,by omega,by go_num,S'⟩
     case measure=>simp [intOf];omega
    ·have lI:decide ((j:Int)<8)=false:=by simp;omega
     go_wp2_with fail;go_roundw;case rel=>exact⟨k+1,by omega,by go_num,by rw [show 8* (k+1)=8*k+j by omega];exact Si⟩
     case measure=>simp [intOf];omega
  ·have eU:decide ((k:Int)<10)=false:=by simp;omega
   obtain rfl:k=10:=by omega
   go_upto_region 11 with(fail);apply vB;have OG:(zt V M 80).length=16:=by rw [zX,HV.u]
   have lJ:=jA (show(prog.info? 266).map (·.size)=some (yF (zt V M 80)).size by rw [yL,OG];exact jdw);have rC:=jA (show(prog.info? 235).map (·.size)=some (yF (zt V M 80)).size by rw [yL,OG];exact JH);clear OG;refine xy rfl 266 _ rfl (B+3) (yF (zt V M 80)) _ _ _ rfl S.p underlying266 rfl lJ.u ?_;refine xg rfl rfl 235 _ _ rfl (B+2) (yF (List.replicate 16 0)) (yF (zt V M 80)) 235 rfl rfl S.r ?_ rC.u (yp _) ?_;·rw [yL,yL,zX,HV.u];rfl
   intro w3 ho hp;go_wp2_with fail;refine jq (kB rfl _ w3 (B+2) _ _ _ _ rfl hp underlying235 rfl rC.u) rfl ⟨rfl,?_⟩;rw [HB.u];exact xl S.below ho (by omega)
theorem Jk:(prog.info? 205).map (·.size)=some 8:=by kernel_rfl
theorem jch:(prog.info? 180).map (·.size)=some 1:=by kernel_rfl
theorem jdv(w:m0):
 Calls prog 190 #[] w fun e w'=>e=.returned (.agg (yF ivL))∧O0 w.heap.size w w':=by
 have HF:=jA (show(prog.info? 205).map (·.size)=some (yF ivL).size by kernel_rfl);go_enter Tryz.func190,Tryz.ntmps190;go_wp2_with (refine xg rfl rfl 205 _ _ rfl w.heap.size (yF (List.replicate 8 0)) (yF ivL) 205 rfl rfl (xh rfl) rfl HF.u (yp _) ?_;intro w2 ho hp);refine jq (kB rfl _ w2 w.heap.size _ _ _ _ rfl hp underlying205 rfl HF.u) rfl ⟨rfl,?_⟩;exact xl ((jN _ _).alloc (jO _) _) ho (jO _)
structure zN(B:Nat)(w:m0)(H M V:List U)(wr:m0):Prop where
 below:O0 B w wr
 h:wr.heap[B]?=some (.cells (yF H) 205 (0,0))
 m:wr.heap[B+1]?=some (.cells (yF M) 235 (0,0))
 r:wr.heap[B+2]?=some (.cells (yF (List.replicate 8 0)) 205 (0,0))
 v:wr.heap[B+3]?=some (.cells (yF V) 235 (0,0))
theorem zN.turnedV {B:Nat}{w:m0}{H M V V':List U}{wr w1:m0}(h:zN B w H M V wr)(ho:yG (B+3) wr w1)
 (hp:w1.heap[B+3]?=some (.cells (yF V') 235 (0,0))):zN B w H M V' w1:=
 ⟨xl h.below ho (by omega),ho.keep (by omega) h.h,ho.keep (by omega) h.m,ho.keep (by omega) h.r,hp⟩
theorem zN.turnedH {B:Nat}{w:m0}{H M V H':List U}{wr w1:m0}(h:zN B w H M V wr)(ho:yG B wr w1)
 (hp:w1.heap[B]?=some (.cells (yF H') 205 (0,0))):zN B w H' M V w1:=
 ⟨xl h.below ho (jO _),hp,ho.keep (by omega) h.m,ho.keep (by omega) h.r,ho.keep (by omega) h.v⟩
theorem zN.kept {B:Nat}{w:m0}{H M V:List U}{wr w1:m0}(h:zN B w H M V wr)(hb:O0 (B+4) wr w1):zN B w H M V w1:=
 ⟨h.below.trans (hb.mono (by omega)),xe hb (by omega) h.h,xe hb (by omega) h.m,xe hb (by omega) h.r,xe hb (by omega) h.v⟩
theorem jdO(H M:List U)(n:Nat)(last:Bool)(w:m0)(hH:H.length=8)(hM:M.length=16)(hn:n<18446744073709551616):
 Calls prog 191 #[.agg (yF H),.agg (yF M),.int .u64 (n:Int),.bool last] w fun e w'=>e=.returned (.agg (yF (Jd H M n last)))∧O0 w.heap.size w w':=by
 have HH:=jA hH;have HM:=jA hM;clear hH hM hn;go_enter Tryz.func191,Tryz.ntmps191;go_upto_region 2 with(fail)
 refine xr (fun w1=>O0 w.heap.size w w1∧w1.heap.size=w.heap.size+4∧w1.heap[w.heap.size]?=some (.cells (yF H) 205 (0,0))∧
  w1.heap[w.heap.size+1]?=some (.cells (yF M) 235 (0,0))∧w1.heap[w.heap.size+2]?=some (.cells (yF (List.replicate 8 0)) 205 (0,0))∧
  w1.heap[w.heap.size+3]?=some (.cells (yF (List.replicate 16 0)) 235 (0,0))) ?_ (fun w1 ts=>?_)
 ·refine⟨((((jN _ _).alloc (jO _) _).alloc (by simp) _).alloc (by simp;omega) _).alloc (by simp;omega) _,by simp,?_,?_,?_,?_⟩;·exact yM (yM (yM (xh rfl)))
  ·exact yM (yM (xh (by simp)))
  ·exact yM (xh (by simp))
  ·exact xh (by simp)
 obtain⟨it,Iu,h0,h1,h2,h3⟩:=ts;generalize hB:w.heap.size=B at*;have HB:=jA hB;have H0:=jA h0;have H1:=jA h1;have H2:=jA h2;have H3:=jA h3;have LH:=jA it;have Px:=jA Iu;clear hB h0 h1 h2 h3 it Iu;have rX:=jA (show(prog.info? 205).map (·.size)=some (yF ivL).size by kernel_rfl);go_upto_region 3 with(first
  |(go_at_call 190;refine(jdv _).mono ?_;rintro e w2 ⟨rfl,Ut⟩)
  |(refine xg rfl rfl 205 _ _ rfl w2.heap.size (yF (List.replicate 8 0)) (yF ivL) 205 rfl rfl (xh rfl) rfl rX.u (yp _) ?_;intro w3 Ax Pw))
 have b3:O0 (B+4) w1 w3:=by
  have:=Ut.size;rw [Px.u]at Ut this;exact(Ut.alloc (by omega) _).trans (Ax.below (by omega))
 have hD:B+4≤w2.heap.size:=by have:=Ut.size;rw [Px.u]at this;exact this
 generalize w2.heap.size=D at*;have S3:zN B w H M (List.replicate 16 0) w3:=⟨LH.u.trans (b3.mono (by omega)),xe b3 (by omega) H0.u,xe b3 (by omega) H1.u,xe b3 (by omega) H2.u,xe b3 (by omega) H3.u⟩;have PB:=jA Pw;clear Ut Ax b3 H0 H1 H2 H3 LH Px Pw;refine Seg.xf (fun w'=> ∃n,w'=w3.drewN n) [] [0,1] 2 (by kernel_rfl) (by kernel_rfl) (fun _ _ d _ _ h=>by cases d<;>exact h) (⟨1,rfl⟩) ?_;simp only [jK,Seg.opAt,Seg.xu];repeat (any_goals (first|go_big_quiet_step (fail)|quiet_step (fail)))
 refine jR ?_;refine Xt rfl _ _ 87 87 rfl 180 underlying87 jch (B+3) 0 8 16 ⟨B,0,none⟩ 8 8 rfl rfl (yF (List.replicate 16 0)) 235 S3.v (H.map uv) (by rw [kS,HH.u];rfl) ?_ (by rw [kS,HH.u];decide) (jcb _) ?_;·exact jgc (w:=w3.drew) S3.h
 intro w4 ho4 AQ;rw [jeu]at AQ;have S4:=S3.turnedV ((yG.refl _ w3).drew.trans ho4) AQ;have pE:=jA (((yG.refl _ w3).drew.trans ho4).keep (show D≠B+3 by omega) PB.u);clear ho4 AQ S3 PB;go_upto_region 4 with(fail);refine Seg.xf (fun w'=> ∃n,w'=w4.drewN n) [] [0,1] 2 (by kernel_rfl) (by kernel_rfl) (fun _ _ d _ _ h=>by cases d<;>exact h) (⟨1,rfl⟩) ?_;simp only [jK,Seg.opAt,Seg.xu];repeat (any_goals (first|go_big_quiet_step (fail)|quiet_step (fail)))
 refine jR ?_;refine Xt rfl _ _ 87 87 rfl 180 underlying87 jch (B+3) 8 8 8 ⟨D,0,none⟩ 8 8 rfl rfl (yF _) 235 S4.v (ivL.map uv) (by decide) (jgc (w:=w4.drew) pE.u) (by rw [yL];simp [ivL,HH.u]) (jcb _) ?_;intro w5 gO sC;rw [jeu]at sC;have ux:((List.replicate 16 0).take 0++(H++(List.replicate 16 0).drop (0+H.length)):List U).take 8++(ivL++((List.replicate 16 0).take 0++(H++(List.replicate 16 0).drop (0+H.length)):List U).drop (8+ivL.length))=H++ivL:=by
  have h8:=HH.u;simp [h8,ivL]
 rw [ux]at sC;clear ux;have S5:=S4.turnedV ((yG.refl _ w4).drew.trans gO) sC;clear gO sC S4 pE hD;go_upto_region 5 with(fail);refine xr (fun w6=>zN B w H M (H++ivL) w6) S5 (fun w6 S6=>?_);clear S5;have hl:(H++ivL).length=16:=by simp [HH.u,ivL]
 have Wt:=fun wE uE EK DK=>jdP H _ n last wE uE rfl EK DK;generalize H++ivL=V at*;have c12:=ye S6.v 12 (by omega);have FZ:=ye S6.v 13 (by omega);have f12:=yw S6.v 12;have f13:=yw S6.v 13;have u0:=jhB n;have u1:=jiQ n;have RX:=jcn;have FD:=Wt _ _ rfl rfl;clear Wt;generalize V.getD 12 0=wE at*;generalize V.getD 13 0=uE at*;have HL:=jA hl;have Gv:=jA FD;clear hl FD;go_upto_region 7 with(fail);refine xr (fun w7=>zN B w H M ((V.set 12 (wE ^^^ BitVec.ofNat 32 n)).set 13 (uE ^^^ BitVec.ofNat 32 (n/4294967296))) w7)
  (S6.turnedV (((yG.refl _ w6).setCell _ _).setCell _ _) (zU (zU S6.v _ _) _ _)) (fun w7 S7=>?_)
 have Wt:=Gv.u;have BJ:((V.set 12 (wE ^^^ BitVec.ofNat 32 n)).set 13 (uE ^^^ BitVec.ofNat 32 (n/4294967296))).length=16:=by simp [HL.u]
 clear S6 c12 FZ f12 f13 u0 u1 Gv HL;generalize (V.set 12 (wE ^^^ BitVec.ofNat 32 n)).set 13 (uE ^^^ BitVec.ofNat 32 (n/4294967296))=V2 at*;have Gv:=jA Wt;clear Wt;have c14:=ye S7.v 14 (by omega);have f14:=yw S7.v 14;have EP:=jA (Zi H n last HH.u);clear BJ;generalize V2.getD 14 0=x14 at*;have RN:=jlz x14
 go_upto_if 33 with(fail)
 go_cut [] (fun w'=>zN B w H M (Kw H n last) w');case first=>
  cases last
  ·go_wp2_with fail;go_meet;case rel=>rw [Gv.u];exact S7
  ·go_wp2_with fail;go_meet;case rel=>rw [Gv.u];exact S7.turnedV ((yG.refl _ w7).setCell _ _) (zU S7.v _ _)
 case rest=>
  have S8:zN B w H M (Kw H n last) wc:=hcut;clear hcut S7 c14 f14 RN Gv;have HZ:=jA (show Jd H M n last=VW H (zt (Kw H n last) M 80) 8 from rfl);generalize Kw H n last=V3 at*;have s1:=jA (show(prog.info? 235).map (·.size)=some (yF V3).size by rw [yL,EP.u];exact JH);have s2:=jA (show(prog.info? 235).map (·.size)=some (yF M).size by rw [yL,HM.u];exact JH);have s3:=jA (show(prog.info? 235).map (·.size)=some (yF (zt V3 M 80)).size by rw [yL,zX,EP.u];exact JH);have cZ:(zt V3 M 80).length=16:=by rw [zX,EP.u]
  have rx:B+4≤wc.heap.size:=xZ S8.v;go_upto_region 9 with(fail);apply vB;refine xy rfl 235 _ rfl (B+3) (yF V3) _ _ _ rfl S8.v underlying235 rfl s1.u ?_;refine xy rfl 235 _ rfl (B+1) (yF M) _ _ _ rfl S8.m underlying235 rfl s2.u ?_;have QQ:=jA (jlD V3 M wc EP.u HM.u);generalize zt V3 M 80=Z at*;go_upto_region 10 with(first
   |(go_at_call 212;refine QQ.u.mono ?_;rintro e w2 ⟨rfl,Ut⟩)
   |(refine xg rfl rfl 235 _ _ rfl w2.heap.size (yF (List.replicate 16 0)) (yF Z) 235 rfl rfl (xh rfl) (by rw [yL,yL,cZ];rfl) s3.u (yp _) ?_;intro w3 Ax Pw))
  have aP:B+4≤w2.heap.size:=jU rx Ut.size;have b3:O0 (B+4) wc w3:=((Ut.mono rx).alloc aP _).trans (Ax.below aP);have S9:=S8.kept b3;generalize w2.heap.size=E at*;clear S8 b3 Ax Ut QQ rx s1 s2 s3;go_wp2_with fail;go_loopw [41] (fun i wr=> ∃k:Nat,k≤8∧i=.int .i64 k∧zN B w (VW H Z k) M V3 wr∧wr.heap[E]?=some (.cells (yF Z) 235 (0,0))) (fun i _=>8-(intOf i).toNat);case atStart=>exact⟨0,by omega,rfl,S9,Pw⟩
  case round=>
   obtain⟨k,hk,rfl,S,hE⟩:=hrel;clear S9 Pw;by_cases ns:k<8
   ·have lI:decide ((k:Int)<8)=true:=by simp;omega
    have hlk:(VW H Z k).length=8:=by rw [Jg,HH.u]
    have c0:=ye S.h k (by omega);have f0:=yw S.h k;have c1:=ye hE k (by omega);have c2:=ye hE (k+8) (by omega);have ut:=jdY H Z k;generalize (VW H Z k).getD k 0=x0 at*;generalize Z.getD k 0=x1 at*;generalize Z.getD (k+8) 0=x2 at*;have Iw:=jA ut;clear ut hlk;have HE:=jA hE;clear hE;go_upto_region 13 with(fail);refine Seg.xf (fun w'=> ∃n,w'=wr.drewN n) [] [0,1,2,3,4,5,6,7,8,9,10] 11 (by kernel_rfl) (by kernel_rfl) (fun _ _ d _ _ h=>by cases d<;>exact h) (⟨1,rfl⟩) ?_;simp only [jK,Seg.opAt,Seg.xu];repeat (any_goals (first|go_big_quiet_step (fail)|quiet_step (fail)))
    refine jR ?_;go_upto_region 14 with(fail);refine xr (fun w5=>zN B w (VW H Z (k+1)) M V3 w5∧w5.heap[E]?=some (.cells (yF Z) 235 (0,0)))
     ⟨by rw [Iw.u];exact S.turnedH (((yG.refl B wr).drewN 1).setCell _ _) (zU (w:=wr.drew) S.h _ _),(((yG.refl B wr).drewN 1).setCell k _).keep (by omega) HE.u⟩ (fun w5 UL=>?_)
    obtain⟨S5,hE5⟩:=UL;clear S c0 f0 c1 c2 HE Iw;go_wp2_with fail;go_roundw;case rel=>exact⟨k+1,by omega,by go_num,S5,hE5⟩
    case measure=>simp [intOf];omega
   ·have lI:decide ((k:Int)<8)=false:=by simp;omega
    obtain rfl:k=8:=by omega
    have TC:=jA (show(prog.info? 205).map (·.size)=some (yF (VW H Z 8)).size by rw [yL,Jg,HH.u];exact Jk);go_upto_region 15 with(fail);apply vB;refine xy rfl 205 _ rfl B (yF (VW H Z 8)) _ _ _ rfl S.h underlying205 rfl TC.u ?_;refine xg rfl rfl 205 _ _ rfl (B+2) (yF (List.replicate 8 0)) (yF (VW H Z 8)) 205 rfl rfl S.r ?_ TC.u (yp _) ?_;·rw [yL,yL,Jg,HH.u];rfl
    intro w6 ho hp;go_wp2_with fail;refine jq (kB rfl _ w6 (B+2) _ _ _ _ rfl hp underlying205 rfl TC.u) rfl ⟨by rw [HZ.u],?_⟩;rw [HB.u];exact xl S.below ho (by omega)
theorem Ze {P:Program}(w:m0)(t e:o0)(n:Nat)(cs:t0)(k q:IntKind)(i:Nat)(v:n0)(h:P.underlying t=some (.array n e))(hi:i<n)(hs:(P.info? e).map (·.size)=some 1)(hu:P.underlying e=some (.int q))
 (hv:cs[i]?=some v):(Instr.index t (.agg cs) (.int k (i:Int))).run P w=.ok v w:=by
 have hn:(0:Int)≤i∧(i:Int)<(n:Int):=by omega
 cases hq:P.info? e with
 |none=>simp [hq]at hs
 |
  some x=>
  have hx:x.size=1:=by simpa [hq] using hs
  simp [Instr.index,run_underlying h,asIntOf,hn,sizeOf,typeInfo,hq,hx,hi];unfold part;simp [isAgg,kU,run_underlying hu,hv]
theorem jeW {P:Program}(w:m0)(dT sT ty Lz:o0)(b o Ev AF:Nat)(s:ByteArray)
 (hu:P.underlying dT=some (.slice Lz)) (hz:(P.info? Lz).map (·.size)=some 1) (ht:w.there b o (Nat.min s.size Ev)):
 (Builtin.copy_ #[dT,sT] ty #[.slice (some ⟨b,o,none⟩) Ev AF,.string s]).run P w=.ok (goInt (Nat.min s.size Ev)) (w.setCells b o (Lib.byteCells (s.data.toList.take (Nat.min s.size Ev)))):=by
 have hl:(Lib.byteCells (s.data.toList.take (Nat.min s.size Ev))).length=Nat.min s.size Ev:=by
  rw [Lib.byteCells_length,jf,←Lib.size_eq];have:Nat.min s.size Ev≤s.size:=Nat.min_le_left _ _;omega
 have Sz:=run_storeCells_cells (P:=P) b o (Lib.byteCells (s.data.toList.take (Nat.min s.size Ev))) 0 w (by rw [hl];intro j hj;simpa using (ht j hj).1) (by rw [hl];intro j hj;simpa using (ht j hj).2) (Lib.byteCells_one _);have gJ:List.take (Nat.min s.size Ev) (List.map (fun b:UInt8=>Value.int IntKind.u8 (b.toNat:Int)) s.data.toList)=Lib.byteCells (s.data.toList.take (Nat.min s.size Ev)):=by
  unfold Lib.byteCells;rw [List.map_take]
 simp only [qq]at Sz;cases hq:P.info? Lz with
 |none=>simp [hq]at hz
 |
  some i=>
  have hi:i.size=1:=by simpa [hq] using hz
  simp [Builtin.copy_,run_underlying hu,Builtin.lenOf,Builtin.firstCells,sizeOf,typeInfo,hq,hi];rw [gJ,Sz];simp [Result.andThen]
theorem Yh {P:Program}{w:m0}{ops:Array Oper}{rest:List Oper}{o:Oper}{a:Act}{Q:Exit→Act→m0→Prop}(tA:o.guard=none)(d s:Operand)(dT sT:o0)
 (ho:o.op=.call {callee:=.builtin .copy,args:= #[d,s],argTypes:= #[dT,sT]}) (Lz:o0) (hu:P.underlying dT=some (.slice Lz)) (Iu:(P.info? Lz).map (·.size)=some 1)
 (g Du Ev AF:Nat) (S:ByteArray) (hd:a.eval d=.slice (some ⟨g,Du,none⟩) Ev AF) (hs:a.eval s=.string S) (ht:w.there g Du (Nat.min S.size Ev))
 (h:wpList P ops Q rest (a.put o.dst (goInt (Nat.min S.size Ev))) (w.setCells g Du (Lib.byteCells (S.data.toList.take (Nat.min S.size Ev))))):wpList P ops Q (o::rest) a w:=by
 refine wpList_plain tA fun K hK=>?_;have cF:=jeW (P:=P) w dT sT o.type Lz g Du Ev AF S hu Iu ht;unfold Oper.wp;simp [execOp,ho,resolve,invoke,builtin,hd,hs,cF,Result.andThen];exact hK _ _ h
theorem Xr {P:Program}{ops:Array Oper}{rest:List Oper}{o:Oper}{a:Act}{S:m0→Prop}{K:Act→Prop}(hw:Region.wanted o (yielded ops a.tmps)=true)(ty:o0)(y:Operand)(ho:o.op=.load ty y)(b Du:Nat)(cs:A0)(d:TypeDesc)
 (hx:a.eval y=.pointer (some ⟨b,Du,none⟩)) (hb: ∀w',S w'→w'.rangeAt b Du cs) (hu:P.underlying ty=some d) (hd:d.isRow=true)
 (hi:(P.info? ty).map (·.size)=some cs.length) (h:wpQuiet P ops S K rest (a.put o.dst (.agg cs.toArray))):
 wpQuiet P ops S K (o::rest) a:=by
 unfold wpQuiet;rw [jP hw];refine⟨.agg cs.toArray,fun w' Tt=>?_,h⟩;have hr:=run_loadVar_mid (P:=P) w' b Du ty cs d (hb w' Tt) hu hd hi;unfold Oper.quietAt execOp;simp only [ho,hx,Instr.loadAt,Instr.sureAddr,kU,Sem.run_pure,qQ,hr];exact⟨rfl,rfl⟩
def yu(H:List U)(n:Nat)(D:Bytes)(t:Nat):A0:=H.map uv++(Value.int .u64 (n:Int)::(Lib.byteCells D++ [Value.int .i64 (t:Int)]))
structure FoldAt(b:Nat)(H:List U)(n:Nat)(D:Bytes)(t:Nat)(w:m0):Prop where
 blk:w.heap[b]?=some (.cells (yu H n D t).toArray 208 (0,0))
 hl:H.length=8
 dl:D.length=64
theorem Jz {H:List U}{n:Nat}{D:Bytes}{t:Nat}(hl:H.length=8)(dl:D.length=64):(yu H n D t).length=74:=by
 simp [yu,yV,hl,dl]
theorem jkU {H:List U}{n:Nat}{D:Bytes}{t:Nat}(hl:H.length=8)(j:Nat)(hj:j<8):(yu H n D t)[j]?=(H.map uv)[j]?:=by
 unfold yu;rw [qZ (by simp [hl];omega)]
theorem jkT {H:List U}{n:Nat}{D:Bytes}{t:Nat}(hl:H.length=8):(yu H n D t)[8]?=some (.int .u64 n):=by
 unfold yu;rw [kZ (by simp [hl])];simp [hl]
theorem jkV {H:List U}{n:Nat}{D:Bytes}{t:Nat}(hl:H.length=8)(dl:D.length=64)(j:Nat)(hj:j<64):(yu H n D t)[9+j]?=(Lib.byteCells D)[j]?:=by
 unfold yu;rw [kZ (by simp [hl];omega)];rw [show 9+j-(H.map uv).length=j+1 by simp [hl];omega,jC,qZ (by rw [yV,dl];exact hj)]
theorem jir {H:List U}{n:Nat}{D:Bytes}{t:Nat}(hl:H.length=8)(dl:D.length=64):(yu H n D t)[73]?=some (.int .i64 t):=by
 unfold yu;rw [kZ (by simp [hl])];rw [show 73-(H.map uv).length=64+1 by simp [hl],jC,kZ (by rw [yV,dl];exact jO _),yV,dl];rfl
namespace FoldAt
variable {b:Nat} {H:List U} {n:Nat} {D:Bytes} {t:Nat} {w w1:m0}
theorem cell(h:FoldAt b H n D t w)(j:Nat)(_:j<74):w.cell? ⟨b,j,none⟩=(yu H n D t)[j]?:=by
 rw [jM w b j _ _ _ h.blk];simp
theorem frozen(h:FoldAt b H n D t w)(j:Nat):w.frozen? ⟨b,j,none⟩=false:=jc w b j _ _ h.blk
theorem cellN(h:FoldAt b H n D t w):w.cell? ⟨b,8,none⟩=some (.int .u64 n):=by rw [h.cell 8 (by omega),jkT h.hl]
theorem cellAt(h:FoldAt b H n D t w):w.cell? ⟨b,73,none⟩=some (.int .i64 t):=by rw [h.cell 73 (by omega),jir h.hl h.dl]
theorem rangeH(h:FoldAt b H n D t w):w.rangeAt b 0 (H.map uv):=fun j v hv=>by
 have hj:j<8:=by have:=(xO.1 hv).1;simpa [h.hl] using this
 rw [jv,h.cell j (by omega),jkU h.hl j hj,hv]
theorem rangeD(h:FoldAt b H n D t w):w.rangeAt b 9 (Lib.byteCells D):=fun j v hv=>by
 have hj:j<64:=by have:=(xO.1 hv).1;rwa [yV,h.dl]at this
 rw [h.cell (9+j) (by omega),jkV h.hl h.dl j hj,hv]
theorem there(h:FoldAt b H n D t w)(o k:Nat)(hk:o+k≤74):w.there b o k:=fun j hj=>by
 refine⟨?_,h.frozen _⟩;rw [h.cell (o+j) (by omega)];simp [Jz h.hl h.dl];omega
theorem kept(h:FoldAt b H n D t w)(hb:w1.heap[b]?=w.heap[b]?):FoldAt b H n D t w1:=⟨hb.trans h.blk,h.hl,h.dl⟩
theorem drewN(h:FoldAt b H n D t w)(k:Nat):FoldAt b H n D t (w.drewN k):=⟨h.blk,h.hl,h.dl⟩
theorem below {B:Nat}(h:FoldAt b H n D t w)(hb:O0 B w w1)(ns:b<B):FoldAt b H n D t w1:=h.kept (hb.block b ns)
theorem only {c:Nat}(h:FoldAt b H n D t w)(ho:yG c w w1)(Cs:b≠c):FoldAt b H n D t w1:=h.kept (ho.block b Cs)
theorem setN(h:FoldAt b H n D t w)(m:Nat):FoldAt b H m D t (w.setCell ⟨b,8,none⟩ (.int .u64 (m:Int))):=by
 refine⟨?_,h.hl,h.dl⟩;rw [jd w b 8 _ _ _ h.blk];congr 2;simp [yu,h.hl]
theorem setAt(h:FoldAt b H n D t w)(m:Nat):FoldAt b H n D m (w.setCell ⟨b,73,none⟩ (.int .i64 (m:Int))):=by
 refine⟨?_,h.hl,h.dl⟩;rw [jd w b 73 _ _ _ h.blk];congr 2;simp [yu,h.hl,h.dl,yV]
theorem setH(h:FoldAt b H n D t w)(H':List U)(hl:H'.length=8):FoldAt b H' n D t (w.setCells b 0 (H'.map uv)):=by
 refine⟨?_,hl,h.dl⟩;rw [VV b _ _ 0 w _ h.blk (by simp [hl,Jz h.hl h.dl])];congr 2;simp [yu,hl,h.hl]
theorem setD(h:FoldAt b H n D t w)(o:Nat)(E:Bytes)(ho:o+E.length≤64):FoldAt b H n (D.take o++(E++D.drop (o+E.length))) t (w.setCells b (9+o) (Lib.byteCells E)):=by
 refine⟨?_,h.hl,by simp [h.dl];omega⟩;rw [VV b _ _ (9+o) w _ h.blk (by simp [yV,Jz h.hl h.dl];omega)];congr 2;have dl:=h.dl;have hl:=h.hl;have e1:List.take (9+o) (yu H n D t)=H.map uv++(Value.int .u64 (n:Int)::Lib.byteCells (D.take o)):=by
  unfold yu;rw [List.take_append,show 9+o-(H.map uv).length=o+1 by simp [hl];omega,je (by simp [hl];omega),List.take_succ_cons,xW (by rw [yV];omega)];simp [Lib.byteCells,List.map_take]
 have e2:List.drop (9+o+E.length) (yu H n D t)=Lib.byteCells (D.drop (o+E.length))++ [.int .i64 (t:Int)]:=by
  unfold yu;rw [List.drop_append,show 9+o+E.length-(H.map uv).length=(o+E.length)+1 by simp [hl];omega,qX (by simp [hl];omega),jF,List.drop_append_of_le_length (by rw [yV];omega)];simp [Lib.byteCells,List.map_drop]
 rw [List.toList_toArray,yV,e1,e2];simp [yu,Lib.byteCells]
end FoldAt
structure Kn(b:Nat)(h0:List U)(T:Bytes)(w:m0):Prop where
 ex: ∃p t D,Zz T p t D∧(T= []∨0<t)∧FoldAt b (zo h0 T p) (64*p) D t w
theorem xk {b:Nat}{w w1:m0}(h:yG b w w1):w.grownBy w1 (some b):=⟨h.os,h.tape,h.output,by rw [h.size];exact jO _,fun k _ hk=>h.block k (fun e=>hk (by rw [e]))⟩
theorem JE {b:Nat}{w w1:m0}(h:O0 w.heap.size w w1):w.grownBy w1 (some b):=⟨h.os,h.tape,h.output,h.size,fun k hk _=>h.block k hk⟩
end Go.Proofs.YtnohcdpnnhmpfaaGreatDoor
