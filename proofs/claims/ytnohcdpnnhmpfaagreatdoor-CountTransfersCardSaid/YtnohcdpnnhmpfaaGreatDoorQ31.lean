/-
  Chapter 13, the reference's Transfer: best (Transfer$1). Printed by tools/genbst.py.
-/
import Derived.Test.YtnohcdpnnhmpfaaGreatDoorQ30
import Derived.Test.YtnohcdpnnhmpfaaGreatDoorQ21
set_option linter.unusedVariables false
set_option linter.unusedSimpArgs false
set_option maxRecDepth 100000
set_option maxHeartbeats 4000000
namespace Go.Proofs.YtnohcdpnnhmpfaaGreatDoor.TR
open Go.RowKit Tryz ML FRP AU CT FM
theorem jda(N:FuncId)(qN:zs N)(c1:Value)(p:Nat→Bool)(n:Nat)(O:List Nat)(oO:Option Addr)(cO NB OB TT base g ct:Nat)(T:Nat→Fr)(xa xb:Nat→Value)(r:List Nat)(w:World)
 (hN:w.cell? ⟨NB,0,none⟩=some (.int .i64 n)) (hNl:NB<w.heap.size) (hO:w.cell? ⟨OB,0,none⟩=some (.slice oO n cO)) (hOl:OB<w.heap.size) (hI:yj w oO (xq O)) (hOn:O.length=n) (hlt: ∀x∈O,x<n) (hd:O.Nodup) (hn:n≤12)
 (hTT:w.cell? ⟨TT,0,none⟩=some (.slice (some ⟨g,0,none⟩) n ct)) (hTl:TT<w.heap.size) (hT:jeg w base g ct n T xa xb) (sT: ∀i,i<n→Sml (T i))
 (hp: ∀w1,Below w.heap.size w w1→ ∀i,i<n→Calls prog N #[.int .i64 (i:Int),c1] w1 fun e w2=>e=.returned (.bool (p i))∧Below w1.heap.size w1 w2) (hr:Rk T O (O.filter p) r):
 Calls prog 37 #[.func (.func N) #[] #[c1],.pointer (some ⟨NB,0,none⟩),.pointer (some ⟨OB,0,none⟩),.pointer (some ⟨TT,0,none⟩)] w fun e w'=> ∃o c,e=.returned (.slice o r.length c)∧w'.ownsRow w.heap.size 3 1 (.slice o r.length c) r.length (xU (xq r))∧Below w.heap.size w w':=by
 unfold zs at qN;have HI:=jA hI;have HT:=jA hT;have HP:=jA hp;have HR:=jA hr;have HD:=jA hd;have HLT:=jA hlt;have HST:=jA sT;have HON:=jA hOn;have HN:=jA hN;have HO:=jA hO;have HTT:=jA hTT;have HS:=jA zM;have hrn:r.length≤n:=by
  rw [hr.perm.length_eq,←hOn];exact kt _ _
 obtain⟨i0,hi,hz0,hz1,hz2⟩:=info_parts KL;have JI:=jA hi;have JZ0:=jA hz0;have JZ1:=jA hz1;have JZ2:=jA hz2;clear hI hT hp hr hd hlt sT hOn hO hTT hi hz0 hz1 hz2;obtain⟨B,hB⟩: ∃B,B=w.heap.size:=⟨_,rfl⟩;have HB:=jA hB;have hNB:NB<B:=by omega
 have hOB:OB<B:=by omega
 have hTB:TT<B:=by omega
 rw [←hB];clear hB;go_enter Tryz.func37,Tryz.ntmps37;go_wp2_with fail;clear hN;go_loopw [11,6] (fun v l wr=> ∃(j:Nat) (o:Option Addr) (cc:Nat),v=.int .i64 j∧l=.slice o (r.take j).length cc∧j≤n∧wr.ownsRow B 3 1 (.slice o (r.take j).length cc) (r.take j).length (xU (xq (r.take j)))∧Below B w wr) (fun v _ _=>n-(intOf v).toNat);case atStart=>exact⟨0,none,0,rfl,rfl,ji _,qA _ _ _ _,by rw [HB.u];exact jN _ _⟩
 case round=>
 obtain⟨j,o,cc,rfl,rfl,hj,how,hb⟩:=hrel;have OW:=jA how;have BR:=jA hb;have hBr:B≤wr.heap.size:=by have:=hb.size;have:=HB.u;omega
 clear how hb;by_cases hjn:j<n;case neg=>
  obtain rfl:j=n:=by omega
  have dk:decide ((j:Int)<(j:Int))=false:=jS (by omega);have HE:=jA (show r.take j=r from jc hrn);go_wp2_with fail;go_ret;exact⟨o,cc,by rw [HE.u];rfl,by have:=OW.u;rw [HE.u]at this;exact this,BR.u⟩
 have dk:decide ((j:Int)<(n:Int))=true:=jQ (by omega);have dk2:decide (j<n)=true:=jQ hjn;obtain⟨wo,hwo⟩: ∃wo:World,wo=wr:=⟨_,rfl⟩;subst hwo;have kO:wo.cell? ⟨OB,0,none⟩=some (.slice oO n cO):=(BR.u.cell (p:=⟨OB,0,none⟩) hOB).trans HO.u;obtain⟨l,hl⟩: ∃l,l=r.take j:=⟨_,rfl⟩;have HL:=jA hl;have hll:l.length≤12:=by rw [hl,jX];omega
 rw [←hl]at OW ⊢;clear hl;obtain⟨o',cc',he,_,hIL⟩:=zz OW.u;rw [yO]at he;obtain⟨rfl,rfl⟩:o=o'∧cc=cc':=by injection he with h1 _ h2;exact⟨h1,h2⟩
 have IL:=jA hIL;have IOr:=jA (HI.u.below (HB.u▸BR.u));have RT:=jA (HT.u.below (HB.u▸BR.u));have kTT:=jA ((BR.u.cell (p:=⟨TT,0,none⟩) hTB).trans HTT.u);have hTo:TT<wo.heap.size:=by omega
 clear he hIL;go_wp2_with fail;clear dk dk2 kO;go_loopw [15,7] (fun v kv wr=> ∃(i:Nat) (k:Int),v=.int .i64 i∧kv=.int .i64 k∧i≤n∧Jz T O (jaK p l O i) k∧Below wo.heap.size wo wr) (fun v _ _=>n-(intOf v).toNat);case atStart=>exact⟨0, -1,rfl,rfl,ji _,Jz.nil _ _,jN _ _⟩
 case round=>
 obtain⟨i,k,rfl,rfl,hi,hbk,hb⟩:=hrel;have HBK:=jA hbk;have BI:=jA hb;have hoi:wo.heap.size≤wr.heap.size:=hb.size;clear hbk hb;by_cases hin:i<n
 ·have ek:decide ((i:Int)<(n:Int))=true:=jQ (by omega);have ek2:decide (i<n)=true:=jQ hin;have eki:(i:Int)<(n:Int):=by omega
  have hiO:i<O.length:=by rw [HON.u];exact hin
  obtain⟨a,hoa,hab,hac⟩:=(IOr.u.below BI.u).cells i (by rw [yO];exact hiO);have hgi:(xq O)[i]'(by rw [yO];exact hiO)=((O[i]:Nat):Int):=by simp [xq]
  rw [hgi]at hac;have hxn:=HLT.u _ (jj hiO);have HCS:=jA (jcX p l O i hiO);have HIX:=jA (fun y (hy:y∈jaK p l O i)=>jfv HD.u hiO hy);have QC:=jA (HP.u wr.drew (show Below w.heap.size w wr.drew from((HB.u▸BR.u:Below w.heap.size w wo).trans (BI.u.mono (by rw [←HB.u];exact hBr))).drew) O[i] hxn);subst hoa;clear hgi;generalize O[i]=x at*;clear hiO;have hxi:(x:Int)<(n:Int):=by omega
  go_upto_region 8 with(fail);clear ek ek2 eki;cases hpx:p x with
  |
   false=>
   rw [hpx]at QC HCS;rw [Bool.false_and,jT (by decide),qD]at HCS;refine Seg.xL (fun w'=> ∃x:xS wr.heap.size wr,w'=x.w) [([0,1],2),([3,4,5],6)] [7,8,9,10,11,12,13,14,15,16,17,18,19,20] 21 (by kernel_rfl) (by kernel_rfl) (fun _ _ d _ _ h=>by cases d<;>exact h) (⟨⟨_,(jN _ _).drew⟩,rfl⟩) ?_;simp only [jK,Seg.opAt,Seg.xW];first|go_big_quiet_step (fail)|quiet_step (fail)
   first|go_big_quiet_step (fail)|quiet_step (fail)
   refine jP ?_;intro Kc hK;simp only [Region.wanted,jY];go_wp2_with (with_reducible refine(QC.u).mono ?_;rintro e w1 ⟨rfl,b1⟩);have B1:=jA (yV b1);refine hK _ _ ⟨⟨w1,B1.u⟩,rfl⟩ ?_;clear hK Kc b1 QC;repeat (any_goals (first|go_big_quiet_step (fail)|quiet_step (fail)))
   refine jP ?_;intro Kc hK;first|go_simp|skip
   refine hK _ _ ⟨⟨w1,B1.u⟩,rfl⟩ ?_;clear hK Kc;repeat (any_goals (first|go_big_quiet_step (fail)|quiet_step (fail)))
   refine jP ?_;go_wp2_with go_big_skip;go_roundw;case rel=>exact⟨i+1,k,by go_num,rfl,by omega,by rw [HCS.u];exact HBK.u,BI.u.trans (B1.u.mono hoi)⟩
   case measure=>simp [intOf];omega
  |
   true=>
   rw [hpx]at QC HCS;rw [Bool.true_and]at HCS;have hbx:decide ((x:Int)∈xq l)=decide (x∈l):=by
    unfold xq;have h1:((x:Int)∈l.map fun i:Nat=>(i:Int))↔x∈l:=by
     rw [jl];exact⟨fun⟨a,ha,e⟩=>by rw [show x=a by omega];exact ha,fun h=>⟨x,h,rfl⟩⟩
    by_cases h:x∈l;·rw [jQ h,jQ (h1.2 h)]
    ·rw [jS h,jS (fun h2=>h (h1.1 h2))]
   have QN:=jA (fun w1 h=>jci o (xq l) cc (x:Int) w1 h (by rw [yO];omega));rw [yO,hbx]at QN;have IL1:=jA (IL.u.below BI.u);clear hbx;generalize decide (x∈l)=bx at*;cases bx with
   |
    true=>
    rw [jT (by decide),qD]at HCS;refine Seg.xL (fun w'=> ∃x:xS wr.heap.size wr,w'=x.w) [([0,1],2),([3,4,5],6)] [7,8,9,10,11,12,13,14,15,16,17,18,19,20] 21 (by kernel_rfl) (by kernel_rfl) (fun _ _ d _ _ h=>by cases d<;>exact h) (⟨⟨_,(jN _ _).drew⟩,rfl⟩) ?_;simp only [jK,Seg.opAt,Seg.xW];first|go_big_quiet_step (fail)|quiet_step (fail)
    first|go_big_quiet_step (fail)|quiet_step (fail)
    refine jP ?_;intro Kc hK;simp only [Region.wanted,jY];go_wp2_with (with_reducible refine(QC.u).mono ?_;rintro e w1 ⟨rfl,b1⟩);have B1:=jA (yV b1);refine hK _ _ ⟨⟨w1,B1.u⟩,rfl⟩ ?_;clear hK Kc b1 QC;repeat (any_goals (first|go_big_quiet_step (fail)|quiet_step (fail)))
    refine jP ?_;intro Kc hK;first|go_simp|skip
    go_wp2_with (go_at_call 38;refine(QN.u w1 (IL1.u.below B1.u)).mono ?_;rintro e w2 ⟨rfl,rfl⟩);refine hK _ _ ⟨⟨_,B1.u⟩,rfl⟩ ?_;clear hK Kc QN;repeat (any_goals (first|go_big_quiet_step (fail)|quiet_step (fail)))
    refine jP ?_;go_wp2_with go_big_skip;go_roundw;case rel=>exact⟨i+1,k,by go_num,rfl,by omega,by rw [HCS.u];exact HBK.u,BI.u.trans (B1.u.mono hoi)⟩
    case measure=>simp [intOf];omega
   |
    false=>
    rw [jR (by decide)]at HCS;rcases HBK.u.sign with rfl|⟨y,rfl⟩
    ·have HN1:=jA (HBK.u.one (by decide) x);rw [←HCS.u]at HN1;refine Seg.xL (fun w'=> ∃x:xS wr.heap.size wr,w'=x.w) [([0,1],2),([3,4,5],6)] [7,8,9,10,11,12,13,14,15,16,17,18,19,20] 21 (by kernel_rfl) (by kernel_rfl) (fun _ _ d _ _ h=>by cases d<;>exact h) (⟨⟨_,(jN _ _).drew⟩,rfl⟩) ?_;simp only [jK,Seg.opAt,Seg.xW];first|go_big_quiet_step (fail)|quiet_step (fail)
     first|go_big_quiet_step (fail)|quiet_step (fail)
     refine jP ?_;intro Kc hK;simp only [Region.wanted,jY];go_wp2_with (with_reducible refine(QC.u).mono ?_;rintro e w1 ⟨rfl,b1⟩);have B1:=jA (yV b1);refine hK _ _ ⟨⟨w1,B1.u⟩,rfl⟩ ?_;clear hK Kc b1 QC;repeat (any_goals (first|go_big_quiet_step (fail)|quiet_step (fail)))
     refine jP ?_;intro Kc hK;first|go_simp|skip
     go_wp2_with (go_at_call 38;refine(QN.u w1 (IL1.u.below B1.u)).mono ?_;rintro e w2 ⟨rfl,rfl⟩);refine hK _ _ ⟨⟨_,B1.u⟩,rfl⟩ ?_;clear hK Kc QN;repeat (any_goals (first|go_big_quiet_step (fail)|quiet_step (fail)))
     refine jP ?_;go_wp2_with go_big_skip;go_roundw;case rel=>exact⟨i+1,x,by go_num,rfl,by omega,HN1.u,BI.u.trans (B1.u.mono hoi)⟩
     case measure=>simp [intOf];omega
    ·have hym:=HBK.u.mem;have hyn:=HLT.u y (qU (kB.1 hym).1);have HUP:=jA (fun h=>HBK.u.up x h);have HSY:=jA (fun h=>HBK.u.stay x h (HIX.u y hym));rw [←HCS.u]at HUP HSY;have hy0:decide ((y:Int)<0)=false:=jS (by omega);have hyi:(y:Int)<(n:Int):=by omega
     have hTr:TT<wr.heap.size:=by omega
     have dT: ∀z:xS wr.heap.size wr,z.w.cell? ⟨TT,0,none⟩=some (.slice (some ⟨g,0,none⟩) n ct):=fun z=>(z.2.cell (p:=⟨TT,0,none⟩) hTr).trans ((BI.u.cell (p:=⟨TT,0,none⟩) hTo).trans kTT.u);have RTr:=jA (RT.u.below BI.u)
     have HX:=jA (fun w' (hw': ∃z:xS wr.heap.size wr,w'=z.w)=>(show ∀j u,([xa x,xb x]:List Value)[j]?=some u→w'.cell? ((⟨g,x*2,none⟩:Addr).add j)=some u by
      obtain⟨z,rfl⟩:=hw';exact(RTr.u.below z.2).mid hxn))
     have HY:=jA (fun w' (hw': ∃z:xS wr.heap.size wr,w'=z.w)=>(show ∀j u,([xa y,xb y]:List Value)[j]?=some u→w'.cell? ((⟨g,y*2,none⟩:Addr).add j)=some u by
      obtain⟨z,rfl⟩:=hw';exact(RTr.u.below z.2).mid hyn))
     have QO:=jA (fun w2 (h:Below wr.heap.size wr w2)=>jbd w2 ((RTr.u.frs x hxn).below h) ((RTr.u.frs y hyn).below h) (HST.u x hxn).lens (HST.u y hyn).lens);have HCM:=jA (Kh (HST.u x hxn).ok.1 (HST.u y hyn).ok.1);have HYN:=jA hyn;clear hym hyn;generalize Qe (T x) (T y)=cm at*;refine Seg.xL (fun w'=> ∃x:xS wr.heap.size wr,w'=x.w) [([0,1],2),([3,4,5],6)] [7,8,9,10,11,12,13,14,15,16,17,18,19,20] 21 (by kernel_rfl) (by kernel_rfl) (fun _ _ d _ _ h=>by cases d<;>exact h) (⟨⟨_,(jN _ _).drew⟩,rfl⟩) ?_;simp only [jK,Seg.opAt,Seg.xW];first|go_big_quiet_step (fail)|quiet_step (fail)
     first|go_big_quiet_step (fail)|quiet_step (fail)
     refine jP ?_;intro Kc hK;simp only [Region.wanted,jY];go_wp2_with (with_reducible refine(QC.u).mono ?_;rintro e w1 ⟨rfl,b1⟩);have B1:=jA (yV b1);refine hK _ _ ⟨⟨w1,B1.u⟩,rfl⟩ ?_;clear hK Kc b1 QC;repeat (any_goals (first|go_big_quiet_step (fail)|quiet_step (fail)))
     refine jP ?_;intro Kc hK;first|go_simp|skip
     go_wp2_with (go_at_call 38;refine(QN.u w1 (IL1.u.below B1.u)).mono ?_;rintro e w2 ⟨rfl,rfl⟩);refine hK _ _ ⟨⟨_,B1.u⟩,rfl⟩ ?_;clear hK Kc QN;first|go_big_quiet_step (fail)|quiet_step (fail)
     first|go_big_quiet_step (fail)|quiet_step (fail)
     first|go_big_quiet_step (fail)|quiet_step (fail)
     first|go_big_quiet_step (fail)|quiet_step (fail)
     first|go_big_quiet_step (fail)|quiet_step (fail)
     first|go_big_quiet_step (fail)|quiet_step (fail)
     first|go_big_quiet_step (fail)|quiet_step (fail)
     first|go_big_quiet_step (fail)|quiet_step (fail)
     first|go_big_quiet_step (fail)|quiet_step (fail)
     refine xV rfl 69 _ rfl ⟨g,x*2,none⟩ [xa x,xb x] _ rfl HX.u underlying69 rfl HS.u ?_;first|go_big_quiet_step (fail)|quiet_step (fail)
     first|go_big_quiet_step (fail)|quiet_step (fail)
     first|go_big_quiet_step (fail)|quiet_step (fail)
     refine xV rfl 69 _ rfl ⟨g,y*2,none⟩ [xa y,xb y] _ rfl HY.u underlying69 rfl HS.u ?_;refine jP ?_;by_cases hc:(T y).v<(T x).v
     ·have hc1:decide (0<cm)=true:=jQ (by rcases HCM.u with⟨_,h⟩|⟨_,h⟩|⟨h,_⟩<;>first|omega|(exfalso;grind));have HN2:=jA (HUP.u hc);clear hc HUP HSY HCM;go_wp2_with (first|go_big_skip|(go_at_call 39;refine(QO.u _ B1.u).mono ?_;rintro e w3 ⟨rfl,b3⟩;dsimp only;have B3:=jA (B1.u.trans (b3.mono B1.u.size));clear b3));go_roundw;case rel=>exact⟨i+1,x,by go_num,rfl,by omega,HN2.u,BI.u.trans (B3.u.mono hoi)⟩
      case measure=>simp [intOf];omega
     ·have hc1:decide (0<cm)=false:=jS (by rcases HCM.u with⟨h,_⟩|⟨h,_⟩|⟨_,h⟩<;>first|omega|(exfalso;exact hc h));have HN2:=jA (HSY.u hc);clear hc HUP HSY HCM;go_wp2_with (first|go_big_skip|(go_at_call 39;refine(QO.u _ B1.u).mono ?_;rintro e w3 ⟨rfl,b3⟩;dsimp only;have B3:=jA (B1.u.trans (b3.mono B1.u.size));clear b3));go_roundw;case rel=>exact⟨i+1,y,by go_num,rfl,by omega,HN2.u,BI.u.trans (B3.u.mono hoi)⟩
      case measure=>simp [intOf];omega
 have ek:decide ((i:Int)<(n:Int))=false:=jS (by omega);have hie:i=O.length:=by have:=HON.u;omega
 have HBF:=jA (jfz HD.u HR.u j (k:=k) (by rw [←HL.u,←hie];exact HBK.u));have OW2:=jA (xk OW.u BI.u);have BB:=jA (BR.u.trans (BI.u.mono hBr));have hBw:B≤wr.heap.size:=by omega
 clear hie;rcases HBK.u.sign with rfl|⟨y,rfl⟩
 ·
   have hrj:r.length≤j:=by
    rcases jt j r.length with h|h;·have:=HBF.u.1 h;omega
    ·exact h
   have HE:=jA (show r.take (j+1)=l by rw [HL.u,jc hrj,jc (by omega)]);go_wp2_with fail;go_roundw;case rel=>exact⟨j+1,o,cc,by go_num,by rw [HE.u],by omega,by rw [HE.u];exact OW2.u,BB.u⟩
   case measure=>simp [intOf];omega
 ·
   have hjr:j<r.length:=by
    rcases jt j r.length with h|h;·exact h
    ·have:=HBF.u.2 h;omega
   have HE:=jA (show r.take (j+1)=l++ [y]by
    have h1:=HBF.u.1 hjr;rw [HL.u,jk hjr,show r[j]=y by omega])
   have hy0:decide (0≤(y:Int))=true:=jQ (by omega);clear hjr;go_wp2_with (at_builtin;refine kQ _ rfl (.tmp 48) (.tmp 50) 29 rfl B 3 i0 (.int .i64 0) 1 8 underlying29 JI.u JZ0.u JZ1.u JZ2.u rfl (by decide) (.slice o l.length cc) l.length (xU (xq l)) rfl (OW2.u.alloc _) ⟨wr.heap.size,0,none⟩ 1 1 (xU (xq [y])) rfl rfl (zG (xN rfl)) (Qu _) (by unfold maxLen;omega) (by omega) (by simp;omega) ?_;intro v8 w8 own8 hg8 _;have B8:=jA ((BB.u.alloc hBw _).grown hg8 (by simp;omega) (fun z hz=>(OW2.u.lt z hz.symm.symm).1));obtain⟨o8,c8,rfl,h8⟩:=jjN own8 HE.u (by simp);have H8:=jA h8;clear own8 hg8 h8);go_roundw;case rel=>exact⟨j+1,o8,c8,by go_num,by rw [jX],by omega,H8.u,B8.u⟩
   case measure=>simp [intOf];omega
theorem jja(N:FuncId)(qN:zs N)(c1 c2 c3:Value)(p:Nat→Bool)(n:Nat)(O:List Nat)(oO:Option Addr)(cO NB OB TT base g ct:Nat)(T:Nat→Fr)(xa xb:Nat→Value)(r:List Nat)(w:World)
 (hN:w.cell? ⟨NB,0,none⟩=some (.int .i64 n)) (hNl:NB<w.heap.size) (hO:w.cell? ⟨OB,0,none⟩=some (.slice oO n cO)) (hOl:OB<w.heap.size) (hI:yj w oO (xq O)) (hOn:O.length=n) (hlt: ∀x∈O,x<n) (hd:O.Nodup) (hn:n≤12)
 (hTT:w.cell? ⟨TT,0,none⟩=some (.slice (some ⟨g,0,none⟩) n ct)) (hTl:TT<w.heap.size) (hT:jeg w base g ct n T xa xb) (sT: ∀i,i<n→Sml (T i))
 (hp: ∀w1,Below w.heap.size w w1→ ∀i,i<n→Calls prog N #[.int .i64 (i:Int),c1,c2,c3] w1 fun e w2=>e=.returned (.bool (p i))∧Below w1.heap.size w1 w2) (hr:Rk T O (O.filter p) r):
 Calls prog 37 #[.func (.func N) #[] #[c1,c2,c3],.pointer (some ⟨NB,0,none⟩),.pointer (some ⟨OB,0,none⟩),.pointer (some ⟨TT,0,none⟩)] w fun e w'=> ∃o c,e=.returned (.slice o r.length c)∧w'.ownsRow w.heap.size 3 1 (.slice o r.length c) r.length (xU (xq r))∧Below w.heap.size w w':=by
 unfold zs at qN;have HI:=jA hI;have HT:=jA hT;have HP:=jA hp;have HR:=jA hr;have HD:=jA hd;have HLT:=jA hlt;have HST:=jA sT;have HON:=jA hOn;have HN:=jA hN;have HO:=jA hO;have HTT:=jA hTT;have HS:=jA zM;have hrn:r.length≤n:=by
  rw [hr.perm.length_eq,←hOn];exact kt _ _
 obtain⟨i0,hi,hz0,hz1,hz2⟩:=info_parts KL;have JI:=jA hi;have JZ0:=jA hz0;have JZ1:=jA hz1;have JZ2:=jA hz2;clear hI hT hp hr hd hlt sT hOn hO hTT hi hz0 hz1 hz2;obtain⟨B,hB⟩: ∃B,B=w.heap.size:=⟨_,rfl⟩;have HB:=jA hB;have hNB:NB<B:=by omega
 have hOB:OB<B:=by omega
 have hTB:TT<B:=by omega
 rw [←hB];clear hB;go_enter Tryz.func37,Tryz.ntmps37;go_wp2_with fail;clear hN;go_loopw [11,6] (fun v l wr=> ∃(j:Nat) (o:Option Addr) (cc:Nat),v=.int .i64 j∧l=.slice o (r.take j).length cc∧j≤n∧wr.ownsRow B 3 1 (.slice o (r.take j).length cc) (r.take j).length (xU (xq (r.take j)))∧Below B w wr) (fun v _ _=>n-(intOf v).toNat);case atStart=>exact⟨0,none,0,rfl,rfl,ji _,qA _ _ _ _,by rw [HB.u];exact jN _ _⟩
 case round=>
 obtain⟨j,o,cc,rfl,rfl,hj,how,hb⟩:=hrel;have OW:=jA how;have BR:=jA hb;have hBr:B≤wr.heap.size:=by have:=hb.size;have:=HB.u;omega
 clear how hb;by_cases hjn:j<n;case neg=>
  obtain rfl:j=n:=by omega
  have dk:decide ((j:Int)<(j:Int))=false:=jS (by omega);have HE:=jA (show r.take j=r from jc hrn);go_wp2_with fail;go_ret;exact⟨o,cc,by rw [HE.u];rfl,by have:=OW.u;rw [HE.u]at this;exact this,BR.u⟩
 have dk:decide ((j:Int)<(n:Int))=true:=jQ (by omega);have dk2:decide (j<n)=true:=jQ hjn;obtain⟨wo,hwo⟩: ∃wo:World,wo=wr:=⟨_,rfl⟩;subst hwo;have kO:wo.cell? ⟨OB,0,none⟩=some (.slice oO n cO):=(BR.u.cell (p:=⟨OB,0,none⟩) hOB).trans HO.u;obtain⟨l,hl⟩: ∃l,l=r.take j:=⟨_,rfl⟩;have HL:=jA hl;have hll:l.length≤12:=by rw [hl,jX];omega
 rw [←hl]at OW ⊢;clear hl;obtain⟨o',cc',he,_,hIL⟩:=zz OW.u;rw [yO]at he;obtain⟨rfl,rfl⟩:o=o'∧cc=cc':=by injection he with h1 _ h2;exact⟨h1,h2⟩
 have IL:=jA hIL;have IOr:=jA (HI.u.below (HB.u▸BR.u));have RT:=jA (HT.u.below (HB.u▸BR.u));have kTT:=jA ((BR.u.cell (p:=⟨TT,0,none⟩) hTB).trans HTT.u);have hTo:TT<wo.heap.size:=by omega
 clear he hIL;go_wp2_with fail;clear dk dk2 kO;go_loopw [15,7] (fun v kv wr=> ∃(i:Nat) (k:Int),v=.int .i64 i∧kv=.int .i64 k∧i≤n∧Jz T O (jaK p l O i) k∧Below wo.heap.size wo wr) (fun v _ _=>n-(intOf v).toNat);case atStart=>exact⟨0, -1,rfl,rfl,ji _,Jz.nil _ _,jN _ _⟩
 case round=>
 obtain⟨i,k,rfl,rfl,hi,hbk,hb⟩:=hrel;have HBK:=jA hbk;have BI:=jA hb;have hoi:wo.heap.size≤wr.heap.size:=hb.size;clear hbk hb;by_cases hin:i<n
 ·have ek:decide ((i:Int)<(n:Int))=true:=jQ (by omega);have ek2:decide (i<n)=true:=jQ hin;have eki:(i:Int)<(n:Int):=by omega
  have hiO:i<O.length:=by rw [HON.u];exact hin
  obtain⟨a,hoa,hab,hac⟩:=(IOr.u.below BI.u).cells i (by rw [yO];exact hiO);have hgi:(xq O)[i]'(by rw [yO];exact hiO)=((O[i]:Nat):Int):=by simp [xq]
  rw [hgi]at hac;have hxn:=HLT.u _ (jj hiO);have HCS:=jA (jcX p l O i hiO);have HIX:=jA (fun y (hy:y∈jaK p l O i)=>jfv HD.u hiO hy);have QC:=jA (HP.u wr.drew (show Below w.heap.size w wr.drew from((HB.u▸BR.u:Below w.heap.size w wo).trans (BI.u.mono (by rw [←HB.u];exact hBr))).drew) O[i] hxn);subst hoa;clear hgi;generalize O[i]=x at*;clear hiO;have hxi:(x:Int)<(n:Int):=by omega
  go_upto_region 8 with(fail);clear ek ek2 eki;cases hpx:p x with
  |
   false=>
   rw [hpx]at QC HCS;rw [Bool.false_and,jT (by decide),qD]at HCS;refine Seg.xL (fun w'=> ∃x:xS wr.heap.size wr,w'=x.w) [([0,1],2),([3,4,5],6)] [7,8,9,10,11,12,13,14,15,16,17,18,19,20] 21 (by kernel_rfl) (by kernel_rfl) (fun _ _ d _ _ h=>by cases d<;>exact h) (⟨⟨_,(jN _ _).drew⟩,rfl⟩) ?_;simp only [jK,Seg.opAt,Seg.xW];first|go_big_quiet_step (fail)|quiet_step (fail)
   first|go_big_quiet_step (fail)|quiet_step (fail)
   refine jP ?_;intro Kc hK;simp only [Region.wanted,jY];go_wp2_with (with_reducible refine(QC.u).mono ?_;rintro e w1 ⟨rfl,b1⟩);have B1:=jA (yV b1);refine hK _ _ ⟨⟨w1,B1.u⟩,rfl⟩ ?_;clear hK Kc b1 QC;repeat (any_goals (first|go_big_quiet_step (fail)|quiet_step (fail)))
   refine jP ?_;intro Kc hK;first|go_simp|skip
   refine hK _ _ ⟨⟨w1,B1.u⟩,rfl⟩ ?_;clear hK Kc;repeat (any_goals (first|go_big_quiet_step (fail)|quiet_step (fail)))
   refine jP ?_;go_wp2_with go_big_skip;go_roundw;case rel=>exact⟨i+1,k,by go_num,rfl,by omega,by rw [HCS.u];exact HBK.u,BI.u.trans (B1.u.mono hoi)⟩
   case measure=>simp [intOf];omega
  |
   true=>
   rw [hpx]at QC HCS;rw [Bool.true_and]at HCS;have hbx:decide ((x:Int)∈xq l)=decide (x∈l):=by
    unfold xq;have h1:((x:Int)∈l.map fun i:Nat=>(i:Int))↔x∈l:=by
     rw [jl];exact⟨fun⟨a,ha,e⟩=>by rw [show x=a by omega];exact ha,fun h=>⟨x,h,rfl⟩⟩
    by_cases h:x∈l;·rw [jQ h,jQ (h1.2 h)]
    ·rw [jS h,jS (fun h2=>h (h1.1 h2))]
   have QN:=jA (fun w1 h=>jci o (xq l) cc (x:Int) w1 h (by rw [yO];omega));rw [yO,hbx]at QN;have IL1:=jA (IL.u.below BI.u);clear hbx;generalize decide (x∈l)=bx at*;cases bx with
   |
    true=>
    rw [jT (by decide),qD]at HCS;refine Seg.xL (fun w'=> ∃x:xS wr.heap.size wr,w'=x.w) [([0,1],2),([3,4,5],6)] [7,8,9,10,11,12,13,14,15,16,17,18,19,20] 21 (by kernel_rfl) (by kernel_rfl) (fun _ _ d _ _ h=>by cases d<;>exact h) (⟨⟨_,(jN _ _).drew⟩,rfl⟩) ?_;simp only [jK,Seg.opAt,Seg.xW];first|go_big_quiet_step (fail)|quiet_step (fail)
    first|go_big_quiet_step (fail)|quiet_step (fail)
    refine jP ?_;intro Kc hK;simp only [Region.wanted,jY];go_wp2_with (with_reducible refine(QC.u).mono ?_;rintro e w1 ⟨rfl,b1⟩);have B1:=jA (yV b1);refine hK _ _ ⟨⟨w1,B1.u⟩,rfl⟩ ?_;clear hK Kc b1 QC;repeat (any_goals (first|go_big_quiet_step (fail)|quiet_step (fail)))
    refine jP ?_;intro Kc hK;first|go_simp|skip
    go_wp2_with (go_at_call 38;refine(QN.u w1 (IL1.u.below B1.u)).mono ?_;rintro e w2 ⟨rfl,rfl⟩);refine hK _ _ ⟨⟨_,B1.u⟩,rfl⟩ ?_;clear hK Kc QN;repeat (any_goals (first|go_big_quiet_step (fail)|quiet_step (fail)))
    refine jP ?_;go_wp2_with go_big_skip;go_roundw;case rel=>exact⟨i+1,k,by go_num,rfl,by omega,by rw [HCS.u];exact HBK.u,BI.u.trans (B1.u.mono hoi)⟩
    case measure=>simp [intOf];omega
   |
    false=>
    rw [jR (by decide)]at HCS;rcases HBK.u.sign with rfl|⟨y,rfl⟩
    ·have HN1:=jA (HBK.u.one (by decide) x);rw [←HCS.u]at HN1;refine Seg.xL (fun w'=> ∃x:xS wr.heap.size wr,w'=x.w) [([0,1],2),([3,4,5],6)] [7,8,9,10,11,12,13,14,15,16,17,18,19,20] 21 (by kernel_rfl) (by kernel_rfl) (fun _ _ d _ _ h=>by cases d<;>exact h) (⟨⟨_,(jN _ _).drew⟩,rfl⟩) ?_;simp only [jK,Seg.opAt,Seg.xW];first|go_big_quiet_step (fail)|quiet_step (fail)
     first|go_big_quiet_step (fail)|quiet_step (fail)
     refine jP ?_;intro Kc hK;simp only [Region.wanted,jY];go_wp2_with (with_reducible refine(QC.u).mono ?_;rintro e w1 ⟨rfl,b1⟩);have B1:=jA (yV b1);refine hK _ _ ⟨⟨w1,B1.u⟩,rfl⟩ ?_;clear hK Kc b1 QC;repeat (any_goals (first|go_big_quiet_step (fail)|quiet_step (fail)))
     refine jP ?_;intro Kc hK;first|go_simp|skip
     go_wp2_with (go_at_call 38;refine(QN.u w1 (IL1.u.below B1.u)).mono ?_;rintro e w2 ⟨rfl,rfl⟩);refine hK _ _ ⟨⟨_,B1.u⟩,rfl⟩ ?_;clear hK Kc QN;repeat (any_goals (first|go_big_quiet_step (fail)|quiet_step (fail)))
     refine jP ?_;go_wp2_with go_big_skip;go_roundw;case rel=>exact⟨i+1,x,by go_num,rfl,by omega,HN1.u,BI.u.trans (B1.u.mono hoi)⟩
     case measure=>simp [intOf];omega
    ·have hym:=HBK.u.mem;have hyn:=HLT.u y (qU (kB.1 hym).1);have HUP:=jA (fun h=>HBK.u.up x h);have HSY:=jA (fun h=>HBK.u.stay x h (HIX.u y hym));rw [←HCS.u]at HUP HSY;have hy0:decide ((y:Int)<0)=false:=jS (by omega);have hyi:(y:Int)<(n:Int):=by omega
     have hTr:TT<wr.heap.size:=by omega
     have dT: ∀z:xS wr.heap.size wr,z.w.cell? ⟨TT,0,none⟩=some (.slice (some ⟨g,0,none⟩) n ct):=fun z=>(z.2.cell (p:=⟨TT,0,none⟩) hTr).trans ((BI.u.cell (p:=⟨TT,0,none⟩) hTo).trans kTT.u);have RTr:=jA (RT.u.below BI.u)
     have HX:=jA (fun w' (hw': ∃z:xS wr.heap.size wr,w'=z.w)=>(show ∀j u,([xa x,xb x]:List Value)[j]?=some u→w'.cell? ((⟨g,x*2,none⟩:Addr).add j)=some u by
      obtain⟨z,rfl⟩:=hw';exact(RTr.u.below z.2).mid hxn))
     have HY:=jA (fun w' (hw': ∃z:xS wr.heap.size wr,w'=z.w)=>(show ∀j u,([xa y,xb y]:List Value)[j]?=some u→w'.cell? ((⟨g,y*2,none⟩:Addr).add j)=some u by
      obtain⟨z,rfl⟩:=hw';exact(RTr.u.below z.2).mid hyn))
     have QO:=jA (fun w2 (h:Below wr.heap.size wr w2)=>jbd w2 ((RTr.u.frs x hxn).below h) ((RTr.u.frs y hyn).below h) (HST.u x hxn).lens (HST.u y hyn).lens);have HCM:=jA (Kh (HST.u x hxn).ok.1 (HST.u y hyn).ok.1);have HYN:=jA hyn;clear hym hyn;generalize Qe (T x) (T y)=cm at*;refine Seg.xL (fun w'=> ∃x:xS wr.heap.size wr,w'=x.w) [([0,1],2),([3,4,5],6)] [7,8,9,10,11,12,13,14,15,16,17,18,19,20] 21 (by kernel_rfl) (by kernel_rfl) (fun _ _ d _ _ h=>by cases d<;>exact h) (⟨⟨_,(jN _ _).drew⟩,rfl⟩) ?_;simp only [jK,Seg.opAt,Seg.xW];first|go_big_quiet_step (fail)|quiet_step (fail)
     first|go_big_quiet_step (fail)|quiet_step (fail)
     refine jP ?_;intro Kc hK;simp only [Region.wanted,jY];go_wp2_with (with_reducible refine(QC.u).mono ?_;rintro e w1 ⟨rfl,b1⟩);have B1:=jA (yV b1);refine hK _ _ ⟨⟨w1,B1.u⟩,rfl⟩ ?_;clear hK Kc b1 QC;repeat (any_goals (first|go_big_quiet_step (fail)|quiet_step (fail)))
     refine jP ?_;intro Kc hK;first|go_simp|skip
     go_wp2_with (go_at_call 38;refine(QN.u w1 (IL1.u.below B1.u)).mono ?_;rintro e w2 ⟨rfl,rfl⟩);refine hK _ _ ⟨⟨_,B1.u⟩,rfl⟩ ?_;clear hK Kc QN;first|go_big_quiet_step (fail)|quiet_step (fail)
     first|go_big_quiet_step (fail)|quiet_step (fail)
     first|go_big_quiet_step (fail)|quiet_step (fail)
     first|go_big_quiet_step (fail)|quiet_step (fail)
     first|go_big_quiet_step (fail)|quiet_step (fail)
     first|go_big_quiet_step (fail)|quiet_step (fail)
     first|go_big_quiet_step (fail)|quiet_step (fail)
     first|go_big_quiet_step (fail)|quiet_step (fail)
     first|go_big_quiet_step (fail)|quiet_step (fail)
     refine xV rfl 69 _ rfl ⟨g,x*2,none⟩ [xa x,xb x] _ rfl HX.u underlying69 rfl HS.u ?_;first|go_big_quiet_step (fail)|quiet_step (fail)
     first|go_big_quiet_step (fail)|quiet_step (fail)
     first|go_big_quiet_step (fail)|quiet_step (fail)
     refine xV rfl 69 _ rfl ⟨g,y*2,none⟩ [xa y,xb y] _ rfl HY.u underlying69 rfl HS.u ?_;refine jP ?_;by_cases hc:(T y).v<(T x).v
     ·have hc1:decide (0<cm)=true:=jQ (by rcases HCM.u with⟨_,h⟩|⟨_,h⟩|⟨h,_⟩<;>first|omega|(exfalso;grind));have HN2:=jA (HUP.u hc);clear hc HUP HSY HCM;go_wp2_with (first|go_big_skip|(go_at_call 39;refine(QO.u _ B1.u).mono ?_;rintro e w3 ⟨rfl,b3⟩;dsimp only;have B3:=jA (B1.u.trans (b3.mono B1.u.size));clear b3));go_roundw;case rel=>exact⟨i+1,x,by go_num,rfl,by omega,HN2.u,BI.u.trans (B3.u.mono hoi)⟩
      case measure=>simp [intOf];omega
     ·have hc1:decide (0<cm)=false:=jS (by rcases HCM.u with⟨h,_⟩|⟨h,_⟩|⟨_,h⟩<;>first|omega|(exfalso;exact hc h));have HN2:=jA (HSY.u hc);clear hc HUP HSY HCM;go_wp2_with (first|go_big_skip|(go_at_call 39;refine(QO.u _ B1.u).mono ?_;rintro e w3 ⟨rfl,b3⟩;dsimp only;have B3:=jA (B1.u.trans (b3.mono B1.u.size));clear b3));go_roundw;case rel=>exact⟨i+1,y,by go_num,rfl,by omega,HN2.u,BI.u.trans (B3.u.mono hoi)⟩
      case measure=>simp [intOf];omega
 have ek:decide ((i:Int)<(n:Int))=false:=jS (by omega);have hie:i=O.length:=by have:=HON.u;omega
 have HBF:=jA (jfz HD.u HR.u j (k:=k) (by rw [←HL.u,←hie];exact HBK.u));have OW2:=jA (xk OW.u BI.u);have BB:=jA (BR.u.trans (BI.u.mono hBr));have hBw:B≤wr.heap.size:=by omega
 clear hie;rcases HBK.u.sign with rfl|⟨y,rfl⟩
 ·
   have hrj:r.length≤j:=by
    rcases jt j r.length with h|h;·have:=HBF.u.1 h;omega
    ·exact h
   have HE:=jA (show r.take (j+1)=l by rw [HL.u,jc hrj,jc (by omega)]);go_wp2_with fail;go_roundw;case rel=>exact⟨j+1,o,cc,by go_num,by rw [HE.u],by omega,by rw [HE.u];exact OW2.u,BB.u⟩
   case measure=>simp [intOf];omega
 ·
   have hjr:j<r.length:=by
    rcases jt j r.length with h|h;·exact h
    ·have:=HBF.u.2 h;omega
   have HE:=jA (show r.take (j+1)=l++ [y]by
    have h1:=HBF.u.1 hjr;rw [HL.u,jk hjr,show r[j]=y by omega])
   have hy0:decide (0≤(y:Int))=true:=jQ (by omega);clear hjr;go_wp2_with (at_builtin;refine kQ _ rfl (.tmp 48) (.tmp 50) 29 rfl B 3 i0 (.int .i64 0) 1 8 underlying29 JI.u JZ0.u JZ1.u JZ2.u rfl (by decide) (.slice o l.length cc) l.length (xU (xq l)) rfl (OW2.u.alloc _) ⟨wr.heap.size,0,none⟩ 1 1 (xU (xq [y])) rfl rfl (zG (xN rfl)) (Qu _) (by unfold maxLen;omega) (by omega) (by simp;omega) ?_;intro v8 w8 own8 hg8 _;have B8:=jA ((BB.u.alloc hBw _).grown hg8 (by simp;omega) (fun z hz=>(OW2.u.lt z hz.symm.symm).1));obtain⟨o8,c8,rfl,h8⟩:=jjN own8 HE.u (by simp);have H8:=jA h8;clear own8 hg8 h8);go_roundw;case rel=>exact⟨j+1,o8,c8,by go_num,by rw [jX],by omega,H8.u,B8.u⟩
   case measure=>simp [intOf];omega
end Go.Proofs.YtnohcdpnnhmpfaaGreatDoor.TR
