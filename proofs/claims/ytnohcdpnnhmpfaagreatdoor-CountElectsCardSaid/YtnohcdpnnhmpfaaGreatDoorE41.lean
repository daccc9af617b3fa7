/- Chapter 13, the reference's Transfer: best (Transfer$1). -/
import Derived.Test.YtnohcdpnnhmpfaaGreatDoorE40
set_option linter.all false
set_option maxRecDepth 100000
set_option maxHeartbeats 4000000
namespace Go.Proofs.YtnohcdpnnhmpfaaGreatDoor.TR
open Go.RowKit Tryz ML FRP AU CT FM
theorem jeA(N:FuncId)(qN:zh N)(c1:n0)(p:Nat→Bool)(n:Nat)(O:E0)(oO:s0)(cO NB OB TT base g ct:Nat)(T:Nat→Fr)(xa xb:Nat→n0)(r:E0)(w:m0)
 (hN:w.cell? ⟨NB,0,none⟩=some (.int .i64 n)) (oG:NB<w.heap.size) (hO:w.cell? ⟨OB,0,none⟩=some (.slice oO n cO)) (Oy:OB<w.heap.size) (hI:yW w oO (yK O)) (BU:O.length=n) (ns: ∀x∈O,x<n) (hd:O.Nodup) (hn:n≤12)
 (MD:w.cell? ⟨TT,0,none⟩=some (.slice (some ⟨g,0,none⟩) n ct)) (fD:TT<w.heap.size) (hT:jfP w base g ct n T xa xb) (sT: ∀i,i<n→Sml (T i))
 (hp: ∀w1,O0 w.heap.size w w1→ ∀i,i<n→Calls prog N #[.int .i64 (i:Int),c1] w1 fun e w2=>e=.returned (.bool (p i))∧O0 w1.heap.size w1 w2) (hr:Rk T O (O.filter p) r):
 Calls prog 37 #[.func (.func N) #[] #[c1],.pointer (some ⟨NB,0,none⟩),.pointer (some ⟨OB,0,none⟩),.pointer (some ⟨TT,0,none⟩)] w fun e w'=> ∃o c,e=.returned (.slice o r.length c)∧w'.ownsRow w.heap.size 3 1 (.slice o r.length c) r.length (xq (yK r))∧O0 w.heap.size w w':=by
 unfold zh at qN;have HI:=jA hI;have HT:=jA hT;have HP:=jA hp;have HR:=jA hr;have HD:=jA hd;have bX:=jA ns;have av:=jA sT;have HON:=jA BU;have HO:=jA hO;have fz:=jA MD;have HS:=jA zu;have gT:r.length≤n:=by
  rw [hr.perm.length_eq,←BU];exact qJ _ _
 obtain⟨i0,hi,Is,Ts,Ns⟩:=info_parts KC;have JI:=jA hi;have SA:=jA Is;have OA:=jA Ts;have MA:=jA Ns;clear hI hT hp hr hd ns sT BU hO MD hi Is Ts Ns;obtain⟨B,hB⟩: ∃B,B=w.heap.size:=⟨_,rfl⟩;have HB:=jA hB;have IM:NB<B:=by omega
 have GM:OB<B:=by omega
 have hTB:TT<B:=by omega
 rw [←hB];clear hB;go_enter Tryz.func37,Tryz.ntmps37;go_wp2_with fail;clear hN;go_loopw [11,6] (fun v l wr=> ∃(j:Nat) (o:s0) (cc:Nat),v=.int .i64 j∧l=.slice o (r.take j).length cc∧j≤n∧wr.ownsRow B 3 1 (.slice o (r.take j).length cc) (r.take j).length (xq (yK (r.take j)))∧O0 B w wr) (fun v _ _=>n-(intOf v).toNat);case atStart=>exact⟨0,none,0,rfl,rfl,ja _,kg _ _ _ _,by rw [HB.u];exact jN _ _⟩
 case round=>
 obtain⟨j,o,cc,rfl,rfl,hj,BQ,hb⟩:=hrel;have OW:=jA BQ;have BR:=jA hb;have Lt:B≤wr.heap.size:=by have:=hb.size;have:=HB.u;omega
 clear BQ hb;by_cases az:j<n;case neg=>
  obtain rfl:j=n:=by omega
  have dk:decide ((j:Int)<(j:Int))=false:=jS (by omega);have HE:=jA (show r.take j=r from je gT);go_wp2_with fail;go_ret;exact⟨o,cc,by rw [HE.u];rfl,by have:=OW.u;rw [HE.u]at this;exact this,BR.u⟩
 have dk:decide ((j:Int)<(n:Int))=true:=jT (by omega);have Ms:decide (j<n)=true:=jT az;obtain⟨wo,hwo⟩: ∃wo:m0,wo=wr:=⟨_,rfl⟩;subst hwo;have kO:wo.cell? ⟨OB,0,none⟩=some (.slice oO n cO):=(BR.u.cell (p:=⟨OB,0,none⟩) GM).trans HO.u;obtain⟨l,hl⟩: ∃l,l=r.take j:=⟨_,rfl⟩;have HL:=jA hl;have WC:l.length≤12:=by rw [hl,jf];omega
 rw [←hl]at OW ⊢;clear hl;obtain⟨o',cc',he,_,hIL⟩:=zT OW.u;rw [yn]at he;obtain⟨rfl,rfl⟩:o=o'∧cc=cc':=by injection he with h1 _ h2;exact⟨h1,h2⟩
 have IL:=jA hIL;have Oz:=jA (HI.u.below (HB.u▸BR.u));have RT:=jA (HT.u.below (HB.u▸BR.u));have kTT:=jA ((BR.u.cell (p:=⟨TT,0,none⟩) hTB).trans fz.u);have tZ:TT<wo.heap.size:=by omega
 clear he hIL;go_wp2_with fail;clear dk Ms kO;go_loopw [15,7] (fun v kv wr=> ∃(i:Nat) (k:Int),v=.int .i64 i∧kv=.int .i64 k∧i≤n∧Kg T O (jbR p l O i) k∧O0 wo.heap.size wo wr) (fun v _ _=>n-(intOf v).toNat);case atStart=>exact⟨0, -1,rfl,rfl,ja _,Kg.nil _ _,jN _ _⟩
 case round=>
 obtain⟨i,k,rfl,rfl,hi,mG,hb⟩:=hrel;have NC:=jA mG;have BI:=jA hb;have LG:wo.heap.size≤wr.heap.size:=hb.size;clear mG hb;by_cases bt:i<n
 ·obtain⟨ek,EC,uR⟩:=Go.yD bt
  have DD:i<O.length:=by rw [HON.u];exact bt
  obtain⟨a,Us,eu,Ft⟩:=(Oz.u.below BI.u).cells i (by rw [yn];exact DD);have hgi:(yK O)[i]'(by rw [yn];exact DD)=((O[i]:Nat):Int):=by simp [yK]
  rw [hgi]at Ft;have pD:=bX.u _ (jb DD);have Wv:=jA (jex p l O i DD);have iX:=jA (fun y (hy:y∈jbR p l O i)=>jhl HD.u DD hy);have QC:=jA (HP.u wr.drew (show O0 w.heap.size w wr.drew from((HB.u▸BR.u:O0 w.heap.size w wo).trans (BI.u.mono (by rw [←HB.u];exact Lt))).drew) O[i] pD);subst Us;clear hgi;generalize O[i]=x at*;clear DD;have hxi:(x:Int)<(n:Int):=by omega
  go_upto_region 8 with(fail);clear ek EC uR;cases hpx:p x with
  |
   false=>
   rw [hpx]at QC Wv;rw [Bool.false_and,jQ (by decide),qG]at Wv;refine Seg.xf (fun w'=> ∃x:xj wr.heap.size wr,w'=x.w) [([0,1],2),([3,4,5],6)] [7,8,9,10,11,12,13,14,15,16,17,18,19,20] 21 (by kernel_rfl) (by kernel_rfl) (fun _ _ d _ _ h=>by cases d<;>exact h) (⟨⟨_,(jN _ _).drew⟩,rfl⟩) ?_;simp only [jK,Seg.opAt,Seg.xu];iterate 2 first|go_big_quiet_step (fail)|quiet_step (fail)
   refine jR ?_;intro Kc hK;simp only [Region.wanted,jY];go_wp2_with (with_reducible refine(QC.u).mono ?_;rintro e w1 ⟨rfl,b1⟩);have B1:=jA (yq b1);refine hK _ _ ⟨⟨w1,B1.u⟩,rfl⟩ ?_;clear hK Kc b1 QC;repeat (any_goals (first|go_big_quiet_step (fail)|quiet_step (fail)))
   refine jR ?_;intro Kc hK;first|go_simp|skip
   refine hK _ _ ⟨⟨w1,B1.u⟩,rfl⟩ ?_;clear hK Kc;repeat (any_goals (first|go_big_quiet_step (fail)|quiet_step (fail)))
   refine jR ?_;go_wp2_with go_big_skip;go_roundw;case rel=>exact⟨i+1,k,by go_num,rfl,by omega,by rw [Wv.u];exact NC.u,BI.u.trans (B1.u.mono LG)⟩
   case measure=>simp [intOf];omega
  |
   true=>
   rw [hpx]at QC Wv;rw [Bool.true_and]at Wv;have wM:decide ((x:Int)∈yK l)=decide (x∈l):=by
    unfold yK;have h1:((x:Int)∈l.map fun i:Nat=>(i:Int))↔x∈l:=by
     rw [jo];exact⟨fun⟨a,ha,e⟩=>by rw [show x=a by omega];exact ha,fun h=>⟨x,h,rfl⟩⟩
    by_cases h:x∈l;·rw [jT h,jT (h1.2 h)]
    ·rw [jS h,jS (fun h2=>h (h1.1 h2))]
   have QN:=jA (fun w1 h=>jaP o (yK l) cc (x:Int) w1 h (by rw [yn];omega));rw [yn,wM]at QN;have sW:=jA (IL.u.below BI.u);clear wM;generalize decide (x∈l)=bx at*;cases bx with
   |
    true=>
    rw [jQ (by decide),qG]at Wv;refine Seg.xf (fun w'=> ∃x:xj wr.heap.size wr,w'=x.w) [([0,1],2),([3,4,5],6)] [7,8,9,10,11,12,13,14,15,16,17,18,19,20] 21 (by kernel_rfl) (by kernel_rfl) (fun _ _ d _ _ h=>by cases d<;>exact h) (⟨⟨_,(jN _ _).drew⟩,rfl⟩) ?_;simp only [jK,Seg.opAt,Seg.xu];iterate 2 first|go_big_quiet_step (fail)|quiet_step (fail)
    refine jR ?_;intro Kc hK;simp only [Region.wanted,jY];go_wp2_with (with_reducible refine(QC.u).mono ?_;rintro e w1 ⟨rfl,b1⟩);have B1:=jA (yq b1);refine hK _ _ ⟨⟨w1,B1.u⟩,rfl⟩ ?_;clear hK Kc b1 QC;repeat (any_goals (first|go_big_quiet_step (fail)|quiet_step (fail)))
    refine jR ?_;intro Kc hK;first|go_simp|skip
    go_wp2_with (go_at_call 38;refine(QN.u w1 (sW.u.below B1.u)).mono ?_;rintro e w2 ⟨rfl,rfl⟩);refine hK _ _ ⟨⟨_,B1.u⟩,rfl⟩ ?_;clear hK Kc QN;repeat (any_goals (first|go_big_quiet_step (fail)|quiet_step (fail)))
    refine jR ?_;go_wp2_with go_big_skip;go_roundw;case rel=>exact⟨i+1,k,by go_num,rfl,by omega,by rw [Wv.u];exact NC.u,BI.u.trans (B1.u.mono LG)⟩
    case measure=>simp [intOf];omega
   |
    false=>
    rw [jP (by decide)]at Wv;rcases NC.u.sign with rfl|⟨y,rfl⟩
    ·have DP:=jA (NC.u.one (by decide) x);rw [←Wv.u]at DP;refine Seg.xf (fun w'=> ∃x:xj wr.heap.size wr,w'=x.w) [([0,1],2),([3,4,5],6)] [7,8,9,10,11,12,13,14,15,16,17,18,19,20] 21 (by kernel_rfl) (by kernel_rfl) (fun _ _ d _ _ h=>by cases d<;>exact h) (⟨⟨_,(jN _ _).drew⟩,rfl⟩) ?_;simp only [jK,Seg.opAt,Seg.xu];iterate 2 first|go_big_quiet_step (fail)|quiet_step (fail)
     refine jR ?_;intro Kc hK;simp only [Region.wanted,jY];go_wp2_with (with_reducible refine(QC.u).mono ?_;rintro e w1 ⟨rfl,b1⟩);have B1:=jA (yq b1);refine hK _ _ ⟨⟨w1,B1.u⟩,rfl⟩ ?_;clear hK Kc b1 QC;repeat (any_goals (first|go_big_quiet_step (fail)|quiet_step (fail)))
     refine jR ?_;intro Kc hK;first|go_simp|skip
     go_wp2_with (go_at_call 38;refine(QN.u w1 (sW.u.below B1.u)).mono ?_;rintro e w2 ⟨rfl,rfl⟩);refine hK _ _ ⟨⟨_,B1.u⟩,rfl⟩ ?_;clear hK Kc QN;repeat (any_goals (first|go_big_quiet_step (fail)|quiet_step (fail)))
     refine jR ?_;go_wp2_with go_big_skip;go_roundw;case rel=>exact⟨i+1,x,by go_num,rfl,by omega,DP.u,BI.u.trans (B1.u.mono LG)⟩
     case measure=>simp [intOf];omega
    ·have NS:=NC.u.mem;have SH:=bX.u y (qR (jz.1 NS).1);have tP:=jA (fun h=>NC.u.up x h);have wP:=jA (fun h=>NC.u.stay x h (iX.u y NS));rw [←Wv.u]at tP wP;have Uv:decide ((y:Int)<0)=false:=jS (by omega);have hyi:(y:Int)<(n:Int):=by omega
     have hTr:TT<wr.heap.size:=by omega
     have dT: ∀z:xj wr.heap.size wr,z.w.cell? ⟨TT,0,none⟩=some (.slice (some ⟨g,0,none⟩) n ct):=fun z=>(z.2.cell (p:=⟨TT,0,none⟩) hTr).trans ((BI.u.cell (p:=⟨TT,0,none⟩) tZ).trans kTT.u);have rP:=jA (RT.u.below BI.u)
     have HX:=jA (fun w' (Tt: ∃z:xj wr.heap.size wr,w'=z.w)=>(show ∀j u,([xa x,xb x]:A0)[j]?=some u→w'.cell? ((⟨g,x*2,none⟩:Addr).add j)=some u by
      obtain⟨z,rfl⟩:=Tt;exact(rP.u.below z.2).mid pD))
     have HY:=jA (fun w' (Tt: ∃z:xj wr.heap.size wr,w'=z.w)=>(show ∀j u,([xa y,xb y]:A0)[j]?=some u→w'.cell? ((⟨g,y*2,none⟩:Addr).add j)=some u by
      obtain⟨z,rfl⟩:=Tt;exact(rP.u.below z.2).mid SH))
     have QO:=jA (fun w2 (h:O0 wr.heap.size wr w2)=>jco w2 ((rP.u.frs x pD).below h) ((rP.u.frs y SH).below h) (av.u x pD).lens (av.u y SH).lens);have FH:=jA (Qb (av.u x pD).ok.1 (av.u y SH).ok.1);clear NS SH;generalize VM (T x) (T y)=cm at*;refine Seg.xf (fun w'=> ∃x:xj wr.heap.size wr,w'=x.w) [([0,1],2),([3,4,5],6)] [7,8,9,10,11,12,13,14,15,16,17,18,19,20] 21 (by kernel_rfl) (by kernel_rfl) (fun _ _ d _ _ h=>by cases d<;>exact h) (⟨⟨_,(jN _ _).drew⟩,rfl⟩) ?_;simp only [jK,Seg.opAt,Seg.xu];iterate 2 first|go_big_quiet_step (fail)|quiet_step (fail)
     refine jR ?_;intro Kc hK;simp only [Region.wanted,jY];go_wp2_with (with_reducible refine(QC.u).mono ?_;rintro e w1 ⟨rfl,b1⟩);have B1:=jA (yq b1);refine hK _ _ ⟨⟨w1,B1.u⟩,rfl⟩ ?_;clear hK Kc b1 QC;repeat (any_goals (first|go_big_quiet_step (fail)|quiet_step (fail)))
     refine jR ?_;intro Kc hK;first|go_simp|skip
     go_wp2_with (go_at_call 38;refine(QN.u w1 (sW.u.below B1.u)).mono ?_;rintro e w2 ⟨rfl,rfl⟩);refine hK _ _ ⟨⟨_,B1.u⟩,rfl⟩ ?_;clear hK Kc QN;iterate 9 first|go_big_quiet_step (fail)|quiet_step (fail)
     refine xx rfl 69 _ rfl ⟨g,x*2,none⟩ [xa x,xb x] _ rfl HX.u underlying69 rfl HS.u ?_;iterate 3 first|go_big_quiet_step (fail)|quiet_step (fail)
     refine xx rfl 69 _ rfl ⟨g,y*2,none⟩ [xa y,xb y] _ rfl HY.u underlying69 rfl HS.u ?_;refine jR ?_;by_cases hc:(T y).v<(T x).v
     ·have uu:decide (0<cm)=true:=jT (by rcases FH.u with⟨_,h⟩|⟨_,h⟩|⟨h,_⟩<;>first|omega|(exfalso;grind));have LF:=jA (tP.u hc);clear hc tP wP FH;go_wp2_with (first|go_big_skip|(go_at_call 39;refine(QO.u _ B1.u).mono ?_;rintro e w3 ⟨rfl,b3⟩;dsimp only;have B3:=jA (B1.u.trans (b3.mono B1.u.size));clear b3));go_roundw;case rel=>exact⟨i+1,x,by go_num,rfl,by omega,LF.u,BI.u.trans (B3.u.mono LG)⟩
      case measure=>simp [intOf];omega
     ·have uu:decide (0<cm)=false:=jS (by rcases FH.u with⟨h,_⟩|⟨h,_⟩|⟨_,h⟩<;>first|omega|(exfalso;exact hc h));have LF:=jA (wP.u hc);clear hc tP wP FH;go_wp2_with (first|go_big_skip|(go_at_call 39;refine(QO.u _ B1.u).mono ?_;rintro e w3 ⟨rfl,b3⟩;dsimp only;have B3:=jA (B1.u.trans (b3.mono B1.u.size));clear b3));go_roundw;case rel=>exact⟨i+1,y,by go_num,rfl,by omega,LF.u,BI.u.trans (B3.u.mono LG)⟩
      case measure=>simp [intOf];omega
 have ek:decide ((i:Int)<(n:Int))=false:=jS (by omega);have AC:i=O.length:=by have:=HON.u;omega
 have IH:=jA (jhp HD.u HR.u j (k:=k) (by rw [←HL.u,←AC];exact NC.u));have nW:=jA (yA OW.u BI.u);have BB:=jA (BR.u.trans (BI.u.mono Lt));have wK:B≤wr.heap.size:=by omega
 clear AC;rcases NC.u.sign with rfl|⟨y,rfl⟩
 ·
   have hrj:r.length≤j:=by
    rcases jw j r.length with h|h;·have:=IH.u.1 h;omega
    ·exact h
   have HE:=jA (show r.take (j+1)=l by rw [HL.u,je hrj,je (by omega)]);go_wp2_with fail;go_roundw;case rel=>exact⟨j+1,o,cc,by go_num,by rw [HE.u],by omega,by rw [HE.u];exact nW.u,BB.u⟩
   case measure=>simp [intOf];omega
 ·
   have Lx:j<r.length:=by
    rcases jw j r.length with h|h;·exact h
    ·have:=IH.u.2 h;omega
   have HE:=jA (show r.take (j+1)=l++ [y]by
    have h1:=IH.u.1 Lx;rw [HL.u,jh Lx,show r[j]=y by omega])
   have Uv:decide (0≤(y:Int))=true:=jT (by omega);clear Lx;go_wp2_with (at_builtin;refine kV _ rfl (.tmp 48) (.tmp 50) 29 rfl B 3 i0 (.int .i64 0) 1 8 underlying29 JI.u SA.u OA.u MA.u rfl (by decide) (.slice o l.length cc) l.length (xq (yK l)) rfl (nW.u.alloc _) ⟨wr.heap.size,0,none⟩ 1 1 (xq (yK [y])) rfl rfl (zK (xh rfl)) (Kb _) (by unfold maxLen;omega) (by omega) (by simp;omega) ?_;intro v8 w8 SI hg8 _;have B8:=jA ((BB.u.alloc wK _).grown hg8 (by simp;omega) (fun z hz=>(nW.u.lt z hz.symm.symm).1));obtain⟨o8,c8,rfl,h8⟩:=jmd SI HE.u (by simp);have H8:=jA h8;clear SI hg8 h8);go_roundw;case rel=>exact⟨j+1,o8,c8,by go_num,by rw [jf],by omega,H8.u,B8.u⟩
   case measure=>simp [intOf];omega
theorem jlj(N:FuncId)(qN:zh N)(c1 c2 c3:n0)(p:Nat→Bool)(n:Nat)(O:E0)(oO:s0)(cO NB OB TT base g ct:Nat)(T:Nat→Fr)(xa xb:Nat→n0)(r:E0)(w:m0)
 (hN:w.cell? ⟨NB,0,none⟩=some (.int .i64 n)) (oG:NB<w.heap.size) (hO:w.cell? ⟨OB,0,none⟩=some (.slice oO n cO)) (Oy:OB<w.heap.size) (hI:yW w oO (yK O)) (BU:O.length=n) (ns: ∀x∈O,x<n) (hd:O.Nodup) (hn:n≤12)
 (MD:w.cell? ⟨TT,0,none⟩=some (.slice (some ⟨g,0,none⟩) n ct)) (fD:TT<w.heap.size) (hT:jfP w base g ct n T xa xb) (sT: ∀i,i<n→Sml (T i))
 (hp: ∀w1,O0 w.heap.size w w1→ ∀i,i<n→Calls prog N #[.int .i64 (i:Int),c1,c2,c3] w1 fun e w2=>e=.returned (.bool (p i))∧O0 w1.heap.size w1 w2) (hr:Rk T O (O.filter p) r):
 Calls prog 37 #[.func (.func N) #[] #[c1,c2,c3],.pointer (some ⟨NB,0,none⟩),.pointer (some ⟨OB,0,none⟩),.pointer (some ⟨TT,0,none⟩)] w fun e w'=> ∃o c,e=.returned (.slice o r.length c)∧w'.ownsRow w.heap.size 3 1 (.slice o r.length c) r.length (xq (yK r))∧O0 w.heap.size w w':=by
 unfold zh at qN;have HI:=jA hI;have HT:=jA hT;have HP:=jA hp;have HR:=jA hr;have HD:=jA hd;have bX:=jA ns;have av:=jA sT;have HON:=jA BU;have HO:=jA hO;have fz:=jA MD;have HS:=jA zu;have gT:r.length≤n:=by
  rw [hr.perm.length_eq,←BU];exact qJ _ _
 obtain⟨i0,hi,Is,Ts,Ns⟩:=info_parts KC;have JI:=jA hi;have SA:=jA Is;have OA:=jA Ts;have MA:=jA Ns;clear hI hT hp hr hd ns sT BU hO MD hi Is Ts Ns;obtain⟨B,hB⟩: ∃B,B=w.heap.size:=⟨_,rfl⟩;have HB:=jA hB;have IM:NB<B:=by omega
 have GM:OB<B:=by omega
 have hTB:TT<B:=by omega
 rw [←hB];clear hB;go_enter Tryz.func37,Tryz.ntmps37;go_wp2_with fail;clear hN;go_loopw [11,6] (fun v l wr=> ∃(j:Nat) (o:s0) (cc:Nat),v=.int .i64 j∧l=.slice o (r.take j).length cc∧j≤n∧wr.ownsRow B 3 1 (.slice o (r.take j).length cc) (r.take j).length (xq (yK (r.take j)))∧O0 B w wr) (fun v _ _=>n-(intOf v).toNat);case atStart=>exact⟨0,none,0,rfl,rfl,ja _,kg _ _ _ _,by rw [HB.u];exact jN _ _⟩
 case round=>
 obtain⟨j,o,cc,rfl,rfl,hj,BQ,hb⟩:=hrel;have OW:=jA BQ;have BR:=jA hb;have Lt:B≤wr.heap.size:=by have:=hb.size;have:=HB.u;omega
 clear BQ hb;by_cases az:j<n;case neg=>
  obtain rfl:j=n:=by omega
  have dk:decide ((j:Int)<(j:Int))=false:=jS (by omega);have HE:=jA (show r.take j=r from je gT);go_wp2_with fail;go_ret;exact⟨o,cc,by rw [HE.u];rfl,by have:=OW.u;rw [HE.u]at this;exact this,BR.u⟩
 have dk:decide ((j:Int)<(n:Int))=true:=jT (by omega);have Ms:decide (j<n)=true:=jT az;obtain⟨wo,hwo⟩: ∃wo:m0,wo=wr:=⟨_,rfl⟩;subst hwo;have kO:wo.cell? ⟨OB,0,none⟩=some (.slice oO n cO):=(BR.u.cell (p:=⟨OB,0,none⟩) GM).trans HO.u;obtain⟨l,hl⟩: ∃l,l=r.take j:=⟨_,rfl⟩;have HL:=jA hl;have WC:l.length≤12:=by rw [hl,jf];omega
 rw [←hl]at OW ⊢;clear hl;obtain⟨o',cc',he,_,hIL⟩:=zT OW.u;rw [yn]at he;obtain⟨rfl,rfl⟩:o=o'∧cc=cc':=by injection he with h1 _ h2;exact⟨h1,h2⟩
 have IL:=jA hIL;have Oz:=jA (HI.u.below (HB.u▸BR.u));have RT:=jA (HT.u.below (HB.u▸BR.u));have kTT:=jA ((BR.u.cell (p:=⟨TT,0,none⟩) hTB).trans fz.u);have tZ:TT<wo.heap.size:=by omega
 clear he hIL;go_wp2_with fail;clear dk Ms kO;go_loopw [15,7] (fun v kv wr=> ∃(i:Nat) (k:Int),v=.int .i64 i∧kv=.int .i64 k∧i≤n∧Kg T O (jbR p l O i) k∧O0 wo.heap.size wo wr) (fun v _ _=>n-(intOf v).toNat);case atStart=>exact⟨0, -1,rfl,rfl,ja _,Kg.nil _ _,jN _ _⟩
 case round=>
 obtain⟨i,k,rfl,rfl,hi,mG,hb⟩:=hrel;have NC:=jA mG;have BI:=jA hb;have LG:wo.heap.size≤wr.heap.size:=hb.size;clear mG hb;by_cases bt:i<n
 ·obtain⟨ek,EC,uR⟩:=Go.yD bt
  have DD:i<O.length:=by rw [HON.u];exact bt
  obtain⟨a,Us,eu,Ft⟩:=(Oz.u.below BI.u).cells i (by rw [yn];exact DD);have hgi:(yK O)[i]'(by rw [yn];exact DD)=((O[i]:Nat):Int):=by simp [yK]
  rw [hgi]at Ft;have pD:=bX.u _ (jb DD);have Wv:=jA (jex p l O i DD);have iX:=jA (fun y (hy:y∈jbR p l O i)=>jhl HD.u DD hy);have QC:=jA (HP.u wr.drew (show O0 w.heap.size w wr.drew from((HB.u▸BR.u:O0 w.heap.size w wo).trans (BI.u.mono (by rw [←HB.u];exact Lt))).drew) O[i] pD);subst Us;clear hgi;generalize O[i]=x at*;clear DD;have hxi:(x:Int)<(n:Int):=by omega
  go_upto_region 8 with(fail);clear ek EC uR;cases hpx:p x with
  |
   false=>
   rw [hpx]at QC Wv;rw [Bool.false_and,jQ (by decide),qG]at Wv;refine Seg.xf (fun w'=> ∃x:xj wr.heap.size wr,w'=x.w) [([0,1],2),([3,4,5],6)] [7,8,9,10,11,12,13,14,15,16,17,18,19,20] 21 (by kernel_rfl) (by kernel_rfl) (fun _ _ d _ _ h=>by cases d<;>exact h) (⟨⟨_,(jN _ _).drew⟩,rfl⟩) ?_;simp only [jK,Seg.opAt,Seg.xu];iterate 2 first|go_big_quiet_step (fail)|quiet_step (fail)
   refine jR ?_;intro Kc hK;simp only [Region.wanted,jY];go_wp2_with (with_reducible refine(QC.u).mono ?_;rintro e w1 ⟨rfl,b1⟩);have B1:=jA (yq b1);refine hK _ _ ⟨⟨w1,B1.u⟩,rfl⟩ ?_;clear hK Kc b1 QC;repeat (any_goals (first|go_big_quiet_step (fail)|quiet_step (fail)))
   refine jR ?_;intro Kc hK;first|go_simp|skip
   refine hK _ _ ⟨⟨w1,B1.u⟩,rfl⟩ ?_;clear hK Kc;repeat (any_goals (first|go_big_quiet_step (fail)|quiet_step (fail)))
   refine jR ?_;go_wp2_with go_big_skip;go_roundw;case rel=>exact⟨i+1,k,by go_num,rfl,by omega,by rw [Wv.u];exact NC.u,BI.u.trans (B1.u.mono LG)⟩
   case measure=>simp [intOf];omega
  |
   true=>
   rw [hpx]at QC Wv;rw [Bool.true_and]at Wv;have wM:decide ((x:Int)∈yK l)=decide (x∈l):=by
    unfold yK;have h1:((x:Int)∈l.map fun i:Nat=>(i:Int))↔x∈l:=by
     rw [jo];exact⟨fun⟨a,ha,e⟩=>by rw [show x=a by omega];exact ha,fun h=>⟨x,h,rfl⟩⟩
    by_cases h:x∈l;·rw [jT h,jT (h1.2 h)]
    ·rw [jS h,jS (fun h2=>h (h1.1 h2))]
   have QN:=jA (fun w1 h=>jaP o (yK l) cc (x:Int) w1 h (by rw [yn];omega));rw [yn,wM]at QN;have sW:=jA (IL.u.below BI.u);clear wM;generalize decide (x∈l)=bx at*;cases bx with
   |
    true=>
    rw [jQ (by decide),qG]at Wv;refine Seg.xf (fun w'=> ∃x:xj wr.heap.size wr,w'=x.w) [([0,1],2),([3,4,5],6)] [7,8,9,10,11,12,13,14,15,16,17,18,19,20] 21 (by kernel_rfl) (by kernel_rfl) (fun _ _ d _ _ h=>by cases d<;>exact h) (⟨⟨_,(jN _ _).drew⟩,rfl⟩) ?_;simp only [jK,Seg.opAt,Seg.xu];iterate 2 first|go_big_quiet_step (fail)|quiet_step (fail)
    refine jR ?_;intro Kc hK;simp only [Region.wanted,jY];go_wp2_with (with_reducible refine(QC.u).mono ?_;rintro e w1 ⟨rfl,b1⟩);have B1:=jA (yq b1);refine hK _ _ ⟨⟨w1,B1.u⟩,rfl⟩ ?_;clear hK Kc b1 QC;repeat (any_goals (first|go_big_quiet_step (fail)|quiet_step (fail)))
    refine jR ?_;intro Kc hK;first|go_simp|skip
    go_wp2_with (go_at_call 38;refine(QN.u w1 (sW.u.below B1.u)).mono ?_;rintro e w2 ⟨rfl,rfl⟩);refine hK _ _ ⟨⟨_,B1.u⟩,rfl⟩ ?_;clear hK Kc QN;repeat (any_goals (first|go_big_quiet_step (fail)|quiet_step (fail)))
    refine jR ?_;go_wp2_with go_big_skip;go_roundw;case rel=>exact⟨i+1,k,by go_num,rfl,by omega,by rw [Wv.u];exact NC.u,BI.u.trans (B1.u.mono LG)⟩
    case measure=>simp [intOf];omega
   |
    false=>
    rw [jP (by decide)]at Wv;rcases NC.u.sign with rfl|⟨y,rfl⟩
    ·have DP:=jA (NC.u.one (by decide) x);rw [←Wv.u]at DP;refine Seg.xf (fun w'=> ∃x:xj wr.heap.size wr,w'=x.w) [([0,1],2),([3,4,5],6)] [7,8,9,10,11,12,13,14,15,16,17,18,19,20] 21 (by kernel_rfl) (by kernel_rfl) (fun _ _ d _ _ h=>by cases d<;>exact h) (⟨⟨_,(jN _ _).drew⟩,rfl⟩) ?_;simp only [jK,Seg.opAt,Seg.xu];iterate 2 first|go_big_quiet_step (fail)|quiet_step (fail)
     refine jR ?_;intro Kc hK;simp only [Region.wanted,jY];go_wp2_with (with_reducible refine(QC.u).mono ?_;rintro e w1 ⟨rfl,b1⟩);have B1:=jA (yq b1);refine hK _ _ ⟨⟨w1,B1.u⟩,rfl⟩ ?_;clear hK Kc b1 QC;repeat (any_goals (first|go_big_quiet_step (fail)|quiet_step (fail)))
     refine jR ?_;intro Kc hK;first|go_simp|skip
     go_wp2_with (go_at_call 38;refine(QN.u w1 (sW.u.below B1.u)).mono ?_;rintro e w2 ⟨rfl,rfl⟩);refine hK _ _ ⟨⟨_,B1.u⟩,rfl⟩ ?_;clear hK Kc QN;repeat (any_goals (first|go_big_quiet_step (fail)|quiet_step (fail)))
     refine jR ?_;go_wp2_with go_big_skip;go_roundw;case rel=>exact⟨i+1,x,by go_num,rfl,by omega,DP.u,BI.u.trans (B1.u.mono LG)⟩
     case measure=>simp [intOf];omega
    ·have NS:=NC.u.mem;have SH:=bX.u y (qR (jz.1 NS).1);have tP:=jA (fun h=>NC.u.up x h);have wP:=jA (fun h=>NC.u.stay x h (iX.u y NS));rw [←Wv.u]at tP wP;have Uv:decide ((y:Int)<0)=false:=jS (by omega);have hyi:(y:Int)<(n:Int):=by omega
     have hTr:TT<wr.heap.size:=by omega
     have dT: ∀z:xj wr.heap.size wr,z.w.cell? ⟨TT,0,none⟩=some (.slice (some ⟨g,0,none⟩) n ct):=fun z=>(z.2.cell (p:=⟨TT,0,none⟩) hTr).trans ((BI.u.cell (p:=⟨TT,0,none⟩) tZ).trans kTT.u);have rP:=jA (RT.u.below BI.u)
     have HX:=jA (fun w' (Tt: ∃z:xj wr.heap.size wr,w'=z.w)=>(show ∀j u,([xa x,xb x]:A0)[j]?=some u→w'.cell? ((⟨g,x*2,none⟩:Addr).add j)=some u by
      obtain⟨z,rfl⟩:=Tt;exact(rP.u.below z.2).mid pD))
     have HY:=jA (fun w' (Tt: ∃z:xj wr.heap.size wr,w'=z.w)=>(show ∀j u,([xa y,xb y]:A0)[j]?=some u→w'.cell? ((⟨g,y*2,none⟩:Addr).add j)=some u by
      obtain⟨z,rfl⟩:=Tt;exact(rP.u.below z.2).mid SH))
     have QO:=jA (fun w2 (h:O0 wr.heap.size wr w2)=>jco w2 ((rP.u.frs x pD).below h) ((rP.u.frs y SH).below h) (av.u x pD).lens (av.u y SH).lens);have FH:=jA (Qb (av.u x pD).ok.1 (av.u y SH).ok.1);clear NS SH;generalize VM (T x) (T y)=cm at*;refine Seg.xf (fun w'=> ∃x:xj wr.heap.size wr,w'=x.w) [([0,1],2),([3,4,5],6)] [7,8,9,10,11,12,13,14,15,16,17,18,19,20] 21 (by kernel_rfl) (by kernel_rfl) (fun _ _ d _ _ h=>by cases d<;>exact h) (⟨⟨_,(jN _ _).drew⟩,rfl⟩) ?_;simp only [jK,Seg.opAt,Seg.xu];iterate 2 first|go_big_quiet_step (fail)|quiet_step (fail)
     refine jR ?_;intro Kc hK;simp only [Region.wanted,jY];go_wp2_with (with_reducible refine(QC.u).mono ?_;rintro e w1 ⟨rfl,b1⟩);have B1:=jA (yq b1);refine hK _ _ ⟨⟨w1,B1.u⟩,rfl⟩ ?_;clear hK Kc b1 QC;repeat (any_goals (first|go_big_quiet_step (fail)|quiet_step (fail)))
     refine jR ?_;intro Kc hK;first|go_simp|skip
     go_wp2_with (go_at_call 38;refine(QN.u w1 (sW.u.below B1.u)).mono ?_;rintro e w2 ⟨rfl,rfl⟩);refine hK _ _ ⟨⟨_,B1.u⟩,rfl⟩ ?_;clear hK Kc QN;iterate 9 first|go_big_quiet_step (fail)|quiet_step (fail)
     refine xx rfl 69 _ rfl ⟨g,x*2,none⟩ [xa x,xb x] _ rfl HX.u underlying69 rfl HS.u ?_;iterate 3 first|go_big_quiet_step (fail)|quiet_step (fail)
     refine xx rfl 69 _ rfl ⟨g,y*2,none⟩ [xa y,xb y] _ rfl HY.u underlying69 rfl HS.u ?_;refine jR ?_;by_cases hc:(T y).v<(T x).v
     ·have uu:decide (0<cm)=true:=jT (by rcases FH.u with⟨_,h⟩|⟨_,h⟩|⟨h,_⟩<;>first|omega|(exfalso;grind));have LF:=jA (tP.u hc);clear hc tP wP FH;go_wp2_with (first|go_big_skip|(go_at_call 39;refine(QO.u _ B1.u).mono ?_;rintro e w3 ⟨rfl,b3⟩;dsimp only;have B3:=jA (B1.u.trans (b3.mono B1.u.size));clear b3));go_roundw;case rel=>exact⟨i+1,x,by go_num,rfl,by omega,LF.u,BI.u.trans (B3.u.mono LG)⟩
      case measure=>simp [intOf];omega
     ·have uu:decide (0<cm)=false:=jS (by rcases FH.u with⟨h,_⟩|⟨h,_⟩|⟨_,h⟩<;>first|omega|(exfalso;exact hc h));have LF:=jA (wP.u hc);clear hc tP wP FH;go_wp2_with (first|go_big_skip|(go_at_call 39;refine(QO.u _ B1.u).mono ?_;rintro e w3 ⟨rfl,b3⟩;dsimp only;have B3:=jA (B1.u.trans (b3.mono B1.u.size));clear b3));go_roundw;case rel=>exact⟨i+1,y,by go_num,rfl,by omega,LF.u,BI.u.trans (B3.u.mono LG)⟩
      case measure=>simp [intOf];omega
 have ek:decide ((i:Int)<(n:Int))=false:=jS (by omega);have AC:i=O.length:=by have:=HON.u;omega
 have IH:=jA (jhp HD.u HR.u j (k:=k) (by rw [←HL.u,←AC];exact NC.u));have nW:=jA (yA OW.u BI.u);have BB:=jA (BR.u.trans (BI.u.mono Lt));have wK:B≤wr.heap.size:=by omega
 clear AC;rcases NC.u.sign with rfl|⟨y,rfl⟩
 ·
   have hrj:r.length≤j:=by
    rcases jw j r.length with h|h;·have:=IH.u.1 h;omega
    ·exact h
   have HE:=jA (show r.take (j+1)=l by rw [HL.u,je hrj,je (by omega)]);go_wp2_with fail;go_roundw;case rel=>exact⟨j+1,o,cc,by go_num,by rw [HE.u],by omega,by rw [HE.u];exact nW.u,BB.u⟩
   case measure=>simp [intOf];omega
 ·
   have Lx:j<r.length:=by
    rcases jw j r.length with h|h;·exact h
    ·have:=IH.u.2 h;omega
   have HE:=jA (show r.take (j+1)=l++ [y]by
    have h1:=IH.u.1 Lx;rw [HL.u,jh Lx,show r[j]=y by omega])
   have Uv:decide (0≤(y:Int))=true:=jT (by omega);clear Lx;go_wp2_with (at_builtin;refine kV _ rfl (.tmp 48) (.tmp 50) 29 rfl B 3 i0 (.int .i64 0) 1 8 underlying29 JI.u SA.u OA.u MA.u rfl (by decide) (.slice o l.length cc) l.length (xq (yK l)) rfl (nW.u.alloc _) ⟨wr.heap.size,0,none⟩ 1 1 (xq (yK [y])) rfl rfl (zK (xh rfl)) (Kb _) (by unfold maxLen;omega) (by omega) (by simp;omega) ?_;intro v8 w8 SI hg8 _;have B8:=jA ((BB.u.alloc wK _).grown hg8 (by simp;omega) (fun z hz=>(nW.u.lt z hz.symm.symm).1));obtain⟨o8,c8,rfl,h8⟩:=jmd SI HE.u (by simp);have H8:=jA h8;clear SI hg8 h8);go_roundw;case rel=>exact⟨j+1,o8,c8,by go_num,by rw [jf],by omega,H8.u,B8.u⟩
   case measure=>simp [intOf];omega
end Go.Proofs.YtnohcdpnnhmpfaaGreatDoor.TR
