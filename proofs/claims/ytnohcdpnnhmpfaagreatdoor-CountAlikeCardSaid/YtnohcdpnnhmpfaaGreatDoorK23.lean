/-
  Chapter 13, Transfer: the comparer of sorted[exact.Frac]. Printed by tools/gensortf.py.
  Chapter 13: slices.SortFunc with the comparer of 'sorted', twelve or fewer; sorted[int]. Printed by tools/gensorted.py.
  Chapter 13, Transfer: slices.SortFunc with the comparer of fractions, twelve or fewer; sorted[exact.Frac]. Printed by tools/gensortf.py.
-/
import Derived.Test.YtnohcdpnnhmpfaaGreatDoorK22
import Derived.Test.YtnohcdpnnhmpfaaGreatDoorK17
import Derived.Test.YtnohcdpnnhmpfaaGreatDoorK19
set_option linter.unusedVariables false
set_option linter.unusedSimpArgs false
set_option maxRecDepth 100000
set_option maxHeartbeats 4000000
namespace Go.Proofs.YtnohcdpnnhmpfaaGreatDoor.TR
open Go.RowKit ML FRP AU CT FM
structure SrtF(w:World)(p q r:Nat)(r6:List Value)(n:Nat)(T:Nat→Fr)(P:List Int)(base g cap:Nat)(xa xb:Nat→Value):Prop where
 hp:w.heap[p]?=some (.cells #[(.func (.func 51) #[] #[])] 172 (0,0))
 hq:w.heap[q]?=some (.cells #[.slice (some ⟨g,0,none⟩) n cap] 114 (0,0))
 tot:TotsAt w base n T (.slice (some ⟨g,0,none⟩) n cap) xa xb
 hr: ∃oP cP,w.heap[r]?=some (.cells (r6++ [Value.slice oP P.length cP]).toArray 62 (0,0))∧IsAt w oP P
 h6:r6.length=6
theorem SrtF.below {w w1:World}{p q r:Nat}{r6:List Value}{n:Nat}{T:Nat→Fr}{P:List Int}{base g cap:Nat}{xa xb:Nat→Value}(h:SrtF w p q r r6 n T P base g cap xa xb)(hb:Below w.heap.size w w1):SrtF w1 p q r r6 n T P base g cap xa xb:=by
 obtain⟨oP,cP,hr,hP⟩:=h.hr;exact⟨bel_keep hb (lt_of_heap h.hp) h.hp,bel_keep hb (lt_of_heap h.hq) h.hq,h.tot.below hb,⟨oP,cP,bel_keep hb (lt_of_heap hr) hr,hP.below hb⟩,h.h6⟩
def cmpT(T:Nat→Fr)(P:List Int)(a b:Int):Int:=orI (cmpF (T b.toNat) (T a.toNat)) (P.getD a.toNat 0-P.getD b.toNat 0)
theorem sortedCmpF_any(i j:Nat)(p q r:Nat)(r6:List Value)(n:Nat)(T:Nat→Fr)(P:List Int)(base g cap:Nat)(xa xb:Nat→Value)(w:World)(h:SrtF w p q r r6 n T P base g cap xa xb)(hi:i<n)(hj:j<n)(hVP:n=P.length)(hl:n<1000)(hPb: ∀x∈P,0≤x∧x<1000)(hT: ∀i,i<n→Sml (T i)):
 Calls Tryz.prog 173 #[.int .i64 i,.int .i64 j,.pointer (some ⟨p,0,none⟩),.pointer (some ⟨q,0,none⟩),.pointer (some ⟨r,0,none⟩)] w fun e w'=>e=.returned (.int .i64 (cmpT T P i j))∧Below w.heap.size w w':=by
 obtain⟨oP,cP,hr,hP⟩:=h.hr;have hp:=h.hp;have hq:=h.hq;have h6:=h.h6;obtain⟨qp,hop,hpb,hpi⟩:=hP.cells i (by omega);obtain⟨qp2,hop2, -,hpj⟩:=hP.cells j (by omega);subst hop;obtain rfl:qp=qp2:=by injection hop2
 have bi:=hPb P[i] (List.getElem_mem _);have bj:=hPb P[j] (List.getElem_mem _)
 have HE:=Lib.hid (show cmpT T P i j=orI (cmpF (T j) (T i)) (P[i]-P[j])by
  unfold cmpT;simp only [Int.toNat_natCast,List.getD_eq_getElem?_getD];rw [List.getElem?_eq_getElem (by omega:i<P.length),List.getElem?_eq_getElem (by omega:j<P.length)];rfl)
 have HS:=Lib.hid size_lfr;have TI:=Lib.hid (h.tot.mid hi);have TJ:=Lib.hid (h.tot.mid hj);have hgl:g<w.heap.size:=by
  rcases h.tot.row.own.2 with⟨hv,_⟩|⟨g2,_,_,hv,_,hg2,_⟩;·cases hv
  ·injection hv with h1;injection h1 with h1;injection h1 with h1;subst h1;exact lt_of_heap hg2
 have Q:=Lib.hid (cmp_V w.drew (Trn.fr (Trn.of_below (Below.refl _ _).drew 0 0) (h.tot.frs j hj)) (Trn.fr (Trn.of_below (Below.refl _ _).drew 0 0) (h.tot.frs i hi)) (hT j hj).lens (hT i hi).lens);have zi:(i:Int)<(n:Int):=by omega
 have zj:(j:Int)<(n:Int):=by omega
 have hcb:cmpF (T j) (T i)= -1∨cmpF (T j) (T i)=0∨cmpF (T j) (T i)=1:=by
  rcases cmpF_spec (hT j hj).ok.1 (hT i hi).ok.1 with h|h|h;·exact .inl h.1
  ·exact .inr (.inl h.1)
  ·exact .inr (.inr h.1)
 rw [←hVP]at hr;generalize cmpF (T j) (T i)=cc at*;generalize P[i]=pi at*;generalize P[j]=pj at*;obtain⟨M,hM⟩: ∃M,M=w.heap.size:=⟨_,rfl⟩;have hpM:p<M:=hM▸lt_of_heap hp;have hqM:q<M:=hM▸lt_of_heap hq;have hrM:r<M:=hM▸lt_of_heap hr;rw [←hM]at hgl hpb;have hx0:Below M w w.drew:=(Below.refl _ _).drew;have c1:w.cell? ⟨p,0,none⟩=some (.func (.func 51) #[] #[]):=cell_of_row w p 0 _ _ _ hp;have c2:w.cell? ⟨q,0,none⟩=some (.slice (some ⟨g,0,none⟩) n cap):=cell_of_row w q 0 _ _ _ hq;have c3:w.cell? ⟨r,6,none⟩=some (.slice (some qp) n cP):=by
  rw [cell_of_row w r 6 _ _ _ hr];simp [h6]
 have C1:=Lib.hid c1;have C2:=Lib.hid c2;have C3:=Lib.hid c3;have PI:=Lib.hid hpi;have PJ:=Lib.hid hpj;have hk3:=addr_block qp i;have hk4:=addr_block qp j;have HM:=Lib.hid hM;clear hP hp hq hr hop2 hPb c1 c2 c3 hpi hpj h hT;go_enter Tryz.func173,Tryz.ntmps173;go_wp2_with fail;have d1: ∀x:BelowT M w,x.w.cell? ⟨p,0,none⟩=some (.func (.func 51) #[] #[]):=fun x=>bel_cell ⟨x,rfl⟩ hpM C1.out;have d2: ∀x:BelowT M w,x.w.cell? ⟨q,0,none⟩=some (.slice (some ⟨g,0,none⟩) n cap):=fun x=>bel_cell ⟨x,rfl⟩ hqM C2.out;have d3: ∀x:BelowT M w,x.w.cell? ⟨r,6,none⟩=some (.slice (some qp) n cP):=fun x=>bel_cell ⟨x,rfl⟩ hrM C3.out;have d6: ∀x:BelowT M w,x.w.cell? (qp.add i)=some (.int .i64 pi):=fun x=>bel_cell ⟨x,rfl⟩ (by omega) PI.out;have d7: ∀x:BelowT M w,x.w.cell? (qp.add j)=some (.int .i64 pj):=fun x=>bel_cell ⟨x,rfl⟩ (by omega) PJ.out;have HC:=Lib.hid (fun(x:BelowT M w) (o:Nat) (l:List Value) (h: ∀j u,l[j]?=some u→w.cell? ((⟨g,o,none⟩:Addr).add j)=some u) (j:Nat) (u:Value) (hj:l[j]?=some u)=>(x.2.cell (p:=(⟨g,o,none⟩:Addr).add j) (by rw [addr_block];exact hgl)).trans (h j u hj));clear hk3 hk4 hM;refine Seg.wp_region_segs (fun w'=> ∃x:BelowT M w,w'=x.w) [([0,1,2,3,4,5,6,7,8,10,11,12,13,14,15,16,17,18,19,20],9)] [] 21 (by kernel_rfl) (by kernel_rfl) (fun _ _ d _ _ h=>by cases d<;>exact h) (⟨⟨_,hx0⟩,rfl⟩) ?_;simp only [List.map_cons,List.map_nil,Seg.opAt,List.drop_succ_cons,List.drop_zero,Seg.wpSegs,Array.getD_eq_getD_getElem?,List.getElem?_toArray,List.getElem?_cons_succ,List.getElem?_cons_zero,Option.getD_some];first|go_big_quiet_step (fail)|quiet_step (fail)
 first|go_big_quiet_step (fail)|quiet_step (fail)
 first|go_big_quiet_step (fail)|quiet_step (fail)
 first|go_big_quiet_step (fail)|quiet_step (fail)
 refine wpQuiet_load_at rfl 90 _ rfl ⟨g,j*2,none⟩ [xa j,xb j] _ rfl (fun w' hw'=>by obtain⟨x,rfl⟩:=hw';exact HC.out x _ _ TJ.out) Tryz.underlying90 rfl HS.out ?_;first|go_big_quiet_step (fail)|quiet_step (fail)
 first|go_big_quiet_step (fail)|quiet_step (fail)
 first|go_big_quiet_step (fail)|quiet_step (fail)
 refine wpQuiet_load_at rfl 90 _ rfl ⟨g,i*2,none⟩ [xa i,xb i] _ rfl (fun w' hw'=>by obtain⟨x,rfl⟩:=hw';exact HC.out x _ _ TI.out) Tryz.underlying90 rfl HS.out ?_;repeat (any_goals (first|go_big_quiet_step (fail)|quiet_step (fail)))
 refine wpQuiet_nil ?_;intro K hK;simp only [Region.wanted,if_true];go_wp2_with (go_at_call 51;refine Q.out.mono ?_;rintro e w1 ⟨rfl,b1⟩);have B1:=Lib.hid (undrew b1);have BM:=Lib.hid (show Below M w w1 by rw [HM.out];exact B1.out);refine hK _ _ ⟨⟨_,BM.out⟩,rfl⟩ ?_;clear hK K b1;have QO:=Lib.hid (fun(g:Nat) (w1:World) (h:w1.heap[g]?=some (.cells #[.int .i64 cc,.int .i64 (pi-pj)] 3 (0,0)))=>or_any cc (pi-pj) g 2 w1 (cell_of_row w1 g 0 _ _ _ h) (cell_of_row w1 g 1 _ _ _ h));have QO2:=Lib.hid (QO.out w1.heap.size (w1.alloc (.cells #[.int .i64 cc,.int .i64 (pi-pj)] 3)) (heap_at rfl));clear QO;repeat (any_goals (first|go_big_quiet_step (fail)|quiet_step (fail)))
 refine wpQuiet_nil ?_;go_wp2_with (go_at_call 142;refine QO2.out.mono ?_;rintro e w2 ⟨rfl,rfl⟩);go_ret;exact⟨by rw [HE.out];rfl,B1.out.alloc B1.out.size _⟩
end Go.Proofs.YtnohcdpnnhmpfaaGreatDoor.TR
namespace Go.Proofs.YtnohcdpnnhmpfaaGreatDoor
open Go.RowKit ML FM AU CT
theorem insSortS_any(N:FuncId)(qN:Enters N)(c:Int→Int→Int)(le:Int→Int→Prop)(tr: ∀a b c,le a b→le b c→le a c)(D:List Int)(X cap base:Nat)(p q r:Nat)(w:World)
 (HC: ∀(x y:Int) (w':World),x∈D→y∈D→Kept X w w'→Calls Tryz.prog N #[.int .i64 x,.int .i64 y,.pointer (some ⟨p,0,none⟩),.pointer (some ⟨q,0,none⟩),.pointer (some ⟨r,0,none⟩)] w' fun e w''=>e=.returned (.int .i64 (c x y))∧Below w'.heap.size w' w'')
 (hc:D.Pairwise fun y x=>(c x y<0→le x y)∧(0≤c x y→le y x)) (hl:D.length<4611686018427387904) (hD:w.ownsRow base 3 1 (.slice (some ⟨X,0,none⟩) D.length cap) D.length (ivals D)):
 Calls Tryz.prog 166 #[.slice (some ⟨X,0,none⟩) D.length cap,.int .i64 0,.int .i64 D.length,.func (.func N) #[] #[.pointer (some ⟨p,0,none⟩),.pointer (some ⟨q,0,none⟩),.pointer (some ⟨r,0,none⟩)]] w fun e w'=>e=.returned (.tuple #[])∧SortedRow le D X cap base 3 w w':=by
 have TR:=Lib.hid tr;have QC:=Lib.hid HC;have PC:=Lib.hid hc;have RD:=Lib.hid hD;have hX:X<w.heap.size:=ownsRow_lt hD;clear tr HC hc hD;unfold Enters at qN;go_enter Tryz.func166,Tryz.ntmps166;go_wp2_with fail;go_loopw [8] (fun i wr=> ∃(k:Nat) (S:List Int),1≤k∧(k≤D.length∨k=1)∧i=.int .i64 k∧InsAt le D S k∧wr.ownsRow base 3 1 (.slice (some ⟨X,0,none⟩) D.length cap) D.length (ivals (S++D.drop k))∧Kept X w wr) (fun i _=>D.length-(intOf i).toNat);case atStart=>exact⟨1,D.take 1,by omega,.inr rfl,rfl,insAt_one le D,by rw [List.take_append_drop];exact RD.out,Kept.refl X w⟩
 case round=>
 clear RD;obtain⟨k,S,hk1,hk2,rfl,hS,hR,hK⟩:=hrel;have HS:=Lib.hid hS;have HR:=Lib.hid hR;have HK:=Lib.hid hK;clear hS hR hK;by_cases hlt:k<D.length
 ·have dk:decide ((k:Int)<(D.length:Int))=true:=decide_eq_true (by omega);have dk2:decide (k<D.length)=true:=decide_eq_true hlt;have hki:(k:Int)<(D.length:Int):=by omega
  obtain⟨x,hx⟩: ∃x,x=D[k]:=⟨_,rfl⟩;have hdr:D.drop k=x::D.drop (k+1):=by rw [hx,List.drop_eq_getElem_cons hlt]
  have hSl:=HS.out.len (by omega);have HXD:=Lib.hid (show x∈D by rw [hx];exact List.getElem_mem hlt)
  have HCS:=Lib.hid (show ∀y∈S,(c x y<0→le x y)∧(0≤c x y→le y x)from fun y hy=>by
   rw [hx];exact pairwise_take PC.out k hlt y (HS.out.perm.mem_iff.1 hy))
  have HSD:=Lib.hid (show ∀y∈S,y∈D from fun y hy=>List.mem_of_mem_take (HS.out.perm.mem_iff.1 hy));have HNX:=Lib.hid (show ∀A C,A++C=S→(A++x::C).Pairwise le→InsAt le D (A++x::C) (k+1)from fun A C hAC hp=>HS.out.next hlt hAC (hx▸rfl) hp);have HRX:=Lib.hid (show wr.ownsRow base 3 1 (.slice (some ⟨X,0,none⟩) D.length cap) D.length (ivals (S++x::D.drop (k+1)))by rw [←hdr];exact HR.out);clear HR hdr hx;have hLR:S.length+(1+(D.drop (k+1)).length)=D.length:=by rw [List.length_drop];omega
  obtain⟨R,hR⟩: ∃R,R=D.drop (k+1):=⟨_,rfl⟩;rw [←hR]at hLR HRX;have HRR:=Lib.hid hR;clear hR;generalize hsz:w.heap.size=W at*;clear hsz;go_wp2_with fail;go_loopw [9] (fun j wr=> ∃(A C:List Int),j=.int .i64 (A.length:Int)∧A++C=S∧(∀y∈C,le x y)∧wr.ownsRow base 3 1 (.slice (some ⟨X,0,none⟩) D.length cap) D.length (ivals (A++x::(C++R)))∧Kept X w wr) (fun j _=>(intOf j).toNat);case atStart=>exact⟨S,[],by rw [hSl],by simp,by simp,by simpa using HRX.out,HK.out⟩
  case round=>
  clear HRX HK;obtain⟨A,C,rfl,hAC,hC,hR,hK⟩:=hrel;have HAC:=Lib.hid hAC;have HCC:=Lib.hid hC;have HR:=Lib.hid hR;have HK:=Lib.hid hK;have hAl:A.length≤S.length:=by rw [←hAC];simp
  clear hAC hC hR hK;have HPW:=Lib.hid (fun h=>pw_ins TR.out A C x (HAC.out▸HS.out.srt) HCC.out h);rcases List.eq_nil_or_concat A with hA|⟨A',y,hA⟩
  ·subst hA;have d0:decide ((0:Int)<0)=false:=rfl;have HF:=Lib.hid (HNX.out [] C HAC.out (HPW.out (fun A' z h=>by simp at h)));go_wp2_with fail;refine Seg.wp_region_segs (fun w'=> ∃m,w'=wr.drewN m) [] [0,1,2,3,4,5,6,7,8,9,10,11,12,13] 14 (by kernel_rfl) (by kernel_rfl) (fun _ _ d _ _ h=>by cases d<;>exact h) (⟨1,rfl⟩) ?_;simp only [List.map_cons,List.map_nil,Seg.opAt,List.drop_succ_cons,List.drop_zero,Seg.wpSegs,Array.getD_eq_getD_getElem?,List.getElem?_toArray,List.getElem?_cons_succ,List.getElem?_cons_zero,Option.getD_some];repeat (any_goals (first|go_big_quiet_step (fail)|quiet_step (fail)))
   refine wpQuiet_nil ?_;go_wp2_with fail;go_roundw;case rel=>exact⟨k+1,x::C,by omega,.inl (by omega),by go_num,HF.out,by rw [←HRR.out];exact ownsRow_drew HR.out,HK.out.drew⟩
   case measure=>simp [intOf];omega
  ·rw [List.concat_eq_append]at hA;obtain⟨jp,hjp⟩: ∃jp,jp=A'.length:=⟨_,rfl⟩;have hAl2:A.length=jp+1:=by rw [hA,hjp];simp
   have hc1:=HR.out.cellAt (jp+1) (by omega);have hc0:=HR.out.cellAt jp (by omega);have hf1:=HR.out.frozenAt (jp+1);have hf0:=HR.out.frozenAt jp;have e1:(ivals (A++x::(C++R)))[jp+1]?=some (.int .i64 x):=by rw [←hAl2];simp [ivals]
   have e0:(ivals (A++x::(C++R)))[jp]?=some (.int .i64 y):=by rw [hA,hjp];simp [ivals]
   rw [e1]at hc1;rw [e0]at hc0;clear e1 e0;have hyS:y∈S:=by rw [←HAC.out,hA];simp
   have QQ:=Lib.hid (fun w' (hk:Kept X w w')=>QC.out x y w' HXD.out (HSD.out y hyS) hk);have CS:=Lib.hid (HCS.out y hyS)
   have HLA:=Lib.hid (show ∀A2 z,A=A2++ [z]→0≤c x y→le z x from fun A2 z h h0=>by
    rw [hA]at h;have hz:=(List.append_inj' h rfl).2;simp at hz;subst hz;exact CS.out.2 h0)
   have HSW:=Lib.hid (show((ivals (A++x::(C++R))).set (jp+1) (.int .i64 y)).set jp (.int .i64 x)=ivals (A'++x::(y::C++R))by
    have:=swap_list (ivals A') (.int .i64 y) (.int .i64 x) (ivals (C++R));rw [show(ivals A').length=jp by simp [ivals,hjp]]at this;rw [hA];simpa [ivals] using this)
   have HAC2:=Lib.hid (show A'++y::C=S by rw [←HAC.out,hA];simp);have z1:decide ((0:Int)<(jp:Int)+1)=true:=decide_eq_true (by omega);have z2:(0:Int)<(jp:Int)+1:=by omega
   have z3:(jp:Int)+1<(D.length:Int):=by omega
   have z4:(jp:Int)<(D.length:Int):=by omega
   have z5:(A.length:Int)=(jp:Int)+1:=by omega
   rw [z5];clear z5;have HJ:=Lib.hid hjp;have HAA:=Lib.hid hA;obtain⟨iN,hiN⟩: ∃q,q=jp+1:=⟨_,rfl⟩;have ea:((jp:Int)+1).toNat=iN:=by omega
   rw [←hiN]at hc1 hf1 HSW;have HIN:=Lib.hid hiN;clear hjp hA hiN hyS;have HC1:=Lib.hid hc1;have HC0:=Lib.hid hc0;by_cases hneg:c x y<0
   ·have dn:decide (c x y<0)=true:=decide_eq_true hneg;have HLE:=Lib.hid (CS.out.1 hneg);clear CS HLA HNX HPW hneg;go_wp2_with fail;refine Seg.wp_region_segs (fun w'=> ∃m,w'=wr.drewN m) [] [0,1,2,3,4,5,6,7,8,9,10,11,12,13] 14 (by kernel_rfl) (by kernel_rfl) (fun _ _ d _ _ h=>by cases d<;>exact h) (⟨1,rfl⟩) ?_;simp only [List.map_cons,List.map_nil,Seg.opAt,List.drop_succ_cons,List.drop_zero,Seg.wpSegs,Array.getD_eq_getD_getElem?,List.getElem?_toArray,List.getElem?_cons_succ,List.getElem?_cons_zero,Option.getD_some];repeat (any_goals (first|go_big_quiet_step (fail)|quiet_step (fail)))
    refine wpQuiet_nil ?_;go_wp2_with (with_reducible refine(QQ.out _ HK.out.drew).mono ?_;rintro e w2 ⟨rfl,b2⟩;have B2:=Lib.hid b2;clear b2);have hXr:X<wr.drew.heap.size:=by have:=ownsRow_lt HR.out;exact this
    have K2:=Lib.hid (HK.out.drew.below B2.out);have R2:=Lib.hid (own_below (ownsRow_drew HR.out) B2.out);clear hc1 hc0 hf1 hf0;have hc1:=(B2.out.cell (p:=⟨X,iN,none⟩) hXr).trans HC1.out;have hc0:=(B2.out.cell (p:=⟨X,jp,none⟩) hXr).trans HC0.out;have hf1:=R2.out.frozenAt iN;have hf0:=R2.out.frozenAt jp;have hiN:=HIN.out;obtain⟨u,hcu⟩: ∃u,(w2.setCell ⟨X,iN,none⟩ (.int .i64 y)).cell? ⟨X,jp,none⟩=some u:=⟨_,(World.cell?_setCell_other _ _ _ _ (by intro e';simp only [Addr.mk.injEq]at e';omega)).trans hc0⟩;have HR3:=Lib.hid (ownsRow_drew ((R2.out.stored iN (.int .i64 y)).1.stored jp (.int .i64 x)).1);have K3:=Lib.hid (((K2.out.set iN (.int .i64 y)).set jp (.int .i64 x)).drew);clear B2 K2 R2 HR HK HC1 HC0 hXr hiN QQ;rw [HSW.out]at HR3;clear HSW
    go_big_region
    clear hc1 hc0 hf1 hf0 hcu ea;generalize ((w2.setCell ⟨X,iN,none⟩ (.int .i64 y)).setCell ⟨X,jp,none⟩ (.int .i64 x)).drew=w3 at*;go_wp2_with fail;go_roundw;case rel=>exact⟨A',y::C,by rw [←HJ.out],HAC2.out,fun v hv=>(List.mem_cons.1 hv).elim (fun h=>h▸HLE.out) (HCC.out v),HR3.out,K3.out⟩
    case measure=>simp [intOf]
   ·have dn:decide (c x y<0)=false:=decide_eq_false hneg;have HF:=Lib.hid (HNX.out A C HAC.out (HPW.out (fun A2 z h=>HLA.out A2 z h (by omega))));clear CS HLA HNX HPW hneg;go_wp2_with fail;refine Seg.wp_region_segs (fun w'=> ∃m,w'=wr.drewN m) [] [0,1,2,3,4,5,6,7,8,9,10,11,12,13] 14 (by kernel_rfl) (by kernel_rfl) (fun _ _ d _ _ h=>by cases d<;>exact h) (⟨1,rfl⟩) ?_;simp only [List.map_cons,List.map_nil,Seg.opAt,List.drop_succ_cons,List.drop_zero,Seg.wpSegs,Array.getD_eq_getD_getElem?,List.getElem?_toArray,List.getElem?_cons_succ,List.getElem?_cons_zero,Option.getD_some];repeat (any_goals (first|go_big_quiet_step (fail)|quiet_step (fail)))
    refine wpQuiet_nil ?_;go_wp2_with (with_reducible refine(QQ.out _ HK.out.drew).mono ?_;rintro e w2 ⟨rfl,b2⟩;have B2:=Lib.hid b2;clear b2);have K2:=Lib.hid (HK.out.drew.below B2.out);have R2:=Lib.hid (own_below (ownsRow_drew HR.out) B2.out);clear hc1 hc0 hf1 hf0;go_roundw;case rel=>exact⟨k+1,A++x::C,by omega,.inl (by omega),by go_num,HF.out,by rw [←HRR.out,List.append_assoc];exact R2.out,K2.out⟩
    case measure=>simp [intOf];omega
 ·have dk:decide ((k:Int)<(D.length:Int))=false:=decide_eq_false (by omega);have dk2:decide (k<D.length)=false:=decide_eq_false hlt;have HDT:=Lib.hid (show D.take k=D from List.take_of_length_le (by omega));have HDD:=Lib.hid (show D.drop k= []from List.drop_eq_nil_of_le (by omega));go_wp2_with fail
  go_end0
  exact⟨rfl,S,by have:=HS.out.perm;rwa [HDT.out]at this,HS.out.srt,by have:=HR.out;rwa [HDD.out,List.append_nil]at this,HK.out⟩
theorem pdq_any(N:FuncId)(qN:Enters N)(c:Int→Int→Int)(le:Int→Int→Prop)(tr: ∀a b c,le a b→le b c→le a c)(D:List Int)(X cap base:Nat)(p q r:Nat)(w:World)
 (HC: ∀(x y:Int) (w':World),x∈D→y∈D→Kept X w w'→Calls Tryz.prog N #[.int .i64 x,.int .i64 y,.pointer (some ⟨p,0,none⟩),.pointer (some ⟨q,0,none⟩),.pointer (some ⟨r,0,none⟩)] w' fun e w''=>e=.returned (.int .i64 (c x y))∧Below w'.heap.size w' w'')
 (hc:D.Pairwise fun y x=>(c x y<0→le x y)∧(0≤c x y→le y x)) (hl:D.length≤12) (hD:w.ownsRow base 3 1 (.slice (some ⟨X,0,none⟩) D.length cap) D.length (ivals D)) (lim:Int):
 Calls Tryz.prog 181 #[.slice (some ⟨X,0,none⟩) D.length cap,.int .i64 0,.int .i64 D.length,.int .i64 lim,.func (.func N) #[] #[.pointer (some ⟨p,0,none⟩),.pointer (some ⟨q,0,none⟩),.pointer (some ⟨r,0,none⟩)]] w fun e w'=>e=.returned (.tuple #[])∧SortedRow le D X cap base 3 w w':=by
 have Q:=Lib.hid (insSortS_any N qN c le tr D X cap base p q r w HC hc (by omega) hD);have d1:decide ((D.length:Int)≤12)=true:=decide_eq_true (by omega);have d2:decide (D.length≤12)=true:=decide_eq_true hl;clear tr HC hc hD;generalize D.length=n at*;go_enter Tryz.func181,Tryz.ntmps181;go_wp2_with fail
 go_loop [1,2] (fun a b=>a=.int .i64 0∧b=.int .i64 n) (fun _ _=>0)
 case atStart=>exact⟨rfl,rfl⟩
 case round=>
 obtain⟨rfl,rfl⟩:=hrel;go_wp2_with (go_at_call 166;refine Q.out.mono ?_;rintro e w1 ⟨rfl,hs⟩;have HS:=Lib.hid hs;clear hs);refine bodyPost_ret (results_none rfl _ _ _) rfl ⟨rfl,HS.out⟩
theorem sortFunc_any(N:FuncId)(qN:Enters N)(c:Int→Int→Int)(le:Int→Int→Prop)(tr: ∀a b c,le a b→le b c→le a c)(D:List Int)(X cap base:Nat)(p q r:Nat)(w:World)
 (HC: ∀(x y:Int) (w':World),x∈D→y∈D→Kept X w w'→Calls Tryz.prog N #[.int .i64 x,.int .i64 y,.pointer (some ⟨p,0,none⟩),.pointer (some ⟨q,0,none⟩),.pointer (some ⟨r,0,none⟩)] w' fun e w''=>e=.returned (.int .i64 (c x y))∧Below w'.heap.size w' w'')
 (hc:D.Pairwise fun y x=>(c x y<0→le x y)∧(0≤c x y→le y x)) (hl:D.length≤12) (hD:w.ownsRow base 3 1 (.slice (some ⟨X,0,none⟩) D.length cap) D.length (ivals D)):
 Calls Tryz.prog 140 #[.slice (some ⟨X,0,none⟩) D.length cap,.func (.func N) #[] #[.pointer (some ⟨p,0,none⟩),.pointer (some ⟨q,0,none⟩),.pointer (some ⟨r,0,none⟩)]] w fun e w'=>e=.returned (.tuple #[])∧SortedRow le D X cap base 3 w w':=by
 have Q:=Lib.hid (fun lim=>pdq_any N qN c le tr D X cap base p q r w HC hc hl hD lim);have QL:=Lib.hid (fun w=>len_any D.length hl w);have hl2:(D.length:Int)<9223372036854775808:=by omega
 clear tr HC hc hD;generalize D.length=n at*;go_enter Tryz.func140,Tryz.ntmps140;go_wp2_with (first|(go_at_call 112;refine(QL.out _).mono ?_;rintro e w1 ⟨⟨kk,rfl⟩,rfl⟩)|(go_at_call 181;refine(Q.out _).mono ?_;rintro e w1 ⟨rfl,hs⟩;have HS:=Lib.hid hs;clear hs))
 go_end0
 exact⟨rfl,HS.out⟩
def leV(V P:List Int)(a b:Int):Prop:=V.getD b.toNat 0<V.getD a.toNat 0∨V.getD a.toNat 0=V.getD b.toNat 0∧P.getD a.toNat 0<P.getD b.toNat 0
theorem leV_trans(V P:List Int)(a b c:Int)(h1:leV V P a b)(h2:leV V P b c):leV V P a c:=by unfold leV at*;omega
theorem cmpV_neg(V P:List Int)(a b:Int)(h:cmpV V P a b<0):leV V P a b:=by
 unfold cmpV orI cmpI at h;unfold leV
 repeat' split at h
 all_goals omega
theorem cmpV_pos(V P:List Int)(a b:Int)(hne:P.getD a.toNat 0≠P.getD b.toNat 0)(h:0≤cmpV V P a b):leV V P b a:=by
 unfold cmpV orI cmpI at h;unfold leV
 repeat' split at h
 all_goals omega
def SortedGot(V P L:List Int)(w:World)(e:Ending)(w':World):Prop:=
 ∃S ob cb,e=.returned (.slice ob L.length cb)∧IsAt w' ob S∧S.Perm L∧S.Pairwise (leV V P)∧L.length≤cb∧Below w.heap.size w w'
theorem sorted_any(V P L:List Int)(nm:ByteArray)(oa:Option Addr)(no ca:Nat)(rl se mo:Int)(oO:Option Addr)(lO cO:Nat)(oP:Option Addr)(cP:Nat)(ol:Option Addr)(cl:Nat)(ov:Option Addr)(cv:Nat)(w:World)
 (hV:IsAt w ov V) (hP:IsAt w oP P) (hL:IsAt w ol L) (hLb: ∀x∈L,0≤x∧x<V.length) (hVP:V.length=P.length) (hPb: ∀x∈P,0≤x∧x<1000) (hl:L.length≤12) (hl0:0<L.length) (hv:V.length<1000) (hd:L.Pairwise fun y x=>P.getD y.toNat 0≠P.getD x.toNat 0):
 Calls Tryz.prog 100 #[.agg #[.string nm,.slice oa no ca,.int .i64 rl,.int .i64 se,.int .i64 mo,.slice oO lO cO,.slice oP P.length cP],.slice ol L.length cl,.slice ov V.length cv,.func (.func 101) #[] #[]] w (SortedGot V P L w):=by
 have HV:=Lib.hid hV;have HP:=Lib.hid hP;have HLL:=Lib.hid hL;have QC:=Lib.hid (fun w' (h:IsAt w' ol L)=>cloneInts_any ol L cl w' h (by omega));have hpw:=Lib.hid (hd.imp (fun {y x} h=>(⟨fun h1=>cmpV_neg V P x y h1,fun h1=>cmpV_pos V P x y (Ne.symm h) h1⟩:(cmpV V P x y<0→leV V P x y)∧(0≤cmpV V P x y→leV V P y x))));have HPB:=Lib.hid hPb;have HLB:=Lib.hid hLb;have HVP:=Lib.hid hVP;clear hV hP hL hPb hLb hd hVP;go_enter Tryz.func100,Tryz.ntmps100;go_upto_region 1 with(fail);have BL:Below w.heap.size w (((w.alloc (.cells #[.string nm,.slice oa no ca,.int .i64 rl,.int .i64 se,.int .i64 mo,.slice oO lO cO,.slice oP P.length cP] 62)).alloc (.cells #[.slice ov V.length cv] 29)).alloc (.cells #[.func (.func 101) #[] #[]] 107)):=(((Below.refl _ _).alloc (Nat.le_refl _) _).alloc (by simp) _).alloc (by simp;omega) _;have SR:SrtAt (((w.alloc (.cells #[.string nm,.slice oa no ca,.int .i64 rl,.int .i64 se,.int .i64 mo,.slice oO lO cO,.slice oP P.length cP] 62)).alloc (.cells #[.slice ov V.length cv] 29)).alloc (.cells #[.func (.func 101) #[] #[]] 107)) (w.heap.size+2) (w.heap.size+1) w.heap.size [.string nm,.slice oa no ca,.int .i64 rl,.int .i64 se,.int .i64 mo,.slice oO lO cO] V P:=
  ⟨heap_at (by simp),⟨ov,cv,heap_lt (heap_at (by simp)),HV.out.below BL⟩,⟨oP,cP,heap_lt (heap_lt (heap_at rfl)),HP.out.below BL⟩,rfl⟩
 generalize hB:w.heap.size=B at*;refine wp_abs (fun w3=>Below B w w3∧SrtAt w3 (B+2) (B+1) B [.string nm,.slice oa no ca,.int .i64 rl,.int .i64 se,.int .i64 mo,.slice oO lO cO] V P) ⟨BL,SR⟩ (fun w3 hw3=>?_);have HB:=Lib.hid hB;have B3:=Lib.hid hw3.1;have S3:=Lib.hid hw3.2;clear BL SR hB hw3;go_upto_region 2 with(go_at_call 126;refine(QC.out w3 (HLL.out.below (HB.out.symm▸B3.out))).mono ?_;rintro e w4 ⟨ob,cb,rfl,own4,b4⟩);obtain⟨X,xc,hob,hXlo,hXlt⟩:=own4.form hl0;obtain⟨rfl,rfl⟩:ob=some ⟨X,0,none⟩∧cb=xc:=by injection hob with h1 _ h3;exact⟨h1,h3⟩
 have S4:=Lib.hid (S3.out.below b4);have hs3:B≤w3.heap.size:=by have:=B3.out.size;rw [HB.out]at this;exact this
 have B4:=Lib.hid (B3.out.trans (b4.mono hs3));have hp3:=lt_of_heap S3.out.hp
 have QK:=Lib.hid (show ∀(x y:Int) (w':World),x∈L→y∈L→Kept X w4 w'→Calls Tryz.prog 141 #[.int .i64 x,.int .i64 y,.pointer (some ⟨B+2,0,none⟩),.pointer (some ⟨B+1,0,none⟩),.pointer (some ⟨B,0,none⟩)] w' fun e w''=>e=.returned (.int .i64 (cmpV V P x y))∧Below w'.heap.size w' w'' from by
  intro x y w' hx hy hk;have hx:=HLB.out x hx;have hy:=HLB.out y hy;obtain⟨i,rfl⟩: ∃i:Nat,x=i:=⟨x.toNat,by omega⟩;obtain⟨j,rfl⟩: ∃j:Nat,y=j:=⟨y.toNat,by omega⟩;have hb3:Below w3.heap.size w4 w':=hk.bel hXlo hXlt;exact sortedCmp_any i j (B+2) (B+1) B _ V P w' (S3.out.below (b4.trans hb3)) (by omega) (by omega) HVP.out hv HPB.out)
 have QS:=Lib.hid (sortFunc_any 141 (enters_of Tryz.func141 rfl rfl) (cmpV V P) (leV V P) (leV_trans V P) L X cb w3.heap.size (B+2) (B+1) B w4 QK.out hpw.out hl own4);clear QK own4 hob b4;go_upto_region 3 with(go_at_call 140;refine QS.out.mono ?_;rintro e w5 ⟨rfl,hs⟩;have HS:=Lib.hid hs;clear hs);go_wp2_with fail;go_ret;obtain⟨S,hperm,hsrt,hown,hkept⟩:=HS.out;rw [←hperm.length_eq]at hown;obtain⟨oc,cc,hoc,hcc,hI⟩:=isAt_own hown;obtain⟨rfl,rfl⟩:some ⟨X,0,none⟩=oc∧cb=cc:=by injection hoc with h1 _ h3;exact⟨h1,h3⟩
 exact⟨S,_,_,rfl,hI,hperm,hsrt,by rw [←hperm.length_eq];exact hcc,by rw [HB.out];exact B4.out.trans (hkept.bel (by omega) hXlt)⟩
end Go.Proofs.YtnohcdpnnhmpfaaGreatDoor
namespace Go.Proofs.YtnohcdpnnhmpfaaGreatDoor.TR
open Go.RowKit ML FRP AU CT FM
def leT(T:Nat→Fr)(P:List Int)(a b:Int):Prop:=(T b.toNat).v<(T a.toNat).v∨(T a.toNat).v=(T b.toNat).v∧P.getD a.toNat 0<P.getD b.toNat 0
theorem leT_trans(T:Nat→Fr)(P:List Int)(a b c:Int)(h1:leT T P a b)(h2:leT T P b c):leT T P a c:=by unfold leT at*;grind
theorem cmpT_neg {T:Nat→Fr}{P:List Int}{a b:Int}(ha:0<(T a.toNat).d)(hb:0<(T b.toNat).d)(h:cmpT T P a b<0):leT T P a b:=by
 unfold cmpT orI at h;unfold leT;rcases cmpF_spec hb ha with⟨e,hv⟩|⟨e,hv⟩|⟨e,hv⟩<;>rw [e]at h;·exact .inl hv
 ·rw [if_pos rfl]at h;exact .inr ⟨hv.symm,by omega⟩
 ·rw [if_neg (by decide)]at h;omega
theorem cmpT_pos {T:Nat→Fr}{P:List Int}{a b:Int}(ha:0<(T a.toNat).d)(hb:0<(T b.toNat).d)(hne:P.getD a.toNat 0≠P.getD b.toNat 0)(h:0≤cmpT T P a b):leT T P b a:=by
 unfold cmpT orI at h;unfold leT;rcases cmpF_spec hb ha with⟨e,hv⟩|⟨e,hv⟩|⟨e,hv⟩<;>rw [e]at h;·rw [if_neg (by decide)]at h;omega
 ·rw [if_pos rfl]at h;exact .inr ⟨hv,by omega⟩
 ·exact .inl hv
def SortedGotF(T:Nat→Fr)(P L:List Int)(w:World)(e:Ending)(w':World):Prop:=
 ∃S ob cb,e=.returned (.slice ob L.length cb)∧w'.ownsRow w.heap.size 3 1 (.slice ob L.length cb) L.length (ivals S)∧S.Perm L∧S.Pairwise (leT T P)∧Below w.heap.size w w'
theorem sortedF_any(n:Nat)(T:Nat→Fr)(base g cap:Nat)(xa xb:Nat→Value)(P L:List Int)(nm:ByteArray)(oa:Option Addr)(no ca:Nat)(rl se mo:Int)(oO:Option Addr)(lO cO:Nat)(oP:Option Addr)(cP:Nat)(ol:Option Addr)(cl:Nat)(w:World)
 (hV:TotsAt w base n T (.slice (some ⟨g,0,none⟩) n cap) xa xb) (hT: ∀i,i<n→Sml (T i)) (hP:IsAt w oP P) (hL:IsAt w ol L) (hLb: ∀x∈L,0≤x∧x<n) (hVP:n=P.length) (hPb: ∀x∈P,0≤x∧x<1000) (hl:L.length≤12) (hl0:0<L.length) (hv:n<1000) (hd:L.Pairwise fun y x=>P.getD y.toNat 0≠P.getD x.toNat 0):
 Calls Tryz.prog 128 #[.agg #[.string nm,.slice oa no ca,.int .i64 rl,.int .i64 se,.int .i64 mo,.slice oO lO cO,.slice oP P.length cP],.slice ol L.length cl,.slice (some ⟨g,0,none⟩) n cap,(.func (.func 51) #[] #[])] w (SortedGotF T P L w):=by
 have HV:=Lib.hid hV;have HP:=Lib.hid hP;have HLL:=Lib.hid hL;have HTT:=Lib.hid hT;have QC:=Lib.hid (fun w' (h:IsAt w' ol L)=>cloneInts_any ol L cl w' h (by omega));have hpw:=Lib.hid (List.Pairwise.imp_of_mem (fun {y x} hy hx h=>(⟨fun h1=>cmpT_neg (hT _ (by have:=hLb x hx;omega)).ok.1 (hT _ (by have:=hLb y hy;omega)).ok.1 h1,fun h1=>cmpT_pos (hT _ (by have:=hLb x hx;omega)).ok.1 (hT _ (by have:=hLb y hy;omega)).ok.1 (Ne.symm h) h1⟩:(cmpT T P x y<0→leT T P x y)∧(0≤cmpT T P x y→leT T P y x))) hd);have HPB:=Lib.hid hPb;have HLB:=Lib.hid hLb;have HVP:=Lib.hid hVP;clear hV hP hL hPb hLb hd hVP hT;go_enter Tryz.func128,Tryz.ntmps128;go_upto_region 1 with(fail);have BL:Below w.heap.size w (((w.alloc (.cells #[.string nm,.slice oa no ca,.int .i64 rl,.int .i64 se,.int .i64 mo,.slice oO lO cO,.slice oP P.length cP] 62)).alloc (.cells #[.slice (some ⟨g,0,none⟩) n cap] 114)).alloc (.cells #[(.func (.func 51) #[] #[])] 172)):=(((Below.refl _ _).alloc (Nat.le_refl _) _).alloc (by simp) _).alloc (by simp;omega) _;have SR:SrtF (((w.alloc (.cells #[.string nm,.slice oa no ca,.int .i64 rl,.int .i64 se,.int .i64 mo,.slice oO lO cO,.slice oP P.length cP] 62)).alloc (.cells #[.slice (some ⟨g,0,none⟩) n cap] 114)).alloc (.cells #[(.func (.func 51) #[] #[])] 172)) (w.heap.size+2) (w.heap.size+1) w.heap.size [.string nm,.slice oa no ca,.int .i64 rl,.int .i64 se,.int .i64 mo,.slice oO lO cO] n T P base g cap xa xb:=
  ⟨heap_at (by simp),heap_lt (heap_at (by simp)),HV.out.below BL,⟨oP,cP,heap_lt (heap_lt (heap_at rfl)),HP.out.below BL⟩,rfl⟩
 generalize hB:w.heap.size=B at*;refine wp_abs (fun w3=>Below B w w3∧SrtF w3 (B+2) (B+1) B [.string nm,.slice oa no ca,.int .i64 rl,.int .i64 se,.int .i64 mo,.slice oO lO cO] n T P base g cap xa xb) ⟨BL,SR⟩ (fun w3 hw3=>?_);have HB:=Lib.hid hB;have B3:=Lib.hid hw3.1;have S3:=Lib.hid hw3.2;clear BL SR hB hw3;go_upto_region 2 with(go_at_call 126;refine(QC.out w3 (HLL.out.below (HB.out.symm▸B3.out))).mono ?_;rintro e w4 ⟨ob,cb,rfl,own4,b4⟩);obtain⟨X,xc,hob,hXlo,hXlt⟩:=own4.form hl0;obtain⟨rfl,rfl⟩:ob=some ⟨X,0,none⟩∧cb=xc:=by injection hob with h1 _ h3;exact⟨h1,h3⟩
 have S4:=Lib.hid (S3.out.below b4);have hs3:B≤w3.heap.size:=by have:=B3.out.size;rw [HB.out]at this;exact this
 have B4:=Lib.hid (B3.out.trans (b4.mono hs3));have hp3:=lt_of_heap S3.out.hp
 have QK:=Lib.hid (show ∀(x y:Int) (w':World),x∈L→y∈L→Kept X w4 w'→Calls Tryz.prog 173 #[.int .i64 x,.int .i64 y,.pointer (some ⟨B+2,0,none⟩),.pointer (some ⟨B+1,0,none⟩),.pointer (some ⟨B,0,none⟩)] w' fun e w''=>e=.returned (.int .i64 (cmpT T P x y))∧Below w'.heap.size w' w'' from by
  intro x y w' hx hy hk;have hx:=HLB.out x hx;have hy:=HLB.out y hy;obtain⟨i,rfl⟩: ∃i:Nat,x=i:=⟨x.toNat,by omega⟩;obtain⟨j,rfl⟩: ∃j:Nat,y=j:=⟨y.toNat,by omega⟩;have hb3:Below w3.heap.size w4 w':=hk.bel hXlo hXlt;exact sortedCmpF_any i j (B+2) (B+1) B _ n T P base g cap xa xb w' (S3.out.below (b4.trans hb3)) (by omega) (by omega) HVP.out hv HPB.out HTT.out)
 have QS:=Lib.hid (sortFunc_any 173 (enters_of Tryz.func173 rfl rfl) (cmpT T P) (leT T P) (leT_trans T P) L X cb w3.heap.size (B+2) (B+1) B w4 QK.out hpw.out hl own4);clear QK own4 hob b4;go_upto_region 3 with(go_at_call 140;refine QS.out.mono ?_;rintro e w5 ⟨rfl,hs⟩;have HS:=Lib.hid hs;clear hs);go_wp2_with fail;go_ret;obtain⟨S,hperm,hsrt,hown,hkept⟩:=HS.out;exact⟨S,_,_,rfl,by rw [HB.out];exact own_base hown hs3,hperm,hsrt,by rw [HB.out];exact B4.out.trans (hkept.bel (by omega) hXlt)⟩
end Go.Proofs.YtnohcdpnnhmpfaaGreatDoor.TR
