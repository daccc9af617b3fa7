/-
  Chapter 13: sorted[int]. Printed by tools/gensorted.py.
-/
import Derived.Test.YtnohcdpnnhmpfaaGreatDoorK16
set_option linter.unusedVariables false
set_option linter.unusedSimpArgs false
set_option maxRecDepth 100000
set_option maxHeartbeats 2000000
namespace Go.Proofs.YtnohcdpnnhmpfaaGreatDoor
open Go.RowKit ML FM AU CT
def orI(x y:Int):Int:=if x=0 then y else x
theorem or_any(x y:Int)(g:Nat)(cap:Nat)(w:World)(h0:w.cell? ⟨g,0,none⟩=some (.int .i64 x))(h1:w.cell? ⟨g,1,none⟩=some (.int .i64 y)):
 Calls Tryz.prog 142 #[.slice (some ⟨g,0,none⟩) 2 cap] w fun e w'=>e=.returned (.int .i64 (orI x y))∧w=w':=by
 have H0:=Lib.hid h0;have H1:=Lib.hid h1;clear h0 h1;go_enter Tryz.func142,Tryz.ntmps142;go_wp2_with fail
 go_loop [8] (fun i=> ∃k:Nat,k≤2∧i=.int .i64 k∧(1≤k→x=0)∧(2≤k→y=0)) (fun i=>2-(intOf i).toNat)
 case atStart=>exact⟨0,by omega,rfl,fun h=>by omega,fun h=>by omega⟩
 case round=>
 obtain⟨k,hk,rfl,hx,hy⟩:=hrel;have HX:=Lib.hid hx;have HY:=Lib.hid hy;clear hx hy;rcases(show k=0∨k=1∨k=2 by omega)with rfl|rfl|rfl
 ·have h0:=H0.out;by_cases hz:x=0
  ·have b1:(x !=0)=false:=by rw [hz];rfl
   have HZ:=Lib.hid hz;clear hz;go_wp2_with fail
   go_round
   case rel=>exact⟨1,by omega,rfl,fun _=>HZ.out,fun h=>by omega⟩
   case measure=>simp [intOf]
  ·have b1:(x !=0)=true:=by simp [hz]
   have HZ:=Lib.hid (show orI x y=x from if_neg hz);clear hz;go_wp2_with fail;go_ret;exact⟨by rw [HZ.out];rfl,rfl⟩
 ·have h1:=H1.out;have HX0:=Lib.hid (show orI x y=y from if_pos (HX.out (by omega)));by_cases hz:y=0
  ·have b1:(y !=0)=false:=by rw [hz];rfl
   have HZ:=Lib.hid hz;clear hz;go_wp2_with fail
   go_round
   case rel=>exact⟨2,by omega,rfl,fun _=>HX.out (by omega),fun _=>HZ.out⟩
   case measure=>simp [intOf]
  ·have b1:(y !=0)=true:=by simp [hz]
   clear hz;go_wp2_with fail;go_ret;exact⟨by rw [HX0.out];rfl,rfl⟩
 ·have HX0:=Lib.hid (show orI x y=0 by unfold orI;rw [if_pos (HX.out (by omega)),HY.out (by omega)]);go_wp2_with fail;go_ret;exact⟨by rw [HX0.out];rfl,rfl⟩
structure SrtAt(w:World)(p q r:Nat)(r6:List Value)(V P:List Int):Prop where
 hp:w.heap[p]?=some (.cells #[.func (.func 101) #[] #[]] 107 (0,0))
 hq: ∃ov cv,w.heap[q]?=some (.cells #[.slice ov V.length cv] 29 (0,0))∧IsAt w ov V
 hr: ∃oP cP,w.heap[r]?=some (.cells (r6++ [Value.slice oP P.length cP]).toArray 62 (0,0))∧IsAt w oP P
 h6:r6.length=6
theorem SrtAt.below {w w1:World}{p q r:Nat}{r6:List Value}{V P:List Int}(h:SrtAt w p q r r6 V P)(hb:Below w.heap.size w w1):SrtAt w1 p q r r6 V P:=by
 obtain⟨ov,cv,hq,hV⟩:=h.hq;obtain⟨oP,cP,hr,hP⟩:=h.hr;exact⟨bel_keep hb (lt_of_heap h.hp) h.hp,⟨ov,cv,bel_keep hb (lt_of_heap hq) hq,hV.below hb⟩,⟨oP,cP,bel_keep hb (lt_of_heap hr) hr,hP.below hb⟩,h.h6⟩
def cmpV(V P:List Int)(a b:Int):Int:=orI (cmpI (V.getD b.toNat 0) (V.getD a.toNat 0)) (P.getD a.toNat 0-P.getD b.toNat 0)
theorem bel_cell {M:Nat}{w0 w':World}(h: ∃x:BelowT M w0,w'=x.w){a:Addr}{v:Value}(hb:a.block<M)(hc:w0.cell? a=some v):w'.cell? a=some v:=by
 obtain⟨x,rfl⟩:=h;exact(x.2.cell hb).trans hc
theorem sortedCmp_any(i j:Nat)(p q r:Nat)(r6:List Value)(V P:List Int)(w:World)(h:SrtAt w p q r r6 V P)(hi:i<V.length)(hj:j<V.length)(hVP:V.length=P.length)(hl:V.length<1000)(hPb: ∀x∈P,0≤x∧x<1000):
 Calls Tryz.prog 141 #[.int .i64 i,.int .i64 j,.pointer (some ⟨p,0,none⟩),.pointer (some ⟨q,0,none⟩),.pointer (some ⟨r,0,none⟩)] w fun e w'=>e=.returned (.int .i64 (cmpV V P i j))∧Below w.heap.size w w':=by
 obtain⟨ov,cv,hq,hV⟩:=h.hq;obtain⟨oP,cP,hr,hP⟩:=h.hr;have hp:=h.hp;have h6:=h.h6;obtain⟨qv,hov,hvb,hvi⟩:=hV.cells i hi;obtain⟨qv2,hov2, -,hvj⟩:=hV.cells j hj;obtain⟨qp,hop,hpb,hpi⟩:=hP.cells i (by omega);obtain⟨qp2,hop2, -,hpj⟩:=hP.cells j (by omega);subst hov hop;obtain rfl:qv=qv2:=by injection hov2
 obtain rfl:qp=qp2:=by injection hop2
 have bi:=hPb P[i] (List.getElem_mem _);have bj:=hPb P[j] (List.getElem_mem _)
 have HE:=Lib.hid (show cmpV V P i j=orI (cmpI V[j] V[i]) (P[i]-P[j])by
  unfold cmpV;simp only [Int.toNat_natCast,List.getD_eq_getElem?_getD];rw [List.getElem?_eq_getElem hi,List.getElem?_eq_getElem hj,List.getElem?_eq_getElem (by omega:i<P.length),List.getElem?_eq_getElem (by omega:j<P.length)];rfl)
 have Q:=Lib.hid (fun w=>cmpI_any V[j] V[i] w);have zi:(i:Int)<(V.length:Int):=by omega
 have zj:(j:Int)<(V.length:Int):=by omega
 rw [←hVP]at hr;generalize V[i]=vi at*;generalize V[j]=vj at*;generalize P[i]=pi at*;generalize P[j]=pj at*;generalize V.length=n at*;obtain⟨M,hM⟩: ∃M,M=w.heap.size:=⟨_,rfl⟩;have hpM:p<M:=hM▸lt_of_heap hp;have hqM:q<M:=hM▸lt_of_heap hq;have hrM:r<M:=hM▸lt_of_heap hr;rw [←hM]at hvb hpb;have hx0:Below M w w.drew:=(Below.refl _ _).drew;have sx0:M≤w.drew.heap.size:=Nat.le_of_eq hM;have c1:w.cell? ⟨p,0,none⟩=some (.func (.func 101) #[] #[]):=cell_of_row w p 0 _ _ _ hp;have c2:w.cell? ⟨q,0,none⟩=some (.slice (some qv) n cv):=cell_of_row w q 0 _ _ _ hq;have c3:w.cell? ⟨r,6,none⟩=some (.slice (some qp) n cP):=by
  rw [cell_of_row w r 6 _ _ _ hr];simp [h6]
 have C1:=Lib.hid c1;have C2:=Lib.hid c2;have C3:=Lib.hid c3;have VI:=Lib.hid hvi;have VJ:=Lib.hid hvj;have PI:=Lib.hid hpi;have PJ:=Lib.hid hpj;have hk1:=addr_block qv i;have hk2:=addr_block qv j;have hk3:=addr_block qp i;have hk4:=addr_block qp j;have HM:=Lib.hid hM;clear hV hP hp hq hr hov2 hop2 hPb c1 c2 c3 hvi hvj hpi hpj hM h;go_enter Tryz.func141,Tryz.ntmps141;go_wp2_with fail;have d1: ∀x:BelowT M w,x.w.cell? ⟨p,0,none⟩=some (.func (.func 101) #[] #[]):=fun x=>bel_cell ⟨x,rfl⟩ hpM C1.out;have d2: ∀x:BelowT M w,x.w.cell? ⟨q,0,none⟩=some (.slice (some qv) n cv):=fun x=>bel_cell ⟨x,rfl⟩ hqM C2.out;have d3: ∀x:BelowT M w,x.w.cell? ⟨r,6,none⟩=some (.slice (some qp) n cP):=fun x=>bel_cell ⟨x,rfl⟩ hrM C3.out;have d4: ∀x:BelowT M w,x.w.cell? (qv.add i)=some (.int .i64 vi):=fun x=>bel_cell ⟨x,rfl⟩ (by omega) VI.out;have d5: ∀x:BelowT M w,x.w.cell? (qv.add j)=some (.int .i64 vj):=fun x=>bel_cell ⟨x,rfl⟩ (by omega) VJ.out;have d6: ∀x:BelowT M w,x.w.cell? (qp.add i)=some (.int .i64 pi):=fun x=>bel_cell ⟨x,rfl⟩ (by omega) PI.out;have d7: ∀x:BelowT M w,x.w.cell? (qp.add j)=some (.int .i64 pj):=fun x=>bel_cell ⟨x,rfl⟩ (by omega) PJ.out;clear hk1 hk2 hk3 hk4;refine Seg.wp_region_segs (fun w'=> ∃x:BelowT M w,w'=x.w) [([0,1,2,3,4,5,6,7,8,10,11,12,13,14,15,16,17,18,19,20],9)] [] 21 (by kernel_rfl) (by kernel_rfl) (fun _ _ d _ _ h=>by cases d<;>exact h) (⟨⟨_,hx0⟩,rfl⟩) ?_;simp only [List.map_cons,List.map_nil,Seg.opAt,List.drop_succ_cons,List.drop_zero,Seg.wpSegs,Array.getD_eq_getD_getElem?,List.getElem?_toArray,List.getElem?_cons_succ,List.getElem?_cons_zero,Option.getD_some];repeat (any_goals (first|go_big_quiet_step (fail)|quiet_step (fail)))
 refine wpQuiet_nil ?_;intro K hK;simp only [Region.wanted,if_true];go_wp2_with (go_at_call 101;refine(Q.out _).mono ?_;rintro e w1 ⟨rfl,rfl⟩);refine hK _ _ ⟨⟨_,hx0⟩,rfl⟩ ?_;clear hK K;have QO:=Lib.hid (fun(g:Nat) (w1:World) (h:w1.heap[g]?=some (.cells #[.int .i64 (cmpI vj vi),.int .i64 (pi-pj)] 3 (0,0)))=>or_any (cmpI vj vi) (pi-pj) g 2 w1 (cell_of_row w1 g 0 _ _ _ h) (cell_of_row w1 g 1 _ _ _ h));have QO2:=Lib.hid (QO.out w.heap.size (w.alloc (.cells #[.int .i64 (cmpI vj vi),.int .i64 (pi-pj)] 3)).drew (heap_at rfl));clear QO;repeat (any_goals (first|go_big_quiet_step (fail)|quiet_step (fail)))
 refine wpQuiet_nil ?_;go_wp2_with (go_at_call 142;refine QO2.out.mono ?_;rintro e w1 ⟨rfl,rfl⟩);go_ret;exact⟨by rw [HE.out];rfl,by first|exact((Below.refl _ _).alloc (Nat.le_refl _) _).drew|exact(Below.refl _ _).drew.alloc (Nat.le_refl _) _⟩
theorem len64_any(n:Nat)(h:n≤12)(w:World):Calls Tryz.prog 161 #[.int .u64 n] w fun e w'=>(∃k,e=.returned (.int .i64 k))∧w=w':=by
 rcases(show n=0∨n=1∨n=2∨n=3∨n=4∨n=5∨n=6∨n=7∨n=8∨n=9∨n=10∨n=11∨n=12 by omega)with rfl|rfl|rfl|rfl|rfl|rfl|rfl|rfl|rfl|rfl|rfl|rfl|rfl<;>clear h
 all_goals
  go_enter Tryz.func161,Tryz.ntmps161;go_wp2_with fail;go_ret;exact⟨⟨_,rfl⟩,rfl⟩
theorem len_any(n:Nat)(h:n≤12)(w:World):Calls Tryz.prog 112 #[.int .u64 n] w fun e w'=>(∃k,e=.returned (.int .i64 k))∧w=w':=by
 have Q:=Lib.hid (fun w=>len64_any n h w);clear h;go_enter Tryz.func112,Tryz.ntmps112;go_wp2_with (go_at_call 161;refine(Q.out _).mono ?_;rintro e w1 ⟨⟨k,rfl⟩,rfl⟩);go_ret;exact⟨⟨_,rfl⟩,rfl⟩
end Go.Proofs.YtnohcdpnnhmpfaaGreatDoor
