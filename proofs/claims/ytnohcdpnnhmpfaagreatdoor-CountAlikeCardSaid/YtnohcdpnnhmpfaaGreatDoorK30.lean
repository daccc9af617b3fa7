/-
  Chapter 13, for Pairs: matrices in memory; count.square, pairs. Printed by tools/genmx.py.
-/
import Derived.Test.YtnohcdpnnhmpfaaGreatDoorK21
import Derived.Test.YtnohcdpnnhmpfaaGreatDoorK29
set_option linter.unusedVariables false
set_option linter.unusedSimpArgs false
set_option maxRecDepth 100000
set_option maxHeartbeats 4000000
namespace Go.Proofs.YtnohcdpnnhmpfaaGreatDoor
open Go.RowKit ML FM AU CT
def rowI(n:Nat)(M:Mx)(i:Nat):List Int:=(List.range n).map fun j=>M i j
def rowL(n:Nat)(M:Mx)(i:Nat):List Value:=ivals (rowI n M i)
theorem length_rowL(n:Nat)(M:Mx)(i:Nat):(rowL n M i).length=n:=by simp [rowL,ivals,rowI]
theorem rowL_get(n:Nat)(M:Mx)(i j:Nat)(h:j<n):(rowL n M i)[j]?=some (.int .i64 (M i j)):=by simp [rowL,ivals,rowI,h]
theorem rowL_set(n:Nat)(M:Mx)(i j:Nat)(v:Int)(h:j<n):(rowL n M i).set j (.int .i64 v)=rowL n (upd M i j v) i:=by
 apply List.ext_getElem?;intro k;rw [List.getElem?_set,length_rowL];by_cases hk:k<n
 ·rw [rowL_get n (upd M i j v) i k hk];by_cases e:j=k;·subst e;simp [h,upd]
  ·rw [if_neg e,rowL_get n M i k hk];unfold upd;rw [if_neg (fun h=>e h.2.symm)]
 ·have h1:(rowL n M i)[k]?=none:=List.getElem?_eq_none (by rw [length_rowL];omega);have h2:(rowL n (upd M i j v) i)[k]?=none:=List.getElem?_eq_none (by rw [length_rowL];omega);rw [h1,h2];by_cases e:j=k;·subst e;omega
  ·rw [if_neg e]
theorem rowL_congr {n:Nat}{M M':Mx}{i:Nat}(h: ∀j,j<n→M i j=M' i j):rowL n M i=rowL n M' i:=by
 unfold rowL rowI;congr 1;apply List.map_congr_left;intro j hj;exact h j (List.mem_range.1 hj)
theorem nd_inj {α:Type}{l:List α}(h:l.Nodup){i j:Nat}(hi:i<l.length)(hj:j<l.length)(e:l[i]=l[j]):i=j:=by
 have hp:=List.pairwise_iff_getElem.1 h;rcases Nat.lt_trichotomy i j with h1|h1|h1;·exact absurd e (hp i j hi hj h1)
 ·exact h1
 ·exact absurd e.symm (hp j i hj hi h1)
def headL(n:Nat)(gs:List Nat):List Value:=gs.map fun g=>Value.slice (some ⟨g,0,none⟩) n n
structure MxO(B:Nat)(w:World)(F n:Nat)(gs:List Nat)(M:Mx):Prop where
 len:gs.length=n
 head:w.heap[F]?=some (.cells (headL n gs).toArray 29 (0,0))
 ge:B≤F
 gge: ∀g∈gs,B≤g∧g≠F
 nd:gs.Nodup
 row: ∀i (h:i<gs.length),w.heap[gs[i]]?=some (.cells (rowL n M i).toArray 3 (0,0))
namespace MxO
variable {B:Nat} {w w1:World} {F n:Nat} {gs:List Nat} {M M':Mx}
theorem lt(h:MxO B w F n gs M):F<w.heap.size:=lt_of_heap h.head
theorem glt(h:MxO B w F n gs M)(i:Nat)(hi:i<gs.length):gs[i]<w.heap.size:=lt_of_heap (h.row i hi)
theorem congr(h:MxO B w F n gs M)(he: ∀i j,i<n→j<n→M i j=M' i j):MxO B w F n gs M':=⟨h.len,h.head,h.ge,h.gge,h.nd,fun i hi=>by rw [h.row i hi,rowL_congr (he i · (by rw [←h.len];exact hi))]⟩
theorem cellF(h:MxO B w F n gs M)(i:Nat)(hi:i<gs.length):w.cell? ⟨F,i,none⟩=some (.slice (some ⟨gs[i],0,none⟩) n n):=by
 rw [cell_of_row _ _ _ _ _ _ h.head,List.getElem?_toArray];simp [headL,hi]
theorem cellG(h:MxO B w F n gs M)(i j:Nat)(hi:i<gs.length)(hj:j<n):w.cell? ⟨gs[i],j,none⟩=some (.int .i64 (M i j)):=by
 rw [cell_of_row _ _ _ _ _ _ (h.row i hi),List.getElem?_toArray];exact rowL_get n M i j hj
theorem froz(h:MxO B w F n gs M)(i j:Nat)(hi:i<gs.length):w.frozen? ⟨gs[i],j,none⟩=false:=frozen_of_row _ _ _ _ _ (h.row i hi)
theorem set(h:MxO B w F n gs M)(i j:Nat)(hi:i<gs.length)(hj:j<n)(v:Int):MxO B (w.setCell ⟨gs[i],j,none⟩ (.int .i64 v)) F n gs (upd M i j v):=by
 refine⟨h.len,(heap_setCell_other _ _ _ _ (fun e=>(h.gge _ (List.getElem_mem hi)).2 e.symm)).trans h.head,h.ge,h.gge,h.nd,fun k hk=>?_⟩;by_cases e:k=i
 ·subst e;rw [heap_setCell_same _ _ _ _ _ _ (h.row k hk),List.setIfInBounds_toArray,rowL_set n M k j v hj]
 ·rw [heap_setCell_other _ _ _ _ (fun e2=>e (nd_inj h.nd hk hi e2)),h.row k hk];rw [rowL_congr (M':=upd M i j v) (fun c _=>by unfold upd;rw [if_neg (fun h=>e h.1)])]
end MxO
structure MxR(w:World)(oa:Option Addr)(n:Nat)(M:Mx):Prop where
 cells: ∀i,i<n→ ∃a,oa=some a∧a.block<w.heap.size∧ ∃b c,b.block<w.heap.size∧w.cell? (a.add i)=some (.slice (some b) n c)∧ ∀j,j<n→w.cell? (b.add j)=some (.int .i64 (M i j))
theorem MxR.below {w w1:World}{oa:Option Addr}{n:Nat}{M:Mx}(h:MxR w oa n M)(hb:Below w.heap.size w w1):MxR w1 oa n M:=⟨fun i hi=>by
 obtain⟨a,h1,h2,b,c,h3,h4,h5⟩:=h.cells i hi;exact⟨a,h1,Nat.lt_of_lt_of_le h2 hb.size,b,c,Nat.lt_of_lt_of_le h3 hb.size,by rw [hb.cell (by rw [addr_block];exact h2)];exact h4,fun j hj=>by rw [hb.cell (by rw [addr_block];exact h3)];exact h5 j hj⟩⟩
theorem MxO.read {B:Nat}{w:World}{F n:Nat}{gs:List Nat}{M:Mx}(h:MxO B w F n gs M):MxR w (some ⟨F,0,none⟩) n M:=⟨fun i hi=>by
 have hi2:i<gs.length:=by rw [h.len];exact hi
 refine⟨_,rfl,h.lt,⟨gs[i],0,none⟩,n,h.glt i hi2,by rw [Addr.add_mid,Nat.zero_add];exact h.cellF i hi2,fun j hj=>by rw [Addr.add_mid,Nat.zero_add];exact h.cellG i j hi2 hj⟩⟩
def mxP(P:List (Value×List Int)):Mx:=fun i j=>((P.getD i (.slice none 0 0,[])).2).getD j 0
def mxRows(n:Nat)(gs:List Nat)(M:Mx):List (Value×List Int):=(List.range n).map fun i=>(Value.slice (some ⟨gs.getD i 0,0,none⟩) n n,rowI n M i)
theorem info_int1:(Tryz.prog.info? 3).map (fun i=>(i.zero,i.size,i.bytes))=some (some (.int .i64 0),1,8):=by kernel_rfl
structure SqK(B:Nat)(w:World)(F n:Nat)(gs:List Nat):Prop where
 head:w.heap[F]?=some (.cells (headL n gs++List.replicate (n-gs.length) (Value.slice none 0 0)).toArray 29 (0,0))
 le:gs.length≤n
 ge:B≤F
 gge: ∀g∈gs,B≤g∧g≠F
 nd:gs.Nodup
 row: ∀g∈gs,w.heap[g]?=some (.cells (rowL n (fun _ _=>0) 0).toArray 3 (0,0))
theorem rowL_zero(n i:Nat):rowL n (fun _ _=>0) i=List.replicate n (.int .i64 0):=by
 apply List.ext_getElem (by simp [length_rowL]);intro j h1 h2;simp [rowL,ivals,rowI]
theorem SqK.all {B:Nat}{w:World}{F n:Nat}{gs:List Nat}(h:SqK B w F n gs)(hn:gs.length=n):MxO B w F n gs (fun _ _=>0):=
 ⟨hn,by rw [h.head,hn,Nat.sub_self,List.replicate_zero,List.append_nil],h.ge,h.gge,h.nd,fun i hi=>by rw [h.row _ (List.getElem_mem hi),rowL_zero,rowL_zero]⟩
theorem SqK.next {B:Nat}{w:World}{F n:Nat}{gs:List Nat}(h:SqK B w F n gs)(hk:gs.length<n)(hB:B≤w.heap.size):
 SqK B ((w.setCell ⟨F,gs.length,none⟩ (.slice (some ⟨w.heap.size,0,none⟩) n n)).alloc (.cells (madeCells #[Value.int .i64 0] n) 3)) F n (gs++ [w.heap.size]):=by
 have hF:F<w.heap.size:=lt_of_heap h.head;have hsz:(w.setCell ⟨F,gs.length,none⟩ (.slice (some ⟨w.heap.size,0,none⟩) n n)).heap.size=w.heap.size:=by simp
 refine⟨?_,by simp;omega,h.ge,fun g hg=>?_,?_,fun g hg=>?_⟩
 ·have h1:=heap_setCell_same w F gs.length _ _ (.slice (some ⟨w.heap.size,0,none⟩) n n) h.head;rw [heap_lt h1,List.setIfInBounds_toArray];congr 3;have e:n-gs.length=(n-(gs++ [w.heap.size]).length)+1:=by simp;omega
  rw [e,List.replicate_succ];have l1:gs.length=(headL n gs).length:=by simp [headL]
  rw [l1,List.set_append_right _ _ (Nat.le_refl _),Nat.sub_self,List.set_cons_zero];simp [headL]
 ·rcases List.mem_append.1 hg with hg|hg;·exact h.gge g hg
  ·rw [List.mem_singleton.1 hg];omega
 ·rw [List.nodup_append];refine⟨h.nd,by simp,fun a ha b hb=>?_⟩;rw [List.mem_singleton.1 hb];have:=lt_of_heap (h.row a ha);omega
 ·rcases List.mem_append.1 hg with hg|hg;·exact heap_lt ((heap_setCell_other _ _ _ _ (h.gge g hg).2).trans (h.row g hg))
  ·rw [List.mem_singleton.1 hg,heap_at hsz,rowL_zero,←toList_madeCells_one]
def SqGot(n:Nat)(w:World)(e:Ending)(w':World):Prop:= ∃F gs,e=.returned (.slice (some ⟨F,0,none⟩) n n)∧MxO w.heap.size w' F n gs (fun _ _=>0)∧Below w.heap.size w w'
theorem square_any(n:Nat)(w:World)(hn:n≤12):Calls Tryz.prog 97 #[.int .i64 n] w (SqGot n w):=by
 obtain⟨i0,hi,hz0,hz1,hz2⟩:=info_parts info_int1;obtain⟨j0,ji,jz0,jz1,jz2⟩:=info_parts info_ints;have HI:=Lib.hid hi;have HZ0:=Lib.hid hz0;have HZ1:=Lib.hid hz1;have HZ2:=Lib.hid hz2;have JI:=Lib.hid ji;have JZ0:=Lib.hid jz0;have JZ1:=Lib.hid jz1;have JZ2:=Lib.hid jz2;clear hi hz0 hz1 hz2 ji jz0 jz1 jz2;go_enter Tryz.func97,Tryz.ntmps97;go_upto_region 2 with(refine wpList_make_row _ rfl _ _ 25 rfl 29 j0 (.slice none 0 0) Tryz.underlying25 JI.out JZ0.out JZ1.out rfl .i64 .i64 n rfl rfl (by rw [JZ2.out];omega) (by omega) ?_);have hS:SqK w.heap.size (w.alloc (.cells (madeCells #[Value.slice none 0 0] n) 29)) w.heap.size n []:=⟨by rw [heap_at rfl];simp [headL,←toList_madeCells_one],by simp,Nat.le_refl _,fun g hg=>by simp at hg,List.nodup_nil,fun g hg=>by simp at hg⟩;have hb0:Below w.heap.size w (w.alloc (.cells (madeCells #[Value.slice none 0 0] n) 29)):=(Below.refl _ _).alloc (Nat.le_refl _) _;generalize hB:w.heap.size=B at*;have HB:=Lib.hid hB;clear hB;refine wp_abs (fun w1=>SqK B w1 B n []∧Below B w w1) ⟨hS,hb0⟩ (fun w1 hw1=>?_);have H1:=Lib.hid hw1;clear hw1 hS hb0;go_wp2_with fail;go_loopw [9] (fun i wr=> ∃(k:Nat) (gs:List Nat),k=gs.length∧i=.int .i64 k∧k≤n∧SqK B wr B n gs∧Below B w wr) (fun i _=>n-(intOf i).toNat);case atStart=>exact⟨0,[],rfl,rfl,Nat.zero_le _,H1.out.1,H1.out.2⟩
 case round=>
 clear H1;obtain⟨k,gs,hkg,rfl,hk,hs,hb⟩:=hrel;have HK:=Lib.hid hkg;have S:=Lib.hid hs;have BB:=Lib.hid hb;have hBr:B<wr.heap.size:=lt_of_heap hs.head;clear hkg hs hb;by_cases hlt:k<n
 ·have dk:decide ((k:Int)<(n:Int))=true:=decide_eq_true (by omega);have dk2:decide (k<n)=true:=decide_eq_true hlt;have hki:(k:Int)<(n:Int):=by omega
  have c1:wr.cell? ⟨B,k,none⟩=some (.slice none 0 0):=by
   rw [cell_of_row _ _ _ _ _ _ S.out.head,List.getElem?_toArray,List.getElem?_append_right (by simp [headL,←HK.out])];rw [show k-(headL n gs).length=0 by simp [headL,←HK.out],List.getElem?_replicate,if_pos (by rw [←HK.out];omega)]
  have f1:wr.frozen? ⟨B,k,none⟩=false:=frozen_of_row _ _ _ _ _ S.out.head;have SN:=Lib.hid (S.out.next (by rw [←HK.out];exact hlt) (Nat.le_of_lt hBr));rw [←HK.out]at SN;go_upto_region 6 with(refine wpList_make_row _ rfl _ _ 29 rfl 3 i0 (.int .i64 0) Tryz.underlying29 HI.out HZ0.out HZ1.out rfl .i64 .i64 n rfl rfl (by rw [HZ2.out];omega) (by omega) ?_);go_wp2_with fail;go_roundw;case rel=>exact⟨k+1,_,by simp [HK.out],by go_num,by omega,SN.out,(BB.out.setCell (Nat.le_refl _) _).alloc (by simp;omega) _⟩
  case measure=>simp [intOf];omega
 ·have dk:decide ((k:Int)<(n:Int))=false:=decide_eq_false (by omega);have dk2:decide (k<n)=false:=decide_eq_false hlt;have HN:=Lib.hid (show gs.length=n by rw [←HK.out];omega);go_wp2_with fail;go_ret;exact⟨B,gs,rfl,by rw [HB.out];exact S.out.all HN.out,by rw [HB.out];exact BB.out⟩
def aheadI(b:List Int)(i j:Nat):Bool:=decide (0<b.getD i 0)&&(b.getD j 0==0||decide (b.getD i 0<b.getD j 0))
def cntP(P:List (Value×List Int))(i j:Nat):Nat:=(P.filter fun p=>aheadI p.2 i j).length
def pairM(P:List (Value×List Int)):Mx:=fun i j=>(cntP P i j:Int)
def stM(P:List (Value×List Int))(b:List Int)(i j:Nat):Mx:=fun a c=>(cntP P a c:Int)+if(a<i∨a=i∧c<j)∧aheadI b a c=true then 1 else 0
theorem cntP_le(P:List (Value×List Int))(i j:Nat):cntP P i j≤P.length:=List.length_filter_le _ _
theorem cntP_snoc(P:List (Value×List Int))(p:Value×List Int)(i j:Nat):cntP (P++ [p]) i j=cntP P i j+if aheadI p.2 i j=true then 1 else 0:=by
 unfold cntP;rw [List.filter_append,List.length_append];by_cases h:aheadI p.2 i j=true<;>simp [h]
theorem stM_zero(P:List (Value×List Int))(b:List Int)(a c:Nat):pairM P a c=stM P b 0 0 a c:=by
 unfold stM pairM;rw [if_neg (by omega)];omega
theorem stM_at(P:List (Value×List Int))(b:List Int)(i j:Nat):stM P b i j i j=(cntP P i j:Int):=by
 unfold stM;rw [if_neg (by omega)];omega
theorem stM_yes(P:List (Value×List Int))(b:List Int)(i j:Nat)(h:aheadI b i j=true)(a c:Nat):upd (stM P b i j) i j ((cntP P i j:Int)+1) a c=stM P b i (j+1) a c:=by
 unfold upd stM;by_cases e:a=i∧c=j
 ·obtain⟨rfl,rfl⟩:=e;rw [if_pos ⟨rfl,rfl⟩,if_pos ⟨.inr ⟨rfl,by omega⟩,h⟩]
 ·rw [if_neg e];congr 1;have:(a<i∨a=i∧c<j)↔(a<i∨a=i∧c<j+1):=by omega
  simp only [this]
theorem stM_no(P:List (Value×List Int))(b:List Int)(i j:Nat)(h:aheadI b i j=false)(a c:Nat):stM P b i j a c=stM P b i (j+1) a c:=by
 unfold stM;congr 1;by_cases e:a=i∧c=j
 ·obtain⟨rfl,rfl⟩:=e;rw [h];simp
 ·have:(a<i∨a=i∧c<j)↔(a<i∨a=i∧c<j+1):=by omega
  simp only [this]
theorem stM_row(P:List (Value×List Int))(b:List Int)(n i a c:Nat)(hc:c<n):stM P b i n a c=stM P b (i+1) 0 a c:=by
 unfold stM;have:(a<i∨a=i∧c<n)↔(a<i+1∨a=i+1∧c<0):=by omega
 simp only [this]
theorem stM_all(P:List (Value×List Int))(p:Value×List Int)(n a c:Nat)(ha:a<n):stM P p.2 n 0 a c=pairM (P++ [p]) a c:=by
 unfold stM pairM;rw [cntP_snoc];have:(a<n∨a=n∧c<0):=.inl ha;by_cases h:aheadI p.2 a c=true;·rw [if_pos ⟨this,h⟩,if_pos h];rfl
 ·rw [if_neg (fun h2=>h h2.2),if_neg h];rfl
def MxGot(n:Nat)(M:Mx)(w:World)(e:Ending)(w':World):Prop:= ∃F gs,e=.returned (.slice (some ⟨F,0,none⟩) n n)∧MxO w.heap.size w' F n gs M∧Below w.heap.size w w'
theorem pairs_any(n:Nat)(P:List (Value×List Int))(ob:Option Addr)(cb:Nat)(w:World)(hP:PsAt w ob P)(hA:allN n P)(hn:n≤12)(hp:P.length≤4096):
 Calls Tryz.prog 53 #[.int .i64 n,.slice ob P.length cb] w (MxGot n (pairM P) w):=by
 have HP:=Lib.hid hP;have HA:=Lib.hid hA;have QS:=Lib.hid (fun w=>square_any n w hn);clear hP hA;obtain⟨B,hB⟩: ∃B,B=w.heap.size:=⟨_,rfl⟩;have HB:=Lib.hid hB;clear hB;go_enter Tryz.func53,Tryz.ntmps53;go_upto_region 2 with(go_at_call 97;refine(QS.out w).mono ?_;rintro e w1 ⟨F,gs,rfl,hm1,hb1⟩;dsimp only);have M1:=Lib.hid (show MxO B w1 F n gs (pairM [])by rw [HB.out];exact hm1.congr (fun i j _ _=>by simp [pairM,cntP]));have B1:=Lib.hid (show Below B w w1 by rw [HB.out];exact hb1);have HL:=Lib.hid hm1.len;clear hm1 hb1;go_wp2_with fail;go_loopw [16] (fun i wr=> ∃k:Nat,k≤P.length∧i=.int .i64 k∧MxO B wr F n gs (pairM (P.take k))∧Below B w wr) (fun i _=>P.length-(intOf i).toNat);case atStart=>exact⟨0,Nat.zero_le _,rfl,M1.out,B1.out⟩
 case round=>
 clear M1 B1;obtain⟨k,hk,rfl,hm,hb⟩:=hrel;have M2:=Lib.hid hm;have B2:=Lib.hid hb;clear hm hb;by_cases hlt:k<P.length
 ·have dk:decide ((k:Int)<(P.length:Int))=true:=decide_eq_true (by omega);have dk2:decide (k<P.length)=true:=decide_eq_true hlt;have hki:(k:Int)<(P.length:Int):=by omega
  obtain⟨q,hoa,hqb,hqc⟩:=(HP.out.below (HB.out▸B2.out)).cells k hlt;subst hoa;have HTK:=Lib.hid (show P.take (k+1)=P.take k++ [P[k]]from List.take_succ_eq_append_getElem hlt);have HMEM:=Lib.hid (List.getElem_mem hlt);generalize P[k]=p at*;obtain⟨or,cr,hp1,hp2,hp3⟩:=HP.out.rows p HMEM.out;rw [hp1]at hqc;have HIS:=Lib.hid hp2;have HALL:=Lib.hid (fun a c=>stM_all (P.take k) p n a c);rw [←HTK.out]at HALL;have hL:p.2.length=n:=HA.out p HMEM.out;rw [hL]at hqc;have HLL:=Lib.hid hL;clear hp1 hp2 hp3 hL;generalize p.2=L at*;have hPk:(P.take k).length≤4096:=by rw [List.length_take];omega
  generalize P.take k=Pk at*;have M3:=Lib.hid (M2.out.congr (fun a c _ _=>stM_zero Pk L a c));obtain⟨wo,hwo⟩: ∃wo:World,wo=wr:=⟨_,rfl⟩;subst hwo;go_wp2_with fail;go_loopw [22] (fun i wr=> ∃i1:Nat,i1≤n∧i=.int .i64 i1∧MxO B wr F n gs (stM Pk L i1 0)∧Below B w wr) (fun i _=>n-(intOf i).toNat);case atStart=>exact⟨0,Nat.zero_le _,rfl,M3.out,B2.out⟩
  case round=>
  clear M3 M2 B2 hqb hqc;obtain⟨i1,hi1,rfl,hm,hb⟩:=hrel;have M4:=Lib.hid hm;have B4:=Lib.hid hb;clear hm hb;by_cases hlti:i1<n
  ·have ek:decide ((i1:Int)<(n:Int))=true:=decide_eq_true (by omega);have ek2:decide (i1<n)=true:=decide_eq_true hlti;have eki:(i1:Int)<(n:Int):=by omega
   have hiL:i1<L.length:=by rw [HLL.out];exact hlti
   obtain⟨r,hor,hrb,hrc⟩:=(HIS.out.below (HB.out▸B4.out)).cells i1 hiL;subst hor;have HX:=Lib.hid (show L.getD i1 0=L[i1]by simp [hiL]);generalize L[i1]=x at*;have hig:i1<gs.length:=by rw [HL.out];exact hlti
   obtain⟨wp,hwp⟩: ∃wp:World,wp=wr:=⟨_,rfl⟩;subst hwp;go_wp2_with fail;go_loopw [29] (fun j wr=> ∃j1:Nat,j1≤n∧j=.int .i64 j1∧MxO B wr F n gs (stM Pk L i1 j1)∧Below B w wr) (fun j _=>n-(intOf j).toNat);case atStart=>exact⟨0,Nat.zero_le _,rfl,M4.out,B4.out⟩
   case round=>
   clear M4 B4 hrb hrc;obtain⟨j1,hj1,rfl,hm,hb⟩:=hrel;have M5:=Lib.hid hm;have B5:=Lib.hid hb;clear hm hb;by_cases hltj:j1<n
   ·have fk:decide ((j1:Int)<(n:Int))=true:=decide_eq_true (by omega);have fk2:decide (j1<n)=true:=decide_eq_true hltj;have fki:(j1:Int)<(n:Int):=by omega
    have hjL:j1<L.length:=by rw [HLL.out];exact hltj
    obtain⟨r',hor,hrb,hrc⟩:=(HIS.out.below (HB.out▸B5.out)).cells j1 hjL;obtain rfl:r=r':=by injection hor
    have HY:=Lib.hid (show L.getD j1 0=L[j1]by simp [hjL]);generalize L[j1]=y at*;have HAH:=Lib.hid (show aheadI L i1 j1=(decide (0<x)&&(y==0||decide (x<y)))by unfold aheadI;rw [HX.out,HY.out]);have HYES:=Lib.hid (stM_yes Pk L i1 j1);have HNO:=Lib.hid (stM_no Pk L i1 j1);have kF:wr.cell? ⟨F,i1,none⟩=some (.slice (some ⟨gs[i1],0,none⟩) n n):=M5.out.cellF i1 hig;have kG:wr.cell? ⟨gs[i1],j1,none⟩=some (.int .i64 (cntP Pk i1 j1:Nat)):=by rw [M5.out.cellG i1 j1 hig hltj,stM_at]
    have fG:wr.frozen? ⟨gs[i1],j1,none⟩=false:=M5.out.froz i1 j1 hig;have MS:=Lib.hid (M5.out.set i1 j1 hig hltj ((cntP Pk i1 j1:Nat)+1:Int));have hGB:=(M5.out.gge _ (List.getElem_mem hig)).1;have hcl:cntP Pk i1 j1≤4096:=Nat.le_trans (cntP_le _ _ _) hPk;generalize gs[i1]=G at*;generalize cntP Pk i1 j1=z at*;by_cases hx0:0<x
    ·have g0:decide (0<x)=true:=decide_eq_true hx0;by_cases hy0:y=0
     ·have g1:(y==0)=true:=by rw [beq_iff_eq];exact hy0
      have HM:=Lib.hid (MS.out.congr (fun a c _ _=>HYES.out (by rw [HAH.out,g0,g1];rfl) a c));clear hy0 hx0;go_wp2_with fail;go_roundw;case rel=>exact⟨j1+1,by omega,by go_num,HM.out,B5.out.setCell hGB _⟩
      case measure=>simp [intOf];omega
     ·have g1:(y==0)=false:=by rw [beq_eq_false_iff_ne];exact hy0
      by_cases hxy:x<y
      ·have g2:decide (x<y)=true:=decide_eq_true hxy;have HM:=Lib.hid (MS.out.congr (fun a c _ _=>HYES.out (by rw [HAH.out,g0,g1,g2];rfl) a c));clear hy0 hx0 hxy;go_wp2_with fail;go_roundw;case rel=>exact⟨j1+1,by omega,by go_num,HM.out,B5.out.setCell hGB _⟩
       case measure=>simp [intOf];omega
      ·have g2:decide (x<y)=false:=decide_eq_false hxy;have HM:=Lib.hid (M5.out.congr (fun a c _ _=>HNO.out (by rw [HAH.out,g0,g1,g2];rfl) a c));clear hy0 hx0 hxy;go_wp2_with fail;go_roundw;case rel=>exact⟨j1+1,by omega,by go_num,HM.out,B5.out⟩
       case measure=>simp [intOf];omega
    ·have g0:decide (0<x)=false:=decide_eq_false hx0;have HM:=Lib.hid (M5.out.congr (fun a c _ _=>HNO.out (by rw [HAH.out,g0];rfl) a c));clear hx0;go_wp2_with fail;go_roundw;case rel=>exact⟨j1+1,by omega,by go_num,HM.out,B5.out⟩
     case measure=>simp [intOf];omega
   ·have fk:decide ((j1:Int)<(n:Int))=false:=decide_eq_false (by omega);have fk2:decide (j1<n)=false:=decide_eq_false hltj;obtain rfl:j1=n:=by omega
    have HM:=Lib.hid (M5.out.congr (fun a c _ hc=>stM_row Pk L j1 i1 a c hc));go_wp2_with fail;go_roundw;case rel=>exact⟨i1+1,by omega,by go_num,HM.out,B5.out⟩
    case measure=>simp [intOf];omega
  ·have ek:decide ((i1:Int)<(n:Int))=false:=decide_eq_false (by omega);have ek2:decide (i1<n)=false:=decide_eq_false hlti;obtain rfl:i1=n:=by omega
   have HM:=Lib.hid (M4.out.congr (fun a c ha _=>HALL.out a c ha));go_wp2_with fail;go_roundw;case rel=>exact⟨k+1,by omega,by go_num,HM.out,B4.out⟩
   case measure=>simp [intOf];omega
 ·have dk:decide ((k:Int)<(P.length:Int))=false:=decide_eq_false (by omega);have dk2:decide (k<P.length)=false:=decide_eq_false hlt;obtain rfl:k=P.length:=by omega
  rw [List.take_length]at M2;go_wp2_with fail;go_ret;exact⟨F,gs,rfl,by rw [←HB.out];exact M2.out,by rw [←HB.out];exact B2.out⟩
end Go.Proofs.YtnohcdpnnhmpfaaGreatDoor
