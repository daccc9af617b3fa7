/-
  Chapter 13, for Pairs: count.paths. Printed by tools/genpaths.py.
-/
import Derived.Test.YtnohcdpnnhmpfaaGreatDoorK30
set_option linter.unusedVariables false
set_option linter.unusedSimpArgs false
set_option maxRecDepth 100000
set_option maxHeartbeats 8000000
namespace Go.Proofs.YtnohcdpnnhmpfaaGreatDoor
open Go.RowKit ML FM AU CT
theorem MxO.drewN {B:Nat}{w:World}{F n:Nat}{gs:List Nat}{M:Mx}(h:MxO B w F n gs M)(m:Nat):MxO B (w.drewN m) F n gs M:=⟨h.len,h.head,h.ge,h.gge,h.nd,h.row⟩
def stE(M:Mx)(i j:Nat):Mx:=fun a c=>if a<i∨a=i∧c<j then edge M a c else 0
theorem stE_yes(M:Mx)(i j:Nat)(h:M j i<M i j)(a c:Nat):upd (stE M i j) i j (M i j) a c=stE M i (j+1) a c:=by
 unfold upd stE;by_cases e:a=i∧c=j
 ·obtain⟨rfl,rfl⟩:=e;rw [if_pos ⟨rfl,rfl⟩,if_pos (.inr ⟨rfl,by omega⟩)];unfold edge;rw [if_pos h]
 ·rw [if_neg e];have:(a<i∨a=i∧c<j)↔(a<i∨a=i∧c<j+1):=by omega
  simp only [this]
theorem stE_no(M:Mx)(i j:Nat)(h: ¬M j i<M i j)(a c:Nat):stE M i j a c=stE M i (j+1) a c:=by
 unfold stE;by_cases e:a=i∧c=j
 ·obtain⟨rfl,rfl⟩:=e;rw [if_neg (by omega),if_pos (.inr ⟨rfl,by omega⟩)];unfold edge;rw [if_neg h]
 ·have:(a<i∨a=i∧c<j)↔(a<i∨a=i∧c<j+1):=by omega
  simp only [this]
theorem stE_row(M:Mx)(n i a c:Nat)(hc:c<n):stE M i n a c=stE M (i+1) 0 a c:=by
 unfold stE;have:(a<i∨a=i∧c<n)↔(a<i+1∨a=i+1∧c<0):=by omega
 simp only [this]
theorem stE_all(M:Mx)(n a c:Nat)(ha:a<n):stE M n 0 a c=edge M a c:=by unfold stE;rw [if_pos (.inl ha)]
def stepM(W:Mx)(k:Nat):Mx:=fun a c=>if a=c then W a c else max (W a c) (min (W a k) (W k c))
def stF(W:Mx)(k i j:Nat):Mx:=fun a c=>if a<i∨a=i∧c<j then stepM W k a c else W a c
structure PathI(e:Mx)(n k:Nat)(W:Mx):Prop where
 sound:Sound e n W
 low: ∀i j,i<n→j<n→i≠j→e i j≤W i j
 closed:Closed n W k
theorem PathI.start {M:Mx}{n:Nat}(h: ∀i j,i<n→j<n→0≤M i j):PathI (edge M) n 0 (edge M):=
 ⟨⟨fun i _=>by unfold edge;rw [if_neg (by omega)],fun i j hi hj=>by unfold edge;split;exact h i j hi hj;omega,fun i j hi hj _ _=>.one hi hj (Int.le_refl _)⟩,fun i j _ _ _=>Int.le_refl _,fun i j k _ _ _ hk=>by omega⟩
theorem PathI.step {e W:Mx}{n k:Nat}(h:PathI e n k W)(hk:k<n):PathI e n (k+1) (stepM W k):=by
 have hz:=h.sound.zero;have hnn:=h.sound.nn;refine⟨⟨fun i hi=>by unfold stepM;rw [if_pos rfl];exact hz i hi,fun i j hi hj=>?_,fun i j hi hj hij hp=>?_⟩,fun i j hi hj hij=>?_,closed_step hk hz hnn (fun i j hi hj hij=>by unfold stepM;rw [if_neg hij]) (fun i hi=>by unfold stepM;rw [if_pos rfl];exact hz i hi) h.closed⟩
 ·unfold stepM;have:=hnn i j hi hj;split<;>omega
 ·unfold stepM at hp ⊢;rw [if_neg hij]at hp ⊢;have a:=hnn i j hi hj;have b:=hnn i k hi hk;have c:=hnn k j hk hj;by_cases hle:min (W i k) (W k j)≤W i j
  ·rw [Int.max_eq_left hle]at hp ⊢;exact h.sound.way i j hi hj hij hp
  ·have hik:i≠k:=fun e=>by subst e;have:=hz i hi;omega
   have hkj:k≠j:=fun e=>by subst e;have:=hz k hk;omega
   rw [Int.max_eq_right (by omega)]at hp ⊢;exact((h.sound.way i k hi hk hik (by omega)).mono (by omega)).trans ((h.sound.way k j hk hj hkj (by omega)).mono (by omega))
 ·unfold stepM;rw [if_neg hij];have:=h.low i j hi hj hij;omega
theorem PathI.done {e W:Mx}{n:Nat}(h:PathI e n n W):Strong e n W:=strong_of_closed h.sound h.low h.closed
theorem stF_zero(W:Mx)(k a c:Nat):W a c=stF W k 0 0 a c:=by unfold stF;rw [if_neg (by omega)]
theorem stF_same(W:Mx)(k i a c:Nat)(e:a=c)(j:Nat):stF W k i j a c=W a c:=by unfold stF stepM;subst e;simp
theorem stF_at(W:Mx)(k i j:Nat):stF W k i j i j=W i j:=by unfold stF;rw [if_neg (by omega)]
theorem stF_col {e W:Mx}{n k:Nat}(h:PathI e n k W)(hk:k<n)(i j a:Nat)(ha:a<n):stF W k i j a k=W a k:=by
 unfold stF stepM;have h1:=h.sound.zero k hk;have h2:=h.sound.nn a k ha hk;split
 ·split;·rfl
  ·rw [h1];omega
 ·rfl
theorem stF_line {e W:Mx}{n k:Nat}(h:PathI e n k W)(hk:k<n)(i j c:Nat)(hc:c<n):stF W k i j k c=W k c:=by
 unfold stF stepM;have h1:=h.sound.zero k hk;have h2:=h.sound.nn k c hk hc;split
 ·split;·rfl
  ·rw [h1];omega
 ·rfl
theorem stF_yes(W:Mx)(k i j:Nat)(hij:i≠j)(a c:Nat):upd (stF W k i j) i j (max (W i j) (min (W i k) (W k j))) a c=stF W k i (j+1) a c:=by
 unfold upd stF;by_cases e:a=i∧c=j
 ·obtain⟨rfl,rfl⟩:=e;rw [if_pos ⟨rfl,rfl⟩,if_pos (.inr ⟨rfl,by omega⟩)];unfold stepM;rw [if_neg hij]
 ·rw [if_neg e];have:(a<i∨a=i∧c<j)↔(a<i∨a=i∧c<j+1):=by omega
  simp only [this]
theorem stF_no(W:Mx)(k i j:Nat)(hij:i=j)(a c:Nat):stF W k i j a c=stF W k i (j+1) a c:=by
 by_cases e:a=i∧c=j
 ·obtain⟨rfl,rfl⟩:=e;rw [stF_same _ _ _ _ _ hij,stF_same _ _ _ _ _ hij]
 ·unfold stF;have:(a<i∨a=i∧c<j)↔(a<i∨a=i∧c<j+1):=by omega
  simp only [this]
theorem stF_row(W:Mx)(k n i a c:Nat)(hc:c<n):stF W k i n a c=stF W k (i+1) 0 a c:=by
 unfold stF;have:(a<i∨a=i∧c<n)↔(a<i+1∨a=i+1∧c<0):=by omega
 simp only [this]
theorem stF_all(W:Mx)(k n a c:Nat)(ha:a<n):stF W k n 0 a c=stepM W k a c:=by unfold stF;rw [if_pos (.inl ha)]
def PathGot(n:Nat)(M:Mx)(w:World)(e:Ending)(w':World):Prop:= ∃F gs W,e=.returned (.slice (some ⟨F,0,none⟩) n n)∧MxO w.heap.size w' F n gs W∧Strong (edge M) n W∧Below w.heap.size w w'
theorem paths_any(n:Nat)(M:Mx)(q:Addr)(cb:Nat)(w:World)(hM:MxR w (some q) n M)(hn:n≤12)(h0: ∀i j,i<n→j<n→0≤M i j):
 Calls Tryz.prog 52 #[.slice (some q) n cb] w (PathGot n M w):=by
 have HM:=Lib.hid hM;have H0:=Lib.hid h0;have QS:=Lib.hid (fun w=>square_any n w hn);clear hM h0;obtain⟨B,hB⟩: ∃B,B=w.heap.size:=⟨_,rfl⟩;have HB:=Lib.hid hB;clear hB;go_enter Tryz.func52,Tryz.ntmps52;go_upto_region 2 with(go_at_call 97;refine(QS.out w).mono ?_;rintro e w1 ⟨F,gs,rfl,hm1,hb1⟩;dsimp only);have M1:=Lib.hid (show MxO B w1 F n gs (stE M 0 0)by rw [HB.out];exact hm1.congr (fun i j _ _=>by unfold stE;rw [if_neg (by omega)]));have B1:=Lib.hid (show Below B w w1 by rw [HB.out];exact hb1);have HL:=Lib.hid hm1.len;clear hm1 hb1;go_wp2_with fail;go_loopw [14] (fun i wr=> ∃i1:Nat,i1≤n∧i=.int .i64 i1∧MxO B wr F n gs (stE M i1 0)∧Below B w wr) (fun i _=>n-(intOf i).toNat);case atStart=>exact⟨0,Nat.zero_le _,rfl,M1.out,B1.out⟩
 case round=>
 clear M1 B1;obtain⟨i1,hi1,rfl,hm,hb⟩:=hrel;have M2:=Lib.hid hm;have B2:=Lib.hid hb;clear hm hb;by_cases hlti:i1<n
 ·have ek:decide ((i1:Int)<(n:Int))=true:=decide_eq_true (by omega);have ek2:decide (i1<n)=true:=decide_eq_true hlti;have eki:(i1:Int)<(n:Int):=by omega
  have hig:i1<gs.length:=by rw [HL.out];exact hlti
  obtain⟨wp,hwp⟩: ∃wp:World,wp=wr:=⟨_,rfl⟩;subst hwp;go_wp2_with fail;go_loopw [19] (fun i wr=> ∃j1:Nat,j1≤n∧i=.int .i64 j1∧MxO B wr F n gs (stE M i1 j1)∧Below B w wr) (fun i _=>n-(intOf i).toNat);case atStart=>exact⟨0,Nat.zero_le _,rfl,M2.out,B2.out⟩
  case round=>
  clear M2 B2;obtain⟨j1,hj1,rfl,hm,hb⟩:=hrel;have M5:=Lib.hid hm;have B5:=Lib.hid hb;clear hm hb;by_cases hltj:j1<n
  ·have fk:decide ((j1:Int)<(n:Int))=true:=decide_eq_true (by omega);have fk2:decide (j1<n)=true:=decide_eq_true hltj;have fki:(j1:Int)<(n:Int):=by omega
   have HMr:=Lib.hid (HM.out.below (HB.out▸B5.out));obtain⟨a,ha,hab,b,cbi,hbb,hci,hcj⟩:=HMr.out.cells i1 hlti;obtain rfl:q=a:=by injection ha
   obtain⟨a,ha,_,b',cbj,hbb',hci',hcj'⟩:=HMr.out.cells j1 hltj;obtain rfl:q=a:=by injection ha
   have k1:=hcj j1 hltj;have k2:=hcj' i1 hlti;have kF:wr.cell? ⟨F,i1,none⟩=some (.slice (some ⟨gs[i1],0,none⟩) n n):=M5.out.cellF i1 hig;have kG:=M5.out.cellG i1 j1 hig hltj;have fG:wr.frozen? ⟨gs[i1],j1,none⟩=false:=M5.out.froz i1 j1 hig;have MS:=Lib.hid (fun m=>(M5.out.drewN m).set i1 j1 hig hltj (M i1 j1));have HYES:=Lib.hid (stE_yes M i1 j1);have HNO:=Lib.hid (stE_no M i1 j1);have hGB:=(M5.out.gge _ (List.getElem_mem hig)).1;clear hcj hcj' ha;generalize gs[i1]=G at*;generalize stE M i1 j1 i1 j1=z at*;generalize M i1 j1=x at*;generalize M j1 i1=y at*;by_cases hxy:y<x
   ·have g0:decide (y<x)=true:=decide_eq_true hxy;have HMM:=Lib.hid (fun m=>(MS.out m).congr (fun a c _ _=>HYES.out hxy a c));clear hxy HYES HNO MS;go_upto_region 8 with(fail)
    go_quiet (fail)
    go_wp2_with fail;refine Seg.wp_region_segs (fun w'=> ∃m,w'=wr.drewN m) [] [0,1,2,3,4,5,6,7,8,9,10,11] 12 (by kernel_rfl) (by kernel_rfl) (fun _ _ d _ _ h=>by cases d<;>exact h) (⟨_+1,rfl⟩) ?_;simp only [List.map_cons,List.map_nil,Seg.opAt,List.drop_succ_cons,List.drop_zero,Seg.wpSegs,Array.getD_eq_getD_getElem?,List.getElem?_toArray,List.getElem?_cons_succ,List.getElem?_cons_zero,Option.getD_some];repeat (any_goals (first|go_big_quiet_step (fail)|quiet_step (fail)))
    refine wpQuiet_nil ?_;go_wp2_with fail;go_roundw;case rel=>exact⟨j1+1,by omega,by go_num,HMM.out _,(bel_drewN B5.out _).setCell hGB _⟩
    case measure=>simp [intOf];omega
   ·have g0:decide (y<x)=false:=decide_eq_false hxy;have HMM:=Lib.hid (fun m=>(M5.out.drewN m).congr (fun a c _ _=>HNO.out hxy a c));clear hxy HYES HNO MS;go_upto_region 8 with(fail)
    go_quiet (fail)
    go_wp2_with fail;go_roundw;case rel=>exact⟨j1+1,by omega,by go_num,HMM.out _,bel_drewN B5.out _⟩
    case measure=>simp [intOf];omega
  ·have fk:decide ((j1:Int)<(n:Int))=false:=decide_eq_false (by omega);have fk2:decide (j1<n)=false:=decide_eq_false hltj;obtain rfl:j1=n:=by omega
   have HMM:=Lib.hid (M5.out.congr (fun a c _ hc=>stE_row M j1 i1 a c hc));go_wp2_with fail;go_roundw;case rel=>exact⟨i1+1,by omega,by go_num,HMM.out,B5.out⟩
   case measure=>simp [intOf];omega
 ·have ek:decide ((i1:Int)<(n:Int))=false:=decide_eq_false (by omega);have ek2:decide (i1<n)=false:=decide_eq_false hlti;obtain rfl:i1=n:=by omega
  have M3:=Lib.hid (M2.out.congr (fun a c ha _=>stE_all M i1 a c ha));have PI:=Lib.hid (PathI.start H0.out);clear M2 hlti ek ek2 hi1
  as_aux_lemma=>
  clear HM H0 QS;go_wp2_with fail;go_loopw [54] (fun i wr=> ∃k:Nat,k≤i1∧i=.int .i64 k∧Below B w wr∧ ∃W,MxO B wr F i1 gs W∧PathI (edge M) i1 k W) (fun i _=>i1-(intOf i).toNat);case atStart=>exact⟨0,Nat.zero_le _,rfl,B2.out,_,M3.out,PI.out⟩
  case round=>
  clear M3 PI B2;obtain⟨k,hk,rfl,hb,W,hm,hpi⟩:=hrel;have M2:=Lib.hid hm;have B2:=Lib.hid hb;have PI:=Lib.hid hpi;clear hm hb hpi;by_cases hltk:k<i1
  ·have dk:decide ((k:Int)<(i1:Int))=true:=decide_eq_true (by omega);have dk2:decide (k<i1)=true:=decide_eq_true hltk;have dki:(k:Int)<(i1:Int):=by omega
   have hkg:k<gs.length:=by rw [HL.out];exact hltk
   have M3:=Lib.hid (M2.out.congr (fun a c _ _=>stF_zero W k a c));have PIS:=Lib.hid (PI.out.step hltk);clear M2;obtain⟨wo,hwo⟩: ∃wo:World,wo=wr:=⟨_,rfl⟩;subst hwo;go_wp2_with fail;go_loopw [59] (fun i wr=> ∃a1:Nat,a1≤i1∧i=.int .i64 a1∧MxO B wr F i1 gs (stF W k a1 0)∧Below B w wr) (fun i _=>i1-(intOf i).toNat);case atStart=>exact⟨0,Nat.zero_le _,rfl,M3.out,B2.out⟩
   case round=>
   clear M3 B2;obtain⟨a1,ha1,rfl,hm,hb⟩:=hrel;have M2:=Lib.hid hm;have B2:=Lib.hid hb;clear hm hb;by_cases hlta:a1<i1
   ·have ek:decide ((a1:Int)<(i1:Int))=true:=decide_eq_true (by omega);have ek2:decide (a1<i1)=true:=decide_eq_true hlta;have eki:(a1:Int)<(i1:Int):=by omega
    have hag:a1<gs.length:=by rw [HL.out];exact hlta
    obtain⟨wp,hwp⟩: ∃wp:World,wp=wr:=⟨_,rfl⟩;subst hwp;go_wp2_with fail;go_loopw [64] (fun i wr=> ∃j1:Nat,j1≤i1∧i=.int .i64 j1∧MxO B wr F i1 gs (stF W k a1 j1)∧Below B w wr) (fun i _=>i1-(intOf i).toNat);case atStart=>exact⟨0,Nat.zero_le _,rfl,M2.out,B2.out⟩
    case round=>
    clear M2 B2;obtain⟨j1,hj1,rfl,hm,hb⟩:=hrel;have M5:=Lib.hid hm;have B5:=Lib.hid hb;clear hm hb;by_cases hltj:j1<i1
    ·have fk:decide ((j1:Int)<(i1:Int))=true:=decide_eq_true (by omega);have fk2:decide (j1<i1)=true:=decide_eq_true hltj;have fki:(j1:Int)<(i1:Int):=by omega
     by_cases haj:a1=j1
     ·have g1:((a1:Int) !=(j1:Int))=false:=by rw [haj];simp
      have g2:(a1 !=j1)=false:=by rw [haj];simp
      have HMM:=Lib.hid (M5.out.congr (fun a c _ _=>stF_no W k a1 j1 haj a c));clear haj;go_wp2_with fail;go_roundw;case rel=>exact⟨j1+1,by omega,by go_num,HMM.out,B5.out⟩
      case measure=>simp [intOf];omega
     ·have g1:((a1:Int) !=(j1:Int))=true:=by rw [bne_iff_ne];omega
      have g2:(a1 !=j1)=true:=by rw [bne_iff_ne];exact haj
      have kFa:wr.cell? ⟨F,a1,none⟩=some (.slice (some ⟨gs[a1],0,none⟩) i1 i1):=M5.out.cellF a1 hag;have kFk:wr.cell? ⟨F,k,none⟩=some (.slice (some ⟨gs[k],0,none⟩) i1 i1):=M5.out.cellF k hkg;have kaj:wr.cell? ⟨gs[a1],j1,none⟩=some (.int .i64 (W a1 j1)):=by rw [M5.out.cellG a1 j1 hag hltj,stF_at]
      have kak:wr.cell? ⟨gs[a1],k,none⟩=some (.int .i64 (W a1 k)):=by rw [M5.out.cellG a1 k hag hltk,stF_col PI.out hltk _ _ _ hlta]
      have kkj:wr.cell? ⟨gs[k],j1,none⟩=some (.int .i64 (W k j1)):=by rw [M5.out.cellG k j1 hkg hltj,stF_line PI.out hltk _ _ _ hltj]
      have fG:wr.frozen? ⟨gs[a1],j1,none⟩=false:=M5.out.froz a1 j1 hag;have HYES:=stF_yes W k a1 j1 haj;have MS:=Lib.hid (fun m=>((M5.out.drewN m).set a1 j1 hag hltj (max (W a1 j1) (min (W a1 k) (W k j1)))).congr (fun a c _ _=>HYES a c));have hGB:=(M5.out.gge _ (List.getElem_mem hag)).1;clear HYES haj;generalize W a1 j1=x at*;generalize W a1 k=y at*;generalize W k j1=z at*;generalize gs[a1]=Ga at*;generalize gs[k]=Gk at*;have HV:=Lib.hid (show max x (min y z)=if x<(if z<y then z else y)then(if z<y then z else y)else x by split<;>split<;>omega);rw [HV.out]at MS;go_upto_region 22 with(fail);refine Seg.wp_region_segs (fun w'=> ∃m,w'=wr.drewN m) [] [0,1,2,3,4,5,6,7,8,9,10,11,12,13,14,15,16,17,18,19,20,21,22,23,24,25,26,27] 28 (by kernel_rfl) (by kernel_rfl) (fun _ _ d _ _ h=>by cases d<;>exact h) (⟨1,rfl⟩) ?_;simp only [List.map_cons,List.map_nil,Seg.opAt,List.drop_succ_cons,List.drop_zero,Seg.wpSegs,Array.getD_eq_getD_getElem?,List.getElem?_toArray,List.getElem?_cons_succ,List.getElem?_cons_zero,Option.getD_some];repeat (any_goals (first|go_big_quiet_step (fail)|quiet_step (fail)))
      refine wpQuiet_nil ?_;go_wp2_with fail;go_roundw;case rel=>exact⟨j1+1,by omega,by go_num,MS.out _,(bel_drewN B5.out _).setCell hGB _⟩
      case measure=>simp [intOf];omega
    ·have fk:decide ((j1:Int)<(i1:Int))=false:=decide_eq_false (by omega);have fk2:decide (j1<i1)=false:=decide_eq_false hltj;obtain rfl:j1=i1:=by omega
     have HMM:=Lib.hid (M5.out.congr (fun a c _ hc=>stF_row W k j1 a1 a c hc));go_wp2_with fail;go_roundw;case rel=>exact⟨a1+1,by omega,by go_num,HMM.out,B5.out⟩
     case measure=>simp [intOf];omega
   ·have ek:decide ((a1:Int)<(i1:Int))=false:=decide_eq_false (by omega);have ek2:decide (a1<i1)=false:=decide_eq_false hlta;obtain rfl:a1=i1:=by omega
    have HMM:=Lib.hid (M2.out.congr (fun a c ha _=>stF_all W k a1 a c ha));go_wp2_with fail;go_roundw;case rel=>exact⟨k+1,by omega,by go_num,B2.out,_,HMM.out,PIS.out⟩
    case measure=>simp [intOf];omega
  ·have dk:decide ((k:Int)<(i1:Int))=false:=decide_eq_false (by omega);have dk2:decide (k<i1)=false:=decide_eq_false hltk;obtain rfl:k=i1:=by omega
   go_wp2_with fail;go_ret;exact⟨F,gs,W,rfl,by rw [←HB.out];exact M2.out,PI.out.done,by rw [←HB.out];exact B2.out⟩
end Go.Proofs.YtnohcdpnnhmpfaaGreatDoor
