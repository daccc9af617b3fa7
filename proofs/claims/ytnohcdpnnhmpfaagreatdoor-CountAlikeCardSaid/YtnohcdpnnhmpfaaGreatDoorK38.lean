/-
  The reference's steps as plain functions: which words each step takes; eight steps are one quarter. No program in sight.
  The reference's Stir: its steps, one by one, for any words.
  The reference's start and Press: for any words.
-/
import Derived.Test.YtnohcdpnnhmpfaaGreatDoorK37
import Derived.Deep.RegionHeld
import Derived.Test.YtnohcdpnnhmpfaaGreatDoorK10
set_option linter.unusedVariables false
set_option linter.unusedSimpArgs false
set_option maxRecDepth 100000
set_option maxHeartbeats 4000000
namespace Go.Proofs.YtnohcdpnnhmpfaaGreatDoor.FM
open Go.RowKit ML
def sA(n:Nat):Nat:=if n%4=0 then ca (n/8%8)else if n%4=1 then cd (n/8%8)else if n%4=2 then cc (n/8%8)else cb (n/8%8)
def sO(n:Nat):Nat:=if n%4=0 then cb (n/8%8)else if n%4=1 then ca (n/8%8)else if n%4=2 then cd (n/8%8)else cc (n/8%8)
def sM(n:Nat):Int:=if n%8=0 then placeN (n/8/8) (2* (n/8%8))else if n%8=4 then placeN (n/8/8) (2* (n/8%8)+1)else -1
def sT(n:Nat):Nat:=if n%8=1 then 16 else if n%8=3 then 12 else if n%8=5 then 8 else if n%8=7 then 7 else 0
theorem sA_lt(n:Nat):sA n<16:=by
 have D:=dist (n/8%8);unfold sA;repeat' split
 ·exact D.la
 ·exact D.ld
 ·exact D.lc
 ·exact D.lb
theorem sO_lt(n:Nat):sO n<16:=by
 have D:=dist (n/8%8);unfold sO;repeat' split
 ·exact D.lb
 ·exact D.la
 ·exact D.ld
 ·exact D.lc
theorem sT_lt(n:Nat):sT n<32:=by
 unfold sT;repeat' split
 all_goals decide
theorem sM_lt(n:Nat)(h:n<640):sM n<16:=by
 unfold sM;repeat' split
 ·have:=placeN_lt (n/8/8) (2* (n/8%8)) (by omega) (by omega);omega
 ·have:=placeN_lt (n/8/8) (2* (n/8%8)+1) (by omega) (by omega);omega
 ·decide
def row4(n:Nat):List Int:= [(sA n:Int),(sO n:Int),sM n,(sT n:Int)]
theorem stepsK_prefix: ∀(m k:Nat),k≤m→ ∃r,stepsK m=stepsK k++r
 |0,k,h=>⟨[],by
  obtain rfl:k=0:=by omega
  simp⟩
 |
  m+1,k,h=>by
  rcases Nat.lt_or_ge m k with h1|h1
  ·obtain rfl:k=m+1:=by omega
   exact⟨[],by simp⟩
  ·obtain⟨r,hr⟩:=stepsK_prefix m k h1;exact⟨r++eight m,by rw [stepsK,hr,List.append_assoc]⟩
theorem eight_get(k q r:Nat)(hq:q<8)(hr:r<4):(eight k)[4*q+r]?=(row4 (8*k+q))[r]?:=by
 unfold row4 sA sO sM sT;rw [show(8*k+q)/8=k by omega,show(8*k+q)%8=q by omega,show(8*k+q)%4=q%4 by omega]
 match q,hq with
 |
  0,_=>match r,hr with
  |0,_=>simp [eight,stp]
  |1,_=>simp [eight,stp]
  |2,_=>simp [eight,stp]
  |3,_=>simp [eight,stp]
 |
  1,_=>match r,hr with
  |0,_=>simp [eight,stp]
  |1,_=>simp [eight,stp]
  |2,_=>simp [eight,stp]
  |3,_=>simp [eight,stp]
 |
  2,_=>match r,hr with
  |0,_=>simp [eight,stp]
  |1,_=>simp [eight,stp]
  |2,_=>simp [eight,stp]
  |3,_=>simp [eight,stp]
 |
  3,_=>match r,hr with
  |0,_=>simp [eight,stp]
  |1,_=>simp [eight,stp]
  |2,_=>simp [eight,stp]
  |3,_=>simp [eight,stp]
 |
  4,_=>match r,hr with
  |0,_=>simp [eight,stp]
  |1,_=>simp [eight,stp]
  |2,_=>simp [eight,stp]
  |3,_=>simp [eight,stp]
 |
  5,_=>match r,hr with
  |0,_=>simp [eight,stp]
  |1,_=>simp [eight,stp]
  |2,_=>simp [eight,stp]
  |3,_=>simp [eight,stp]
 |
  6,_=>match r,hr with
  |0,_=>simp [eight,stp]
  |1,_=>simp [eight,stp]
  |2,_=>simp [eight,stp]
  |3,_=>simp [eight,stp]
 |
  7,_=>match r,hr with
  |0,_=>simp [eight,stp]
  |1,_=>simp [eight,stp]
  |2,_=>simp [eight,stp]
  |3,_=>simp [eight,stp]
theorem length_eight(k:Nat):(eight k).length=32:=rfl
theorem steps_get(n r:Nat)(hn:n<640)(hr:r<4):(stepsK 80)[4*n+r]?=(row4 n)[r]?:=by
 obtain⟨t,ht⟩:=stepsK_prefix 80 (n/8+1) (by omega);have hl:=length_stepsK (n/8)
 rw [ht,stepsK,List.append_assoc,List.getElem?_append_right (by omega),List.getElem?_append_left (by rw [length_eight];omega),hl,
  show 4*n+r-32* (n/8)=4* (n%8)+r by omega,eight_get _ _ _ (by omega) hr,show 8* (n/8)+n%8=n by omega]
def stepV(V M:List U)(n:Nat):List U:=
 if 0<sT n then V.set (sA n) ((V.getD (sA n) 0 ^^^ V.getD (sO n) 0).rotateRight (sT n))
 else if 0≤sM n then(V.set (sA n) (V.getD (sA n) 0+V.getD (sO n) 0)).set (sA n) ((V.getD (sA n) 0+V.getD (sO n) 0)+M.getD (sM n).toNat 0)
 else V.set (sA n) (V.getD (sA n) 0+V.getD (sO n) 0)
def refK(V M:List U):Nat→List U
 |0=>V
 |n+1=>stepV (refK V M n) M n
theorem length_stepV(V M:List U)(n:Nat):(stepV V M n).length=V.length:=by
 unfold stepV;repeat' split
 all_goals simp
theorem length_refK(V M:List U): ∀n,(refK V M n).length=V.length
 |0=>rfl
 |n+1=>by rw [refK,length_stepV,length_refK V M n]
def backV(V M:List U)(n:Nat):List U:=
 if 0<sT n then V.set (sA n) ((V.getD (sA n) 0).rotateRight (32-sT n)^^^ V.getD (sO n) 0)
 else if 0≤sM n then(V.set (sA n) (V.getD (sA n) 0-V.getD (sO n) 0)).set (sA n) ((V.getD (sA n) 0-V.getD (sO n) 0)-M.getD (sM n).toNat 0)
 else V.set (sA n) (V.getD (sA n) 0-V.getD (sO n) 0)
def backK(V M:List U):Nat→List U
 |0=>V
 |n+1=>backV (backK V M n) M (639-n)
theorem stepV_q(V M:List U)(k q:Nat)(hq:q<8):stepV V M (8*k+q)=
 (
  let i:=k%8
  if q=0 then(V.set (ca i) (V.getD (ca i) 0+V.getD (cb i) 0)).set (ca i) ((V.getD (ca i) 0+V.getD (cb i) 0)+M.getD (placeN (k/8) (2*i)) 0)
  else if q=1 then V.set (cd i) ((V.getD (cd i) 0 ^^^ V.getD (ca i) 0).rotateRight 16)
  else if q=2 then V.set (cc i) (V.getD (cc i) 0+V.getD (cd i) 0)
  else if q=3 then V.set (cb i) ((V.getD (cb i) 0 ^^^ V.getD (cc i) 0).rotateRight 12)
  else if q=4 then(V.set (ca i) (V.getD (ca i) 0+V.getD (cb i) 0)).set (ca i) ((V.getD (ca i) 0+V.getD (cb i) 0)+M.getD (placeN (k/8) (2*i+1)) 0)
  else if q=5 then V.set (cd i) ((V.getD (cd i) 0 ^^^ V.getD (ca i) 0).rotateRight 8)
  else if q=6 then V.set (cc i) (V.getD (cc i) 0+V.getD (cd i) 0)
  else V.set (cb i) ((V.getD (cb i) 0 ^^^ V.getD (cc i) 0).rotateRight 7)):=by
 unfold stepV sA sO sM sT;rw [show(8*k+q)/8=k by omega,show(8*k+q)%8=q by omega,show(8*k+q)%4=q%4 by omega]
 match q,hq with
 |0,_=>simp
 |1,_=>simp
 |2,_=>simp
 |3,_=>simp
 |4,_=>simp
 |5,_=>simp
 |6,_=>simp
 |7,_=>simp
theorem put4_seta(V:List U)(a b c d:Nat)(xa xb xc xd y:U)(hl:V.length=16)(D:Dist a b c d):(put4 V a b c d xa xb xc xd).set a y=put4 V a b c d y xb xc xd:=by
 refine ext16 _ _ (by simp [put4_length]) (fun j _=>?_);rw [getD_set _ _ _ _ (by rw [put4_length,hl];exact D.la),put4_get _ _ _ _ _ _ _ _ _ hl D,put4_get _ _ _ _ _ _ _ _ _ hl D];have:=D.ab;have:=D.ac;have:=D.ad
 repeat' split
 all_goals first|rfl|omega
theorem put4_setb(V:List U)(a b c d:Nat)(xa xb xc xd y:U)(hl:V.length=16)(D:Dist a b c d):(put4 V a b c d xa xb xc xd).set b y=put4 V a b c d xa y xc xd:=by
 refine ext16 _ _ (by simp [put4_length]) (fun j _=>?_);rw [getD_set _ _ _ _ (by rw [put4_length,hl];exact D.lb),put4_get _ _ _ _ _ _ _ _ _ hl D,put4_get _ _ _ _ _ _ _ _ _ hl D];have:=D.ab;have:=D.bc;have:=D.bd
 repeat' split
 all_goals first|rfl|omega
theorem put4_setc(V:List U)(a b c d:Nat)(xa xb xc xd y:U)(hl:V.length=16)(D:Dist a b c d):(put4 V a b c d xa xb xc xd).set c y=put4 V a b c d xa xb y xd:=by
 refine ext16 _ _ (by simp [put4_length]) (fun j _=>?_);rw [getD_set _ _ _ _ (by rw [put4_length,hl];exact D.lc),put4_get _ _ _ _ _ _ _ _ _ hl D,put4_get _ _ _ _ _ _ _ _ _ hl D];have:=D.ac;have:=D.bc;have:=D.cd
 repeat' split
 all_goals first|rfl|omega
theorem put4_setd(V:List U)(a b c d:Nat)(xa xb xc xd y:U)(hl:V.length=16)(D:Dist a b c d):(put4 V a b c d xa xb xc xd).set d y=put4 V a b c d xa xb xc y:=by
 refine ext16 _ _ (by simp [put4_length]) (fun j _=>?_);rw [getD_set _ _ _ _ (by rw [put4_length,hl];exact D.ld),put4_get _ _ _ _ _ _ _ _ _ hl D,put4_get _ _ _ _ _ _ _ _ _ hl D];have:=D.ad;have:=D.bd;have:=D.cd
 repeat' split
 all_goals first|rfl|omega
theorem step_put0(V M:List U)(k:Nat)(xa xb xc xd:U)(hl:V.length=16):
 stepV (put4 V (ca (k%8)) (cb (k%8)) (cc (k%8)) (cd (k%8)) xa xb xc xd) M (8*k+0)=put4 V (ca (k%8)) (cb (k%8)) (cc (k%8)) (cd (k%8)) (xa+(xb+M.getD (placeN (k/8) (2* (k%8))) 0)) xb xc xd:=by
 have D:=dist (k%8);obtain⟨g1,g2,g3,g4⟩:=put4_gets V _ _ _ _ xa xb xc xd hl D;rw [stepV_q _ _ k 0 (by decide)];simp only [if_true,if_false,Nat.reduceEqDiff,List.set_set,g1,g2,g3,g4,put4_seta _ _ _ _ _ _ _ _ _ _ hl D,BitVec.add_assoc]
theorem step_put1(V M:List U)(k:Nat)(xa xb xc xd:U)(hl:V.length=16):
 stepV (put4 V (ca (k%8)) (cb (k%8)) (cc (k%8)) (cd (k%8)) xa xb xc xd) M (8*k+1)=put4 V (ca (k%8)) (cb (k%8)) (cc (k%8)) (cd (k%8)) xa xb xc ((xd ^^^ xa).rotateRight 16):=by
 have D:=dist (k%8);obtain⟨g1,g2,g3,g4⟩:=put4_gets V _ _ _ _ xa xb xc xd hl D;rw [stepV_q _ _ k 1 (by decide)];simp only [if_true,if_false,Nat.reduceEqDiff,List.set_set,g1,g2,g3,g4,put4_setd _ _ _ _ _ _ _ _ _ _ hl D,BitVec.add_assoc]
theorem step_put2(V M:List U)(k:Nat)(xa xb xc xd:U)(hl:V.length=16):
 stepV (put4 V (ca (k%8)) (cb (k%8)) (cc (k%8)) (cd (k%8)) xa xb xc xd) M (8*k+2)=put4 V (ca (k%8)) (cb (k%8)) (cc (k%8)) (cd (k%8)) xa xb (xc+xd) xd:=by
 have D:=dist (k%8);obtain⟨g1,g2,g3,g4⟩:=put4_gets V _ _ _ _ xa xb xc xd hl D;rw [stepV_q _ _ k 2 (by decide)];simp only [if_true,if_false,Nat.reduceEqDiff,List.set_set,g1,g2,g3,g4,put4_setc _ _ _ _ _ _ _ _ _ _ hl D,BitVec.add_assoc]
theorem step_put3(V M:List U)(k:Nat)(xa xb xc xd:U)(hl:V.length=16):
 stepV (put4 V (ca (k%8)) (cb (k%8)) (cc (k%8)) (cd (k%8)) xa xb xc xd) M (8*k+3)=put4 V (ca (k%8)) (cb (k%8)) (cc (k%8)) (cd (k%8)) xa ((xb ^^^ xc).rotateRight 12) xc xd:=by
 have D:=dist (k%8);obtain⟨g1,g2,g3,g4⟩:=put4_gets V _ _ _ _ xa xb xc xd hl D;rw [stepV_q _ _ k 3 (by decide)];simp only [if_true,if_false,Nat.reduceEqDiff,List.set_set,g1,g2,g3,g4,put4_setb _ _ _ _ _ _ _ _ _ _ hl D,BitVec.add_assoc]
theorem step_put4(V M:List U)(k:Nat)(xa xb xc xd:U)(hl:V.length=16):
 stepV (put4 V (ca (k%8)) (cb (k%8)) (cc (k%8)) (cd (k%8)) xa xb xc xd) M (8*k+4)=put4 V (ca (k%8)) (cb (k%8)) (cc (k%8)) (cd (k%8)) (xa+(xb+M.getD (placeN (k/8) (2* (k%8)+1)) 0)) xb xc xd:=by
 have D:=dist (k%8);obtain⟨g1,g2,g3,g4⟩:=put4_gets V _ _ _ _ xa xb xc xd hl D;rw [stepV_q _ _ k 4 (by decide)];simp only [if_true,if_false,Nat.reduceEqDiff,List.set_set,g1,g2,g3,g4,put4_seta _ _ _ _ _ _ _ _ _ _ hl D,BitVec.add_assoc]
theorem step_put5(V M:List U)(k:Nat)(xa xb xc xd:U)(hl:V.length=16):
 stepV (put4 V (ca (k%8)) (cb (k%8)) (cc (k%8)) (cd (k%8)) xa xb xc xd) M (8*k+5)=put4 V (ca (k%8)) (cb (k%8)) (cc (k%8)) (cd (k%8)) xa xb xc ((xd ^^^ xa).rotateRight 8):=by
 have D:=dist (k%8);obtain⟨g1,g2,g3,g4⟩:=put4_gets V _ _ _ _ xa xb xc xd hl D;rw [stepV_q _ _ k 5 (by decide)];simp only [if_true,if_false,Nat.reduceEqDiff,List.set_set,g1,g2,g3,g4,put4_setd _ _ _ _ _ _ _ _ _ _ hl D,BitVec.add_assoc]
theorem step_put6(V M:List U)(k:Nat)(xa xb xc xd:U)(hl:V.length=16):
 stepV (put4 V (ca (k%8)) (cb (k%8)) (cc (k%8)) (cd (k%8)) xa xb xc xd) M (8*k+6)=put4 V (ca (k%8)) (cb (k%8)) (cc (k%8)) (cd (k%8)) xa xb (xc+xd) xd:=by
 have D:=dist (k%8);obtain⟨g1,g2,g3,g4⟩:=put4_gets V _ _ _ _ xa xb xc xd hl D;rw [stepV_q _ _ k 6 (by decide)];simp only [if_true,if_false,Nat.reduceEqDiff,List.set_set,g1,g2,g3,g4,put4_setc _ _ _ _ _ _ _ _ _ _ hl D,BitVec.add_assoc]
theorem step_put7(V M:List U)(k:Nat)(xa xb xc xd:U)(hl:V.length=16):
 stepV (put4 V (ca (k%8)) (cb (k%8)) (cc (k%8)) (cd (k%8)) xa xb xc xd) M (8*k+7)=put4 V (ca (k%8)) (cb (k%8)) (cc (k%8)) (cd (k%8)) xa ((xb ^^^ xc).rotateRight 7) xc xd:=by
 have D:=dist (k%8);obtain⟨g1,g2,g3,g4⟩:=put4_gets V _ _ _ _ xa xb xc xd hl D;rw [stepV_q _ _ k 7 (by decide)];simp only [if_true,if_false,Nat.reduceEqDiff,List.set_set,g1,g2,g3,g4,put4_setb _ _ _ _ _ _ _ _ _ _ hl D,BitVec.add_assoc]
theorem quarter_put(V:List U)(a b c d:Nat)(x y:U)(hl:V.length=16)(D:Dist a b c d):quarterL V a b c d x y=
 (
  let va:=V.getD a 0;let vb:=V.getD b 0;let vc:=V.getD c 0;let vd:=V.getD d 0
  let a1:=va+(vb+x);let d1:=(vd ^^^ a1).rotateRight 16;let c1:=vc+d1;let b1:=(vb ^^^ c1).rotateRight 12
  let a2:=a1+(b1+y);let d2:=(d1 ^^^ a2).rotateRight 8;let c2:=c1+d2;let b2:=(b1 ^^^ c2).rotateRight 7
  put4 V a b c d a2 b2 c2 d2):=set8_q V a b c d _ _ _ _ _ _ _ _ hl D
theorem ref_quarter(V M:List U)(k:Nat)(hl:V.length=16):
 stepV (stepV (stepV (stepV (stepV (stepV (stepV (stepV V M (8*k+0)) M (8*k+1)) M (8*k+2)) M (8*k+3)) M (8*k+4)) M (8*k+5)) M (8*k+6)) M (8*k+7)=qstep V M k:=by
 have D:=dist (k%8);have hv:V=put4 V (ca (k%8)) (cb (k%8)) (cc (k%8)) (cd (k%8)) (V.getD (ca (k%8)) 0) (V.getD (cb (k%8)) 0) (V.getD (cc (k%8)) 0) (V.getD (cd (k%8)) 0):=(put4_same V _ _ _ _ hl D).symm;have h0:stepV V M (8*k+0)=_:=(congrArg (fun W=>stepV W M (8*k+0)) hv).trans (step_put0 V M k _ _ _ _ hl);rw [h0,step_put1 _ _ _ _ _ _ _ hl,step_put2 _ _ _ _ _ _ _ hl,step_put3 _ _ _ _ _ _ _ hl,step_put4 _ _ _ _ _ _ _ hl,step_put5 _ _ _ _ _ _ _ hl,step_put6 _ _ _ _ _ _ _ hl,step_put7 _ _ _ _ _ _ _ hl];exact(quarter_put V _ _ _ _ _ _ hl D).symm
theorem ref_stir(V M:List U)(hl:V.length=16): ∀k,refK V M (8*k)=stirK V M k
 |0=>rfl
 |
  k+1=>by
  rw [show 8* (k+1)=8*k+1+1+1+1+1+1+1+1 by omega];simp only [refK];rw [ref_stir V M hl k,stirK];exact ref_quarter _ _ _ (by rw [length_stirK,hl])
end Go.Proofs.YtnohcdpnnhmpfaaGreatDoor.FM
namespace Go.Proofs.YtnohcdpnnhmpfaaGreatDoor
open Go.RowKit ML FM
structure RefSt(B:Nat)(w:World)(g:Nat)(cur:Array Value)(M Z:List U)(wr:World):Prop where
 below:Below B w wr
 v:wr.heap[B]?=some (.cells (vals Z) 235 (0,0))
 m:wr.heap[B+1]?=some (.cells (vals M) 235 (0,0))
 r:wr.heap[B+2]?=some (.cells (vals (List.replicate 16 0)) 235 (0,0))
 s:wr.heap[g]?=some (.cells cur 273 (0,0))
 ge:B+3≤g
theorem RefSt.turned {B:Nat}{w:World}{g:Nat}{cur:Array Value}{M Z Z':List U}{wr w1:World}(h:RefSt B w g cur M Z wr)(ho:Only B wr w1)
 (hp:w1.heap[B]?=some (.cells (vals Z') 235 (0,0))):RefSt B w g cur M Z' w1:=
 ⟨bel_only h.below ho (Nat.le_refl _),hp,ho.keep (by omega) h.m,ho.keep (by omega) h.r,ho.keep (by have:=h.ge;omega) h.s,h.ge⟩
theorem RefSt.alloc {B:Nat}{w:World}{g:Nat}{cur:Array Value}{M Z:List U}{wr:World}(h:RefSt B w g cur M Z wr)(o:Obj):RefSt B w g cur M Z (wr.alloc o):=
 ⟨h.below.alloc (Nat.le_of_lt (lt_of_heap h.v)) o,heap_lt h.v,heap_lt h.m,heap_lt h.r,heap_lt h.s,h.ge⟩
theorem steps_cell {w:World}{g:Nat}{cur:Array Value}{T:TypeId}(h:w.heap[g]?=some (.cells cur T (0,0)))(hx:cur.toList.take 2560=i64s (stepsK 80))(n r:Nat)(x:Int)(hn:n<640)(hr:r<4)
 (hv:(row4 n)[r]?=some x):w.cell? ⟨g,4*n+r,none⟩=some (.int .i64 x):=by
 rw [cell_of_row w g _ _ _ _ h];have h1:(cur.toList.take 2560)[4*n+r]?=some (.int .i64 x):=by
  rw [hx,i64s,List.getElem?_map,steps_get n r hn hr,hv];rfl
 rw [List.getElem?_take]at h1;split at h1;·simpa using h1
 ·cases h1
theorem refStir_any(V M:List U)(w:World)(hV:V.length=16)(hM:M.length=16):
 Calls Tryz.prog 221 #[.agg (vals V),.agg (vals M)] w fun e w'=>e=.returned (.agg (vals (stirK V M 80)))∧Below w.heap.size w w':=by
 have HV:=Lib.hid hV;have HM:=Lib.hid hM;clear hV hM;go_enter Tryz.func221,Tryz.ntmps221;go_upto_region 1 with(fail)
 refine wp_abs (fun w1=>Below w.heap.size w w1∧w1.heap.size=w.heap.size+3∧w1.heap[w.heap.size]?=some (.cells (vals V) 235 (0,0))∧
  w1.heap[w.heap.size+1]?=some (.cells (vals M) 235 (0,0))∧w1.heap[w.heap.size+2]?=some (.cells (vals (List.replicate 16 0)) 235 (0,0))) ?_ (fun w1 hw1=>?_)
 ·refine⟨(((Below.refl _ _).alloc (Nat.le_refl _) _).alloc (by simp) _).alloc (by simp;omega) _,by simp,?_,?_,?_⟩;·exact heap_lt (heap_lt (heap_at rfl))
  ·exact heap_lt (heap_at (by simp))
  ·exact heap_at (by simp)
 obtain⟨hbel,hsz,h0,h1,h2⟩:=hw1;generalize hB:w.heap.size=B at*;have HB:=Lib.hid hB;have QS:=Lib.hid (steps_any w1);rw [hsz]at QS;have HBE:=Lib.hid hbel;have H0:=Lib.hid h0;have H1:=Lib.hid h1;have H2:=Lib.hid h2;clear hB hbel h0 h1 h2;go_wp2_with (go_at_call 228;refine QS.out.mono ?_;rintro e w2 ⟨vs,rfl,hb2,hown⟩;have HOWN:=Lib.hid hown;obtain⟨g,cap,cur,hvs,hg,hh,_,_,_,hx⟩:=hown.2.resolve_left (by rintro⟨_,h⟩;cases h);rw [hvs];clear hown hvs);have S0:RefSt B w g cur M V w2:=⟨HBE.out.trans (hb2.mono (by omega)),bel_keep hb2 (by omega) H0.out,bel_keep hb2 (by omega) H1.out,bel_keep hb2 (by omega) H2.out,hh,by omega⟩;have HX:=Lib.hid hx;clear HBE H0 H1 H2 QS HOWN hb2 hh hx hsz hg;go_loopw [9] (fun i wr=> ∃n:Nat,n≤640∧i=.int .i64 n∧RefSt B w g cur M (refK V M n) wr) (fun i _=>640-(intOf i).toNat);case atStart=>exact⟨0,by omega,rfl,S0⟩
 case round=>
  obtain⟨n,hn,rfl,S⟩:=hrel;clear S0;by_cases hlt:n<640
  ·have hd640:decide ((n:Int)<640)=true:=by simp;omega
   have c0:wr.cell? ⟨g,n*4,none⟩=some (.int .i64 (sA n:Int)):=by rw [Nat.mul_comm];exact steps_cell S.s HX.out n 0 _ hlt (by decide) rfl
   have c1:wr.cell? ⟨g,n*4+1,none⟩=some (.int .i64 (sO n:Int)):=by rw [Nat.mul_comm];exact steps_cell S.s HX.out n 1 _ hlt (by decide) rfl
   have c2:wr.cell? ⟨g,n*4+2,none⟩=some (.int .i64 (sM n)):=by rw [Nat.mul_comm];exact steps_cell S.s HX.out n 2 _ hlt (by decide) rfl
   have c3:wr.cell? ⟨g,n*4+3,none⟩=some (.int .i64 (sT n:Int)):=by rw [Nat.mul_comm];exact steps_cell S.s HX.out n 3 _ hlt (by decide) rfl
   have la:=sA_lt n;have lo:=sO_lt n;have lm:=sM_lt n hlt;have lt:=sT_lt n;have hlen:(refK V M n).length=16:=by rw [length_refK,HV.out]
   have hnext:refK V M (n+1)=stepV (refK V M n) M n:=rfl;unfold stepV at hnext;have cA:=cell_get S.v (sA n) (by omega);have cO:=cell_get S.v (sO n) (by omega);have cM:=fun h:0≤sM n=>cell_get S.m (sM n).toNat (by rw [HM.out];omega);generalize hZ:refK V M n=Z at*;generalize hsA:sA n=sa at*;generalize hsO:sO n=so at*;generalize hsM:sM n=sm at*;generalize hsT:sT n=st at*;have HN:=Lib.hid hnext;have hzl:=hlen;clear hZ hsA hsO hsM hsT hnext hlen;go_upto_region 4 with(fail)
   refine wp_abs (fun w3=>RefSt B w g cur M Z w3∧w3.heap[wr.heap.size]?=some (.cells #[.int .i64 (sa:Int),.int .i64 (so:Int),.int .i64 sm,.int .i64 (st:Int)] 273 (0,0))∧
    w3.cell? ⟨B,sa,none⟩=some (.int .u32 (un (Z.getD sa 0)))∧w3.cell? ⟨B,so,none⟩=some (.int .u32 (un (Z.getD so 0)))∧(0≤sm→w3.cell? ⟨B+1,sm.toNat,none⟩=some (.int .u32 (un (M.getD sm.toNat 0))))∧w3.frozen? ⟨B,sa,none⟩=false)
    ⟨S.alloc _,heap_at rfl,(World.cell?_alloc_some _ _ _ (by rw [cA];rfl)).trans cA,(World.cell?_alloc_some _ _ _ (by rw [cO];rfl)).trans cO,fun h=>(World.cell?_alloc_some _ _ _ (by rw [cM h];rfl)).trans (cM h),frozen_get (S.alloc _).v _⟩ (fun w3 hw3=>?_)
   obtain⟨S3,hD,cA3,cO3,cM3,fA3⟩:=hw3;clear S cA cO cM c0 c1 c2 c3;generalize wr.heap.size=D at*;have d0:w3.cell? ⟨D,0,none⟩=some (.int .i64 (sa:Int)):=by rw [cell_of_row w3 D 0 _ _ _ hD];rfl
   have d1:w3.cell? ⟨D,1,none⟩=some (.int .i64 (so:Int)):=by rw [cell_of_row w3 D 1 _ _ _ hD];rfl
   have d2:w3.cell? ⟨D,2,none⟩=some (.int .i64 sm):=by rw [cell_of_row w3 D 2 _ _ _ hD];rfl
   have d3:w3.cell? ⟨D,3,none⟩=some (.int .i64 (st:Int)):=by rw [cell_of_row w3 D 3 _ _ _ hD];rfl
   have HD:=Lib.hid hD;clear hD;generalize hxa:Z.getD sa 0=xa at*;generalize hxo:Z.getD so 0=xo at*;clear hxa hxo;have RX:=r_xor;have RA:=w_add;by_cases ht:0<st
   ·have hdt:decide ((0:Int)<(st:Int))=true:=by simp;omega
    have hfin:=HN.out;rw [if_pos ht]at hfin;have HFIN:=Lib.hid hfin;clear hfin HN hzl;go_upto_region 5 with(fail);refine Seg.wp_region_segs (fun w'=> ∃n,w'=w3.drewN n) [([0,1,2,3,4,5,6,7,8,9,10,11,12],13)] [] 14 (by kernel_rfl) (by kernel_rfl) (fun _ _ d _ _ h=>by cases d<;>exact h) (⟨1,rfl⟩) ?_;simp only [List.map_cons,List.map_nil,Seg.opAt,List.drop_succ_cons,List.drop_zero,Seg.wpSegs,Array.getD_eq_getD_getElem?,List.getElem?_toArray,List.getElem?_cons_succ,List.getElem?_cons_zero,Option.getD_some];repeat (any_goals (first|go_big_quiet_step (fail)|quiet_step (fail)))
    refine wpQuiet_nil ?_;intro K hK;simp only [Region.wanted,if_true];go_wp2_with (go_at_call 229;refine(right_any (xa ^^^ xo) st _ (by omega)).mono ?_;rintro e w' ⟨rfl,rfl⟩);rw [turnK_rot _ st lt]at*;refine hK _ _ ⟨_,rfl⟩ ?_;clear hK K;repeat (any_goals (first|go_big_quiet_step (fail)|quiet_step (fail)))
    refine wpQuiet_nil ?_;go_upto_region 9 with(fail);refine wp_abs (fun w4=>RefSt B w g cur M (refK V M (n+1)) w4) (by rw [HFIN.out];exact S3.turned (((Only.refl B w3).drewN 1).setCell _ _) (heap_set (w:=w3.drew) S3.v _ _)) (fun w4 S4=>?_);go_wp2_with fail;go_roundw;case rel=>exact⟨n+1,by omega,by go_num,S4⟩
    case measure=>simp [intOf];omega
   ·have hdt:decide ((0:Int)<(st:Int))=false:=by simp;omega
    have hfin:=HN.out;rw [if_neg ht]at hfin;have HFIN:=Lib.hid hfin;have HZL:=Lib.hid hzl;clear hfin HN hzl;have hBD:D≠B:=by intro e;subst e;have h1:=HD.out;rw [S3.v]at h1;simp at h1
    go_upto_region 6 with(fail);refine Seg.wp_region_segs (fun w'=> ∃n,w'=w3.drewN n) [] [0,1,2,3,4,5,6,7,8,9,10] 11 (by kernel_rfl) (by kernel_rfl) (fun _ _ d _ _ h=>by cases d<;>exact h) (⟨1,rfl⟩) ?_;simp only [List.map_cons,List.map_nil,Seg.opAt,List.drop_succ_cons,List.drop_zero,Seg.wpSegs,Array.getD_eq_getD_getElem?,List.getElem?_toArray,List.getElem?_cons_succ,List.getElem?_cons_zero,Option.getD_some];repeat (any_goals (first|go_big_quiet_step (fail)|quiet_step (fail)))
    refine wpQuiet_nil ?_;go_upto_region 7 with(fail);refine wp_abs (fun w4=>RefSt B w g cur M (Z.set sa (xa+xo)) w4∧w4.heap[D]?=some (.cells #[.int .i64 (sa:Int),.int .i64 (so:Int),.int .i64 sm,.int .i64 (st:Int)] 273 (0,0)))
     ⟨S3.turned (((Only.refl B w3).drewN 1).setCell _ _) (heap_set (w:=w3.drew) S3.v _ _),(((Only.refl B w3).drewN 1).setCell sa _).keep hBD HD.out⟩ (fun w4 hw4=>?_)
    obtain⟨S4,hD4⟩:=hw4;clear S3 HD d0 d1 d2 d3 cA3 cO3 cM3 fA3 hBD;have d0:w4.cell? ⟨D,0,none⟩=some (.int .i64 (sa:Int)):=by rw [cell_of_row w4 D 0 _ _ _ hD4];rfl
    have d2:w4.cell? ⟨D,2,none⟩=some (.int .i64 sm):=by rw [cell_of_row w4 D 2 _ _ _ hD4];rfl
    have cA4:w4.cell? ⟨B,sa,none⟩=some (.int .u32 (un (xa+xo))):=by rw [cell_get S4.v sa (by rw [List.length_set,HZL.out];exact la),getD_set_eq _ _ _ (by rw [HZL.out];exact la)]
    have fA4:w4.frozen? ⟨B,sa,none⟩=false:=frozen_get S4.v _;clear hD4;generalize xa+xo=xs at*;by_cases hm:0≤sm
    ·have hdm:decide ((0:Int)≤sm)=true:=by simp;omega
     have cM4:w4.cell? ⟨B+1,sm.toNat,none⟩=some (.int .u32 (un (M.getD sm.toNat 0))):=cell_get S4.m _ (by rw [HM.out];omega);generalize M.getD sm.toNat 0=xm at*;obtain⟨mn,rfl⟩:=Int.eq_ofNat_of_zero_le hm;have hfin:=HFIN.out;rw [if_pos hm]at hfin;have HF2:=Lib.hid hfin;clear hfin HFIN;simp only [Int.toNat_natCast]at cM4;go_upto_region 8 with(fail);refine Seg.wp_region_segs (fun w'=> ∃n,w'=w4.drewN n) [] [0,1,2,3,4,5,6,7,8,9,10] 11 (by kernel_rfl) (by kernel_rfl) (fun _ _ d _ _ h=>by cases d<;>exact h) (⟨1,rfl⟩) ?_;simp only [List.map_cons,List.map_nil,Seg.opAt,List.drop_succ_cons,List.drop_zero,Seg.wpSegs,Array.getD_eq_getD_getElem?,List.getElem?_toArray,List.getElem?_cons_succ,List.getElem?_cons_zero,Option.getD_some];repeat (any_goals (first|go_big_quiet_step (fail)|quiet_step (fail)))
     refine wpQuiet_nil ?_;go_upto_region 9 with(fail);refine wp_abs (fun w5=>RefSt B w g cur M (refK V M (n+1)) w5) (by rw [HF2.out];exact S4.turned (((Only.refl B w4).drewN 1).setCell _ _) (heap_set (w:=w4.drew) S4.v _ _)) (fun w5 S5=>?_);go_wp2_with fail;go_roundw;case rel=>exact⟨n+1,by omega,by go_num,S5⟩
     case measure=>simp [intOf];omega
    ·have hdm:decide ((0:Int)≤sm)=false:=by simp;omega
     have hfin:=HFIN.out;rw [if_neg hm]at hfin;rw [←hfin]at S4;clear hfin HFIN;go_wp2_with fail;go_roundw;case rel=>exact⟨n+1,by omega,by go_num,S4⟩
     case measure=>simp [intOf];omega
  ·have hd640:decide ((n:Int)<640)=false:=by simp;omega
   obtain rfl:n=640:=by omega
   have hst:=ref_stir V M HV.out 80;have S':RefSt B w g cur M (stirK V M 80) wr:=by rw [←hst];exact S
   clear hst S;go_upto_region 10 with(fail);apply wp_region_lit;have hl80:(stirK V M 80).length=16:=by rw [length_stirK,HV.out]
   have hs2:=Lib.hid (show(Tryz.prog.info? 235).map (·.size)=some (vals (stirK V M 80)).size by rw [size_vals,hl80];exact size_words);clear hl80;refine wpList_load_whole rfl 235 _ rfl B (vals (stirK V M 80)) _ _ _ rfl S'.v Tryz.underlying235 rfl hs2.out ?_;refine wpList_store_whole rfl rfl 235 _ _ rfl (B+2) (vals (List.replicate 16 0)) (vals (stirK V M 80)) 235 rfl rfl S'.r ?_ hs2.out (oneCell_vals _) ?_;·rw [size_vals,size_vals,length_stirK,HV.out];rfl
   intro w3 ho hp;go_wp2_with fail;refine bodyPost_ret (results_cell_row rfl _ w3 (B+2) _ _ _ _ rfl hp Tryz.underlying235 rfl hs2.out) rfl ⟨rfl,?_⟩;rw [HB.out];exact bel_only S'.below ho (by omega)
theorem refStart_any(w:World):
 Calls Tryz.prog 208 #[] w fun e w'=>e=.returned (.agg (vals ivL))∧Below w.heap.size w w':=by
 have HF:=Lib.hid (show(Tryz.prog.info? 205).map (·.size)=some (vals ivL).size by kernel_rfl);go_enter Tryz.func208,Tryz.ntmps208;go_wp2_with (refine wpList_store_whole rfl rfl 205 _ _ rfl w.heap.size (vals (List.replicate 8 0)) (vals ivL) 205 rfl rfl (heap_at rfl) rfl HF.out (oneCell_vals _) ?_;intro w2 ho hp);refine bodyPost_ret (results_cell_row rfl _ w2 w.heap.size _ _ _ _ rfl hp Tryz.underlying205 rfl HF.out) rfl ⟨rfl,?_⟩;exact bel_only ((Below.refl _ _).alloc (Nat.le_refl _) _) ho (Nat.le_refl _)
theorem refPress_any(H M:List U)(n:Nat)(last:Bool)(w:World)(hH:H.length=8)(hM:M.length=16)(hn:n<18446744073709551616):
 Calls Tryz.prog 210 #[.agg (vals H),.agg (vals M),.int .u64 (n:Int),.bool last] w fun e w'=>e=.returned (.agg (vals (pressL H M n last)))∧Below w.heap.size w w':=by
 have HH:=Lib.hid hH;have HM:=Lib.hid hM;have HN:=Lib.hid hn;clear hH hM hn;go_enter Tryz.func210,Tryz.ntmps210;go_upto_region 2 with(fail)
 refine wp_abs (fun w1=>Below w.heap.size w w1∧w1.heap.size=w.heap.size+4∧w1.heap[w.heap.size]?=some (.cells (vals H) 205 (0,0))∧
  w1.heap[w.heap.size+1]?=some (.cells (vals M) 235 (0,0))∧w1.heap[w.heap.size+2]?=some (.cells (vals (List.replicate 8 0)) 205 (0,0))∧
  w1.heap[w.heap.size+3]?=some (.cells (vals (List.replicate 16 0)) 235 (0,0))) ?_ (fun w1 hw1=>?_)
 ·refine⟨((((Below.refl _ _).alloc (Nat.le_refl _) _).alloc (by simp) _).alloc (by simp;omega) _).alloc (by simp;omega) _,by simp,?_,?_,?_,?_⟩;·exact heap_lt (heap_lt (heap_lt (heap_at rfl)))
  ·exact heap_lt (heap_lt (heap_at (by simp)))
  ·exact heap_lt (heap_at (by simp))
  ·exact heap_at (by simp)
 obtain⟨hbel,hsz,h0,h1,h2,h3⟩:=hw1;generalize hB:w.heap.size=B at*;have HB:=Lib.hid hB;have H0:=Lib.hid h0;have H1:=Lib.hid h1;have H2:=Lib.hid h2;have H3:=Lib.hid h3;have HBE:=Lib.hid hbel;have HSZ:=Lib.hid hsz;clear hB h0 h1 h2 h3 hbel hsz;have HI8:=Lib.hid (show(Tryz.prog.info? 205).map (·.size)=some (vals ivL).size by kernel_rfl);go_upto_region 3 with(first
  |(go_at_call 208;refine(refStart_any _).mono ?_;rintro e w2 ⟨rfl,hb2⟩)
  |(refine wpList_store_whole rfl rfl 205 _ _ rfl w2.heap.size (vals (List.replicate 8 0)) (vals ivL) 205 rfl rfl (heap_at rfl) rfl HI8.out (oneCell_vals _) ?_;intro w3 ho3 hp3))
 have b3:Below (B+4) w1 w3:=by
  have:=hb2.size;rw [HSZ.out]at hb2 this;exact(hb2.alloc (by omega) _).trans (ho3.below (by omega))
 have hD:B+4≤w2.heap.size:=by have:=hb2.size;rw [HSZ.out]at this;exact this
 generalize w2.heap.size=D at*;have S3:PressSt B w H M (List.replicate 16 0) w3:=⟨HBE.out.trans (b3.mono (by omega)),bel_keep b3 (by omega) H0.out,bel_keep b3 (by omega) H1.out,bel_keep b3 (by omega) H2.out,bel_keep b3 (by omega) H3.out⟩;have HP3:=Lib.hid hp3;clear hb2 ho3 b3 H0 H1 H2 H3 HBE HSZ hp3;go_wp2_with fail;go_loopw [11] (fun i wr=> ∃k:Nat,k≤8∧i=.int .i64 k∧PressSt B w H M (fillK H k) wr∧wr.heap[D]?=some (.cells (vals ivL) 205 (0,0))) (fun i _=>8-(intOf i).toNat);case atStart=>exact⟨0,by omega,rfl,S3,HP3.out⟩
 case round=>
 obtain⟨k,hk,rfl,S,hE⟩:=hrel;clear S3 HP3;by_cases hlt:k<8
 ·have hd8:decide ((k:Int)<8)=true:=by simp;omega
  have c0:=cell_get S.h k (by rw [HH.out];exact hlt);have f1:=frozen_get S.v k;have f2:=frozen_get S.v (k+8);have g1:=cell_get S.v k (by rw [length_fillK];omega);have g2:=cell_get S.v (k+8) (by rw [length_fillK];omega);have c1:=cell_get hE k hlt;have hnext:=fillK_succ H k;generalize H.getD k 0=x0 at*;generalize ivL.getD k 0=x1 at*;generalize (fillK H k).getD k 0=y0 at*;generalize (fillK H k).getD (k+8) 0=y1 at*;have HNX:=Lib.hid hnext;have HE:=Lib.hid hE;clear hnext hE;go_upto_region 5 with(fail);refine wp_abs (fun w5=>PressSt B w H M (fillK H (k+1)) w5∧w5.heap[D]?=some (.cells (vals ivL) 205 (0,0)))
   ⟨by rw [HNX.out];exact S.turnedV (((Only.refl _ wr).setCell _ _).setCell _ _) (heap_set (heap_set S.v _ _) _ _),(((Only.refl _ wr).setCell _ _).setCell _ _).keep (by omega) HE.out⟩ (fun w5 hw5=>?_)
  obtain⟨S5,hE5⟩:=hw5;clear S c0 f1 f2 g1 g2 c1 HE HNX;go_wp2_with fail;go_roundw;case rel=>exact⟨k+1,by omega,by go_num,S5,hE5⟩
  case measure=>simp [intOf];omega
 have hd8:decide ((k:Int)<8)=false:=by simp;omega
 obtain rfl:k=8:=by omega
 rw [fillK_all H HH.out]at S;clear hE;go_upto_region 8 with(fail);refine wp_abs (fun w6=>PressSt B w H M (H++ivL) w6) S (fun w6 S6=>?_);clear S;have hl:(H++ivL).length=16:=by simp [HH.out,ivL]
 have hfin:=fun x12 x13 h12 h13=>pressV_of H _ n last x12 x13 rfl h12 h13;generalize H++ivL=V at*;have c12:=cell_get S6.v 12 (by omega);have c13:=cell_get S6.v 13 (by omega);have f12:=frozen_get S6.v 12;have f13:=frozen_get S6.v 13;have u0:=un_low n;have u1:=un_high64 n HN.out;have RX:=r_xor;have hfin':=hfin _ _ rfl rfl;clear hfin;generalize V.getD 12 0=x12 at*;generalize V.getD 13 0=x13 at*;have HL:=Lib.hid hl;have HFIN:=Lib.hid hfin';clear hl hfin';go_upto_region 10 with(fail);refine wp_abs (fun w7=>PressSt B w H M ((V.set 12 (x12 ^^^ BitVec.ofNat 32 n)).set 13 (x13 ^^^ BitVec.ofNat 32 (n/4294967296))) w7)
  (S6.turnedV (((Only.refl _ w6).setCell _ _).setCell _ _) (heap_set (heap_set S6.v _ _) _ _)) (fun w7 S7=>?_)
 have hfin:=HFIN.out;have hl2:((V.set 12 (x12 ^^^ BitVec.ofNat 32 n)).set 13 (x13 ^^^ BitVec.ofNat 32 (n/4294967296))).length=16:=by simp [HL.out]
 clear S6 c12 c13 f12 f13 u0 u1 HFIN HL;generalize (V.set 12 (x12 ^^^ BitVec.ofNat 32 n)).set 13 (x13 ^^^ BitVec.ofNat 32 (n/4294967296))=V2 at*;have HFIN:=Lib.hid hfin;clear hfin;have c14:=cell_get S7.v 14 (by omega);have f14:=frozen_get S7.v 14;have HLV:=Lib.hid (length_pressV H n last HH.out);clear hl2;generalize V2.getD 14 0=x14 at*;have RN:=un_not x14;have un0:=un_nonneg x14;have un1:=un_lt x14
 go_upto_if 44 with(fail)
 go_cut [] (fun w'=>PressSt B w H M (pressV H n last) w');case first=>
  cases last
  ·go_wp2_with fail;go_meet;case rel=>rw [HFIN.out];exact S7
  ·go_wp2_with fail;go_meet;case rel=>rw [HFIN.out];exact S7.turnedV ((Only.refl _ w7).setCell _ _) (heap_set S7.v _ _)
 case rest=>
  have S8:PressSt B w H M (pressV H n last) wc:=hcut;clear hcut S7 c14 f14 RN un0 un1 HFIN;have HZ:=Lib.hid (show pressL H M n last=mixK H (stirK (pressV H n last) M 80) 8 from rfl);generalize pressV H n last=V3 at*;have s1:=Lib.hid (show(Tryz.prog.info? 235).map (·.size)=some (vals V3).size by rw [size_vals,HLV.out];exact size_words);have s2:=Lib.hid (show(Tryz.prog.info? 235).map (·.size)=some (vals M).size by rw [size_vals,HM.out];exact size_words);have s3:=Lib.hid (show(Tryz.prog.info? 235).map (·.size)=some (vals (stirK V3 M 80)).size by rw [size_vals,length_stirK,HLV.out];exact size_words);have hlW:(stirK V3 M 80).length=16:=by rw [length_stirK,HLV.out]
  have hB4:B+4≤wc.heap.size:=lt_of_heap S8.v;go_upto_region 12 with(fail);apply wp_region_lit;refine wpList_load_whole rfl 235 _ rfl (B+3) (vals V3) _ _ _ rfl S8.v Tryz.underlying235 rfl s1.out ?_;refine wpList_load_whole rfl 235 _ rfl (B+1) (vals M) _ _ _ rfl S8.m Tryz.underlying235 rfl s2.out ?_;have QQ:=Lib.hid (refStir_any V3 M wc HLV.out HM.out);generalize stirK V3 M 80=Z at*;go_upto_region 13 with(first
   |(go_at_call 221;refine QQ.out.mono ?_;rintro e w2 ⟨rfl,hb2⟩)
   |(refine wpList_store_whole rfl rfl 235 _ _ rfl w2.heap.size (vals (List.replicate 16 0)) (vals Z) 235 rfl rfl (heap_at rfl) (by rw [size_vals,size_vals,hlW];rfl) s3.out (oneCell_vals _) ?_;intro w3 ho3 hp3))
  have hD2:B+4≤w2.heap.size:=Nat.le_trans hB4 hb2.size;have b3:Below (B+4) wc w3:=((hb2.mono hB4).alloc hD2 _).trans (ho3.below hD2);have S9:=S8.kept b3;generalize w2.heap.size=E at*;clear S8 b3 ho3 hb2 QQ hB4 s1 s2 s3;go_wp2_with fail;go_loopw [13] (fun i wr=> ∃k:Nat,k≤8∧i=.int .i64 k∧PressSt B w (mixK H Z k) M V3 wr∧wr.heap[E]?=some (.cells (vals Z) 235 (0,0))) (fun i _=>8-(intOf i).toNat);case atStart=>exact⟨0,by omega,rfl,S9,hp3⟩
  case round=>
   obtain⟨k,hk,rfl,S,hE⟩:=hrel;clear S9 hp3;by_cases hlt:k<8
   ·have hd8:decide ((k:Int)<8)=true:=by simp;omega
    have hlk:(mixK H Z k).length=8:=by rw [length_mixK,HH.out]
    have c0:=cell_get S.h k (by omega);have f0:=frozen_get S.h k;have c1:=cell_get hE k (by omega);have c2:=cell_get hE (k+8) (by omega);have hnext:=mixK_succ H Z k;rw [←BitVec.xor_assoc]at hnext;generalize (mixK H Z k).getD k 0=x0 at*;generalize Z.getD k 0=x1 at*;generalize Z.getD (k+8) 0=x2 at*;have HNX:=Lib.hid hnext;clear hnext hlk;have HE:=Lib.hid hE;clear hE;go_upto_region 16 with(fail);refine Seg.wp_region_segs (fun w'=> ∃n,w'=wr.drewN n) [] [0,1,2,3,4,5,6,7,8,9,10,11,12] 13 (by kernel_rfl) (by kernel_rfl) (fun _ _ d _ _ h=>by cases d<;>exact h) (⟨1,rfl⟩) ?_;simp only [List.map_cons,List.map_nil,Seg.opAt,List.drop_succ_cons,List.drop_zero,Seg.wpSegs,Array.getD_eq_getD_getElem?,List.getElem?_toArray,List.getElem?_cons_succ,List.getElem?_cons_zero,Option.getD_some];repeat (any_goals (first|go_big_quiet_step (fail)|quiet_step (fail)))
    refine wpQuiet_nil ?_;go_upto_region 15 with(fail);refine wp_abs (fun w5=>PressSt B w (mixK H Z (k+1)) M V3 w5∧w5.heap[E]?=some (.cells (vals Z) 235 (0,0)))
     ⟨by rw [HNX.out];exact S.turnedH (((Only.refl B wr).drewN 1).setCell _ _) (heap_set (w:=wr.drew) S.h _ _),(((Only.refl B wr).drewN 1).setCell k _).keep (by omega) HE.out⟩ (fun w5 hw5=>?_)
    obtain⟨S5,hE5⟩:=hw5;clear S c0 f0 c1 c2 HE HNX;go_wp2_with fail;go_roundw;case rel=>exact⟨k+1,by omega,by go_num,S5,hE5⟩
    case measure=>simp [intOf];omega
   ·have hd8:decide ((k:Int)<8)=false:=by simp;omega
    obtain rfl:k=8:=by omega
    have hs8:=Lib.hid (show(Tryz.prog.info? 205).map (·.size)=some (vals (mixK H Z 8)).size by rw [size_vals,length_mixK,HH.out];exact size_eight);go_upto_region 17 with(fail);apply wp_region_lit;refine wpList_load_whole rfl 205 _ rfl B (vals (mixK H Z 8)) _ _ _ rfl S.h Tryz.underlying205 rfl hs8.out ?_;refine wpList_store_whole rfl rfl 205 _ _ rfl (B+2) (vals (List.replicate 8 0)) (vals (mixK H Z 8)) 205 rfl rfl S.r ?_ hs8.out (oneCell_vals _) ?_;·rw [size_vals,size_vals,length_mixK,HH.out];rfl
    intro w6 ho hp;go_wp2_with fail;refine bodyPost_ret (results_cell_row rfl _ w6 (B+2) _ _ _ _ rfl hp Tryz.underlying205 rfl hs8.out) rfl ⟨by rw [HZ.out],?_⟩;rw [HB.out];exact bel_only S.below ho (by omega)
end Go.Proofs.YtnohcdpnnhmpfaaGreatDoor
