/-
  The reference's steps as plain functions: which words each step takes; eight steps are one quarter. No program in sight.
  The reference's Stir: its steps, one by one, for any words.
  The reference's start and Press: for any words.
-/
import Derived.Test.YtnohcdpnnhmpfaaGreatDoorQ33
import Derived.Deep.RegionHeld
import Derived.Test.YtnohcdpnnhmpfaaGreatDoorQ15
set_option linter.unusedVariables false
set_option linter.unusedSimpArgs false
set_option maxRecDepth 100000
set_option maxHeartbeats 4000000
namespace Go.Proofs.YtnohcdpnnhmpfaaGreatDoor.FM
open Go.RowKit Tryz ML
def sA(n:Nat):Nat:=if n%4=0 then ca (n/8%8)else if n%4=1 then cd (n/8%8)else if n%4=2 then cc (n/8%8)else cb (n/8%8)
def sO(n:Nat):Nat:=if n%4=0 then cb (n/8%8)else if n%4=1 then ca (n/8%8)else if n%4=2 then cd (n/8%8)else cc (n/8%8)
def sM(n:Nat):Int:=if n%8=0 then yr (n/8/8) (2* (n/8%8))else if n%8=4 then yr (n/8/8) (2* (n/8%8)+1)else -1
def sT(n:Nat):Nat:=if n%8=1 then 16 else if n%8=3 then 12 else if n%8=5 then 8 else if n%8=7 then 7 else 0
theorem jmi(n:Nat):sA n<16:=by
 have D:=jaJ (n/8%8);unfold sA;repeat' split
 ·exact D.la
 ·exact D.ld
 ·exact D.lc
 ·exact D.lb
theorem jmg(n:Nat):sO n<16:=by
 have D:=jaJ (n/8%8);unfold sO;repeat' split
 ·exact D.lb
 ·exact D.la
 ·exact D.ld
 ·exact D.lc
theorem jmf(n:Nat):sT n<32:=by
 unfold sT;repeat' split
 all_goals decide
theorem jmh(n:Nat)(h:n<640):sM n<16:=by
 unfold sM;repeat' split
 ·have:=Qr (n/8/8) (2* (n/8%8)) (by omega) (by omega);omega
 ·have:=Qr (n/8/8) (2* (n/8%8)+1) (by omega) (by omega);omega
 ·decide
def jkW(n:Nat):List Int:= [(sA n:Int),(sO n:Int),sM n,(sT n:Int)]
theorem Yc: ∀(m k:Nat),k≤m→ ∃r,KD m=KD k++r
 |0,k,h=>⟨[],by
  obtain rfl:k=0:=by omega
  simp⟩
 |
  m+1,k,h=>by
  rcases jt m k with h1|h1
  ·obtain rfl:k=m+1:=by omega
   exact⟨[],by simp⟩
  ·obtain⟨r,hr⟩:=Yc m k h1;exact⟨r++zC m,by rw [KD,hr,kS]⟩
theorem jiU(k q r:Nat)(hq:q<8)(hr:r<4):(zC k)[4*q+r]?=(jkW (8*k+q))[r]?:=by
 unfold jkW sA sO sM sT;rw [show(8*k+q)/8=k by omega,show(8*k+q)%8=q by omega,show(8*k+q)%4=q%4 by omega]
 match q,hq with
 |
  0,_=>match r,hr with
  |0,_=>simp [zC,stp]
  |1,_=>simp [zC,stp]
  |2,_=>simp [zC,stp]
  |3,_=>simp [zC,stp]
 |
  1,_=>match r,hr with
  |0,_=>simp [zC,stp]
  |1,_=>simp [zC,stp]
  |2,_=>simp [zC,stp]
  |3,_=>simp [zC,stp]
 |
  2,_=>match r,hr with
  |0,_=>simp [zC,stp]
  |1,_=>simp [zC,stp]
  |2,_=>simp [zC,stp]
  |3,_=>simp [zC,stp]
 |
  3,_=>match r,hr with
  |0,_=>simp [zC,stp]
  |1,_=>simp [zC,stp]
  |2,_=>simp [zC,stp]
  |3,_=>simp [zC,stp]
 |
  4,_=>match r,hr with
  |0,_=>simp [zC,stp]
  |1,_=>simp [zC,stp]
  |2,_=>simp [zC,stp]
  |3,_=>simp [zC,stp]
 |
  5,_=>match r,hr with
  |0,_=>simp [zC,stp]
  |1,_=>simp [zC,stp]
  |2,_=>simp [zC,stp]
  |3,_=>simp [zC,stp]
 |
  6,_=>match r,hr with
  |0,_=>simp [zC,stp]
  |1,_=>simp [zC,stp]
  |2,_=>simp [zC,stp]
  |3,_=>simp [zC,stp]
 |
  7,_=>match r,hr with
  |0,_=>simp [zC,stp]
  |1,_=>simp [zC,stp]
  |2,_=>simp [zC,stp]
  |3,_=>simp [zC,stp]
theorem jdO(k:Nat):(zC k).length=32:=rfl
theorem jhF(n r:Nat)(hn:n<640)(hr:r<4):(KD 80)[4*n+r]?=(jkW n)[r]?:=by
 obtain⟨t,ht⟩:=Yc 80 (n/8+1) (by omega);have hl:=Yg (n/8)
 rw [ht,KD,kS,ke (by omega),qJ (by rw [jdO];omega),hl,
  show 4*n+r-32* (n/8)=4* (n%8)+r by omega,jiU _ _ _ (by omega) hr,show 8* (n/8)+n%8=n by omega]
def JP(V M:List U)(n:Nat):List U:=
 if 0<sT n then V.set (sA n) ((V.getD (sA n) 0 ^^^ V.getD (sO n) 0).rotateRight (sT n))
 else if 0≤sM n then(V.set (sA n) (V.getD (sA n) 0+V.getD (sO n) 0)).set (sA n) ((V.getD (sA n) 0+V.getD (sO n) 0)+M.getD (sM n).toNat 0)
 else V.set (sA n) (V.getD (sA n) 0+V.getD (sO n) 0)
def jaF(V M:List U):Nat→List U
 |0=>V
 |n+1=>JP (jaF V M n) M n
theorem jdL(V M:List U)(n:Nat):(JP V M n).length=V.length:=by
 unfold JP;repeat' split
 all_goals simp
theorem jao(V M:List U): ∀n,(jaF V M n).length=V.length
 |0=>rfl
 |n+1=>by rw [jaF,jdL,jao V M n]
def jmo(V M:List U)(n:Nat):List U:=
 if 0<sT n then V.set (sA n) ((V.getD (sA n) 0).rotateRight (32-sT n)^^^ V.getD (sO n) 0)
 else if 0≤sM n then(V.set (sA n) (V.getD (sA n) 0-V.getD (sO n) 0)).set (sA n) ((V.getD (sA n) 0-V.getD (sO n) 0)-M.getD (sM n).toNat 0)
 else V.set (sA n) (V.getD (sA n) 0-V.getD (sO n) 0)
def jmq(V M:List U):Nat→List U
 |0=>V
 |n+1=>jmo (jmq V M n) M (639-n)
theorem VW(V M:List U)(k q:Nat)(hq:q<8):JP V M (8*k+q)=
 (
  let i:=k%8
  if q=0 then(V.set (ca i) (V.getD (ca i) 0+V.getD (cb i) 0)).set (ca i) ((V.getD (ca i) 0+V.getD (cb i) 0)+M.getD (yr (k/8) (2*i)) 0)
  else if q=1 then V.set (cd i) ((V.getD (cd i) 0 ^^^ V.getD (ca i) 0).rotateRight 16)
  else if q=2 then V.set (cc i) (V.getD (cc i) 0+V.getD (cd i) 0)
  else if q=3 then V.set (cb i) ((V.getD (cb i) 0 ^^^ V.getD (cc i) 0).rotateRight 12)
  else if q=4 then(V.set (ca i) (V.getD (ca i) 0+V.getD (cb i) 0)).set (ca i) ((V.getD (ca i) 0+V.getD (cb i) 0)+M.getD (yr (k/8) (2*i+1)) 0)
  else if q=5 then V.set (cd i) ((V.getD (cd i) 0 ^^^ V.getD (ca i) 0).rotateRight 8)
  else if q=6 then V.set (cc i) (V.getD (cc i) 0+V.getD (cd i) 0)
  else V.set (cb i) ((V.getD (cb i) 0 ^^^ V.getD (cc i) 0).rotateRight 7)):=by
 unfold JP sA sO sM sT;rw [show(8*k+q)/8=k by omega,show(8*k+q)%8=q by omega,show(8*k+q)%4=q%4 by omega]
 match q,hq with
 |0,_=>simp
 |1,_=>simp
 |2,_=>simp
 |3,_=>simp
 |4,_=>simp
 |5,_=>simp
 |6,_=>simp
 |7,_=>simp
theorem jcq(V:List U)(a b c d:Nat)(xa xb xc xd y:U)(hl:V.length=16)(D:YZ a b c d):(JV V a b c d xa xb xc xd).set a y=JV V a b c d y xb xc xd:=by
 refine jcS _ _ (by simp [zd]) (fun j _=>?_);rw [zX _ _ _ _ (by rw [zd,hl];exact D.la),JY _ _ _ _ _ _ _ _ _ hl D,JY _ _ _ _ _ _ _ _ _ hl D];have:=D.ab;have:=D.ac;have:=D.ad
 repeat' split
 all_goals first|rfl|omega
theorem jcp(V:List U)(a b c d:Nat)(xa xb xc xd y:U)(hl:V.length=16)(D:YZ a b c d):(JV V a b c d xa xb xc xd).set b y=JV V a b c d xa y xc xd:=by
 refine jcS _ _ (by simp [zd]) (fun j _=>?_);rw [zX _ _ _ _ (by rw [zd,hl];exact D.lb),JY _ _ _ _ _ _ _ _ _ hl D,JY _ _ _ _ _ _ _ _ _ hl D];have:=D.ab;have:=D.bc;have:=D.bd
 repeat' split
 all_goals first|rfl|omega
theorem jco(V:List U)(a b c d:Nat)(xa xb xc xd y:U)(hl:V.length=16)(D:YZ a b c d):(JV V a b c d xa xb xc xd).set c y=JV V a b c d xa xb y xd:=by
 refine jcS _ _ (by simp [zd]) (fun j _=>?_);rw [zX _ _ _ _ (by rw [zd,hl];exact D.lc),JY _ _ _ _ _ _ _ _ _ hl D,JY _ _ _ _ _ _ _ _ _ hl D];have:=D.ac;have:=D.bc;have:=D.cd
 repeat' split
 all_goals first|rfl|omega
theorem jcn(V:List U)(a b c d:Nat)(xa xb xc xd y:U)(hl:V.length=16)(D:YZ a b c d):(JV V a b c d xa xb xc xd).set d y=JV V a b c d xa xb xc y:=by
 refine jcS _ _ (by simp [zd]) (fun j _=>?_);rw [zX _ _ _ _ (by rw [zd,hl];exact D.ld),JY _ _ _ _ _ _ _ _ _ hl D,JY _ _ _ _ _ _ _ _ _ hl D];have:=D.ad;have:=D.bd;have:=D.cd
 repeat' split
 all_goals first|rfl|omega
theorem jhO(V M:List U)(k:Nat)(xa xb xc xd:U)(hl:V.length=16):
 JP (JV V (ca (k%8)) (cb (k%8)) (cc (k%8)) (cd (k%8)) xa xb xc xd) M (8*k+0)=JV V (ca (k%8)) (cb (k%8)) (cc (k%8)) (cd (k%8)) (xa+(xb+M.getD (yr (k/8) (2* (k%8))) 0)) xb xc xd:=by
 have D:=jaJ (k%8);obtain⟨g1,g2,g3,g4⟩:=Jt V _ _ _ _ xa xb xc xd hl D;rw [VW _ _ k 0 (by decide)];simp only [jY,if_false,Nat.reduceEqDiff,List.set_set,g1,g2,g3,g4,jcq _ _ _ _ _ _ _ _ _ _ hl D,vG]
theorem jhN(V M:List U)(k:Nat)(xa xb xc xd:U)(hl:V.length=16):
 JP (JV V (ca (k%8)) (cb (k%8)) (cc (k%8)) (cd (k%8)) xa xb xc xd) M (8*k+1)=JV V (ca (k%8)) (cb (k%8)) (cc (k%8)) (cd (k%8)) xa xb xc ((xd ^^^ xa).rotateRight 16):=by
 have D:=jaJ (k%8);obtain⟨g1,g2,g3,g4⟩:=Jt V _ _ _ _ xa xb xc xd hl D;rw [VW _ _ k 1 (by decide)];simp only [jY,if_false,Nat.reduceEqDiff,List.set_set,g1,g2,g3,g4,jcn _ _ _ _ _ _ _ _ _ _ hl D,vG]
theorem jhM(V M:List U)(k:Nat)(xa xb xc xd:U)(hl:V.length=16):
 JP (JV V (ca (k%8)) (cb (k%8)) (cc (k%8)) (cd (k%8)) xa xb xc xd) M (8*k+2)=JV V (ca (k%8)) (cb (k%8)) (cc (k%8)) (cd (k%8)) xa xb (xc+xd) xd:=by
 have D:=jaJ (k%8);obtain⟨g1,g2,g3,g4⟩:=Jt V _ _ _ _ xa xb xc xd hl D;rw [VW _ _ k 2 (by decide)];simp only [jY,if_false,Nat.reduceEqDiff,List.set_set,g1,g2,g3,g4,jco _ _ _ _ _ _ _ _ _ _ hl D,vG]
theorem jhL(V M:List U)(k:Nat)(xa xb xc xd:U)(hl:V.length=16):
 JP (JV V (ca (k%8)) (cb (k%8)) (cc (k%8)) (cd (k%8)) xa xb xc xd) M (8*k+3)=JV V (ca (k%8)) (cb (k%8)) (cc (k%8)) (cd (k%8)) xa ((xb ^^^ xc).rotateRight 12) xc xd:=by
 have D:=jaJ (k%8);obtain⟨g1,g2,g3,g4⟩:=Jt V _ _ _ _ xa xb xc xd hl D;rw [VW _ _ k 3 (by decide)];simp only [jY,if_false,Nat.reduceEqDiff,List.set_set,g1,g2,g3,g4,jcp _ _ _ _ _ _ _ _ _ _ hl D,vG]
theorem jhK(V M:List U)(k:Nat)(xa xb xc xd:U)(hl:V.length=16):
 JP (JV V (ca (k%8)) (cb (k%8)) (cc (k%8)) (cd (k%8)) xa xb xc xd) M (8*k+4)=JV V (ca (k%8)) (cb (k%8)) (cc (k%8)) (cd (k%8)) (xa+(xb+M.getD (yr (k/8) (2* (k%8)+1)) 0)) xb xc xd:=by
 have D:=jaJ (k%8);obtain⟨g1,g2,g3,g4⟩:=Jt V _ _ _ _ xa xb xc xd hl D;rw [VW _ _ k 4 (by decide)];simp only [jY,if_false,Nat.reduceEqDiff,List.set_set,g1,g2,g3,g4,jcq _ _ _ _ _ _ _ _ _ _ hl D,vG]
theorem jhJ(V M:List U)(k:Nat)(xa xb xc xd:U)(hl:V.length=16):
 JP (JV V (ca (k%8)) (cb (k%8)) (cc (k%8)) (cd (k%8)) xa xb xc xd) M (8*k+5)=JV V (ca (k%8)) (cb (k%8)) (cc (k%8)) (cd (k%8)) xa xb xc ((xd ^^^ xa).rotateRight 8):=by
 have D:=jaJ (k%8);obtain⟨g1,g2,g3,g4⟩:=Jt V _ _ _ _ xa xb xc xd hl D;rw [VW _ _ k 5 (by decide)];simp only [jY,if_false,Nat.reduceEqDiff,List.set_set,g1,g2,g3,g4,jcn _ _ _ _ _ _ _ _ _ _ hl D,vG]
theorem jhI(V M:List U)(k:Nat)(xa xb xc xd:U)(hl:V.length=16):
 JP (JV V (ca (k%8)) (cb (k%8)) (cc (k%8)) (cd (k%8)) xa xb xc xd) M (8*k+6)=JV V (ca (k%8)) (cb (k%8)) (cc (k%8)) (cd (k%8)) xa xb (xc+xd) xd:=by
 have D:=jaJ (k%8);obtain⟨g1,g2,g3,g4⟩:=Jt V _ _ _ _ xa xb xc xd hl D;rw [VW _ _ k 6 (by decide)];simp only [jY,if_false,Nat.reduceEqDiff,List.set_set,g1,g2,g3,g4,jco _ _ _ _ _ _ _ _ _ _ hl D,vG]
theorem jhH(V M:List U)(k:Nat)(xa xb xc xd:U)(hl:V.length=16):
 JP (JV V (ca (k%8)) (cb (k%8)) (cc (k%8)) (cd (k%8)) xa xb xc xd) M (8*k+7)=JV V (ca (k%8)) (cb (k%8)) (cc (k%8)) (cd (k%8)) xa ((xb ^^^ xc).rotateRight 7) xc xd:=by
 have D:=jaJ (k%8);obtain⟨g1,g2,g3,g4⟩:=Jt V _ _ _ _ xa xb xc xd hl D;rw [VW _ _ k 7 (by decide)];simp only [jY,if_false,Nat.reduceEqDiff,List.set_set,g1,g2,g3,g4,jcp _ _ _ _ _ _ _ _ _ _ hl D,vG]
theorem jeK(V:List U)(a b c d:Nat)(x y:U)(hl:V.length=16)(D:YZ a b c d):VG V a b c d x y=
 (
  let va:=V.getD a 0;let vb:=V.getD b 0;let vc:=V.getD c 0;let vd:=V.getD d 0
  let a1:=va+(vb+x);let d1:=(vd ^^^ a1).rotateRight 16;let c1:=vc+d1;let b1:=(vb ^^^ c1).rotateRight 12
  let a2:=a1+(b1+y);let d2:=(d1 ^^^ a2).rotateRight 8;let c2:=c1+d2;let b2:=(b1 ^^^ c2).rotateRight 7
  JV V a b c d a2 b2 c2 d2):=jlN V a b c d _ _ _ _ _ _ _ _ hl D
theorem jeA(V M:List U)(k:Nat)(hl:V.length=16):
 JP (JP (JP (JP (JP (JP (JP (JP V M (8*k+0)) M (8*k+1)) M (8*k+2)) M (8*k+3)) M (8*k+4)) M (8*k+5)) M (8*k+6)) M (8*k+7)=jhf V M k:=by
 have D:=jaJ (k%8);have hv:V=JV V (ca (k%8)) (cb (k%8)) (cc (k%8)) (cd (k%8)) (V.getD (ca (k%8)) 0) (V.getD (cb (k%8)) 0) (V.getD (cc (k%8)) 0) (V.getD (cd (k%8)) 0):=(jie V _ _ _ _ hl D).symm;have h0:JP V M (8*k+0)=_:=(congrArg (fun W=>JP W M (8*k+0)) hv).trans (jhO V M k _ _ _ _ hl);rw [h0,jhN _ _ _ _ _ _ _ hl,jhM _ _ _ _ _ _ _ hl,jhL _ _ _ _ _ _ _ hl,jhK _ _ _ _ _ _ _ hl,jhJ _ _ _ _ _ _ _ hl,jhI _ _ _ _ _ _ _ hl,jhH _ _ _ _ _ _ _ hl];exact(jeK V _ _ _ _ _ _ hl D).symm
theorem jez(V M:List U)(hl:V.length=16): ∀k,jaF V M (8*k)=zU V M k
 |0=>rfl
 |
  k+1=>by
  rw [show 8* (k+1)=8*k+1+1+1+1+1+1+1+1 by omega];simp only [jaF];rw [jez V M hl k,zU];exact jeA _ _ _ (by rw [zB,hl])
end Go.Proofs.YtnohcdpnnhmpfaaGreatDoor.FM
namespace Go.Proofs.YtnohcdpnnhmpfaaGreatDoor
open Go.RowKit Tryz ML FM
structure XR(B:Nat)(w:World)(g:Nat)(cur:Array Value)(M Z:List U)(wr:World):Prop where
 below:Below B w wr
 v:wr.heap[B]?=some (.cells (xj Z) 235 (0,0))
 m:wr.heap[B+1]?=some (.cells (xj M) 235 (0,0))
 r:wr.heap[B+2]?=some (.cells (xj (List.replicate 16 0)) 235 (0,0))
 s:wr.heap[g]?=some (.cells cur 273 (0,0))
 ge:B+3≤g
theorem XR.turned {B:Nat}{w:World}{g:Nat}{cur:Array Value}{M Z Z':List U}{wr w1:World}(h:XR B w g cur M Z wr)(ho:xp B wr w1)
 (hp:w1.heap[B]?=some (.cells (xj Z') 235 (0,0))):XR B w g cur M Z' w1:=
 ⟨xQ h.below ho (jO _),hp,ho.keep (by omega) h.m,ho.keep (by omega) h.r,ho.keep (by have:=h.ge;omega) h.s,h.ge⟩
theorem XR.alloc {B:Nat}{w:World}{g:Nat}{cur:Array Value}{M Z:List U}{wr:World}(h:XR B w g cur M Z wr)(o:Obj):XR B w g cur M Z (wr.alloc o):=
 ⟨h.below.alloc (jZ (lt_of_heap h.v)) o,xx h.v,xx h.m,xx h.r,xx h.s,h.ge⟩
theorem XU {w:World}{g:Nat}{cur:Array Value}{T:TypeId}(h:w.heap[g]?=some (.cells cur T (0,0)))(hx:cur.toList.take 2560=JQ (KD 80))(n r:Nat)(x:Int)(hn:n<640)(hr:r<4)
 (hv:(jkW n)[r]?=some x):w.cell? ⟨g,4*n+r,none⟩=some (.int .i64 x):=by
 rw [jM w g _ _ _ _ h];have h1:(cur.toList.take 2560)[4*n+r]?=some (.int .i64 x):=by
  rw [hx,JQ,qK,jhF n r hn hr,hv];rfl
 rw [vT]at h1;split at h1;·simpa using h1
 ·cases h1
theorem jeB(V M:List U)(w:World)(hV:V.length=16)(hM:M.length=16):
 Calls prog 221 #[.agg (xj V),.agg (xj M)] w fun e w'=>e=.returned (.agg (xj (zU V M 80)))∧Below w.heap.size w w':=by
 have HV:=jA hV;have HM:=jA hM;clear hV hM;go_enter Tryz.func221,Tryz.ntmps221;go_upto_region 1 with(fail)
 refine xP (fun w1=>Below w.heap.size w w1∧w1.heap.size=w.heap.size+3∧w1.heap[w.heap.size]?=some (.cells (xj V) 235 (0,0))∧
  w1.heap[w.heap.size+1]?=some (.cells (xj M) 235 (0,0))∧w1.heap[w.heap.size+2]?=some (.cells (xj (List.replicate 16 0)) 235 (0,0))) ?_ (fun w1 hw1=>?_)
 ·refine⟨(((jN _ _).alloc (jO _) _).alloc (by simp) _).alloc (by simp;omega) _,by simp,?_,?_,?_⟩;·exact xx (xx (xN rfl))
  ·exact xx (xN (by simp))
  ·exact xN (by simp)
 obtain⟨hbel,hsz,h0,h1,h2⟩:=hw1;generalize hB:w.heap.size=B at*;have HB:=jA hB;have QS:=jA (jhG w1);rw [hsz]at QS;have HBE:=jA hbel;have H0:=jA h0;have H1:=jA h1;have H2:=jA h2;clear hB hbel h0 h1 h2;go_wp2_with (go_at_call 228;refine QS.u.mono ?_;rintro e w2 ⟨vs,rfl,hb2,hown⟩;have HOWN:=jA hown;obtain⟨g,cap,cur,hvs,hg,hh,_,_,_,hx⟩:=hown.2.resolve_left (by rintro⟨_,h⟩;cases h);rw [hvs];clear hown hvs);have S0:XR B w g cur M V w2:=⟨HBE.u.trans (hb2.mono (by omega)),xK hb2 (by omega) H0.u,xK hb2 (by omega) H1.u,xK hb2 (by omega) H2.u,hh,by omega⟩;have HX:=jA hx;clear HBE H0 H1 H2 QS HOWN hb2 hh hx hsz hg;go_loopw [9] (fun i wr=> ∃n:Nat,n≤640∧i=.int .i64 n∧XR B w g cur M (jaF V M n) wr) (fun i _=>640-(intOf i).toNat);case atStart=>exact⟨0,by omega,rfl,S0⟩
 case round=>
  obtain⟨n,hn,rfl,S⟩:=hrel;clear S0;by_cases hlt:n<640
  ·have hd640:decide ((n:Int)<640)=true:=by simp;omega
   have c0:wr.cell? ⟨g,n*4,none⟩=some (.int .i64 (sA n:Int)):=by rw [kU];exact XU S.s HX.u n 0 _ hlt (by decide) rfl
   have c1:wr.cell? ⟨g,n*4+1,none⟩=some (.int .i64 (sO n:Int)):=by rw [kU];exact XU S.s HX.u n 1 _ hlt (by decide) rfl
   have c2:wr.cell? ⟨g,n*4+2,none⟩=some (.int .i64 (sM n)):=by rw [kU];exact XU S.s HX.u n 2 _ hlt (by decide) rfl
   have c3:wr.cell? ⟨g,n*4+3,none⟩=some (.int .i64 (sT n:Int)):=by rw [kU];exact XU S.s HX.u n 3 _ hlt (by decide) rfl
   have la:=jmi n;have lo:=jmg n;have lm:=jmh n hlt;have lt:=jmf n;have hlen:(jaF V M n).length=16:=by rw [jao,HV.u]
   have hnext:jaF V M (n+1)=JP (jaF V M n) M n:=rfl;unfold JP at hnext;have cA:=yK S.v (sA n) (by omega);have cO:=yK S.v (sO n) (by omega);have cM:=fun h:0≤sM n=>yK S.m (sM n).toNat (by rw [HM.u];omega);generalize hZ:jaF V M n=Z at*;generalize hsA:sA n=sa at*;generalize hsO:sO n=so at*;generalize hsM:sM n=sm at*;generalize hsT:sT n=st at*;have HN:=jA hnext;have hzl:=hlen;clear hZ hsA hsO hsM hsT hnext hlen;go_upto_region 4 with(fail)
   refine xP (fun w3=>XR B w g cur M Z w3∧w3.heap[wr.heap.size]?=some (.cells #[.int .i64 (sa:Int),.int .i64 (so:Int),.int .i64 sm,.int .i64 (st:Int)] 273 (0,0))∧
    w3.cell? ⟨B,sa,none⟩=some (.int .u32 (un (Z.getD sa 0)))∧w3.cell? ⟨B,so,none⟩=some (.int .u32 (un (Z.getD so 0)))∧(0≤sm→w3.cell? ⟨B+1,sm.toNat,none⟩=some (.int .u32 (un (M.getD sm.toNat 0))))∧w3.frozen? ⟨B,sa,none⟩=false)
    ⟨S.alloc _,xN rfl,(World.cell?_alloc_some _ _ _ (by rw [cA];rfl)).trans cA,(World.cell?_alloc_some _ _ _ (by rw [cO];rfl)).trans cO,fun h=>(World.cell?_alloc_some _ _ _ (by rw [cM h];rfl)).trans (cM h),ye (S.alloc _).v _⟩ (fun w3 hw3=>?_)
   obtain⟨S3,hD,cA3,cO3,cM3,fA3⟩:=hw3;clear S cA cO cM c0 c1 c2 c3;generalize wr.heap.size=D at*;have d0:w3.cell? ⟨D,0,none⟩=some (.int .i64 (sa:Int)):=by rw [jM w3 D 0 _ _ _ hD];rfl
   have d1:w3.cell? ⟨D,1,none⟩=some (.int .i64 (so:Int)):=by rw [jM w3 D 1 _ _ _ hD];rfl
   have d2:w3.cell? ⟨D,2,none⟩=some (.int .i64 sm):=by rw [jM w3 D 2 _ _ _ hD];rfl
   have d3:w3.cell? ⟨D,3,none⟩=some (.int .i64 (st:Int)):=by rw [jM w3 D 3 _ _ _ hD];rfl
   have HD:=jA hD;clear hD;generalize hxa:Z.getD sa 0=xa at*;generalize hxo:Z.getD so 0=xo at*;clear hxa hxo;have RX:=jbc;have RA:=jlv;by_cases ht:0<st
   ·have hdt:decide ((0:Int)<(st:Int))=true:=by simp;omega
    have hfin:=HN.u;rw [jR ht]at hfin;have HFIN:=jA hfin;clear hfin HN hzl;go_upto_region 5 with(fail);refine Seg.xL (fun w'=> ∃n,w'=w3.drewN n) [([0,1,2,3,4,5,6,7,8,9,10,11,12],13)] [] 14 (by kernel_rfl) (by kernel_rfl) (fun _ _ d _ _ h=>by cases d<;>exact h) (⟨1,rfl⟩) ?_;simp only [jK,Seg.opAt,Seg.xW];repeat (any_goals (first|go_big_quiet_step (fail)|quiet_step (fail)))
    refine jP ?_;intro K hK;simp only [Region.wanted,jY];go_wp2_with (go_at_call 229;refine(jhY (xa ^^^ xo) st _ (by omega)).mono ?_;rintro e w' ⟨rfl,rfl⟩);rw [jbT _ st lt]at*;refine hK _ _ ⟨_,rfl⟩ ?_;clear hK K;repeat (any_goals (first|go_big_quiet_step (fail)|quiet_step (fail)))
    refine jP ?_;go_upto_region 9 with(fail);refine xP (fun w4=>XR B w g cur M (jaF V M (n+1)) w4) (by rw [HFIN.u];exact S3.turned (((xp.refl B w3).drewN 1).setCell _ _) (zA (w:=w3.drew) S3.v _ _)) (fun w4 S4=>?_);go_wp2_with fail;go_roundw;case rel=>exact⟨n+1,by omega,by go_num,S4⟩
    case measure=>simp [intOf];omega
   ·have hdt:decide ((0:Int)<(st:Int))=false:=by simp;omega
    have hfin:=HN.u;rw [jT ht]at hfin;have HFIN:=jA hfin;have HZL:=jA hzl;clear hfin HN hzl;have hBD:D≠B:=by intro e;subst e;have h1:=HD.u;rw [S3.v]at h1;simp at h1
    go_upto_region 6 with(fail);refine Seg.xL (fun w'=> ∃n,w'=w3.drewN n) [] [0,1,2,3,4,5,6,7,8,9,10] 11 (by kernel_rfl) (by kernel_rfl) (fun _ _ d _ _ h=>by cases d<;>exact h) (⟨1,rfl⟩) ?_;simp only [jK,Seg.opAt,Seg.xW];repeat (any_goals (first|go_big_quiet_step (fail)|quiet_step (fail)))
    refine jP ?_;go_upto_region 7 with(fail);refine xP (fun w4=>XR B w g cur M (Z.set sa (xa+xo)) w4∧w4.heap[D]?=some (.cells #[.int .i64 (sa:Int),.int .i64 (so:Int),.int .i64 sm,.int .i64 (st:Int)] 273 (0,0)))
     ⟨S3.turned (((xp.refl B w3).drewN 1).setCell _ _) (zA (w:=w3.drew) S3.v _ _),(((xp.refl B w3).drewN 1).setCell sa _).keep hBD HD.u⟩ (fun w4 hw4=>?_)
    obtain⟨S4,hD4⟩:=hw4;clear S3 HD d0 d1 d2 d3 cA3 cO3 cM3 fA3 hBD;have d0:w4.cell? ⟨D,0,none⟩=some (.int .i64 (sa:Int)):=by rw [jM w4 D 0 _ _ _ hD4];rfl
    have d2:w4.cell? ⟨D,2,none⟩=some (.int .i64 sm):=by rw [jM w4 D 2 _ _ _ hD4];rfl
    have cA4:w4.cell? ⟨B,sa,none⟩=some (.int .u32 (un (xa+xo))):=by rw [yK S4.v sa (by rw [kD,HZL.u];exact la),Jw _ _ _ (by rw [HZL.u];exact la)]
    have fA4:w4.frozen? ⟨B,sa,none⟩=false:=ye S4.v _;clear hD4;generalize xa+xo=xs at*;by_cases hm:0≤sm
    ·have hdm:decide ((0:Int)≤sm)=true:=by simp;omega
     have cM4:w4.cell? ⟨B+1,sm.toNat,none⟩=some (.int .u32 (un (M.getD sm.toNat 0))):=yK S4.m _ (by rw [HM.u];omega);generalize M.getD sm.toNat 0=xm at*;obtain⟨mn,rfl⟩:=Int.eq_ofNat_of_zero_le hm;have hfin:=HFIN.u;rw [jR hm]at hfin;have HF2:=jA hfin;clear hfin HFIN;simp only [Int.toNat_natCast]at cM4;go_upto_region 8 with(fail);refine Seg.xL (fun w'=> ∃n,w'=w4.drewN n) [] [0,1,2,3,4,5,6,7,8,9,10] 11 (by kernel_rfl) (by kernel_rfl) (fun _ _ d _ _ h=>by cases d<;>exact h) (⟨1,rfl⟩) ?_;simp only [jK,Seg.opAt,Seg.xW];repeat (any_goals (first|go_big_quiet_step (fail)|quiet_step (fail)))
     refine jP ?_;go_upto_region 9 with(fail);refine xP (fun w5=>XR B w g cur M (jaF V M (n+1)) w5) (by rw [HF2.u];exact S4.turned (((xp.refl B w4).drewN 1).setCell _ _) (zA (w:=w4.drew) S4.v _ _)) (fun w5 S5=>?_);go_wp2_with fail;go_roundw;case rel=>exact⟨n+1,by omega,by go_num,S5⟩
     case measure=>simp [intOf];omega
    ·have hdm:decide ((0:Int)≤sm)=false:=by simp;omega
     have hfin:=HFIN.u;rw [jT hm]at hfin;rw [←hfin]at S4;clear hfin HFIN;go_wp2_with fail;go_roundw;case rel=>exact⟨n+1,by omega,by go_num,S4⟩
     case measure=>simp [intOf];omega
  ·have hd640:decide ((n:Int)<640)=false:=by simp;omega
   obtain rfl:n=640:=by omega
   have hst:=jez V M HV.u 80;have S':XR B w g cur M (zU V M 80) wr:=by rw [←hst];exact S
   clear hst S;go_upto_region 10 with(fail);apply qk;have hl80:(zU V M 80).length=16:=by rw [zB,HV.u]
   have hs2:=jA (show(prog.info? 235).map (·.size)=some (xj (zU V M 80)).size by rw [xt,hl80];exact zl);clear hl80;refine xi rfl 235 _ rfl B (xj (zU V M 80)) _ _ _ rfl S'.v underlying235 rfl hs2.u ?_;refine xM rfl rfl 235 _ _ rfl (B+2) (xj (List.replicate 16 0)) (xj (zU V M 80)) 235 rfl rfl S'.r ?_ hs2.u (yU _) ?_;·rw [xt,xt,zB,HV.u];rfl
   intro w3 ho hp;go_wp2_with fail;refine jm (jw rfl _ w3 (B+2) _ _ _ _ rfl hp underlying235 rfl hs2.u) rfl ⟨rfl,?_⟩;rw [HB.u];exact xQ S'.below ho (by omega)
theorem ZM(w:World):
 Calls prog 208 #[] w fun e w'=>e=.returned (.agg (xj ivL))∧Below w.heap.size w w':=by
 have HF:=jA (show(prog.info? 205).map (·.size)=some (xj ivL).size by kernel_rfl);go_enter Tryz.func208,Tryz.ntmps208;go_wp2_with (refine xM rfl rfl 205 _ _ rfl w.heap.size (xj (List.replicate 8 0)) (xj ivL) 205 rfl rfl (xN rfl) rfl HF.u (yU _) ?_;intro w2 ho hp);refine jm (jw rfl _ w2 w.heap.size _ _ _ _ rfl hp underlying205 rfl HF.u) rfl ⟨rfl,?_⟩;exact xQ ((jN _ _).alloc (jO _) _) ho (jO _)
theorem jdv(H M:List U)(n:Nat)(last:Bool)(w:World)(hH:H.length=8)(hM:M.length=16)(hn:n<18446744073709551616):
 Calls prog 210 #[.agg (xj H),.agg (xj M),.int .u64 (n:Int),.bool last] w fun e w'=>e=.returned (.agg (xj (JH H M n last)))∧Below w.heap.size w w':=by
 have HH:=jA hH;have HM:=jA hM;have HN:=jA hn;clear hH hM hn;go_enter Tryz.func210,Tryz.ntmps210;go_upto_region 2 with(fail)
 refine xP (fun w1=>Below w.heap.size w w1∧w1.heap.size=w.heap.size+4∧w1.heap[w.heap.size]?=some (.cells (xj H) 205 (0,0))∧
  w1.heap[w.heap.size+1]?=some (.cells (xj M) 235 (0,0))∧w1.heap[w.heap.size+2]?=some (.cells (xj (List.replicate 8 0)) 205 (0,0))∧
  w1.heap[w.heap.size+3]?=some (.cells (xj (List.replicate 16 0)) 235 (0,0))) ?_ (fun w1 hw1=>?_)
 ·refine⟨((((jN _ _).alloc (jO _) _).alloc (by simp) _).alloc (by simp;omega) _).alloc (by simp;omega) _,by simp,?_,?_,?_,?_⟩;·exact xx (xx (xx (xN rfl)))
  ·exact xx (xx (xN (by simp)))
  ·exact xx (xN (by simp))
  ·exact xN (by simp)
 obtain⟨hbel,hsz,h0,h1,h2,h3⟩:=hw1;generalize hB:w.heap.size=B at*;have HB:=jA hB;have H0:=jA h0;have H1:=jA h1;have H2:=jA h2;have H3:=jA h3;have HBE:=jA hbel;have HSZ:=jA hsz;clear hB h0 h1 h2 h3 hbel hsz;have HI8:=jA (show(prog.info? 205).map (·.size)=some (xj ivL).size by kernel_rfl);go_upto_region 3 with(first
  |(go_at_call 208;refine(ZM _).mono ?_;rintro e w2 ⟨rfl,hb2⟩)
  |(refine xM rfl rfl 205 _ _ rfl w2.heap.size (xj (List.replicate 8 0)) (xj ivL) 205 rfl rfl (xN rfl) rfl HI8.u (yU _) ?_;intro w3 ho3 hp3))
 have b3:Below (B+4) w1 w3:=by
  have:=hb2.size;rw [HSZ.u]at hb2 this;exact(hb2.alloc (by omega) _).trans (ho3.below (by omega))
 have hD:B+4≤w2.heap.size:=by have:=hb2.size;rw [HSZ.u]at this;exact this
 generalize w2.heap.size=D at*;have S3:yu B w H M (List.replicate 16 0) w3:=⟨HBE.u.trans (b3.mono (by omega)),xK b3 (by omega) H0.u,xK b3 (by omega) H1.u,xK b3 (by omega) H2.u,xK b3 (by omega) H3.u⟩;have HP3:=jA hp3;clear hb2 ho3 b3 H0 H1 H2 H3 HBE HSZ hp3;go_wp2_with fail;go_loopw [11] (fun i wr=> ∃k:Nat,k≤8∧i=.int .i64 k∧yu B w H M (Yj H k) wr∧wr.heap[D]?=some (.cells (xj ivL) 205 (0,0))) (fun i _=>8-(intOf i).toNat);case atStart=>exact⟨0,by omega,rfl,S3,HP3.u⟩
 case round=>
 obtain⟨k,hk,rfl,S,hE⟩:=hrel;clear S3 HP3;by_cases hlt:k<8
 ·have hd8:decide ((k:Int)<8)=true:=by simp;omega
  have c0:=yK S.h k (by rw [HH.u];exact hlt);have f1:=ye S.v k;have f2:=ye S.v (k+8);have g1:=yK S.v k (by rw [Xe];omega);have g2:=yK S.v (k+8) (by rw [Xe];omega);have c1:=yK hE k hlt;have hnext:=jgC H k;generalize H.getD k 0=x0 at*;generalize ivL.getD k 0=x1 at*;generalize (Yj H k).getD k 0=y0 at*;generalize (Yj H k).getD (k+8) 0=y1 at*;have HNX:=jA hnext;have HE:=jA hE;clear hnext hE;go_upto_region 5 with(fail);refine xP (fun w5=>yu B w H M (Yj H (k+1)) w5∧w5.heap[D]?=some (.cells (xj ivL) 205 (0,0)))
   ⟨by rw [HNX.u];exact S.turnedV (((xp.refl _ wr).setCell _ _).setCell _ _) (zA (zA S.v _ _) _ _),(((xp.refl _ wr).setCell _ _).setCell _ _).keep (by omega) HE.u⟩ (fun w5 hw5=>?_)
  obtain⟨S5,hE5⟩:=hw5;clear S c0 f1 f2 g1 g2 c1 HE HNX;go_wp2_with fail;go_roundw;case rel=>exact⟨k+1,by omega,by go_num,S5,hE5⟩
  case measure=>simp [intOf];omega
 have hd8:decide ((k:Int)<8)=false:=by simp;omega
 obtain rfl:k=8:=by omega
 rw [jiP H HH.u]at S;clear hE;go_upto_region 8 with(fail);refine xP (fun w6=>yu B w H M (H++ivL) w6) S (fun w6 S6=>?_);clear S;have hl:(H++ivL).length=16:=by simp [HH.u,ivL]
 have hfin:=fun x12 x13 h12 h13=>jcs H _ n last x12 x13 rfl h12 h13;generalize H++ivL=V at*;have c12:=yK S6.v 12 (by omega);have c13:=yK S6.v 13 (by omega);have f12:=ye S6.v 12;have f13:=ye S6.v 13;have u0:=jfJ n;have u1:=jhz n HN.u;have RX:=jbc;have hfin':=hfin _ _ rfl rfl;clear hfin;generalize V.getD 12 0=x12 at*;generalize V.getD 13 0=x13 at*;have HL:=jA hl;have HFIN:=jA hfin';clear hl hfin';go_upto_region 10 with(fail);refine xP (fun w7=>yu B w H M ((V.set 12 (x12 ^^^ BitVec.ofNat 32 n)).set 13 (x13 ^^^ BitVec.ofNat 32 (n/4294967296))) w7)
  (S6.turnedV (((xp.refl _ w6).setCell _ _).setCell _ _) (zA (zA S6.v _ _) _ _)) (fun w7 S7=>?_)
 have hfin:=HFIN.u;have hl2:((V.set 12 (x12 ^^^ BitVec.ofNat 32 n)).set 13 (x13 ^^^ BitVec.ofNat 32 (n/4294967296))).length=16:=by simp [HL.u]
 clear S6 c12 c13 f12 f13 u0 u1 HFIN HL;generalize (V.set 12 (x12 ^^^ BitVec.ofNat 32 n)).set 13 (x13 ^^^ BitVec.ofNat 32 (n/4294967296))=V2 at*;have HFIN:=jA hfin;clear hfin;have c14:=yK S7.v 14 (by omega);have f14:=ye S7.v 14;have HLV:=jA (Yh H n last HH.u);clear hl2;generalize V2.getD 14 0=x14 at*;have RN:=jlJ x14;have un0:=XC x14;have un1:=jeo x14
 go_upto_if 44 with(fail)
 go_cut [] (fun w'=>yu B w H M (KW H n last) w');case first=>
  cases last
  ·go_wp2_with fail;go_meet;case rel=>rw [HFIN.u];exact S7
  ·go_wp2_with fail;go_meet;case rel=>rw [HFIN.u];exact S7.turnedV ((xp.refl _ w7).setCell _ _) (zA S7.v _ _)
 case rest=>
  have S8:yu B w H M (KW H n last) wc:=hcut;clear hcut S7 c14 f14 RN un0 un1 HFIN;have HZ:=jA (show JH H M n last=Qm H (zU (KW H n last) M 80) 8 from rfl);generalize KW H n last=V3 at*;have s1:=jA (show(prog.info? 235).map (·.size)=some (xj V3).size by rw [xt,HLV.u];exact zl);have s2:=jA (show(prog.info? 235).map (·.size)=some (xj M).size by rw [xt,HM.u];exact zl);have s3:=jA (show(prog.info? 235).map (·.size)=some (xj (zU V3 M 80)).size by rw [xt,zB,HLV.u];exact zl);have hlW:(zU V3 M 80).length=16:=by rw [zB,HLV.u]
  have hB4:B+4≤wc.heap.size:=lt_of_heap S8.v;go_upto_region 12 with(fail);apply qk;refine xi rfl 235 _ rfl (B+3) (xj V3) _ _ _ rfl S8.v underlying235 rfl s1.u ?_;refine xi rfl 235 _ rfl (B+1) (xj M) _ _ _ rfl S8.m underlying235 rfl s2.u ?_;have QQ:=jA (jeB V3 M wc HLV.u HM.u);generalize zU V3 M 80=Z at*;go_upto_region 13 with(first
   |(go_at_call 221;refine QQ.u.mono ?_;rintro e w2 ⟨rfl,hb2⟩)
   |(refine xM rfl rfl 235 _ _ rfl w2.heap.size (xj (List.replicate 16 0)) (xj Z) 235 rfl rfl (xN rfl) (by rw [xt,xt,hlW];rfl) s3.u (yU _) ?_;intro w3 ho3 hp3))
  have hD2:B+4≤w2.heap.size:=jU hB4 hb2.size;have b3:Below (B+4) wc w3:=((hb2.mono hB4).alloc hD2 _).trans (ho3.below hD2);have S9:=S8.kept b3;generalize w2.heap.size=E at*;clear S8 b3 ho3 hb2 QQ hB4 s1 s2 s3;go_wp2_with fail;go_loopw [13] (fun i wr=> ∃k:Nat,k≤8∧i=.int .i64 k∧yu B w (Qm H Z k) M V3 wr∧wr.heap[E]?=some (.cells (xj Z) 235 (0,0))) (fun i _=>8-(intOf i).toNat);case atStart=>exact⟨0,by omega,rfl,S9,hp3⟩
  case round=>
   obtain⟨k,hk,rfl,S,hE⟩:=hrel;clear S9 hp3;by_cases hlt:k<8
   ·have hd8:decide ((k:Int)<8)=true:=by simp;omega
    have hlk:(Qm H Z k).length=8:=by rw [JJ,HH.u]
    have c0:=yK S.h k (by omega);have f0:=ye S.h k;have c1:=yK hE k (by omega);have c2:=yK hE (k+8) (by omega);have hnext:=jcB H Z k;rw [←BitVec.xor_assoc]at hnext;generalize (Qm H Z k).getD k 0=x0 at*;generalize Z.getD k 0=x1 at*;generalize Z.getD (k+8) 0=x2 at*;have HNX:=jA hnext;clear hnext hlk;have HE:=jA hE;clear hE;go_upto_region 16 with(fail);refine Seg.xL (fun w'=> ∃n,w'=wr.drewN n) [] [0,1,2,3,4,5,6,7,8,9,10,11,12] 13 (by kernel_rfl) (by kernel_rfl) (fun _ _ d _ _ h=>by cases d<;>exact h) (⟨1,rfl⟩) ?_;simp only [jK,Seg.opAt,Seg.xW];repeat (any_goals (first|go_big_quiet_step (fail)|quiet_step (fail)))
    refine jP ?_;go_upto_region 15 with(fail);refine xP (fun w5=>yu B w (Qm H Z (k+1)) M V3 w5∧w5.heap[E]?=some (.cells (xj Z) 235 (0,0)))
     ⟨by rw [HNX.u];exact S.turnedH (((xp.refl B wr).drewN 1).setCell _ _) (zA (w:=wr.drew) S.h _ _),(((xp.refl B wr).drewN 1).setCell k _).keep (by omega) HE.u⟩ (fun w5 hw5=>?_)
    obtain⟨S5,hE5⟩:=hw5;clear S c0 f0 c1 c2 HE HNX;go_wp2_with fail;go_roundw;case rel=>exact⟨k+1,by omega,by go_num,S5,hE5⟩
    case measure=>simp [intOf];omega
   ·have hd8:decide ((k:Int)<8)=false:=by simp;omega
    obtain rfl:k=8:=by omega
    have hs8:=jA (show(prog.info? 205).map (·.size)=some (xj (Qm H Z 8)).size by rw [xt,JJ,HH.u];exact JN);go_upto_region 17 with(fail);apply qk;refine xi rfl 205 _ rfl B (xj (Qm H Z 8)) _ _ _ rfl S.h underlying205 rfl hs8.u ?_;refine xM rfl rfl 205 _ _ rfl (B+2) (xj (List.replicate 8 0)) (xj (Qm H Z 8)) 205 rfl rfl S.r ?_ hs8.u (yU _) ?_;·rw [xt,xt,JJ,HH.u];rfl
    intro w6 ho hp;go_wp2_with fail;refine jm (jw rfl _ w6 (B+2) _ _ _ _ rfl hp underlying205 rfl hs8.u) rfl ⟨by rw [HZ.u],?_⟩;rw [HB.u];exact xQ S.below ho (by omega)
end Go.Proofs.YtnohcdpnnhmpfaaGreatDoor
