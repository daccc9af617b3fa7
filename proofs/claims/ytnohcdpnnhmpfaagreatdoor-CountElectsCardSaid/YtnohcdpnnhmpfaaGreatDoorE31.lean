/- The reference's steps as plain functions: which words each step takes; zY steps are one quarter. -/
import Derived.Test.YtnohcdpnnhmpfaaGreatDoorE30
import Derived.Deep.RegionHeld
set_option linter.all false
set_option maxRecDepth 100000
set_option maxHeartbeats 4000000
namespace Go.Proofs.YtnohcdpnnhmpfaaGreatDoor.FM
open Go.RowKit Tryz ML
def sA(n:Nat):Nat:=if n%4=0 then ca (n/8%8)else if n%4=1 then cd (n/8%8)else if n%4=2 then cc (n/8%8)else cb (n/8%8)
def sO(n:Nat):Nat:=if n%4=0 then cb (n/8%8)else if n%4=1 then ca (n/8%8)else if n%4=2 then cd (n/8%8)else cc (n/8%8)
def sM(n:Nat):Int:=if n%8=0 then zJ (n/8/8) (2* (n/8%8))else if n%8=4 then zJ (n/8/8) (2* (n/8%8)+1)else -1
def sT(n:Nat):Nat:=if n%8=1 then 16 else if n%8=3 then 12 else if n%8=5 then 8 else if n%8=7 then 7 else 0
theorem jpk(n:Nat):sA n<16:=by
 have D:=jbP (n/8%8);unfold sA;repeat' split
 ·exact D.la
 ·exact D.ld
 ·exact D.lc
 ·exact D.lb
theorem jpi(n:Nat):sO n<16:=by
 have D:=jbP (n/8%8);unfold sO;repeat' split
 ·exact D.lb
 ·exact D.la
 ·exact D.ld
 ·exact D.lc
theorem jph(n:Nat):sT n<32:=by
 unfold sT;repeat' split
 all_goals decide
theorem jpj(n:Nat)(h:n<640):sM n<16:=by
 unfold sM;repeat' split
 ·have:=Vc (n/8/8) (2* (n/8%8)) (by omega) (by omega);omega
 ·have:=Vc (n/8/8) (2* (n/8%8)+1) (by omega) (by omega);omega
 ·decide
def jnJ(n:Nat):C0:= [(sA n:Int),(sO n:Int),sM n,(sT n:Int)]
theorem Zd: ∀(m k:Nat),k≤m→ ∃r,Ki m=Ki k++r
 |0,k,h=>⟨[],by
  obtain rfl:k=0:=by omega
  simp⟩
 |
  m+1,k,h=>by
  rcases jw m k with h1|h1
  ·obtain rfl:k=m+1:=by omega
   exact⟨[],by simp⟩
  ·obtain⟨r,hr⟩:=Zd m k h1;exact⟨r++zY m,by rw [Ki,hr,kY]⟩
theorem jld(k q r:Nat)(hq:q<8)(hr:r<4):(zY k)[4*q+r]?=(jnJ (8*k+q))[r]?:=by
 unfold jnJ sA sO sM sT;rw [show(8*k+q)/8=k by omega,show(8*k+q)%8=q by omega,show(8*k+q)%4=q%4 by omega]
 match q,hq with
 |
  0,_=>match r,hr with
  |0,_=>simp [zY,stp]
  |1,_=>simp [zY,stp]
  |2,_=>simp [zY,stp]
  |3,_=>simp [zY,stp]
 |
  1,_=>match r,hr with
  |0,_=>simp [zY,stp]
  |1,_=>simp [zY,stp]
  |2,_=>simp [zY,stp]
  |3,_=>simp [zY,stp]
 |
  2,_=>match r,hr with
  |0,_=>simp [zY,stp]
  |1,_=>simp [zY,stp]
  |2,_=>simp [zY,stp]
  |3,_=>simp [zY,stp]
 |
  3,_=>match r,hr with
  |0,_=>simp [zY,stp]
  |1,_=>simp [zY,stp]
  |2,_=>simp [zY,stp]
  |3,_=>simp [zY,stp]
 |
  4,_=>match r,hr with
  |0,_=>simp [zY,stp]
  |1,_=>simp [zY,stp]
  |2,_=>simp [zY,stp]
  |3,_=>simp [zY,stp]
 |
  5,_=>match r,hr with
  |0,_=>simp [zY,stp]
  |1,_=>simp [zY,stp]
  |2,_=>simp [zY,stp]
  |3,_=>simp [zY,stp]
 |
  6,_=>match r,hr with
  |0,_=>simp [zY,stp]
  |1,_=>simp [zY,stp]
  |2,_=>simp [zY,stp]
  |3,_=>simp [zY,stp]
 |
  7,_=>match r,hr with
  |0,_=>simp [zY,stp]
  |1,_=>simp [zY,stp]
  |2,_=>simp [zY,stp]
  |3,_=>simp [zY,stp]
theorem jfy(k:Nat):(zY k).length=32:=rfl
theorem jjD(n r:Nat)(hn:n<640)(hr:r<4):(Ki 80)[4*n+r]?=(jnJ n)[r]?:=by
 obtain⟨t,ht⟩:=Zd 80 (n/8+1) (by omega);have hl:=Zh (n/8)
 rw [ht,Ki,kY,kZ (by omega),qZ (by rw [jfy];omega),hl,
  show 4*n+r-32* (n/8)=4* (n%8)+r by omega,jld _ _ _ (by omega) hr,show 8* (n/8)+n%8=n by omega]
def Jm(V M:List U)(n:Nat):List U:=
 if 0<sT n then V.set (sA n) ((V.getD (sA n) 0 ^^^ V.getD (sO n) 0).rotateRight (sT n))
 else if 0≤sM n then(V.set (sA n) (V.getD (sA n) 0+V.getD (sO n) 0)).set (sA n) ((V.getD (sA n) 0+V.getD (sO n) 0)+M.getD (sM n).toNat 0)
 else V.set (sA n) (V.getD (sA n) 0+V.getD (sO n) 0)
def jbL(V M:List U):Nat→List U
 |0=>V
 |n+1=>Jm (jbL V M n) M n
theorem jfv(V M:List U)(n:Nat):(Jm V M n).length=V.length:=by
 unfold Jm;repeat' split
 all_goals simp
theorem jbu(V M:List U): ∀n,(jbL V M n).length=V.length
 |0=>rfl
 |n+1=>by rw [jbL,jfv,jbu V M n]
def jpr(V M:List U)(n:Nat):List U:=
 if 0<sT n then V.set (sA n) ((V.getD (sA n) 0).rotateRight (32-sT n)^^^ V.getD (sO n) 0)
 else if 0≤sM n then(V.set (sA n) (V.getD (sA n) 0-V.getD (sO n) 0)).set (sA n) ((V.getD (sA n) 0-V.getD (sO n) 0)-M.getD (sM n).toNat 0)
 else V.set (sA n) (V.getD (sA n) 0-V.getD (sO n) 0)
def jpt(V M:List U):Nat→List U
 |0=>V
 |n+1=>jpr (jpt V M n) M (639-n)
theorem XJ(V M:List U)(k q:Nat)(hq:q<8):Jm V M (8*k+q)=
 (
  let i:=k%8
  if q=0 then(V.set (ca i) (V.getD (ca i) 0+V.getD (cb i) 0)).set (ca i) ((V.getD (ca i) 0+V.getD (cb i) 0)+M.getD (zJ (k/8) (2*i)) 0)
  else if q=1 then V.set (cd i) ((V.getD (cd i) 0 ^^^ V.getD (ca i) 0).rotateRight 16)
  else if q=2 then V.set (cc i) (V.getD (cc i) 0+V.getD (cd i) 0)
  else if q=3 then V.set (cb i) ((V.getD (cb i) 0 ^^^ V.getD (cc i) 0).rotateRight 12)
  else if q=4 then(V.set (ca i) (V.getD (ca i) 0+V.getD (cb i) 0)).set (ca i) ((V.getD (ca i) 0+V.getD (cb i) 0)+M.getD (zJ (k/8) (2*i+1)) 0)
  else if q=5 then V.set (cd i) ((V.getD (cd i) 0 ^^^ V.getD (ca i) 0).rotateRight 8)
  else if q=6 then V.set (cc i) (V.getD (cc i) 0+V.getD (cd i) 0)
  else V.set (cb i) ((V.getD (cb i) 0 ^^^ V.getD (cc i) 0).rotateRight 7)):=by
 unfold Jm sA sO sM sT;rw [show(8*k+q)/8=k by omega,show(8*k+q)%8=q by omega,show(8*k+q)%4=q%4 by omega]
 match q,hq with
 |0,_=>simp
 |1,_=>simp
 |2,_=>simp
 |3,_=>simp
 |4,_=>simp
 |5,_=>simp
 |6,_=>simp
 |7,_=>simp
theorem jdN(V:List U)(a b c d:Nat)(xa xb xc xd y:U)(hl:V.length=16)(D:Zb a b c d):(Ju V a b c d xa xb xc xd).set a y=Ju V a b c d y xb xc xd:=by
 refine jeq _ _ (by simp [JC]) (fun j _=>?_);rw [zy _ _ _ _ (by rw [JC,hl];exact D.la),Jw _ _ _ _ _ _ _ _ _ hl D,Jw _ _ _ _ _ _ _ _ _ hl D];have:=D.ab;have:=D.ac;have:=D.ad
 repeat' split
 all_goals first|rfl|omega
theorem jdM(V:List U)(a b c d:Nat)(xa xb xc xd y:U)(hl:V.length=16)(D:Zb a b c d):(Ju V a b c d xa xb xc xd).set b y=Ju V a b c d xa y xc xd:=by
 refine jeq _ _ (by simp [JC]) (fun j _=>?_);rw [zy _ _ _ _ (by rw [JC,hl];exact D.lb),Jw _ _ _ _ _ _ _ _ _ hl D,Jw _ _ _ _ _ _ _ _ _ hl D];have:=D.ab;have:=D.bc;have:=D.bd
 repeat' split
 all_goals first|rfl|omega
theorem jdL(V:List U)(a b c d:Nat)(xa xb xc xd y:U)(hl:V.length=16)(D:Zb a b c d):(Ju V a b c d xa xb xc xd).set c y=Ju V a b c d xa xb y xd:=by
 refine jeq _ _ (by simp [JC]) (fun j _=>?_);rw [zy _ _ _ _ (by rw [JC,hl];exact D.lc),Jw _ _ _ _ _ _ _ _ _ hl D,Jw _ _ _ _ _ _ _ _ _ hl D];have:=D.ac;have:=D.bc;have:=D.cd
 repeat' split
 all_goals first|rfl|omega
theorem jdK(V:List U)(a b c d:Nat)(xa xb xc xd y:U)(hl:V.length=16)(D:Zb a b c d):(Ju V a b c d xa xb xc xd).set d y=Ju V a b c d xa xb xc y:=by
 refine jeq _ _ (by simp [JC]) (fun j _=>?_);rw [zy _ _ _ _ (by rw [JC,hl];exact D.ld),Jw _ _ _ _ _ _ _ _ _ hl D,Jw _ _ _ _ _ _ _ _ _ hl D];have:=D.ad;have:=D.bd;have:=D.cd
 repeat' split
 all_goals first|rfl|omega
theorem jjM(V M:List U)(k:Nat)(xa xb xc xd:U)(hl:V.length=16):
 Jm (Ju V (ca (k%8)) (cb (k%8)) (cc (k%8)) (cd (k%8)) xa xb xc xd) M (8*k+0)=Ju V (ca (k%8)) (cb (k%8)) (cc (k%8)) (cd (k%8)) (xa+(xb+M.getD (zJ (k/8) (2* (k%8))) 0)) xb xc xd:=by
 have D:=jbP (k%8);obtain⟨g1,g2,g3,g4⟩:=KZ V _ _ _ _ xa xb xc xd hl D;rw [XJ _ _ k 0 (by decide)];simp only [jY,if_false,Nat.reduceEqDiff,List.set_set,g1,g2,g3,g4,jdN _ _ _ _ _ _ _ _ _ _ hl D,vX]
theorem jjL(V M:List U)(k:Nat)(xa xb xc xd:U)(hl:V.length=16):
 Jm (Ju V (ca (k%8)) (cb (k%8)) (cc (k%8)) (cd (k%8)) xa xb xc xd) M (8*k+1)=Ju V (ca (k%8)) (cb (k%8)) (cc (k%8)) (cd (k%8)) xa xb xc ((xd ^^^ xa).rotateRight 16):=by
 have D:=jbP (k%8);obtain⟨g1,g2,g3,g4⟩:=KZ V _ _ _ _ xa xb xc xd hl D;rw [XJ _ _ k 1 (by decide)];simp only [jY,if_false,Nat.reduceEqDiff,List.set_set,g1,g2,g3,g4,jdK _ _ _ _ _ _ _ _ _ _ hl D,vX]
theorem jjK(V M:List U)(k:Nat)(xa xb xc xd:U)(hl:V.length=16):
 Jm (Ju V (ca (k%8)) (cb (k%8)) (cc (k%8)) (cd (k%8)) xa xb xc xd) M (8*k+2)=Ju V (ca (k%8)) (cb (k%8)) (cc (k%8)) (cd (k%8)) xa xb (xc+xd) xd:=by
 have D:=jbP (k%8);obtain⟨g1,g2,g3,g4⟩:=KZ V _ _ _ _ xa xb xc xd hl D;rw [XJ _ _ k 2 (by decide)];simp only [jY,if_false,Nat.reduceEqDiff,List.set_set,g1,g2,g3,g4,jdL _ _ _ _ _ _ _ _ _ _ hl D,vX]
theorem jjJ(V M:List U)(k:Nat)(xa xb xc xd:U)(hl:V.length=16):
 Jm (Ju V (ca (k%8)) (cb (k%8)) (cc (k%8)) (cd (k%8)) xa xb xc xd) M (8*k+3)=Ju V (ca (k%8)) (cb (k%8)) (cc (k%8)) (cd (k%8)) xa ((xb ^^^ xc).rotateRight 12) xc xd:=by
 have D:=jbP (k%8);obtain⟨g1,g2,g3,g4⟩:=KZ V _ _ _ _ xa xb xc xd hl D;rw [XJ _ _ k 3 (by decide)];simp only [jY,if_false,Nat.reduceEqDiff,List.set_set,g1,g2,g3,g4,jdM _ _ _ _ _ _ _ _ _ _ hl D,vX]
theorem jjI(V M:List U)(k:Nat)(xa xb xc xd:U)(hl:V.length=16):
 Jm (Ju V (ca (k%8)) (cb (k%8)) (cc (k%8)) (cd (k%8)) xa xb xc xd) M (8*k+4)=Ju V (ca (k%8)) (cb (k%8)) (cc (k%8)) (cd (k%8)) (xa+(xb+M.getD (zJ (k/8) (2* (k%8)+1)) 0)) xb xc xd:=by
 have D:=jbP (k%8);obtain⟨g1,g2,g3,g4⟩:=KZ V _ _ _ _ xa xb xc xd hl D;rw [XJ _ _ k 4 (by decide)];simp only [jY,if_false,Nat.reduceEqDiff,List.set_set,g1,g2,g3,g4,jdN _ _ _ _ _ _ _ _ _ _ hl D,vX]
theorem jjH(V M:List U)(k:Nat)(xa xb xc xd:U)(hl:V.length=16):
 Jm (Ju V (ca (k%8)) (cb (k%8)) (cc (k%8)) (cd (k%8)) xa xb xc xd) M (8*k+5)=Ju V (ca (k%8)) (cb (k%8)) (cc (k%8)) (cd (k%8)) xa xb xc ((xd ^^^ xa).rotateRight 8):=by
 have D:=jbP (k%8);obtain⟨g1,g2,g3,g4⟩:=KZ V _ _ _ _ xa xb xc xd hl D;rw [XJ _ _ k 5 (by decide)];simp only [jY,if_false,Nat.reduceEqDiff,List.set_set,g1,g2,g3,g4,jdK _ _ _ _ _ _ _ _ _ _ hl D,vX]
theorem jjG(V M:List U)(k:Nat)(xa xb xc xd:U)(hl:V.length=16):
 Jm (Ju V (ca (k%8)) (cb (k%8)) (cc (k%8)) (cd (k%8)) xa xb xc xd) M (8*k+6)=Ju V (ca (k%8)) (cb (k%8)) (cc (k%8)) (cd (k%8)) xa xb (xc+xd) xd:=by
 have D:=jbP (k%8);obtain⟨g1,g2,g3,g4⟩:=KZ V _ _ _ _ xa xb xc xd hl D;rw [XJ _ _ k 6 (by decide)];simp only [jY,if_false,Nat.reduceEqDiff,List.set_set,g1,g2,g3,g4,jdL _ _ _ _ _ _ _ _ _ _ hl D,vX]
theorem jjF(V M:List U)(k:Nat)(xa xb xc xd:U)(hl:V.length=16):
 Jm (Ju V (ca (k%8)) (cb (k%8)) (cc (k%8)) (cd (k%8)) xa xb xc xd) M (8*k+7)=Ju V (ca (k%8)) (cb (k%8)) (cc (k%8)) (cd (k%8)) xa ((xb ^^^ xc).rotateRight 7) xc xd:=by
 have D:=jbP (k%8);obtain⟨g1,g2,g3,g4⟩:=KZ V _ _ _ _ xa xb xc xd hl D;rw [XJ _ _ k 7 (by decide)];simp only [jY,if_false,Nat.reduceEqDiff,List.set_set,g1,g2,g3,g4,jdM _ _ _ _ _ _ _ _ _ _ hl D,vX]
theorem jgr(V:List U)(a b c d:Nat)(x y:U)(hl:V.length=16)(D:Zb a b c d):Vp V a b c d x y=
 (
  let va:=V.getD a 0;let vb:=V.getD b 0;let vc:=V.getD c 0;let vd:=V.getD d 0
  let a1:=va+(vb+x);let d1:=(vd ^^^ a1).rotateRight 16;let c1:=vc+d1;let b1:=(vb ^^^ c1).rotateRight 12
  let a2:=a1+(b1+y);let d2:=(d1 ^^^ a2).rotateRight 8;let c2:=c1+d2;let b2:=(b1 ^^^ c2).rotateRight 7
  Ju V a b c d a2 b2 c2 d2):=joN V a b c d _ _ _ _ _ _ _ _ hl D
theorem jgi(V M:List U)(k:Nat)(hl:V.length=16):
 Jm (Jm (Jm (Jm (Jm (Jm (Jm (Jm V M (8*k+0)) M (8*k+1)) M (8*k+2)) M (8*k+3)) M (8*k+4)) M (8*k+5)) M (8*k+6)) M (8*k+7)=jjc V M k:=by
 have D:=jbP (k%8);have hv:V=Ju V (ca (k%8)) (cb (k%8)) (cc (k%8)) (cd (k%8)) (V.getD (ca (k%8)) 0) (V.getD (cb (k%8)) 0) (V.getD (cc (k%8)) 0) (V.getD (cd (k%8)) 0):=(jkd V _ _ _ _ hl D).symm;have h0:Jm V M (8*k+0)=_:=(qO (fun W=>Jm W M (8*k+0)) hv).trans (jjM V M k _ _ _ _ hl);rw [h0,jjL _ _ _ _ _ _ _ hl,jjK _ _ _ _ _ _ _ hl,jjJ _ _ _ _ _ _ _ hl,jjI _ _ _ _ _ _ _ hl,jjH _ _ _ _ _ _ _ hl,jjG _ _ _ _ _ _ _ hl,jjF _ _ _ _ _ _ _ hl];exact(jgr V _ _ _ _ _ _ hl D).symm
theorem jgh(V M:List U)(hl:V.length=16): ∀k,jbL V M (8*k)=zt V M k
 |0=>rfl
 |
  k+1=>by
  rw [show 8* (k+1)=8*k+1+1+1+1+1+1+1+1 by omega];simp only [jbL];rw [jgh V M hl k,zt];exact jgi _ _ _ (by rw [zX,hl])
end Go.Proofs.YtnohcdpnnhmpfaaGreatDoor.FM
namespace Go.Proofs.YtnohcdpnnhmpfaaGreatDoor
open Go.RowKit Tryz ML FM
variable{B g:Nat}{Es:t0}{w wr:m0}
structure YM(B:Nat)(w:m0)(g:Nat)(Es:t0)(M Z:List U)(wr:m0):Prop where
 below:O0 B w wr
 v:wr.heap[B]?=some (.cells (yF Z) 235 (0,0))
 m:wr.heap[B+1]?=some (.cells (yF M) 235 (0,0))
 r:wr.heap[B+2]?=some (.cells (yF (List.replicate 16 0)) 235 (0,0))
 s:wr.heap[g]?=some (.cells Es 273 (0,0))
 ge:B+3≤g
theorem YM.turned{M Z Z':List U}{w1:m0}(h:YM B w g Es M Z wr)(ho:yG B wr w1)
 (hp:w1.heap[B]?=some (.cells (yF Z') 235 (0,0))):YM B w g Es M Z' w1:=
 ⟨xl h.below ho (jO _),hp,ho.keep (by omega) h.m,ho.keep (by omega) h.r,ho.keep (by have:=h.ge;omega) h.s,h.ge⟩
theorem YM.alloc{M Z:List U}(h:YM B w g Es M Z wr)(o:Obj):YM B w g Es M Z (wr.alloc o):=
 ⟨h.below.alloc (jX (xZ h.v)) o,yM h.v,yM h.m,yM h.r,yM h.s,h.ge⟩
theorem YP{T:o0}(h:w.heap[g]?=some (.cells Es T (0,0)))(hx:Es.toList.take 2560=Jn (Ki 80))(n r:Nat)(x:Int)(hn:n<640)(hr:r<4)
 (hv:(jnJ n)[r]?=some x):w.cell? ⟨g,4*n+r,none⟩=some (.int .i64 x):=by
 rw [jM w g _ _ _ _ h];have h1:(Es.toList.take 2560)[4*n+r]?=some (.int .i64 x):=by
  rw [hx,Jn,qe,jjD n r hn hr,hv];rfl
 rw [vw]at h1;split at h1;·simpa using h1
 ·cases h1
theorem jgj(V M:List U)(w:m0)(hV:V.length=16)(hM:M.length=16):
 Calls prog 221 #[.agg (yF V),.agg (yF M)] w fun e w'=>e=.returned (.agg (yF (zt V M 80)))∧O0 w.heap.size w w':=by
 have HV:=jA hV;have HM:=jA hM;clear hV hM;go_enter Tryz.func221,Tryz.ntmps221;go_upto_region 1 with(fail)
 refine xr (fun w1=>O0 w.heap.size w w1∧w1.heap.size=w.heap.size+3∧w1.heap[w.heap.size]?=some (.cells (yF V) 235 (0,0))∧
  w1.heap[w.heap.size+1]?=some (.cells (yF M) 235 (0,0))∧w1.heap[w.heap.size+2]?=some (.cells (yF (List.replicate 16 0)) 235 (0,0))) ?_ (fun w1 ts=>?_)
 ·refine⟨(((jN _ _).alloc (jO _) _).alloc (by simp) _).alloc (by simp;omega) _,by simp,?_,?_,?_⟩;·exact yM (yM (xh rfl))
  ·exact yM (xh (by simp))
  ·exact xh (by simp)
 obtain⟨it,Iu,h0,h1,h2⟩:=ts;generalize hB:w.heap.size=B at*;have HB:=jA hB;have QS:=jA (jjE w1);rw [Iu]at QS;have LH:=jA it;have H0:=jA h0;have H1:=jA h1;have H2:=jA h2;clear hB it h0 h1 h2;go_wp2_with (go_at_call 228;refine QS.u.mono ?_;rintro e w2 ⟨vs,rfl,Ut,Nt⟩;obtain⟨g,cap,Es,hvs,hg,hh,_,_,_,hx⟩:=Nt.2.resolve_left (by rintro⟨_,h⟩;cases h);rw [hvs];clear Nt hvs);have S0:YM B w g Es M V w2:=⟨LH.u.trans (Ut.mono (by omega)),xe Ut (by omega) H0.u,xe Ut (by omega) H1.u,xe Ut (by omega) H2.u,hh,by omega⟩;have HX:=jA hx;clear LH H0 H1 H2 QS Ut hh hx Iu hg;go_loopw [9] (fun i wr=> ∃n:Nat,n≤640∧i=.int .i64 n∧YM B w g Es M (jbL V M n) wr) (fun i _=>640-(intOf i).toNat);case atStart=>exact⟨0,by omega,rfl,S0⟩
 case round=>
  obtain⟨n,hn,rfl,S⟩:=hrel;clear S0;by_cases ns:n<640
  ·have hd640:decide ((n:Int)<640)=true:=by simp;omega
   have c0:wr.cell? ⟨g,n*4,none⟩=some (.int .i64 (sA n:Int)):=by rw [kf];exact YP S.s HX.u n 0 _ ns (by decide) rfl
   have c1:wr.cell? ⟨g,n*4+1,none⟩=some (.int .i64 (sO n:Int)):=by rw [kf];exact YP S.s HX.u n 1 _ ns (by decide) rfl
   have c2:wr.cell? ⟨g,n*4+2,none⟩=some (.int .i64 (sM n)):=by rw [kf];exact YP S.s HX.u n 2 _ ns (by decide) rfl
   have c3:wr.cell? ⟨g,n*4+3,none⟩=some (.int .i64 (sT n:Int)):=by rw [kf];exact YP S.s HX.u n 3 _ ns (by decide) rfl
   have la:=jpk n;have lo:=jpi n;have lm:=jpj n ns;have lt:=jph n;have Ds:(jbL V M n).length=16:=by rw [jbu,HV.u]
   have ut:jbL V M (n+1)=Jm (jbL V M n) M n:=rfl;unfold Jm at ut;have cA:=ye S.v (sA n) (by omega);have cO:=ye S.v (sO n) (by omega);have cM:=fun h:0≤sM n=>ye S.m (sM n).toNat (by rw [HM.u];omega);generalize hZ:jbL V M n=Z at*;generalize hsA:sA n=sa at*;generalize hsO:sO n=so at*;generalize hsM:sM n=sm at*;generalize OY:sT n=st at*;have HN:=jA ut;have hzl:=Ds;clear hZ hsA hsO hsM OY ut Ds;go_upto_region 4 with(fail)
   refine xr (fun w3=>YM B w g Es M Z w3∧w3.heap[wr.heap.size]?=some (.cells #[.int .i64 (sa:Int),.int .i64 (so:Int),.int .i64 sm,.int .i64 (st:Int)] 273 (0,0))∧
    w3.cell? ⟨B,sa,none⟩=some (.int .u32 (un (Z.getD sa 0)))∧w3.cell? ⟨B,so,none⟩=some (.int .u32 (un (Z.getD so 0)))∧(0≤sm→w3.cell? ⟨B+1,sm.toNat,none⟩=some (.int .u32 (un (M.getD sm.toNat 0))))∧w3.frozen? ⟨B,sa,none⟩=false)
    ⟨S.alloc _,xh rfl,(World.cell?_alloc_some _ _ _ (by rw [cA];rfl)).trans cA,(World.cell?_alloc_some _ _ _ (by rw [cO];rfl)).trans cO,fun h=>(World.cell?_alloc_some _ _ _ (by rw [cM h];rfl)).trans (cM h),yw (S.alloc _).v _⟩ (fun w3 mw=>?_)
   obtain⟨S3,hD,cA3,cO3,cM3,fA3⟩:=mw;clear S cA cO cM c0 c1 c2 c3;generalize wr.heap.size=D at*;have d0:w3.cell? ⟨D,0,none⟩=some (.int .i64 (sa:Int)):=by rw [jM w3 D 0 _ _ _ hD];rfl
   have d1:w3.cell? ⟨D,1,none⟩=some (.int .i64 (so:Int)):=by rw [jM w3 D 1 _ _ _ hD];rfl
   have d2:w3.cell? ⟨D,2,none⟩=some (.int .i64 sm):=by rw [jM w3 D 2 _ _ _ hD];rfl
   have d3:w3.cell? ⟨D,3,none⟩=some (.int .i64 (st:Int)):=by rw [jM w3 D 3 _ _ _ hD];rfl
   have HD:=jA hD;clear hD;generalize hxa:Z.getD sa 0=xa at*;generalize hxo:Z.getD so 0=xo at*;clear hxa hxo;have RX:=jcn;have RA:=jop;by_cases ht:0<st
   ·have hdt:decide ((0:Int)<(st:Int))=true:=by simp;omega
    have Wt:=HN.u;rw [jP ht]at Wt;have Gv:=jA Wt;clear Wt HN hzl;go_upto_region 5 with(fail);refine Seg.xf (fun w'=> ∃n,w'=w3.drewN n) [([0,1,2,3,4,5,6,7,8,9,10,11,12],13)] [] 14 (by kernel_rfl) (by kernel_rfl) (fun _ _ d _ _ h=>by cases d<;>exact h) (⟨1,rfl⟩) ?_;simp only [jK,Seg.opAt,Seg.xu];repeat (any_goals (first|go_big_quiet_step (fail)|quiet_step (fail)))
    refine jR ?_;intro K hK;simp only [Region.wanted,jY];go_wp2_with (go_at_call 229;refine(jjX (xa ^^^ xo) st _ (by omega)).mono ?_;rintro e w' ⟨rfl,rfl⟩);rw [jdq _ st lt]at*;refine hK _ _ ⟨_,rfl⟩ ?_;clear hK K;repeat (any_goals (first|go_big_quiet_step (fail)|quiet_step (fail)))
    refine jR ?_;go_upto_region 9 with(fail);refine xr (fun w4=>YM B w g Es M (jbL V M (n+1)) w4) (by rw [Gv.u];exact S3.turned (((yG.refl B w3).drewN 1).setCell _ _) (zU (w:=w3.drew) S3.v _ _)) (fun w4 S4=>?_);go_wp2_with fail;go_roundw;case rel=>exact⟨n+1,by omega,by go_num,S4⟩
    case measure=>simp [intOf];omega
   ·have hdt:decide ((0:Int)<(st:Int))=false:=by simp;omega
    have Wt:=HN.u;rw [jQ ht]at Wt;have Gv:=jA Wt;have HZL:=jA hzl;clear Wt HN hzl;have hBD:D≠B:=by intro e;subst e;have h1:=HD.u;rw [S3.v]at h1;simp at h1
    go_upto_region 6 with(fail);refine Seg.xf (fun w'=> ∃n,w'=w3.drewN n) [] [0,1,2,3,4,5,6,7,8,9,10] 11 (by kernel_rfl) (by kernel_rfl) (fun _ _ d _ _ h=>by cases d<;>exact h) (⟨1,rfl⟩) ?_;simp only [jK,Seg.opAt,Seg.xu];repeat (any_goals (first|go_big_quiet_step (fail)|quiet_step (fail)))
    refine jR ?_;go_upto_region 7 with(fail);refine xr (fun w4=>YM B w g Es M (Z.set sa (xa+xo)) w4∧w4.heap[D]?=some (.cells #[.int .i64 (sa:Int),.int .i64 (so:Int),.int .i64 sm,.int .i64 (st:Int)] 273 (0,0)))
     ⟨S3.turned (((yG.refl B w3).drewN 1).setCell _ _) (zU (w:=w3.drew) S3.v _ _),(((yG.refl B w3).drewN 1).setCell sa _).keep hBD HD.u⟩ (fun w4 Gu=>?_)
    obtain⟨S4,uK⟩:=Gu;clear S3 HD d0 d1 d2 d3 cA3 cO3 cM3 fA3 hBD;have d0:w4.cell? ⟨D,0,none⟩=some (.int .i64 (sa:Int)):=by rw [jM w4 D 0 _ _ _ uK];rfl
    have d2:w4.cell? ⟨D,2,none⟩=some (.int .i64 sm):=by rw [jM w4 D 2 _ _ _ uK];rfl
    have cA4:w4.cell? ⟨B,sa,none⟩=some (.int .u32 (un (xa+xo))):=by rw [ye S4.v sa (by rw [kE,HZL.u];exact la),Kd _ _ _ (by rw [HZL.u];exact la)]
    have fA4:w4.frozen? ⟨B,sa,none⟩=false:=yw S4.v _;clear uK;generalize xa+xo=xs at*;by_cases hm:0≤sm
    ·have hdm:decide ((0:Int)≤sm)=true:=by simp;omega
     have cM4:w4.cell? ⟨B+1,sm.toNat,none⟩=some (.int .u32 (un (M.getD sm.toNat 0))):=ye S4.m _ (by rw [HM.u];omega);generalize M.getD sm.toNat 0=xm at*;obtain⟨mn,rfl⟩:=Int.eq_ofNat_of_zero_le hm;have Wt:=Gv.u;rw [jP hm]at Wt;have HF2:=jA Wt;clear Wt Gv;simp only [ke]at cM4;go_upto_region 8 with(fail);refine Seg.xf (fun w'=> ∃n,w'=w4.drewN n) [] [0,1,2,3,4,5,6,7,8,9,10] 11 (by kernel_rfl) (by kernel_rfl) (fun _ _ d _ _ h=>by cases d<;>exact h) (⟨1,rfl⟩) ?_;simp only [jK,Seg.opAt,Seg.xu];repeat (any_goals (first|go_big_quiet_step (fail)|quiet_step (fail)))
     refine jR ?_;go_upto_region 9 with(fail);refine xr (fun w5=>YM B w g Es M (jbL V M (n+1)) w5) (by rw [HF2.u];exact S4.turned (((yG.refl B w4).drewN 1).setCell _ _) (zU (w:=w4.drew) S4.v _ _)) (fun w5 S5=>?_);go_wp2_with fail;go_roundw;case rel=>exact⟨n+1,by omega,by go_num,S5⟩
     case measure=>simp [intOf];omega
    ·have hdm:decide ((0:Int)≤sm)=false:=by simp;omega
     have Wt:=Gv.u;rw [jQ hm]at Wt;rw [←Wt]at S4;clear Wt Gv;go_wp2_with fail;go_roundw;case rel=>exact⟨n+1,by omega,by go_num,S4⟩
     case measure=>simp [intOf];omega
  ·have hd640:decide ((n:Int)<640)=false:=by simp;omega
   obtain rfl:n=640:=by omega
   have Sz:=jgh V M HV.u 80;have S':YM B w g Es M (zt V M 80) wr:=by rw [←Sz];exact S
   clear Sz S;go_upto_region 10 with(fail);apply vB;have OG:(zt V M 80).length=16:=by rw [zX,HV.u]
   have rC:=jA (show(prog.info? 235).map (·.size)=some (yF (zt V M 80)).size by rw [yL,OG];exact JH);clear OG;refine xy rfl 235 _ rfl B (yF (zt V M 80)) _ _ _ rfl S'.v underlying235 rfl rC.u ?_;refine xg rfl rfl 235 _ _ rfl (B+2) (yF (List.replicate 16 0)) (yF (zt V M 80)) 235 rfl rfl S'.r ?_ rC.u (yp _) ?_;·rw [yL,yL,zX,HV.u];rfl
   intro w3 ho hp;go_wp2_with fail;refine jq (kB rfl _ w3 (B+2) _ _ _ _ rfl hp underlying235 rfl rC.u) rfl ⟨rfl,?_⟩;rw [HB.u];exact xl S'.below ho (by omega)
theorem jar(w:m0):
 Calls prog 208 #[] w fun e w'=>e=.returned (.agg (yF ivL))∧O0 w.heap.size w w':=by
 have HF:=jA (show(prog.info? 205).map (·.size)=some (yF ivL).size by kernel_rfl);go_enter Tryz.func208,Tryz.ntmps208;go_wp2_with (refine xg rfl rfl 205 _ _ rfl w.heap.size (yF (List.replicate 8 0)) (yF ivL) 205 rfl rfl (xh rfl) rfl HF.u (yp _) ?_;intro w2 ho hp);refine jq (kB rfl _ w2 w.heap.size _ _ _ _ rfl hp underlying205 rfl HF.u) rfl ⟨rfl,?_⟩;exact xl ((jN _ _).alloc (jO _) _) ho (jO _)
theorem jfb(H M:List U)(n:Nat)(last:Bool)(w:m0)(hH:H.length=8)(hM:M.length=16)(hn:n<18446744073709551616):
 Calls prog 210 #[.agg (yF H),.agg (yF M),.int .u64 (n:Int),.bool last] w fun e w'=>e=.returned (.agg (yF (Jd H M n last)))∧O0 w.heap.size w w':=by
 have HH:=jA hH;have HM:=jA hM;have HN:=jA hn;clear hH hM hn;go_enter Tryz.func210,Tryz.ntmps210;go_upto_region 2 with(fail)
 refine xr (fun w1=>O0 w.heap.size w w1∧w1.heap.size=w.heap.size+4∧w1.heap[w.heap.size]?=some (.cells (yF H) 205 (0,0))∧
  w1.heap[w.heap.size+1]?=some (.cells (yF M) 235 (0,0))∧w1.heap[w.heap.size+2]?=some (.cells (yF (List.replicate 8 0)) 205 (0,0))∧
  w1.heap[w.heap.size+3]?=some (.cells (yF (List.replicate 16 0)) 235 (0,0))) ?_ (fun w1 ts=>?_)
 ·refine⟨((((jN _ _).alloc (jO _) _).alloc (by simp) _).alloc (by simp;omega) _).alloc (by simp;omega) _,by simp,?_,?_,?_,?_⟩;·exact yM (yM (yM (xh rfl)))
  ·exact yM (yM (xh (by simp)))
  ·exact yM (xh (by simp))
  ·exact xh (by simp)
 obtain⟨it,Iu,h0,h1,h2,h3⟩:=ts;generalize hB:w.heap.size=B at*;have HB:=jA hB;have H0:=jA h0;have H1:=jA h1;have H2:=jA h2;have H3:=jA h3;have LH:=jA it;have Px:=jA Iu;clear hB h0 h1 h2 h3 it Iu;have rX:=jA (show(prog.info? 205).map (·.size)=some (yF ivL).size by kernel_rfl);go_upto_region 3 with(first
  |(go_at_call 208;refine(jar _).mono ?_;rintro e w2 ⟨rfl,Ut⟩)
  |(refine xg rfl rfl 205 _ _ rfl w2.heap.size (yF (List.replicate 8 0)) (yF ivL) 205 rfl rfl (xh rfl) rfl rX.u (yp _) ?_;intro w3 Ax Pw))
 have b3:O0 (B+4) w1 w3:=by
  have:=Ut.size;rw [Px.u]at Ut this;exact(Ut.alloc (by omega) _).trans (Ax.below (by omega))
 have hD:B+4≤w2.heap.size:=by have:=Ut.size;rw [Px.u]at this;exact this
 generalize w2.heap.size=D at*;have S3:zN B w H M (List.replicate 16 0) w3:=⟨LH.u.trans (b3.mono (by omega)),xe b3 (by omega) H0.u,xe b3 (by omega) H1.u,xe b3 (by omega) H2.u,xe b3 (by omega) H3.u⟩;have PB:=jA Pw;clear Ut Ax b3 H0 H1 H2 H3 LH Px Pw;go_wp2_with fail;go_loopw [11] (fun i wr=> ∃k:Nat,k≤8∧i=.int .i64 k∧zN B w H M (Zj H k) wr∧wr.heap[D]?=some (.cells (yF ivL) 205 (0,0))) (fun i _=>8-(intOf i).toNat);case atStart=>exact⟨0,by omega,rfl,S3,PB.u⟩
 case round=>
 obtain⟨k,hk,rfl,S,hE⟩:=hrel;clear S3 PB;by_cases ns:k<8
 ·have lI:decide ((k:Int)<8)=true:=by simp;omega
  have c0:=ye S.h k (by rw [HH.u];exact ns);have f1:=yw S.v k;have f2:=yw S.v (k+8);have g1:=ye S.v k (by rw [YY];omega);have g2:=ye S.v (k+8) (by rw [YY];omega);have c1:=ye hE k ns;have ut:=jiv H k;generalize H.getD k 0=x0 at*;generalize ivL.getD k 0=x1 at*;generalize (Zj H k).getD k 0=y0 at*;generalize (Zj H k).getD (k+8) 0=y1 at*;have Iw:=jA ut;have HE:=jA hE;clear ut hE;go_upto_region 5 with(fail);refine xr (fun w5=>zN B w H M (Zj H (k+1)) w5∧w5.heap[D]?=some (.cells (yF ivL) 205 (0,0)))
   ⟨by rw [Iw.u];exact S.turnedV (((yG.refl _ wr).setCell _ _).setCell _ _) (zU (zU S.v _ _) _ _),(((yG.refl _ wr).setCell _ _).setCell _ _).keep (by omega) HE.u⟩ (fun w5 UL=>?_)
  obtain⟨S5,hE5⟩:=UL;clear S c0 f1 f2 g1 g2 c1 HE Iw;go_wp2_with fail;go_roundw;case rel=>exact⟨k+1,by omega,by go_num,S5,hE5⟩
  case measure=>simp [intOf];omega
 have lI:decide ((k:Int)<8)=false:=by simp;omega
 obtain rfl:k=8:=by omega
 rw [jkX H HH.u]at S;clear hE;go_upto_region 8 with(fail);refine xr (fun w6=>zN B w H M (H++ivL) w6) S (fun w6 S6=>?_);clear S;have hl:(H++ivL).length=16:=by simp [HH.u,ivL]
 have Wt:=fun wE uE EK DK=>jdP H _ n last wE uE rfl EK DK;generalize H++ivL=V at*;have c12:=ye S6.v 12 (by omega);have FZ:=ye S6.v 13 (by omega);have f12:=yw S6.v 12;have f13:=yw S6.v 13;have u0:=jhB n;have u1:=jjx n HN.u;have RX:=jcn;have FD:=Wt _ _ rfl rfl;clear Wt;generalize V.getD 12 0=wE at*;generalize V.getD 13 0=uE at*;have HL:=jA hl;have Gv:=jA FD;clear hl FD;go_upto_region 10 with(fail);refine xr (fun w7=>zN B w H M ((V.set 12 (wE ^^^ BitVec.ofNat 32 n)).set 13 (uE ^^^ BitVec.ofNat 32 (n/4294967296))) w7)
  (S6.turnedV (((yG.refl _ w6).setCell _ _).setCell _ _) (zU (zU S6.v _ _) _ _)) (fun w7 S7=>?_)
 have Wt:=Gv.u;have BJ:((V.set 12 (wE ^^^ BitVec.ofNat 32 n)).set 13 (uE ^^^ BitVec.ofNat 32 (n/4294967296))).length=16:=by simp [HL.u]
 clear S6 c12 FZ f12 f13 u0 u1 Gv HL;generalize (V.set 12 (wE ^^^ BitVec.ofNat 32 n)).set 13 (uE ^^^ BitVec.ofNat 32 (n/4294967296))=V2 at*;have Gv:=jA Wt;clear Wt;have c14:=ye S7.v 14 (by omega);have f14:=yw S7.v 14;have EP:=jA (Zi H n last HH.u);clear BJ;generalize V2.getD 14 0=x14 at*;have RN:=joE x14;have un0:=Xw x14;have un1:=jfV x14
 go_upto_if 44 with(fail)
 go_cut [] (fun w'=>zN B w H M (Kw H n last) w');case first=>
  cases last
  ·go_wp2_with fail;go_meet;case rel=>rw [Gv.u];exact S7
  ·go_wp2_with fail;go_meet;case rel=>rw [Gv.u];exact S7.turnedV ((yG.refl _ w7).setCell _ _) (zU S7.v _ _)
 case rest=>
  have S8:zN B w H M (Kw H n last) wc:=hcut;clear hcut S7 c14 f14 RN un0 un1 Gv;have HZ:=jA (show Jd H M n last=VW H (zt (Kw H n last) M 80) 8 from rfl);generalize Kw H n last=V3 at*;have s1:=jA (show(prog.info? 235).map (·.size)=some (yF V3).size by rw [yL,EP.u];exact JH);have s2:=jA (show(prog.info? 235).map (·.size)=some (yF M).size by rw [yL,HM.u];exact JH);have s3:=jA (show(prog.info? 235).map (·.size)=some (yF (zt V3 M 80)).size by rw [yL,zX,EP.u];exact JH);have cZ:(zt V3 M 80).length=16:=by rw [zX,EP.u]
  have rx:B+4≤wc.heap.size:=xZ S8.v;go_upto_region 12 with(fail);apply vB;refine xy rfl 235 _ rfl (B+3) (yF V3) _ _ _ rfl S8.v underlying235 rfl s1.u ?_;refine xy rfl 235 _ rfl (B+1) (yF M) _ _ _ rfl S8.m underlying235 rfl s2.u ?_;have QQ:=jA (jgj V3 M wc EP.u HM.u);generalize zt V3 M 80=Z at*;go_upto_region 13 with(first
   |(go_at_call 221;refine QQ.u.mono ?_;rintro e w2 ⟨rfl,Ut⟩)
   |(refine xg rfl rfl 235 _ _ rfl w2.heap.size (yF (List.replicate 16 0)) (yF Z) 235 rfl rfl (xh rfl) (by rw [yL,yL,cZ];rfl) s3.u (yp _) ?_;intro w3 Ax Pw))
  have aP:B+4≤w2.heap.size:=jU rx Ut.size;have b3:O0 (B+4) wc w3:=((Ut.mono rx).alloc aP _).trans (Ax.below aP);have S9:=S8.kept b3;generalize w2.heap.size=E at*;clear S8 b3 Ax Ut QQ rx s1 s2 s3;go_wp2_with fail;go_loopw [13] (fun i wr=> ∃k:Nat,k≤8∧i=.int .i64 k∧zN B w (VW H Z k) M V3 wr∧wr.heap[E]?=some (.cells (yF Z) 235 (0,0))) (fun i _=>8-(intOf i).toNat);case atStart=>exact⟨0,by omega,rfl,S9,Pw⟩
  case round=>
   obtain⟨k,hk,rfl,S,hE⟩:=hrel;clear S9 Pw;by_cases ns:k<8
   ·have lI:decide ((k:Int)<8)=true:=by simp;omega
    have hlk:(VW H Z k).length=8:=by rw [Jg,HH.u]
    have c0:=ye S.h k (by omega);have f0:=yw S.h k;have c1:=ye hE k (by omega);have c2:=ye hE (k+8) (by omega);have ut:=jdY H Z k;rw [←BitVec.xor_assoc]at ut;generalize (VW H Z k).getD k 0=x0 at*;generalize Z.getD k 0=x1 at*;generalize Z.getD (k+8) 0=x2 at*;have Iw:=jA ut;clear ut hlk;have HE:=jA hE;clear hE;go_upto_region 16 with(fail);refine Seg.xf (fun w'=> ∃n,w'=wr.drewN n) [] [0,1,2,3,4,5,6,7,8,9,10,11,12] 13 (by kernel_rfl) (by kernel_rfl) (fun _ _ d _ _ h=>by cases d<;>exact h) (⟨1,rfl⟩) ?_;simp only [jK,Seg.opAt,Seg.xu];repeat (any_goals (first|go_big_quiet_step (fail)|quiet_step (fail)))
    refine jR ?_;go_upto_region 15 with(fail);refine xr (fun w5=>zN B w (VW H Z (k+1)) M V3 w5∧w5.heap[E]?=some (.cells (yF Z) 235 (0,0)))
     ⟨by rw [Iw.u];exact S.turnedH (((yG.refl B wr).drewN 1).setCell _ _) (zU (w:=wr.drew) S.h _ _),(((yG.refl B wr).drewN 1).setCell k _).keep (by omega) HE.u⟩ (fun w5 UL=>?_)
    obtain⟨S5,hE5⟩:=UL;clear S c0 f0 c1 c2 HE Iw;go_wp2_with fail;go_roundw;case rel=>exact⟨k+1,by omega,by go_num,S5,hE5⟩
    case measure=>simp [intOf];omega
   ·have lI:decide ((k:Int)<8)=false:=by simp;omega
    obtain rfl:k=8:=by omega
    have TC:=jA (show(prog.info? 205).map (·.size)=some (yF (VW H Z 8)).size by rw [yL,Jg,HH.u];exact Jk);go_upto_region 17 with(fail);apply vB;refine xy rfl 205 _ rfl B (yF (VW H Z 8)) _ _ _ rfl S.h underlying205 rfl TC.u ?_;refine xg rfl rfl 205 _ _ rfl (B+2) (yF (List.replicate 8 0)) (yF (VW H Z 8)) 205 rfl rfl S.r ?_ TC.u (yp _) ?_;·rw [yL,yL,Jg,HH.u];rfl
    intro w6 ho hp;go_wp2_with fail;refine jq (kB rfl _ w6 (B+2) _ _ _ _ rfl hp underlying205 rfl TC.u) rfl ⟨by rw [HZ.u],?_⟩;rw [HB.u];exact xl S.below ho (by omega)
end Go.Proofs.YtnohcdpnnhmpfaaGreatDoor
