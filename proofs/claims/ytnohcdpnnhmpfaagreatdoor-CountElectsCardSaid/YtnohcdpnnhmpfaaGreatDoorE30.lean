/- The way back: back undoes quarter, quarter undoes back; so Unstir and Stir undo each other. -/
import Derived.Test.YtnohcdpnnhmpfaaGreatDoorE10
set_option linter.all false
set_option maxRecDepth 100000
set_option maxHeartbeats 4000000
namespace Go.Proofs.YtnohcdpnnhmpfaaGreatDoor.FM
open Go.RowKit Tryz ML
def Ju(V:List U)(a b c d:Nat)(xa xb xc xd:U):List U:=(((V.set a xa).set b xb).set c xc).set d xd
theorem JC(V:List U)(a b c d:Nat)(xa xb xc xd:U):(Ju V a b c d xa xb xc xd).length=V.length:=by simp [Ju]
theorem jeq(V W:List U)(h:V.length=W.length)(hg: ∀j,j<V.length→V.getD j 0=W.getD j 0):V=W:=by
 apply vM h;intro i h1 h2;have:=hg i h1;simpa [jV,h1,h2] using this
theorem zy(V:List U)(i j:Nat)(x:U)(h:i<V.length):(V.set i x).getD j 0=if i=j then x else V.getD j 0:=by
 by_cases e:i=j;·subst e;rw [jP rfl,Kd _ _ _ h]
 ·rw [jQ e,getD_set_ne _ _ _ _ e]
theorem Jw(V:List U)(a b c d:Nat)(xa xb xc xd:U)(hl:V.length=16)(D:Zb a b c d)(j:Nat):
 (Ju V a b c d xa xb xc xd).getD j 0=if d=j then xd else if c=j then xc else if b=j then xb else if a=j then xa else V.getD j 0:=by
 unfold Ju;rw [zy _ _ _ _ (by simp [hl,D.ld]),zy _ _ _ _ (by simp [hl,D.lc]),zy _ _ _ _ (by simp [hl,D.lb]),zy _ _ _ _ (by simp [hl,D.la])]
theorem jkd(V:List U)(a b c d:Nat)(hl:V.length=16)(D:Zb a b c d):
 Ju V a b c d (V.getD a 0) (V.getD b 0) (V.getD c 0) (V.getD d 0)=V:=by
 refine jeq _ _ (by simp [JC]) (fun j _=>?_);rw [Jw _ _ _ _ _ _ _ _ _ hl D]
 repeat' split
 all_goals (first|(subst_vars;rfl))
theorem KZ(V:List U)(a b c d:Nat)(xa xb xc xd:U)(hl:V.length=16)(D:Zb a b c d):
 (Ju V a b c d xa xb xc xd).getD a 0=xa∧(Ju V a b c d xa xb xc xd).getD b 0=xb∧(Ju V a b c d xa xb xc xd).getD c 0=xc∧(Ju V a b c d xa xb xc xd).getD d 0=xd:=by
 refine⟨?_,?_,?_,?_⟩<;>rw [Jw _ _ _ _ _ _ _ _ _ hl D];·rw [jQ D.ad.symm,jQ D.ac.symm,jQ D.ab.symm,jP rfl]
 ·rw [jQ D.bd.symm,jQ D.bc.symm,jP rfl]
 ·rw [jQ D.cd.symm,jP rfl]
 ·rw [jP rfl]
theorem joN(V:List U)(a b c d:Nat)(xa xb xc xd ya yb yc yd:U)(hl:V.length=16)(D:Zb a b c d):
 (((((((V.set a xa).set d xd).set c xc).set b xb).set a ya).set d yd).set c yc).set b yb=Ju V a b c d ya yb yc yd:=by
 refine jeq _ _ (by simp [JC]) (fun j _=>?_);rw [Jw _ _ _ _ _ _ _ _ _ hl D]
 rw [zy _ _ _ _ (by simp [hl,D.lb]),zy _ _ _ _ (by simp [hl,D.lc]),zy _ _ _ _ (by simp [hl,D.ld]),zy _ _ _ _ (by simp [hl,D.la]),
  zy _ _ _ _ (by simp [hl,D.lb]),zy _ _ _ _ (by simp [hl,D.lc]),zy _ _ _ _ (by simp [hl,D.ld]),zy _ _ _ _ (by simp [hl,D.la])]
 have:=D.ab;have:=D.ac;have:=D.ad;have:=D.bc;have:=D.bd;have:=D.cd
 repeat' split
 all_goals first|rfl|omega
end Go.Proofs.YtnohcdpnnhmpfaaGreatDoor.FM
namespace Go.Proofs.YtnohcdpnnhmpfaaGreatDoor
open Go.RowKit Tryz ML FM
def jbl(x:U):Nat→U
 |0=>x
 |k+1=>(jbl x k).rotateRight 1
theorem jlP(x:U)(m:Nat)(h:m+1<32):(x.rotateRight m).rotateRight 1=x.rotateRight (m+1):=by
 apply BitVec.eq_of_getLsbD_eq;intro i hi;simp only [BitVec.getLsbD_rotateRight,kl (show(1:Nat)<32 by omega),kl (show m<32 by omega),kl h,Bool.cond_decide];by_cases h1:i<31
 ·rw [jP (by omega)];by_cases h2:1+i<32-m;·rw [jP h2,jP (by omega)];congr 1;omega
  ·rw [jQ h2,jQ (by omega)];simp only [show 1+i<32 by omega,hi,decide_true,Bool.true_and];congr 1;omega
 ·rw [jQ (by omega),jP (by omega),jQ (by omega)];simp only [hi,decide_true,Bool.true_and];congr 1;omega
theorem jdq(x:U): ∀n,n<32→jbl x n=x.rotateRight n
 |0,_=>by rw [jbl];apply BitVec.eq_of_getLsbD_eq;intro i hi;rw [BitVec.getLsbD_rotateRight];simp [hi]
 |n+1,h=>by rw [jbl,jdq x n (by omega),jlP x n h]
theorem jns(y:U):un y/2+un y%2*2147483648=un (y.rotateRight 1):=by
 have h:=jos y 1 (by decide);rw [←h];unfold un;have e1:((y.toNat:Int)/2^1)=((y.toNat/2:Nat):Int):=by norm_cast
 have e2:((y.toNat:Int)*2^(32-1)%4294967296)=((y.toNat%2*2147483648:Nat):Int):=by
  have:=y.isLt;have e:(2:Int)^(32-1)=2147483648:=by decide
  rw [e];omega
 have:=y.isLt;rw [e1,e2,u32_or_nat _ _ (by omega) (by omega),Nat.or_comm,nat_join 31 _ _ (by simp) (by omega)];omega
theorem jjX(x:U)(n:Nat)(w:m0)(h1:n<64):
 Calls prog 229 #[.int .u32 (un x),.int .i64 (n:Int)] w fun e w'=>e=.returned (.int .u32 (un (jbl x n)))∧w'=w:=by
 go_enter Tryz.func229,Tryz.ntmps229;go_wp2
 go_loop [0,5] (fun y i=> ∃k:Nat,k≤n∧i=.int .i64 k∧y=.int .u32 (un (jbl x k))) (fun _ i=>n-(intOf i).toNat)
 case atStart=>exact⟨0,ja _,rfl,rfl⟩
 case round=>
  obtain⟨k,hk,rfl,rfl⟩:=hrel;have b0:=Xw (jbl x k);have b1:=jfV (jbl x k);by_cases ns:k<n
  ·have hd:decide ((k:Int)<n)=true:=by simp;omega
   go_wp2
   go_round
   case rel=>exact⟨k+1,by omega,by go_num,by rw [jns];rfl⟩
   case measure=>simp [intOf];omega
  ·have hd:decide ((k:Int)<n)=false:=by simp;omega
   go_wp2;go_ret;obtain rfl:k=n:=by omega
   exact⟨rfl,rfl⟩
def jpa:ByteArray:=⟨#[48,49,50,51,52,53,54,55,56,57,97,98,99,100,101,102]⟩
def jdl(v:Nat):Int:=if v<10 then 48+v else 87+v
theorem joe: ∀i,(h:i<jpa.size)→((jpa[i]'h).toNat:Int)=jdl i:=by decide+kernel
theorem jmE {i j:Nat}(hi:i<16)(hj:j<16)(h:jdl i=jdl j):i=j:=by
 unfold jdl at h;split at h<;>split at h<;>omega
theorem jet(v:Nat)(w:m0)(hv:v<16):
 Calls prog 238 #[.int .u8 (jdl v)] w fun e w'=>e=.returned (.int .i64 (v:Int))∧w'=w:=by
 have HT:=joe;unfold jpa at HT;go_enter Tryz.func238,Tryz.ntmps238;go_wp2
 go_loop [3] (fun i=> ∃k:Nat,k≤v∧i=.int .i64 k) (fun i=>v-(intOf i).toNat)
 case atStart=>exact⟨0,ja _,rfl⟩
 case round=>
  obtain⟨k,hk,rfl⟩:=hrel;have hd:decide ((k:Int)<16)=true:=by simp;omega
  by_cases ns:k<v
  ·
    have he:(jdl k==jdl v)=false:=by
     rw [jt];exact fun h=>absurd (jmE (by omega) hv h) (by omega)
    go_wp2
    go_round
    case rel=>exact⟨k+1,by omega,by go_num⟩
    case measure=>simp [intOf];omega
  ·obtain rfl:k=v:=by omega
   have he:(jdl k==jdl k)=true:=by simp
   go_wp2;go_ret;exact⟨rfl,rfl⟩
def Jn(l:C0):A0:=l.map (Value.int .i64)
theorem YW(l:C0):(Jn l).toArray.all (·.oneCell')=true:=by simp [Jn,Value.oneCell']
def jfE:C0:= [0,4,8,12,1,5,9,13,2,6,10,14,3,7,11,15,0,5,10,15,1,6,11,12,2,7,8,13,3,4,9,14]
def Qm(i:Nat):C0:= [(ca i:Int),(cb i:Int),(cc i:Int),(cd i:Int)]
theorem jgS: ∀i,i<8→ ∀j,j<4→jfE[4*i+j]?=(Qm i)[j]?:=by decide+kernel
theorem jdx:(prog.info? 287).map (·.size)=some 4:=by kernel_rfl
theorem jmN(i:Nat)(w:m0)(hi:i<8):
 Calls prog 237 #[.int .i64 (i:Int)] w fun e w'=>
  e=.returned (.agg (Jn (Qm i)).toArray)∧O0 w.heap.size w w':=by
 go_enter Tryz.func237,Tryz.ntmps237;generalize hB:w.heap.size=B at*;have DG:(w.alloc (Obj.cells (Jn [0,0,0,0]).toArray 287)).heap.size=B+1:=by simp [hB]
 have dS:=jA DG;have HBL:=jA ((jN w.heap.size w).alloc (jO _) (Obj.cells (Jn [0,0,0,0]).toArray 287));have HH0:=jA (xh (o:=Obj.cells (Jn [0,0,0,0]).toArray 287) hB);clear DG;have HI:=jA (show(prog.info? 290).map (·.size)=some (Jn jfE).toArray.size by kernel_rfl);go_upto_region 1 with(fail);refine xr (fun w1=>w1.heap.size=B+1∧O0 B w w1∧w1.heap[B]?=some (.cells (Jn [0,0,0,0]).toArray 287 (0,0))) ⟨dS.u,by have:=HBL.u;rw [hB]at this;exact this,HH0.u⟩ (fun w0 ou=>?_);obtain⟨hs,Gz,hh0⟩:=ou;have HB0:=jA Gz;have HH:=jA hh0;clear dS HBL HH0 Gz hh0 hB;go_upto_region 2 with(refine xg rfl rfl 290 _ _ rfl (B+1) (Jn (List.replicate 32 0)).toArray (Jn jfE).toArray 290 rfl rfl ?hb ?hs HI.u ?h1 ?_);case hb=>exact xh hs
 case hs=>rfl
 case h1=>exact YW _
 intro w1 ho h1;have it:O0 B w w1:=xl (HB0.u.alloc (by omega) _) ho (by omega);have H0:=jA (ho.keep (k:=B) (by omega) (yM HH.u));have LH:=jA it;clear HB0 HH ho it hs;have hr:w1.rangeAt (B+1) (i*4) (Jn (Qm i)):=fun j v hj=>by
  rw [jM w1 (B+1) _ _ _ _ h1];have hj4:j<4:=by
   rcases jw j 4 with h|h;·exact h
   ·rw [kR (by simp [Jn,Qm];omega)]at hj;cases hj
  have:=jgS i hi j hj4;simp only [Jn,qe,jE]at hj ⊢;rw [kf i 4,this];exact hj
 have HR:=jA hr;clear hr h1;have HF:=jA (show(prog.info? 287).map (·.size)=some (Jn (Qm i)).toArray.size by rw [jdx];rfl);go_upto_region 2 with(fail);apply vB;go_wp2_with (first
  |(refine wpList_load_mid rfl 287 _ rfl (B+1) (i*4) rfl (Jn (Qm i)) _ HR.u underlying287 rfl HF.u ?_)
  |(refine xg rfl rfl 287 _ _ rfl B (Jn [0,0,0,0]).toArray (Jn (Qm i)).toArray 287 rfl rfl H0.u rfl HF.u (YW _) ?_;intro w2 Wx Ru))
 refine jq (kB rfl _ w2 B _ _ _ _ rfl Ru underlying287 rfl HF.u) rfl ⟨rfl,?_⟩;exact xl LH.u Wx (by omega)
theorem jdQ(i:Nat)(w:m0)(hi:i<4):
 Calls prog 209 #[.int .i64 (i:Int)] w fun e w'=>e=.returned (.int .u32 ((256^i:Nat):Int))∧w'=w:=by
 have HI:=jA hi;clear hi;go_enter Tryz.func209,Tryz.ntmps209;go_wp2_with fail;go_loopw [3,4] (fun p k wr=> ∃j:Nat,j≤i∧k=.int .i64 j∧p=.int .u32 ((256^j:Nat):Int)∧wr=w) (fun _ k _=>i-(intOf k).toNat);case atStart=>exact⟨0,by omega,rfl,rfl,rfl⟩
 case round=>
 obtain⟨j,hj,rfl,rfl,rfl⟩:=hrel;have hi4:(i:Int)<4:=by have:=HI.u;omega
 by_cases ns:j<i
 ·have hd:decide ((j:Int)<(i:Int))=true:=by simp;omega
  have hp:256^j*256<4294967296:=by
   have:j+1≤3+0:=by have:=HI.u;omega
   have h:=ko (show 0<256 by decide) this;rw [js]at h;omega
  have hq:256^(j+1)=256^j*256:=js _ _;have HQ:=jA hq;clear hq;generalize 256^j=q at*;go_wp2_with fail;go_roundw;case rel=>exact⟨j+1,by omega,by go_num,by rw [HQ.u];go_num,trivial⟩
  case measure=>simp [intOf];omega
 ·have hd:decide ((j:Int)<(i:Int))=false:=by simp;omega
  go_wp2_with fail;go_ret;obtain rfl:j=i:=by omega
  exact⟨rfl,rfl⟩
end Go.Proofs.YtnohcdpnnhmpfaaGreatDoor
namespace Go.Proofs.YtnohcdpnnhmpfaaGreatDoor.FM
open Go.RowKit Tryz ML
def XD(h:List U)(T:Bytes)(k:Nat):List U:=if k≤Ke T then zo h T k else Vx h T
theorem jka(h:List U)(T:Bytes):XD h T 0=h:=jP (ja _)
theorem jkc(h:List U)(T:Bytes):XD h T (Ke T+1)=Vx h T:=jQ (by omega)
theorem XS(h:List U)(T:Bytes)(k:Nat)(hh:h.length=8):(XD h T k).length=8:=by
 unfold XD;split;·exact Vu h T hh k
 ·exact jax h T hh
def jlb(T:Bytes)(k:Nat):Nat:=if T.length<64*k+64 then T.length else 64*k+64
theorem jkb(h:List U)(T:Bytes)(k:Nat)(hk:k≤Ke T):XD h T (k+1)=Jd (XD h T k) (yh (KV T k)) (jlb T k) (decide (k=Ke T)):=by
 have hd:Ke T=(T.length-1)/64:=rfl;unfold XD jlb;rw [jP hk];by_cases h1:k=Ke T
 ·rw [jQ (by omega)];have e:(if T.length<64*k+64 then T.length else 64*k+64)=T.length:=by split<;>omega
  rw [e,Vx,←h1,KV,je (by rw [kQ];omega)];simp
 ·rw [jP (by omega),zo,jQ (by omega),jg];simp [h1]
theorem jia(T:Bytes)(h:0<T.length):(T.length+63)/64=Ke T+1:=by unfold Ke;omega
theorem jib(T:Bytes)(k i:Nat):zL (T.drop (64*k)) i=zL T (64*k+i):=by
 unfold zL;rw [jV,jV,vF]
theorem jkm(T:Bytes)(k i:Nat)(h1:i≤64)(h2:i=64∨T.length≤64*k+i):(T.drop (64*k)).take i=KV T k:=by
 unfold KV;rcases h2 with rfl|h2;·rfl
 ·rw [je (by rw [kQ];omega),je (by rw [kQ];omega)]
theorem jnm(x c r:Nat)(_hc:c<256)(_hr:r<4):(un (BitVec.ofNat 32 x)+((c:Int)* ((256^r:Nat):Int))%4294967296)%4294967296=un (BitVec.ofNat 32 (x+c*2^(8*r))):=by
 unfold un;rw [vu,vu,Nat.pow_mul];have e:((c:Int)* ((256^r:Nat):Int))=((c*256^r:Nat):Int):=(vY _ _).symm;rw [e];show _=(((x+c*256^r)%4294967296:Nat):Int);generalize c*256^r=y;omega
theorem jmg(V:List U): ∀i,i<4*V.length→(Xg V)[i]?=some (UInt8.ofNat ((V.getD (i/4) 0).toNat/256^(i%4)%256)):=by
 induction V with
 |nil=>intro i h;simp at h
 |
  cons x V ih=>
  intro i h;have e:Xg (x::V)=ZB x++Xg V:=by simp [Xg,ZB]
  rw [e];by_cases h4:i<4
  ·rw [qZ (by simp [ZB];exact h4)];have:i=0∨i=1∨i=2∨i=3:=by omega
   rcases this with rfl|rfl|rfl|rfl;·rw [show 0%4=0 by rfl,Nat.pow_zero,Nat.div_one];rfl
   ·rfl
   ·rfl
   ·rfl
  ·obtain⟨j,rfl⟩: ∃j,i=j+4:=⟨i-4,by omega⟩;rw [kZ (by simp [ZB]),show j+4-(ZB x).length=j by simp [ZB],ih j (by simp at h;omega),show(j+4)/4=j/4+1 by omega,show(j+4)%4=j%4 by omega];simp
end Go.Proofs.YtnohcdpnnhmpfaaGreatDoor.FM
namespace Go.Proofs.YtnohcdpnnhmpfaaGreatDoor
open Go.RowKit Tryz ML FM
def jlK:List ByteArray:= [⟨#[48,49,50,51,52,53,54,55,56,57,97,98,99,100,101,102]⟩,
 ⟨#[101,97,52,56,57,102,100,54,49,99,48,50,98,55,53,51]⟩,
 ⟨#[98,56,99,48,53,50,102,100,97,101,51,54,55,49,57,52]⟩,
 ⟨#[55,57,51,49,100,99,98,101,50,54,53,97,52,48,102,56]⟩,
 ⟨#[57,48,53,55,50,52,97,102,101,49,98,99,54,56,51,100]⟩,
 ⟨#[50,99,54,97,48,98,56,51,52,100,55,53,102,101,49,57]⟩,
 ⟨#[99,53,49,102,101,100,52,97,48,55,54,51,57,50,56,98]⟩,
 ⟨#[100,98,55,101,99,49,51,57,53,48,102,52,56,54,50,97]⟩,
 ⟨#[54,102,101,57,98,51,48,56,99,50,100,55,49,52,97,53]⟩,
 ⟨#[97,50,56,52,55,54,49,53,102,98,57,101,51,99,100,48]⟩]
def jdE:t0:=(jlK.map Value.string).toArray
theorem jlJ(w:m0):
 Calls prog 236 #[] w fun e w'=>e=.returned (.slice (some ⟨w.heap.size,0,none⟩) 10 10)∧w'=w.alloc (.cells jdE 9):=by
 go_enter Tryz.func236,Tryz.ntmps236;go_wp2;go_ret;exact⟨rfl,rfl⟩
def stp(a o m t:Int):C0:= [a,o,m,t]
def zY(k:Nat):C0:=
 let a:Int:=ca (k%8);let b:Int:=cb (k%8);let c:Int:=cc (k%8);let d:Int:=cd (k%8)
 let x:Int:=zJ (k/8) (2* (k%8));let y:Int:=zJ (k/8) (2* (k%8)+1)
 (stp a b x 0++stp d a (-1) 16++stp c d (-1) 0++stp b c (-1) 12)++(stp a b y 0++stp d a (-1) 8++stp c d (-1) 0++stp b c (-1) 7)
def Ki:Nat→C0
 |0=> []
 |k+1=>Ki k++zY k
theorem Zh: ∀k,(Ki k).length=32*k
 |0=>rfl
 |k+1=>by rw [Ki,jZ,Zh k];simp [zY,stp];omega
def jhK(k:Nat):ByteArray:=jlK.getD k ByteArray.empty
theorem jjQ: ∀k,k<10→(jhK k).size=16:=by decide+kernel
theorem jlM: ∀k,k<10→ ∀i,(h:i<(jhK k).size)→(((jhK k)[i]'h).toNat:Int)=jdl (zJ k i):=by decide+kernel
theorem jjP: ∀k,k<10→jdE[k]?=some (.string (jhK k)):=by
 intro k hk;simp only [jdE,jE,qe,jhK,jV];have:k<jlK.length:=hk;simp [this]
theorem jkJ:(prog.info? 273).map (fun i=>(i.zero,i.size,i.bytes))=some (some (.agg (Jn [0,0,0,0]).toArray),4,32):=by kernel_rfl
def jov(j:Nat)(x:Int):C0:=stp (ca j) (cb j) x 0++stp (cd j) (ca j) (-1) 16++stp (cc j) (cd j) (-1) 0++stp (cb j) (cc j) (-1) 12
def jou(j:Nat)(y:Int):C0:=stp (ca j) (cb j) y 0++stp (cd j) (ca j) (-1) 8++stp (cc j) (cd j) (-1) 0++stp (cb j) (cc j) (-1) 7
theorem jfH(k j:Nat)(hj:j<8):zY (8*k+j)=jov j (zJ k (2*j))++jou j (zJ k (2*j+1)):=by
 unfold zY;rw [show(8*k+j)%8=j by omega,show(8*k+j)/8=k by omega];rfl
theorem jbr(l:C0): ∀u∈Jn l,u.oneCell'=true:=by
 intro u hu;simp only [Jn,jo]at hu;obtain⟨x,_,rfl⟩:=hu;rfl
theorem jby(a b:C0):Jn a++Jn b=Jn (a++b):=by simp [Jn]
structure jcW(B:Nat)(w:m0)(k:Nat)(v:n0)(wr:m0):Prop where
 below:O0 B w wr
 rows:wr.heap[B]?=some (.cells jdE 9 (0,0))
 own:wr.ownsRow (B+1) 273 4 v (8*k) (Jn (Ki k))
theorem jjE(w:m0):
 Calls prog 228 #[] w fun e w'=> ∃v,e=.returned v∧O0 w.heap.size w w'∧w'.ownsRow (w.heap.size+1) 273 4 v 640 (Jn (Ki 80)):=by
 obtain⟨i0,hi,Is,Ts,Ns⟩:=info_parts jkJ;have HI:=jA hi;have Dt:=jA Is;have Ct:=jA Ts;have Bt:=jA Ns;clear hi Is Ts Ns;go_enter Tryz.func228,Tryz.ntmps228;go_wp2_with (go_at_call 236;refine(jlJ _).mono ?_;rintro e w1 ⟨rfl,rfl⟩);generalize hB:w.heap.size=B at*;have S0:jcW B w 0 (.slice none 0 0) (w.alloc (.cells jdE 9)):=
  ⟨(jN _ _).alloc (by omega) _,xh hB,kg _ _ _ _⟩
 have HB:=jA hB;clear hB;generalize w.alloc (.cells jdE 9)=w1 at*;go_loopw [1,10] (fun v r wr=> ∃k:Nat,k≤10∧r=.int .i64 k∧jcW B w (8*k) v wr) (fun _ r _=>10-(intOf r).toNat);case atStart=>exact⟨0,by omega,rfl,S0⟩
 case round=>
  obtain⟨k,hk,rfl,S⟩:=hrel;clear S0;by_cases ns:k<10
  ·have eU:decide ((k:Int)<10)=true:=by simp;omega
   have hc:wr.cell? ⟨B,k,none⟩=some (.string (jhK k)):=by rw [jM wr B k _ _ _ S.rows];exact jjP k ns
   have Iu:=jjQ k ns;have WN:=jlM k ns;generalize jhK k=s at*;have Px:=jA Iu;clear Iu;go_wp2_with fail;clear hc;obtain⟨wo,rfl⟩: ∃wo:m0,wo=wr:=⟨_,rfl⟩;go_loopw [1,4] (fun v i wi=> ∃j:Nat,j≤8∧i=.int .i64 j∧jcW B w (8*k+j) v wi) (fun _ i _=>8-(intOf i).toNat);case atStart=>exact⟨0,by omega,rfl,S⟩
   case round=>
    obtain⟨j,hj,rfl,Si⟩:=hrel;clear S;by_cases Dw:j<8
    ·have lI:decide ((j:Int)<8)=true:=by simp;omega
     have HF:=jA (show(prog.info? 287).map (·.size)=some (Jn (Qm j)).toArray.size by rw [jdx];rfl);go_upto_region 8 with(fail);go_upto_region 9 with(first
      |(go_at_call 237;refine(jmN j _ Dw).mono ?_;rintro e w2 ⟨rfl,Ut⟩)
      |(refine xg rfl rfl 287 _ _ rfl w2.heap.size (Jn [0,0,0,0]).toArray (Jn (Qm j)).toArray 287 rfl rfl (xh rfl) rfl HF.u (YW _) ?_;intro w3 Ax Pw))
     have nO:wr.heap.size≤w2.heap.size:=Ut.size;have hlB:B+1≤wr.heap.size:=by have:=xZ Si.rows;omega
     have hlD:w2.heap.size<w3.heap.size:=xZ Pw;have b3:O0 wr.heap.size wr w3:=(Ut.alloc Ut.size _).trans (Ax.below Ut.size);have Tu:w3.ownsRow (B+1) 273 4 u1 (8* (8*k+j)) (Jn (Ki (8*k+j))):=yA Si.own b3;have TP:=xe b3 (xZ Si.rows) Si.rows;have ws:O0 B w w3:=Si.below.trans (b3.mono (by omega));generalize w2.heap.size=D at*;clear b3 Ax Ut Si;have tB:=jA Tu;have OI:=jA TP;have rt:=jA ws;have pT:=jA Pw;clear Tu TP ws Pw;have bv:2* (j:Int)<(s.size:Int):=by have:=Px.u;omega
     have Ut:2* (j:Int)+1<(s.size:Int):=by have:=Px.u;omega
     refine Seg.xf (fun w'=> ∃n,w'=w3.drewN n) [([0,1,2,3,5,6,7,8,9],4)] [] 10 (by kernel_rfl) (by kernel_rfl) (fun _ _ d _ _ h=>by cases d<;>exact h) (⟨1,rfl⟩) ?_;simp only [jK,Seg.opAt,Seg.xu];repeat (any_goals (first|go_big_quiet_step (fail)|quiet_step (fail)))
     refine jR ?_;intro K hK;simp only [Region.wanted,jY];have p1:=Vc k (2*j) ns (by omega);have p2:=Vc k (2*j+1) ns (by omega);have Q1:=jA (jet (zJ k (2*j)) w3.drew p1);have Q2:=jA (jet (zJ k (2*j+1)) w3.drew p2);clear p1 p2 WN;go_wp2_with fail;refine Q1.u.mono ?_;rintro e w4 ⟨rfl,rfl⟩;refine hK _ _ ⟨1,rfl⟩ ?_;clear hK K Q1;repeat (any_goals (first|go_big_quiet_step (fail)|quiet_step (fail)))
     refine jR ?_;go_wp2_with fail;refine Q2.u.mono ?_;rintro e w4 ⟨rfl,rfl⟩;clear Q2 bv Ut;go_upto_region 10 with(fail);refine xr (fun w4=>jcW B w (8*k+j) u1 w4∧w4.heap[D]?=some (.cells (Jn (Qm j)).toArray 287 (0,0))∧B+1≤w4.heap.size) ⟨⟨rt.u.drew,OI.u,tB.u.drew⟩,pT.u,by have:=xZ pT.u;simp;omega⟩ (fun w4 Gu=>?_);obtain⟨S4,uK,rx⟩:=Gu;clear tB OI rt pT hlD nO hlB;have c0:w4.cell? ⟨D,0,none⟩=some (.int .i64 (ca j:Int)):=by rw [jM w4 D 0 _ _ _ uK];rfl
     have c1:w4.cell? ⟨D,1,none⟩=some (.int .i64 (cb j:Int)):=by rw [jM w4 D 1 _ _ _ uK];rfl
     have c2:w4.cell? ⟨D,2,none⟩=some (.int .i64 (cc j:Int)):=by rw [jM w4 D 2 _ _ _ uK];rfl
     have c3:w4.cell? ⟨D,3,none⟩=some (.int .i64 (cd j:Int)):=by rw [jM w4 D 3 _ _ _ uK];rfl
     have HD4:=jA uK;have hDl:=xZ uK;clear uK;have eX:=jA (jfH k j Dw);generalize (zJ k (2*j):Int)=X at*;generalize (zJ k (2*j+1):Int)=Y at*;go_upto_region 11 with(at_builtin;refine kV _ rfl (.tmp 31) (.tmp 53) 270 rfl (B+1) 273 i0 (.agg (Jn [0,0,0,0]).toArray) 4 32 underlying270 HI.u Dt.u Ct.u Bt.u rfl (by decide) u1 (8* (8*k+j)) (Jn (Ki (8*k+j))) rfl (S4.own.alloc _) ⟨w4.heap.size,0,none⟩ 4 4 (Jn (jov j X)) rfl rfl ?c1 ?c2 ?c3 ?c4 ?c5 ?_);case c1=>exact Yv w4 _ _ _ rfl
     case c2=>exact jbr _
     case c3=>unfold maxLen;omega
     case c4=>omega
     case c5=>simp;omega
     intro v5 w5 Hs ru _;have SP:=jA (yU ru (jmc S4.own (by omega)) (yM S4.rows));have RM:=yU ru (zZ S4.own HD4.u (by decide)) (yM HD4.u);have Gs:=jA ((S4.below.alloc (by omega) _).grown ru (by simp;omega) (fun q hq=>by have:=(S4.own.lt q hq).1;omega));have sz5:B+1≤w5.heap.size:=by have:=ru.size;simp at this;omega
     have iu:=jA Hs;clear Hs ru S4 c0 c1 c2 c3 HD4 hDl rx;have c0:w5.cell? ⟨D,0,none⟩=some (.int .i64 (ca j:Int)):=by rw [jM w5 D 0 _ _ _ RM];rfl
     have c1:w5.cell? ⟨D,1,none⟩=some (.int .i64 (cb j:Int)):=by rw [jM w5 D 1 _ _ _ RM];rfl
     have c2:w5.cell? ⟨D,2,none⟩=some (.int .i64 (cc j:Int)):=by rw [jM w5 D 2 _ _ _ RM];rfl
     have c3:w5.cell? ⟨D,3,none⟩=some (.int .i64 (cd j:Int)):=by rw [jM w5 D 3 _ _ _ RM];rfl
     clear RM;go_upto_region 7 with(at_builtin;refine kV _ rfl (.tmp 55) (.tmp 77) 270 rfl (B+1) 273 i0 (.agg (Jn [0,0,0,0]).toArray) 4 32 underlying270 HI.u Dt.u Ct.u Bt.u rfl (by decide) v5 (8* (8*k+j)+4) _ rfl (iu.u.alloc _) ⟨w5.heap.size,0,none⟩ 4 4 (Jn (jou j Y)) rfl rfl ?d1 ?d2 ?d3 ?d4 ?d5 ?_);case d1=>exact Yv w5 _ _ _ rfl
     case d2=>exact jbr _
     case d3=>unfold maxLen;omega
     case d4=>omega
     case d5=>simp;omega
     intro v6 w6 iw hg6 _;have S6:jcW B w (8*k+(j+1)) v6 w6:=by
      refine⟨(Gs.u.alloc (by omega) _).grown hg6 (by simp;omega) (fun q hq=>by have:=(iu.u.lt q hq).1;omega),yU hg6 (jmc iu.u (by omega)) (yM SP.u),?_⟩;rw [show 8*k+(j+1)=(8*k+j)+1 by omega,Ki,eX.u,show 8* (8*k+j+1)=8* (8*k+j)+4+4 by omega,←jby,←jby];exact iw
     clear iw hg6 Gs iu SP c0 c1 c2 c3 eX;go_wp2_with fail;go_roundw;case rel=>exact⟨j+1,by omega,by go_num,S6⟩
     case measure=>simp [intOf];omega
    ·have lI:decide ((j:Int)<8)=false:=by simp;omega
     go_wp2_with fail;go_roundw;case rel=>exact⟨k+1,by omega,by go_num,by rw [show 8* (k+1)=8*k+j by omega];exact Si⟩
     case measure=>simp [intOf];omega
  ·have eU:decide ((k:Int)<10)=false:=by simp;omega
   go_wp2_with fail;go_ret;obtain rfl:k=10:=by omega
   rw [HB.u];exact⟨_,rfl,S.below,S.own⟩
end Go.Proofs.YtnohcdpnnhmpfaaGreatDoor
