/-
  The way back: back undoes quarter, quarter undoes back; so Unstir and Stir undo each other. No program in sight.
  The reference's small functions: right, digit, four, rows.
  The reference's power: 256 to the i, i below 4.
  The reference's Keyed, its plain law: piece by piece, the last one with what is there; words taken apart. No program in sight.
  The reference's rows and steps.
-/
import Derived.Test.YtnohcdpnnhmpfaaGreatDoorQ01
import Derived.Test.YtnohcdpnnhmpfaaGreatDoorQ15
import Derived.Test.YtnohcdpnnhmpfaaGreatDoorQ16
set_option linter.unusedVariables false
set_option linter.unusedSimpArgs false
set_option maxRecDepth 100000
set_option maxHeartbeats 4000000
namespace Go.Proofs.YtnohcdpnnhmpfaaGreatDoor.FM
open Go.RowKit Tryz ML
def JV(V:List U)(a b c d:Nat)(xa xb xc xd:U):List U:=(((V.set a xa).set b xb).set c xc).set d xd
theorem zd(V:List U)(a b c d:Nat)(xa xb xc xd:U):(JV V a b c d xa xb xc xd).length=V.length:=by simp [JV]
theorem jcS(V W:List U)(h:V.length=W.length)(hg: ∀j,j<V.length→V.getD j 0=W.getD j 0):V=W:=by
 apply vI h;intro i h1 h2;have:=hg i h1;simpa [jW,h1,h2] using this
theorem zX(V:List U)(i j:Nat)(x:U)(h:i<V.length):(V.set i x).getD j 0=if i=j then x else V.getD j 0:=by
 by_cases e:i=j;·subst e;rw [jR rfl,Jw _ _ _ h]
 ·rw [jT e,getD_set_ne _ _ _ _ e]
theorem JY(V:List U)(a b c d:Nat)(xa xb xc xd:U)(hl:V.length=16)(D:YZ a b c d)(j:Nat):
 (JV V a b c d xa xb xc xd).getD j 0=if d=j then xd else if c=j then xc else if b=j then xb else if a=j then xa else V.getD j 0:=by
 unfold JV;rw [zX _ _ _ _ (by simp [hl,D.ld]),zX _ _ _ _ (by simp [hl,D.lc]),zX _ _ _ _ (by simp [hl,D.lb]),zX _ _ _ _ (by simp [hl,D.la])]
theorem jie(V:List U)(a b c d:Nat)(hl:V.length=16)(D:YZ a b c d):
 JV V a b c d (V.getD a 0) (V.getD b 0) (V.getD c 0) (V.getD d 0)=V:=by
 refine jcS _ _ (by simp [zd]) (fun j _=>?_);rw [JY _ _ _ _ _ _ _ _ _ hl D]
 repeat' split
 all_goals (first|(subst_vars;rfl))
theorem Jt(V:List U)(a b c d:Nat)(xa xb xc xd:U)(hl:V.length=16)(D:YZ a b c d):
 (JV V a b c d xa xb xc xd).getD a 0=xa∧(JV V a b c d xa xb xc xd).getD b 0=xb∧(JV V a b c d xa xb xc xd).getD c 0=xc∧(JV V a b c d xa xb xc xd).getD d 0=xd:=by
 refine⟨?_,?_,?_,?_⟩<;>rw [JY _ _ _ _ _ _ _ _ _ hl D];·rw [jT D.ad.symm,jT D.ac.symm,jT D.ab.symm,jR rfl]
 ·rw [jT D.bd.symm,jT D.bc.symm,jR rfl]
 ·rw [jT D.cd.symm,jR rfl]
 ·rw [jR rfl]
theorem jlN(V:List U)(a b c d:Nat)(xa xb xc xd ya yb yc yd:U)(hl:V.length=16)(D:YZ a b c d):
 (((((((V.set a xa).set d xd).set c xc).set b xb).set a ya).set d yd).set c yc).set b yb=JV V a b c d ya yb yc yd:=by
 refine jcS _ _ (by simp [zd]) (fun j _=>?_);rw [JY _ _ _ _ _ _ _ _ _ hl D]
 rw [zX _ _ _ _ (by simp [hl,D.lb]),zX _ _ _ _ (by simp [hl,D.lc]),zX _ _ _ _ (by simp [hl,D.ld]),zX _ _ _ _ (by simp [hl,D.la]),
  zX _ _ _ _ (by simp [hl,D.lb]),zX _ _ _ _ (by simp [hl,D.lc]),zX _ _ _ _ (by simp [hl,D.ld]),zX _ _ _ _ (by simp [hl,D.la])]
 have:=D.ab;have:=D.ac;have:=D.ad;have:=D.bc;have:=D.bd;have:=D.cd
 repeat' split
 all_goals first|rfl|omega
end Go.Proofs.YtnohcdpnnhmpfaaGreatDoor.FM
namespace Go.Proofs.YtnohcdpnnhmpfaaGreatDoor
open Go.RowKit Tryz ML FM
def jaf(x:U):Nat→U
 |0=>x
 |k+1=>(jaf x k).rotateRight 1
theorem jjC(x:U)(m:Nat)(h:m+1<32):(x.rotateRight m).rotateRight 1=x.rotateRight (m+1):=by
 apply BitVec.eq_of_getLsbD_eq;intro i hi;simp only [BitVec.getLsbD_rotateRight,kV (show(1:Nat)<32 by omega),kV (show m<32 by omega),kV h,Bool.cond_decide];by_cases h1:i<31
 ·rw [jR (by omega)];by_cases h2:1+i<32-m;·rw [jR h2,jR (by omega)];congr 1;omega
  ·rw [jT h2,jT (by omega)];simp only [show 1+i<32 by omega,hi,decide_true,Bool.true_and];congr 1;omega
 ·rw [jT (by omega),jR (by omega),jT (by omega)];simp only [hi,decide_true,Bool.true_and];congr 1;omega
theorem jbT(x:U): ∀n,n<32→jaf x n=x.rotateRight n
 |0,_=>by rw [jaf];apply BitVec.eq_of_getLsbD_eq;intro i hi;rw [BitVec.getLsbD_rotateRight];simp [hi]
 |n+1,h=>by rw [jaf,jbT x n (by omega),jjC x n h]
theorem jkP(y:U):un y/2+un y%2*2147483648=un (y.rotateRight 1):=by
 have h:=jly y 1 (by decide);rw [←h];unfold un;have e1:((y.toNat:Int)/2^1)=((y.toNat/2:Nat):Int):=by norm_cast
 have e2:((y.toNat:Int)*2^(32-1)%4294967296)=((y.toNat%2*2147483648:Nat):Int):=by
  have:=y.isLt;have e:(2:Int)^(32-1)=2147483648:=by decide
  rw [e];omega
 have:=y.isLt;rw [e1,e2,u32_or_nat _ _ (by omega) (by omega),Nat.or_comm,nat_join 31 _ _ (by simp) (by omega)];omega
theorem jhY(x:U)(n:Nat)(w:World)(h1:n<64):
 Calls prog 229 #[.int .u32 (un x),.int .i64 (n:Int)] w fun e w'=>e=.returned (.int .u32 (un (jaf x n)))∧w'=w:=by
 go_enter Tryz.func229,Tryz.ntmps229;go_wp2
 go_loop [0,5] (fun y i=> ∃k:Nat,k≤n∧i=.int .i64 k∧y=.int .u32 (un (jaf x k))) (fun _ i=>n-(intOf i).toNat)
 case atStart=>exact⟨0,ji _,rfl,rfl⟩
 case round=>
  obtain⟨k,hk,rfl,rfl⟩:=hrel;have b0:=XC (jaf x k);have b1:=jeo (jaf x k);by_cases hlt:k<n
  ·have hd:decide ((k:Int)<n)=true:=by simp;omega
   go_wp2
   go_round
   case rel=>exact⟨k+1,by omega,by go_num,by rw [jkP];rfl⟩
   case measure=>simp [intOf];omega
  ·have hd:decide ((k:Int)<n)=false:=by simp;omega
   go_wp2;go_ret;obtain rfl:k=n:=by omega
   exact⟨rfl,rfl⟩
def jlZ:ByteArray:=⟨#[48,49,50,51,52,53,54,55,56,57,97,98,99,100,101,102]⟩
def jbN(v:Nat):Int:=if v<10 then 48+v else 87+v
theorem jlm: ∀i,(h:i<jlZ.size)→((jlZ[i]'h).toNat:Int)=jbN i:=by decide+kernel
theorem jkj {i j:Nat}(hi:i<16)(hj:j<16)(h:jbN i=jbN j):i=j:=by
 unfold jbN at h;split at h<;>split at h<;>omega
theorem jcU(v:Nat)(w:World)(hv:v<16):
 Calls prog 238 #[.int .u8 (jbN v)] w fun e w'=>e=.returned (.int .i64 (v:Int))∧w'=w:=by
 have HT:=jlm;unfold jlZ at HT;go_enter Tryz.func238,Tryz.ntmps238;go_wp2
 go_loop [3] (fun i=> ∃k:Nat,k≤v∧i=.int .i64 k) (fun i=>v-(intOf i).toNat)
 case atStart=>exact⟨0,ji _,rfl⟩
 case round=>
  obtain⟨k,hk,rfl⟩:=hrel;have hd:decide ((k:Int)<16)=true:=by simp;omega
  by_cases hlt:k<v
  ·
    have he:(jbN k==jbN v)=false:=by
     rw [kE];exact fun h=>absurd (jkj (by omega) hv h) (by omega)
    go_wp2
    go_round
    case rel=>exact⟨k+1,by omega,by go_num⟩
    case measure=>simp [intOf];omega
  ·obtain rfl:k=v:=by omega
   have he:(jbN k==jbN k)=true:=by simp
   go_wp2;go_ret;exact⟨rfl,rfl⟩
def JQ(l:List Int):List Value:=l.map (Value.int .i64)
theorem Xc(l:List Int):(JQ l).toArray.all (·.oneCell')=true:=by simp [JQ,Value.oneCell']
def jdV:List Int:= [0,4,8,12,1,5,9,13,2,6,10,14,3,7,11,15,0,5,10,15,1,6,11,12,2,7,8,13,3,4,9,14]
def Ks(i:Nat):List Int:= [(ca i:Int),(cb i:Int),(cc i:Int),(cd i:Int)]
theorem jfh: ∀i,i<8→ ∀j,j<4→jdV[4*i+j]?=(Ks i)[j]?:=by decide+kernel
theorem jbZ:(prog.info? 287).map (·.size)=some 4:=by kernel_rfl
theorem jks(i:Nat)(w:World)(hi:i<8):
 Calls prog 237 #[.int .i64 (i:Int)] w fun e w'=>
  e=.returned (.agg (JQ (Ks i)).toArray)∧Below w.heap.size w w':=by
 go_enter Tryz.func237,Tryz.ntmps237;generalize hB:w.heap.size=B at*;have HB:=jA hB;have hs0:(w.alloc (Obj.cells (JQ [0,0,0,0]).toArray 287)).heap.size=B+1:=by simp [hB]
 have HS0:=jA hs0;have HBL:=jA ((jN w.heap.size w).alloc (jO _) (Obj.cells (JQ [0,0,0,0]).toArray 287));have HH0:=jA (xN (o:=Obj.cells (JQ [0,0,0,0]).toArray 287) hB);clear hs0;have HI:=jA (show(prog.info? 290).map (·.size)=some (JQ jdV).toArray.size by kernel_rfl);go_upto_region 1 with(fail);refine xP (fun w1=>w1.heap.size=B+1∧Below B w w1∧w1.heap[B]?=some (.cells (JQ [0,0,0,0]).toArray 287 (0,0))) ⟨HS0.u,by have:=HBL.u;rw [hB]at this;exact this,HH0.u⟩ (fun w0 hw0=>?_);obtain⟨hs,hb0,hh0⟩:=hw0;have HB0:=jA hb0;have HH:=jA hh0;clear HS0 HBL HH0 hb0 hh0 hB;go_upto_region 2 with(refine xM rfl rfl 290 _ _ rfl (B+1) (JQ (List.replicate 32 0)).toArray (JQ jdV).toArray 290 rfl rfl ?hb ?hs HI.u ?h1 ?_);case hb=>exact xN hs
 case hs=>rfl
 case h1=>exact Xc _
 intro w1 ho h1;have hbel:Below B w w1:=xQ (HB0.u.alloc (by omega) _) ho (by omega);have H0:=jA (ho.keep (k:=B) (by omega) (xx HH.u));have HBE:=jA hbel;clear HB0 HH ho hbel hs;have hr:w1.rangeAt (B+1) (i*4) (JQ (Ks i)):=fun j v hj=>by
  rw [jM w1 (B+1) _ _ _ _ h1];have hj4:j<4:=by
   rcases jt j 4 with h|h;·exact h
   ·rw [kP (by simp [JQ,Ks];omega)]at hj;cases hj
  have:=jfh i hi j hj4;simp only [JQ,qK,jE]at hj ⊢;rw [kU i 4,this];exact hj
 have HR:=jA hr;clear hr h1;have HF:=jA (show(prog.info? 287).map (·.size)=some (JQ (Ks i)).toArray.size by rw [jbZ];rfl);go_upto_region 2 with(fail);apply qk;go_wp2_with (first
  |(refine wpList_load_mid rfl 287 _ rfl (B+1) (i*4) rfl (JQ (Ks i)) _ HR.u underlying287 rfl HF.u ?_)
  |(refine xM rfl rfl 287 _ _ rfl B (JQ [0,0,0,0]).toArray (JQ (Ks i)).toArray 287 rfl rfl H0.u rfl HF.u (Xc _) ?_;intro w2 ho2 hp2))
 refine jm (jw rfl _ w2 B _ _ _ _ rfl hp2 underlying287 rfl HF.u) rfl ⟨rfl,?_⟩;exact xQ HBE.u ho2 (by omega)
theorem jct(i:Nat)(w:World)(hi:i<4):
 Calls prog 209 #[.int .i64 (i:Int)] w fun e w'=>e=.returned (.int .u32 ((256^i:Nat):Int))∧w'=w:=by
 have HI:=jA hi;clear hi;go_enter Tryz.func209,Tryz.ntmps209;go_wp2_with fail;go_loopw [3,4] (fun p k wr=> ∃j:Nat,j≤i∧k=.int .i64 j∧p=.int .u32 ((256^j:Nat):Int)∧wr=w) (fun _ k _=>i-(intOf k).toNat);case atStart=>exact⟨0,by omega,rfl,rfl,rfl⟩
 case round=>
 obtain⟨j,hj,rfl,rfl,rfl⟩:=hrel;have hi4:(i:Int)<4:=by have:=HI.u;omega
 by_cases hlt:j<i
 ·have hd:decide ((j:Int)<(i:Int))=true:=by simp;omega
  have hp:256^j*256<4294967296:=by
   have:j+1≤3+0:=by have:=HI.u;omega
   have h:=kW (show 0<256 by decide) this;rw [jr]at h;omega
  have hq:256^(j+1)=256^j*256:=jr _ _;have HQ:=jA hq;clear hq;generalize 256^j=q at*;go_wp2_with fail;go_roundw;case rel=>exact⟨j+1,by omega,by go_num,by rw [HQ.u];go_num,trivial⟩
  case measure=>simp [intOf];omega
 ·have hd:decide ((j:Int)<(i:Int))=false:=by simp;omega
  go_wp2_with fail;go_ret;obtain rfl:j=i:=by omega
  exact⟨rfl,rfl⟩
end Go.Proofs.YtnohcdpnnhmpfaaGreatDoor
namespace Go.Proofs.YtnohcdpnnhmpfaaGreatDoor.FM
open Go.RowKit Tryz ML
def VQ(h:List U)(T:Bytes)(k:Nat):List U:=if k≤Jx T then zL h T k else VM h T
theorem jib(h:List U)(T:Bytes):VQ h T 0=h:=jR (ji _)
theorem jid(h:List U)(T:Bytes):VQ h T (Jx T+1)=VM h T:=jT (by omega)
theorem Vc(h:List U)(T:Bytes)(k:Nat)(hh:h.length=8):(VQ h T k).length=8:=by
 unfold VQ;split;·exact VK h T hh k
 ·exact ZU h T hh
def jiT(T:Bytes)(k:Nat):Nat:=if T.length<64*k+64 then T.length else 64*k+64
theorem jic(h:List U)(T:Bytes)(k:Nat)(hk:k≤Jx T):VQ h T (k+1)=JH (VQ h T k) (yN (Jp T k)) (jiT T k) (decide (k=Jx T)):=by
 have hd:Jx T=(T.length-1)/64:=rfl;unfold VQ jiT;rw [jR hk];by_cases h1:k=Jx T
 ·rw [jT (by omega)];have e:(if T.length<64*k+64 then T.length else 64*k+64)=T.length:=by split<;>omega
  rw [e,VM,←h1,Jp,jc (by rw [jq];omega)];simp
 ·rw [jR (by omega),zL,jT (by omega),je];simp [h1]
theorem jgi(T:Bytes)(h:0<T.length):(T.length+63)/64=Jx T+1:=by unfold Jx;omega
theorem jgj(T:Bytes)(k i:Nat):yt (T.drop (64*k)) i=yt T (64*k+i):=by
 unfold yt;rw [jW,jW,qr]
theorem jik(T:Bytes)(k i:Nat)(h1:i≤64)(h2:i=64∨T.length≤64*k+i):(T.drop (64*k)).take i=Jp T k:=by
 unfold Jp;rcases h2 with rfl|h2;·rfl
 ·rw [jc (by rw [jq];omega),jc (by rw [jq];omega)]
theorem jkM(x c r:Nat)(_hc:c<256)(_hr:r<4):(un (BitVec.ofNat 32 x)+((c:Int)* ((256^r:Nat):Int))%4294967296)%4294967296=un (BitVec.ofNat 32 (x+c*2^(8*r))):=by
 unfold un;rw [vQ,vQ,Nat.pow_mul];have e:((c:Int)* ((256^r:Nat):Int))=((c*256^r:Nat):Int):=(vH _ _).symm;rw [e];show _=(((x+c*256^r)%4294967296:Nat):Int);generalize c*256^r=y;omega
theorem jjQ(V:List U): ∀i,i<4*V.length→(Vm V)[i]?=some (UInt8.ofNat ((V.getD (i/4) 0).toNat/256^(i%4)%256)):=by
 induction V with
 |nil=>intro i h;simp at h
 |
  cons x V ih=>
  intro i h;have e:Vm (x::V)=YH x++Vm V:=by simp [Vm,YH]
  rw [e];by_cases h4:i<4
  ·rw [qJ (by simp [YH];exact h4)];have:i=0∨i=1∨i=2∨i=3:=by omega
   rcases this with rfl|rfl|rfl|rfl;·rw [show 0%4=0 by rfl,Nat.pow_zero,Nat.div_one];rfl
   ·rfl
   ·rfl
   ·rfl
  ·obtain⟨j,rfl⟩: ∃j,i=j+4:=⟨i-4,by omega⟩;rw [ke (by simp [YH]),show j+4-(YH x).length=j by simp [YH],ih j (by simp at h;omega),show(j+4)/4=j/4+1 by omega,show(j+4)%4=j%4 by omega];simp
end Go.Proofs.YtnohcdpnnhmpfaaGreatDoor.FM
namespace Go.Proofs.YtnohcdpnnhmpfaaGreatDoor
open Go.RowKit Tryz ML FM
def jjz:List ByteArray:= [⟨#[48,49,50,51,52,53,54,55,56,57,97,98,99,100,101,102]⟩,
 ⟨#[101,97,52,56,57,102,100,54,49,99,48,50,98,55,53,51]⟩,
 ⟨#[98,56,99,48,53,50,102,100,97,101,51,54,55,49,57,52]⟩,
 ⟨#[55,57,51,49,100,99,98,101,50,54,53,97,52,48,102,56]⟩,
 ⟨#[57,48,53,55,50,52,97,102,101,49,98,99,54,56,51,100]⟩,
 ⟨#[50,99,54,97,48,98,56,51,52,100,55,53,102,101,49,57]⟩,
 ⟨#[99,53,49,102,101,100,52,97,48,55,54,51,57,50,56,98]⟩,
 ⟨#[100,98,55,101,99,49,51,57,53,48,102,52,56,54,50,97]⟩,
 ⟨#[54,102,101,57,98,51,48,56,99,50,100,55,49,52,97,53]⟩,
 ⟨#[97,50,56,52,55,54,49,53,102,98,57,101,51,99,100,48]⟩]
def jcg:Array Value:=(jjz.map Value.string).toArray
theorem jjy(w:World):
 Calls prog 236 #[] w fun e w'=>e=.returned (.slice (some ⟨w.heap.size,0,none⟩) 10 10)∧w'=w.alloc (.cells jcg 9):=by
 go_enter Tryz.func236,Tryz.ntmps236;go_wp2;go_ret;exact⟨rfl,rfl⟩
def stp(a o m t:Int):List Int:= [a,o,m,t]
def zC(k:Nat):List Int:=
 let a:Int:=ca (k%8);let b:Int:=cb (k%8);let c:Int:=cc (k%8);let d:Int:=cd (k%8)
 let x:Int:=yr (k/8) (2* (k%8));let y:Int:=yr (k/8) (2* (k%8)+1)
 (stp a b x 0++stp d a (-1) 16++stp c d (-1) 0++stp b c (-1) 12)++(stp a b y 0++stp d a (-1) 8++stp c d (-1) 0++stp b c (-1) 7)
def KD:Nat→List Int
 |0=> []
 |k+1=>KD k++zC k
theorem Yg: ∀k,(KD k).length=32*k
 |0=>rfl
 |k+1=>by rw [KD,ja,Yg k];simp [zC,stp];omega
def jfR(k:Nat):ByteArray:=jjz.getD k ByteArray.empty
theorem jhS: ∀k,k<10→(jfR k).size=16:=by decide+kernel
theorem jjB: ∀k,k<10→ ∀i,(h:i<(jfR k).size)→(((jfR k)[i]'h).toNat:Int)=jbN (yr k i):=by decide+kernel
theorem jhR: ∀k,k<10→jcg[k]?=some (.string (jfR k)):=by
 intro k hk;simp only [jcg,jE,qK,jfR,jW];have:k<jjz.length:=hk;simp [this]
theorem jiB:(prog.info? 273).map (fun i=>(i.zero,i.size,i.bytes))=some (some (.agg (JQ [0,0,0,0]).toArray),4,32):=by kernel_rfl
def jlC(j:Nat)(x:Int):List Int:=stp (ca j) (cb j) x 0++stp (cd j) (ca j) (-1) 16++stp (cc j) (cd j) (-1) 0++stp (cb j) (cc j) (-1) 12
def jlB(j:Nat)(y:Int):List Int:=stp (ca j) (cb j) y 0++stp (cd j) (ca j) (-1) 8++stp (cc j) (cd j) (-1) 0++stp (cb j) (cc j) (-1) 7
theorem jdZ(k j:Nat)(hj:j<8):zC (8*k+j)=jlC j (yr k (2*j))++jlB j (yr k (2*j+1)):=by
 unfold zC;rw [show(8*k+j)%8=j by omega,show(8*k+j)/8=k by omega];rfl
theorem jal(l:List Int): ∀u∈JQ l,u.oneCell'=true:=by
 intro u hu;simp only [JQ,jl]at hu;obtain⟨x,_,rfl⟩:=hu;rfl
theorem jas(a b:List Int):JQ a++JQ b=JQ (a++b):=by simp [JQ]
structure jbC(B:Nat)(w:World)(k:Nat)(v:Value)(wr:World):Prop where
 below:Below B w wr
 rows:wr.heap[B]?=some (.cells jcg 9 (0,0))
 own:wr.ownsRow (B+1) 273 4 v (8*k) (JQ (KD k))
theorem jhG(w:World):
 Calls prog 228 #[] w fun e w'=> ∃v,e=.returned v∧Below w.heap.size w w'∧w'.ownsRow (w.heap.size+1) 273 4 v 640 (JQ (KD 80)):=by
 obtain⟨i0,hi,hz0,hz1,hz2⟩:=info_parts jiB;have HI:=jA hi;have HZ0:=jA hz0;have HZ1:=jA hz1;have HZ2:=jA hz2;clear hi hz0 hz1 hz2;go_enter Tryz.func228,Tryz.ntmps228;go_wp2_with (go_at_call 236;refine(jjy _).mono ?_;rintro e w1 ⟨rfl,rfl⟩);generalize hB:w.heap.size=B at*;have S0:jbC B w 0 (.slice none 0 0) (w.alloc (.cells jcg 9)):=
  ⟨(jN _ _).alloc (by omega) _,xN hB,qA _ _ _ _⟩
 have HB:=jA hB;clear hB;generalize w.alloc (.cells jcg 9)=w1 at*;go_loopw [1,10] (fun v r wr=> ∃k:Nat,k≤10∧r=.int .i64 k∧jbC B w (8*k) v wr) (fun _ r _=>10-(intOf r).toNat);case atStart=>exact⟨0,by omega,rfl,S0⟩
 case round=>
  obtain⟨k,hk,rfl,S⟩:=hrel;clear S0;by_cases hlt:k<10
  ·have hd10:decide ((k:Int)<10)=true:=by simp;omega
   have hc:wr.cell? ⟨B,k,none⟩=some (.string (jfR k)):=by rw [jM wr B k _ _ _ S.rows];exact jhR k hlt
   have hsz:=jhS k hlt;have htab:=jjB k hlt;generalize jfR k=s at*;have HSZ:=jA hsz;clear hsz;go_wp2_with fail;clear hc;obtain⟨wo,rfl⟩: ∃wo:World,wo=wr:=⟨_,rfl⟩;go_loopw [1,4] (fun v i wi=> ∃j:Nat,j≤8∧i=.int .i64 j∧jbC B w (8*k+j) v wi) (fun _ i _=>8-(intOf i).toNat);case atStart=>exact⟨0,by omega,rfl,S⟩
   case round=>
    obtain⟨j,hj,rfl,Si⟩:=hrel;clear S;by_cases hjt:j<8
    ·have hd8:decide ((j:Int)<8)=true:=by simp;omega
     have HF:=jA (show(prog.info? 287).map (·.size)=some (JQ (Ks j)).toArray.size by rw [jbZ];rfl);go_upto_region 8 with(fail);go_upto_region 9 with(first
      |(go_at_call 237;refine(jks j _ hjt).mono ?_;rintro e w2 ⟨rfl,hb2⟩)
      |(refine xM rfl rfl 287 _ _ rfl w2.heap.size (JQ [0,0,0,0]).toArray (JQ (Ks j)).toArray 287 rfl rfl (xN rfl) rfl HF.u (Xc _) ?_;intro w3 ho3 hp3))
     have hlt2:wr.heap.size≤w2.heap.size:=hb2.size;have hlB:B+1≤wr.heap.size:=by have:=lt_of_heap Si.rows;omega
     have hlD:w2.heap.size<w3.heap.size:=lt_of_heap hp3;have b3:Below wr.heap.size wr w3:=(hb2.alloc hb2.size _).trans (ho3.below hb2.size);have own3:w3.ownsRow (B+1) 273 4 u1 (8* (8*k+j)) (JQ (KD (8*k+j))):=xk Si.own b3;have rows3:=xK b3 (lt_of_heap Si.rows) Si.rows;have bel3:Below B w w3:=Si.below.trans (b3.mono (by omega));generalize w2.heap.size=D at*;clear b3 ho3 hb2 Si;have own3':=jA own3;have rows3':=jA rows3;have bel3':=jA bel3;have hp3':=jA hp3;clear own3 rows3 bel3 hp3;have hb1:2* (j:Int)<(s.size:Int):=by have:=HSZ.u;omega
     have hb2:2* (j:Int)+1<(s.size:Int):=by have:=HSZ.u;omega
     refine Seg.xL (fun w'=> ∃n,w'=w3.drewN n) [([0,1,2,3,5,6,7,8,9],4)] [] 10 (by kernel_rfl) (by kernel_rfl) (fun _ _ d _ _ h=>by cases d<;>exact h) (⟨1,rfl⟩) ?_;simp only [jK,Seg.opAt,Seg.xW];repeat (any_goals (first|go_big_quiet_step (fail)|quiet_step (fail)))
     refine jP ?_;intro K hK;simp only [Region.wanted,jY];have p1:=Qr k (2*j) hlt (by omega);have p2:=Qr k (2*j+1) hlt (by omega);have Q1:=jA (jcU (yr k (2*j)) w3.drew p1);have Q2:=jA (jcU (yr k (2*j+1)) w3.drew p2);clear p1 p2 htab;go_wp2_with fail;refine Q1.u.mono ?_;rintro e w4 ⟨rfl,rfl⟩;refine hK _ _ ⟨1,rfl⟩ ?_;clear hK K Q1;repeat (any_goals (first|go_big_quiet_step (fail)|quiet_step (fail)))
     refine jP ?_;go_wp2_with fail;refine Q2.u.mono ?_;rintro e w4 ⟨rfl,rfl⟩;clear Q2 hb1 hb2;go_upto_region 10 with(fail);refine xP (fun w4=>jbC B w (8*k+j) u1 w4∧w4.heap[D]?=some (.cells (JQ (Ks j)).toArray 287 (0,0))∧B+1≤w4.heap.size) ⟨⟨bel3'.u.drew,rows3'.u,own3'.u.drew⟩,hp3'.u,by have:=lt_of_heap hp3'.u;simp;omega⟩ (fun w4 hw4=>?_);obtain⟨S4,hD4,hB4⟩:=hw4;clear own3' rows3' bel3' hp3' hlD hlt2 hlB;have c0:w4.cell? ⟨D,0,none⟩=some (.int .i64 (ca j:Int)):=by rw [jM w4 D 0 _ _ _ hD4];rfl
     have c1:w4.cell? ⟨D,1,none⟩=some (.int .i64 (cb j:Int)):=by rw [jM w4 D 1 _ _ _ hD4];rfl
     have c2:w4.cell? ⟨D,2,none⟩=some (.int .i64 (cc j:Int)):=by rw [jM w4 D 2 _ _ _ hD4];rfl
     have c3:w4.cell? ⟨D,3,none⟩=some (.int .i64 (cd j:Int)):=by rw [jM w4 D 3 _ _ _ hD4];rfl
     have HD4:=jA hD4;have hDl:=lt_of_heap hD4;clear hD4;have eX:=jA (jdZ k j hjt);generalize (yr k (2*j):Int)=X at*;generalize (yr k (2*j+1):Int)=Y at*;go_upto_region 11 with(at_builtin;refine kQ _ rfl (.tmp 31) (.tmp 53) 270 rfl (B+1) 273 i0 (.agg (JQ [0,0,0,0]).toArray) 4 32 underlying270 HI.u HZ0.u HZ1.u HZ2.u rfl (by decide) u1 (8* (8*k+j)) (JQ (KD (8*k+j))) rfl (S4.own.alloc _) ⟨w4.heap.size,0,none⟩ 4 4 (JQ (jlC j X)) rfl rfl ?c1 ?c2 ?c3 ?c4 ?c5 ?_);case c1=>exact YB w4 _ _ _ rfl
     case c2=>exact jal _
     case c3=>unfold maxLen;omega
     case c4=>omega
     case c5=>simp;omega
     intro v5 w5 own5 hg5 _;have rows5:=jA (yA hg5 (jjM S4.own (by omega)) (xx S4.rows));have hD5:=yA hg5 (zE S4.own HD4.u (by decide)) (xx HD4.u);have bel5:=jA ((S4.below.alloc (by omega) _).grown hg5 (by simp;omega) (fun q hq=>by have:=(S4.own.lt q hq).1;omega));have sz5:B+1≤w5.heap.size:=by have:=hg5.size;simp at this;omega
     have OWN5:=jA own5;clear own5 hg5 S4 c0 c1 c2 c3 HD4 hDl hB4;have c0:w5.cell? ⟨D,0,none⟩=some (.int .i64 (ca j:Int)):=by rw [jM w5 D 0 _ _ _ hD5];rfl
     have c1:w5.cell? ⟨D,1,none⟩=some (.int .i64 (cb j:Int)):=by rw [jM w5 D 1 _ _ _ hD5];rfl
     have c2:w5.cell? ⟨D,2,none⟩=some (.int .i64 (cc j:Int)):=by rw [jM w5 D 2 _ _ _ hD5];rfl
     have c3:w5.cell? ⟨D,3,none⟩=some (.int .i64 (cd j:Int)):=by rw [jM w5 D 3 _ _ _ hD5];rfl
     clear hD5;go_upto_region 7 with(at_builtin;refine kQ _ rfl (.tmp 55) (.tmp 77) 270 rfl (B+1) 273 i0 (.agg (JQ [0,0,0,0]).toArray) 4 32 underlying270 HI.u HZ0.u HZ1.u HZ2.u rfl (by decide) v5 (8* (8*k+j)+4) _ rfl (OWN5.u.alloc _) ⟨w5.heap.size,0,none⟩ 4 4 (JQ (jlB j Y)) rfl rfl ?d1 ?d2 ?d3 ?d4 ?d5 ?_);case d1=>exact YB w5 _ _ _ rfl
     case d2=>exact jal _
     case d3=>unfold maxLen;omega
     case d4=>omega
     case d5=>simp;omega
     intro v6 w6 own6 hg6 _;have S6:jbC B w (8*k+(j+1)) v6 w6:=by
      refine⟨(bel5.u.alloc (by omega) _).grown hg6 (by simp;omega) (fun q hq=>by have:=(OWN5.u.lt q hq).1;omega),yA hg6 (jjM OWN5.u (by omega)) (xx rows5.u),?_⟩;rw [show 8*k+(j+1)=(8*k+j)+1 by omega,KD,eX.u,show 8* (8*k+j+1)=8* (8*k+j)+4+4 by omega,←jas,←jas];exact own6
     clear own6 hg6 bel5 OWN5 rows5 c0 c1 c2 c3 eX;go_wp2_with fail;go_roundw;case rel=>exact⟨j+1,by omega,by go_num,S6⟩
     case measure=>simp [intOf];omega
    ·have hd8:decide ((j:Int)<8)=false:=by simp;omega
     go_wp2_with fail;go_roundw;case rel=>exact⟨k+1,by omega,by go_num,by rw [show 8* (k+1)=8*k+j by omega];exact Si⟩
     case measure=>simp [intOf];omega
  ·have hd10:decide ((k:Int)<10)=false:=by simp;omega
   go_wp2_with fail;go_ret;obtain rfl:k=10:=by omega
   rw [HB.u];exact⟨_,rfl,S.below,S.own⟩
end Go.Proofs.YtnohcdpnnhmpfaaGreatDoor
