/-
  The way back: back undoes quarter, quarter undoes back; so Unstir and Stir undo each other. No program in sight.
  The reference's small functions: right, digit, four, rows.
  The reference's power: 256 to the i, i below 4.
  The reference's Keyed, its plain law: piece by piece, the last one with what is there; words taken apart. No program in sight.
-/
import Derived.Test.YtnohcdpnnhmpfaaGreatDoorK01
import Derived.Test.YtnohcdpnnhmpfaaGreatDoorK10
import Derived.Test.YtnohcdpnnhmpfaaGreatDoorK11
set_option linter.unusedVariables false
set_option linter.unusedSimpArgs false
set_option maxRecDepth 100000
set_option maxHeartbeats 1000000
namespace Go.Proofs.YtnohcdpnnhmpfaaGreatDoor.FM
open Go.RowKit ML
def put4(V:List U)(a b c d:Nat)(xa xb xc xd:U):List U:=(((V.set a xa).set b xb).set c xc).set d xd
theorem put4_length(V:List U)(a b c d:Nat)(xa xb xc xd:U):(put4 V a b c d xa xb xc xd).length=V.length:=by simp [put4]
theorem ext16(V W:List U)(h:V.length=W.length)(hg: ∀j,j<V.length→V.getD j 0=W.getD j 0):V=W:=by
 apply List.ext_getElem h;intro i h1 h2;have:=hg i h1;simpa [List.getD_eq_getElem?_getD,h1,h2] using this
theorem getD_set(V:List U)(i j:Nat)(x:U)(h:i<V.length):(V.set i x).getD j 0=if i=j then x else V.getD j 0:=by
 by_cases e:i=j;·subst e;rw [if_pos rfl,getD_set_eq _ _ _ h]
 ·rw [if_neg e,getD_set_ne _ _ _ _ e]
theorem put4_get(V:List U)(a b c d:Nat)(xa xb xc xd:U)(hl:V.length=16)(D:Dist a b c d)(j:Nat):
 (put4 V a b c d xa xb xc xd).getD j 0=if d=j then xd else if c=j then xc else if b=j then xb else if a=j then xa else V.getD j 0:=by
 unfold put4;rw [getD_set _ _ _ _ (by simp [hl,D.ld]),getD_set _ _ _ _ (by simp [hl,D.lc]),getD_set _ _ _ _ (by simp [hl,D.lb]),getD_set _ _ _ _ (by simp [hl,D.la])]
theorem put4_same(V:List U)(a b c d:Nat)(hl:V.length=16)(D:Dist a b c d):
 put4 V a b c d (V.getD a 0) (V.getD b 0) (V.getD c 0) (V.getD d 0)=V:=by
 refine ext16 _ _ (by simp [put4_length]) (fun j _=>?_);rw [put4_get _ _ _ _ _ _ _ _ _ hl D]
 repeat' split
 all_goals (first|(subst_vars;rfl))
theorem put4_gets(V:List U)(a b c d:Nat)(xa xb xc xd:U)(hl:V.length=16)(D:Dist a b c d):
 (put4 V a b c d xa xb xc xd).getD a 0=xa∧(put4 V a b c d xa xb xc xd).getD b 0=xb∧(put4 V a b c d xa xb xc xd).getD c 0=xc∧(put4 V a b c d xa xb xc xd).getD d 0=xd:=by
 refine⟨?_,?_,?_,?_⟩<;>rw [put4_get _ _ _ _ _ _ _ _ _ hl D];·rw [if_neg D.ad.symm,if_neg D.ac.symm,if_neg D.ab.symm,if_pos rfl]
 ·rw [if_neg D.bd.symm,if_neg D.bc.symm,if_pos rfl]
 ·rw [if_neg D.cd.symm,if_pos rfl]
 ·rw [if_pos rfl]
theorem set8_q(V:List U)(a b c d:Nat)(xa xb xc xd ya yb yc yd:U)(hl:V.length=16)(D:Dist a b c d):
 (((((((V.set a xa).set d xd).set c xc).set b xb).set a ya).set d yd).set c yc).set b yb=put4 V a b c d ya yb yc yd:=by
 refine ext16 _ _ (by simp [put4_length]) (fun j _=>?_);rw [put4_get _ _ _ _ _ _ _ _ _ hl D]
 rw [getD_set _ _ _ _ (by simp [hl,D.lb]),getD_set _ _ _ _ (by simp [hl,D.lc]),getD_set _ _ _ _ (by simp [hl,D.ld]),getD_set _ _ _ _ (by simp [hl,D.la]),
  getD_set _ _ _ _ (by simp [hl,D.lb]),getD_set _ _ _ _ (by simp [hl,D.lc]),getD_set _ _ _ _ (by simp [hl,D.ld]),getD_set _ _ _ _ (by simp [hl,D.la])]
 have:=D.ab;have:=D.ac;have:=D.ad;have:=D.bc;have:=D.bd;have:=D.cd
 repeat' split
 all_goals first|rfl|omega
end Go.Proofs.YtnohcdpnnhmpfaaGreatDoor.FM
namespace Go.Proofs.YtnohcdpnnhmpfaaGreatDoor
open Go.RowKit ML FM
def turnK(x:U):Nat→U
 |0=>x
 |k+1=>(turnK x k).rotateRight 1
theorem rot_succ(x:U)(m:Nat)(h:m+1<32):(x.rotateRight m).rotateRight 1=x.rotateRight (m+1):=by
 apply BitVec.eq_of_getLsbD_eq;intro i hi;simp only [BitVec.getLsbD_rotateRight,Nat.mod_eq_of_lt (show(1:Nat)<32 by omega),Nat.mod_eq_of_lt (show m<32 by omega),Nat.mod_eq_of_lt h,Bool.cond_decide];by_cases h1:i<31
 ·rw [if_pos (by omega)];by_cases h2:1+i<32-m;·rw [if_pos h2,if_pos (by omega)];congr 1;omega
  ·rw [if_neg h2,if_neg (by omega)];simp only [show 1+i<32 by omega,hi,decide_true,Bool.true_and];congr 1;omega
 ·rw [if_neg (by omega),if_pos (by omega),if_neg (by omega)];simp only [hi,decide_true,Bool.true_and];congr 1;omega
theorem turnK_rot(x:U): ∀n,n<32→turnK x n=x.rotateRight n
 |0,_=>by rw [turnK];apply BitVec.eq_of_getLsbD_eq;intro i hi;rw [BitVec.getLsbD_rotateRight];simp [hi]
 |n+1,h=>by rw [turnK,turnK_rot x n (by omega),rot_succ x n h]
theorem un_rot1(y:U):un y/2+un y%2*2147483648=un (y.rotateRight 1):=by
 have h:=r_rot y 1 (by decide);rw [←h];unfold un;have e1:((y.toNat:Int)/2^1)=((y.toNat/2:Nat):Int):=by norm_cast
 have e2:((y.toNat:Int)*2^(32-1)%4294967296)=((y.toNat%2*2147483648:Nat):Int):=by
  have:=y.isLt;have e:(2:Int)^(32-1)=2147483648:=by decide
  rw [e];omega
 have:=y.isLt;rw [e1,e2,u32_or_nat _ _ (by omega) (by omega),Nat.or_comm,nat_join 31 _ _ (by simp) (by omega)];omega
theorem right_any(x:U)(n:Nat)(w:World)(h1:n<64):
 Calls Tryz.prog 229 #[.int .u32 (un x),.int .i64 (n:Int)] w fun e w'=>e=.returned (.int .u32 (un (turnK x n)))∧w'=w:=by
 go_enter Tryz.func229,Tryz.ntmps229;go_wp2
 go_loop [0,5] (fun y i=> ∃k:Nat,k≤n∧i=.int .i64 k∧y=.int .u32 (un (turnK x k))) (fun _ i=>n-(intOf i).toNat)
 case atStart=>exact⟨0,Nat.zero_le _,rfl,rfl⟩
 case round=>
  obtain⟨k,hk,rfl,rfl⟩:=hrel;have b0:=un_nonneg (turnK x k);have b1:=un_lt (turnK x k);by_cases hlt:k<n
  ·have hd:decide ((k:Int)<n)=true:=by simp;omega
   go_wp2
   go_round
   case rel=>exact⟨k+1,by omega,by go_num,by rw [un_rot1];rfl⟩
   case measure=>simp [intOf];omega
  ·have hd:decide ((k:Int)<n)=false:=by simp;omega
   go_wp2;go_ret;obtain rfl:k=n:=by omega
   exact⟨rfl,rfl⟩
def hexS:ByteArray:=⟨#[48,49,50,51,52,53,54,55,56,57,97,98,99,100,101,102]⟩
def hexI(v:Nat):Int:=if v<10 then 48+v else 87+v
theorem hex_tab: ∀i,(h:i<hexS.size)→((hexS[i]'h).toNat:Int)=hexI i:=by decide+kernel
theorem hexI_inj {i j:Nat}(hi:i<16)(hj:j<16)(h:hexI i=hexI j):i=j:=by
 unfold hexI at h;split at h<;>split at h<;>omega
theorem digit_any(v:Nat)(w:World)(hv:v<16):
 Calls Tryz.prog 238 #[.int .u8 (hexI v)] w fun e w'=>e=.returned (.int .i64 (v:Int))∧w'=w:=by
 have HT:=hex_tab;unfold hexS at HT;go_enter Tryz.func238,Tryz.ntmps238;go_wp2
 go_loop [3] (fun i=> ∃k:Nat,k≤v∧i=.int .i64 k) (fun i=>v-(intOf i).toNat)
 case atStart=>exact⟨0,Nat.zero_le _,rfl⟩
 case round=>
  obtain⟨k,hk,rfl⟩:=hrel;have hd:decide ((k:Int)<16)=true:=by simp;omega
  by_cases hlt:k<v
  ·
    have he:(hexI k==hexI v)=false:=by
     rw [beq_eq_false_iff_ne];exact fun h=>absurd (hexI_inj (by omega) hv h) (by omega)
    go_wp2
    go_round
    case rel=>exact⟨k+1,by omega,by go_num⟩
    case measure=>simp [intOf];omega
  ·obtain rfl:k=v:=by omega
   have he:(hexI k==hexI k)=true:=by simp
   go_wp2;go_ret;exact⟨rfl,rfl⟩
def i64s(l:List Int):List Value:=l.map (Value.int .i64)
theorem oneCell_i64s(l:List Int):(i64s l).toArray.all (·.oneCell')=true:=by simp [i64s,Value.oneCell']
def fourTab:List Int:= [0,4,8,12,1,5,9,13,2,6,10,14,3,7,11,15,0,5,10,15,1,6,11,12,2,7,8,13,3,4,9,14]
def fourRow(i:Nat):List Int:= [(ca i:Int),(cb i:Int),(cc i:Int),(cd i:Int)]
theorem fourTab_row: ∀i,i<8→ ∀j,j<4→fourTab[4*i+j]?=(fourRow i)[j]?:=by decide+kernel
theorem size_four:(Tryz.prog.info? 287).map (·.size)=some 4:=by kernel_rfl
theorem four_any(i:Nat)(w:World)(hi:i<8):
 Calls Tryz.prog 237 #[.int .i64 (i:Int)] w fun e w'=>
  e=.returned (.agg (i64s (fourRow i)).toArray)∧Below w.heap.size w w':=by
 go_enter Tryz.func237,Tryz.ntmps237;generalize hB:w.heap.size=B at*;have HB:=Lib.hid hB;have hs0:(w.alloc (Obj.cells (i64s [0,0,0,0]).toArray 287)).heap.size=B+1:=by simp [hB]
 have HS0:=Lib.hid hs0;have HBL:=Lib.hid ((Below.refl w.heap.size w).alloc (Nat.le_refl _) (Obj.cells (i64s [0,0,0,0]).toArray 287));have HH0:=Lib.hid (heap_at (o:=Obj.cells (i64s [0,0,0,0]).toArray 287) hB);clear hs0;have HI:=Lib.hid (show(Tryz.prog.info? 290).map (·.size)=some (i64s fourTab).toArray.size by kernel_rfl);go_upto_region 1 with(fail);refine wp_abs (fun w1=>w1.heap.size=B+1∧Below B w w1∧w1.heap[B]?=some (.cells (i64s [0,0,0,0]).toArray 287 (0,0))) ⟨HS0.out,by have:=HBL.out;rw [hB]at this;exact this,HH0.out⟩ (fun w0 hw0=>?_);obtain⟨hs,hb0,hh0⟩:=hw0;have HB0:=Lib.hid hb0;have HH:=Lib.hid hh0;clear HS0 HBL HH0 hb0 hh0 hB;go_upto_region 2 with(refine wpList_store_whole rfl rfl 290 _ _ rfl (B+1) (i64s (List.replicate 32 0)).toArray (i64s fourTab).toArray 290 rfl rfl ?hb ?hs HI.out ?h1 ?_);case hb=>exact heap_at hs
 case hs=>rfl
 case h1=>exact oneCell_i64s _
 intro w1 ho h1;have hbel:Below B w w1:=bel_only (HB0.out.alloc (by omega) _) ho (by omega);have H0:=Lib.hid (ho.keep (k:=B) (by omega) (heap_lt HH.out));have HBE:=Lib.hid hbel;clear HB0 HH ho hbel hs;have hr:w1.rangeAt (B+1) (i*4) (i64s (fourRow i)):=fun j v hj=>by
  rw [cell_of_row w1 (B+1) _ _ _ _ h1];have hj4:j<4:=by
   rcases Nat.lt_or_ge j 4 with h|h;·exact h
   ·rw [List.getElem?_eq_none (by simp [i64s,fourRow];omega)]at hj;cases hj
  have:=fourTab_row i hi j hj4;simp only [i64s,List.getElem?_map,List.getElem?_toArray]at hj ⊢;rw [Nat.mul_comm i 4,this];exact hj
 have HR:=Lib.hid hr;clear hr h1;have HF:=Lib.hid (show(Tryz.prog.info? 287).map (·.size)=some (i64s (fourRow i)).toArray.size by rw [size_four];rfl);go_upto_region 2 with(fail);apply wp_region_lit;go_wp2_with (first
  |(refine wpList_load_mid rfl 287 _ rfl (B+1) (i*4) rfl (i64s (fourRow i)) _ HR.out Tryz.underlying287 rfl HF.out ?_)
  |(refine wpList_store_whole rfl rfl 287 _ _ rfl B (i64s [0,0,0,0]).toArray (i64s (fourRow i)).toArray 287 rfl rfl H0.out rfl HF.out (oneCell_i64s _) ?_;intro w2 ho2 hp2))
 refine bodyPost_ret (results_cell_row rfl _ w2 B _ _ _ _ rfl hp2 Tryz.underlying287 rfl HF.out) rfl ⟨rfl,?_⟩;exact bel_only HBE.out ho2 (by omega)
theorem power_any(i:Nat)(w:World)(hi:i<4):
 Calls Tryz.prog 209 #[.int .i64 (i:Int)] w fun e w'=>e=.returned (.int .u32 ((256^i:Nat):Int))∧w'=w:=by
 have HI:=Lib.hid hi;clear hi;go_enter Tryz.func209,Tryz.ntmps209;go_wp2_with fail;go_loopw [3,4] (fun p k wr=> ∃j:Nat,j≤i∧k=.int .i64 j∧p=.int .u32 ((256^j:Nat):Int)∧wr=w) (fun _ k _=>i-(intOf k).toNat);case atStart=>exact⟨0,by omega,rfl,rfl,rfl⟩
 case round=>
 obtain⟨j,hj,rfl,rfl,rfl⟩:=hrel;have hi4:(i:Int)<4:=by have:=HI.out;omega
 by_cases hlt:j<i
 ·have hd:decide ((j:Int)<(i:Int))=true:=by simp;omega
  have hp:256^j*256<4294967296:=by
   have:j+1≤3+0:=by have:=HI.out;omega
   have h:=Nat.pow_le_pow_right (show 0<256 by decide) this;rw [Nat.pow_succ]at h;omega
  have hq:256^(j+1)=256^j*256:=Nat.pow_succ _ _;have HQ:=Lib.hid hq;clear hq;generalize 256^j=q at*;go_wp2_with fail;go_roundw;case rel=>exact⟨j+1,by omega,by go_num,by rw [HQ.out];go_num,trivial⟩
  case measure=>simp [intOf];omega
 ·have hd:decide ((j:Int)<(i:Int))=false:=by simp;omega
  go_wp2_with fail;go_ret;obtain rfl:j=i:=by omega
  exact⟨rfl,rfl⟩
end Go.Proofs.YtnohcdpnnhmpfaaGreatDoor
namespace Go.Proofs.YtnohcdpnnhmpfaaGreatDoor.FM
open Go.RowKit ML
def refH(h:List U)(T:Bytes)(k:Nat):List U:=if k≤doneP T then absorbK h T k else foldL h T
theorem refH_zero(h:List U)(T:Bytes):refH h T 0=h:=if_pos (Nat.zero_le _)
theorem refH_last(h:List U)(T:Bytes):refH h T (doneP T+1)=foldL h T:=if_neg (by omega)
theorem length_refH(h:List U)(T:Bytes)(k:Nat)(hh:h.length=8):(refH h T k).length=8:=by
 unfold refH;split;·exact length_absorbK h T hh k
 ·exact length_foldL h T hh
def endP(T:Bytes)(k:Nat):Nat:=if T.length<64*k+64 then T.length else 64*k+64
theorem refH_next(h:List U)(T:Bytes)(k:Nat)(hk:k≤doneP T):refH h T (k+1)=pressL (refH h T k) (wordsL (pieceL T k)) (endP T k) (decide (k=doneP T)):=by
 have hd:doneP T=(T.length-1)/64:=rfl;unfold refH endP;rw [if_pos hk];by_cases h1:k=doneP T
 ·rw [if_neg (by omega)];have e:(if T.length<64*k+64 then T.length else 64*k+64)=T.length:=by split<;>omega
  rw [e,foldL,←h1,pieceL,List.take_of_length_le (by rw [List.length_drop];omega)];simp
 ·rw [if_pos (by omega),absorbK,if_neg (by omega),Nat.mul_add];simp [h1]
theorem pieces_pos(T:Bytes)(h:0<T.length):(T.length+63)/64=doneP T+1:=by unfold doneP;omega
theorem piece_byte(T:Bytes)(k i:Nat):byteN (T.drop (64*k)) i=byteN T (64*k+i):=by
 unfold byteN;rw [List.getD_eq_getElem?_getD,List.getD_eq_getElem?_getD,List.getElem?_drop]
theorem piece_end(T:Bytes)(k i:Nat)(h1:i≤64)(h2:i=64∨T.length≤64*k+i):(T.drop (64*k)).take i=pieceL T k:=by
 unfold pieceL;rcases h2 with rfl|h2;·rfl
 ·rw [List.take_of_length_le (by rw [List.length_drop];omega),List.take_of_length_le (by rw [List.length_drop];omega)]
theorem add_word(x c r:Nat)(_hc:c<256)(_hr:r<4):(un (BitVec.ofNat 32 x)+((c:Int)* ((256^r:Nat):Int))%4294967296)%4294967296=un (BitVec.ofNat 32 (x+c*2^(8*r))):=by
 unfold un;rw [BitVec.toNat_ofNat,BitVec.toNat_ofNat,Nat.pow_mul];have e:((c:Int)* ((256^r:Nat):Int))=((c*256^r:Nat):Int):=(Int.natCast_mul _ _).symm;rw [e];show _=(((x+c*256^r)%4294967296:Nat):Int);generalize c*256^r=y;omega
theorem outB_get(V:List U): ∀i,i<4*V.length→(outB V)[i]?=some (UInt8.ofNat ((V.getD (i/4) 0).toNat/256^(i%4)%256)):=by
 induction V with
 |nil=>intro i h;simp at h
 |
  cons x V ih=>
  intro i h;have e:outB (x::V)=fourB x++outB V:=by simp [outB,fourB]
  rw [e];by_cases h4:i<4
  ·rw [List.getElem?_append_left (by simp [fourB];exact h4)];have:i=0∨i=1∨i=2∨i=3:=by omega
   rcases this with rfl|rfl|rfl|rfl;·rw [show 0%4=0 by rfl,Nat.pow_zero,Nat.div_one];rfl
   ·rfl
   ·rfl
   ·rfl
  ·obtain⟨j,rfl⟩: ∃j,i=j+4:=⟨i-4,by omega⟩;rw [List.getElem?_append_right (by simp [fourB]),show j+4-(fourB x).length=j by simp [fourB],ih j (by simp at h;omega),show(j+4)/4=j/4+1 by omega,show(j+4)%4=j%4 by omega];simp
end Go.Proofs.YtnohcdpnnhmpfaaGreatDoor.FM
