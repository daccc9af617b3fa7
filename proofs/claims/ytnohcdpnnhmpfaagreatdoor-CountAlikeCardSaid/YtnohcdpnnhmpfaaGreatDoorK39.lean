/-
  The reference's Keyed and Digest: of any key and any text.
-/
import Derived.Test.YtnohcdpnnhmpfaaGreatDoorK11
import Derived.Test.YtnohcdpnnhmpfaaGreatDoorK36
import Derived.Test.YtnohcdpnnhmpfaaGreatDoorK38
import Derived.Deep.CutBlock
import Derived.Deep.OwnRows
set_option linter.unusedVariables false
set_option linter.unusedSimpArgs false
set_option maxRecDepth 100000
set_option maxHeartbeats 4000000
namespace Go.Proofs.YtnohcdpnnhmpfaaGreatDoor
open Go.RowKit ML FM
structure RSt(B0 b c:Nat)(w:World)(H M:List U)(wr:World):Prop where
 below:Below B0 w wr
 h:wr.heap[b]?=some (.cells (vals H) 205 (0,0))
 m:wr.heap[c]?=some (.cells (vals M) 235 (0,0))
theorem RSt.turnedM {B0 b c:Nat}{w:World}{H M M':List U}{wr w1:World}(h:RSt B0 b c w H M wr)(h1:B0≤c)(h2:b<c)(ho:Only c wr w1)(hp:w1.heap[c]?=some (.cells (vals M') 235 (0,0))):RSt B0 b c w H M' w1:=
 ⟨bel_only h.below ho h1,ho.keep (by omega) h.h,hp⟩
theorem str_byte(T:Bytes)(i:Nat)(h:i<(ByteArray.mk T.toArray).size):(((ByteArray.mk T.toArray)[i]'h).toNat:Int)=(byteN T i:Int):=by
 rw [size_mk]at h;unfold byteN;rw [List.getD_eq_getElem?_getD,List.getElem?_eq_getElem h];rfl
def outRow(O:Bytes)(i:Nat):List Value:=Lib.byteCells (O.take i++List.replicate (32-i) 0)
theorem outRow_set(O:Bytes)(i:Nat)(hO:O.length=32)(hi:i<32)(v:Value)(hv:v=.int .u8 ((O.getD i 0).toNat:Int)):(outRow O i).toArray.setIfInBounds i v=(outRow O (i+1)).toArray:=by
 subst hv;unfold outRow Lib.byteCells;rw [List.setIfInBounds_toArray];congr 1;apply List.ext_getElem?;intro j;rw [List.getElem?_set];have hl:(List.take i O++List.replicate (32-i) (0:UInt8)).length=32:=by simp [hO];omega
 simp only [List.length_map,hl];by_cases h:i=j
 ·subst h;have h32:i<O.length:=by omega
  rw [if_pos hi,if_pos rfl,List.getElem?_map,List.getElem?_append_left (by simp [hO];omega),List.getElem?_take,if_pos (by omega),List.getD_eq_getElem?_getD,List.getElem?_eq_getElem h32];rfl
 ·rw [if_neg h];simp only [List.getElem?_map];congr 1;by_cases hj:j<i;·rw [List.getElem?_append_left (by simp [hO];omega),List.getElem?_append_left (by simp [hO];omega),List.getElem?_take,List.getElem?_take,if_pos hj,if_pos (by omega)]
  ·rw [List.getElem?_append_right (by simp [hO];omega),List.getElem?_append_right (by simp [hO];omega),List.getElem?_replicate,List.getElem?_replicate];simp only [List.length_take,hO];congr 1;simp only [eq_iff_iff];omega
theorem made_row:madeCells #[Value.int .u8 0] 32=(outRow [] 0).toArray:=by kernel_rfl
theorem out_val(y:U)(pw:Nat):(un y/(pw:Int)).tmod 256%256=((UInt8.ofNat (y.toNat/pw%256)).toNat:Int):=by
 unfold un;have e:((y.toNat:Int)/(pw:Int))=((y.toNat/pw:Nat):Int):=(Int.natCast_ediv _ _).symm;rw [e];generalize y.toNat/pw=a;rw [Int.tmod_eq_emod_of_nonneg (by omega)];have h:(UInt8.ofNat (a%256)).toNat=a%256:=by simp
 rw [h];omega
theorem refKeyed_any(K B:Bytes)(w:World)(hB:B.length<4611686018427387904)(hKm:K.length<9223372036854775808):
 Calls Tryz.prog 183 #[.string ⟨K.toArray⟩,.string ⟨B.toArray⟩] w fun e w'=>e=.returned (.tuple #[.string ⟨(keyedD K B).toArray⟩,.bool (decide (K.length≤32))])∧Below w.heap.size w w':=by
 have HBL:=Lib.hid hB;have hsz:=size_mk K;clear hB;go_enter Tryz.func183,Tryz.ntmps183;by_cases hK:32<K.length
 ·have hK2:keyedD K B= []∧decide (K.length≤32)=false:=⟨if_neg (by omega),by simp;omega⟩;go_wp2_with fail
  go_ret2
  rw [hK2.1,hK2.2];exact⟨rfl,Below.refl _ _⟩
 have hKl:K.length≤64:=by omega
 have HD:=Lib.hid (show keyedD K B=digestL K B from if_pos (by omega));have HE:=Lib.hid (show decide (K.length≤32)=true by simp;omega);have HDD:=Lib.hid (show digestL K B=outB (foldL (beginH K.length) (keyPiece K++B))from rfl);have HTL:=Lib.hid (show(keyPiece K++B).length<4611686018427387976 by rw [List.length_append];have:=length_keyPiece K hKl;have:=HBL.out;omega)
 go_upto_if 23 with(fail)
 go_cut [6] (fun v w'=>v=.string ⟨(keyPiece K++B).toArray⟩∧w'=w);case first=>
  by_cases hK0:K= []
  ·subst hK0;go_wp2_with fail;go_meet;exact⟨rfl,rfl⟩
  ·have hpos:0<K.length:=List.length_pos_iff.2 hK0;go_upto_region 6 with(fail);go_loopw [7] (fun z wr=> ∃n:Nat,K.length+n≤64∧z=.string ⟨(K++List.replicate n 0).toArray⟩∧wr=w) (fun z _=>match z with| .string s=>64-s.size|_=>0);case atStart=>exact⟨0,by omega,by simp,rfl⟩
   case round=>
   obtain⟨n,hn,rfl,rfl⟩:=hrel;have hs:=size_mk (K++List.replicate n 0);rw [List.length_append,List.length_replicate]at hs;by_cases hlt:K.length+n<64
   ·have hd:decide (((K.length+n:Nat):Int)<64)=true:=by simp;omega
    go_wp2_with fail;go_roundw;case rel=>
     refine⟨n+1,by omega,?_,trivial⟩;rw [List.replicate_succ',←List.append_assoc,append_mk _ [0]]
    case measure=>
     rw [append_mk _ [0]];show 64-(ByteArray.mk (K++List.replicate n 0++ [0]).toArray).size<64-(ByteArray.mk (K++List.replicate n 0).toArray).size;rw [size_mk,size_mk];simp;omega
   ·have hd:decide (((K.length+n:Nat):Int)<64)=false:=by simp;omega
    have hsB:=size_mk B;have hBl:=HBL.out;obtain rfl:n=64-K.length:=by omega
    have hkp:keyPiece K=K++List.replicate (64-K.length) 0:=by unfold keyPiece;rw [if_neg hK0]
    rw [←hkp]at hs ⊢;have hkn:K.length+(64-K.length)=64:=by omega
    rw [hkn]at hs hd;have HKP:=Lib.hid hkp;clear hkp hkn hn;generalize keyPiece K=Z at*;go_wp2_with fail;go_meet;rw [append_mk];exact⟨rfl,rfl⟩
 case rest=>
 obtain⟨rfl,hw0⟩:=hcut;replace hw0:=hw0.symm;subst hw0;clear HBL;generalize keyPiece K++B=T at*;have hTs:=size_mk T;have HT:=HTL.out
 go_upto_if 39 with(fail)
 go_cut [9] (fun v w'=>v=.int .i64 ((doneP T+1:Nat):Int)∧w'=w);case first=>
  by_cases hT0:T= []
  ·subst hT0;go_wp2_with fail;go_meet;exact⟨rfl,rfl⟩
  ·have hTp:0<T.length:=List.length_pos_iff.2 hT0;have hpp:=pieces_pos T hTp;have hpi:((T.length:Int)+63)/64=((doneP T+1:Nat):Int):=by omega
   go_wp2_with fail;go_meet;exact⟨congrArg _ hpi,rfl⟩
 case rest=>
 obtain⟨rfl,hw0⟩:=hcut;replace hw0:=hw0.symm;subst hw0;have hdP:doneP T≤T.length/64:=by unfold doneP;omega
 obtain⟨p,hp⟩: ∃p,p=doneP T+1:=⟨_,rfl⟩;have hpl:p<144115188075855872:=by omega
 rw [←hp];have HPP:=Lib.hid hp;clear hp hdP;have HF:=Lib.hid (show(Tryz.prog.info? 205).map (·.size)=some (vals ivL).size by kernel_rfl);go_upto_region 14 with(first
  |(go_at_call 208;refine(refStart_any _).mono ?_;rintro e w1 ⟨rfl,hb1⟩)
  |(refine wpList_store_whole rfl rfl 205 _ _ rfl w1.heap.size (vals (List.replicate 8 0)) (vals ivL) 205 rfl rfl (heap_at rfl) rfl HF.out (oneCell_vals _) ?_;intro w2 ho2 hp2))
 have b2:Below w.heap.size w w2:=(hb1.alloc hb1.size _).trans (ho2.below hb1.size);have hB1:w.heap.size≤w1.heap.size:=hb1.size;generalize w1.heap.size=b at*;clear hb1 ho2;have c0:w2.cell? ⟨b,0,none⟩=some (.int .u32 (un (ivL.getD 0 0))):=cell_get hp2 0 (by simp [ivL]);have f0:=frozen_get hp2 0;have r1:=Lib.hid (r_xor (ivL.getD 0 0) (0x01010020+BitVec.ofNat 32 (256*K.length)));have hxn:un (0x01010020+BitVec.ofNat 32 (256*K.length))=16842784+256* (K.length:Int):=by
  unfold un;rw [BitVec.toNat_add,BitVec.toNat_ofNat];show((((16842784+256*K.length%4294967296)%4294967296:Nat)):Int)=_;omega
 have hH:=Lib.hid (show beginH K.length=ivL.set 0 (ivL.getD 0 0 ^^^(0x01010020+BitVec.ofNat 32 (256*K.length)))from rfl);have r2:bits BinOp.xor IntKind.u32 (un (ivL.getD 0 0)) (16842784+256* (K.length:Int))=un (ivL.getD 0 0 ^^^(0x01010020+BitVec.ofNat 32 (256*K.length))):=by rw [←hxn];exact r1.out
 have R2:=Lib.hid r2;clear hxn r1 r2;generalize hx0:ivL.getD 0 0=x0 at*;have HP2:=Lib.hid hp2;clear hp2;go_upto_region 15 with(fail);rw [R2.out];have hh8:(beginH K.length).length=8:=by simp [beginH,ivL]
 refine wp_abs (fun w3=>Below w.heap.size w w3∧w3.heap[b]?=some (.cells (vals (refH (beginH K.length) T 0)) 205 (0,0))) ⟨bel_only b2 ((Only.refl b w2).setCell _ _) hB1,by rw [refH_zero,hH.out];exact heap_set HP2.out 0 _⟩ (fun w3 hw3=>?_);obtain⟨b3,h3⟩:=hw3;clear c0 f0 R2 hx0 hH HP2 b2;have HH8:=Lib.hid hh8;clear hh8;generalize beginH K.length=h0 at*;generalize x0 ^^^(0x01010020+BitVec.ofNat 32 (256*K.length))=xv at*;go_upto_region 16 with(fail);go_loopw [11] (fun i wr=> ∃k:Nat,k≤p∧i=.int .i64 k∧Below w.heap.size w wr∧wr.heap[b]?=some (.cells (vals (refH h0 T k)) 205 (0,0))) (fun i _=>p-(intOf i).toNat);case atStart=>exact⟨0,by omega,rfl,b3,h3⟩
 case round=>
 obtain⟨k,hk,rfl,bel,hh⟩:=hrel;clear b3 h3;by_cases hkp:k<p
 ·have hdk:decide ((k:Int)<(p:Int))=true:=by simp;omega
  go_upto_block 4 with(fail);refine wp_abs (fun w4=>RSt w.heap.size b wr.heap.size w (refH h0 T k) (wordsL ((T.drop (64*k)).take 0)) w4) ⟨bel.alloc bel.size _,heap_lt hh,heap_at rfl⟩ (fun w4 hw4=>?_);have hbc:b<wr.heap.size:=lt_of_heap hh;have hBc:w.heap.size≤wr.heap.size:=bel.size;clear bel hh;generalize wr.heap.size=c at*;go_cut [] (fun w'=>RSt w.heap.size b c w (refH h0 T k) (wordsL (pieceL T k)) w');case first=>
   go_upto_region 20 with(fail);go_loopw [13] (fun i wi=> ∃j:Nat,j≤64∧(j=0∨64*k+j≤T.length)∧i=.int .i64 j∧RSt w.heap.size b c w (refH h0 T k) (wordsL ((T.drop (64*k)).take j)) wi) (fun i _=>64-(intOf i).toNat);case atStart=>exact⟨0,by omega,.inl rfl,rfl,hw4⟩
   case round=>
   obtain⟨j,hj,hj2,rfl,S⟩:=hrel;clear hw4;by_cases hlt:j<64∧64*k+j<T.length
   ·have hd1:decide ((j:Int)<64)=true:=by simp;omega
    have hd2:decide (64* (k:Int)+(j:Int)<(T.length:Int))=true:=by simp;omega
    have hk63:64* (k:Int)+(j:Int)<4611686018427387976:=by have:=HTL.out;omega
    have hsi:64* (k:Int)+(j:Int)<((ByteArray.mk T.toArray).size:Int):=by rw [hTs];omega
    have hd3:64* (k:Int)+(j:Int)<(T.length:Int):=by omega
    have htab:=str_byte T;go_upto_region 22 with(fail);have HTS:=Lib.hid hTs;clear hTs hd3;generalize hsT:ByteArray.mk T.toArray=s at*;have HST2:=Lib.hid hsT;clear hsT;have hstep:=wordsL_step (T.drop (64*k)) j;rw [piece_byte]at hstep;have hcl:byteN T (64*k+j)<256:=byteN_lt T _;have hcb: ∀h,((s[64*k+j]'h).toNat:Int)=(byteN T (64*k+j):Int):=fun h=>htab _ h;clear htab;generalize byteN T (64*k+j)=cb at*;have c0:=cell_get S.m (j/4) (by rw [length_wordsL];omega);have f0:=frozen_get S.m (j/4);obtain⟨q,hq⟩: ∃q,q=j/4:=⟨_,rfl⟩;obtain⟨r,hr⟩: ∃r,r=j%4:=⟨_,rfl⟩;rw [←hq]at hstep c0 f0;rw [←hr]at hstep;have hadd:=Lib.hid (add_word (wordN ((T.drop (64*k)).take j) q) cb r hcl (by omega));rw [getD_wordsL _ q (by omega)]at c0;have q4:(j:Int)/4=(q:Int):=by omega
    have r4:(j:Int)%4=(r:Int):=by omega
    have q5:Int.tdiv (j:Int) 4=(q:Int):=by rw [Int.tdiv_eq_ediv_of_nonneg (by omega)];exact q4
    have r5:Int.tmod (j:Int) 4=(r:Int):=by rw [Int.tmod_eq_emod_of_nonneg (by omega)];exact r4
    have hq16:q<16:=by omega
    have hr4:r<4:=by omega
    clear hq hr;generalize BitVec.ofNat 32 (wordN ((T.drop (64*k)).take j) q+cb*2^(8*r))=y0 at*;generalize BitVec.ofNat 32 (wordN ((T.drop (64*k)).take j) q)=x1 at*;have HST:=Lib.hid hstep;clear hstep;have QP:=Lib.hid (power_any r wr.drew hr4);have hs0:(0:Int)≤64* (k:Int)+(j:Int):=by omega
    refine Seg.wp_region_segs (fun w'=> ∃n,w'=wr.drewN n) [([0,1,2,3,4,5,6,7,8,9,10,11,12,13,14],15)] [16,17] 18 (by kernel_rfl) (by kernel_rfl) (fun _ _ d _ _ h=>by cases d<;>exact h) (⟨1,rfl⟩) ?_;simp only [List.map_cons,List.map_nil,Seg.opAt,List.drop_succ_cons,List.drop_zero,Seg.wpSegs,Array.getD_eq_getD_getElem?,List.getElem?_toArray,List.getElem?_cons_succ,List.getElem?_cons_zero,Option.getD_some];repeat (any_goals (first|go_big_quiet_step (fail)|quiet_step (fail)))
    refine wpQuiet_nil ?_;intro K hK;simp only [Region.wanted,if_true];go_wp2_with fail;refine QP.out.mono ?_;rintro e w5 ⟨rfl,rfl⟩;refine hK _ _ ⟨1,rfl⟩ ?_;clear hK K QP;have had:=hadd.out;generalize 256^r=pw at*;repeat (any_goals (first|go_big_quiet_step (fail)|quiet_step (fail)))
    refine wpQuiet_nil ?_;go_upto_region 21 with(fail);refine wp_abs (fun w6=>RSt w.heap.size b c w (refH h0 T k) (wordsL ((T.drop (64*k)).take (j+1))) w6) ?_ (fun w6 S6=>?_)
    ·rw [HST.out];exact S.turnedM hBc hbc (((Only.refl c wr).setCell _ _).drew) (heap_set S.m q y0)
    clear S c0 f0 had hadd HST;go_wp2_with fail;have hsT:=HST2.out;clear HST2;subst hsT;go_roundw;case rel=>exact⟨j+1,by omega,Or.inr (by omega),by go_num,S6⟩
    case measure=>simp [intOf];omega
   ·have hpe:(T.drop (64*k)).take j=pieceL T k:=piece_end T k j hj (by omega);rw [hpe]at S;have SS:=Lib.hid S;clear S hpe;by_cases hj64:j<64
    ·have hd1:decide ((j:Int)<64)=true:=by simp;omega
     have hd2:decide (64* (k:Int)+(j:Int)<(T.length:Int))=false:=by simp;omega
     have hd3: ¬64* (k:Int)+(j:Int)<(T.length:Int):=by omega
     clear hlt hj2;go_wp2_with fail;go_meet;exact SS.out
    ·have hd1:decide ((j:Int)<64)=false:=by simp;omega
     clear hlt hj2;go_wp2_with fail;go_meet;exact SS.out
  case rest=>
  have SS:=Lib.hid hcut;clear hcut;have hkn:=Lib.hid (refH_next h0 T k (by have:=HPP.out;omega));have hend:=Lib.hid (show endP T k=if T.length<64*k+64 then T.length else 64*k+64 from rfl)
  go_upto_if 91 with(fail)
  go_cut [14] (fun v w'=>v=.int .i64 (endP T k:Int)∧w'=wc);case first=>
   have he:=hend.out;by_cases hl:T.length<64*k+64
   ·rw [if_pos hl]at he;have hd:decide ((T.length:Int)<64* (k:Int)+64)=true:=by simp;omega
    go_wp2_with fail;go_meet;exact⟨(by rw [he];try go_num),rfl⟩
   ·rw [if_neg hl]at he;have hd:decide ((T.length:Int)<64* (k:Int)+64)=false:=by simp;omega
    go_wp2_with fail;go_meet;exact⟨(by rw [he];try go_num),rfl⟩
  case rest=>
  obtain⟨rfl,hw0⟩:=hcut;subst hw0;have hel:endP T k<4611686018427387976:=by have h1:=hend.out;have h2:=HTL.out;split at h1<;>omega
  have S:=SS.out;have hR8:(refH h0 T k).length=8:=length_refH _ _ _ HH8.out;have hs8:=Lib.hid (show(Tryz.prog.info? 205).map (·.size)=some (vals (refH h0 T k)).size by rw [size_vals,hR8];exact size_eight);have hs8':=Lib.hid (show(Tryz.prog.info? 205).map (·.size)=some (vals (refH h0 T (k+1))).size by rw [size_vals,length_refH _ _ _ HH8.out];exact size_eight);have hss:(vals (refH h0 T k)).size=(vals (refH h0 T (k+1))).size:=by rw [size_vals,size_vals,length_refH _ _ _ HH8.out,length_refH _ _ _ HH8.out]
  have HSS:=Lib.hid hss;have hs16:=Lib.hid (show(Tryz.prog.info? 235).map (·.size)=some (vals (wordsL (pieceL T k))).size by rw [size_vals,length_wordsL];exact size_words);have Sh:=S.h;have Sm:=S.m;have QP:=Lib.hid (refPress_any (refH h0 T k) (wordsL (pieceL T k)) (endP T k) (decide (k=doneP T)) wc hR8 (length_wordsL _) (by omega));rw [←hkn.out]at QP;have hdl:((k:Int)==(p:Int)-1)=decide (k=doneP T):=by
   have:=HPP.out;by_cases h:k=doneP T;·simp [h];omega
   ·simp [h];omega
  clear S hR8 hss hend;go_upto_region 17 with(first
   |(refine wpList_load_whole rfl 205 _ rfl b (vals (refH h0 T k)) _ _ _ rfl Sh Tryz.underlying205 rfl hs8.out ?_)
   |(refine wpList_load_whole rfl 235 _ rfl c (vals (wordsL (pieceL T k))) _ _ _ rfl Sm Tryz.underlying235 rfl hs16.out ?_)
   |(go_at_call 210;refine QP.out.mono ?_;rintro e w7 ⟨rfl,hb7⟩;have h7:=bel_keep hb7 (lt_of_heap Sh) Sh)
   |(refine wpList_store_whole rfl rfl 205 _ _ rfl b (vals (refH h0 T k)) (vals (refH h0 T (k+1))) 205 rfl rfl h7 HSS.out hs8'.out (oneCell_vals _) ?_;intro w8 ho8 hp8))
  have bel8:Below w.heap.size w w8:=((SS.out.below).trans (hb7.mono SS.out.below.size)).trans (ho8.below hB1);clear Sh Sm h7 hb7 ho8 SS QP;go_wp2_with fail;go_roundw;case rel=>exact⟨k+1,by omega,by go_num,bel8,hp8⟩
  case measure=>simp [intOf];omega
 ·have hdk:decide ((k:Int)<(p:Int))=false:=by simp;omega
  obtain rfl:k=p:=by omega
  rw [HPP.out,refH_last]at hh;have hl8:(foldL h0 T).length=8:=length_foldL _ _ HH8.out;obtain⟨V,hV⟩: ∃V,V=foldL h0 T:=⟨_,rfl⟩;rw [←hV]at hh hl8;obtain⟨O,hO⟩: ∃O,O=outB V:=⟨_,rfl⟩;have hOl:O.length=32:=by rw [hO,length_outB];omega
  have hres:keyedD K B=O:=by rw [hO,hV,HD.out,HDD.out]
  have hget:=Lib.hid (outB_get V);rw [←hO]at hget;have HRES:=Lib.hid hres;clear hres hV hO HD HDD;obtain⟨i0,hi,hz0,hz1,hz2⟩:=info_parts info_byte;have HI:=Lib.hid hi;have HZ0:=Lib.hid hz0;have HZ1:=Lib.hid hz1;have HZ2:=Lib.hid hz2;clear hi hz0 hz1 hz2;go_upto_region 29 with(refine wpList_make_row _ rfl _ _ 91 rfl 5 i0 (.int .u8 0) Tryz.underlying91 HI.out HZ0.out HZ1.out rfl .i64 .i64 32 rfl rfl (by rw [HZ2.out];decide) (by decide) ?_);rw [made_row];have hbk:b<wr.heap.size:=lt_of_heap hh;refine wp_abs (fun w9=>Below w.heap.size w w9∧w9.heap[b]?=some (.cells (vals V) 205 (0,0))∧w9.heap[wr.heap.size]?=some (.cells (outRow O 0).toArray 5 (0,0))) ⟨bel.alloc bel.size _,heap_lt hh,heap_at rfl⟩ (fun w9 hw9=>?_);obtain⟨bel9,h9,d9⟩:=hw9;have hwD:w.heap.size≤wr.heap.size:=bel.size;clear bel hh HI HZ0 HZ1 HZ2;generalize wr.heap.size=d at*;go_loopw [16] (fun i wi=> ∃j:Nat,j≤32∧i=.int .i64 j∧Below w.heap.size w wi∧wi.heap[b]?=some (.cells (vals V) 205 (0,0))∧wi.heap[d]?=some (.cells (outRow O j).toArray 5 (0,0))) (fun i _=>32-(intOf i).toNat);case atStart=>exact⟨0,by omega,rfl,bel9,h9,d9⟩
  case round=>
  obtain⟨j,hj,rfl,bel,hh,hd⟩:=hrel;clear bel9 h9 d9;by_cases hlt:j<32
  ·have hd32:decide ((j:Int)<32)=true:=by simp;omega
   go_upto_region 31 with(fail);have hg:=hget.out j (by omega);obtain⟨q,hq⟩: ∃q,q=j/4:=⟨_,rfl⟩;obtain⟨r,hr⟩: ∃r,r=j%4:=⟨_,rfl⟩;have c0:=cell_get hh q (by omega);have cd:wr.cell? ⟨d,j,none⟩=(outRow O j)[j]?:=by rw [cell_of_row wr d j _ _ _ hd];simp
   have fd:=frozen_of_row wr d j _ _ hd;have hol:(outRow O j).length=32:=by simp [outRow,length_byteCells,hOl];omega
   obtain⟨cv,hcv⟩: ∃cv,(outRow O j)[j]?=some cv:=⟨_,List.getElem?_eq_getElem (by omega)⟩;rw [hcv]at cd;rw [←hq,←hr]at hg;have q4:(j:Int)/4=(q:Int):=by omega
   have r4:(j:Int)%4=(r:Int):=by omega
   have q5:Int.tdiv (j:Int) 4=(q:Int):=by rw [Int.tdiv_eq_ediv_of_nonneg (by omega)];exact q4
   have r5:Int.tmod (j:Int) 4=(r:Int):=by rw [Int.tmod_eq_emod_of_nonneg (by omega)];exact r4
   have hq8:q<8:=by omega
   have hr4:r<4:=by omega
   have hpw:0<256^r:=Nat.pow_pos (by decide);have hpu:256^r≤16777216:=by
    have h:=Nat.pow_le_pow_right (show 0<256 by decide) (show r≤3 by omega);exact h
   clear hq hr hcv hol;have HG:=Lib.hid hg;clear hg;have QP:=Lib.hid (power_any r wr.drew hr4);have b0:=un_nonneg (V.getD q 0);have b1:=un_lt (V.getD q 0);generalize V.getD q 0=y at*;refine Seg.wp_region_segs (fun w'=> ∃n,w'=wr.drewN n) [([0,1,2,3,4,5,6,7],8)] [9,10,11] 12 (by kernel_rfl) (by kernel_rfl) (fun _ _ d _ _ h=>by cases d<;>exact h) (⟨1,rfl⟩) ?_;simp only [List.map_cons,List.map_nil,Seg.opAt,List.drop_succ_cons,List.drop_zero,Seg.wpSegs,Array.getD_eq_getD_getElem?,List.getElem?_toArray,List.getElem?_cons_succ,List.getElem?_cons_zero,Option.getD_some];repeat (any_goals (first|go_big_quiet_step (fail)|quiet_step (fail)))
   refine wpQuiet_nil ?_;intro K hK;simp only [Region.wanted,if_true];go_wp2_with fail;refine QP.out.mono ?_;rintro e w5 ⟨rfl,rfl⟩;refine hK _ _ ⟨1,rfl⟩ ?_;clear hK K QP;generalize hpq:256^r=pw at*;have hp0:((pw:Int)==0)=false:=by simp;omega
   have hp1:(pw:Int)≠0:=by omega
   have hp2:(0:Int)<pw:=by omega
   repeat (any_goals (first|go_big_quiet_step (fail)|quiet_step (fail)))
   refine wpQuiet_nil ?_;go_upto_region 30 with(fail);refine wp_abs (fun w9=>Below w.heap.size w w9∧w9.heap[b]?=some (.cells (vals V) 205 (0,0))∧w9.heap[d]?=some (.cells (outRow O (j+1)).toArray 5 (0,0))) ?_ (fun w9 hw9=>?_)
   ·have ho:Only d wr (wr.setCell ⟨d,j,none⟩ (.int .u8 ((un y/(pw:Int)).tmod 256%256))).drew:=((Only.refl d wr).setCell _ _).drew;refine⟨bel_only bel ho hwD,ho.keep (by omega) hh,?_⟩;have e:=heap_setCell_same wr d j _ _ (.int .u8 ((un y/(pw:Int)).tmod 256%256)) hd;rw [outRow_set O j hOl hlt _ (by rw [out_val,List.getD_eq_getElem?_getD,HG.out];rfl)]at e;exact e
   obtain⟨bel9,h9,d9⟩:=hw9;clear bel hh hd c0 cd fd HG;go_wp2_with fail;go_roundw;case rel=>exact⟨j+1,by omega,by go_num,bel9,h9,d9⟩
   case measure=>simp [intOf];omega
  ·have hd32:decide ((j:Int)<32)=false:=by simp;omega
   obtain rfl:j=32:=by omega
   have ho32:outRow O 32=Lib.byteCells O:=by unfold outRow;rw [List.take_of_length_le (by omega)];simp
   have hrange:wr.rangeAt d 0 (Lib.byteCells O):=fun i v hv=>by
    rw [Nat.zero_add,cell_of_row wr d i _ _ _ hd,ho32];simpa using hv
   have HR:=Lib.hid hrange;clear hrange ho32 hd hget;go_upto_region 32 with(fail);go_wp2_with (refine wpList_bytes_back rfl _ 91 9 5 rfl Tryz.underlying91 Tryz.underlying5 Tryz.underlying9 d 32 32 O hOl.symm rfl HR.out ?_)
   go_ret2
   rw [HRES.out,HE.out];exact⟨rfl,bel⟩
theorem refDigest_any(B:Bytes)(w:World)(hB:B.length<4611686018427387904):
 Calls Tryz.prog 147 #[.string ⟨B.toArray⟩] w fun e w'=>e=.returned (.string ⟨(digestL [] B).toArray⟩)∧Below w.heap.size w w':=by
 have QK:=fun w=>refKeyed_any [] B w hB (by simp);have h0:keyedD [] B=digestL [] B:=rfl;rw [h0]at QK;have Q:=Lib.hid QK;clear QK h0 hB;go_enter Tryz.func147,Tryz.ntmps147;go_wp2_with (go_at_call 183;refine(Q.out _).mono ?_;rintro e w1 ⟨rfl,hb1⟩);go_ret;exact⟨rfl,hb1⟩
end Go.Proofs.YtnohcdpnnhmpfaaGreatDoor
