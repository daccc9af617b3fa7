/-
  (*folding).words: sixteen words out of the 64 bytes that are held.
  (*folding).take: any text is taken, piece by piece; the last piece is held back.
  (*folding).end: the last piece is folded, and the words are told as bytes.
  fold.begin: what a text is folded into, with a key of at most 64 bytes.
  What Keyed tells, its plain law.
  fold.four, the reference's Four: a number as four bytes.
  fold.tag, fold.Tag: the digest of a label and of parts.
-/
import Derived.Test.YtnohcdpnnhmpfaaGreatDoorK10
set_option linter.unusedVariables false
set_option linter.unusedSimpArgs false
set_option maxRecDepth 100000
set_option maxHeartbeats 4000000
namespace Go.Proofs.YtnohcdpnnhmpfaaGreatDoor
open Go.RowKit ML FM
theorem info_64:(Tryz.prog.info? 206).map (·.size)=some 64:=by kernel_rfl
theorem words_any(b:Nat)(H:List U)(n:Nat)(D:Bytes)(t:Nat)(w:World)(hF:FoldAt b H n D t w):
 Calls Tryz.prog 192 #[.pointer (some ⟨b,0,none⟩)] w fun e w'=>e=.returned (.agg (vals (wordsL D)))∧Below w.heap.size w w':=by
 have HF:=Lib.hid hF;have HDL:=Lib.hid hF.dl;have hlt:b<w.heap.size:=lt_of_heap hF.blk;clear hF;go_enter Tryz.func192,Tryz.ntmps192;go_upto_region 1 with(fail);refine wp_abs (fun w1=>Below w.heap.size w w1∧FoldAt b H n D t w1∧w1.heap[w.heap.size]?=some (.cells (vals (List.replicate 16 0)) 235 (0,0))) ?_ (fun w1 hw1=>?_);·refine⟨(Below.refl _ _).alloc (Nat.le_refl _) _,HF.out.below ((Below.refl _ _).alloc (Nat.le_refl _) _) hlt,heap_at rfl⟩
 obtain⟨hbel,hf,hv⟩:=hw1;have HI:=Lib.hid (show(Tryz.prog.info? 206).map (·.size)=some (Lib.byteCells D).length by rw [length_byteCells,HDL.out];exact info_64);go_upto_region 2 with(refine wpList_load_mid rfl 206 _ rfl b 9 rfl (Lib.byteCells D) _ hf.rangeD Tryz.underlying206 rfl HI.out ?_);generalize hB:w.heap.size=B at*;have HB:=Lib.hid hB;clear hB;go_loopw [9] (fun i wr=> ∃k:Nat,k≤64∧i=.int .i64 k∧Below B w wr∧FoldAt b H n D t wr∧wr.heap[B]?=some (.cells (vals (wordsL (D.take k))) 235 (0,0))) (fun i _=>64-(intOf i).toNat);case atStart=>exact⟨0,by omega,rfl,hbel,hf,hv⟩
 case round=>
 obtain⟨k,hk,rfl,bel,S,hV⟩:=hrel;clear hbel hf hv;by_cases hlt2:k<64
 ·have hd64:decide ((k:Int)<64)=true:=by simp;omega
  have hlen:(Lib.byteCells D).toArray.size=64:=by simp [length_byteCells,HDL.out]
  have hidx:(Lib.byteCells D)[k]?=some (.int .u8 ((D.getD k 0).toNat:Int)):=by simp [Lib.byteCells,List.getD_eq_getElem?_getD,HDL.out,hlt2]
  have hix: ∀w,(Instr.index 206 (.agg (Lib.byteCells D).toArray) (.int .i64 (k:Int))).run Tryz.prog w=.ok (.int .u8 ((D.getD k 0).toNat:Int)) w:=fun w=>run_index_row w 206 5 64 _ .i64 .u8 k _ Tryz.underlying206 hlt2 size_byte Tryz.underlying5 (by simpa using hidx);go_upto_region 4 with(fail);have hstep:=wordsL_step D k;have hc:byteN D k<256:=byteN_lt D k;unfold byteN at hstep hc;rw [List.getD_eq_getElem?_getD]at hstep hc;clear hidx hix;generalize (D[k]?.getD 0).toNat=c at*;have c0:=cell_get hV (k/4) (by rw [length_wordsL];omega);have f0:=frozen_get hV (k/4);obtain⟨q,hq⟩: ∃q,q=k/4:=⟨_,rfl⟩;obtain⟨r,hr⟩: ∃r,r=k%4:=⟨_,rfl⟩;rw [←hq]at hstep c0 f0;rw [←hr]at hstep;have hor:=or_word (wordN (D.take k) q) c (8*r) (by rw [hq,hr];exact wordN_part D k) hc (by omega);have hw:=getD_wordsL (D.take k) q (by omega);rw [hw]at c0;have q4:(k:Int)/4=(q:Int):=by omega
  have r4:(k:Int)%4=(r:Int):=by omega
  have q5:Int.tdiv (k:Int) 4=(q:Int):=by rw [Int.tdiv_eq_ediv_of_nonneg (by omega)];exact q4
  have r5:Int.tmod (k:Int) 4=(r:Int):=by rw [Int.tmod_eq_emod_of_nonneg (by omega)];exact r4
  have hq16:q<16:=by omega
  have hr4:r<4:=by omega
  clear hq hr;clear hw;generalize BitVec.ofNat 32 (wordN (D.take k) q+c*2^(8*r))=y0 at*;generalize BitVec.ofNat 32 (wordN (D.take k) q)=x0 at*;have HST:=Lib.hid hstep;clear hstep;refine Seg.wp_region_segs (fun w'=> ∃n,w'=wr.drewN n) [] [0,1,2,3,4,5,6,7,8,9] 10 (by kernel_rfl) (by kernel_rfl) (fun _ _ d _ _ h=>by cases d<;>exact h) (⟨1,rfl⟩) ?_;simp only [List.map_cons,List.map_nil,Seg.opAt,List.drop_succ_cons,List.drop_zero,Seg.wpSegs,Array.getD_eq_getD_getElem?,List.getElem?_toArray,List.getElem?_cons_succ,List.getElem?_cons_zero,Option.getD_some];repeat (any_goals (first|go_big_quiet_step (fail)|quiet_step (fail)))
  refine wpQuiet_nil ?_;go_upto_region 5 with(fail);refine wp_abs (fun w5=>Below B w w5∧FoldAt b H n D t w5∧w5.heap[B]?=some (.cells (vals (wordsL (D.take (k+1)))) 235 (0,0))) ?_ (fun w5 hw5=>?_)
  ·have ho:Only B wr ((wr.drewN 1).setCell ⟨B,q,none⟩ (.int .u32 (un y0))):=((Only.refl B wr).drewN 1).setCell _ _;refine⟨bel_only bel ho (Nat.le_refl _),S.only ho (by omega),?_⟩;rw [HST.out];exact heap_set (w:=wr.drew) hV _ _
  obtain⟨b5,S5,hV5⟩:=hw5;clear S bel hV c0 f0 HST hor;go_wp2_with fail;go_roundw;case rel=>exact⟨k+1,by omega,by go_num,b5,S5,hV5⟩
  case measure=>simp [intOf];omega
 have hd64:decide ((k:Int)<64)=false:=by simp;omega
 obtain rfl:k=64:=by omega
 rw [List.take_of_length_le (by rw [HDL.out];exact Nat.le_refl _)]at hV;have hs:=Lib.hid (show(Tryz.prog.info? 235).map (·.size)=some (vals (wordsL D)).size by rw [size_vals,length_wordsL];exact size_words);go_upto_region 6 with(fail);apply wp_region_lit;refine wpList_load_whole rfl 235 _ rfl B (vals (wordsL D)) _ _ _ rfl hV Tryz.underlying235 rfl hs.out ?_;refine wpList_store_whole rfl rfl 235 _ _ rfl B (vals (wordsL D)) (vals (wordsL D)) 235 rfl rfl hV rfl hs.out (oneCell_vals _) ?_;intro w6 ho hp;go_wp2_with fail;refine bodyPost_ret (results_cell_row rfl _ w6 B _ _ _ _ rfl hp Tryz.underlying235 rfl hs.out) rfl ⟨rfl,?_⟩;rw [HB.out];exact bel_only bel ho (Nat.le_refl _)
theorem take_any(b:Nat)(h0:List U)(T S:Bytes)(w:World)(hT:TakenAt b h0 T w)(hlen:T.length+S.length<9223372036854775808):
 Calls Tryz.prog 163 #[.pointer (some ⟨b,0,none⟩),.string ⟨S.toArray⟩] w fun e w'=>e=.returned (.tuple #[])∧TakenAt b h0 (T++S) w'∧w.grownBy w' (some b):=by
 have HT:=Lib.hid hT;have HL:=Lib.hid hlen;clear hT hlen;go_enter Tryz.func163,Tryz.ntmps163;go_wp2_with fail;go_loopw [1] (fun i wr=> ∃A R:Bytes,S=A++R∧i=.string ⟨R.toArray⟩∧TakenAt b h0 (T++A) wr∧w.grownBy wr (some b)) (fun i _=>match i with| .string s=>s.size|_=>0);case atStart=>exact⟨[],S,rfl,rfl,by simpa using HT.out,grown_only (Only.refl b w)⟩
 case round=>
 obtain⟨A,R,hAR,rfl,tk,gr⟩:=hrel;have hsz:=size_mk R;by_cases hR:R= []
 ·subst hR;simp only [List.append_nil]at hAR;subst hAR;go_wp2_with fail
  go_end0
  exact⟨rfl,tk,gr⟩
 have hpos:0<R.length:=List.length_pos_iff.2 hR;have hd0:decide (0<(R.length:Int))=true:=by simp;omega
 obtain⟨p,t,D,m,h0t,F⟩:=tk.ex;have hb:=lt_of_heap F.blk;have cAt:=F.cellAt;have fAt:=F.frozen 73
 go_upto_if 12 with(fail)
 go_cut [] (fun w'=> ∃p t D,MidL (T++A) p t D∧t<64∧FoldAt b (absorbK h0 (T++A) p) (64*p) D t w'∧w.grownBy w' (some b));case first=>
  by_cases ht:t=64
  ·subst ht;obtain⟨N,hN⟩: ∃N,N=64*p:=⟨_,rfl⟩;have hfull:=Lib.hid (m.full h0);have mn:=Lib.hid m.next;have hb64:N+64<9223372036854775808:=by
    have h1:=m.len;have h2:=HL.out;rw [hAR]at h2;simp only [List.length_append]at h1 h2;omega
   rw [←hN]at F hfull;have HN:=Lib.hid hN;clear hN;have cN:=F.cellN;have fN:=F.frozen 8;have FF:=Lib.hid F;generalize absorbK h0 (T++A) p=H0 at*;clear F cAt fAt tk h0t;go_upto_region 3 with(fail);have hBs:b<wr.heap.size:=hb;refine wp_abs (fun w3=>FoldAt b H0 (N+64) D 64 w3∧Only b wr w3) ⟨by have:=FF.out.setN (N+64);simpa using this,(Only.refl b wr).setCell _ _⟩ (fun w3 hw3=>?_);obtain⟨F3,o3⟩:=hw3;clear cN fN FF;have hb3:b<w3.heap.size:=lt_of_heap F3.blk;have cN:=F3.cellN;have FF:=Lib.hid F3;clear F3;have iH:=Lib.hid (show(Tryz.prog.info? 205).map (·.size)=some (H0.map uv).length by rw [List.length_map,FF.out.hl];exact size_eight);have QW:=Lib.hid (words_any b H0 (N+64) D 64 w3.drew (FF.out.drewN 1));refine Seg.wp_region_segs (fun w'=> ∃x:BelowT w3.heap.size w3,w'=x.w) [([0,1,2,3,4,5,7,8,9,10],6),([],11)] [] 12 (by kernel_rfl) (by kernel_rfl) (fun _ _ d _ _ h=>by cases d<;>exact h) (inB_of ((Below.refl _ _).drew)) ?_;simp only [List.map_cons,List.map_nil,Seg.opAt,List.drop_succ_cons,List.drop_zero,Seg.wpSegs,Array.getD_eq_getD_getElem?,List.getElem?_toArray,List.getElem?_cons_succ,List.getElem?_cons_zero,Option.getD_some];first|go_big_quiet_step (fail)|quiet_step (fail)
   first|go_big_quiet_step (fail)|quiet_step (fail)
   first|go_big_quiet_step (fail)|quiet_step (fail)
   first|go_big_quiet_step (fail)|quiet_step (fail)
   refine wpQuiet_load_mid rfl 205 _ rfl b 0 (H0.map uv) _ rfl (fun w' hw'=>(FF.out.below (InB.below hw') hb3).rangeH) Tryz.underlying205 rfl iH.out ?_;first|go_big_quiet_step (fail)|quiet_step (fail)
   first|go_big_quiet_step (fail)|quiet_step (fail)
   first|go_big_quiet_step (fail)|quiet_step (fail)
   first|go_big_quiet_step (fail)|quiet_step (fail)
   first|go_big_quiet_step (fail)|quiet_step (fail)
   refine wpQuiet_nil ?_;intro K hK;simp only [Region.wanted,if_true];go_wp2_with (go_at_call 192;refine QW.out.mono ?_;rintro e w4 ⟨rfl,hb4⟩);have hb4':Below w3.heap.size w3 w4:=((Below.refl _ _).drew).trans hb4;refine hK _ _ (inB_of hb4') ?_;clear hK K;refine wpQuiet_nil ?_;intro K hK;simp only [Region.wanted,if_true];have F4:=Lib.hid ((FF.out.drewN 1).below hb4 hb3);have QP:=Lib.hid (press_any H0 (wordsL D) (N+64) false w4 F4.out.hl (length_wordsL D) (by have:=hb64;omega));go_wp2_with (go_at_call 191;refine QP.out.mono ?_;rintro e w5 ⟨rfl,hb5⟩);have hb5':Below w3.heap.size w3 w5:=hb4'.trans (hb5.mono hb4'.size);refine hK _ _ (inB_of hb5') ?_;clear hK K;refine wpQuiet_nil ?_;have F5:=Lib.hid (F4.out.below hb5 (Nat.lt_of_lt_of_le hb3 hb4'.size));have hl5:(pressL H0 (wordsL D) (N+64) false).length=8:=by rw [length_pressL];exact F4.out.hl
   have HL5:=Lib.hid hl5;clear hl5;have hsV:=Lib.hid (show(Tryz.prog.info? 205).map (·.size)=some (vals (pressL H0 (wordsL D) (N+64) false)).size by rw [size_vals,HL5.out];exact size_eight);have thr:=Lib.hid (F5.out.there 0 (vals (pressL H0 (wordsL D) (N+64) false)).size (by rw [size_vals,HL5.out];omega));go_upto_region 4 with(refine wpList_store_mid rfl 205 _ _ rfl b 0 (vals (pressL H0 (wordsL D) (N+64) false)) rfl rfl thr.out hsV.out (oneCell_vals _) ?_);refine wp_abs (fun w6=>FoldAt b (pressL H0 (wordsL D) (N+64) false) (N+64) D 64 w6∧Only b w5 w6) ⟨F5.out.setH _ HL5.out,setCells_only b _ 0 w5⟩ (fun w6 hw6=>?_);obtain⟨F6,o6⟩:=hw6;have c6:=F6.cellAt;have f6:=F6.frozen 73;have FF6:=Lib.hid F6;have g6:w.grownBy w6 (some b):=gtrans (gtrans (gtrans gr (grown_only o3)) (grown_below hb5')) (grown_only o6);clear F6;go_wp2_with fail;go_meet;rw [hfull.out,HN.out,←Nat.mul_succ]at FF6;exact⟨p+1,0,D,mn.out,by omega,by simpa using FF6.out.setAt 0,gtrans g6 (grown_only ((Only.refl b w6).setCell _ _))⟩
  ·have hle:=m.le;have ht2:((t:Int)==64)=false:=by simp;omega
   have FF:=Lib.hid F;have mm:=Lib.hid m;clear F m;go_wp2_with fail;go_meet;exact⟨p,t,D,mm.out,by omega,FF.out,gr⟩
 case rest=>
 clear cAt fAt tk h0t m F gr hb;obtain⟨p,t,D,m,ht,F,gr⟩:=hcut;have hb:b<wc.heap.size:=lt_of_heap F.blk;have cAt:=F.cellAt;have fAt:=F.frozen 73;have FF:=Lib.hid F;have mm:=Lib.hid m;have hdl:=F.dl;have thr:wc.drew.there b (9+t) (Nat.min (ByteArray.mk R.toArray).size (64-t)):=fun j hj=>(F.drewN 1).there (9+t) (64-t) (by omega) j (Nat.lt_of_lt_of_le hj (Nat.min_le_right _ _));have THR:=Lib.hid thr;clear thr F m hdl;have HR:=Lib.hid hAR;clear hAR;have hs0:(0:Int)≤t:=by omega
 have hs1:(t:Int)≤64:=by omega
 have hs2:decide ((t:Int)≤64)=true:=by simp;omega
 go_upto_region 5 with(fail);refine Seg.wp_region_segs (fun w'=> ∃n,w'=wc.drewN n) [] [0,1,2,3,4,5,6,7,8] 9 (by kernel_rfl) (by kernel_rfl) (fun _ _ d _ _ h=>by cases d<;>exact h) (⟨1,rfl⟩) ?_;simp only [List.map_cons,List.map_nil,Seg.opAt,List.drop_succ_cons,List.drop_zero,Seg.wpSegs,Array.getD_eq_getD_getElem?,List.getElem?_toArray,List.getElem?_cons_succ,List.getElem?_cons_zero,Option.getD_some];repeat (any_goals (first|go_big_quiet_step (fail)|quiet_step (fail)))
 refine wpQuiet_nil ?_;refine wpList_copy_str rfl _ _ 91 9 rfl 5 Tryz.underlying91 size_byte b (9+t) (64-t) (64-t) ⟨R.toArray⟩ ?_ rfl THR.out ?_;·rfl
 generalize hk:Nat.min (ByteArray.mk R.toArray).size (64-t)=k at*;have hk2:k=min R.length (64-t):=by rw [←hk,hsz]
 clear hk;obtain⟨E,hE⟩: ∃E,E=R.take k:=⟨_,rfl⟩;have hEl:E.length=k:=by rw [hE,List.length_take];omega
 have hEd:List.take k (ByteArray.mk R.toArray).data.toList=E:=by rw [hE]
 rw [hEd];refine list_abs (fun w6=>FoldAt b (absorbK h0 (T++A) p) (64*p) (D.take t++(E++D.drop (t+E.length))) t w6∧Only b wc w6) ⟨(FF.out.drewN 1).setD t E (by omega),((Only.refl b wc).drewN 1).trans (setCells_only b _ _ _)⟩ (fun w6 hw6=>?_);obtain⟨F6,o6⟩:=hw6;have cAt:=F6.cellAt;have fAt:=F6.frozen 73;have FF6:=Lib.hid F6;clear F6 FF THR hEd;have hkR:k≤R.length:=by omega
 have hsum:t+k≤64:=by omega
 have hk0:0<k:=by omega
 clear hk2;go_upto_region 7 with(fail);refine wp_abs (fun w7=>FoldAt b (absorbK h0 (T++A) p) (64*p) (D.take t++(E++D.drop (t+E.length))) (t+k) w7∧Only b wc w7) ⟨by have:=FF6.out.setAt (t+k);push_cast at this;exact this,o6.setCell _ _⟩ (fun w7 hw7=>?_);obtain⟨F7,o7⟩:=hw7;clear cAt fAt FF6 o6;have F7:=Lib.hid F7;go_wp2_with fail;go_roundw;case rel=>
  rw [extract_drop];have hER:R=E++R.drop k:=by rw [hE,List.take_append_drop]
  have m7:MidL (T++(A++E)) p (t+k) (D.take t++(E++D.drop (t+E.length))):=by
   have:=mm.out.more E (by omega);rw [List.append_assoc]at this;rw [hEl]at this ⊢;exact this
  have f7:FoldAt b (absorbK h0 (T++(A++E)) p) (64*p) (D.take t++(E++D.drop (t+E.length))) (t+k) w7:=by
   rw [←List.append_assoc,absorbK_append _ _ _ p (by have:=mm.out.len;omega)];exact F7.out
  exact⟨A++E,R.drop k,by rw [HR.out,List.append_assoc,←hER],rfl,⟨p,t+k,_,m7,Or.inr (by omega),f7⟩,gtrans gr (grown_only o7)⟩
 case measure=>
  rw [extract_drop];show(ByteArray.mk (R.drop k).toArray).size<(ByteArray.mk R.toArray).size;rw [size_mk,size_mk,List.length_drop];omega
theorem run_clear_any {P:Program}(w:World)(t e ty:TypeId)(z:Value)(ht:P.underlying t=some (.slice e))(hv: ∀w,(zeroValue e).run P w=.ok z w)(hz:z.cells= #[z])(h1:z.oneCell'=true)(b o n c:Nat)(hth:w.there b o n):
 (Builtin.clear_ #[t] ty #[.slice (some ⟨b,o,none⟩) n c]).run P w=.ok (.tuple #[]) (w.setCells b o (List.replicate n z)):=by
 by_cases hn:n=0
 ·subst hn;simp [Builtin.clear_,run_underlying ht,World.setCells]
 ·exact Lib.run_clear_slice w t e ty z ht hv hz h1 b o n c (by omega) (fun j hj=>(hth j hj).1) (fun j hj=>(hth j hj).2)
theorem wpList_clear {P:Program}{w:World}{ops:Array Oper}{rest:List Oper}{o:Oper}{a:Act}{Q:Exit→Act→World→Prop}(hgd:o.guard=none)(d:Operand)(dT e:TypeId)
 (ho:o.op=.call {callee:=.builtin .clear,args:= #[d],argTypes:= #[dT]}) (z:Value) (hu:P.underlying dT=some (.slice e)) (hv: ∀w,(zeroValue e).run P w=.ok z w) (hz:z.cells= #[z]) (h1:z.oneCell'=true)
 (g off n cap:Nat) (hd:a.eval d=.slice (some ⟨g,off,none⟩) n cap) (ht:w.there g off n)
 (h:wpList P ops Q rest (a.put o.dst (.tuple #[])) (w.setCells g off (List.replicate n z))):wpList P ops Q (o::rest) a w:=by
 refine wpList_plain hgd fun K hK=>?_;have hrun:=run_clear_any (P:=P) w dT e o.type z hu hv hz h1 g off n cap ht;unfold Oper.wp;simp [execOp,ho,resolve,invoke,builtin,hd,hrun,Result.andThen];exact hK _ _ h
theorem wpList_slice_low {P:Program}{w:World}{ops:Array Oper}{rest:List Oper}{o:Oper}{a:Act}{Q:Exit→Act→World→Prop}(hgd:o.guard=none)(t:TypeId)(x y:Operand)
 (ho:o.op=.slice t x (some y) none none) (v:Value) (hr:(Instr.sliceAt t (a.eval x) (some (a.eval y)) none none).run P w=.ok v w) (h:wpList P ops Q rest (a.put o.dst v) w):wpList P ops Q (o::rest) a w:=by
 refine wpList_plain hgd fun K hK=>?_;unfold Oper.wp;simp [execOp,ho,hr,Result.andThen];exact hK _ _ h
theorem arr_64:Tryz.prog.arrayLen 206=64∧Tryz.prog.elem 206=5:=⟨by kernel_rfl,by kernel_rfl⟩
theorem slice_rest(b t:Nat)(ht:t≤64): ∃off,(t=64∨off=9+t)∧ ∀w,(Instr.sliceAt 206 (.pointer (some ⟨b,9,none⟩)) (some (.int .i64 (t:Int))) none none).run Tryz.prog w=.ok (.slice (some ⟨b,off,none⟩) (64-t) (64-t)) w:=by
 obtain⟨e1,e2⟩:=arr_64;have hu:Tryz.prog.underlying 206=some (.array (Tryz.prog.arrayLen 206) (Tryz.prog.elem 206)):=by rw [e1,e2];exact Tryz.underlying206
 have hs: ∀w,(sizeOf 5).run Tryz.prog w=.ok 1 w:=by
  intro w;have h:=size_byte;cases hq:Tryz.prog.info? 5 with
  |none=>simp [hq]at h
  |
   some i=>
   have hz:i.size=1:=by simpa [hq] using h
   simp [sizeOf,typeInfo,hq,hz]
 by_cases h64:t=64
 ·refine⟨9,.inl h64,fun w=>?_⟩;rw [run_sliceAt_array_l w _ _ hu .i64 (t:Int) (by omega) (by rw [e1];omega),e2,hs,e1];simp [slicedAt,h64]
 ·refine⟨9+t,.inr rfl,fun w=>?_⟩;rw [run_sliceAt_array_l w _ _ hu .i64 (t:Int) (by omega) (by rw [e1];omega),e2,hs,e1];have: ¬64=t:=fun h=>h64 h.symm;simp [slicedAt,this,Addr.add]
theorem zero_byte: ∀w:World,(zeroValue 5).run Tryz.prog w=.ok (.int .u8 0) w:=by
 intro w;have h:(Tryz.prog.info? 5).map (·.zero)=some (some (.int .u8 0)):=by kernel_rfl
 cases hq:Tryz.prog.info? 5 with
 |none=>simp [hq]at h
 |
  some i=>
  have hz:i.zero=some (.int .u8 0):=by simpa [hq] using h
  simp [zeroValue,typeInfo,hq,hz]
theorem byteN_pad(X:Bytes)(n i:Nat):byteN (X++List.replicate n 0) i=byteN X i:=by
 unfold byteN;rw [List.getD_eq_getElem?_getD,List.getD_eq_getElem?_getD];by_cases h:i<X.length;·rw [List.getElem?_append_left h]
 ·rw [List.getElem?_append_right (by omega),List.getElem?_replicate];rw [List.getElem?_eq_none (l:=X) (by omega)];split<;>rfl
theorem wordsL_pad(X:Bytes)(n:Nat):wordsL (X++List.replicate n 0)=wordsL X:=by
 unfold wordsL wordN;simp only [byteN_pad]
def fourB(x:U):Bytes:= [UInt8.ofNat (x.toNat%256),UInt8.ofNat (x.toNat/256%256),UInt8.ofNat (x.toNat/65536%256),UInt8.ofNat (x.toNat/16777216%256)]
theorem outB_take(V:List U)(k:Nat)(h:k<V.length):outB (V.take (k+1))=outB (V.take k)++fourB V[k]:=by
 unfold outB;rw [List.take_succ_eq_append_getElem h,List.flatMap_append,List.flatMap_singleton];rfl
theorem fourB_cells(x:U):Lib.byteCells (fourB x)= [.int .u8 (un x%256),.int .u8 (un x/256%256),.int .u8 (un x/65536%256),.int .u8 (un x/16777216)]:=by
 have e: ∀n:Nat,n<256→((UInt8.ofNat n).toNat:Int)=(n:Int):=by
  intro n h;simp [Nat.mod_eq_of_lt h]
 unfold fourB Lib.byteCells un;simp only [List.map_cons,List.map_nil];rw [e _ (by omega),e _ (by omega),e _ (by omega),e _ (by omega)];have h1:((x.toNat%256:Nat):Int)=(x.toNat:Int)%256:=by omega
 have h2:((x.toNat/256%256:Nat):Int)=(x.toNat:Int)/256%256:=by omega
 have h3:((x.toNat/65536%256:Nat):Int)=(x.toNat:Int)/65536%256:=by omega
 have h4:((x.toNat/16777216%256:Nat):Int)=(x.toNat:Int)/16777216:=by have:=x.isLt;omega
 rw [h1,h2,h3,h4]
theorem end_any(b:Nat)(h0:List U)(T:Bytes)(w:World)(hT:TakenAt b h0 T w)(hlen:T.length<9223372036854775808):
 Calls Tryz.prog 165 #[.pointer (some ⟨b,0,none⟩)] w fun e w'=>e=.returned (.string ⟨(outB (foldL h0 T)).toArray⟩)∧w.grownBy w' (some b):=by
 obtain⟨p,t,D,m,h0t,F⟩:=hT.ex;have hp:=m.done h0t;have hb:=lt_of_heap F.blk;have cAt:=F.cellAt;have cN:=F.cellN;have fN:=F.frozen 8;have htl:=m.le;obtain⟨N,hN⟩: ∃N,N=64*p:=⟨_,rfl⟩;have hNt:T.length=N+t:=by rw [hN];exact m.len
 have hb64:N+t<9223372036854775808:=by omega
 have hfold:foldL h0 T=pressL (absorbK h0 T p) (wordsL (D.take t)) (N+t) true:=by
  rw [foldL,←hp,←m.held,hNt]
 rw [←hN]at F cN;have hdl:=F.dl;have hl8:=F.hl;have HFO:=Lib.hid hfold;have HL8:=Lib.hid hl8;have HDL:=Lib.hid hdl;have FF:=Lib.hid F;clear hT m h0t hp hlen hN hNt hfold F hl8 hdl;generalize absorbK h0 T p=H0 at*;go_enter Tryz.func165,Tryz.ntmps165;go_upto_region 1 with(fail);refine Seg.wp_region_segs (fun w'=> ∃n,w'=w.drewN n) [] [0,1,2,3,4,5,6,7,8] 9 (by kernel_rfl) (by kernel_rfl) (fun _ _ d _ _ h=>by cases d<;>exact h) (⟨1,rfl⟩) ?_;simp only [List.map_cons,List.map_nil,Seg.opAt,List.drop_succ_cons,List.drop_zero,Seg.wpSegs,Array.getD_eq_getD_getElem?,List.getElem?_toArray,List.getElem?_cons_succ,List.getElem?_cons_zero,Option.getD_some];repeat (any_goals (first|go_big_quiet_step (fail)|quiet_step (fail)))
 refine wpQuiet_nil ?_;go_upto_region 2 with(fail);refine wp_abs (fun w2=>FoldAt b H0 (N+t) D t w2∧Only b w w2) ⟨by have:=FF.out.setN (N+t);push_cast at this;exact this.drewN 1,((Only.refl b w).setCell _ _).drew⟩ (fun w2 hw2=>?_);obtain⟨F2,o2⟩:=hw2;clear cAt cN fN FF;have cAt:=F2.cellAt;have cN:=F2.cellN;have FF:=Lib.hid F2;have THR:=Lib.hid (F2.drewN 1 |>.there (9+t) (64-t) (by omega));clear F2;have hs0:(0:Int)≤t:=by omega
 have hs1:(t:Int)≤64:=by omega
 have hs2:decide ((t:Int)≤64)=true:=by simp;omega
 refine Seg.wp_region_segs (fun w'=> ∃n,w'=w2.drewN n) [] [0,1,2,3,4,5,6] 7 (by kernel_rfl) (by kernel_rfl) (fun _ _ d _ _ h=>by cases d<;>exact h) (⟨1,rfl⟩) ?_;simp only [List.map_cons,List.map_nil,Seg.opAt,List.drop_succ_cons,List.drop_zero,Seg.wpSegs,Array.getD_eq_getD_getElem?,List.getElem?_toArray,List.getElem?_cons_succ,List.getElem?_cons_zero,Option.getD_some];repeat (any_goals (first|go_big_quiet_step (fail)|quiet_step (fail)))
 refine wpQuiet_nil ?_;obtain⟨off,hoff,hsl⟩:=slice_rest b t htl;refine wpList_slice_low rfl 206 _ _ rfl _ (hsl _) ?_;have HSL:=Lib.hid hsl;clear hsl;refine wpList_clear rfl _ 91 5 rfl (.int .u8 0) Tryz.underlying91 zero_byte rfl rfl b off (64-t) (64-t) rfl ?_ ?_
 ·rcases hoff with h|h;·subst h;intro j hj;omega
  ·subst h;exact THR.out
 clear HSL;go_upto_region 3 with(fail);obtain⟨Z,hZ⟩: ∃Z:Bytes,Z=List.replicate (64-t) 0:=⟨_,rfl⟩;have hZl:Z.length=64-t:=by rw [hZ,List.length_replicate]
 have hZc:List.replicate (64-t) (Value.int .u8 0)=Lib.byteCells Z:=by rw [hZ];simp [Lib.byteCells]
 obtain⟨D2,hD2⟩: ∃D2,D2=D.take t++Z:=⟨_,rfl⟩;have hwD:wordsL (D.take t)=wordsL D2:=by rw [hD2,hZ,wordsL_pad]
 refine wp_abs (fun w3=>FoldAt b H0 (N+t) D2 t w3∧Only b w2 w3) ?_ (fun w3 hw3=>?_)
 ·rw [hZc];refine⟨?_,((Only.refl b w2).drewN 1).trans (setCells_only b _ _ _)⟩;have e:(w2.drewN 1).setCells b off (Lib.byteCells Z)=(w2.drewN 1).setCells b (9+t) (Lib.byteCells Z):=by
   rcases hoff with h|h
   ·have:Z= []:=by rw [hZ,h];rfl
    subst this;rfl
   ·rw [h]
  show FoldAt b H0 (N+t) D2 t ((w2.drewN 1).setCells b off (Lib.byteCells Z));rw [e];have:=(FF.out.drewN 1).setD t Z (by omega);rw [List.drop_of_length_le (by rw [HDL.out];omega),List.append_nil,←hD2]at this;exact this
 obtain⟨F3,o3⟩:=hw3;clear hZc hZ hZl hs0 hs1 hs2 THR FF cAt cN;have hb3:b<w3.heap.size:=lt_of_heap F3.blk;have cN:=F3.cellN;have FF:=Lib.hid F3;have hg3:w.grownBy w3 (some b):=gtrans (grown_only o2) (grown_only o3);clear F3 o2 o3 hD2 hoff;obtain⟨M,hM⟩: ∃M,M=N+t:=⟨_,rfl⟩;rw [←hM]at FF cN hb64 HFO;clear hM;rw [hwD]at HFO;clear hwD HDL HL8;have iH:=Lib.hid (show(Tryz.prog.info? 205).map (·.size)=some (H0.map uv).length by rw [List.length_map,FF.out.hl];exact size_eight);have QW:=Lib.hid (words_any b H0 M D2 t w3.drew (FF.out.drewN 1));refine Seg.wp_region_segs (fun w'=> ∃x:BelowT w3.heap.size w3,w'=x.w) [([0,1,2,3,4,5,7,8,9,10],6),([],11)] [] 12 (by kernel_rfl) (by kernel_rfl) (fun _ _ d _ _ h=>by cases d<;>exact h) (inB_of ((Below.refl _ _).drew)) ?_;simp only [List.map_cons,List.map_nil,Seg.opAt,List.drop_succ_cons,List.drop_zero,Seg.wpSegs,Array.getD_eq_getD_getElem?,List.getElem?_toArray,List.getElem?_cons_succ,List.getElem?_cons_zero,Option.getD_some];first|go_big_quiet_step (fail)|quiet_step (fail)
 first|go_big_quiet_step (fail)|quiet_step (fail)
 first|go_big_quiet_step (fail)|quiet_step (fail)
 first|go_big_quiet_step (fail)|quiet_step (fail)
 refine wpQuiet_load_mid rfl 205 _ rfl b 0 (H0.map uv) _ rfl (fun w' hw'=>(FF.out.below (InB.below hw') hb3).rangeH) Tryz.underlying205 rfl iH.out ?_;first|go_big_quiet_step (fail)|quiet_step (fail)
 first|go_big_quiet_step (fail)|quiet_step (fail)
 first|go_big_quiet_step (fail)|quiet_step (fail)
 first|go_big_quiet_step (fail)|quiet_step (fail)
 first|go_big_quiet_step (fail)|quiet_step (fail)
 refine wpQuiet_nil ?_;intro K hK;simp only [Region.wanted,if_true];go_wp2_with (go_at_call 192;refine QW.out.mono ?_;rintro e w4 ⟨rfl,hb4⟩);have hb4':Below w3.heap.size w3 w4:=((Below.refl _ _).drew).trans hb4;refine hK _ _ (inB_of hb4') ?_;clear hK K;refine wpQuiet_nil ?_;intro K hK;simp only [Region.wanted,if_true];have F4:=Lib.hid ((FF.out.drewN 1).below hb4 hb3);have QP:=Lib.hid (press_any H0 (wordsL D2) M true w4 F4.out.hl (length_wordsL D2) (by have:=hb64;omega));go_wp2_with (go_at_call 191;refine QP.out.mono ?_;rintro e w5 ⟨rfl,hb5⟩);have hb5':Below w3.heap.size w3 w5:=hb4'.trans (hb5.mono hb4'.size);refine hK _ _ (inB_of hb5') ?_;clear hK K;refine wpQuiet_nil ?_;have F5:=Lib.hid (F4.out.below hb5 (Nat.lt_of_lt_of_le hb3 hb4'.size));have hl5:(pressL H0 (wordsL D2) M true).length=8:=by rw [length_pressL];exact F4.out.hl
 have hsV:=Lib.hid (show(Tryz.prog.info? 205).map (·.size)=some (vals (pressL H0 (wordsL D2) M true)).size by rw [size_vals,hl5];exact size_eight);have thr:=Lib.hid (F5.out.there 0 (vals (pressL H0 (wordsL D2) M true)).size (by rw [size_vals,hl5];omega));have HL5:=Lib.hid hl5;clear hl5;go_upto_region 4 with(refine wpList_store_mid rfl 205 _ _ rfl b 0 (vals (pressL H0 (wordsL D2) M true)) rfl rfl thr.out hsV.out (oneCell_vals _) ?_);refine wp_abs (fun w6=>FoldAt b (pressL H0 (wordsL D2) M true) M D2 t w6∧Only b w5 w6) ⟨F5.out.setH _ HL5.out,setCells_only b _ 0 w5⟩ (fun w6 hw6=>?_);obtain⟨F6,o6⟩:=hw6;have g6:=Lib.hid (gtrans (gtrans hg3 (grown_below hb5')) (grown_only o6));rw [←HFO.out]at F6;have hl8:(foldL h0 T).length=8:=by rw [HFO.out];exact HL5.out
 clear HFO QP QW F4 F5 hsV thr HL5 hb4 hb4' hb5 hb5' o6 FF hg3 iH cN;obtain⟨V,hV⟩: ∃V,V=foldL h0 T:=⟨_,rfl⟩;rw [←hV]at F6 hl8;have HV:=Lib.hid hV;clear hV;have hb6:b<w6.heap.size:=lt_of_heap F6.blk;obtain⟨i0,hi,hz0,hz1,hz2⟩:=info_parts info_byte;have HI:=Lib.hid hi;have HZ0:=Lib.hid hz0;have HZ1:=Lib.hid hz1;have HZ2:=Lib.hid hz2;clear hi hz0 hz1 hz2;go_upto_region 5 with(refine wpList_make_own _ rfl _ _ 91 rfl w6.heap.size 5 i0 (.int .u8 0) 1 Tryz.underlying91 HI.out HZ0.out HZ1.out .i64 .i64 32 32 rfl rfl rfl (by rw [HZ2.out];decide) (by decide) (Nat.le_refl _) ?_);intro w7 own7 hg7;have F7:FoldAt b V M D2 t w7:=F6.kept (hg7.block b hb6 (by simp));have bel7:Below w6.heap.size w6 w7:=(Below.refl _ _).grown hg7 (Nat.le_refl _) (by simp);have iV:=Lib.hid (show(Tryz.prog.info? 205).map (·.size)=some (V.map uv).length by rw [List.length_map,hl8];exact size_eight);clear F6 hg7;generalize hB:w6.heap.size=B at*;go_upto_region 6 with(refine wpList_load_mid rfl 205 _ rfl b 0 rfl (V.map uv) _ F7.rangeH Tryz.underlying205 rfl iV.out ?_);have HB:=Lib.hid hB;clear hB iV F7;go_loopw [3,45] (fun v i wr=> ∃k:Nat,k≤8∧i=.int .i64 k∧Below B w6 wr∧wr.ownsRow B 5 1 v (4*k) (Lib.byteCells (outB (V.take k)))) (fun _ i _=>8-(intOf i).toNat);case atStart=>exact⟨0,by omega,rfl,bel7,own7⟩
 case round=>
 obtain⟨k,hk,rfl,bel,own⟩:=hrel;clear bel7 own7;by_cases hlt:k<8
 ·have hd8:decide ((k:Int)<8)=true:=by simp;omega
  have hkl:k<V.length:=by omega
  have hidx:(V.map uv)[k]?=some (.int .u32 (un V[k])):=by simp [hkl,uv]
  have hix: ∀w,(Instr.index 205 (.agg (V.map uv).toArray) (.int .i64 (k:Int))).run Tryz.prog w=.ok (.int .u32 (un V[k])) w:=fun w=>run_index_row w 205 180 8 _ .i64 .u32 k _ Tryz.underlying205 hlt size_one Tryz.underlying180 (by simpa using hidx);go_upto_region 8 with(fail);have hst:=Lib.hid (outB_take V k hkl);have hfc:=Lib.hid (fourB_cells V[k]);have hx0:=un_nonneg V[k];have hx1:=un_lt V[k];have hol:(outB (V.take k)).length=4*k:=by rw [length_outB,List.length_take];omega
  have HOL:=Lib.hid hol;have hBw:B≤wr.heap.size:=by have:=bel.size;rw [HB.out]at this;exact this
  clear hidx hix hd8 hol;generalize V[k]=y at*;generalize un y=x at*;go_upto_region 9 with(at_builtin;refine wpList_append_own _ rfl (.tmp 48) (.tmp 60) 91 rfl B 5 i0 (.int .u8 0) 1 1 Tryz.underlying91 HI.out HZ0.out HZ1.out HZ2.out rfl (by decide) u3 (4*k) _ rfl (own.alloc _) ⟨wr.heap.size,0,none⟩ 4 4 [.int .u8 (x%256),.int .u8 (x/256%256),.int .u8 (x/65536%256),.int .u8 (x/16777216)] rfl rfl ?c1 ?c2 ?c3 ?c4 ?c5 ?_);case c1=>exact news_new wr _ _ _ rfl
  case c2=>simp [Value.oneCell']
  case c3=>unfold maxLen;omega
  case c4=>omega
  case c5=>simp;omega
  intro v9 w9 own9 hg9 _;have bel9:Below B w6 w9:=(bel.alloc (by have:=bel.size;rw [HB.out]at this;exact this) _).grown hg9 (by have:=bel.size;rw [HB.out]at this;simp;omega) (fun q hq=>(own.lt q hq).1);rw [←hfc.out,show Lib.byteCells (outB (V.take k))++Lib.byteCells (fourB y)=Lib.byteCells (outB (V.take k)++fourB y)by simp [Lib.byteCells],←hst.out]at own9;have OWN9:=Lib.hid own9;have BEL9:=Lib.hid bel9;clear own9 bel9 own bel hg9 hfc;go_wp2_with fail;go_roundw;case rel=>exact⟨k+1,by omega,by go_num,BEL9.out,by rw [show 4* (k+1)=4*k+4 by omega];exact OWN9.out⟩
  case measure=>simp [intOf];omega
 have hd8:decide ((k:Int)<8)=false:=by simp;omega
 obtain rfl:k=8:=by omega
 rw [List.take_of_length_le (by omega)]at own;have hol:(outB V).length=32:=by rw [length_outB];omega
 obtain⟨g,cap,cur,rfl,hBg,hgh,hcap,hmax,hcs,htk⟩:=own.2.resolve_left (by rintro⟨_,h⟩;omega);have hrange:wr.rangeAt g 0 (Lib.byteCells (outB V)):=fun j v hj=>by
  have:=own.cells (g:=g) rfl j v hj;rw [show(⟨g,0,none⟩:Addr).add j=⟨g,0+j,none⟩by unfold Addr.add;split<;>simp_all]at this;exact this
 have HR:=Lib.hid hrange;clear hrange own hgh htk;go_wp2_with (refine wpList_bytes_back rfl _ 91 9 5 rfl Tryz.underlying91 Tryz.underlying5 Tryz.underlying9 g cap 32 (outB V) hol.symm rfl HR.out ?_);go_ret;refine⟨?_,gtrans g6.out (grown_below (HB.out▸bel))⟩;rw [←HV.out];rfl
def zeroD:Bytes:=List.replicate 64 0
def beginRow:Array Value:=(foldRow ivL 0 zeroD 0).toArray
theorem size_folding:(Tryz.prog.info? 208).map (·.size)=some 74:=by kernel_rfl
def zeroRow:Array Value:=(foldRow (List.replicate 8 0) 0 zeroD 0).toArray
theorem FoldAt.setW {b:Nat}{H:List U}{n:Nat}{D:Bytes}{t:Nat}{w:World}(h:FoldAt b H n D t w)(i:Nat)(hi:i<8)(x:U):FoldAt b (H.set i x) n D t (w.setCell ⟨b,i,none⟩ (.int .u32 (un x))):=by
 refine⟨?_,by rw [List.length_set];exact h.hl,h.dl⟩;rw [heap_setCell_same w b i _ _ _ h.blk];congr 2;have hl:=h.hl;simp only [foldRow,List.setIfInBounds_toArray];rw [List.set_append_left _ _ (by simp [hl];exact hi),List.map_set];rfl
theorem zero_folding: ∀w:World,(zeroValue 208).run Tryz.prog w=.ok (.agg zeroRow) w:=by
 intro w;have h:(Tryz.prog.info? 208).map (·.zero)=some (some (.agg zeroRow)):=by kernel_rfl
 cases hq:Tryz.prog.info? 208 with
 |none=>simp [hq]at h
 |
  some i=>
  have hz:i.zero=some (.agg zeroRow):=by simpa [hq] using h
  simp [zeroValue,typeInfo,hq,hz]
theorem begin_any(K:Bytes)(w:World)(hK:K.length≤64):
 Calls Tryz.prog 162 #[.string ⟨K.toArray⟩] w fun e w'=> ∃D t,e=.returned (.agg (foldRow (beginH K.length) 0 D t).toArray)∧MidL (keyPiece K) 0 t D∧(keyPiece K= []∨0<t)∧Below w.heap.size w w':=by
 have HK:=Lib.hid hK;have hsz:=size_mk K;clear hK;have hzf:=zero_folding;go_enter Tryz.func162,Tryz.ntmps162;have hsF:=Lib.hid (show(Tryz.prog.info? 208).map (·.size)=some beginRow.size by kernel_rfl);have hone:=Lib.hid (show beginRow.all (·.oneCell')=true by kernel_rfl);go_upto_region 2 with(first
  |(go_at_call 190;refine(start_any _).mono ?_;rintro e w1 ⟨rfl,hb1⟩)
  |(refine wpList_build_v rfl 208 _ rfl [(0,.agg (vals ivL))] rfl beginRow built_begin ?_)
  |(refine wpList_store_whole rfl rfl 208 _ _ rfl w1.heap.size zeroRow beginRow 208 rfl rfl (heap_at rfl) rfl hsF.out hone.out ?_;intro w2 ho2 hp2))
 have F2:FoldAt w1.heap.size ivL 0 zeroD 0 w2:=⟨hp2,rfl,rfl⟩;have b2:Below w.heap.size w w2:=(((Below.refl _ _).alloc (Nat.le_refl _) _).trans (hb1.mono (by simp))).trans (((Below.refl _ _).alloc (by have:=hb1.size;simp at this;omega) _).trans (ho2.below (by have:=hb1.size;simp at this;omega)));have hB1:w.heap.size<w1.heap.size:=by have:=hb1.size;simp at this;omega
 have hR:w2.heap[w.heap.size]?=some (.cells zeroRow 208 (0,0)):=ho2.keep (by omega) (heap_lt (bel_keep hb1 (by simp) (heap_at rfl)));generalize w1.heap.size=B at*;clear ho2 hp2 hb1;have c0:w2.cell? ⟨B,0,none⟩=some (.int .u32 (un (ivL.getD 0 0))):=F2.cell 0 (by omega);have f0:=F2.frozen 0;have x1:(K.length:Int)*256%4294967296=K.length*256:=by have:=HK.out;omega
 have r1:=Lib.hid (r_xor (ivL.getD 0 0) (0x01010020+BitVec.ofNat 32 (256*K.length)));have hxn:un (0x01010020+BitVec.ofNat 32 (256*K.length))=(16842784+(K.length:Int)*256)%4294967296:=by
  unfold un;rw [BitVec.toNat_add,BitVec.toNat_ofNat];show((((16842784+256*K.length%4294967296)%4294967296:Nat)):Int)=_;omega
 have hH:=Lib.hid (show beginH K.length=ivL.set 0 (ivL.getD 0 0 ^^^(0x01010020+BitVec.ofNat 32 (256*K.length)))from rfl);have r2:bits BinOp.xor IntKind.u32 (un (ivL.getD 0 0)) ((16842784+(K.length:Int)*256)%4294967296)=un (ivL.getD 0 0 ^^^(0x01010020+BitVec.ofNat 32 (256*K.length))):=by rw [←hxn];exact r1.out
 have R2:=Lib.hid r2;clear hxn r1 r2;generalize hx0:ivL.getD 0 0=x0 at*;go_upto_region 3 with(fail);rw [R2.out];refine wp_abs (fun w3=>FoldAt B (beginH K.length) 0 zeroD 0 w3∧Only B w2 w3) ⟨by rw [hH.out];exact F2.setW 0 (by omega) _,(Only.refl B w2).setCell _ _⟩ (fun w3 hw3=>?_);obtain⟨F3,o3⟩:=hw3;clear c0 f0 R2 hx0 x1 F2;have FF:=Lib.hid F3;clear F3
 go_upto_if 19 with(fail)
 go_cut [] (fun w'=> ∃D t,MidL (keyPiece K) 0 t D∧(keyPiece K= []∨0<t)∧FoldAt B (beginH K.length) 0 D t w'∧Only B w2 w');case first=>
  by_cases hK0:K= []
  ·subst hK0;go_wp2_with fail;go_meet;exact⟨zeroD,0,⟨rfl,by omega,rfl,rfl⟩,.inl rfl,FF.out,o3⟩
  ·have hpos:0<K.length:=List.length_pos_iff.2 hK0;have thr:w3.there B 9 (Nat.min (ByteArray.mk K.toArray).size 64):=fun j hj=>FF.out.there 9 64 (by omega) j (Nat.lt_of_lt_of_le hj (Nat.min_le_right _ _));have THR:=Lib.hid thr;clear thr;go_upto_region 5 with(refine wpList_copy_str rfl _ _ 91 9 rfl 5 Tryz.underlying91 size_byte B 9 64 64 ⟨K.toArray⟩ rfl rfl THR.out ?_);have hmin:Nat.min (ByteArray.mk K.toArray).size 64=K.length:=by rw [hsz];exact Nat.min_eq_left HK.out
   have hkp:keyPiece K=K++List.replicate (64-K.length) 0:=by unfold keyPiece;rw [if_neg hK0]
   have hkl:(keyPiece K).length=64:=by rw [hkp,List.length_append,List.length_replicate];have:=HK.out;omega
   have hkz:zeroD.take 0++(K++zeroD.drop (0+K.length))=keyPiece K:=by rw [hkp,zeroD,List.take_zero,List.nil_append,List.drop_replicate,Nat.zero_add]
   have hdt:List.take K.length (ByteArray.mk K.toArray).data.toList=K:=by simp
   rw [hmin,hdt];refine wp_abs (fun w4=>FoldAt B (beginH K.length) 0 (keyPiece K) 0 w4∧Only B w3 w4) ⟨by have:=FF.out.setD 0 K (by have:=HK.out;omega);rw [hkz]at this;exact this,setCells_only B _ _ _⟩ (fun w4 hw4=>?_);obtain⟨F4,o4⟩:=hw4;have c4:=F4.cellAt;have f4:=F4.frozen 73;have FF4:=Lib.hid F4;have HKL:=Lib.hid hkl;clear F4 hkz hkp hkl hmin hdt THR;go_wp2_with fail;go_meet;exact⟨keyPiece K,64,⟨HKL.out,by omega,HKL.out,by rw [List.take_of_length_le (by rw [HKL.out];exact Nat.le_refl _)];rfl⟩,.inr (by omega),FF4.out.setAt 64,(o3.trans o4).trans ((Only.refl B w4).setCell _ _)⟩
 case rest=>
  clear FF o3;obtain⟨D,t,m,h0t,F,o⟩:=hcut;obtain⟨row,hrow⟩: ∃row:Array Value,row=(foldRow (beginH K.length) 0 D t).toArray:=⟨_,rfl⟩;have hblk:=F.blk;rw [←hrow]at hblk;have hrs:row.size=74:=by rw [hrow];simp [length_foldRow F.hl F.dl]
  have hs:=Lib.hid (show(Tryz.prog.info? 208).map (·.size)=some row.size by rw [hrs];exact size_folding);have hone2:row.all (·.oneCell')=true:=by
   rw [hrow];refine all_oneCell_toArray (fun v hv=>?_);simp only [foldRow,Lib.byteCells,List.mem_append,List.mem_map,List.mem_cons,List.not_mem_nil,or_false]at hv;rcases hv with⟨x,_,rfl⟩|rfl|⟨x,_,rfl⟩|rfl<;>rfl
  have HO:=Lib.hid hone2;have HROW:=Lib.hid hrow;have HM:=Lib.hid m;have HT:=Lib.hid h0t;have hR2:wc.heap[w.heap.size]?=some (.cells zeroRow 208 (0,0)):=o.keep (by omega) hR;have bel:=Lib.hid (b2.trans (o.below (by omega:w.heap.size≤B)));have hzs:zeroRow.size=row.size:=by rw [hrs];rfl
  have HZS:=Lib.hid hzs;clear F hone2 m h0t hrow hrs hR o hzs;go_upto_region 6 with(fail);apply wp_region_lit;refine wpList_load_whole rfl 208 _ rfl B row _ _ _ rfl hblk Tryz.underlying208 rfl hs.out ?_;refine wpList_store_whole rfl rfl 208 _ _ rfl w.heap.size zeroRow row 208 rfl rfl hR2 HZS.out hs.out HO.out ?_;intro w6 ho hp;go_wp2_with fail;refine bodyPost_ret (results_cell_row rfl _ w6 w.heap.size _ _ _ _ rfl hp Tryz.underlying208 rfl hs.out) rfl ⟨D,t,?_,HM.out,HT.out,bel_only bel.out ho (Nat.le_refl _)⟩;rw [HROW.out]
def keyedD(K B:Bytes):Bytes:=if K.length≤32 then digestL K B else []
def keyedE(K:Bytes):Int:=if K.length≤32 then 0 else 3
theorem length_keyPiece(K:Bytes)(h:K.length≤64):(keyPiece K).length≤64:=by
 unfold keyPiece;split;·simp
 ·simp;omega
theorem oneCell_foldRow(H:List U)(n:Nat)(D:Bytes)(t:Nat):(foldRow H n D t).toArray.all (·.oneCell')=true:=by
 refine all_oneCell_toArray (fun v hv=>?_);simp only [foldRow,Lib.byteCells,List.mem_append,List.mem_map,List.mem_cons,List.not_mem_nil,or_false]at hv;rcases hv with⟨x,_,rfl⟩|rfl|⟨x,_,rfl⟩|rfl<;>rfl
def fourN(n:Nat):Bytes:= [UInt8.ofNat (n/16777216%256),UInt8.ofNat (n/65536%256),UInt8.ofNat (n/256%256),UInt8.ofNat (n%256)]
theorem fourN_cells(n:Nat):Lib.byteCells (fourN n)= [.int .u8 ((n:Int)/16777216%256),.int .u8 ((n:Int)/65536%256),.int .u8 ((n:Int)/256%256),.int .u8 ((n:Int)%256)]:=by
 have e: ∀n:Nat,n<256→((UInt8.ofNat n).toNat:Int)=(n:Int):=by
  intro n h;simp [Nat.mod_eq_of_lt h]
 unfold fourN Lib.byteCells;simp only [List.map_cons,List.map_nil];rw [e _ (by omega),e _ (by omega),e _ (by omega),e _ (by omega)];have h1:((n/16777216%256:Nat):Int)=(n:Int)/16777216%256:=by omega
 have h2:((n/65536%256:Nat):Int)=(n:Int)/65536%256:=by omega
 have h3:((n/256%256:Nat):Int)=(n:Int)/256%256:=by omega
 have h4:((n%256:Nat):Int)=(n:Int)%256:=by omega
 rw [h1,h2,h3,h4]
theorem four8_any(n:Nat)(w:World)(hn:n<9223372036854775808):
 Calls Tryz.prog 164 #[.int .i64 (n:Int)] w fun e w'=>e=.returned (.string ⟨(fourN n).toArray⟩)∧Below w.heap.size w w':=by
 have hc:=Lib.hid (fourN_cells n);have h0:(0:Int)≤n:=by omega
 have h1:(n:Int)<9223372036854775808:=by omega
 go_enter Tryz.func164,Tryz.ntmps164;go_wp2_with (refine wpList_bytes_back rfl _ 91 9 5 rfl Tryz.underlying91 Tryz.underlying5 Tryz.underlying9 w.heap.size 4 4 (fourN n) rfl rfl (by rw [hc.out];exact rangeAt_block (heap_at rfl)) ?_);go_ret;exact⟨rfl,(Below.refl _ _).alloc (Nat.le_refl _) _⟩
theorem refFour_any(n:Nat)(w:World)(hn:n<9223372036854775808):
 Calls Tryz.prog 184 #[.int .i64 (n:Int)] w fun e w'=>e=.returned (.string ⟨(fourN n).toArray⟩)∧Below w.heap.size w w':=by
 have hc:=Lib.hid (fourN_cells n);have h0:(0:Int)≤n:=by omega
 have h1:(n:Int)<9223372036854775808:=by omega
 go_enter Tryz.func184,Tryz.ntmps184;go_wp2_with (refine wpList_bytes_back rfl _ 91 9 5 rfl Tryz.underlying91 Tryz.underlying5 Tryz.underlying9 w.heap.size 4 4 (fourN n) rfl rfl (by rw [hc.out];exact rangeAt_block (heap_at rfl)) ?_);go_ret;exact⟨rfl,(Below.refl _ _).alloc (Nat.le_refl _) _⟩
structure StrsAt(w:World)(oa:Option Addr)(Ps:List Bytes):Prop where
 cells: ∀i (h:i<Ps.length),∃a,oa=some a∧a.block<w.heap.size∧w.cell? (a.add i)=some (.string ⟨Ps[i].toArray⟩)
theorem add_block(a:Addr)(i:Nat):(a.add i).block=a.block:=by unfold Addr.add;split<;>rfl
theorem StrsAt.below {w w1:World}{oa:Option Addr}{Ps:List Bytes}(h:StrsAt w oa Ps)(hb:Below w.heap.size w w1):StrsAt w1 oa Ps:=⟨fun i hi=>by
 obtain⟨a,h1,h2,h3⟩:=h.cells i hi;exact⟨a,h1,Nat.lt_of_lt_of_le h2 hb.size,by rw [hb.cell (by rw [add_block];exact h2)];exact h3⟩⟩
def joinK(Xs:List Bytes)(k:Nat):Bytes:=(Xs.take k).flatMap fun x=>fourN x.length++x
def joinL(L:Bytes)(Ps:List Bytes):Bytes:=(L::Ps).flatMap fun x=>fourN x.length++x
theorem joinK_next(Xs:List Bytes)(k:Nat)(h:k<Xs.length):joinK Xs (k+1)=joinK Xs k++fourN Xs[k].length++Xs[k]:=by
 unfold joinK;rw [List.take_succ_eq_append_getElem h,List.flatMap_append,List.flatMap_singleton,List.append_assoc]
theorem joinK_all(L:Bytes)(Ps:List Bytes):joinK (L::Ps) (Ps.length+1)=joinL L Ps:=by
 unfold joinK joinL;rw [List.take_of_length_le (by simp)]
theorem length_joinK_le(Xs:List Bytes)(k:Nat):(joinK Xs k).length≤(Xs.flatMap fun x=>fourN x.length++x).length:=by
 conv=>rhs;rw [←List.take_append_drop k Xs,List.flatMap_append,List.length_append]
 exact Nat.le_add_right _ _
theorem TakenAt.below {b:Nat}{h0:List U}{T:Bytes}{w w1:World}{B:Nat}(h:TakenAt b h0 T w)(hb:Below B w w1)(hlt:b<B):TakenAt b h0 T w1:=by
 obtain⟨p,t,D,m,h1,F⟩:=h.ex;exact⟨p,t,D,m,h1,F.below hb hlt⟩
theorem TakenAt.lt {b:Nat}{h0:List U}{T:Bytes}{w:World}(h:TakenAt b h0 T w):b<w.heap.size:=by
 obtain⟨p,t,D,m,h1,F⟩:=h.ex;exact lt_of_heap F.blk
theorem tag_any(L:Bytes)(oa:Option Addr)(Ps:List Bytes)(cap:Nat)(w:World)(hs:StrsAt w oa Ps)(hlen:(joinL L Ps).length<9223372036854775808)(hnl:Ps.length<9223372036854775807):
 Calls Tryz.prog 113 #[.string ⟨L.toArray⟩,.slice oa Ps.length cap] w fun e w'=>e=.returned (.string ⟨(digestL [] (joinL L Ps)).toArray⟩)∧Below w.heap.size w w':=by
 have HS:=Lib.hid hs;have HL:=Lib.hid hlen;clear hs hlen;have hzf:=zero_folding;have hH8:=Lib.hid (show(beginH 0).length=8 by simp [beginH,ivL]);have HDD:=Lib.hid (show digestL [] (joinL L Ps)=outB (foldL (beginH 0) (joinL L Ps))from rfl);go_enter Tryz.func113,Tryz.ntmps113;go_upto_region 1 with(fail);go_upto_region 2 with(first
  |(
   go_at_call 162;refine(begin_any [] _ (by decide)).mono ?_;rintro e w1 ⟨D,t,rfl,hm,h0t,hb1⟩;have hdl:=hm.dl;have hrs:(foldRow (beginH 0) 0 D t).toArray.size=74:=by simp [length_foldRow hH8.out hdl]
   have hsz:=Lib.hid (show(Tryz.prog.info? 208).map (·.size)=some (foldRow (beginH 0) 0 D t).toArray.size by rw [hrs];exact size_folding);have hzs:=Lib.hid (show zeroRow.size=(foldRow (beginH 0) 0 D t).toArray.size by rw [hrs];rfl);have hon:=Lib.hid (oneCell_foldRow (beginH 0) 0 D t);clear hrs)
  |(refine wpList_store_whole rfl rfl 208 _ _ rfl w1.heap.size zeroRow (foldRow (beginH 0) 0 D t).toArray 208 rfl rfl (heap_at rfl) hzs.out hsz.out hon.out ?_;intro w2 ho2 hp2))
 have b2:Below w.heap.size w w2:=(hb1.alloc hb1.size _).trans (ho2.below hb1.size);have hb:w.heap.size≤w1.heap.size:=hb1.size;generalize w1.heap.size=b at*;have TK:TakenAt b (beginH 0) (joinK (L::Ps) 0) w2:=⟨0,t,D,hm,h0t,⟨hp2,hH8.out,hdl⟩⟩;clear hb1 ho2 hp2 hm h0t hdl hon hzs hsz;generalize beginH 0=h0 at*;go_upto_region 3 with(fail);go_loopw [6] (fun i wr=> ∃(k:Nat) (z:Int),k≤Ps.length+1∧z=(k:Int)-1∧i=.int .i64 z∧TakenAt b h0 (joinK (L::Ps) k) wr∧Below w.heap.size w wr) (fun i _=>(Ps.length+1-(intOf i+1)).toNat);case atStart=>exact⟨0, -1,by omega,rfl,rfl,TK,b2⟩
 case round=>
 obtain⟨k,z,hk,hz,rfl,tk,bel⟩:=hrel;clear TK b2;by_cases hlt:k<Ps.length+1
 ·have hd:decide (z<(Ps.length:Int))=true:=by simp;omega
  have hzl:z<(Ps.length:Int):=by omega
  obtain⟨x,hx⟩: ∃x,x=(L::Ps)[k]'(by simpa using hlt):=⟨_,rfl⟩
  go_upto_if 17 with(fail)
  go_cut [7] (fun v w'=>v=.string ⟨x.toArray⟩∧w'=wr);case first=>
   cases k with
   |
    zero=>
    have hz0:z= -1:=by omega
    subst hz0;have hxl:x=L:=hx;subst hxl;clear hx hz;go_wp2_with fail;go_meet;exact⟨rfl,rfl⟩
   |
    succ m=>
    have hzm:z=(m:Int):=by omega
    subst hzm;have hm2:m<Ps.length:=by omega
    obtain⟨a,hoa,hab,hac⟩:=(HS.out.below bel).cells m hm2;have hxm:x=Ps[m]:=hx;rw [←hxm]at hac;subst hoa;clear hz hx hxm;go_wp2_with fail;go_meet;exact⟨rfl,rfl⟩
  case rest=>
  obtain⟨rfl,hw0⟩:=hcut;replace hw0:=hw0.symm;subst hw0;have hjl:=length_joinK_le (L::Ps) (k+1);have hjn:=joinK_next (L::Ps) k (by simpa using hlt);rw [←hx]at hjn;have hjl2:(joinK (L::Ps) k).length+4+x.length<9223372036854775808:=by
   have h1:=HL.out;rw [hjn,List.length_append,List.length_append]at hjl;have h4:(fourN x.length).length=4:=rfl;rw [h4]at hjl;exact Nat.lt_of_le_of_lt hjl h1
  have HJN:=Lib.hid hjn;have HX:=Lib.hid hx;have HZ:=Lib.hid hz;have hzm:(-1:Int)≤z:=by omega
  have hzu:z+1≤9223372036854775807:=by omega
  clear hjl hjn hx hz;have hxs:=size_mk x;have QF:=Lib.hid (four8_any x.length wr (by omega));have hf4:=Lib.hid (show(fourN x.length).length=4 from rfl);go_upto_region 9 with(first
   |(
    go_at_call 164;refine QF.out.mono ?_;rintro e w3 ⟨rfl,hb3⟩;have tk3:=tk.below hb3 tk.lt;have QT:=Lib.hid (take_any b h0 (joinK (L::Ps) k) (fourN x.length) w3 tk3 (by rw [hf4.out];omega)))
   |(go_at_call 163;refine QT.out.mono ?_;rintro e w4 ⟨rfl,tk4,hg4⟩))
  have bel4:Below w.heap.size w w4:=(bel.trans (hb3.mono bel.size)).grown hg4 (Nat.le_trans bel.size hb3.size) (fun k hk=>by cases hk;exact hb);have QT2:=Lib.hid (take_any b h0 (joinK (L::Ps) k++fourN x.length) x w4 tk4 (by rw [List.length_append,hf4.out];omega));clear QT QF tk3 tk hb3 hg4 bel tk4;go_wp2_with (go_at_call 163;refine QT2.out.mono ?_;rintro e w5 ⟨rfl,tk5,hg5⟩);rw [←HJN.out]at tk5;have bel5:=bel4.grown hg5 bel4.size (fun k hk=>by cases hk;exact hb);clear QT2 HJN hg5 bel4;go_roundw;case rel=>exact⟨k+1,z+1,by omega,by have:=HZ.out;omega,by go_num,tk5,bel5⟩
  case measure=>have:=HZ.out;simp [intOf];omega
 ·have hd:decide (z<(Ps.length:Int))=false:=by simp;omega
  have hzl: ¬z<(Ps.length:Int):=by omega
  obtain rfl:k=Ps.length+1:=by omega
  rw [joinK_all]at tk;have QE:=Lib.hid (end_any b h0 (joinL L Ps) wr tk HL.out);go_wp2_with (go_at_call 165;refine QE.out.mono ?_;rintro e w4 ⟨rfl,hg4⟩);go_ret;refine⟨?_,bel.grown hg4 bel.size (fun k hk=>by cases hk;exact hb)⟩;rw [HDD.out];rfl
theorem Tag_any(L:Bytes)(oa:Option Addr)(Ps:List Bytes)(cap:Nat)(w:World)(hs:StrsAt w oa Ps)(hlen:(joinL L Ps).length<9223372036854775808)(hnl:Ps.length<9223372036854775807):
 Calls Tryz.prog 65 #[.string ⟨L.toArray⟩,.slice oa Ps.length cap] w fun e w'=>e=.returned (.string ⟨(digestL [] (joinL L Ps)).toArray⟩)∧Below w.heap.size w w':=by
 have Q:=Lib.hid (tag_any L oa Ps cap w hs hlen hnl);clear hs hlen;go_enter Tryz.func65,Tryz.ntmps65;go_wp2_with (go_at_call 113;refine Q.out.mono ?_;rintro e w1 ⟨rfl,hb1⟩);go_ret;exact⟨rfl,hb1⟩
end Go.Proofs.YtnohcdpnnhmpfaaGreatDoor
