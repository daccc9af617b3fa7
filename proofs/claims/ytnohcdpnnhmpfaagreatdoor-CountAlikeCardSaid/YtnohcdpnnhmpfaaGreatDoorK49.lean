/-
  Chapter 13, CountAlike: the law. Printed by tools/genalw.py.
-/
import Derived.Test.YtnohcdpnnhmpfaaGreatDoorK43
import Derived.Test.YtnohcdpnnhmpfaaGreatDoorK47
import Derived.Test.YtnohcdpnnhmpfaaGreatDoorK48
set_option linter.unusedVariables false
set_option linter.unusedSimpArgs false
set_option maxRecDepth 100000
set_option maxHeartbeats 8000000
namespace Go.Proofs.YtnohcdpnnhmpfaaGreatDoor.TR
open Go.RowKit ML FRP AU CT FM
theorem ctN_fits {c:CTest}{N:List Int}{lots:Bytes}(h:c.Fits lots):(ctN c N).Fits lots:=⟨h.nm,fun o ho=>by
 obtain⟨i,_,rfl⟩:=List.mem_map.1 ho;rw [List.getD_eq_getElem?_getD];rcases Nat.lt_or_ge i.toNat c.op.length with hl|hl;·rw [List.getElem?_eq_getElem hl];exact h.op _ (List.getElem_mem hl)
 ·rw [List.getElem?_eq_none hl];show 0<_;omega,h.lots⟩
theorem countAlike_any(c:CTest)(P:List (Value×List Int))(lots:Bytes)(O N:List Int)(oa:Option Addr)(cap:Nat)(ob:Option Addr)(cb:Nat)(oo:Option Addr)(co:Nat)(on:Option Addr)(cn:Nat)(w:World)(hs:StrsAt w oa c.op)(hP:PsAt w ob P)(hf:c.Fits lots)(hnl:c.op.length<9223372036854775807)(hiO:IsAt w oo O)(hiN:IsAt w on N)(hlO:O.length<9223372036854775807)(hlN:N.length<9223372036854775807):
 Calls Tryz.prog 7 #[.agg (c.cells oa cap).toArray,.slice ob P.length cb,.string ⟨lots.toArray⟩,.slice oo O.length co,.slice on N.length cn] w fun e w'=>e=.returned (.bool true)∧Below w.heap.size w w':=by
 have hC:(c.cells oa cap).toArray= #[.string ⟨c.nm.toArray⟩,.slice oa c.op.length cap,.int .i64 c.rl,.int .i64 c.se,.int .i64 c.mo]:=rfl;rw [hC];have QT:=Lib.hid (fun w1 h1 h2=>elAny_any c P lots oa cap ob cb w1 h1 h2 hf hnl);have QTW:=Lib.hid (fun w1 (h1:StrsAt w1 oa c.op) (h2:c.op.length≤12)=>lawTwice_any c lots oa cap w1 h1 hf h2);have HF:=Lib.hid hf;have HS:=Lib.hid hs;have HP:=Lib.hid hP;have HIO:=Lib.hid hiO;have HIN:=Lib.hid hiN;clear hs hP hf hC hiO hiN;go_enter Tryz.func7,Tryz.ntmps7;go_upto_region 1 with(fail);generalize hB:w.heap.size=B at*;refine wp_abs (fun w1=>Below B w w1∧w1.heap[B]?=some (.cells #[.string ⟨c.nm.toArray⟩,.slice oa c.op.length cap,.int .i64 c.rl,.int .i64 c.se,.int .i64 c.mo] 24 (0,0))) ⟨by rw [←hB];exact(Below.refl _ _).alloc (Nat.le_refl _) _,by rw [←hB];exact heap_at rfl⟩ (fun w1 hw1=>?_);have HB:=Lib.hid hB;have B1:=Lib.hid hw1.1;have X1:=Lib.hid hw1.2;have hBs:B<w1.heap.size:=lt_of_heap hw1.2;clear hB hw1;go_upto_region 3 with(first
  |go_big_skip
  |(go_at_call 22;refine((alive_any w1)).mono ?_;rintro e w2 ⟨rfl,b2⟩;dsimp only;have B2:=Lib.hid (B1.out.trans (b2.mono (Nat.le_of_lt hBs)));have X2:=Lib.hid (bel_keep b2 hBs X1.out);clear b2))
 have hB2:B<w2.heap.size:=lt_of_heap X2.out;have Q1:=Lib.hid (QT.out w2 (HS.out.below (HB.out.symm▸B2.out)) (HP.out.below (HB.out.symm▸B2.out)));clear B1 X1 hBs QT;go_upto_region 4 with(first
  |go_big_skip
  |((with_reducible refine at_load 24 ?_);refine wpList_load_g ?_ 24 (.tmp 5) ?_ B _ _ _ _ ?_ X2.out Tryz.underlying24 ?_ size_contest ?_;rfl;rfl;rfl;rfl)
  |(go_at_call 20;refine(Q1.out).mono ?_;rintro e w3 hg;obtain⟨v,E,rfl,b3,hnil⟩:=hg.nil;dsimp only;have HG:=Lib.hid hg;have B3:=Lib.hid (B2.out.trans (b3.mono (Nat.le_of_lt hB2)));have X3:=Lib.hid (bel_keep b3 hB2 X2.out);have HNIL:=Lib.hid hnil;clear hg b3 hnil))
 have hB3:B<w3.heap.size:=lt_of_heap X3.out;have hBw3:B≤w3.heap.size:=Nat.le_of_lt hB3;clear Q1 X2 B2 hB2;by_cases hE:E=0;case neg=>
  obtain rfl:=HNIL.out hE;have d0:(E !=0)=true:=by rw [bne_iff_ne];exact hE
  clear HG HNIL hE;go_wp2_with fail;go_ret;exact⟨rfl,by rw [HB.out];exact B3.out⟩
 subst hE;have hp0:=HG.out.pr0;obtain⟨hw,hfe⟩:=prE_ok hp0;obtain⟨hn1,hn12,_,_,_,_⟩:=wrongC_no hw;obtain⟨hA,h4096⟩:=filE_ok hfe;have HA:=Lib.hid hA;have S3:=Lib.hid (HS.out.below (HB.out.symm▸B3.out));have QA:=Lib.hid (fun oa L cap (h:IsAt w3 oa L) hl=>lawAll_any oa L cap w3 h hl);have HO3:=Lib.hid (HIO.out.below (HB.out.symm▸B3.out));have HN3:=Lib.hid (HIN.out.below (HB.out.symm▸B3.out));have QTW:=Lib.hid (QTW.out w3 S3.out hn12);have k1:w3.cell? ⟨B,1,none⟩=some (.slice oa c.op.length cap):=cell_of_row w3 B 1 _ _ _ X3.out;clear hp0 hw hfe hA HNIL;by_cases ho:O.length=P.length;case neg=>
  have e0:((O.length:Int) !=(P.length:Int))=true:=by rw [bne_iff_ne];omega
  have e1:(O.length !=P.length)=true:=by rw [bne_iff_ne];exact ho
  clear ho HG;go_wp2_with (first
   |go_big_skip
   |((with_reducible refine at_load 24 ?_);refine wpList_load_g ?_ 24 (.tmp 5) ?_ B _ _ _ _ ?_ X3.out Tryz.underlying24 ?_ size_contest ?_;rfl;rfl;rfl;rfl)
   |(go_at_call 23;refine(QA.out _ _ _ ?_ ?_).mono ?_;(· first|exact HO3.out|exact HN3.out);(· first|exact hlO|exact hlN);rintro e w4 ⟨rfl,rfl⟩;dsimp only)
   |(go_at_call 24;refine(QTW.out).mono ?_;rintro e w4 ⟨rfl,b4⟩;dsimp only;have B4:=Lib.hid (B3.out.trans (b4.mono hBw3));have X4:=Lib.hid (bel_keep b4 hB3 X3.out);have W34:=Lib.hid b4;clear b4))
  go_ret;exact⟨rfl,by rw [HB.out];exact B3.out⟩
 have e0:((O.length:Int) !=(P.length:Int))=false:=by rw [bne_eq_false_iff_eq];omega
 have e1:(O.length !=P.length)=false:=by rw [bne_eq_false_iff_eq];exact ho
 have HLO:=Lib.hid ho;clear ho;by_cases hn:N.length=c.op.length;case neg=>
  have e2:((N.length:Int) !=(c.op.length:Int))=true:=by rw [bne_iff_ne];omega
  have e3:(N.length !=c.op.length)=true:=by rw [bne_iff_ne];exact hn
  clear hn HG;go_wp2_with (first
   |go_big_skip
   |((with_reducible refine at_load 24 ?_);refine wpList_load_g ?_ 24 (.tmp 5) ?_ B _ _ _ _ ?_ X3.out Tryz.underlying24 ?_ size_contest ?_;rfl;rfl;rfl;rfl)
   |(go_at_call 23;refine(QA.out _ _ _ ?_ ?_).mono ?_;(· first|exact HO3.out|exact HN3.out);(· first|exact hlO|exact hlN);rintro e w4 ⟨rfl,rfl⟩;dsimp only)
   |(go_at_call 24;refine(QTW.out).mono ?_;rintro e w4 ⟨rfl,b4⟩;dsimp only;have B4:=Lib.hid (B3.out.trans (b4.mono hBw3));have X4:=Lib.hid (bel_keep b4 hB3 X3.out);have W34:=Lib.hid b4;clear b4))
  go_ret;exact⟨rfl,by rw [HB.out];exact B3.out⟩
 have e2:((N.length:Int) !=(c.op.length:Int))=false:=by rw [bne_eq_false_iff_eq];omega
 have e3:(N.length !=c.op.length)=false:=by rw [bne_eq_false_iff_eq];exact hn
 have HLN:=Lib.hid hn;clear hn;cases hao:allB O with
 |
  false=>
  clear HG;go_wp2_with (first
   |go_big_skip
   |((with_reducible refine at_load 24 ?_);refine wpList_load_g ?_ 24 (.tmp 5) ?_ B _ _ _ _ ?_ X3.out Tryz.underlying24 ?_ size_contest ?_;rfl;rfl;rfl;rfl)
   |(go_at_call 23;refine(QA.out _ _ _ ?_ ?_).mono ?_;(· first|exact HO3.out|exact HN3.out);(· first|exact hlO|exact hlN);rintro e w4 ⟨rfl,rfl⟩;dsimp only)
   |(go_at_call 24;refine(QTW.out).mono ?_;rintro e w4 ⟨rfl,b4⟩;dsimp only;have B4:=Lib.hid (B3.out.trans (b4.mono hBw3));have X4:=Lib.hid (bel_keep b4 hB3 X3.out);have W34:=Lib.hid b4;clear b4))
  go_ret;exact⟨rfl,by rw [HB.out];exact B3.out⟩
 |true=>
 have NO:=Lib.hid (HLO.out▸allB_names hao:Names P.length O);cases han:allB N with
 |
  false=>
  clear HG;go_wp2_with (first
   |go_big_skip
   |((with_reducible refine at_load 24 ?_);refine wpList_load_g ?_ 24 (.tmp 5) ?_ B _ _ _ _ ?_ X3.out Tryz.underlying24 ?_ size_contest ?_;rfl;rfl;rfl;rfl)
   |(go_at_call 23;refine(QA.out _ _ _ ?_ ?_).mono ?_;(· first|exact HO3.out|exact HN3.out);(· first|exact hlO|exact hlN);rintro e w4 ⟨rfl,rfl⟩;dsimp only)
   |(go_at_call 24;refine(QTW.out).mono ?_;rintro e w4 ⟨rfl,b4⟩;dsimp only;have B4:=Lib.hid (B3.out.trans (b4.mono hBw3));have X4:=Lib.hid (bel_keep b4 hB3 X3.out);have W34:=Lib.hid b4;clear b4))
  go_ret;exact⟨rfl,by rw [HB.out];exact B3.out⟩
 |true=>
 have NN:=Lib.hid (HLN.out▸allB_names han:Names c.op.length N);cases htw:twiceB c lots with
 |
  true=>
  rw [htw]at QTW;clear htw HG;go_wp2_with (first
   |go_big_skip
   |((with_reducible refine at_load 24 ?_);refine wpList_load_g ?_ 24 (.tmp 5) ?_ B _ _ _ _ ?_ X3.out Tryz.underlying24 ?_ size_contest ?_;rfl;rfl;rfl;rfl)
   |(go_at_call 23;refine(QA.out _ _ _ ?_ ?_).mono ?_;(· first|exact HO3.out|exact HN3.out);(· first|exact hlO|exact hlN);rintro e w4 ⟨rfl,rfl⟩;dsimp only)
   |(go_at_call 24;refine(QTW.out).mono ?_;rintro e w4 ⟨rfl,b4⟩;dsimp only;have B4:=Lib.hid (B3.out.trans (b4.mono hBw3));have X4:=Lib.hid (bel_keep b4 hB3 X3.out);have W34:=Lib.hid b4;clear b4))
  go_ret;exact⟨rfl,by rw [HB.out];exact B4.out⟩
 |false=>
 have APT:=Lib.hid (twiceB_apt htw);rw [htw]at QTW;clear htw
 as_aux_lemma=>
 go_upto_region 8 with(first
  |go_big_skip
  |((with_reducible refine at_load 24 ?_);refine wpList_load_g ?_ 24 (.tmp 5) ?_ B _ _ _ _ ?_ X3.out Tryz.underlying24 ?_ size_contest ?_;rfl;rfl;rfl;rfl)
  |(go_at_call 23;refine(QA.out _ _ _ ?_ ?_).mono ?_;(· first|exact HO3.out|exact HN3.out);(· first|exact hlO|exact hlN);rintro e w4 ⟨rfl,rfl⟩;dsimp only)
  |(go_at_call 24;refine(QTW.out).mono ?_;rintro e w4 ⟨rfl,b4⟩;dsimp only;have B4:=Lib.hid (B3.out.trans (b4.mono hBw3));have X4:=Lib.hid (bel_keep b4 hB3 X3.out);have W34:=Lib.hid b4;clear b4))
 have hB4:B<w4.heap.size:=lt_of_heap X4.out;clear QA QTW k1 e0 e1 e2 e3 X3 S3 B3 hBw3 hB3 hao han HO3 HN3;clear QTW
 as_aux_lemma=>
 go_upto_region 9 with(first
  |go_big_skip
  |((with_reducible refine at_load 24 ?_);refine wpList_load_g ?_ 24 (.tmp 5) ?_ B _ _ _ _ ?_ X4.out Tryz.underlying24 ?_ size_contest ?_;rfl;rfl;rfl;rfl)
  |(refine wpList_store_whole rfl rfl 24 _ _ rfl w4.heap.size #[.string ⟨#[]⟩,.slice none 0 0,.int .i64 0,.int .i64 0,.int .i64 0] #[.string ⟨c.nm.toArray⟩,.slice oa c.op.length cap,.int .i64 c.rl,.int .i64 c.se,.int .i64 c.mo] 24 rfl rfl (heap_at rfl) rfl size_contest (by simp [Value.oneCell']) ?_;intro w5 ho hp))
 have b5:Below w4.heap.size w4 w5:=bel_only ((Below.refl _ _).alloc (Nat.le_refl _) _) ho (Nat.le_refl _);have X5:=Lib.hid (bel_keep b5 hB4 X4.out);have W35:=Lib.hid (W34.out.trans (b5.mono W34.out.size));have B5:=Lib.hid (B4.out.trans (b5.mono (Nat.le_of_lt hB4)));have D5:=Lib.hid hp;have h34:w3.heap.size≤w4.heap.size:=W34.out.size;clear ho hp b5 X4 B4 W34;generalize w4.heap.size=D at*;have k2:w5.cell? ⟨D,1,none⟩=some (.slice oa c.op.length cap):=cell_of_row w5 D 1 _ _ _ D5.out;have f2:w5.frozen? ⟨D,1,none⟩=false:=frozen_of_row w5 D 1 _ _ D5.out;go_upto_region 10 with(fail);have o6:Only D w5 (w5.setCell ⟨D,1,none⟩ (.slice none 0 0)):=(Only.refl D w5).setCell 1 _;have hDB: ¬B=D:=by omega
 have b6:Below D w5 (w5.setCell ⟨D,1,none⟩ (.slice none 0 0)):=bel_only (Below.refl _ _) o6 (Nat.le_refl _);refine wp_abs (fun w6=>Below D w5 w6∧w6.heap[B]?=some (.cells #[.string ⟨c.nm.toArray⟩,.slice oa c.op.length cap,.int .i64 c.rl,.int .i64 c.se,.int .i64 c.mo] 24 (0,0))∧w6.heap[D]?=some (.cells #[.string ⟨c.nm.toArray⟩,.slice none 0 0,.int .i64 c.rl,.int .i64 c.se,.int .i64 c.mo] 24 (0,0))) ⟨b6,(o6.block B hDB).trans X5.out,heap_setCell_same w5 D 1 _ _ (.slice none 0 0) D5.out⟩ (fun w6 hw6=>?_);have X6:=Lib.hid hw6.2.1;have D6:=Lib.hid hw6.2.2;have B6:=Lib.hid (B5.out.trans (hw6.1.mono (Nat.le_of_lt hB4)));have W36:=Lib.hid (W35.out.trans (hw6.1.mono h34));have HDw:=Lib.hid (lt_of_heap hw6.2.2);clear hw6 b6 o6 k2 f2 X5 D5 B5 W35 hDB;go_upto_block 0 with(fail)
 as_aux_lemma=>
 have HSB:=Lib.hid (fun w' (h:Below D w6 w')=>(show Below w.heap.size w w' from HB.out.symm▸B6.out.trans (h.mono (Nat.le_of_lt hB4))));refine aBlk0_any c N oa cap on cn B D w6 _ NN.out hn12 hB4 D6.out X6.out (fun w' h=>HS.out.below (HSB.out w' h)) (fun w' h=>HIN.out.below (HSB.out w' h)) (fun _ _ d _ _ h=>by cases d<;>exact h) ?_;rintro _ _ _ _ _ _ _ _ _ _ _ _ _ _ _ _ w7 od cd hb7 hd7 hs7;dsimp only [Exit.then];have B7:=Lib.hid (B6.out.trans (hb7.mono (Nat.le_of_lt hB4)));have W37:=Lib.hid (W36.out.trans (hb7.mono h34));have X7:=Lib.hid (bel_keep hb7 hB4 X6.out);have D7:=Lib.hid hd7;have SD7:=Lib.hid hs7;clear hb7 hd7 hs7 HSB B6 W36 X6 D6 HDw;go_upto_block 2 with(fail)
 as_aux_lemma=>
 have HS7:=Lib.hid (show Below w.heap.size w w7 from HB.out.symm▸B7.out);refine aBlk2_any c.op.length N O P on oo ob cn co cb w7 _ NN.out NO.out hn12 h4096 HA.out (HP.out.below HS7.out) (HIN.out.below HS7.out) (HIO.out.below HS7.out) (fun _ _ d _ _ h=>by cases d<;>exact h) ?_;rintro _ _ _ _ _ _ _ _ _ _ _ _ _ _ _ _ _ _ _ _ _ _ _ _ _ _ _ _ _ w8 L ol cl hb8 hp8 hm8;dsimp only [Exit.then];have hD7:D<w7.heap.size:=lt_of_heap D7.out;have OTH:=Lib.hid (oth_of NN.out NO.out HA.out hm8);have B8:=Lib.hid (B7.out.trans (hb8.mono (by omega)));have W38:=Lib.hid (W37.out.trans (hb8.mono (by omega)));have X8:=Lib.hid (bel_keep hb8 (by omega) X7.out);have D8:=Lib.hid (bel_keep hb8 hD7 D7.out);have SD8:=Lib.hid (SD7.out.below hb8);have P8:=Lib.hid hp8;clear hb8 hp8 hm8 HS7 B7 W37 X7 D7 SD7 hD7 HA;have hcl:(ctN c N).op.length=N.length:=List.length_map ..
 have Q8:=Lib.hid (show Calls Tryz.prog 20 #[.agg #[.string ⟨c.nm.toArray⟩,.slice od N.length cd,.int .i64 c.rl,.int .i64 c.se,.int .i64 c.mo],.slice ol L.length cl,.string ⟨lots.toArray⟩] w8 (ElGot (ctN c N) L lots w8)from by
  have:=elAny_any (ctN c N) L lots od cd ol cl w8 SD8.out P8.out (ctN_fits HF.out) (by rw [hcl,HLN.out];exact hnl);rw [hcl]at this;exact this)
 have hD8:D<w8.heap.size:=lt_of_heap D8.out;clear hcl P8;go_upto_region 28 with(first
  |go_big_skip
  |((with_reducible refine at_load 24 ?_);refine wpList_load_g ?_ 24 (.tmp 13) ?_ D _ _ _ _ ?_ D8.out Tryz.underlying24 ?_ size_contest ?_;rfl;rfl;rfl;rfl)
  |(go_at_call 20;refine(Q8.out).mono ?_;rintro e w9 hg;obtain⟨v',E',rfl,b9,hnil⟩:=hg.nil;obtain⟨rfl,L2,o1,o2,c1,c2,rfl,rfl,i1,i2,hL2,hl2⟩:=alike OTH.out APT.out HG.out hg;dsimp only;have B9:=Lib.hid (B8.out.trans (b9.mono (by omega)));have X9:=Lib.hid (bel_keep b9 (by omega) X8.out);have D9:=Lib.hid (bel_keep b9 hD8 D8.out);have SD9:=Lib.hid (SD8.out.below b9);have I1:=Lib.hid (i1.below (W38.out.trans (b9.mono W38.out.size)));have I2:=Lib.hid i2;have HL2:=Lib.hid hL2;have hl2':=hl2;clear b9 i1 i2 hL2 hl2 hg hnil HG))
 clear Q8 X8 D8 SD8 B8 W38 OTH APT hD8;have e4:((L2.length:Int) !=(L2.length:Int))=false:=by simp
 have e5:(L2.length !=L2.length)=false:=by simp
 go_upto_block 6 with(fail)
 as_aux_lemma=>
 refine aBlk6_any c N L2 oa cap od cd o1 o2 c1 c2 B D w9 _ NN.out hn12 HL2.out hl2' X9.out D9.out (HS.out.below (HB.out.symm▸B9.out)) SD9.out I1.out I2.out (fun _ _ d _ _ h=>by cases d<;>exact h) ?_;rintro _ _ _ _ _ _ _ _ _ _ _ _ _ _ _ _ _ _ _ _ _ _ _ w10 hb10;dsimp only [Exit.then];go_wp2_with fail;go_ret;exact⟨rfl,by rw [HB.out];exact B9.out.trans (hb10.mono (by have:=lt_of_heap X9.out;omega))⟩
end Go.Proofs.YtnohcdpnnhmpfaaGreatDoor.TR
