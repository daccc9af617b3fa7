/-
  Chapter 13: count.Elect, under every rule. Printed by tools/genelect.py.
-/
import Derived.Test.YtnohcdpnnhmpfaaGreatDoorK34
import Derived.Test.YtnohcdpnnhmpfaaGreatDoorK29
set_option linter.unusedVariables false
set_option linter.unusedSimpArgs false
set_option maxRecDepth 100000
set_option maxHeartbeats 16000000
namespace Go.Proofs.YtnohcdpnnhmpfaaGreatDoor.TR
open Go.RowKit ML FRP AU CT FM
theorem wpList_field {P:Program}{ops:Array Oper}{rest:List Oper}{o:Oper}{a:Act}{w:World}{Q:Exit→Act→World→Prop}(hgd:o.guard=none)(t:TypeId)(x:Operand)(f:Nat)(ho:o.op=.field t x f)(v:Value)(hr: ∀w,(Instr.field t (a.eval x) f).run P w=.ok v w)
 (h:wpList P ops Q rest (a.put o.dst v) w):wpList P ops Q (o::rest) a w:=by
 refine wpList_plain hgd fun K hK=>?_;unfold Oper.wp execOp;simp only [ho,Sem.run_bind,hr,Result.andThen_ok];exact hK _ _ h
theorem field_el(x y:ByteArray)(vR vE:Value)(w:World):(Instr.field 31 (.agg #[.string x,.string y,vR,vE]) 2).run Tryz.prog w=.ok vE w:=by kernel_rfl
theorem elAny_any(c:CTest)(P:List (Value×List Int))(lots:Bytes)(oa:Option Addr)(cap:Nat)(ob:Option Addr)(cb:Nat)(w:World)(hs:StrsAt w oa c.op)(hP:PsAt w ob P)(hf:c.Fits lots)(hnl:c.op.length<9223372036854775807):
 Calls Tryz.prog 20 #[.agg #[.string ⟨c.nm.toArray⟩,.slice oa c.op.length cap,.int .i64 c.rl,.int .i64 c.se,.int .i64 c.mo],.slice ob P.length cb,.string ⟨lots.toArray⟩] w (ElGot c P lots w):=by
 have QD:=Lib.hid (show ∀(w:World) (h:StrsAt w oa c.op),Calls Tryz.prog 28 #[.agg #[.string ⟨c.nm.toArray⟩,.slice oa c.op.length cap,.int .i64 c.rl,.int .i64 c.se,.int .i64 c.mo],.string ⟨lots.toArray⟩] w (DrawGot c lots oa cap w)from fun w h=>draw_any c lots oa cap w h hf hnl)
 have QM:=Lib.hid (show ∀(T:List Int) (w:World) (ot:Option Addr) (ct:Nat) (h:StrsAt w oa c.op) (h2:IsAt w ot T) (h3:T.length=c.op.length),Calls Tryz.prog 56 #[.agg #[.string ⟨c.nm.toArray⟩,.slice oa c.op.length cap,.int .i64 c.rl,.int .i64 c.se,.int .i64 c.mo],.slice ot c.op.length ct,.string ⟨lots.toArray⟩] w (MostGot c lots T w)from fun T w ot ct h h2 h3=>by
  have:=most_any c T lots oa cap ot ct w h h2 hf hnl (by omega);rw [h3]at this;exact this)
 have HS:=Lib.hid hs;have HP:=Lib.hid hP;have HPR:=Lib.hid (show prE c P=if wrongC c=true then 2 else filE c.op.length P from rfl);clear hs hP hf;unfold DrawGot at QD;cases hW:wrongC c with
 |
  true=>
  rw [hW]at QD HPR;have HE:=Lib.hid (HPR.out.trans (if_pos rfl));clear hW HPR QM;go_enter Tryz.func20,Tryz.ntmps20;go_upto_region 1 with(fail);generalize hB:w.heap.size=B at*;refine wp_abs (fun w1=>Below B w w1∧w1.heap[B]?=some (.cells #[.string ⟨c.nm.toArray⟩,.slice oa c.op.length cap,.int .i64 c.rl,.int .i64 c.se,.int .i64 c.mo] 24 (0,0))) ⟨by rw [←hB];exact(Below.refl _ _).alloc (Nat.le_refl _) _,by rw [←hB];exact heap_at rfl⟩ (fun w1 hw1=>?_);have HB:=Lib.hid hB;have B1:=Lib.hid hw1.1;have X1:=Lib.hid hw1.2;have hBs:B<w1.heap.size:=lt_of_heap hw1.2;have Q1:=Lib.hid (QD.out w1 (HS.out.below (HB.out.symm▸B1.out)));clear hB hw1 QD;go_wp2_with (first
   |go_big_skip
   |((with_reducible refine at_load 24 ?_);refine wpList_load_g ?_ 24 (.tmp 3) ?_ B _ _ _ _ ?_ X1.out Tryz.underlying24 ?_ size_contest ?_;rfl;rfl;rfl;rfl)
   |(go_at_call 28;refine(Q1.out).mono ?_;rintro e w3 ⟨b3,h3⟩;rw [if_pos rfl]at h3;subst h3;dsimp only;have B3:=Lib.hid b3;clear b3)
   |(refine wpList_store_whole rfl rfl 62 _ _ rfl w3.heap.size #[.string ⟨#[]⟩,.slice none 0 0,.int .i64 0,.int .i64 0,.int .i64 0,.slice none 0 0,.slice none 0 0] #[.string ⟨#[]⟩,.slice none 0 0,.int .i64 0,.int .i64 0,.int .i64 0,.slice none 0 0,.slice none 0 0] 62 rfl rfl (heap_at rfl) rfl size_drawn (seven_a _ _ _ _ _ _ _ rfl rfl rfl rfl rfl rfl rfl) ?_;intro w4 ho hp))
  go_ret2
  have b4:Below w3.heap.size w3 w4:=bel_only ((Below.refl _ _).alloc (Nat.le_refl _) _) ho (Nat.le_refl _);exact ElGot.bad HE.out (by decide) (by rw [HB.out];exact B1.out.trans ((B3.out.mono (Nat.le_of_lt hBs)).trans (b4.mono (by have:=B3.out.size;omega))))
 |
  false=>
  rw [hW]at QD HPR;obtain⟨hn1,hn12,_,_,hs1,hsn⟩:=wrongC_no hW;have HE:=Lib.hid (HPR.out.trans (if_neg (by decide)));have QF:=Lib.hid (fun w1 h=>filled_any c c.rl P oa cap ob cb w1 h hn12 hn1);clear hW HPR;unfold FilGot at QF;go_enter Tryz.func20,Tryz.ntmps20;go_upto_region 1 with(fail);generalize hB:w.heap.size=B at*;refine wp_abs (fun w1=>Below B w w1∧w1.heap[B]?=some (.cells #[.string ⟨c.nm.toArray⟩,.slice oa c.op.length cap,.int .i64 c.rl,.int .i64 c.se,.int .i64 c.mo] 24 (0,0))) ⟨by rw [←hB];exact(Below.refl _ _).alloc (Nat.le_refl _) _,by rw [←hB];exact heap_at rfl⟩ (fun w1 hw1=>?_);have HB:=Lib.hid hB;have B1:=Lib.hid hw1.1;have X1:=Lib.hid hw1.2;have hBs:B<w1.heap.size:=lt_of_heap hw1.2;have Q1:=Lib.hid (QD.out w1 (HS.out.below (HB.out.symm▸B1.out)));clear hB hw1 QD;go_upto_region 2 with(first
   |go_big_skip
   |((with_reducible refine at_load 24 ?_);refine wpList_load_g ?_ 24 (.tmp 3) ?_ B _ _ _ _ ?_ X1.out Tryz.underlying24 ?_ size_contest ?_;rfl;rfl;rfl;rfl)
   |(go_at_call 28;refine(Q1.out).mono ?_;rintro e w3 ⟨b3,h3⟩;rw [if_neg (by decide)]at h3;obtain⟨O,Pl,oO,cO,oP,cP,hO,hPl,hIO,hIP,rfl⟩:=h3;dsimp only;have B3:=Lib.hid b3;have HO:=Lib.hid hO;have HPL:=Lib.hid hPl;have HIO:=Lib.hid hIO;have HIP:=Lib.hid hIP;clear hO hPl hIO hIP b3)
   |(refine wpList_store_whole rfl rfl 62 _ _ rfl w3.heap.size #[.string ⟨#[]⟩,.slice none 0 0,.int .i64 0,.int .i64 0,.int .i64 0,.slice none 0 0,.slice none 0 0] #[.string ⟨c.nm.toArray⟩,.slice oa c.op.length cap,.int .i64 c.rl,.int .i64 c.se,.int .i64 c.mo,.slice oO O.length cO,.slice oP Pl.length cP] 62 rfl rfl (heap_at rfl) rfl size_drawn (seven_a _ _ _ _ _ _ _ rfl rfl rfl rfl rfl rfl rfl) ?_;intro w4 ho hp))
  have b4:Below w3.heap.size w3 w4:=bel_only ((Below.refl _ _).alloc (Nat.le_refl _) _) ho (Nat.le_refl _);have bw4:Below w1.heap.size w1 w4:=B3.out.trans (b4.mono B3.out.size);have B4:=Lib.hid (B1.out.trans (bw4.mono (Nat.le_of_lt hBs)));have X4:=Lib.hid (bel_keep bw4 hBs X1.out);have hB4:B<w4.heap.size:=lt_of_heap X4.out;have HP4:=Lib.hid (HP.out.below (HB.out.symm▸B4.out));have Q4:=Lib.hid (QF.out w4 HP4.out);have IOr:=Lib.hid (HIO.out.below b4);have IP:=Lib.hid (HIP.out.below b4);have RD:=Lib.hid hp;have hDlt:w3.heap.size<w4.heap.size:=lt_of_heap hp;have k2:w4.cell? ⟨B,2,none⟩=some (.int .i64 c.rl):=cell_of_row _ _ _ _ _ _ X4.out;have HOL:=Lib.hid HO.out.len;have hOl12:O.length≤12:=by rw [HO.out.len];exact hn12
  generalize w3.heap.size=D at*;clear ho hp b4 bw4 X1 B1 hBs Q1 QF B3 HIO HIP
  as_aux_lemma=>
  by_cases h0:filE c.op.length P=0;case neg=>
   have hd:(filE c.op.length P !=0)=true:=by rw [bne_iff_ne];exact h0
   have H0:=Lib.hid h0;clear h0;go_wp2_with (first
    |go_big_skip
    |((with_reducible refine at_load 24 ?_);refine wpList_load_g ?_ 24 (.tmp 3) ?_ B _ _ _ _ ?_ X4.out Tryz.underlying24 ?_ size_contest ?_;rfl;rfl;rfl;rfl)
    |(go_at_call 29;refine(Q4.out).mono ?_;rintro e w5 ⟨b5,h5⟩;rw [if_neg H0.out]at h5;subst h5;dsimp only;have B5:=Lib.hid (B4.out.trans (b5.mono (Nat.le_of_lt hB4)));clear b5))
   go_ret2
   exact ElGot.bad HE.out H0.out (by rw [HB.out];exact B5.out)
  have HE0:=Lib.hid (HE.out.trans h0);obtain⟨hA,h4096⟩:=filE_ok h0;have HFE:=Lib.hid h0;have HAL:=Lib.hid hA;have HKA:=Lib.hid (allN_filter (keepP (c.rule c.rl)) hA);have hK4:(P.filter (keepP (c.rule c.rl))).length≤4096:=Nat.le_trans (List.length_filter_le _ _) h4096;have HKD:=Lib.hid (show kept c P=P.filter (keepP (c.rule c.rl))from rfl);rw [←HKD.out]at Q4 HKA hK4;clear h0 hA h4096 HE;obtain⟨K,hK⟩: ∃K,K=kept c P:=⟨_,rfl⟩;rw [←hK]at Q4 HKA hK4;have HKK:=Lib.hid hK;clear hK HKD;have QP:=Lib.hid (fun w1 ob cb h=>pairs_any c.op.length K ob cb w1 h HKA.out hn12 hK4);have QA:=Lib.hid (fun w1 F h=>paths_any c.op.length (pairM K) ⟨F,0,none⟩ c.op.length w1 h hn12 (fun i j _ _=>by unfold pairM;omega));go_upto_region 7 with(first
   |go_big_skip
   |((with_reducible refine at_load 24 ?_);refine wpList_load_g ?_ 24 (.tmp 3) ?_ B _ _ _ _ ?_ X4.out Tryz.underlying24 ?_ size_contest ?_;rfl;rfl;rfl;rfl)
   |(go_at_call 29;refine(Q4.out).mono ?_;rintro e w5 ⟨b5,h5⟩;rw [if_pos HFE.out]at h5;obtain⟨oo,co,hp5,rfl⟩:=h5;dsimp only;have B5:=Lib.hid (B4.out.trans (b5.mono (Nat.le_of_lt hB4)));have P5:=Lib.hid hp5;have X5:=Lib.hid (bel_keep b5 hB4 X4.out);have R5:=Lib.hid (bel_keep b5 hDlt RD.out);have IO5:=Lib.hid (IOr.out.below b5);have IP5:=Lib.hid (IP.out.below b5);clear b5 hp5))
  clear Q4 HFE X4 B4 HP4 k2 RD IOr IP;have hB5:B<w5.heap.size:=lt_of_heap X5.out;have hD5:D<w5.heap.size:=lt_of_heap R5.out;have k2:w5.cell? ⟨B,2,none⟩=some (.int .i64 c.rl):=cell_of_row _ _ _ _ _ _ X5.out;clear hB4 hDlt;by_cases h3:c.rl=3;case pos=>
   as_aux_lemma=>
   have r3:(c.rl==3)=true:=by rw [beq_iff_eq];exact h3
   have hR: ∀p∈K,Rnk c.op.length p.2:=fun p hp=>by
    rw [HKK.out]at hp;unfold kept at hp;obtain⟨h1,h2⟩:=List.mem_filter.1 hp;have h4:fitsB (c.rule c.rl) p.2=true:=by
     have h5:(fitsB (c.rule c.rl) p.2&&somePos p.2)=true:=h2;rw [Bool.and_eq_true]at h5;exact h5.1
    exact rnk_of (c:=c.rule c.rl) (by show ranksB c.rl=true;rw [h3];rfl) (HAL.out p h1) h4
   have hol:=HO.out.len;have QT:=Lib.hid (transfer_any c oa cap oO cO oP cP O Pl K oo co w5 IO5.out IP5.out P5.out hn1 hn12 hK4 hR ⟨hs1,hsn⟩ hol (by rw [HPL.out.1];exact hol) (fun x=>HO.out.mem) (fun k hk=>HPL.out.2 k hk) (ord_nodup HO.out));have HOK:=Lib.hid (fun(w':World) (R:List Rd) (S:St) (oE:Option Addr) (n cE:Nat) (hb:Below w.heap.size w w') hR hD hn hI=>ElGot.tr (P:=P) (lots:=lots) (R:=R) (S:=S) (oE:=oE) (n:=n) (cE:=cE) HE0.out h3 hb HO.out hR hD hn hI);rw [←HKK.out]at HOK;clear hR hol HKK HAL HKA QP QA h3;go_wp2_with (first
    |go_big_skip
    |((with_reducible refine at_load 62 ?_);refine wpList_load_g ?_ 62 (.tmp 8) ?_ D _ _ _ _ ?_ R5.out Tryz.underlying62 ?_ size_drawn ?_;rfl;rfl;rfl;rfl)
    |(go_at_call 30;refine(QT.out).mono ?_;rintro e w6 hgot;obtain⟨KK,G,R,S,vR,vE,CS,hru,hen,rfl,hrds,b6⟩:=hgot;obtain⟨oR,cR,oE,cE,rfl,rfl,_,hie⟩:=rds_read hrds;dsimp only;have B6:=Lib.hid (B5.out.trans (b6.mono (Nat.le_of_lt hB5)));have HRU:=Lib.hid hru;have HEN:=Lib.hid hen;have IE:=Lib.hid hie;clear b6 hru hen hrds hie)
    |(refine wpList_field rfl 31 _ 2 rfl _ (fun w=>field_el _ _ _ _ w) ?_))
   go_ret2
   exact HOK.out _ R S _ _ _ (by rw [HB.out];exact B6.out) HRU.out HEN.out (length_nats _).symm IE.out
  have r3:(c.rl==3)=false:=by rw [beq_eq_false_iff_ne];exact h3
  clear IP5 HPL HAL;by_cases h4:c.rl=4;case pos=>
   as_aux_lemma=>
   have r4:(c.rl==4)=true:=by rw [beq_iff_eq];exact h4
   have HOK:=Lib.hid (fun(w':World) (W:Mx) (i:Nat) (oo:Option Addr) (co:Nat) (hb:Below w.heap.size w w') hS hF hI=>ElGot.pr (P:=P) (lots:=lots) (W:=W) (i:=i) (oo:=oo) (co:=co) HE0.out h4 hb HO.out hS hF hI);rw [←HKK.out]at HOK;clear h3 h4 HKK QM;have k1:w5.cell? ⟨B,1,none⟩=some (.slice oa c.op.length cap):=cell_of_row _ _ _ _ _ _ X5.out;go_upto_region 12 with(first
    |go_big_skip
    |(go_at_call 53;refine(QP.out w5 oo co P5.out).mono ?_;rintro e w6 ⟨F,gs,rfl,hm6,hb6⟩;dsimp only)
    |(go_at_call 52;refine(QA.out w6 F hm6.read).mono ?_;rintro e w7 ⟨G,hs7,W,rfl,hm7,hst7,hb7⟩;dsimp only))
   have M7:=Lib.hid hm7.read;have ST7:=Lib.hid hst7;have B7:=Lib.hid (B5.out.trans ((hb6.trans (hb7.mono hb6.size)).mono (Nat.le_of_lt hB5)));have R7:=Lib.hid (bel_keep hb7 (Nat.lt_of_lt_of_le hD5 hb6.size) (bel_keep hb6 hD5 R5.out));have IO7:=Lib.hid ((IO5.out.below hb6).below hb7);have hB7:B≤w7.heap.size:=Nat.le_trans (Nat.le_of_lt hB5) (Nat.le_trans hb6.size hb7.size);clear hm6 hb6 hm7 hst7 hb7 B5 R5 IO5 P5 X5 k1 k2 QP QA hB5 hD5;have hbA:Below w7.heap.size w7 (w7.alloc (.cells #[.slice (some ⟨G,0,none⟩) c.op.length c.op.length] 25)):=(Below.refl _ _).alloc (Nat.le_refl _) _;have hpb:(w7.alloc (.cells #[.slice (some ⟨G,0,none⟩) c.op.length c.op.length] 25)).cell? ⟨w7.heap.size,0,none⟩=some (.slice (some ⟨G,0,none⟩) c.op.length c.op.length):=cell_of_row _ _ 0 _ _ _ (heap_at rfl);refine wp_abs (fun w8=>Below B w w8∧Below w7.heap.size w7 w8∧w8.cell? ⟨w7.heap.size,0,none⟩=some (.slice (some ⟨G,0,none⟩) c.op.length c.op.length)) ⟨B7.out.trans (hbA.mono hB7),hbA,hpb⟩ (fun w8 hw8=>?_);have B8:=Lib.hid hw8.1;have M8:=Lib.hid (M7.out.below hw8.2.1);have R8:=Lib.hid (bel_keep hw8.2.1 (lt_of_heap R7.out) R7.out);have IO8:=Lib.hid (IO7.out.below hw8.2.1);have K8:=Lib.hid hw8.2.2;have hPl:w7.heap.size<w8.heap.size:=by
    have:=hw8.2.2;unfold World.cell? at this;cases h:w8.heap[w7.heap.size]? with
    |none=>rw [h]at this;cases this
    |some o=>exact lt_of_heap h
   clear hw8 hbA hpb M7 R7 IO7 B7;generalize w7.heap.size=Pb at*;have hD8:D<w8.heap.size:=lt_of_heap R8.out;have hB8:B≤w8.heap.size:=Nat.le_trans hB7 (Nat.le_of_lt hPl);clear hB7
   as_aux_lemma=>
   have k5:w8.cell? ⟨D,5,none⟩=some (.slice oO O.length cO):=cell_of_row _ _ _ _ _ _ R8.out;go_wp2_with fail;clear k5;have HOB:=Lib.hid (show ∀x∈O,0≤x∧x<(c.op.length:Int)from fun x hx=>HO.out.mem.1 hx);go_loopw [58] (fun v wr=> ∃k:Nat,v=.int .i64 k∧k≤O.length∧(∀x∈O.take k,O.any (above W x.toNat)=true)∧Below w8.heap.size w8 wr) (fun v _=>O.length-(intOf v).toNat);case atStart=>exact⟨0,rfl,Nat.zero_le _,(fun x hx=>by simp at hx),Below.refl _ _⟩
   case round=>
   obtain⟨k,rfl,hk,hbt,hb⟩:=hrel;have HBT:=Lib.hid hbt;have BR:=Lib.hid hb;have hs8:=hb.size;clear hbt hb;by_cases hlt:k<O.length;case neg=>
    exfalso;obtain⟨i,hi⟩:=ST7.out.top_ex (by omega);have hiO:(i:Int)∈O:=HO.out.mem.2 ⟨by omega,by have:=hi.1;omega⟩;have h1:=HBT.out (i:Int) (by rw [List.take_of_length_le (by omega)];exact hiO);rw [Int.toNat_natCast,above_top HOB.out hi]at h1;cases h1
   have dk:decide ((k:Int)<(O.length:Int))=true:=decide_eq_true (by omega);have dk2:decide (k<O.length)=true:=decide_eq_true hlt;have dki:(k:Int)<(O.length:Int):=by omega
   obtain⟨a,hoa,hab,hac⟩:=(IO8.out.below BR.out).cells k hlt;have HTK:=Lib.hid (show O.take (k+1)=O.take k++ [O[k]]from List.take_succ_eq_append_getElem hlt);have hxb:=HOB.out _ (List.getElem_mem hlt);subst hoa;generalize O[k]=x at*;obtain⟨i,rfl⟩: ∃i:Nat,x=i:=⟨x.toNat,by omega⟩;have hin:i<c.op.length:=by omega
   clear hxb;go_upto_region 15 with(fail);have hbA:Below wr.heap.size wr (wr.alloc (.cells #[.int .i64 (i:Int)] 3)):=(Below.refl _ _).alloc (Nat.le_refl _) _;have hib:(wr.alloc (.cells #[.int .i64 (i:Int)] 3)).cell? ⟨wr.heap.size,0,none⟩=some (.int .i64 (i:Int)):=cell_of_row _ _ 0 _ _ _ (heap_at rfl);refine wp_abs (fun w9=>Below w8.heap.size w8 w9∧w9.cell? ⟨wr.heap.size,0,none⟩=some (.int .i64 (i:Int))) ⟨BR.out.trans (hbA.mono hs8),hib⟩ (fun w9 hw9=>?_);have B9:=Lib.hid hw9.1;have k6:=hw9.2;have K6:=Lib.hid hw9.2;have k5:w9.cell? ⟨D,5,none⟩=some (.slice (some a) O.length cO):=cell_of_row _ _ _ _ _ _ (bel_keep hw9.1 hD8 R8.out);have K9:=Lib.hid ((hw9.1.cell (p:=⟨Pb,0,none⟩) hPl).trans K8.out);clear hw9 hbA hib BR hs8 hab hac;generalize wr.heap.size=Ib at*;have QC:=Lib.hid (containsAbove_any c.op.length i W ⟨G,0,none⟩ c.op.length Pb Ib (some a) O cO w9 (IO8.out.below B9.out) HOB.out hOl12 (M8.out.below B9.out) hn12 hin K9.out K6.out);cases hab:O.any (above W i)with
   |
    true=>
    rw [hab]at QC
    have HBT2:=Lib.hid (show ∀x∈O.take (k+1),O.any (above W x.toNat)=true by
     rw [HTK.out];intro x hx;rcases List.mem_append.1 hx with h|h;·exact HBT.out x h
     ·rw [List.mem_singleton.1 h,Int.toNat_natCast];exact hab)
    clear hab;go_wp2_with (first
     |go_big_skip
     |(go_at_call 54;refine(QC.out).mono ?_;rintro e w10 ⟨rfl,m,rfl⟩;dsimp only))
    go_roundw;case rel=>exact⟨k+1,by go_num,by omega,HBT2.out,ML.bel_drewN B9.out m⟩
    case measure=>simp [intOf];omega
   |
    false=>
    rw [hab]at QC;have HT:=Lib.hid (firstTop_of HOB.out (top_of_any hin (fun j hj=>HO.out.mem.2 ⟨by omega,by omega⟩) hab) hlt HTK.out HBT.out);clear hab;go_wp2_with (first
     |go_big_skip
     |(go_at_call 54;refine(QC.out).mono ?_;rintro e w10 ⟨rfl,m,rfl⟩;dsimp only))
    go_ret2
    exact HOK.out _ W i _ _ (by rw [HB.out];exact(B8.out.trans ((ML.bel_drewN B9.out m).mono hB8)).alloc (by have:=B9.out.size;exact Nat.le_trans hB8 this) _) ST7.out HT.out (isAt_lone (heap_at rfl))
  have r4:(c.rl==4)=false:=by rw [beq_eq_false_iff_ne];exact h4
  have HOK:=Lib.hid (fun(w':World) (v:Value) (E:Int) (hb:Below w.heap.size w w') hme=>ElGot.ms (P:=P) (lots:=lots) (v:=v) (E:=E) HE0.out h3 h4 hb hme);rw [←HKK.out]at HOK;clear h3 h4 HKK QP QA IO5 R5 hD5 HO HOL hOl12
  as_aux_lemma=>
  have k1:w5.cell? ⟨B,1,none⟩=some (.slice oa c.op.length cap):=cell_of_row _ _ _ _ _ _ X5.out;obtain⟨i0,hi,hz0,hz1,hz2⟩:=info_parts info_int1;have HI:=Lib.hid hi;have HZ0:=Lib.hid hz0;have HZ1:=Lib.hid hz1;have HZ2:=Lib.hid hz2;clear hi hz0 hz1 hz2;go_upto_region 19 with(refine wpList_make_row _ rfl _ _ 29 rfl 3 i0 (.int .i64 0) Tryz.underlying29 HI.out HZ0.out HZ1.out rfl .i64 .i64 c.op.length rfl rfl (by rw [HZ2.out];omega) (by omega) ?_);have hbA:Below w5.heap.size w5 (w5.alloc (.cells (madeCells #[Value.int .i64 0] c.op.length) 3)):=(Below.refl _ _).alloc (Nat.le_refl _) _;have hrA:(w5.alloc (.cells (madeCells #[Value.int .i64 0] c.op.length) 3)).heap[w5.heap.size]?=some (.cells (ivals (totL c.op.length [])).toArray 3 (0,0)):=by rw [heap_at rfl,elMade_row]
  generalize hM:w5.heap.size=M at*;refine wp_abs (fun w6=>Below M w5 w6∧w6.heap[M]?=some (.cells (ivals (totL c.op.length [])).toArray 3 (0,0))) ⟨hbA,hrA⟩ (fun w6 hw6=>?_);have HM:=Lib.hid hM;have B6:=Lib.hid hw6.1;have T6:=Lib.hid hw6.2;clear hw6 hbA hrA hM k1 HI HZ0 HZ1 HZ2
  as_aux_lemma=>
  go_wp2_with fail;go_loopw [76] (fun v wr=> ∃k:Nat,v=.int .i64 k∧k≤K.length∧Below M w5 wr∧wr.heap[M]?=some (.cells (ivals (totL c.op.length (K.take k))).toArray 3 (0,0))) (fun v _=>K.length-(intOf v).toNat);case atStart=>exact⟨0,rfl,Nat.zero_le _,B6.out,T6.out⟩
  case round=>
  clear B6 T6;obtain⟨k,rfl,hk,hb,ht⟩:=hrel;have B7:=Lib.hid hb;have T7:=Lib.hid ht;clear hb ht;by_cases hlt:k<K.length;case neg=>
   have dk:decide ((k:Int)<(K.length:Int))=false:=decide_eq_false (by omega);have dk2:decide (k<K.length)=false:=decide_eq_false hlt;obtain rfl:k=K.length:=by omega
   rw [List.take_length]at T7;have X7:=Lib.hid (bel_keep B7.out hB5 X5.out);have BW:=Lib.hid (B5.out.trans (B7.out.mono (Nat.le_of_lt hB5)));have hTL:=totL_len c.op.length K;have Q7:=Lib.hid (QM.out (totL c.op.length K) wr (some ⟨M,0,none⟩) c.op.length (HS.out.below (HB.out.symm▸BW.out)) (elRow_isAt T7.out) hTL);clear hTL hlt;go_wp2_with (first
    |go_big_skip
    |((with_reducible refine at_load 24 ?_);refine wpList_load_g ?_ 24 (.tmp 3) ?_ B _ _ _ _ ?_ X7.out Tryz.underlying24 ?_ size_contest ?_;rfl;rfl;rfl;rfl)
    |(go_at_call 56;refine(Q7.out).mono ?_;rintro e w8 hms;obtain⟨v,E,rfl,hme,b8⟩:=MostGot.fin hms;dsimp only;have B8:=Lib.hid b8;have M8:=Lib.hid hme;clear b8 hme hms))
   go_ret2
   exact HOK.out _ _ _ (by rw [HB.out];exact BW.out.trans (B8.out.mono (by have:=BW.out.size;rw [HB.out]at this;exact this))) M8.out
  have dk:decide ((k:Int)<(K.length:Int))=true:=decide_eq_true (by omega);have dk2:decide (k<K.length)=true:=decide_eq_true hlt;have hki:(k:Int)<(K.length:Int):=by omega
  obtain⟨q,hoa,hqb,hqc⟩:=(P5.out.below (HM.out.symm▸B7.out)).cells k hlt;have HMEM:=Lib.hid (List.getElem_mem hlt);obtain⟨or,cr,hp1,hp2,hp3⟩:=P5.out.rows K[k] HMEM.out;rw [hp1]at hqc;have HIS:=Lib.hid hp2;have hL:K[k].2.length=c.op.length:=HKA.out _ HMEM.out;have HTN:=Lib.hid (show totL c.op.length (K.take (k+1))=addTo (totL c.op.length (K.take k)) K[k].2 c.op.length by rw [List.take_succ_eq_append_getElem hlt,totL_snoc]);have HTL:=Lib.hid (totL_len c.op.length (K.take k));subst hoa;clear hp1 hp2 hp3 HMEM;generalize K[k].2=L at*;generalize totL c.op.length (K.take k)=T at*;rw [hL]at hqc;have HLL:=Lib.hid hL;clear hL;obtain⟨wo,hwo⟩: ∃wo:World,wo=wr:=⟨_,rfl⟩;subst hwo;go_wp2_with fail;go_loopw [82] (fun v wi=> ∃j:Nat,v=.int .i64 j∧j≤c.op.length∧Below M w5 wi∧wi.heap[M]?=some (.cells (ivals (addTo T L j)).toArray 3 (0,0))) (fun v _=>c.op.length-(intOf v).toNat);case atStart=>exact⟨0,rfl,Nat.zero_le _,B7.out,T7.out⟩
  case round=>
  clear T7 B7 hqb hqc;obtain⟨j,rfl,hj,hb,ht⟩:=hrel;have B8:=Lib.hid hb;have T8:=Lib.hid ht;clear hb ht;by_cases hltj:j<c.op.length;case neg=>
   have fk:decide ((j:Int)<(c.op.length:Int))=false:=decide_eq_false (by omega);have fk2:decide (j<c.op.length)=false:=decide_eq_false hltj;obtain rfl:j=c.op.length:=by omega
   go_wp2_with fail;go_roundw;case rel=>exact⟨k+1,by go_num,by omega,B8.out,by rw [HTN.out];exact T8.out⟩
   case measure=>simp [intOf];omega
  have fk:decide ((j:Int)<(c.op.length:Int))=true:=decide_eq_true (by omega);have fk2:decide (j<c.op.length)=true:=decide_eq_true hltj;have fki:(j:Int)<(c.op.length:Int):=by omega
  have hjL:j<L.length:=by rw [HLL.out];exact hltj
  have hjT:j<(addTo T L j).length:=by rw [addTo_len,HTL.out];exact hltj
  obtain⟨r,hor,hrb,hrc⟩:=(HIS.out.below (HM.out.symm▸B8.out)).cells j hjL;subst hor;have HAS:=Lib.hid (addTo_succ T L j);have HY:=Lib.hid (show L.getD j 0=L[j]by simp [hjL]);rw [HY.out]at HAS;have kT:wr.cell? ⟨M,j,none⟩=some (.int .i64 ((addTo T L j).getD j 0)):=elRow_cell T8.out j hjT;have fT:wr.frozen? ⟨M,j,none⟩=false:=frozen_of_row _ _ _ _ _ T8.out;have TS:=Lib.hid (fun z=>elRow_set T8.out j z);clear T8 hjT HY;generalize (addTo T L j).getD j 0=x at*;generalize L[j]=y at*;go_wp2_with fail;go_roundw;case rel=>exact⟨j+1,by go_num,by omega,B8.out.setCell (Nat.le_refl _) _,by rw [HAS.out];exact TS.out _⟩
  case measure=>simp [intOf];omega
end Go.Proofs.YtnohcdpnnhmpfaaGreatDoor.TR
