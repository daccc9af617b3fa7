/-
  Chapter 13: count.Lots and count.Most. Printed by tools/genmost.py.
-/
import Derived.Test.YtnohcdpnnhmpfaaGreatDoorK23
import Derived.Test.YtnohcdpnnhmpfaaGreatDoorK32
set_option linter.unusedVariables false
set_option linter.unusedSimpArgs false
set_option maxRecDepth 100000
set_option maxHeartbeats 4000000
namespace Go.Proofs.YtnohcdpnnhmpfaaGreatDoor
open Go.RowKit ML FM AU CT
def bestL(T:List Int)(lot:Int→List UInt8)(a b:Int):Prop:=T.getD b.toNat 0<T.getD a.toNat 0∨T.getD a.toNat 0=T.getD b.toNat 0∧ltL lot a b
theorem bestL_asymm(T:List Int)(lot:Int→List UInt8)(a b:Int)(h1:bestL T lot a b)(h2:bestL T lot b a):False:=by
 rcases h1 with h1|⟨e1,h1⟩<;>rcases h2 with h2|⟨e2,h2⟩;·omega
 ·omega
 ·omega
 ·exact ltL_asymm lot a b h1 h2
theorem place_lt {n:Nat}{lot:Int→List UInt8}{O P:List Int}(ho:Ord n lot O)(hp:Place O P){a b:Int}(ha:0≤a∧a<n)(hb:0≤b∧b<n)(h:P.getD a.toNat 0<P.getD b.toNat 0):ltL lot a b:=by
 obtain⟨i,hi,rfl⟩:=List.mem_iff_getElem.1 (ho.mem.2 ha);obtain⟨j,hj,rfl⟩:=List.mem_iff_getElem.1 (ho.mem.2 hb);have h1:=hp.2 i hi;have h2:=hp.2 j hj;rw [List.getD_eq_getElem?_getD,List.getD_eq_getElem?_getD,h1,h2]at h;have hij:i<j:=by simp at h;omega
 exact List.pairwise_iff_getElem.1 ho.srt i j hi hj hij
theorem place_inj {n:Nat}{lot:Int→List UInt8}{O P:List Int}(ho:Ord n lot O)(hp:Place O P){a b:Int}(ha:0≤a∧a<n)(hb:0≤b∧b<n)(h:P.getD a.toNat 0=P.getD b.toNat 0):a=b:=by
 obtain⟨i,hi,rfl⟩:=List.mem_iff_getElem.1 (ho.mem.2 ha);obtain⟨j,hj,rfl⟩:=List.mem_iff_getElem.1 (ho.mem.2 hb);have h1:=hp.2 i hi;have h2:=hp.2 j hj;rw [List.getD_eq_getElem?_getD,List.getD_eq_getElem?_getD,h1,h2]at h;have hij:i=j:=by simp at h;omega
 subst hij;rfl
theorem place_bd {n:Nat}{lot:Int→List UInt8}{O P:List Int}(ho:Ord n lot O)(hp:Place O P): ∀x∈P,0≤x∧x<n:=by
 intro x hx;obtain⟨i,hi,rfl⟩:=List.mem_iff_getElem.1 hx;have hPl:P.length=n:=hp.1.trans ho.len;obtain⟨j,hj,he⟩:=List.mem_iff_getElem.1 (ho.mem.2 (show 0≤(i:Int)∧(i:Int)<n by omega));have h2:=hp.2 j hj;rw [he,Int.toNat_natCast,List.getElem?_eq_getElem hi]at h2;have:P[i]=(j:Int):=by injection h2
 rw [this];have:=ho.len;omega
structure Best(n:Nat)(T:List Int)(lot:Int→List UInt8)(S:List Int):Prop where
 perm:S.Perm (iota n)
 srt:S.Pairwise (bestL T lot)
theorem Best.unique {n:Nat}{T:List Int}{lot:Int→List UInt8}{S S':List Int}(h:Best n T lot S)(h':Best n T lot S'):S=S':=
 List.Perm.eq_of_pairwise (fun a b _ _ h1 h2=>(bestL_asymm T lot a b h1 h2).elim) h.srt h'.srt (h.perm.trans h'.perm.symm)
theorem Best.len {n:Nat}{T:List Int}{lot:Int→List UInt8}{S:List Int}(h:Best n T lot S):S.length=n:=by rw [h.perm.length_eq,length_iota]
theorem best_of {n:Nat}{lot:Int→List UInt8}{O P T S:List Int}(ho:Ord n lot O)(hp:Place O P)(hperm:S.Perm O)(hs:S.Pairwise (leV T P)):Best n T lot S:=by
 refine⟨hperm.trans ho.perm,List.Pairwise.imp_of_mem (fun {a b} ha hb h=>?_) hs⟩;have ha:=ho.mem.1 (hperm.mem_iff.1 ha);have hb:=ho.mem.1 (hperm.mem_iff.1 hb);rcases h with h|⟨h1,h2⟩;·exact .inl h
 ·exact .inr ⟨h1,place_lt ho hp ha hb h2⟩
def mostE(c:CTest)(T:List Int):Int:=if wrongC c=true then 2 else if T.length≠c.op.length then 2 else if negB T=true then 4 else 0
def MostGot(c:CTest)(lots:Bytes)(T:List Int)(w:World)(e:Ending)(w':World):Prop:=
 Below w.heap.size w w'∧if mostE c T=0 then ∃S oS cS,Best c.op.length T (lotF c lots) S∧IsAt w' oS (S.take c.se.toNat)∧e=.returned (.tuple #[.slice oS (S.take c.se.toNat).length cS,.int .i64 0])
 else e=.returned (.tuple #[.slice none 0 0,.int .i64 (mostE c T)])
theorem most_any(c:CTest)(T:List Int)(lots:Bytes)(oa:Option Addr)(cap:Nat)(ot:Option Addr)(ct:Nat)(w:World)(hs:StrsAt w oa c.op)(hT:IsAt w ot T)(hf:c.Fits lots)(hnl:c.op.length<9223372036854775807)(htl:T.length<9223372036854775807):
 Calls Tryz.prog 56 #[.agg (c.cells oa cap).toArray,.slice ot T.length ct,.string ⟨lots.toArray⟩] w (MostGot c lots T w):=by
 have hC:(c.cells oa cap).toArray= #[.string ⟨c.nm.toArray⟩,.slice oa c.op.length cap,.int .i64 c.rl,.int .i64 c.se,.int .i64 c.mo]:=rfl;have QD:=Lib.hid (fun w h=>draw_any c lots oa cap w h hf hnl);rw [hC]at QD ⊢;clear hC hf;have HS:=Lib.hid hs;have HT:=Lib.hid hT;have HME:=Lib.hid (show mostE c T=if wrongC c=true then 2 else if T.length≠c.op.length then 2 else if negB T=true then 4 else 0 from rfl);clear hs hT;unfold DrawGot at QD;go_enter Tryz.func56,Tryz.ntmps56;go_upto_region 1 with(fail);generalize hB:w.heap.size=B at*;refine wp_abs (fun w1=>Below B w w1∧w1.heap[B]?=some (.cells #[.string ⟨c.nm.toArray⟩,.slice oa c.op.length cap,.int .i64 c.rl,.int .i64 c.se,.int .i64 c.mo] 24 (0,0))) ⟨by rw [←hB];exact(Below.refl _ _).alloc (Nat.le_refl _) _,by rw [←hB];exact heap_at rfl⟩ (fun w1 hw1=>?_);have HB:=Lib.hid hB;have B1:=Lib.hid hw1.1;have X1:=hw1.2;have hBs:B<w1.heap.size:=lt_of_heap X1;clear hB hw1;have Q1:=Lib.hid (QD.out w1 (HS.out.below (HB.out.symm▸B1.out)));clear QD;cases hW:wrongC c with
 |
  true=>
  rw [hW]at Q1 HME;have HE2:=Lib.hid (HME.out.trans (if_pos rfl));clear hW HME;go_wp2_with (first
   |(refine wpList_load_whole rfl 24 _ rfl B _ _ _ _ rfl X1 Tryz.underlying24 rfl size_contest ?_)
   |(go_at_call 28;refine Q1.out.mono ?_;rintro e w3 ⟨b3,h3⟩;rw [if_pos rfl]at h3;subst h3)
   |(refine wpList_store_whole rfl rfl 62 _ _ rfl w3.heap.size #[.string ⟨#[]⟩,.slice none 0 0,.int .i64 0,.int .i64 0,.int .i64 0,.slice none 0 0,.slice none 0 0] #[.string ⟨#[]⟩,.slice none 0 0,.int .i64 0,.int .i64 0,.int .i64 0,.slice none 0 0,.slice none 0 0] 62 rfl rfl (heap_at rfl) rfl size_drawn (seven_a _ _ _ _ _ _ _ rfl rfl rfl rfl rfl rfl rfl) ?_;intro w4 ho hp;have y5:w4.cell? ⟨w3.heap.size,5,none⟩=some (.slice none 0 0):=cell_of_row w4 w3.heap.size 5 _ _ _ hp))
  go_ret2
  have b4:Below w3.heap.size w3 w4:=bel_only ((Below.refl _ _).alloc (Nat.le_refl _) _) ho (Nat.le_refl _);have hE:mostE c T=2:=HE2.out;exact⟨by rw [HB.out];exact B1.out.trans ((b3.mono (Nat.le_of_lt hBs)).trans (b4.mono (by have:=b3.size;omega))),by rw [if_neg (by rw [hE];decide),hE];rfl⟩
 |
  false=>
  rw [hW]at Q1 HME;have HW:=Lib.hid hW;clear hW;have HM2:=Lib.hid (HME.out.trans (if_neg (by decide)));clear HME;go_upto_region 2 with(first
   |(refine wpList_load_whole rfl 24 _ rfl B _ _ _ _ rfl X1 Tryz.underlying24 rfl size_contest ?_)
   |(go_at_call 28;refine Q1.out.mono ?_;rintro e w3 ⟨b3,h3⟩;rw [if_neg (by decide)]at h3;obtain⟨O,P,oO,cO,oP,cP,hO,hP,hIO,hIP,rfl⟩:=h3;have HO:=Lib.hid hO;have HP:=Lib.hid hP;have HIO:=Lib.hid hIO;have HIP:=Lib.hid hIP;clear hP hIP hO hIO)
   |(refine wpList_store_whole rfl rfl 62 _ _ rfl w3.heap.size #[.string ⟨#[]⟩,.slice none 0 0,.int .i64 0,.int .i64 0,.int .i64 0,.slice none 0 0,.slice none 0 0] #[.string ⟨c.nm.toArray⟩,.slice oa c.op.length cap,.int .i64 c.rl,.int .i64 c.se,.int .i64 c.mo,.slice oO O.length cO,.slice oP P.length cP] 62 rfl rfl (heap_at rfl) rfl size_drawn (seven_a _ _ _ _ _ _ _ rfl rfl rfl rfl rfl rfl rfl) ?_;intro w4 ho hp;have y5:w4.cell? ⟨w3.heap.size,5,none⟩=some (.slice oO O.length cO):=cell_of_row w4 w3.heap.size 5 _ _ _ hp))
  have b4:Below w3.heap.size w3 w4:=bel_only ((Below.refl _ _).alloc (Nat.le_refl _) _) ho (Nat.le_refl _);have hs3:=b3.size;have hW0:w.heap.size≤w1.heap.size:=by rw [HB.out];omega
  have bw4:Below w1.heap.size w1 w4:=b3.trans (b4.mono hs3);have B4:=Lib.hid (B1.out.trans (bw4.mono (Nat.le_of_lt hBs)));have X4:=bel_keep bw4 hBs X1;have k1:w4.cell? ⟨B,1,none⟩=some (.slice oa c.op.length cap):=cell_of_row w4 B 1 _ _ _ X4;have k3:w4.cell? ⟨B,3,none⟩=some (.int .i64 c.se):=cell_of_row w4 B 3 _ _ _ X4;have IOr:=Lib.hid (HIO.out.below b4);have IP:=Lib.hid (HIP.out.below b4);have IT:=Lib.hid (HT.out.below (HB.out.symm▸B4.out));have RD:=Lib.hid hp;have hDlt:w3.heap.size<w4.heap.size:=lt_of_heap hp;have hBD:B<w3.heap.size:=by omega
  clear ho hp b3 b4 bw4 X1 X4 y5 HIO HIP Q1 hs3 hW0;generalize w3.heap.size=D at*;clear w3 hBs B1;by_cases hlen:T.length=c.op.length;case neg=>
   have hE:=Lib.hid (HM2.out.trans (if_pos hlen));have e1:((T.length:Int) !=(c.op.length:Int))=true:=by rw [bne_iff_ne];omega
   have e2:(T.length !=c.op.length)=true:=by rw [bne_iff_ne];exact hlen
   clear HM2 hlen;go_wp2_with fail
   go_ret2
   exact⟨by rw [HB.out];exact B4.out,by rw [if_neg (by rw [hE.out];decide),hE.out];rfl⟩
  have HM3:=Lib.hid (HM2.out.trans (if_neg (fun h=>h hlen)));clear HM2;have hn:1≤c.op.length∧c.op.length≤12∧1≤c.se∧c.se≤c.op.length:=by have:=HW.out;unfold wrongC at this;have:=of_decide_eq_false this;omega
  have QM:=Lib.hid (min_any ot T ct w4 IT.out (by omega) (by omega));have e1:((T.length:Int) !=(c.op.length:Int))=false:=by rw [bne_eq_false_iff_eq];omega
  have e2:(T.length !=c.op.length)=false:=by rw [bne_eq_false_iff_eq];exact hlen
  have HLEN:=Lib.hid hlen;have HN:=Lib.hid hn;clear hlen hn;cases hg:negB T with
  |
   true=>
   rw [hg]at HM3;have hE:=Lib.hid (HM3.out.trans (if_pos rfl));have HG:=Lib.hid hg;clear HM3 hg;go_wp2_with (go_at_call 99;refine QM.out.mono ?_;rintro e w5 ⟨⟨m,rfl,hm⟩,rfl⟩;have hm0:decide (m<0)=true:=hm.neg.trans HG.out)
   go_ret2
   exact⟨by rw [HB.out];exact B4.out,by rw [if_neg (by rw [hE.out];decide),hE.out];rfl⟩
  |false=>
  rw [hg]at HM3;have hE:=Lib.hid (HM3.out.trans (if_neg (by decide)));have HG:=Lib.hid hg;clear HM3 hg;go_upto_region 8 with(go_at_call 99;refine QM.out.mono ?_;rintro e w5 ⟨⟨m,rfl,hm⟩,rfl⟩;have hm0:decide (m<0)=false:=hm.neg.trans HG.out);clear e1 e2;clear hm hm0 QM k1;have k5:w4.cell? ⟨D,5,none⟩=some (.slice oO O.length cO):=cell_of_row w4 D 5 _ _ _ RD.out;obtain⟨M,hM⟩: ∃M,M=w4.heap.size:=⟨_,rfl⟩;have hx0:Below M w4 w4.drew:=(Below.refl _ _).drew;have hDM:D<M:=by omega
  have hBM:B<M:=by omega
  have HM:=Lib.hid hM;clear hM hDlt;have hOl:=HO.out.len
  have QS:=Lib.hid (fun w' (hx:Below M w4 w')=>sorted_any T P O ⟨c.nm.toArray⟩ oa c.op.length cap c.rl c.se c.mo oO O.length cO oP cP oO cO ot ct w' (IT.out.below (HM.out▸hx)) (IP.out.below (HM.out▸hx)) (IOr.out.below (HM.out▸hx)) (fun x hx=>by rw [HLEN.out];exact HO.out.mem.1 hx) (by rw [HLEN.out,HP.out.1,hOl]) (fun x hx=>by have:=place_bd HO.out HP.out x hx;have:=HN.out;omega) (by have:=HN.out;omega) (by have:=HN.out;omega) (by have:=HN.out;have:=HLEN.out;omega) (List.Pairwise.imp_of_mem (fun {a b} ha hb h he=>by
   have:=place_inj HO.out HP.out (HO.out.mem.1 ha) (HO.out.mem.1 hb) he;subst this;exact ltL_asymm _ _ _ h h) HO.out.srt))
  clear hOl;unfold SortedGot at QS;have d5: ∀x:BelowT M w4,x.w.cell? ⟨D,5,none⟩=some (.slice oO O.length cO):=fun x=>bel_cell ⟨x,rfl⟩ hDM k5;have d3: ∀x:BelowT M w4,x.w.cell? ⟨B,3,none⟩=some (.int .i64 c.se):=fun x=>bel_cell ⟨x,rfl⟩ hBM k3;clear k5 k3;refine Seg.wp_region_segs (fun w'=> ∃x:BelowT M w4,w'=x.w) [([0,1,2,3,5,6],4)] [] 7 (by kernel_rfl) (by kernel_rfl) (fun _ _ d _ _ h=>by cases d<;>exact h) (⟨⟨_,hx0⟩,rfl⟩) ?_;simp only [List.map_cons,List.map_nil,Seg.opAt,List.drop_succ_cons,List.drop_zero,Seg.wpSegs,Array.getD_eq_getD_getElem?,List.getElem?_toArray,List.getElem?_cons_succ,List.getElem?_cons_zero,Option.getD_some];refine wpQuiet_load_whole rfl 62 _ rfl D #[.string ⟨c.nm.toArray⟩,.slice oa c.op.length cap,.int .i64 c.rl,.int .i64 c.se,.int .i64 c.mo,.slice oO O.length cO,.slice oP P.length cP] _ _ _ rfl RD.out hDM Tryz.underlying62 rfl size_drawn ?_;first|go_big_quiet_step (fail)|quiet_step (fail)
  first|go_big_quiet_step (fail)|quiet_step (fail)
  first|go_big_quiet_step (fail)|quiet_step (fail)
  first|go_big_quiet_step (fail)|quiet_step (fail)
  first|go_big_quiet_step (fail)|quiet_step (fail)
  refine wpQuiet_nil ?_;intro K hK;simp only [Region.wanted,if_true];go_wp2_with (go_at_call 100;refine(QS.out _ hx0).mono ?_;rintro e w5 ⟨S,ob,cb,rfl,hIS,hperm,hsrt,hcb,hb5⟩);have hx5:=hx0.trans (hb5.mono (Nat.le_of_eq HM.out));refine hK _ _ ⟨⟨_,hx5⟩,rfl⟩ ?_;have HBE:=Lib.hid (best_of HO.out HP.out hperm hsrt);have HIS:=Lib.hid hIS;have hOl:=HO.out.len;have hn:=HN.out;have hSl:=HBE.out.len;have z1:(0:Int)≤c.se:=by omega
  have z2:c.se≤(O.length:Int):=by omega
  have z3:c.se≤(cb:Int):=by omega
  have HX5:=Lib.hid hx5;clear hK K hperm hsrt hIS hx0 hx5 hb5 QS;repeat (any_goals (first|go_big_quiet_step (fail)|quiet_step (fail)))
  refine wpQuiet_nil ?_;go_wp2_with fail;have HST:=Lib.hid (show(S.take c.se.toNat).length=c.se.toNat by rw [List.length_take];omega)
  go_ret2
  refine⟨by rw [HB.out];exact B4.out.trans (HX5.out.mono (Nat.le_of_lt hBM)),?_⟩;rw [if_pos hE.out];refine⟨S,ob,cb,HBE.out,HIS.out.take _,?_⟩;rw [HST.out];rfl
end Go.Proofs.YtnohcdpnnhmpfaaGreatDoor
