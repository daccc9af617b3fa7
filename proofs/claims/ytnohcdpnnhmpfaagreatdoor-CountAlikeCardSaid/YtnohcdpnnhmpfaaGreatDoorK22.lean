/-
  Chapter 13, Transfer: (*hall).which and the function values of (*hall).round.
  Chapter 13, Transfer: what a hall's functions leave alone.
  Chapter 13, Transfer: (*hall).lay.
  Chapter 13, Transfer: (*hall).elect, (*hall).goOn.
  Chapter 13, Transfer: (*hall).goOn.
-/
import Derived.Test.YtnohcdpnnhmpfaaGreatDoorK18
import Derived.Test.YtnohcdpnnhmpfaaGreatDoorK19
import Derived.Test.YtnohcdpnnhmpfaaGreatDoorK21
import Derived.Deep.LoopGhost
set_option linter.unusedVariables false
set_option linter.unusedSimpArgs false
set_option maxRecDepth 100000
set_option maxHeartbeats 8000000
namespace Go.Proofs.YtnohcdpnnhmpfaaGreatDoor.TR
open Go.RowKit ML FRP AU CT FM
structure HKok(K:HK):Prop where
 ord:IsAt K.w0 K.oO K.O
 plc:IsAt K.w0 K.oP K.P
 len:K.O.length=K.c.op.length
 plen:K.P.length=K.c.op.length
 mem: ∀x,x∈K.O↔0≤x∧x<(K.c.op.length:Int)
 place: ∀k (hk:k<K.O.length),K.P[K.O[k].toNat]?=some (k:Int)
 nd:K.O.Nodup
 n1:1≤K.c.op.length
 n12:K.c.op.length≤12
 m4:K.m≤4096
theorem bool_cell {w:World}{B n:Nat}{f:Nat→Bool}{T:TypeId}(h:w.heap[B]?=some (.cells (boolC n f) T (0,0))){i:Nat}(hi:i<n):w.cell? ⟨B,i,none⟩=some (.bool (f i)):=by
 rw [cell_of_row w B i _ _ _ h];unfold boolC;simp [hi]
theorem round1_any(K:HK)(q:Fr)(S:St)(G:HG)(w:World)(hH:HallAt K q S G w)(hx:Nat)(hX:w.cell? ⟨hx,0,none⟩=some (.pointer (some ⟨K.hb,0,none⟩)))(i:Nat)(hi:i<K.c.op.length):
 Calls Tryz.prog 124 #[.int .i64 (i:Int),.pointer (some ⟨hx,0,none⟩)] w fun e w'=>e=.returned (.bool (S.cont i))∧Below w.heap.size w w':=by
 have k12:w.cell? ⟨K.hb,12,none⟩=some (.slice (some ⟨K.cb,0,none⟩) K.c.op.length K.c.op.length):=cell_of_row w K.hb 12 _ _ _ hH.hall;have kc:=bool_cell hH.conts hi;have e1:(i:Int)<(K.c.op.length:Int):=by omega
 generalize S.cont i=b at*;generalize K.c.op.length=n at*;clear hH;go_enter Tryz.func124,Tryz.ntmps124;go_wp2_with fail;go_ret;exact⟨rfl,Below.refl _ _⟩
theorem which1_any(M:FuncId)(qN:Enters M)(c1:Value)(p:Int→Bool)(x:Int)(bx:Nat)(w:World)(hX:w.cell? ⟨bx,0,none⟩=some (.func (.func M) #[] #[c1]))
 (hf:Calls Tryz.prog M #[.int .i64 x,c1] w fun e w2=>e=.returned (.bool (p x))∧Below w.heap.size w w2):
 Calls Tryz.prog 172 #[.int .i64 x,.pointer (some ⟨bx,0,none⟩)] w fun e w'=>e=.returned (.bool (!p x))∧Below w.heap.size w w':=by
 unfold Enters at qN;have QF:=Lib.hid hf;clear hf;generalize p x=b at*;go_enter Tryz.func172,Tryz.ntmps172;go_wp2_with (with_reducible refine(QF.out).mono ?_;rintro e w1 ⟨rfl,b1⟩);go_ret;exact⟨rfl,b1⟩
theorem which_any(K:HK)(q:Fr)(S:St)(G:HG)(w:World)(hH:HallAt K q S G w)(hK:HKok K)(M:FuncId)(qM:Enters M)(c1:Value)(p:Int→Bool)
 (hf: ∀w1,Below w.heap.size w w1→ ∀x∈K.O,Calls Tryz.prog M #[.int .i64 x,c1] w1 fun e w2=>e=.returned (.bool (p x))∧Below w1.heap.size w1 w2):
 Calls Tryz.prog 123 #[.pointer (some ⟨K.hb,0,none⟩),.func (.func M) #[] #[c1]] w fun e w'=> ∃ob cb,e=.returned (.slice ob (K.O.filter p).length cb)∧w'.ownsRow w.heap.size 3 1 (.slice ob (K.O.filter p).length cb) (K.O.filter p).length (ivals (K.O.filter p))∧Below w.heap.size w w':=by
 have qW:Enters 172:=enters_of Tryz.func172 rfl rfl;have QW:=Lib.hid (fun bx w1 h1 x h2=>which1_any M qM c1 p x bx w1 h1 h2);have QF:=Lib.hid hf;have k5:w.cell? ⟨K.hb,5,none⟩=some (.slice K.oO K.O.length K.cO):=cell_of_row w K.hb 5 _ _ _ hH.hall;have IOr:=Lib.hid (hK.ord.below hH.bel);have hlen:K.O.length≤12:=by rw [hK.len];exact hK.n12
 have hbl:=lt_of_heap hH.hall;have HQ:=Lib.hid qW;have hff:(K.O.filter fun x=> !!p x)=K.O.filter p:=by congr 1;funext x;simp
 have HFF:=Lib.hid hff;clear hf hff qW;generalize K.O=L at*;generalize K.oO=oO at*;generalize K.cO=cO at*;clear hK hH;go_enter Tryz.func123,Tryz.ntmps123;go_upto_region 1 with(fail);generalize hB:w.heap.size=B at*;have hbA:Below w.heap.size w (w.alloc (.cells #[.func (.func M) #[] #[c1]] 79)):=(Below.refl _ _).alloc (Nat.le_refl _) _;have hcl:(w.alloc (.cells #[.func (.func M) #[] #[c1]] 79)).cell? ⟨w.heap.size,0,none⟩=some (.func (.func M) #[] #[c1]):=cell_of_row _ _ 0 _ _ _ (heap_at rfl);rw [hB]at hbA hcl;refine wp_abs (fun w1=>Below B w w1∧w1.cell? ⟨B,0,none⟩=some (.func (.func M) #[] #[c1])∧B<w1.heap.size) ⟨hbA,hcl,by simp [hB]⟩ (fun w1 hw1=>?_);have B1:=Lib.hid hw1.1;have C1:=Lib.hid hw1.2.1;have hBs:=hw1.2.2;have HB:=Lib.hid hB;have k5':w1.cell? ⟨K.hb,5,none⟩=some (.slice oO L.length cO):=by rw [hw1.1.cell hbl];exact k5
 have I1:=Lib.hid (IOr.out.below (HB.out.symm▸B1.out));clear hw1 hbA hcl hB k5 IOr;go_wp2_with (first
  |(go_at_call 126;refine(cloneInts_any oO L cO w1 I1.out (by omega)).mono ?_;rintro e w2 ⟨ob,cb,rfl,own2,bel2⟩;have O2:=Lib.hid (own_base own2 (Nat.le_of_lt hBs));have B2:=Lib.hid bel2;have hX2: ∀x,Value.ownBlock (.slice ob L.length cb)=some x→w1.heap.size≤x:=fun x hx=>(own2.lt x hx).1;have HX2:=Lib.hid hX2;clear hX2 own2 bel2)
  |(go_at_call 125;refine(delete1_any 172 HQ.out (.pointer (some ⟨B,0,none⟩)) (fun x=> !p x) ob L cb B w2 O2.out hlen (fun w3 hg x hx=>?_)).mono ?_))
 ·have hbw:Below w1.heap.size w2 w3:=(Below.refl _ w2).grown hg B2.out.size HX2.out;have hb3:Below B w w3:=B1.out.trans ((B2.out.trans hbw).mono (Nat.le_of_lt hBs));have hc3:w3.cell? ⟨B,0,none⟩=some (.func (.func M) #[] #[c1]):=by rw [(B2.out.trans hbw).cell hBs];exact C1.out
  exact QW.out B w3 hc3 x (QF.out w3 hb3 x hx)
 ·rintro e w3 ⟨oc,cc,rfl,own3,hg3⟩;have O3:=Lib.hid own3;have hbw:=Lib.hid ((Below.refl _ w2).grown hg3 B2.out.size HX2.out);clear own3 hg3;rw [HFF.out]at O3;go_wp2_with fail;go_ret;exact⟨oc,cc,rfl,by rw [HB.out];exact O3.out,by rw [HB.out];exact B1.out.trans ((B2.out.trans hbw.out).mono (Nat.le_of_lt hBs))⟩
theorem TotsAt.mid {w:World}{base n g cap:Nat}{T:Nat→Fr}{xa xb:Nat→Value}(h:TotsAt w base n T (.slice (some ⟨g,0,none⟩) n cap) xa xb){i:Nat}(hi:i<n): ∀j u,([xa i,xb i]:List Value)[j]?=some u→w.cell? ((⟨g,i*2,none⟩:Addr).add j)=some u:=fun j u hj=>by
 obtain⟨h1,h2⟩:=flatF_get n xa xb i hi;have h3:=fun o v (hv:(flatF n xa xb)[o]?=some v)=>h.row.own.cells (g:=g) rfl o v hv;rw [Addr.add_mid]
 match j with
 |0=>have:=h3 (i*2) u (h1.trans hj);rw [add_cell']at this;exact this
 |1=>have:=h3 (i*2+1) u (h2.trans hj);rw [add_cell']at this;exact this
 |_+2=>cases hj
theorem TotsAt.form {w:World}{base n:Nat}{T:Nat→Fr}{v:Value}{xa xb:Nat→Value}(h:TotsAt w base n T v xa xb)(hn:1≤n): ∃g cap,v=.slice (some ⟨g,0,none⟩) n cap∧base≤g∧g<w.heap.size∧n≤cap:=by
 rcases h.row.own.2 with⟨_,h0⟩|⟨g,cap,cur,hv,hb,hg,hc,_⟩;·omega
 ·exact⟨g,cap,hv,hb,lt_of_heap hg,hc⟩
theorem quo_mid {K:HK}{q:Fr}{S:St}{G:HG}{w:World}(h:HallAt K q S G w): ∀j u,([K.qn,K.qd]:List Value)[j]?=some u→w.cell? ((⟨K.hb,7,none⟩:Addr).add j)=some u:=
 mid_blk h.hall _ (fun j u hj=>by match j with|0=>exact hj|1=>exact hj|_+2=>cases hj)
theorem round2_any(K:HK)(q:Fr)(S:St)(G:HG)(w:World)(hH:HallAt K q S G w)(tx hx:Nat)(T:Nat→Fr)(base:Nat)(g cap:Nat)(xa xb:Nat→Value)(hT:TotsAt w base K.c.op.length T (.slice (some ⟨g,0,none⟩) K.c.op.length cap) xa xb)
 (hX:w.cell? ⟨hx,0,none⟩=some (.pointer (some ⟨K.hb,0,none⟩))) (hX2:w.cell? ⟨tx,0,none⟩=some (.slice (some ⟨g,0,none⟩) K.c.op.length cap)) (hxl:hx<w.heap.size) (txl:tx<w.heap.size) (i:Nat) (hi:i<K.c.op.length) (sT:Sml (T i)) (sQ:Sml q):
 Calls Tryz.prog 127 #[.int .i64 (i:Int),.pointer (some ⟨tx,0,none⟩),.pointer (some ⟨hx,0,none⟩)] w fun e w'=>e=.returned (.bool (decide (cmpF (T i) q≤0)))∧Below w.heap.size w w':=by
 have HS:=Lib.hid size_lfr;have TM:=Lib.hid (hT.mid hi);have QM:=Lib.hid (quo_mid hH);have QC:=Lib.hid (cmp_V w.drew (Trn.fr (Trn.of_below (Below.refl _ _).drew 0 0) (hT.frs i hi)) (Trn.fr (Trn.of_below (Below.refl _ _).drew 0 0) hH.quo) sT.lens sQ.lens);have hgl:g<w.heap.size:=by
  rcases hT.row.own.2 with⟨hv,_⟩|⟨g2,_,_,hv,_,hg2,_⟩;·cases hv
  ·injection hv with h1;injection h1 with h1;injection h1 with h1;subst h1;exact lt_of_heap hg2
 have hbl:=lt_of_heap hH.hall;have e1:(i:Int)<(K.c.op.length:Int):=by omega
 have d1: ∀x:BelowT w.heap.size w,x.w.cell? ⟨tx,0,none⟩=some (.slice (some ⟨g,0,none⟩) K.c.op.length cap):=fun x=>(x.2.cell (p:=⟨tx,0,none⟩) txl).trans hX2;have d2: ∀x:BelowT w.heap.size w,x.w.cell? ⟨hx,0,none⟩=some (.pointer (some ⟨K.hb,0,none⟩)):=fun x=>(x.2.cell (p:=⟨hx,0,none⟩) hxl).trans hX;have hc:(x:BelowT w.heap.size w)→ ∀{b o:Nat} {l:List Value},b<w.heap.size→(∀j u,l[j]?=some u→w.cell? ((⟨b,o,none⟩:Addr).add j)=some u)→ ∀j u,l[j]?=some u→x.w.cell? ((⟨b,o,none⟩:Addr).add j)=some u:=fun x {b o l} hb h j u hj=>(x.2.cell (by rw [addr_block];exact hb)).trans (h j u hj);have HC:=Lib.hid hc;clear hT hH hX hX2 hc;generalize cmpF (T i) q=c at*;generalize K.c.op.length=n at*;go_enter Tryz.func127,Tryz.ntmps127;go_upto_region 1 with(fail);refine Seg.wp_region_segs (fun w'=> ∃x:BelowT w.heap.size w,w'=x.w) [] [0,1,2,3,4,5,6,7] 8 (by kernel_rfl) (by kernel_rfl) (fun _ _ d _ _ h=>by cases d<;>exact h) (⟨⟨_,(Below.refl _ _).drew⟩,rfl⟩) ?_;simp only [List.map_cons,List.map_nil,Seg.opAt,List.drop_succ_cons,List.drop_zero,Seg.wpSegs,Array.getD_eq_getD_getElem?,List.getElem?_toArray,List.getElem?_cons_succ,List.getElem?_cons_zero,Option.getD_some];first|go_big_quiet_step (fail)|quiet_step (fail)
 first|go_big_quiet_step (fail)|quiet_step (fail)
 first|go_big_quiet_step (fail)|quiet_step (fail)
 refine wpQuiet_load_at rfl 90 _ rfl ⟨g,i*2,none⟩ [xa i,xb i] _ rfl (fun w' hw'=>by obtain⟨x,rfl⟩:=hw';exact HC.out x hgl TM.out) Tryz.underlying90 rfl HS.out ?_;first|go_big_quiet_step (fail)|quiet_step (fail)
 first|go_big_quiet_step (fail)|quiet_step (fail)
 first|go_big_quiet_step (fail)|quiet_step (fail)
 refine wpQuiet_load_at rfl 90 _ rfl ⟨K.hb,7,none⟩ [K.qn,K.qd] _ rfl (fun w' hw'=>by obtain⟨x,rfl⟩:=hw';exact HC.out x hbl QM.out) Tryz.underlying90 rfl HS.out ?_;refine wpQuiet_nil ?_;go_wp2_with (go_at_call 51;refine QC.out.mono ?_;rintro e w2 ⟨rfl,bel2⟩);go_ret;exact⟨rfl,undrew bel2⟩
theorem memI_nat(l:List Nat)(i:Nat):memI (l.map fun i:Nat=>(i:Int)) (i:Int)=decide (i∈l):=by
 rw [Bool.eq_iff_iff];simp [memI];refine⟨?_,fun h=>⟨i,h,rfl⟩⟩;rintro⟨a,h1,h2⟩;obtain rfl:a=i:=by omega
 exact h1
theorem round3_any(K:HK)(q:Fr)(S:St)(G:HG)(w:World)(hH:HallAt K q S G w)(hx:Nat)(hX:w.cell? ⟨hx,0,none⟩=some (.pointer (some ⟨K.hb,0,none⟩)))(i:Nat)(hi:i<K.c.op.length)(hel:S.el.length≤12):
 Calls Tryz.prog 130 #[.int .i64 (i:Int),.pointer (some ⟨hx,0,none⟩)] w fun e w'=>e=.returned (.bool (decide (i∈S.el)&& !S.moved i))∧Below w.heap.size w w':=by
 obtain⟨oe,ce,hev,_,he⟩:=isAt_own hH.els.own;rw [List.length_map]at hev;have QC:=Lib.hid (contains_any oe (S.el.map fun i:Nat=>(i:Int)) ce (i:Int) w he (by rw [List.length_map];omega));rw [memI_nat,List.length_map]at QC;have k14:w.cell? ⟨K.hb,14,none⟩=some (.slice oe S.el.length ce):=by rw [←hev];exact cell_of_row w K.hb 14 _ _ _ hH.hall
 have k13:w.cell? ⟨K.hb,13,none⟩=some (.slice (some ⟨K.mb,0,none⟩) K.c.op.length K.c.op.length):=cell_of_row w K.hb 13 _ _ _ hH.hall;have km:=bool_cell hH.moveds hi;have e1:(i:Int)<(K.c.op.length:Int):=by omega
 clear hev he hH;generalize S.moved i=b at*;generalize K.c.op.length=n at*;generalize S.el.length=m at*;cases hin:decide (i∈S.el)with
 |
  true=>
  rw [hin]at QC;clear hin;go_enter Tryz.func130,Tryz.ntmps130;go_wp2_with (go_at_call 63;refine QC.out.mono ?_;rintro e w2 ⟨rfl,rfl⟩);go_ret;exact⟨rfl,Below.refl _ _⟩
 |
  false=>
  rw [hin]at QC;clear hin;go_enter Tryz.func130,Tryz.ntmps130;go_wp2_with (go_at_call 63;refine QC.out.mono ?_;rintro e w2 ⟨rfl,rfl⟩);go_ret;exact⟨rfl,Below.refl _ _⟩
end Go.Proofs.YtnohcdpnnhmpfaaGreatDoor.TR
namespace Go.Proofs.YtnohcdpnnhmpfaaGreatDoor.TR
open Go.RowKit ML FRP AU CT
def Mine(K:HK)(G:HG)(b:Nat):Prop:=b=K.hb∨b=K.wb∨b=K.kb∨b=K.cb∨b=K.mb∨(∃k,k<K.m∧b=K.pb k)∨(∃i,i<K.c.op.length∧(G.pv i).ownBlock=some b)∨G.nv.ownBlock=some b∨G.ev.ownBlock=some b
structure HStep(K:HK)(G:HG)(w:World)(G':HG)(w':World):Prop where
 os:w'.os=w.os
 tape:w'.tape=w.tape
 output:w'.output=w.output
 size:w.heap.size≤w'.heap.size
 frame: ∀b,b<w.heap.size→ ¬Mine K G b→w'.heap[b]?=w.heap[b]?
 mine: ∀b,Mine K G' b→Mine K G b∨w.heap.size≤b
section
variable {K:HK} {G G' G'':HG} {w w' w'':World}
theorem HStep.refl(K:HK)(G:HG)(w:World):HStep K G w G w:=⟨rfl,rfl,rfl,Nat.le_refl _,fun _ _ _=>rfl,fun _ h=>.inl h⟩
theorem HStep.trans(h:HStep K G w G' w')(k:HStep K G' w' G'' w''):HStep K G w G'' w'':=⟨k.os.trans h.os,k.tape.trans h.tape,k.output.trans h.output,Nat.le_trans h.size k.size,
 fun b hb hn=>(k.frame b (Nat.lt_of_lt_of_le hb h.size) (fun hm=>(h.mine b hm).elim hn (fun h1=>by omega))).trans (h.frame b hb hn),
 fun b hm=>(k.mine b hm).elim (fun h1=>h.mine b h1) (fun h1=>.inr (Nat.le_trans h.size h1))⟩
theorem HStep.below(h:HStep K G w G' w')(hb:Below w'.heap.size w' w''):HStep K G w G' w'':=h.trans ⟨hb.os,hb.tape,hb.output,hb.size,fun b h1 _=>hb.block b h1,fun b h1=>.inl h1⟩
theorem hstep_below(hb:Below w.heap.size w w'):HStep K G w G w':=(HStep.refl K G w).below hb
theorem hstep_grown {X:Option Nat}(hg:w.grownBy w' X)(hX: ∀x,X=some x→Mine K G x)(hm: ∀b,Mine K G' b→Mine K G b∨w.heap.size≤b):HStep K G w G' w':=⟨hg.os,hg.tape,hg.output,hg.size,fun b hb hn=>hg.block b hb (fun e=>hn (hX b e.symm)),hm⟩
theorem hstep_two {X:Option Nat}{B:Nat}{w1:World}(hg:w.grownBy w1 X)(hX: ∀x,X=some x→Mine K G x)(ho:Only B w1 w')(hB:Mine K G B)(hm: ∀b,Mine K G' b→Mine K G b∨w.heap.size≤b):HStep K G w G' w':=⟨ho.os.trans hg.os,ho.tape.trans hg.tape,ho.output.trans hg.output,by rw [ho.size];exact hg.size,
 fun b hb hn=>(ho.block b (fun e=>hn (e▸hB))).trans (hg.block b hb (fun e=>hn (hX b e.symm))),hm⟩
theorem HStep.keep(h:HStep K G w G' w'){b:Nat}{o:Obj}(hb:w.heap[b]?=some o)(hn: ¬Mine K G b):w'.heap[b]?=some o:=(h.frame b (lt_of_heap hb) hn).trans hb
theorem HallAt.mineT {q:Fr}{S:St}(h:HallAt K q S G w){b:Nat}(hm:Mine K G b): ∃cs T f,w.heap[b]?=some (.cells cs T f)∧(∀u∈cs.toList,noLimb u=true)∧(T=116∨T=113∨T=90∨T=4∨T=168∨T=165∨T=3):=by
 rcases hm with rfl|rfl|rfl|rfl|rfl|⟨k,hk,rfl⟩|⟨i,hi,hv⟩|hv|hv;·exact⟨_,_,_,h.hall,noLimb_hall h,by simp⟩
 ·exact⟨_,_,_,h.withs,noLimb_with h,by simp⟩
 ·exact⟨_,_,_,h.kepts,noLimb_kept h,by simp⟩
 ·exact⟨_,_,_,h.conts,noLimb_bool _ _,by simp⟩
 ·exact⟨_,_,_,h.moveds,noLimb_bool _ _,by simp⟩
 ·exact⟨_,_,_,h.papers k hk,noLimb_paper h hk,by simp⟩
 ·obtain⟨_,cs,f,h1,h2⟩:=GRow.typed (h.piles i hi) b hv;exact⟨cs,_,f,h1,h2,by simp⟩
 ·obtain⟨_,cs,f,h1,h2⟩:=GRow.typed h.nones b hv;exact⟨cs,_,f,h1,h2,by simp⟩
 ·obtain⟨_,cs,f,h1,h2⟩:=GRow.typed h.els b hv;exact⟨cs,_,f,h1,h2,by simp⟩
theorem HStep.limbs {q:Fr}{S:St}(t:HStep K G w G' w')(hH:HallAt K q S G w){oc:Option Addr}{L:List Nat}(h:LimbsAt w oc L):LimbsAt w' oc L:=⟨fun i hi=>by
 obtain⟨a,h1,h2,h3⟩:=h.cells i hi;refine⟨a,h1,Nat.lt_of_lt_of_le h2 t.size,?_⟩;have hb:(a.add i).block=a.block:=addr_block' a i
 rw [World.cell?_of_block (w:=w) (by
  rw [hb];refine t.frame _ h2 (fun hm=>?_);obtain⟨cs,T,f,g1,g2,_⟩:=hH.mineT hm;unfold World.cell? at h3;rw [hb,g1]at h3;simp only at h3;split at h3;·cases h3
  ·have hmem:=Array.mem_of_getElem? h3;have:=g2 _ (by simpa using hmem);cases this)]
 exact h3⟩
theorem HStep.fr {q:Fr}{S:St}(t:HStep K G w G' w')(hH:HallAt K q S G w){x:Fr}{a b:Value}(h:FrV w x a b):FrV w' x a b:=by
 obtain⟨oa,ca,ob,cb,h1,h2,h3⟩:=h;exact⟨oa,ca,ob,cb,h1,h2,⟨t.limbs hH h3.num,t.limbs hH h3.den⟩⟩
theorem HStep.row(t:HStep K G w G' w'){good:Value→Bool}{base:Nat}{e:TypeId}{size n:Nat}{v:Value}{xs:List Value}(h:GRow good w base e size v n xs)(hn: ∀x,v.ownBlock=some x→ ¬Mine K G x):GRow good w' base e size v n xs:=⟨by
 obtain⟨h1,h2⟩:=h.own;refine⟨h1,?_⟩;rcases h2 with h2|⟨g,cap,cur,hv,hb,hg,rest⟩;·exact .inl h2
 ·exact .inr ⟨g,cap,cur,hv,hb,t.keep hg (hn g (by rw [hv];rfl)),rest⟩,fun g cur t' fr hv hc=>by
 have hn':=hn g hv;obtain⟨_,cs,f,h1,h2⟩:=GRow.typed h g hv;rw [t.keep h1 hn']at hc;injection hc with hc;injection hc with hc;subst hc;exact h2⟩
theorem HStep.own(t:HStep K G w G' w'){base:Nat}{e:TypeId}{size n:Nat}{v:Value}{xs:List Value}(h:w.ownsRow base e size v n xs)(hn: ∀x,v.ownBlock=some x→ ¬Mine K G x):w'.ownsRow base e size v n xs:=by
 obtain⟨h1,h2⟩:=h;refine⟨h1,?_⟩;rcases h2 with h2|⟨g,cap,cur,hv,hb,hg,rest⟩;·exact .inl h2
 ·exact .inr ⟨g,cap,cur,hv,hb,t.keep hg (hn g (by rw [hv];rfl)),rest⟩
theorem not_mine {q:Fr}{S:St}(hH:HallAt K q S G w){b:Nat}{cs:Array Value}{T:TypeId}{f:Nat×Nat}(hb:w.heap[b]?=some (.cells cs T f))(hT:T≠116∧T≠113∧T≠90∧T≠4∧T≠168∧T≠165∧T≠3): ¬Mine K G b:=fun hm=>by
 obtain⟨cs',T',f',h1,_,h2⟩:=hH.mineT hm;rw [hb]at h1;injection h1 with h1;injection h1 with _ h1;subst h1;simp_all
theorem only_step {q:Fr}{S:St}{b:Nat}(ho:Only b w w')(hm:Mine K G b)(hG: ∀b,Mine K G' b→Mine K G b):HStep K G w G' w':=hstep_grown (grown_only ho) (fun x hx=>by injection hx with hx;subst hx;exact hm) (fun b h=>.inl (hG b h))
end
end Go.Proofs.YtnohcdpnnhmpfaaGreatDoor.TR
namespace Go.Proofs.YtnohcdpnnhmpfaaGreatDoor.TR
open Go.RowKit ML FRP AU CT FM
theorem info_paper:(Tryz.prog.info? 165).map (fun i=>(i.zero,i.size,i.bytes))=some (some (.pointer none),1,8):=by kernel_rfl
theorem grt_cell {b M:Nat}{w0:World}(x:GrT b M w0){p:Addr}{v:Value}(hb:p.block<M)(hne:p.block≠b)(hc:w0.cell? p=some v):x.w.cell? p=some v:=by
 exact(World.cell?_of_block (w:=w0) (x.2 p.block hb hne)).trans hc
theorem upd_id {α β:Type} [DecidableEq α](f:α→β)(i:α):upd f i (f i)=f:=by
 funext j;unfold upd;by_cases h:j=i<;>simp [h]
def setV(S:St)(k:Nat)(x:Vo):St:=⟨upd S.V k x,S.cont,S.moved,S.kept,S.el⟩
theorem setV_setV(S:St)(k:Nat)(x y:Vo):setV (setV S k x) k y=setV S k y:=by
 unfold setV;congr 1;funext j;unfold upd;by_cases h:j=k<;>simp [h]
theorem setV_same(S:St)(k:Nat):setV S k (S.V k)=S:=by
 unfold setV;have:upd S.V k (S.V k)=S.V:=by
  funext j;unfold upd;split;·rename_i e;rw [e]
  ·rfl
 rw [this]
theorem setV_V(S:St)(k:Nat)(x:Vo):(setV S k x).V k=x:=upd_same _ _ _
theorem seek_step(c:Nat→Bool)(rk:List Nat)(n:Nat)(h:n<rk.length):seek c (rk.drop n) n=if c rk[n]=true then(n+1,some rk[n])else seek c (rk.drop (n+1)) (n+1):=by
 rw [List.drop_eq_getElem_cons h];rfl
theorem seek_end(c:Nat→Bool)(rk:List Nat)(n:Nat)(h:rk.length≤n):seek c (rk.drop n) n=(n,none):=by
 rw [List.drop_eq_nil_of_le h];rfl
def LaidGot(K:HK)(q:Fr)(S:St)(G:HG)(k:Nat)(w:World)(e:Ending)(w':World):Prop:=
 e=.returned (.tuple #[])∧ ∃G',HallAt K q (setV S k ((S.V k).go S.cont)) G' w'∧HStep K G w G' w'∧G'.PL=upd G.PL ((S.V k).go S.cont).wi (G.PL ((S.V k).go S.cont).wi++ [k])∧G'.ev=G.ev
theorem Mine.piled {K:HK}{G:HG}{i g:Nat}{v':Value}{PL:Option Nat→List Nat}{N:Nat}(hi:i<K.c.op.length)(hv:v'.ownBlock=some g)(hf:(G.pv i).ownBlock=some g∨g=N): ∀b,Mine K ⟨upd G.pv i v',G.nv,G.ev,PL,G.wn,G.wd,G.kn,G.kd⟩ b→Mine K G b∨N≤b:=by
 intro b hm;rcases hm with h|h|h|h|h|h|⟨j,hj,h⟩|h|h;·exact .inl (.inl h)
 ·exact .inl (.inr (.inl h))
 ·exact .inl (.inr (.inr (.inl h)))
 ·exact .inl (.inr (.inr (.inr (.inl h))))
 ·exact .inl (.inr (.inr (.inr (.inr (.inl h)))))
 ·exact .inl (.inr (.inr (.inr (.inr (.inr (.inl h))))))
 ·have h':(upd G.pv i v' j).ownBlock=some b:=h;by_cases e:j=i
  ·subst e;rw [upd_same,hv]at h';injection h' with h';subst h';rcases hf with hf|hf;·exact .inl (.inr (.inr (.inr (.inr (.inr (.inr (.inl ⟨j,hi,hf⟩)))))))
   ·exact .inr (by omega)
  ·rw [upd_ne _ _ _ _ e]at h';exact .inl (.inr (.inr (.inr (.inr (.inr (.inr (.inl ⟨j,hj,h'⟩)))))))
 ·exact .inl (.inr (.inr (.inr (.inr (.inr (.inr (.inr (.inl h))))))))
 ·exact .inl (.inr (.inr (.inr (.inr (.inr (.inr (.inr (.inr h))))))))
theorem Mine.noned {K:HK}{G:HG}{g:Nat}{v':Value}{PL:Option Nat→List Nat}{N:Nat}(hv:v'.ownBlock=some g)(hf:G.nv.ownBlock=some g∨g=N): ∀b,Mine K ⟨G.pv,v',G.ev,PL,G.wn,G.wd,G.kn,G.kd⟩ b→Mine K G b∨N≤b:=by
 intro b hm;rcases hm with h|h|h|h|h|h|h|h|h;·exact .inl (.inl h)
 ·exact .inl (.inr (.inl h))
 ·exact .inl (.inr (.inr (.inl h)))
 ·exact .inl (.inr (.inr (.inr (.inl h))))
 ·exact .inl (.inr (.inr (.inr (.inr (.inl h)))))
 ·exact .inl (.inr (.inr (.inr (.inr (.inr (.inl h))))))
 ·exact .inl (.inr (.inr (.inr (.inr (.inr (.inr (.inl h)))))))
 ·have h':v'.ownBlock=some b:=h;rw [hv]at h';injection h' with h';subst h';rcases hf with hf|hf;·exact .inl (.inr (.inr (.inr (.inr (.inr (.inr (.inr (.inl hf))))))))
  ·exact .inr (by omega)
 ·exact .inl (.inr (.inr (.inr (.inr (.inr (.inr (.inr (.inr h))))))))
theorem HallAt.wi {K:HK}{q:Fr}{S:St}{G:HG}{w:World}(h:HallAt K q S G w){k:Nat}(hkn: ∀o,k∉G.PL o)(x:Option Nat):HallAt K q (setV S k ⟨(S.V k).rk,(S.V k).nx,x,(S.V k).wt⟩) G w:=by
 have hj: ∀j,((setV S k ⟨(S.V k).rk,(S.V k).nx,x,(S.V k).wt⟩).V j).rk=(S.V j).rk∧((setV S k ⟨(S.V k).rk,(S.V k).nx,x,(S.V k).wt⟩).V j).nx=(S.V j).nx∧((setV S k ⟨(S.V k).rk,(S.V k).nx,x,(S.V k).wt⟩).V j).wt=(S.V j).wt∧(j≠k→((setV S k ⟨(S.V k).rk,(S.V k).nx,x,(S.V k).wt⟩).V j).wi=(S.V j).wi):=fun j=>by
  unfold setV upd;by_cases e:j=k;·subst e;simp
  ·simp [e]
 refine⟨h.bel,h.hall,h.withs,h.kepts,h.conts,h.moveds,h.cm,fun j hjm=>?_,h.pinj,h.ranks,fun j hjm=>?_,fun j hjm=>?_,fun j hjm=>?_,h.keps,h.quo,h.piles,h.nones,h.apart,h.apartN,fun o=>⟨(h.pls o).1,fun j hjo=>⟨((h.pls o).2 j hjo).1,?_⟩⟩,h.els,h.bases,h.contb,h.ebs⟩
 ·unfold paperC;rw [(hj j).1,(hj j).2.1];exact h.papers j hjm
 ·intro i hi;have hi':i<(S.V j).rk.length:=by rw [←(hj j).1];exact hi
  rw [h.rkc j hjm i hi'];simp [(hj j).1]
 ·rw [(hj j).1,(hj j).2.1];exact h.rkl j hjm
 ·rw [(hj j).2.2.1];exact h.wts j hjm
 ·rw [(hj j).2.2.2 (fun e=>hkn o (e▸hjo))];exact((h.pls o).2 j hjo).2
theorem HallAt.plen {K:HK}{q:Fr}{S:St}{G:HG}{w:World}(h:HallAt K q S G w)(o:Option Nat):(G.PL o).length≤K.m:=by
 have h2: ∀k∈G.PL o,k∈List.range K.m:=fun k hk=>List.mem_range.2 ((h.pls o).2 k hk).1;have:=List.Nodup.length_le_of_subset (h.pls o).1 h2
 rwa [List.length_range]at this
theorem lay_any(K:HK)(q:Fr)(S:St)(G:HG)(w:World)(k:Nat)(hH:HallAt K q S G w)(hK:HKok K)(hk:k<K.m)(hkn: ∀o,k∉G.PL o)(hr: ∀i∈(S.V k).rk,i<K.c.op.length):
 Calls Tryz.prog 120 #[.pointer (some ⟨K.hb,0,none⟩),.pointer (some ⟨K.pb k,0,none⟩)] w (LaidGot K q S G k w):=by
 obtain⟨i0,hi0,hz0,hz1,hz2⟩:=info_parts info_paper;have I0:=Lib.hid hi0;have IZ0:=Lib.hid hz0;have IZ1:=Lib.hid hz1;have IZ2:=Lib.hid hz2;have HKn:=Lib.hid hkn;have HRk:=Lib.hid hr;have HH:=Lib.hid hH;obtain⟨rk,hrk⟩: ∃rk,rk=(S.V k).rk:=⟨_,rfl⟩;obtain⟨wt,hwt⟩: ∃wt,wt=(S.V k).wt:=⟨_,rfl⟩;obtain⟨wi,hwi⟩: ∃wi,wi=(S.V k).wi:=⟨_,rfl⟩;obtain⟨x0,hx0⟩: ∃x0,x0=(S.V k).nx:=⟨_,rfl⟩;have HV:=Lib.hid (show S.V k=⟨rk,x0,wi,wt⟩by rw [hrk,hwt,hwi,hx0]);obtain⟨r,hr2⟩: ∃r,r=seek S.cont (rk.drop x0) x0:=⟨_,rfl⟩;have HR:=Lib.hid hr2;have HGO:=Lib.hid (show(S.V k).go S.cont=⟨rk,r.1,r.2,wt⟩by rw [HV.out,hr2];rfl);have hl12:rk.length≤12:=by rw [hrk];exact(hH.rkl k hk).2.1
 have hx0l:x0≤rk.length:=by rw [hrk,hx0];exact(hH.rkl k hk).2.2
 have hrn:rk.length≤K.rn k:=by rw [hrk];exact(hH.rkl k hk).1
 have hrg:K.rg k<w.heap.size:=lt_of_heap (hH.ranks k hk).1;rw [←hrk]at HRk;have hm4:=hK.m4;clear hi0 hz0 hz1 hz2 hH hkn hr hrk hwt hwi hx0 hr2 hK;go_enter Tryz.func120,Tryz.ntmps120;go_wp2_with fail;go_loopg [] (rk.length-x0) (fun N wr=> ∃nx:Nat,x0≤nx∧nx≤rk.length∧N=rk.length-nx∧seek S.cont (rk.drop nx) nx=r∧HallAt K q (setV S k ⟨rk,nx,wi,wt⟩) G wr∧HStep K G w G wr);case atStart=>exact⟨x0,Nat.le_refl _,hx0l,rfl,HR.out.symm,by rw [←HV.out,setV_same];exact HH.out,HStep.refl _ _ _⟩
 case round=>
 obtain⟨nx,hx1,hx2,rfl,hsk,hA,hst⟩:=hrel;have HA:=Lib.hid hA;have ST:=Lib.hid hst;have SK:=Lib.hid hsk
 have PK:=Lib.hid (show wr.heap[K.pb k]?=some (.cells #[.slice (some ⟨K.rg k,0,none⟩) rk.length (K.rn k),G.wn k,G.wd k,.int .i64 (nx:Int)] 168 (0,0))by
  have:=hA.papers k hk;unfold paperC at this;rw [setV_V]at this;exact this)
 have hpl:K.pb k<wr.heap.size:=lt_of_heap PK.out;have d3: ∀x:BelowT wr.heap.size wr,x.w.cell? ⟨K.pb k,3,none⟩=some (.int .i64 (nx:Int)):=fun x=>cell_of_row _ _ 3 _ _ _ (bel_keep x.2 hpl PK.out);have d0: ∀x:BelowT wr.heap.size wr,x.w.cell? ⟨K.pb k,0,none⟩=some (.slice (some ⟨K.rg k,0,none⟩) rk.length (K.rn k)):=fun x=>cell_of_row _ _ 0 _ _ _ (bel_keep x.2 hpl PK.out);clear hA hst hsk;by_cases hlt:nx<rk.length;case neg=>
  have dk:decide ((nx:Int)<(rk.length:Int))=false:=decide_eq_false (by omega);have dk2:decide (nx<rk.length)=false:=decide_eq_false hlt;go_upto_region 0 with(fail);refine Seg.wp_region_segs (fun w'=> ∃x:BelowT wr.heap.size wr,w'=x.w) [] [0,1,2,3,4,5,6,7,8] 9 (by kernel_rfl) (by kernel_rfl) (fun _ _ d _ _ h=>by cases d<;>exact h) (⟨⟨_,(Below.refl _ _).drew⟩,rfl⟩) ?_;simp only [List.map_cons,List.map_nil,Seg.opAt,List.drop_succ_cons,List.drop_zero,Seg.wpSegs,Array.getD_eq_getD_getElem?,List.getElem?_toArray,List.getElem?_cons_succ,List.getElem?_cons_zero,Option.getD_some];repeat (any_goals (first|go_big_quiet_step (fail)|quiet_step (fail)))
  refine wpQuiet_nil ?_;have hnx:nx=rk.length:=by omega
  have HE:=Lib.hid (show r=(nx,none)from SK.out.symm.trans (seek_end _ _ _ (by omega)));clear d3 d0;go_upto_region 5 with(fail);refine wp_abs (fun w1=>Below wr.heap.size wr w1) (Below.refl _ _).drew (fun w1 hw1=>?_);have B1:=Lib.hid hw1;have H1:=Lib.hid (HA.out.below hw1);obtain⟨on,cn,hnv,hnc,_⟩:=vsAt_own H1.out.nones.own;have HNV:=Lib.hid hnv;have k10:w1.cell? ⟨K.hb,10,none⟩=some (.slice on (G.PL none).length cn):=by rw [←hnv];exact cell_of_row w1 K.hb 10 _ _ _ H1.out.hall
  have hll:=H1.out.plen none;have hb0:K.w0.heap.size≤w1.heap.size:=H1.out.bel.size;clear hw1 hnv hnc;go_wp2_with (first
   |(
    at_builtin;refine wpList_append_good (good:=noLimb) _ rfl (.tmp 59) (.tmp 61) 113 rfl K.w0.heap.size 165 i0 (.pointer none) 1 8 Tryz.underlying113 I0.out IZ0.out IZ1.out IZ2.out rfl (by decide) (fun u hu=>by simp [Value.cells]at hu;subst hu;rfl) (.slice on (G.PL none).length cn) (G.PL none).length (ptrs K (G.PL none)) rfl (HNV.out▸H1.out.nones.below ((Below.refl _ _).alloc (Nat.le_refl _) _)) ⟨w1.heap.size,0,none⟩ 1 1 [.pointer (some ⟨K.pb k,0,none⟩)] rfl rfl (news_blk (heap_at rfl)) (fun u hu=>by rw [List.mem_singleton.1 hu];rfl) (fun u hu=>by rw [List.mem_singleton.1 hu];rfl) (fun _=>by decide) (by unfold maxLen;omega) (by omega) (by simp;omega) _ rfl ?_;intro g9 c9 w2 own hg hf hlt9;have HA2:=Lib.hid (H1.out.below ((Below.refl w1.heap.size w1).alloc (Nat.le_refl _) (.cells #[.pointer (some ⟨K.pb k,0,none⟩)] 165)));have t1:=Lib.hid (show Trn 165 K.w0.heap.size G.nv.ownBlock _ w2 from⟨HNV.out▸hg,GRow.typed HA2.out.nones⟩);have h2:=t1.out.keep HA2.out.hall (by decide);have n10:w2.cell? ⟨K.hb,10,none⟩=some G.nv:=cell_of_row w2 K.hb 10 _ _ _ h2;have z10:w2.frozen? ⟨K.hb,10,none⟩=false:=frozen_of_row w2 K.hb 10 _ _ h2))
  have HWn:=Lib.hid (show HallAt K q (setV S k ⟨rk,nx,none,wt⟩) G _ by
   have:=HA2.out.wi HKn.out none;rw [setV_V,setV_setV]at this;exact this)
  have hg':World.grownBy _ w2 G.nv.ownBlock:=HNV.out▸hg;have HN:=Lib.hid (HWn.out.noned hk HKn.out hg' own rfl (HNV.out▸hf) (by rw [setV_V]));have hH2:=HA2.out.hall
  go_end0
  unfold LaidGot;rw [HGO.out,HE.out];refine⟨rfl,_,HN.out,(ST.out.below B1.out).trans ((hstep_below ((Below.refl _ _).alloc (Nat.le_refl _) _)).trans (hstep_two hg' (fun x hx=>.inr (.inr (.inr (.inr (.inr (.inr (.inr (.inl hx)))))))) (only_cell 10 _) (.inl rfl) (Mine.noned rfl (HNV.out▸hf)))),rfl,rfl⟩
 have dk:decide ((nx:Int)<(rk.length:Int))=true:=decide_eq_true (by omega);have dk2:decide (nx<rk.length)=true:=decide_eq_true hlt;have dki:(nx:Int)<(rk.length:Int):=by omega
 obtain⟨i,hi⟩: ∃i,i=rk[nx]:=⟨_,rfl⟩;have hin:=HRk.out i (by rw [hi];exact List.getElem_mem hlt);have HS1:=Lib.hid (show S.cont i=true→r=(nx+1,some i)from fun h=>by rw [←SK.out,seek_step _ _ _ hlt,←hi,if_pos h]);have HS0:=Lib.hid (show S.cont i=false→seek S.cont (rk.drop (nx+1)) (nx+1)=r from fun h=>by rw [←SK.out,seek_step _ _ _ hlt,←hi,h];rfl);have RG:=Lib.hid (HA.out.ranks k hk)
 have RC:=Lib.hid (show(K.rc k)[nx]?=some (.int .i64 (i:Int))by
  have h1:=HA.out.rkc k hk nx (by rw [setV_V];exact hlt);rw [h1,hi];simp [setV_V])
 clear hi SK;go_upto_region 0 with(fail);refine Seg.wp_region_segs (fun w'=> ∃x:BelowT wr.heap.size wr,w'=x.w) [] [0,1,2,3,4,5,6,7,8] 9 (by kernel_rfl) (by kernel_rfl) (fun _ _ d _ _ h=>by cases d<;>exact h) (⟨⟨_,(Below.refl _ _).drew⟩,rfl⟩) ?_;simp only [List.map_cons,List.map_nil,Seg.opAt,List.drop_succ_cons,List.drop_zero,Seg.wpSegs,Array.getD_eq_getD_getElem?,List.getElem?_toArray,List.getElem?_cons_succ,List.getElem?_cons_zero,Option.getD_some];repeat (any_goals (first|go_big_quiet_step (fail)|quiet_step (fail)))
 refine wpQuiet_nil ?_;go_upto_region 1 with(fail);refine wp_abs (fun w1=>Below wr.heap.size wr w1) (Below.refl _ _).drew (fun w1 hw1=>?_);have B1:=Lib.hid hw1;have H1:=Lib.hid (HA.out.below hw1);have ST1:=Lib.hid (ST.out.below hw1);have PK1:=Lib.hid (bel_keep hw1 hpl PK.out);have RG1:=Lib.hid (bel_keep hw1 (lt_of_heap RG.out.1) RG.out.1);clear hw1 d3 d0 HA ST PK hpl RG B1;have hpl:K.pb k<w1.heap.size:=lt_of_heap PK1.out;have hgl:K.rg k<w1.heap.size:=lt_of_heap RG1.out;have d3: ∀x:BelowT w1.heap.size w1,x.w.cell? ⟨K.pb k,3,none⟩=some (.int .i64 (nx:Int)):=fun x=>cell_of_row _ _ 3 _ _ _ (bel_keep x.2 hpl PK1.out);have d0: ∀x:BelowT w1.heap.size w1,x.w.cell? ⟨K.pb k,0,none⟩=some (.slice (some ⟨K.rg k,0,none⟩) rk.length (K.rn k)):=fun x=>cell_of_row _ _ 0 _ _ _ (bel_keep x.2 hpl PK1.out);have d1: ∀x:BelowT w1.heap.size w1,x.w.cell? ⟨K.rg k,nx,none⟩=some (.int .i64 (i:Int)):=fun x=>(cell_of_row _ _ nx _ _ _ (bel_keep x.2 hgl RG1.out)).trans RC.out;have p1:w1.cell? ⟨K.rg k,nx,none⟩=some (.int .i64 (i:Int)):=(cell_of_row _ _ nx _ _ _ RG1.out).trans RC.out;refine Seg.wp_region_segs (fun w'=> ∃x:BelowT w1.heap.size w1,w'=x.w) [] [0,1,2,3,4,5,6,7] 8 (by kernel_rfl) (by kernel_rfl) (fun _ _ d _ _ h=>by cases d<;>exact h) (⟨⟨_,(Below.refl _ _).drew⟩,rfl⟩) ?_;simp only [List.map_cons,List.map_nil,Seg.opAt,List.drop_succ_cons,List.drop_zero,Seg.wpSegs,Array.getD_eq_getD_getElem?,List.getElem?_toArray,List.getElem?_cons_succ,List.getElem?_cons_zero,Option.getD_some];repeat (any_goals (first|go_big_quiet_step (fail)|quiet_step (fail)))
 refine wpQuiet_nil ?_;go_upto_region 2 with(fail);refine wp_abs (fun w2=>Below w1.heap.size w1 w2) (Below.refl _ _).drew (fun w2 hw2=>?_);have H2:=Lib.hid (H1.out.below hw2);have ST2:=Lib.hid (ST1.out.below hw2);have PK2:=Lib.hid (bel_keep hw2 hpl PK1.out);clear hw2 d3 d0 d1 p1 H1 ST1 PK1 RG1 hpl hgl;have p3:w2.cell? ⟨K.pb k,3,none⟩=some (.int .i64 (nx:Int)):=cell_of_row _ _ 3 _ _ _ PK2.out;have z3:w2.frozen? ⟨K.pb k,3,none⟩=false:=frozen_of_row w2 _ 3 _ _ PK2.out;go_upto_region 3 with(fail);have HP3:=heap_setCell_same w2 (K.pb k) 3 _ _ (.int .i64 ((nx:Int)+1)) PK2.out;have H3:HallAt K q (setV S k ⟨rk,nx+1,wi,wt⟩) G (w2.setCell ⟨K.pb k,3,none⟩ (.int .i64 ((nx:Int)+1))):=by
  have h1:=H2.out.paper hk (nx+1) wt (G.wn k) (G.wd k) (only_cell 3 (.int .i64 ((nx:Int)+1))) (by rw [HP3,setV_V];rfl) (by rw [setV_V];exact hlt) (by have:=H2.out.wts k hk;rw [setV_V]at this;exact this);have e1:(⟨upd (setV S k ⟨rk,nx,wi,wt⟩).V k ⟨((setV S k ⟨rk,nx,wi,wt⟩).V k).rk,nx+1,((setV S k ⟨rk,nx,wi,wt⟩).V k).wi,wt⟩,S.cont,S.moved,S.kept,S.el⟩:St)=setV S k ⟨rk,nx+1,wi,wt⟩:=by
   rw [setV_V];exact setV_setV S k ⟨rk,nx,wi,wt⟩ ⟨rk,nx+1,wi,wt⟩
  have e2:upd G.wn k (G.wn k)=G.wn:=upd_id _ _;have e3:upd G.wd k (G.wd k)=G.wd:=upd_id _ _;rw [e2,e3]at h1;exact e1▸h1
 refine wp_abs (fun w3=>HallAt K q (setV S k ⟨rk,nx+1,wi,wt⟩) G w3∧HStep K G w G w3) ⟨H3,ST2.out.trans (only_step (q:=q) (S:=S) (only_cell 3 _) (.inr (.inr (.inr (.inr (.inr (.inl ⟨k,hk,rfl⟩)))))) (fun b h=>h))⟩ (fun w3 hw3=>?_);have H3':=Lib.hid hw3.1;have ST3:=Lib.hid hw3.2;have k12:w3.cell? ⟨K.hb,12,none⟩=some (.slice (some ⟨K.cb,0,none⟩) K.c.op.length K.c.op.length):=cell_of_row w3 K.hb 12 _ _ _ hw3.1.hall;have kc:w3.cell? ⟨K.cb,i,none⟩=some (.bool (S.cont i)):=bool_cell hw3.1.conts hin;have dii:(i:Int)<(K.c.op.length:Int):=by omega
 clear hw3 H3 HP3 p3 z3 H2 ST2 PK2 dk dk2;cases hci:S.cont i with
 |
  false=>
  rw [hci]at kc;have HN:=Lib.hid (HS0.out hci);clear hci HS1;go_wp2_with fail
  go_roundg (rk.length-(nx+1))
  case rel=>exact⟨nx+1,by omega,by omega,rfl,HN.out,H3'.out,ST3.out⟩
  case measure=>omega
 |
  true=>
  rw [hci]at kc;have HE:=Lib.hid (HS1.out hci);clear hci HS0;go_upto_region 4 with(fail);clear k12 kc;obtain⟨on,cn,hnv,hnc,_⟩:=vsAt_own (H3'.out.piles i hin).own;have HNV:=Lib.hid hnv;obtain⟨M,hM⟩: ∃M,M=w3.heap.size:=⟨_,rfl⟩;obtain⟨b,hb⟩: ∃b,b=(G.pv i).ownBlock.getD M:=⟨_,rfl⟩;have hbH:K.hb<M:=by rw [hM];exact lt_of_heap H3'.out.hall
  have hbW:K.wb<M:=by rw [hM];exact lt_of_heap H3'.out.withs
  have hne:K.hb≠b∧K.wb≠b:=by
   cases ho:(G.pv i).ownBlock with
   |none=>rw [ho]at hb;simp at hb;omega
   |
    some g=>
    rw [ho]at hb;simp at hb;subst hb;obtain⟨_,cs,f,h1,_⟩:=GRow.typed (H3'.out.piles i hin) b ho;exact⟨ne_of_types H3'.out.hall h1 (by decide),ne_of_types H3'.out.withs h1 (by decide)⟩
  have d9: ∀x:GrT b M w3,x.w.cell? ⟨K.hb,9,none⟩=some (.slice (some ⟨K.wb,0,none⟩) K.c.op.length K.c.op.length):=fun x=>grt_cell x hbH hne.1 (cell_of_row w3 K.hb 9 _ _ _ H3'.out.hall);have di: ∀x:GrT b M w3,x.w.cell? ⟨K.wb,i,none⟩=some (.slice on (G.PL (some i)).length cn):=fun x=>grt_cell x hbW hne.2 (by rw [←hnv];exact with_cell H3'.out.withs hin);have HM:=Lib.hid hM;have HBB:=Lib.hid hb;have hll:=H3'.out.plen (some i);have hb0:K.w0.heap.size≤M:=by rw [hM];exact H3'.out.bel.size
  clear hnv hnc hM hb;refine Seg.wp_region_segs (fun w'=> ∃x:GrT b M w3,w'=x.w) [([0,1,2,3,4,5,6,7,8,9,10,11,12],13),([],14)] [] 15 (by kernel_rfl) (by kernel_rfl) (fun _ _ d _ _ h=>by cases d<;>exact h) (grT_of HM.out (grown_only (Only.refl _ w3).drew)) ?_;simp only [List.map_cons,List.map_nil,Seg.opAt,List.drop_succ_cons,List.drop_zero,Seg.wpSegs,Array.getD_eq_getD_getElem?,List.getElem?_toArray,List.getElem?_cons_succ,List.getElem?_cons_zero,Option.getD_some];repeat (any_goals (first|go_big_quiet_step (fail)|quiet_step (fail)))
  refine wpQuiet_nil ?_;intro Kc hK;simp only [Region.wanted,if_true];go_wp2_with fail;have hbA:Below w3.heap.size w3 (w3.alloc (.cells #[.pointer (some ⟨K.pb k,0,none⟩)] 165)).drew:=((Below.refl _ _).alloc (Nat.le_refl _) _).drew;have hnw: ∀j u,([.pointer (some ⟨K.pb k,0,none⟩)]:List Value)[j]?=some u→(w3.alloc (.cells #[.pointer (some ⟨K.pb k,0,none⟩)] 165)).drew.cell? ((⟨w3.heap.size,0,none⟩:Addr).add j)=some u:=news_blk (heap_at rfl);refine hK _ _ (grT_of HM.out (grown_below hbA)) ?_;clear hK Kc;have HA4:=Lib.hid (H3'.out.below hbA);have ST4:=Lib.hid (ST3.out.below hbA);have HG4:=Lib.hid (show w3.grownBy (w3.alloc (.cells #[.pointer (some ⟨K.pb k,0,none⟩)] 165)).drew (some b)from grown_below hbA);have hs4:M≤(w3.alloc (.cells #[.pointer (some ⟨K.pb k,0,none⟩)] 165)).drew.heap.size:=by rw [HM.out];exact hbA.size
  generalize (w3.alloc (.cells #[.pointer (some ⟨K.pb k,0,none⟩)] 165)).drew=w4 at*;clear hbA;repeat (any_goals (first|go_big_quiet_step (fail)|quiet_step (fail)))
  refine wpQuiet_nil ?_;intro Kc hK;simp only [Region.wanted,if_true];refine wp_append_good (good:=noLimb) _ (.tmp 50) (.tmp 52) 113 rfl K.w0.heap.size 165 i0 (.pointer none) 1 8 Tryz.underlying113 I0.out IZ0.out IZ1.out IZ2.out rfl (by decide) (fun u hu=>by simp [Value.cells]at hu;subst hu;rfl) (.slice on (G.PL (some i)).length cn) (G.PL (some i)).length (ptrs K (G.PL (some i))) rfl (HNV.out▸HA4.out.piles i hin) ⟨w3.heap.size,0,none⟩ 1 1 [.pointer (some ⟨K.pb k,0,none⟩)] rfl rfl hnw (fun u hu=>by rw [List.mem_singleton.1 hu];rfl) (fun u hu=>by rw [List.mem_singleton.1 hu];rfl) (fun _=>by decide) (by unfold maxLen;omega) (by omega) (by omega) _ rfl (fun g9 c9 w5 own hg hf hlt9=>?_);have hg':w4.grownBy w5 (G.pv i).ownBlock:=HNV.out▸hg;have hgb:w3.grownBy w5 (some b):=by
   refine⟨hg'.os.trans HG4.out.os,hg'.tape.trans HG4.out.tape,hg'.output.trans HG4.out.output,Nat.le_trans HG4.out.size hg'.size,fun j hj hne2=>(hg'.block j (Nat.lt_of_lt_of_le hj HG4.out.size) (fun e=>hne2 ?_)).trans (HG4.out.block j hj hne2)⟩;rw [HBB.out,←e];rfl
  refine hK _ _ (grT_of HM.out hgb) ?_;clear hK Kc;have t1:=Lib.hid (show Trn 165 K.w0.heap.size (G.pv i).ownBlock w4 w5 from⟨hg',GRow.typed (HA4.out.piles i hin)⟩);have h9:=t1.out.keep HA4.out.withs (by decide);have nwi:w5.cell? ⟨K.wb,i,none⟩=some (G.pv i):=with_cell h9 hin;have zwi:w5.frozen? ⟨K.wb,i,none⟩=false:=frozen_of_row w5 K.wb i _ _ h9;repeat (any_goals (first|go_big_quiet_step (fail)|quiet_step (fail)))
  refine wpQuiet_nil ?_;go_wp2_with fail
  have HWn:=Lib.hid (show HallAt K q (setV S k ⟨rk,nx+1,some i,wt⟩) G w4 by
   have:=HA4.out.wi HKn.out (some i);rw [setV_V,setV_setV]at this;exact this)
  have HN:=Lib.hid (HWn.out.piled hin hk HKn.out hg' own rfl (HNV.out▸hf) (by rw [setV_V]))
  go_end0
  unfold LaidGot;rw [HGO.out,HE.out];exact⟨rfl,_,HN.out,ST4.out.trans (hstep_two hg' (fun x hx=>.inr (.inr (.inr (.inr (.inr (.inr (.inl ⟨i,hin,hx⟩))))))) (only_cell i _) (.inr (.inl rfl)) (Mine.piled hin rfl (HNV.out▸hf))),rfl,rfl⟩
def nats(l:List Nat):List Int:=l.map fun i:Nat=>(i:Int)
theorem nats_len(l:List Nat):(nats l).length=l.length:=by simp [nats]
theorem elect_take(S:St)(l:List Nat)(j:Nat)(h:j<l.length):(⟨S.V,upd (S.elect (l.take j)).cont l[j] false,S.moved,S.kept,(S.elect (l.take j)).el++ [l[j]]⟩:St)=S.elect (l.take (j+1)):=by
 have e1:=List.take_succ_eq_append_getElem h;unfold St.elect;congr 1
 ·funext x;simp only [e1,List.mem_append,List.mem_singleton];unfold upd;by_cases e:x=l[j];·simp [e]
  ·simp [e]
 ·rw [e1,List.append_assoc]
theorem Mine.eld {K:HK}{G:HG}{g:Nat}{v':Value}{N:Nat}(hv:v'.ownBlock=some g)(hf:G.ev.ownBlock=some g∨g=N): ∀b,Mine K ⟨G.pv,G.nv,v',G.PL,G.wn,G.wd,G.kn,G.kd⟩ b→Mine K G b∨N≤b:=by
 intro b hm;rcases hm with h|h|h|h|h|h|h|h|h;·exact .inl (.inl h)
 ·exact .inl (.inr (.inl h))
 ·exact .inl (.inr (.inr (.inl h)))
 ·exact .inl (.inr (.inr (.inr (.inl h))))
 ·exact .inl (.inr (.inr (.inr (.inr (.inl h)))))
 ·exact .inl (.inr (.inr (.inr (.inr (.inr (.inl h))))))
 ·exact .inl (.inr (.inr (.inr (.inr (.inr (.inr (.inl h)))))))
 ·exact .inl (.inr (.inr (.inr (.inr (.inr (.inr (.inr (.inl h))))))))
 ·have h':v'.ownBlock=some b:=h;rw [hv]at h';injection h' with h';subst h';rcases hf with hf|hf;·exact .inl (.inr (.inr (.inr (.inr (.inr (.inr (.inr (.inr hf))))))))
  ·exact .inr (by omega)
theorem own_cell {w:World}{base:Nat}{e:TypeId}{n:Nat}{o:Option Addr}{cap:Nat}{l:List Nat}(h:w.ownsRow base e 1 (.slice o n cap) n (ivals (nats l))){j:Nat}(hj:j<l.length): ∃g,o=some ⟨g,0,none⟩∧w.cell? ⟨g,j,none⟩=some (.int .i64 ((l[j]:Nat):Int)):=by
 rcases h.2 with⟨hv,h0⟩|⟨g,c,cur,hv,_⟩;·have:=h.1;simp [ivals,nats]at this;omega
 ·injection hv with h1;refine⟨g,h1,?_⟩;have h2:=h.cells (g:=g) (by rw [h1];rfl) j (.int .i64 ((l[j]:Nat):Int)) (by simp [ivals,nats,hj])
  rwa [add_cell']at h2
theorem elect_any(K:HK)(q:Fr)(S:St)(G:HG)(w:World)(l:List Nat)(base:Nat)(o:Option Addr)(cap:Nat)(hH:HallAt K q S G w)(hn:K.c.op.length≤12)(hl: ∀i∈l,i<K.c.op.length)(hll:S.el.length+l.length≤1000)
 (hr:w.ownsRow base 3 1 (.slice o l.length cap) l.length (ivals (nats l))) (hX: ∀x,(Value.slice o l.length cap).ownBlock=some x→ ¬Mine K G x):
 Calls Tryz.prog 129 #[.pointer (some ⟨K.hb,0,none⟩),.slice o l.length cap] w fun e w'=>e=.returned (.tuple #[])∧ ∃G',HallAt K q (S.elect l) G' w'∧HStep K G w G' w'∧G'.PL=G.PL:=by
 obtain⟨i0,hi0,hz0,hz1,hz2⟩:=info_parts info_i64;have I0:=Lib.hid hi0;have IZ0:=Lib.hid hz0;have IZ1:=Lib.hid hz1;have IZ2:=Lib.hid hz2;have HH:=Lib.hid hH;have HL:=Lib.hid hl;have HR:=Lib.hid hr;have HX:=Lib.hid hX;clear hi0 hz0 hz1 hz2 hH hl hr hX;go_enter Tryz.func129,Tryz.ntmps129;go_wp2_with fail;go_loopw [8] (fun v wr=> ∃(j:Nat) (G1:HG),v=.int .i64 j∧j≤l.length∧HallAt K q (S.elect (l.take j)) G1 wr∧HStep K G w G1 wr∧G1.PL=G.PL) (fun v _=>l.length-(intOf v).toNat);case atStart=>
  refine⟨0,G,rfl,Nat.zero_le _,?_,HStep.refl _ _ _,rfl⟩;have:S.elect (l.take 0)=S:=by simp [St.elect]
  rw [this];exact HH.out
 case round=>
 obtain⟨j,G1,rfl,hj,hA,hs,hpl⟩:=hrel;have HA:=Lib.hid hA;have ST:=Lib.hid hs;have PLE:=Lib.hid hpl;clear hA hs hpl;by_cases hlt:j<l.length;case neg=>
  have dk:decide ((j:Int)<(l.length:Int))=false:=decide_eq_false (by omega);have dk2:decide (j<l.length)=false:=decide_eq_false hlt;obtain rfl:j=l.length:=by omega
  rw [List.take_length]at HA;go_wp2_with fail
  go_end0
  exact⟨rfl,G1,HA.out,ST.out,PLE.out⟩
 have dk:decide ((j:Int)<(l.length:Int))=true:=decide_eq_true (by omega);have dk2:decide (j<l.length)=true:=decide_eq_true hlt;have dkj:(j:Int)<(l.length:Int):=by omega
 have hR:=ST.out.own HR.out HX.out;obtain⟨gl,ho,hcl⟩:=own_cell hR hlt;have hin:=HL.out _ (List.getElem_mem hlt);have HTK:=Lib.hid (elect_take S l j hlt);have hel:(S.elect (l.take j)).el.length=S.el.length+j:=by simp [St.elect];omega
 have HEL:=Lib.hid hel;subst ho;generalize l[j]=i at*;have k12:wr.cell? ⟨K.hb,12,none⟩=some (.slice (some ⟨K.cb,0,none⟩) K.c.op.length K.c.op.length):=cell_of_row wr K.hb 12 _ _ _ HA.out.hall;have kc:=bool_cell HA.out.conts hin;have zc:wr.frozen? ⟨K.cb,i,none⟩=false:=frozen_of_row wr _ i _ _ HA.out.conts;have dii:(i:Int)<(K.c.op.length:Int):=by omega
 go_upto_region 4 with(fail);have HO:=HA.out.outed hin;refine wp_abs (fun w2=>HallAt K q ⟨S.V,upd (S.elect (l.take j)).cont i false,S.moved,S.kept,(S.elect (l.take j)).el⟩ G1 w2∧HStep K G w G1 w2) ⟨HO,ST.out.trans (only_step (q:=q) (S:=S) (only_cell i _) (.inr (.inr (.inr (.inl rfl)))) (fun b h=>h))⟩ (fun w2 hw2=>?_);have H2:=Lib.hid hw2.1;have ST2:=Lib.hid hw2.2;obtain⟨oe,ce,hev,hec,_⟩:=isAt_own hw2.1.els.own;rw [List.length_map]at hev;have HEV:=Lib.hid hev;have k14:w2.cell? ⟨K.hb,14,none⟩=some (.slice oe (S.elect (l.take j)).el.length ce):=by rw [←hev];exact cell_of_row w2 K.hb 14 _ _ _ hw2.1.hall
 clear hw2 HO k12 kc zc hcl hR hev hec HA ST hel;go_wp2_with (first
  |(
   at_builtin;refine wpList_append_good (good:=noLimb) _ rfl (.tmp 22) (.tmp 24) 29 rfl K.eb 3 i0 (.int .i64 0) 1 8 Tryz.underlying29 I0.out IZ0.out IZ1.out IZ2.out rfl (by decide) (fun u hu=>by simp [Value.cells]at hu;subst hu;rfl) (.slice oe (S.elect (l.take j)).el.length ce) (S.elect (l.take j)).el.length (ivals (nats (S.elect (l.take j)).el)) rfl (HEV.out▸H2.out.els.below ((Below.refl _ _).alloc (Nat.le_refl _) _)) ⟨w2.heap.size,0,none⟩ 1 1 [.int .i64 (i:Int)] rfl rfl (news_blk (heap_at rfl)) (fun u hu=>by rw [List.mem_singleton.1 hu];rfl) (fun u hu=>by rw [List.mem_singleton.1 hu];rfl) (fun _=>by decide) (by rw [HEL.out];unfold maxLen;omega) (by rw [HEL.out];omega) (by have:=H2.out.ebs;simp;omega) _ rfl ?_;intro g9 c9 w3 own hg hf hlt9;have HA2:=Lib.hid (H2.out.below ((Below.refl w2.heap.size w2).alloc (Nat.le_refl _) (.cells #[.int .i64 (i:Int)] 3)));have t1:=Lib.hid (show Trn 3 K.w0.heap.size G1.ev.ownBlock _ w3 from⟨HEV.out▸hg,GRow.typed (GRow.lift HA2.out.els HA2.out.bases.2.2.2.2.2.1)⟩);have h2:=t1.out.keep HA2.out.hall (by decide);have n14:w3.cell? ⟨K.hb,14,none⟩=some G1.ev:=cell_of_row w3 K.hb 14 _ _ _ h2;have z14:w3.frozen? ⟨K.hb,14,none⟩=false:=frozen_of_row w3 K.hb 14 _ _ h2))
 have hg':World.grownBy _ w3 G1.ev.ownBlock:=HEV.out▸hg;have HN:=Lib.hid (HA2.out.eld hg' own);have HS:=Lib.hid (ST2.out.trans ((hstep_below ((Below.refl w2.heap.size w2).alloc (Nat.le_refl _) (.cells #[.int .i64 (i:Int)] 3))).trans (hstep_two hg' (fun x hx=>.inr (.inr (.inr (.inr (.inr (.inr (.inr (.inr hx)))))))) (only_cell 14 (.slice (some ⟨g9,0,none⟩) ((S.elect (l.take j)).el.length+1) c9)) (.inl rfl) (Mine.eld (G:=G1) (g:=g9) (v':=.slice (some ⟨g9,0,none⟩) ((S.elect (l.take j)).el.length+1) c9) rfl (HEV.out▸hf)))));go_roundw;case rel=>exact⟨j+1,_,by go_num,by omega,HTK.out▸HN.out,HS.out,PLE.out⟩
 case measure=>simp [intOf];omega
theorem mine_lt {K:HK}{q:Fr}{S:St}{G:HG}{w:World}(h:HallAt K q S G w){b:Nat}(hm:Mine K G b):b<w.heap.size:=by
 obtain⟨cs,T,f,h1,_⟩:=h.mineT hm;exact lt_of_heap h1
theorem taken_not {K:HK}{q:Fr}{S:St}{G:HG}{w:World}(h:HallAt K q S G w){i:Nat}(hi:i<K.c.op.length){PL:Option Nat→List Nat}{x:Nat}(hx:(G.pv i).ownBlock=some x): ¬Mine K ⟨upd G.pv i (.slice none 0 0),G.nv,G.ev,PL,G.wn,G.wd,G.kn,G.kd⟩ x:=by
 obtain⟨_,cs,f,h1,_⟩:=GRow.typed (h.piles i hi) x hx;intro hm;rcases hm with rfl|rfl|rfl|rfl|rfl|⟨k,hk,rfl⟩|⟨j,hj,hv⟩|hv|hv;·exact ne_of_types h.hall h1 (by decide) rfl
 ·exact ne_of_types h.withs h1 (by decide) rfl
 ·exact ne_of_types h.kepts h1 (by decide) rfl
 ·exact ne_of_types h.conts h1 (by decide) rfl
 ·exact ne_of_types h.moveds h1 (by decide) rfl
 ·exact ne_of_types (h.papers k hk) h1 (by decide) rfl
 ·have hv':(upd G.pv i (.slice none 0 0) j).ownBlock=some x:=hv;by_cases e:j=i;·subst e;rw [upd_same]at hv';cases hv'
  ·rw [upd_ne _ _ _ _ e]at hv';rcases h.apart j i hj hi e with h2|h2;·rw [hv']at h2;cases h2
   ·rw [hv',hx]at h2;exact h2 rfl
 ·have hv':G.nv.ownBlock=some x:=hv;rcases h.apartN i hi with h2|h2;·rw [hx]at h2;cases h2
  ·rw [hv',hx]at h2;exact h2 rfl
 ·have hv':G.ev.ownBlock=some x:=hv;obtain⟨_,cs',f',h2,_⟩:=GRow.typed h.els x hv';exact ne_of_types h2 h1 (by decide) rfl
theorem Mine.taken {K:HK}{G:HG}{i:Nat}{PL:Option Nat→List Nat}: ∀b,Mine K ⟨upd G.pv i (.slice none 0 0),G.nv,G.ev,PL,G.wn,G.wd,G.kn,G.kd⟩ b→Mine K G b:=by
 intro b hm;rcases hm with h|h|h|h|h|h|⟨j,hj,hv⟩|h|h;·exact .inl h
 ·exact .inr (.inl h)
 ·exact .inr (.inr (.inl h))
 ·exact .inr (.inr (.inr (.inl h)))
 ·exact .inr (.inr (.inr (.inr (.inl h))))
 ·exact .inr (.inr (.inr (.inr (.inr (.inl h)))))
 ·have hv':(upd G.pv i (.slice none 0 0) j).ownBlock=some b:=hv;by_cases e:j=i;·subst e;rw [upd_same]at hv';cases hv'
  ·rw [upd_ne _ _ _ _ e]at hv';exact .inr (.inr (.inr (.inr (.inr (.inr (.inl ⟨j,hj,hv'⟩))))))
 ·exact .inr (.inr (.inr (.inr (.inr (.inr (.inr (.inl h)))))))
 ·exact .inr (.inr (.inr (.inr (.inr (.inr (.inr (.inr h)))))))
def goV(S:St)(f:Fr)(L:List Nat):St:=⟨fun k=>if k∈L then((S.V k).by f).go S.cont else S.V k,S.cont,S.moved,S.kept,S.el⟩
theorem goV_nil(S:St)(f:Fr):goV S f []=S:=by simp [goV]
theorem goV_step(S:St)(f:Fr)(L:List Nat)(t:Nat)(h:t<L.length)(hnd:L.Nodup):setV (setV (goV S f (L.take t)) L[t] ((S.V L[t]).by f)) L[t] (((S.V L[t]).by f).go S.cont)=goV S f (L.take (t+1))∧(goV S f (L.take t)).V L[t]=S.V L[t]:=by
 have e1:=List.take_succ_eq_append_getElem h;have hn:L[t]∉L.take t:=by
  intro hm;have h2:(L.take (t+1)).Nodup:=hnd.sublist (List.take_sublist _ _);rw [e1]at h2;exact(List.nodup_append.1 h2).2.2 L[t] hm L[t] (by simp) rfl
 constructor
 ·rw [setV_setV];unfold setV goV;congr 1;funext k;simp only [e1,List.mem_append,List.mem_singleton];unfold upd;by_cases e:k=L[t];·simp [e]
  ·simp [e]
 ·unfold goV;simp [hn]
structure Fulls(K:HK)(S:St)(G:HG)(R:List Nat):Prop where
 all: ∀k,k<K.m→k∉R→k∈G.PL (S.V k).wi
 not: ∀k∈R,∀o,k∉G.PL o
def Full(K:HK)(S:St)(G:HG):Prop:= ∀k,k<K.m→k∈G.PL (S.V k).wi
theorem goOn_any(K:HK)(q:Fr)(S:St)(G:HG)(w:World)(i:Nat)(f:Fr)(fa fb:Value)(hH:HallAt K q S G w)(hK:HKok K)(hi:i<K.c.op.length)(hF:Full K S G)(hf:FrV w f fa fb)(sf:Sml f)
 (hw: ∀k∈G.PL (some i),Sml (S.V k).wt∧Sml ((S.V k).wt.mul f)) (hrk: ∀k,k<K.m→ ∀j∈(S.V k).rk,j<K.c.op.length):
 Calls Tryz.prog 131 #[.pointer (some ⟨K.hb,0,none⟩),.int .i64 (i:Int),.agg #[fa,fb]] w fun e w'=>e=.returned (.tuple #[])∧ ∃G',HallAt K q (goV S f (G.PL (some i))) G' w'∧HStep K G w G' w'∧Full K (goV S f (G.PL (some i))) G':=by
 have HS:=Lib.hid size_lfr;have HH:=Lib.hid hH;have HK:=Lib.hid hK;have HF:=Lib.hid hF;have HFf:=Lib.hid hf;have HSF:=Lib.hid sf;have HW:=Lib.hid hw;have HRK:=Lib.hid hrk;have hm4:=hK.m4;have hLm:=hH.plen (some i);obtain⟨L,hL⟩: ∃L,L=G.PL (some i):=⟨_,rfl⟩;have HL:=Lib.hid hL;rw [←hL]at HW hLm ⊢;have HLk:=Lib.hid (show ∀k∈L,k<K.m∧(S.V k).wi=some i by rw [hL];exact(hH.pls _).2);have HND:=Lib.hid (show L.Nodup by rw [hL];exact(hH.pls _).1);clear hH hK hF hf sf hw hrk hL;go_enter Tryz.func131,Tryz.ntmps131;go_upto_region 1 with(fail);have hbA:Below w.heap.size w (w.alloc (.cells #[fa,fb] 90)):=(Below.refl _ _).alloc (Nat.le_refl _) _;have hcA:(w.alloc (.cells #[fa,fb] 90)).heap[w.heap.size]?=some (.cells #[fa,fb] 90 (0,0)):=heap_at rfl;generalize hC:w.heap.size=C at*;refine wp_abs (fun w1=>Below C w w1∧w1.heap[C]?=some (.cells #[fa,fb] 90 (0,0))) ⟨hbA,hcA⟩ (fun w1 hw1=>?_);have hbw:Below w.heap.size w w1:=by rw [hC];exact hw1.1
 have H1:=Lib.hid (HH.out.below hbw);have ST1:=Lib.hid (hstep_below (K:=K) (G:=G) hbw);have BX1:=Lib.hid hw1.2;have F1:=Lib.hid (HFf.out.below hbw);have HCM:=Lib.hid (show ¬Mine K G C from fun hm=>by have:=mine_lt HH.out hm;omega);obtain⟨ol,cl,hpv,_,hva⟩:=vsAt_own (H1.out.piles i hi).own;have HPV:=Lib.hid hpv;have k9:w1.cell? ⟨K.hb,9,none⟩=some (.slice (some ⟨K.wb,0,none⟩) K.c.op.length K.c.op.length):=cell_of_row w1 K.hb 9 _ _ _ H1.out.hall;have ki:w1.cell? ⟨K.wb,i,none⟩=some (.slice ol L.length cl):=by rw [HL.out,←hpv];exact with_cell H1.out.withs hi
 have zi:w1.frozen? ⟨K.wb,i,none⟩=false:=frozen_of_row w1 _ i _ _ H1.out.withs;have dii:(i:Int)<(K.c.op.length:Int):=by omega
 clear hbA hcA hC hw1 hbw hva hpv HFf;go_upto_region 3 with(fail);have HT:=H1.out.taken hi;obtain⟨G1,hG1⟩: ∃G1:HG,G1=⟨upd G.pv i (.slice none 0 0),G.nv,G.ev,upd G.PL (some i) [],G.wn,G.wd,G.kn,G.kd⟩:=⟨_,rfl⟩;rw [←hG1]at HT;have hMT: ∀b,Mine K G1 b→Mine K G b:=fun b h=>by rw [hG1]at h;exact Mine.taken b h
 have HPL1:=Lib.hid (show G1.PL=upd G.PL (some i) []by rw [hG1]);have HNM:=Lib.hid (show ∀x,(Value.slice ol L.length cl).ownBlock=some x→ ¬Mine K G1 x from fun x hx=>by rw [hG1];exact taken_not H1.out hi (by rw [HPV.out,←HL.out];exact hx));have HC1:=Lib.hid (show ¬Mine K G1 C from fun hm=>HCM.out (hMT C hm));have tR:Trn 113 K.w0.heap.size (some K.wb) w1 (w1.setCell ⟨K.wb,i,none⟩ (.slice none 0 0)):=Trn.of_only (only_cell i _) H1.out.withs H1.out.bases.2.1 (noLimb_with H1.out);have hRow:=tR.rowT (H1.out.piles i hi) (by decide);rw [HPV.out,←HL.out]at hRow;have hSt:HStep K G w1 G1 (w1.setCell ⟨K.wb,i,none⟩ (.slice none 0 0)):=only_step (q:=q) (S:=S) (only_cell i _) (.inr (.inl rfl)) hMT;refine wp_abs (fun w2=>HallAt K q S G1 w2∧HStep K G w1 G1 w2∧GRow noLimb w2 K.w0.heap.size 165 1 (.slice ol L.length cl) L.length (ptrs K L)) ⟨HT,hSt,hRow⟩ (fun w2 hw2=>?_);have H2:=Lib.hid hw2.1;have ST2:=Lib.hid (ST1.out.trans hw2.2.1);have RW2:=Lib.hid hw2.2.2;have BX2:=Lib.hid (hw2.2.1.keep BX1.out HCM.out);have F2:=Lib.hid (hw2.2.1.fr H1.out F1.out)
 have FU2:=Lib.hid (show Fulls K S G1 L from⟨fun k hk hn=>by
  rw [HPL1.out];have h1:=HF.out k hk;rw [upd_ne _ _ _ _ (fun e=>hn (by rw [HL.out,←e];exact h1))];exact h1,
  fun k hk o ho=>by
   rw [HPL1.out]at ho;by_cases e:o=some i;·subst e;rw [upd_same]at ho;cases ho
   ·rw [upd_ne _ _ _ _ e]at ho;have h1:=((HH.out.pls o).2 k ho).2;exact e (h1.symm.trans (HLk.out k hk).2)⟩)
 clear hw2 HT hMT hRow hSt tR k9 ki zi H1 BX1 F1 HCM hG1 ST1 HPL1;go_wp2_with fail;go_loopw [24] (fun v wr=> ∃(t:Nat) (Gt:HG),v=.int .i64 t∧t≤L.length∧HallAt K q (goV S f (L.take t)) Gt wr∧HStep K G1 w2 Gt wr∧Fulls K (goV S f (L.take t)) Gt (L.drop t)) (fun v _=>L.length-(intOf v).toNat);case atStart=>
  refine⟨0,G1,rfl,Nat.zero_le _,?_,HStep.refl _ _ _,?_⟩;·rw [List.take_zero,goV_nil];exact H2.out
  ·rw [List.take_zero,goV_nil];exact FU2.out
 case round=>
 obtain⟨t,Gt,rfl,ht,hA,hs,hfu⟩:=hrel;have HA:=Lib.hid hA;have ST:=Lib.hid hs;have FU:=Lib.hid hfu;clear hA hs hfu;by_cases hlt:t<L.length;case neg=>
  have dk:decide ((t:Int)<(L.length:Int))=false:=decide_eq_false (by omega);have dk2:decide (t<L.length)=false:=decide_eq_false hlt;obtain rfl:t=L.length:=by omega
  rw [List.take_length]at HA FU;rw [List.drop_length]at FU;go_wp2_with fail
  go_end0
  exact⟨rfl,Gt,HA.out,ST2.out.trans ST.out,fun k hk=>FU.out.all k hk (by simp)⟩
 have dk:decide ((t:Int)<(L.length:Int))=true:=decide_eq_true (by omega);have dk2:decide (t<L.length)=true:=decide_eq_true hlt;have dkt:(t:Int)<(L.length:Int):=by omega
 have RWr:=Lib.hid (ST.out.row RW2.out HNM.out);have BXr:=Lib.hid (ST.out.keep BX2.out HC1.out);have Ff:=Lib.hid (ST.out.fr H2.out F2.out);obtain⟨k,hk⟩: ∃k,k=L[t]:=⟨_,rfl⟩;have hkL:k∈L:=by rw [hk];exact List.getElem_mem hlt
 have hkm:=(HLk.out k hkL).1;obtain⟨gl,ho,hcl⟩: ∃g,ol=some ⟨g,0,none⟩∧wr.cell? ⟨g,t,none⟩=some (.pointer (some ⟨K.pb k,0,none⟩)):=by
  rcases RWr.out.own.2 with⟨hv,h0⟩|⟨g,c,cur,hv,_⟩;·omega
  ·injection hv with h1;refine⟨g,h1,?_⟩;have h2:=RWr.out.own.cells (g:=g) (by rw [h1];rfl) t (.pointer (some ⟨K.pb k,0,none⟩)) (by simp [ptrs,hk,hlt])
   rwa [add_cell']at h2
 have HSt:=Lib.hid (goV_step S f L t hlt HND.out);rw [←hk]at HSt;have PK:=Lib.hid (HA.out.papers k hkm);unfold paperC at PK;rw [HSt.out.2]at PK;have FW:=Lib.hid (HA.out.wts k hkm);rw [HSt.out.2]at FW;have HDR:=Lib.hid (show L.drop t=k::L.drop (t+1)by rw [hk,List.drop_eq_getElem_cons hlt])
 have HND2:=Lib.hid (show k∉L.drop (t+1)by
  have h2:(L.drop t).Nodup:=HND.out.sublist (List.drop_sublist _ _);rw [HDR.out]at h2;exact(List.nodup_cons.1 h2).1)
 have SW:=Lib.hid (HW.out k hkL);have HKt:=Lib.hid hk;have hpl:K.pb k<wr.heap.size:=lt_of_heap PK.out;have hCl:C<wr.heap.size:=lt_of_heap BXr.out;have QT:=Lib.hid (times_V wr.drew (Trn.fr (Trn.of_below (Below.refl _ _).drew 0 0) FW.out) (Trn.fr (Trn.of_below (Below.refl _ _).drew 0 0) Ff.out) SW.out.1.ok HSF.out.ok SW.out.1.lens HSF.out.lens);clear hk;subst ho;go_upto_region 6 with(fail);clear hcl;generalize hwn:Gt.wn k=xn at*;generalize hwd:Gt.wd k=xd at*;have HWN:=Lib.hid hwn;have HWD:=Lib.hid hwd;clear hwn hwd;refine Seg.wp_region_segs (fun w'=> ∃x:BelowT wr.heap.size wr,w'=x.w) [([0,1,2,3,4,5],6)] [] 7 (by kernel_rfl) (by kernel_rfl) (fun _ _ d _ _ h=>by cases d<;>exact h) (⟨⟨_,(Below.refl _ _).drew⟩,rfl⟩) ?_;simp only [List.map_cons,List.map_nil,Seg.opAt,List.drop_succ_cons,List.drop_zero,Seg.wpSegs,Array.getD_eq_getD_getElem?,List.getElem?_toArray,List.getElem?_cons_succ,List.getElem?_cons_zero,Option.getD_some];first|go_big_quiet_step (fail)|quiet_step (fail)
 first|go_big_quiet_step (fail)|quiet_step (fail)
 first|go_big_quiet_step (fail)|quiet_step (fail)
 first|go_big_quiet_step (fail)|quiet_step (fail)
 refine wpQuiet_load_at rfl 90 _ rfl ⟨K.pb k,1,none⟩ [xn,xd] _ rfl (fun w' hw'=>by obtain⟨x,rfl⟩:=hw';exact paper_mid (bel_keep x.2 hpl PK.out)) Tryz.underlying90 rfl HS.out ?_;refine wpQuiet_load_at rfl 90 _ rfl ⟨C,0,none⟩ [fa,fb] _ rfl (fun w' hw'=>by obtain⟨x,rfl⟩:=hw';exact frac_blk (bel_keep x.2 hCl BXr.out)) Tryz.underlying90 rfl HS.out ?_;refine wpQuiet_nil ?_;intro Kc hK;simp only [Region.wanted,if_true];go_wp2_with (go_at_call 170;refine QT.out.mono ?_;rintro e w3 ⟨a',b',rfl,f3,bel3⟩);have F3:=Lib.hid f3;have B3:=Lib.hid (undrew bel3);refine hK _ _ ⟨⟨w3,B3.out⟩,rfl⟩ ?_;clear hK Kc f3 bel3 QT;have HA3:=Lib.hid (HA.out.below B3.out);have ST3:=Lib.hid (ST.out.below B3.out);have PK3:=Lib.hid (bel_keep B3.out hpl PK.out);have TH:w3.there (K.pb k) 1 2:=fun j hj=>by
  refine⟨?_,frozen_of_row w3 _ _ _ _ PK3.out⟩;rw [cell_of_row w3 (K.pb k) (1+j) _ _ _ PK3.out];rcases(show j=0∨j=1 by omega)with rfl|rfl<;>rfl
 repeat (any_goals (first|go_big_quiet_step (fail)|quiet_step (fail)))
 refine wpQuiet_nil ?_;go_upto_region 7 with(refine wpList_store_mid rfl 90 _ _ rfl (K.pb k) 1 #[a',b'] rfl rfl TH HS.out (two_one _ _ F3.out.noLimb.2.2.1 F3.out.noLimb.2.2.2) ?_);have hp1:=heap_setCell_same w3 (K.pb k) 1 _ _ a' PK3.out;have hp2:=heap_setCell_same (w3.setCell ⟨K.pb k,1,none⟩ a') (K.pb k) 2 _ _ b' hp1;have hOnly:Only (K.pb k) w3 (w3.setCells (K.pb k) 1 [a',b']):=only_cells (K.pb k) [a',b'] 1 w3;have hHA:=HA3.out.paper hkm (S.V k).nx ((S.V k).wt.mul f) a' b' hOnly (by rw [HSt.out.2];exact hp2) (by have:=(HA3.out.rkl k hkm).2.2;rw [HSt.out.2]at this ⊢;exact this) F3.out;rw [HSt.out.2]at hHA;obtain⟨G4,hG4⟩: ∃G4:HG,G4=⟨Gt.pv,Gt.nv,Gt.ev,Gt.PL,upd Gt.wn k a',upd Gt.wd k b',Gt.kn,Gt.kd⟩:=⟨_,rfl⟩;have HP4:=Lib.hid (show G4.PL=Gt.PL by rw [hG4]);have hM4: ∀b,Mine K G4 b→Mine K Gt b:=fun b h=>by rw [hG4]at h;exact h
 rw [←hG4]at hHA;have hHA':HallAt K q (setV (goV S f (L.take t)) k ((S.V k).by f)) G4 (w3.setCells (K.pb k) 1 [a',b']):=hHA;have hSt4:HStep K Gt w3 G4 (w3.setCells (K.pb k) 1 [a',b']):=only_step (q:=q) (S:=S) hOnly (.inr (.inr (.inr (.inr (.inr (.inl ⟨k,hkm,rfl⟩)))))) hM4;show Code.wp _ _ _ _ (w3.setCells (K.pb k) 1 [a',b']);refine wp_abs (fun w4=>HallAt K q (setV (goV S f (L.take t)) k ((S.V k).by f)) G4 w4∧HStep K G1 w2 G4 w4) ⟨hHA',ST3.out.trans hSt4⟩ (fun w4 hw4=>?_);have H4:=Lib.hid hw4.1;have ST4:=Lib.hid hw4.2;have QL:=Lib.hid (lay_any K q (setV (goV S f (L.take t)) k ((S.V k).by f)) G4 w4 k H4.out HK.out hkm (fun o ho=>FU.out.not k (by rw [HDR.out];simp) o (HP4.out▸ho)) (by rw [setV_V];exact HRK.out k hkm));clear hw4 hHA hHA' hSt4 hM4 hG4 hp1 hp2 hOnly TH PK PK3 HA HA3 ST3 BXr Ff FW F3 B3 RWr hpl hCl HWN HWD;go_wp2_with (go_at_call 120;refine QL.out.mono ?_;rintro e w5 ⟨rfl,G5,h5,s5,p5, -⟩);rw [setV_V]at h5 p5;have h5':HallAt K q (goV S f (L.take (t+1))) G5 w5:=by
  rw [←HSt.out.1];exact h5
 rw [HP4.out]at p5;have p5':G5.PL=upd Gt.PL (((S.V k).by f).go S.cont).wi (Gt.PL (((S.V k).by f).go S.cont).wi++ [k]):=p5;have hfu:Fulls K (goV S f (L.take (t+1))) G5 (L.drop (t+1)):=by
  rw [←HSt.out.1,setV_setV];refine⟨fun j hj hn=>?_,fun j hj o ho=>?_⟩
  ·rw [p5'];by_cases e:j=k;·subst e;rw [setV_V,upd_same];simp
   ·have h1:(setV (goV S f (L.take t)) k (((S.V k).by f).go S.cont)).V j=(goV S f (L.take t)).V j:=upd_ne _ _ _ _ e;rw [h1];have h2:=FU.out.all j hj (by rw [HDR.out];simp [e,hn]);by_cases e2:((goV S f (L.take t)).V j).wi=(((S.V k).by f).go S.cont).wi;·rw [e2,upd_same];rw [e2]at h2;simp [h2]
    ·rw [upd_ne _ _ _ _ e2];exact h2
  ·rw [p5']at ho;have e:j≠k:=fun e=>HND2.out (e▸hj);have h2:=FU.out.not j (by rw [HDR.out];simp [hj]);by_cases e2:o=(((S.V k).by f).go S.cont).wi
   ·rw [e2,upd_same]at ho;rcases List.mem_append.1 ho with h3|h3;·exact h2 _ h3
    ·exact e (List.mem_singleton.1 h3)
   ·rw [upd_ne _ _ _ _ e2]at ho;exact h2 o ho
 go_roundw;case rel=>exact⟨t+1,G5,by go_num,by omega,h5',ST4.out.trans s5,hfu⟩
 case measure=>simp [intOf];omega
end Go.Proofs.YtnohcdpnnhmpfaaGreatDoor.TR
