/-
  Chapter 13, Transfer: count.weight; (*hall).totals.
-/
import Derived.Test.YtnohcdpnnhmpfaaGreatDoorK16
import Derived.Test.YtnohcdpnnhmpfaaGreatDoorK17
set_option linter.unusedVariables false
set_option linter.unusedSimpArgs false
set_option maxRecDepth 100000
set_option maxHeartbeats 4000000
namespace Go.Proofs.YtnohcdpnnhmpfaaGreatDoor.TR
open Go.RowKit ML FRP AU CT FM
structure VsAt(w:World)(oa:Option Addr)(xs:List Value):Prop where
 cells: ∀i (h:i<xs.length),∃a,oa=some a∧a.block<w.heap.size∧w.cell? (a.add i)=some xs[i]
theorem VsAt.below {w w1:World}{oa:Option Addr}{xs:List Value}(h:VsAt w oa xs)(hb:Below w.heap.size w w1):VsAt w1 oa xs:=⟨fun i hi=>by
 obtain⟨a,h1,h2,h3⟩:=h.cells i hi;exact⟨a,h1,Nat.lt_of_lt_of_le h2 hb.size,by rw [hb.cell (by rw [addr_block];exact h2)];exact h3⟩⟩
theorem vsAt_own {w:World}{base:Nat}{e:TypeId}{v:Value}{n:Nat}{xs:List Value}(h:w.ownsRow base e 1 v n xs): ∃oa cap,v=.slice oa n cap∧n≤cap∧VsAt w oa xs:=by
 have hl:=h.1;rcases h.2 with⟨hv,h0⟩|⟨g,cap,cur,hv,hb,hg,hnc,_,hc,ht⟩
 ·have:xs= []:=List.length_eq_zero_iff.1 (by omega);subst this;exact⟨none,0,by rw [hv,h0],by omega,⟨fun i hi=>by simp at hi⟩⟩
 ·exact⟨some ⟨g,0,none⟩,cap,hv,hnc,⟨fun i hi=>⟨_,rfl,lt_of_heap hg,h.cells (g:=g) (by rw [hv];rfl) i xs[i] (by simp [hi])⟩⟩⟩
theorem ptrs_len(K:HK)(L:List Nat):(ptrs K L).length=L.length:=by simp [ptrs]
theorem fsum_snoc(a:Fr)(l:List Fr)(x:Fr):fsum a (l++ [x])=(fsum a l).add x:=by simp [fsum]
theorem paper_mid {w:World}{p:Nat}{r x y z:Value}{T:TypeId}(h:w.heap[p]?=some (.cells #[r,x,y,z] T (0,0))): ∀j u,([x,y]:List Value)[j]?=some u→w.cell? ((⟨p,1,none⟩:Addr).add j)=some u:=
 mid_blk h _ (fun j u hj=>by match j with|0=>exact hj|1=>exact hj|_+2=>cases hj)
theorem weight_any(K:HK)(q:Fr)(S:St)(G:HG)(w:World)(hH:HallAt K q S G w)(L:List Nat)(hL: ∀k∈L,k<K.m)(oa:Option Addr)(cap:Nat)(hV:VsAt w oa (ptrs K L))(hl:L.length≤4096)
 (hs: ∀j,j≤L.length→Sml (fsum zero ((L.take j).map fun k=>(S.V k).wt))) (hw: ∀k∈L,Sml (S.V k).wt):
 Calls Tryz.prog 74 #[.slice oa L.length cap] w fun e w'=> ∃a b,e=.returned (.agg #[a,b])∧FrV w' (fsum zero (L.map fun k=>(S.V k).wt)) a b∧Below w.heap.size w w':=by
 have QZ:=Lib.hid (fun w=>zero_V w);have HS:=Lib.hid size_lfr;have HH:=Lib.hid hH;have HL:=Lib.hid hL;have HV:=Lib.hid hV;have HSm:=Lib.hid hs;have HW:=Lib.hid hw;clear hH hL hV hs hw;go_enter Tryz.func74,Tryz.ntmps74;go_upto_region 1 with(fail);generalize hB:w.heap.size=B at*;refine wp_abs (fun w1=>Below B w w1∧w1.heap[B]?=some (.cells #[.slice none 0 0,.slice none 0 0] 90 (0,0))) ⟨by rw [←hB];exact(Below.refl _ _).alloc (Nat.le_refl _) _,by rw [←hB];exact heap_at rfl⟩ (fun w1 hw1=>?_);have B1:=Lib.hid hw1.1;have HC1:=Lib.hid hw1.2;have HB:=Lib.hid hB;have hB1:B<w1.heap.size:=lt_of_heap hw1.2;clear hw1 hB;go_upto_region 2 with(first
  |(go_at_call 117;refine(QZ.out w1).mono ?_;rintro e w2 ⟨a0,b0,rfl,f2,bel2⟩;have F2:=Lib.hid f2;have B2:=Lib.hid bel2;clear f2 bel2)
  |(refine wpList_store_whole rfl rfl 90 _ _ rfl w2.heap.size #[.slice none 0 0,.slice none 0 0] #[a0,b0] 90 rfl rfl (heap_at rfl) rfl HS.out (two_one _ _ F2.out.noLimb.2.2.1 F2.out.noLimb.2.2.2) ?_;intro w4 ho hp))
 have hb4:Below w2.heap.size w2 w4:=bel_only ((Below.refl _ _).alloc (Nat.le_refl _) _) ho (Nat.le_refl _);have F4:=Lib.hid (F2.out.below hb4);have C4:=Lib.hid hp;have D4:=Lib.hid (bel_keep hb4 (Nat.lt_of_lt_of_le hB1 B2.out.size) (bel_keep B2.out hB1 HC1.out));have B4:=Lib.hid (B1.out.trans ((B2.out.trans (hb4.mono B2.out.size)).mono (Nat.le_of_lt hB1)));have hBC:B<w2.heap.size:=Nat.lt_of_lt_of_le hB1 B2.out.size;clear ho hp hb4 F2 B2 HC1 B1;generalize w2.heap.size=C at*;clear hB1;go_wp2_with fail;go_loopw [9] (fun v wr=> ∃(k:Nat) (a b:Value),v=.int .i64 k∧k≤L.length∧FrV wr (fsum zero ((L.take k).map fun k=>(S.V k).wt)) a b∧wr.heap[C]?=some (.cells #[a,b] 90 (0,0))∧wr.heap[B]?=some (.cells #[.slice none 0 0,.slice none 0 0] 90 (0,0))∧Below B w wr) (fun v _=>L.length-(intOf v).toNat);case atStart=>exact⟨0,a0,b0,rfl,Nat.zero_le _,F4.out,C4.out,D4.out,B4.out⟩
 case round=>
 obtain⟨k,a,b,rfl,hk,hf,hc,hd,hb⟩:=hrel;have F:=Lib.hid hf;have C':=Lib.hid hc;have D':=Lib.hid hd;have BR:=Lib.hid hb;have hCr:C<wr.heap.size:=lt_of_heap hc;clear hf hc hd hb F4 C4 D4 B4;by_cases hlt:k<L.length;case neg=>
  have dk:decide ((k:Int)<(L.length:Int))=false:=decide_eq_false (by omega);have dk2:decide (k<L.length)=false:=decide_eq_false hlt;obtain rfl:k=L.length:=by omega
  rw [List.take_length]at F;have c1:wr.cell? ⟨C,0,none⟩=some a:=cell_of_row wr C 0 _ _ _ C'.out;have c2:wr.cell? ⟨C,1,none⟩=some b:=cell_of_row wr C 1 _ _ _ C'.out;go_wp2_with (first
   |(refine wpList_store_whole rfl rfl 90 _ _ rfl B #[.slice none 0 0,.slice none 0 0] #[a,b] 90 rfl rfl D'.out rfl HS.out (two_one _ _ F.out.noLimb.2.2.1 F.out.noLimb.2.2.2) ?_;intro w5 ho hp))
  have t:Trn 90 0 (some B) wr w5:=Trn.of_only ho D'.out (Nat.zero_le _) (fun u hu=>by simp at hu;subst hu;rfl);refine bodyPost_ret (results_cell_row rfl _ w5 B _ _ _ _ rfl hp Tryz.underlying90 rfl HS.out) rfl ⟨a,b,rfl,t.fr F.out,by rw [HB.out];exact bel_only BR.out ho (Nat.le_refl _)⟩
 have dk:decide ((k:Int)<(L.length:Int))=true:=decide_eq_true (by omega);have dk2:decide (k<L.length)=true:=decide_eq_true hlt;have dki:(k:Int)<(L.length:Int):=by omega
 obtain⟨p,hoa,hpb,hpc0⟩:=(HV.out.below (HB.out.symm▸BR.out)).cells k (by rw [ptrs_len];exact hlt);have hpc:wr.cell? (p.add k)=some (.pointer (some ⟨K.pb L[k],0,none⟩)):=by rw [hpc0];simp [ptrs]
 clear hpc0;have hkm:=HL.out _ (List.getElem_mem hlt);have HR:=Lib.hid (HH.out.below (HB.out.symm▸BR.out));have PK:=Lib.hid (HR.out.papers _ hkm);unfold paperC at PK;have FW:=Lib.hid (HR.out.wts _ hkm);have SW:=Lib.hid (HW.out _ (List.getElem_mem hlt));have S0:=Lib.hid (HSm.out k (by omega));have HTK:=Lib.hid (show fsum zero ((L.take (k+1)).map fun k=>(S.V k).wt)=(fsum zero ((L.take k).map fun k=>(S.V k).wt)).add (S.V L[k]).wt by rw [List.take_succ_eq_append_getElem hlt,List.map_append,List.map_singleton,fsum_snoc]);subst hoa;generalize (S.V L[k]).wt=y at*;generalize fsum zero ((L.take k).map fun k=>(S.V k).wt)=x at*;generalize G.wn L[k]=c at*;generalize G.wd L[k]=d at*;generalize K.pb L[k]=pk at*;generalize K.rn L[k]=rn at*;generalize K.rg L[k]=rg at*;generalize (S.V L[k]).rk.length=rl at*;generalize (S.V L[k]).nx=nx at*;have hpl:pk<wr.heap.size:=lt_of_heap PK.out;have QP:=Lib.hid (plus_V wr.drew (Trn.fr (Trn.of_below (Below.refl _ _).drew 0 0) F.out) (Trn.fr (Trn.of_below (Below.refl _ _).drew 0 0) FW.out) S0.out.ok SW.out.ok S0.out.lens SW.out.lens);go_upto_region 5 with(fail);refine Seg.wp_region_segs (fun w'=> ∃x:BelowT wr.heap.size wr,w'=x.w) [] [0,1,2,3,4] 5 (by kernel_rfl) (by kernel_rfl) (fun _ _ d _ _ h=>by cases d<;>exact h) (⟨⟨_,(Below.refl _ _).drew⟩,rfl⟩) ?_;simp only [List.map_cons,List.map_nil,Seg.opAt,List.drop_succ_cons,List.drop_zero,Seg.wpSegs,Array.getD_eq_getD_getElem?,List.getElem?_toArray,List.getElem?_cons_succ,List.getElem?_cons_zero,Option.getD_some];refine wpQuiet_load_at rfl 90 _ rfl ⟨C,0,none⟩ [a,b] _ rfl (fun w' hw'=>by obtain⟨x,rfl⟩:=hw';exact frac_blk (bel_keep x.2 hCr C'.out)) Tryz.underlying90 rfl HS.out ?_;first|go_big_quiet_step (fail)|quiet_step (fail)
 first|go_big_quiet_step (fail)|quiet_step (fail)
 first|go_big_quiet_step (fail)|quiet_step (fail)
 refine wpQuiet_load_at rfl 90 _ rfl ⟨pk,1,none⟩ [c,d] _ rfl (fun w' hw'=>by obtain⟨x,rfl⟩:=hw';exact paper_mid (bel_keep x.2 hpl PK.out)) Tryz.underlying90 rfl HS.out ?_;refine wpQuiet_nil ?_;go_wp2_with (first
  |(go_at_call 48;refine QP.out.mono ?_;rintro e w2' ⟨a',b',rfl,f2,bel2⟩;have F2:=Lib.hid f2;have B2:=Lib.hid (undrew bel2);have C2:=Lib.hid (bel_keep (undrew bel2) hCr C'.out);have D2:=Lib.hid (bel_keep (undrew bel2) (lt_of_heap D'.out) D'.out);clear f2 bel2)
  |(refine wpList_store_whole rfl rfl 90 _ _ rfl C #[a,b] #[a',b'] 90 rfl rfl C2.out rfl HS.out (two_one _ _ F2.out.noLimb.2.2.1 F2.out.noLimb.2.2.2) ?_;intro w5 ho hp))
 have hn:=F.out.noLimb
 have t:Trn 90 0 (some C) w2' w5:=Trn.of_only ho C2.out (Nat.zero_le _) (fun u hu=>by
  simp only [List.mem_cons,List.not_mem_nil,or_false]at hu;rcases hu with rfl|rfl;·exact hn.1
  ·exact hn.2.1)
 have D5:=t.keepX D2.out (by intro e;injection e with e;omega);go_roundw;case rel=>exact⟨k+1,a',b',by go_num,by omega,by rw [HTK.out];exact t.fr F2.out,hp,D5,bel_only (BR.out.trans (B2.out.mono (by have:=lt_of_heap D'.out;omega))) ho (by omega)⟩
 case measure=>simp [intOf];omega
theorem info_frac:(Tryz.prog.info? 90).map (fun i=>(i.zero,i.size,i.bytes))=some (some (.agg #[.slice none 0 0,.slice none 0 0]),2,48):=by kernel_rfl
theorem info_parts {P:Program}{T:TypeId}{z:Value}{s b:Nat}(h:(P.info? T).map (fun i=>(i.zero,i.size,i.bytes))=some (some z,s,b)): ∃i,P.info? T=some i∧i.zero=some z∧i.size=s∧i.bytes=b:=by
 cases hi:P.info? T with
 |none=>rw [hi]at h;cases h
 |some i=>rw [hi]at h;simp at h;exact⟨i,rfl,h.1,h.2.1,h.2.2⟩
theorem two_all {p:Value→Prop}{a b:Value}(h1:p a)(h2:p b): ∀u∈ [a,b],p u:=fun u hu=>by
 simp only [List.mem_cons,List.not_mem_nil,or_false]at hu;rcases hu with rfl|rfl;·exact h1
 ·exact h2
def flatF(n:Nat)(xa xb:Nat→Value):List Value:=(List.range n).flatMap fun i=> [xa i,xb i]
theorem flatF_len(n:Nat)(xa xb:Nat→Value):(flatF n xa xb).length=n*2:=by
 induction n with
 |zero=>rfl
 |succ n ih=>unfold flatF at*;rw [List.range_succ,List.flatMap_append,List.length_append,ih];simp;omega
theorem flatF_succ(n:Nat)(xa xb:Nat→Value)(a b:Value):flatF (n+1) (upd xa n a) (upd xb n b)=flatF n xa xb++ [a,b]:=by
 unfold flatF;rw [List.range_succ,List.flatMap_append];have h: ∀m,m≤n→(List.range m).flatMap (fun i=> [upd xa n a i,upd xb n b i])=(List.range m).flatMap fun i=> [xa i,xb i]:=by
  intro m hm
  induction m with
  |zero=>rfl
  |succ m ih=>rw [List.range_succ,List.flatMap_append,List.flatMap_append,ih (by omega)];simp [upd_ne _ _ _ _ (show m≠n by omega)]
 rw [h n (Nat.le_refl _)];simp [upd_same]
theorem flatF_get(n:Nat)(xa xb:Nat→Value)(i:Nat)(hi:i<n):(flatF n xa xb)[i*2]?=some (xa i)∧(flatF n xa xb)[i*2+1]?=some (xb i):=by
 induction n with
 |zero=>omega
 |
  succ n ih=>
  have h1:flatF (n+1) xa xb=flatF n xa xb++ [xa n,xb n]:=by unfold flatF;rw [List.range_succ,List.flatMap_append];simp
  rw [h1];by_cases h:i<n
  ·rw [List.getElem?_append_left (by rw [flatF_len];omega),List.getElem?_append_left (by rw [flatF_len];omega)];exact ih h
  ·obtain rfl:i=n:=by omega
   rw [List.getElem?_append_right (by rw [flatF_len];omega),List.getElem?_append_right (by rw [flatF_len];omega),flatF_len];simp
structure TotsAt(w:World)(base:Nat)(n:Nat)(T:Nat→Fr)(v:Value)(xa xb:Nat→Value):Prop where
 row:GRow noLimb w base 90 2 v n (flatF n xa xb)
 frs: ∀i,i<n→FrV w (T i) (xa i) (xb i)
theorem TotsAt.below {w w':World}{base n:Nat}{T:Nat→Fr}{v:Value}{xa xb:Nat→Value}(h:TotsAt w base n T v xa xb)(hb:Below w.heap.size w w'):TotsAt w' base n T v xa xb:=⟨h.row.below hb,fun i hi=>(h.frs i hi).below hb⟩
theorem kept_cell {w:World}{B:Nat}{n:Nat}{xa xb:Nat→Value}{T:TypeId}(h:w.heap[B]?=some (.cells (flatF n xa xb).toArray T (0,0))){i:Nat}(hi:i<n): ∀j u,([xa i,xb i]:List Value)[j]?=some u→w.cell? ((⟨B,i*2,none⟩:Addr).add j)=some u:=
 mid_blk h _ (fun j u hj=>by
  obtain⟨h1,h2⟩:=flatF_get n xa xb i hi
  match j with
  |0=>simpa using h1.trans hj
  |1=>simpa using h2.trans hj
  |_+2=>cases hj)
theorem with_cell {K:HK}{G:HG}{w:World}(h:w.heap[K.wb]?=some (.cells (withC K G) 113 (0,0))){i:Nat}(hi:i<K.c.op.length):w.cell? ⟨K.wb,i,none⟩=some (G.pv i):=by
 rw [cell_of_row w K.wb i _ _ _ h];unfold withC;simp [hi]
theorem totals_any(K:HK)(q:Fr)(S:St)(G:HG)(w:World)(hH:HallAt K q S G w)(hn:K.c.op.length≤12)(hm:K.m≤4096)(T:Nat→Fr)
 (hs: ∀i,i<K.c.op.length→ ∀j,j≤(G.PL (some i)).length→Sml (fsum zero (((G.PL (some i)).take j).map fun k=>(S.V k).wt))) (hw: ∀k,k<K.m→Sml (S.V k).wt)
 (hT: ∀i,i<K.c.op.length→(fsum zero ((G.PL (some i)).map fun k=>(S.V k).wt)).add (S.kept i)=T i∧Sml (T i)∧Sml (S.kept i)):
 Calls Tryz.prog 73 #[.pointer (some ⟨K.hb,0,none⟩)] w fun e w'=> ∃v xa xb,e=.returned v∧TotsAt w' w.heap.size K.c.op.length T v xa xb∧Below w.heap.size w w':=by
 have QW:=Lib.hid (fun(w1:World) (h1:HallAt K q S G w1) (i:Nat) (hi:i<K.c.op.length) (oa:Option Addr) (cap:Nat) (hv:VsAt w1 oa (ptrs K (G.PL (some i))))=>weight_any K q S G w1 h1 (G.PL (some i)) (fun k hk=>((h1.pls _).2 k hk).1) oa cap hv (by
  have h2: ∀k∈G.PL (some i),k∈List.range K.m:=fun k hk=>List.mem_range.2 ((h1.pls _).2 k hk).1;have:=List.Nodup.length_le_of_subset (h1.pls (some i)).1 h2;rw [List.length_range]at this;omega) (hs i hi) (fun k hk=>hw k ((h1.pls _).2 k hk).1))
 have HS:=Lib.hid size_lfr;have HH:=Lib.hid hH;have HT:=Lib.hid hT;have HSm:=Lib.hid hs;obtain⟨i0,hi0,hz0,hz1,hz2⟩:=info_parts info_frac;have I0:=Lib.hid hi0;have IZ0:=Lib.hid hz0;have IZ1:=Lib.hid hz1;have IZ2:=Lib.hid hz2;have k9:w.cell? ⟨K.hb,9,none⟩=some (.slice (some ⟨K.wb,0,none⟩) K.c.op.length K.c.op.length):=cell_of_row w K.hb 9 _ _ _ hH.hall;obtain⟨n,hnn⟩: ∃n,n=K.c.op.length:=⟨_,rfl⟩;rw [←hnn]at k9 hn QW HT HSm ⊢;have HN:=Lib.hid hnn;clear hH hT hs hw hi0 hz0 hz1 hz2 hnn;go_enter Tryz.func73,Tryz.ntmps73;generalize hB:w.heap.size=B at*;have HB:=Lib.hid hB;clear hB;go_upto_region 3 with(fail);clear k9;go_loopw [10,3] (fun v l wr=> ∃(k:Nat) (xa xb:Nat→Value),v=.int .i64 k∧k≤n∧TotsAt wr B k T l xa xb∧Below B w wr) (fun v _ _=>n-(intOf v).toNat);case atStart=>exact⟨0,fun _=>undef,fun _=>undef,rfl,Nat.zero_le _,⟨GRow.nil,fun i hi=>by omega⟩,Below.refl _ _⟩
 case round=>
 obtain⟨k,xa,xb,rfl,hk,ht,hb⟩:=hrel;have TA:=Lib.hid ht;have BR:=Lib.hid hb;have hBr:B≤wr.heap.size:=by rw [←HB.out];exact(HB.out.symm▸hb).size
 clear ht hb;by_cases hlt:k<n;case neg=>
  have dk:decide ((k:Int)<(n:Int))=false:=decide_eq_false (by omega);have dk2:decide (k<n)=false:=decide_eq_false hlt;obtain rfl:k=n:=by omega
  go_wp2_with fail;go_ret;exact⟨_,xa,xb,rfl,TA.out,BR.out⟩
 have dk:decide ((k:Int)<(n:Int))=true:=decide_eq_true (by omega);have dk2:decide (k<n)=true:=decide_eq_true hlt;have dki:(k:Int)<(n:Int):=by omega
 have HR:=Lib.hid (HH.out.below (HB.out.symm▸BR.out));have hkn:k<K.c.op.length:=by rw [←HN.out];exact hlt
 obtain⟨op,cp,hpv,hpc,hva⟩:=vsAt_own (HR.out.piles k hkn).own;have HVA:=Lib.hid hva;obtain⟨hTk,hT1,hT2⟩:=HT.out k hlt;have HTK:=Lib.hid hTk;have HT1:=Lib.hid hT1;have HT2:=Lib.hid hT2;have HP0:=Lib.hid (by have:=HSm.out k hlt _ (Nat.le_refl _);rwa [List.take_length]at this);have FK:=Lib.hid (HR.out.keps k hkn);have h9:K.hb<wr.heap.size:=lt_of_heap HR.out.hall;have hwl:K.wb<wr.heap.size:=lt_of_heap HR.out.withs;have hkl:K.kb<wr.heap.size:=lt_of_heap HR.out.kepts;have d1: ∀x:BelowT wr.heap.size wr,x.w.cell? ⟨K.hb,9,none⟩=some (.slice (some ⟨K.wb,0,none⟩) n n):=fun x=>by rw [HN.out];exact cell_of_row _ K.hb 9 _ _ _ (bel_keep x.2 h9 HR.out.hall)
 have d2: ∀x:BelowT wr.heap.size wr,x.w.cell? ⟨K.hb,11,none⟩=some (.slice (some ⟨K.kb,0,none⟩) n n):=fun x=>by rw [HN.out];exact cell_of_row _ K.hb 11 _ _ _ (bel_keep x.2 h9 HR.out.hall)
 have d3: ∀x:BelowT wr.heap.size wr,x.w.cell? ⟨K.wb,k,none⟩=some (.slice op (G.PL (some k)).length cp):=fun x=>by rw [←hpv];exact with_cell (bel_keep x.2 hwl HR.out.withs) hkn
 have KB:=Lib.hid (show wr.heap[K.kb]?=some (.cells (flatF n G.kn G.kd).toArray 90 (0,0))by rw [HN.out];exact HR.out.kepts);clear hva hTk hT1 hT2 hpc;go_upto_region 5 with(fail);refine Seg.wp_region_segs (fun w'=> ∃x:BelowT wr.heap.size wr,w'=x.w) [([0,1,2,3,4,5,6,7,9,10,11,12,13,14,15],8),([],16),([],17)] [] 18 (by kernel_rfl) (by kernel_rfl) (fun _ _ d _ _ h=>by cases d<;>exact h) (⟨⟨_,(Below.refl _ _).drew⟩,rfl⟩) ?_;simp only [List.map_cons,List.map_nil,Seg.opAt,List.drop_succ_cons,List.drop_zero,Seg.wpSegs,Array.getD_eq_getD_getElem?,List.getElem?_toArray,List.getElem?_cons_succ,List.getElem?_cons_zero,Option.getD_some];first|go_big_quiet_step (fail)|quiet_step (fail)
 first|go_big_quiet_step (fail)|quiet_step (fail)
 first|go_big_quiet_step (fail)|quiet_step (fail)
 first|go_big_quiet_step (fail)|quiet_step (fail)
 first|go_big_quiet_step (fail)|quiet_step (fail)
 first|go_big_quiet_step (fail)|quiet_step (fail)
 first|go_big_quiet_step (fail)|quiet_step (fail)
 first|go_big_quiet_step (fail)|quiet_step (fail)
 first|go_big_quiet_step (fail)|quiet_step (fail)
 first|go_big_quiet_step (fail)|quiet_step (fail)
 first|go_big_quiet_step (fail)|quiet_step (fail)
 first|go_big_quiet_step (fail)|quiet_step (fail)
 first|go_big_quiet_step (fail)|quiet_step (fail)
 first|go_big_quiet_step (fail)|quiet_step (fail)
 refine wpQuiet_load_at rfl 90 _ rfl ⟨K.kb,k*2,none⟩ [G.kn k,G.kd k] _ rfl (fun w' hw'=>by obtain⟨x,rfl⟩:=hw';exact kept_cell (bel_keep x.2 hkl KB.out) hlt) Tryz.underlying90 rfl HS.out ?_;refine wpQuiet_nil ?_;intro Kc hK;simp only [Region.wanted,if_true];have QW':=Lib.hid (QW.out wr.drew (HR.out.below (Below.refl _ _).drew) k hlt op cp (HVA.out.below (Below.refl _ _).drew));go_wp2_with (go_at_call 74;refine QW'.out.mono ?_;rintro e w2 ⟨a,b,rfl,f2,bel2⟩);have F2:=Lib.hid f2;have B2:=Lib.hid (undrew bel2);refine hK _ _ ⟨⟨w2,B2.out⟩,rfl⟩ ?_;clear hK Kc f2 bel2 d1 d2 d3 QW';repeat (any_goals (first|go_big_quiet_step (fail)|quiet_step (fail)))
 refine wpQuiet_nil ?_;intro Kc hK;first|go_simp|skip
 have QP:=Lib.hid (plus_V w2 F2.out (FK.out.below B2.out) HP0.out.ok HT2.out.ok HP0.out.lens HT2.out.lens);go_wp2_with (go_at_call 48;refine QP.out.mono ?_;rintro e w3 ⟨a',b',rfl,f3,bel3⟩);have F3:=Lib.hid f3;have B3:=Lib.hid (B2.out.trans (bel3.mono B2.out.size));refine hK _ _ ⟨⟨w3,B3.out⟩,rfl⟩ ?_;clear hK Kc f3 bel3 QP F2 B2;repeat (any_goals (first|go_big_quiet_step (fail)|quiet_step (fail)))
 refine wpQuiet_nil ?_;intro Kc hK;first|go_simp|skip
 go_wp2_with fail;have bh:Below w3.heap.size w3 (w3.alloc (.cells #[a',b'] 90)):=(Below.refl _ _).alloc (Nat.le_refl _) _;have ed:(w3.alloc (.cells #[a',b'] 90)).heap[w3.heap.size]?=some (.cells #[a',b'] 90 (0,0)):=heap_at rfl;have F4:=Lib.hid (F3.out.below bh);have B4:=Lib.hid (B3.out.trans (bh.mono B3.out.size));refine hK _ _ ⟨⟨_,B4.out⟩,rfl⟩ ?_;clear hK Kc bh F3;generalize (w3.alloc (.cells #[a',b'] 90))=w4 at*;generalize w3.heap.size=C at*;clear B3;have TB:=Lib.hid (TA.out.below B4.out);repeat (any_goals (first|go_big_quiet_step (fail)|quiet_step (fail)))
 refine wpQuiet_nil ?_;go_wp2_with (at_builtin;refine wpList_append_good (good:=noLimb) _ rfl (.tmp 13) (.tmp 30) 114 rfl B 90 i0 (.agg #[.slice none 0 0,.slice none 0 0]) 2 48 Tryz.underlying114 I0.out IZ0.out IZ1.out IZ2.out rfl (by decide) (fun u hu=>by simp [Value.cells]at hu;subst hu;rfl) u3 k (flatF k xa xb) rfl TB.out.row ⟨C,0,none⟩ 1 1 [a',b'] rfl rfl (news_blk ed) (two_all (p:=fun u=>u.oneCell'=true) F4.out.noLimb.2.2.1 F4.out.noLimb.2.2.2) (two_all (p:=fun u=>noLimb u=true) F4.out.noLimb.1 F4.out.noLimb.2.1) (fun _=>by decide) (by unfold maxLen;omega) (by omega) (by have:=B4.out.size;omega) _ rfl ?_;intro g9 c9 w5 own hg hf hlt9);have t:Trn 90 B u3.ownBlock w4 w5:=⟨hg,GRow.typed TB.out.row⟩;go_roundw;case rel=>
  refine⟨k+1,upd xa k a',upd xb k b',by go_num,by omega,⟨by rw [flatF_succ];exact own,fun i hi=>?_⟩,?_⟩
  ·by_cases e:i=k;·subst e;rw [upd_same,upd_same,←HTK.out];exact t.fr F4.out
   ·rw [upd_ne _ _ _ _ e,upd_ne _ _ _ _ e];exact t.fr (TB.out.frs i (by omega))
  ·exact(BR.out.trans (B4.out.mono hBr)).grown hg (by have:=B4.out.size;omega) (fun x hx=>(t.ty x hx).1)
 case measure=>simp [intOf];omega
end Go.Proofs.YtnohcdpnnhmpfaaGreatDoor.TR
