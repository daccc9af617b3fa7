/-
  Chapter 13, CountAlike: what the walk of the law needs, plain.
  Chapter 13, CountAlike: the law's blocks by their numbers; the options. Printed by tools/genalw.py. PIECE
-/
import Derived.Test.YtnohcdpnnhmpfaaGreatDoorK40
set_option linter.unusedVariables false
set_option linter.unusedSimpArgs false
set_option maxRecDepth 100000
set_option maxHeartbeats 4000000
namespace Go.Proofs.YtnohcdpnnhmpfaaGreatDoor.TR
open Go.RowKit ML FRP AU CT FM
theorem ElGot.nil {c:CTest}{P:List (Value×List Int)}{lots:Bytes}{w w':World}{e:Ending}(h:ElGot c P lots w e w'): ∃v E,e=.returned (.tuple #[v,.int .i64 E])∧Below w.heap.size w w'∧(E≠0→v=.slice none 0 0):=by
 obtain⟨hb,v,E,rfl,h⟩:=h;refine⟨v,E,rfl,hb,fun hE=>?_⟩;by_cases h0:prE c P=0
 ·rw [if_pos h0]at h;unfold ElEnd at h;by_cases h3:c.rl=3
  ·rw [if_pos h3]at h;obtain⟨_,_,_,_,_,_,_,_,_,e0,_⟩:=h;exact absurd e0 hE
  rw [if_neg h3]at h;by_cases h4:c.rl=4
  ·rw [if_pos h4]at h;obtain⟨_,_,_,_,_,_,_,_,_,e0,_⟩:=h;exact absurd e0 hE
  rw [if_neg h4]at h;unfold MostEnd at h;by_cases hm:mostE c (totL c.op.length (kept c P))=0
  ·rw [if_pos hm]at h;obtain⟨_,_,_,_,_,_,e0⟩:=h;exact absurd e0 hE
  ·rw [if_neg hm]at h;exact h.1
 ·rw [if_neg h0]at h;exact h.1
theorem ElGot.pr0 {c:CTest}{P:List (Value×List Int)}{lots:Bytes}{w w':World}{v:Value}(h:ElGot c P lots w (.returned (.tuple #[v,.int .i64 0])) w'):prE c P=0:=by
 obtain⟨hb,v1,E1,e1,h⟩:=h;obtain⟨rfl,rfl⟩:v1=v∧E1=0:=by
  have:=e1;simp at this;exact⟨this.1.symm,this.2.symm⟩
 by_cases h0:prE c P=0;·exact h0
 ·rw [if_neg h0]at h;exact absurd h.2.symm h0
theorem oth_of {c:CTest}{N O:List Int}{P P':List (Value×List Int)}(hN:Names c.op.length N)(hO:Names P.length O)(ha:allN c.op.length P)(h:P'.map Prod.snd=O.map fun k=>renB N (P.getD k.toNat (.slice none 0 0,[])).2):Oth c N P P':=by
 refine⟨hN,ha,?_⟩;rw [h];refine(hO.perm.map _).trans (List.Perm.of_eq ?_);apply List.ext_getElem?;intro k;unfold iota;rw [List.map_map,List.getElem?_map,List.getElem?_map];by_cases hk:k<P.length
 ·rw [List.getElem?_range hk,List.getElem?_eq_getElem hk];simp [hk]
 ·rw [List.getElem?_eq_none (by rw [List.length_range];omega),List.getElem?_eq_none (by omega)];rfl
theorem ctN_get {c:CTest}{N L:List Int}(hN:Names c.op.length N){k:Nat}(hk:k<L.length)(hl:0≤L[k]∧L[k]<(c.op.length:Int)):
 ∃(i j:Nat) (hi:i<c.op.length) (hj:j<(ctN c N).op.length),(TR.ren N L)[k]?=some (i:Int)∧L[k]?=some (j:Int)∧(ctN c N).op[j]=c.op[i]:=by
 have h1:=hN.nm.1.lt L[k].toNat (by omega);refine⟨nmF N L[k].toNat,L[k].toNat,h1,by rw [ctN_len hN];omega,?_,?_,?_⟩
 ·unfold TR.ren;rw [List.getElem?_map,List.getElem?_eq_getElem hk];rfl
 ·rw [List.getElem?_eq_getElem hk,Int.toNat_of_nonneg hl.1]
 ·have h2:=hN.nm.2 L[k].toNat (by omega);have hj:L[k].toNat<N.length:=by rw [hN.len];omega
  rw [List.getElem?_eq_getElem hj]at h2;injection h2 with h2;unfold ctN;simp only [List.getElem_map];rw [h2,Int.toNat_natCast,List.getD_eq_getElem?_getD,List.getElem?_eq_getElem h1];rfl
def aFind(n:Nat):Code→Option Code
 | .block m c=>if m=n then some (.block m c)else aFind n c
 |
  .seq a b=>match aFind n a with
  |some c=>some c
  |none=>aFind n b
 |
  .cond _ a b=>match aFind n a with
  |some c=>some c
  |none=>aFind n b
 | .loop c=>aFind n c
 | .scope c=>aFind n c
 |_=>none
noncomputable def aBlk(n:Nat):Code:=((Tryz.f7.body.bind (aFind n)).getD .skip)
theorem ctN_take {c:CTest}{N:List Int}(hN:Names c.op.length N){k:Nat}(hk:k<N.length)(hi:nmF N k<c.op.length):(ctN c N).op.take (k+1)=(ctN c N).op.take k++ [c.op[nmF N k]]:=by
 have hl:k<(ctN c N).op.length:=by rw [ctN_len hN,←hN.len];exact hk
 have h2:=hN.nm.2 k (by rw [←hN.len];exact hk);have h3:(ctN c N).op[k]?=some c.op[nmF N k]:=by
  show(N.map fun i=>c.op.getD i.toNat [])[k]?=_;rw [List.getElem?_map,h2];show some (c.op.getD (((nmF N k:Nat):Int)).toNat [])=_;rw [Int.toNat_natCast,List.getD_eq_getElem?_getD,List.getElem?_eq_getElem hi];rfl
 rw [List.getElem?_eq_getElem hl]at h3;rw [List.take_succ_eq_append_getElem hl];injection h3 with h3;rw [h3]
theorem aBlk0_any(c:CTest)(N:List Int)(oa:Option Addr)(cap:Nat)(on:Option Addr)(cn B D:Nat)(w:World)(Q:Exit→Act→World→Prop){u0 u1 u2 u3 u4 u6 u7 u8 u9 u10 u11 u12 u14 u15 u16 u17 u18 u19 u20 u21 u22 u23 u24 u25 u26 u27 u28 u29 u30 u31 u32 u33 u34 u35 u36 u37 u38 u39 u40 u41 u42 u43 u44 u45 u46 u47 u48 u49 u50 u51 u52 u53 u54 u55 u56 u57 u58 u59 u60 u61 u62 u63 u64 u65 u66 u67 u68 u72 u73 u74 u75 u76 u77 u78 u79 u80 u81 u82 u83 u84 u85 u86 u87 u88 u89 u90 u91 u92 u93 u94 u95 u96 u97 u98 u99 u100 u101 u102 u103 u104 u105 u106 u107 u108 u109 u110 u111 u112 u113 u114 u115 u116 u117 u118 u119 u120 u121 u122 u123 u124 u125 u126 u127 u128 u129 u130 u131 u132 u133 u134 u135 u136 u137 u138 u139 u140 u141 u142 u143 u144 u145 u146 u147 u148 u149 u150 u151:Value}
 (hN:Names c.op.length N) (hn:c.op.length≤12) (hBD:B<D) (hD:w.heap[D]?=some (.cells #[.string ⟨c.nm.toArray⟩,.slice none 0 0,.int .i64 c.rl,.int .i64 c.se,.int .i64 c.mo] 24 (0,0))) (hX:w.heap[B]?=some (.cells #[.string ⟨c.nm.toArray⟩,.slice oa c.op.length cap,.int .i64 c.rl,.int .i64 c.se,.int .i64 c.mo] 24 (0,0)))
 (hs: ∀w',Below D w w'→StrsAt w' oa c.op) (hi: ∀w',Below D w w'→IsAt w' on N)
 (hP: ∀(c:List PanicEntry) (a:Act) (d:Option Nat) (v:Value) (w:World),Q (.panic c) (a.put d v) w→Q (.panic c) a w)
 (hQ: ∀(v15 v71 v72 v73 v74 v75 v76 v77 v78 v79 v80 v81 v82 v83 v84 v85:Value) (w':World) (od:Option Addr) (cd:Nat),Below D w w'→w'.heap[D]?=some (.cells #[.string ⟨c.nm.toArray⟩,.slice od N.length cd,.int .i64 c.rl,.int .i64 c.se,.int .i64 c.mo] 24 (0,0))→StrsAt w' od (ctN c N).op→Q .normal ⟨#[u0,u1,u2,u3,u4,.pointer (some ⟨B,0,none⟩),u6,u7,u8,u9,u10,u11,u12,.pointer (some ⟨D,0,none⟩),u14,v15,u16,u17,u18,u19,u20,u21,u22,u23,u24,u25,u26,u27,u28,u29,u30,u31,u32,u33,u34,u35,u36,u37,u38,u39,u40,u41,u42,u43,u44,u45,u46,u47,u48,u49,u50,u51,u52,u53,u54,u55,u56,u57,u58,u59,u60,u61,u62,u63,u64,u65,u66,u67,u68,.slice on N.length cn,.int .i64 N.length,v71,v72,v73,v74,v75,v76,v77,v78,v79,v80,v81,v82,v83,v84,v85,u86,u87,u88,u89,u90,u91,u92,u93,u94,u95,u96,u97,u98,u99,u100,u101,u102,u103,u104,u105,u106,u107,u108,u109,u110,u111,u112,u113,u114,u115,u116,u117,u118,u119,u120,u121,u122,u123,u124,u125,u126,u127,u128,u129,u130,u131,u132,u133,u134,u135,u136,u137,u138,u139,u140,u141,u142,u143,u144,u145,u146,u147,u148,u149,u150,u151],[]⟩ w'):
 Code.wp Tryz.prog (aBlk 0) Q ⟨#[u0,u1,u2,u3,u4,.pointer (some ⟨B,0,none⟩),u6,u7,u8,u9,u10,u11,u12,.pointer (some ⟨D,0,none⟩),u14,u15,u16,u17,u18,u19,u20,u21,u22,u23,u24,u25,u26,u27,u28,u29,u30,u31,u32,u33,u34,u35,u36,u37,u38,u39,u40,u41,u42,u43,u44,u45,u46,u47,u48,u49,u50,u51,u52,u53,u54,u55,u56,u57,u58,u59,u60,u61,u62,u63,u64,u65,u66,u67,u68,.slice on N.length cn,.int .i64 N.length,.int .i64 (0:Int),u72,u73,u74,u75,u76,u77,u78,u79,u80,u81,u82,u83,u84,u85,u86,u87,u88,u89,u90,u91,u92,u93,u94,u95,u96,u97,u98,u99,u100,u101,u102,u103,u104,u105,u106,u107,u108,u109,u110,u111,u112,u113,u114,u115,u116,u117,u118,u119,u120,u121,u122,u123,u124,u125,u126,u127,u128,u129,u130,u131,u132,u133,u134,u135,u136,u137,u138,u139,u140,u141,u142,u143,u144,u145,u146,u147,u148,u149,u150,u151],[]⟩ w:=by
 have HP:=Lib.hid hP;clear hP
 conv=>arg 2;whnf
 have HQ:=Lib.hid hQ;obtain⟨j0,ji,jz0,jz1,jz2⟩:=info_parts info_str;have JI:=Lib.hid ji;have JZ0:=Lib.hid jz0;have JZ1:=Lib.hid jz1;have JZ2:=Lib.hid jz2;have HN:=Lib.hid hN;have HSS:=Lib.hid hs;have HII:=Lib.hid hi;have hDw:=lt_of_heap hD;have X0:=Lib.hid hX;have HLEN:=Lib.hid hN.len;have hN12:N.length≤12:=by have:=HLEN.out;omega
 have D0:=Lib.hid hD;clear ji jz0 jz1 jz2 hQ hN hs hi hX hD;go_wp2_with fail;go_loopw [71] (fun v wr=> ∃(k:Nat) (vo:Value),v=.int .i64 k∧k≤N.length∧Below D w wr∧wr.heap[D]?=some (.cells #[.string ⟨c.nm.toArray⟩,vo,.int .i64 c.rl,.int .i64 c.se,.int .i64 c.mo] 24 (0,0))∧wr.ownsRow (D+1) 9 1 vo k (svals ((ctN c N).op.take k))) (fun v _=>N.length-(intOf v).toNat);case atStart=>exact⟨0,_,rfl,Nat.zero_le _,Below.refl _ _,D0.out,World.ownsRow_nil _ _ _ _⟩
 case round=>
 clear D0;obtain⟨k,vo,rfl,hk,hb,hd,ho⟩:=hrel;have BR:=Lib.hid hb;have DR:=Lib.hid hd;have OR:=Lib.hid ho;clear hb hd ho;by_cases hkn:k<N.length;case neg=>
  obtain rfl:k=N.length:=by omega
  have dk:decide ((N.length:Int)<(N.length:Int))=false:=decide_eq_false (by omega);have dk2:decide (N.length<N.length)=false:=decide_eq_false (by omega);have hcl:(ctN c N).op.length=N.length:=by rw [ctN_len HN.out,HLEN.out]
  have O2:=OR.out;have HCL:=Lib.hid hcl;rw [←hcl,List.take_length]at O2;obtain⟨od,cd,rfl,hst⟩:=strsAt_own O2;rw [hcl]at DR;have HST:=Lib.hid hst;clear O2 hst OR hcl;go_wp2_with fail;exact HQ.out _ _ _ _ _ _ _ _ _ _ _ _ _ _ _ _ wr od cd BR.out DR.out HST.out
 have dk:decide ((k:Int)<(N.length:Int))=true:=decide_eq_true (by omega);have dk2:decide (k<N.length)=true:=decide_eq_true hkn;have dki:(k:Int)<(N.length:Int):=by omega
 have hIN:=HII.out wr BR.out;obtain⟨a,hoa,hab,hac⟩:=hIN.cells k hkn;have hnk:=HN.out.nm.2 k (by have:=HLEN.out;omega);rw [List.getElem?_eq_getElem hkn]at hnk;have hNk:N[k]=((nmF N k:Nat):Int):=by injection hnk
 rw [hNk]at hac;have hnm:=HN.out.nm.1.lt k (by have:=HLEN.out;omega);obtain⟨q,hq,hqb,hqc⟩:=(HSS.out wr BR.out).cells (nmF N k) hnm;have HTK:=Lib.hid (ctN_take HN.out hkn hnm);have hDr:D<wr.heap.size:=lt_of_heap DR.out;have X1:=Lib.hid (bel_keep BR.out hBD X0.out);subst hoa;subst hq;clear hIN hnk hNk;generalize c.op[nmF N k]=opt at*;generalize hi:nmF N k=i at*;have hii:(i:Int)<(c.op.length:Int):=by omega
 clear hi;go_upto_region 13 with(fail);have d1: ∀x:BelowT wr.heap.size wr,x.w.cell? ⟨D,1,none⟩=some vo:=fun x=>cell_of_row _ D 1 _ _ _ (bel_keep x.2 hDr DR.out);have d2: ∀x:BelowT wr.heap.size wr,x.w.cell? ⟨B,1,none⟩=some (.slice (some q) c.op.length cap):=fun x=>cell_of_row _ B 1 _ _ _ (bel_keep x.2 (by omega) X1.out);have d3: ∀x:BelowT wr.heap.size wr,x.w.cell? (q.add i)=some (.string ⟨opt.toArray⟩):=fun x=>(x.2.cell (by rw [addr_block];exact hqb)).trans hqc;clear hac hqc dk dk2 dki;refine Seg.wp_region_segs (fun w'=> ∃x:BelowT wr.heap.size wr,w'=x.w) [([0,1,2,3,4,5,6],7)] [] 8 (by kernel_rfl) (by kernel_rfl) (fun c a d v w h=>HP.out c a d v w h) (⟨⟨_,(Below.refl _ _).drew⟩,rfl⟩) ?_;simp only [List.map_cons,List.map_nil,Seg.opAt,List.drop_succ_cons,List.drop_zero,Seg.wpSegs,Array.getD_eq_getD_getElem?,List.getElem?_toArray,List.getElem?_cons_succ,List.getElem?_cons_zero,Option.getD_some];repeat (any_goals (first|go_big_quiet_step (fail)|quiet_step (fail)))
 refine wpQuiet_nil ?_;intro K hK;simp only [Region.wanted,if_true];go_wp2_with fail;have hx3:Below wr.heap.size wr (wr.alloc (.cells #[.string ⟨opt.toArray⟩] 9)).drew:=((Below.refl _ _).alloc (Nat.le_refl _) _).drew;refine hK _ _ ⟨⟨_,hx3⟩,rfl⟩ ?_;clear hK K d1 d2 d3;have DX:=Lib.hid (bel_keep hx3 hDr DR.out);have OX:=Lib.hid (own_below OR.out hx3);have BX:=Lib.hid (BR.out.trans (hx3.mono (Nat.le_of_lt hDr)));have EG:(wr.alloc (.cells #[.string ⟨opt.toArray⟩] 9)).drew.heap[wr.heap.size]?=some (.cells #[.string ⟨opt.toArray⟩] 9 (0,0)):=heap_at rfl;have hDX:D<(wr.alloc (.cells #[.string ⟨opt.toArray⟩] 9)).drew.heap.size:=lt_of_heap DX.out;clear hx3;generalize (wr.alloc (.cells #[.string ⟨opt.toArray⟩] 9)).drew=w3 at*;generalize wr.heap.size=G at*;repeat (any_goals (first|go_big_quiet_step (fail)|quiet_step (fail)))
 refine wpQuiet_nil ?_;go_wp2_with (at_builtin;go_loud (refine wpList_append_lies _ rfl (.tmp 76) (.tmp 82) 22 rfl (D+1) 9 j0 (.string ⟨#[]⟩) 1 16 Tryz.underlying22 JI.out JZ0.out JZ1.out JZ2.out rfl (by decide) vo k (svals ((ctN c N).op.take k)) rfl OX.out ⟨G,0,none⟩ 1 1 (svals [opt]) rfl rfl (news_blk EG) (svals_one _) (by decide) (by unfold maxLen;have:=HLEN.out;omega) (by have:=HLEN.out;omega) hDX _ rfl (fun g cp w7 own7 hg7 hf7 hlt7=>?_));have hrow7:=grown_keep hg7 (own_ne OX.out DX.out (by decide)) DX.out;have c8:w7.cell? ⟨D,1,none⟩=some vo:=cell_of_row w7 D 1 _ _ _ hrow7;have f8:w7.frozen? ⟨D,1,none⟩=false:=frozen_of_row w7 D 1 _ _ hrow7);have o8:Only D w7 (w7.setCell ⟨D,1,none⟩ (.slice (some ⟨g,0,none⟩) (k+1) cp)):=(Only.refl D w7).setCell 1 _;have D8:=Lib.hid (heap_setCell_same w7 D 1 _ _ (.slice (some ⟨g,0,none⟩) (k+1) cp) hrow7);have O8:=Lib.hid (own_only own7 o8 (own_ne own7 hrow7 (by decide)));have B8:=Lib.hid (bel_only (BX.out.grown hg7 (Nat.le_of_lt hDX) (fun i hi=>by have:=(OX.out.lt i hi).1;omega)) o8 (Nat.le_refl _));rw [svals_append,←HTK.out]at O8;clear own7 hg7 hf7 hlt7 hrow7 c8 f8 o8 EG DX OX BX HTK;have hki:(k:Int)<(N.length:Int):=by omega
 go_roundw;case rel=>exact⟨k+1,_,by go_num,by omega,B8.out,D8.out,O8.out⟩
 case measure=>simp [intOf];omega
end Go.Proofs.YtnohcdpnnhmpfaaGreatDoor.TR
