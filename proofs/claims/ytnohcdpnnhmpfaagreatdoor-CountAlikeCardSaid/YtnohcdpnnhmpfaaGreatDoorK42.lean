/-
  Chapter 13, CountAlike: the ballots in another order, under other names. Printed by tools/genalw.py. PIECE
-/
import Derived.Test.YtnohcdpnnhmpfaaGreatDoorK41
set_option linter.unusedVariables false
set_option linter.unusedSimpArgs false
set_option maxRecDepth 100000
set_option maxHeartbeats 4000000
namespace Go.Proofs.YtnohcdpnnhmpfaaGreatDoor.TR
open Go.RowKit ML FRP AU CT FM
theorem renB_take {n:Nat}{N:List Int}(hN:Names n N){b:List Int}(hb:b.length=n){j:Nat}(hj:j<N.length)(hi:nmF N j<b.length):(renB N b).take (j+1)=(renB N b).take j++ [b[nmF N j]]:=by
 have hl:j<(renB N b).length:=by unfold renB;rw [List.length_map];exact hj
 have h2:=hN.nm.2 j (by rw [←hN.len];exact hj);have h3:(renB N b)[j]?=some b[nmF N j]:=by
  show(N.map fun i=>b.getD i.toNat 0)[j]?=_;rw [List.getElem?_map,h2];show some (b.getD (((nmF N j:Nat):Int)).toNat 0)=_;rw [Int.toNat_natCast,List.getD_eq_getElem?_getD,List.getElem?_eq_getElem hi];rfl
 rw [List.getElem?_eq_getElem hl]at h3;rw [List.take_succ_eq_append_getElem hl];injection h3 with h3;rw [h3]
theorem length_renB(N b:List Int):(renB N b).length=N.length:=by unfold renB;exact List.length_map ..
def RowX(w:World)(p:Value×List Int):Prop:= ∃base,w.ownsRow base 3 1 p.1 p.2.length (ivals p.2)
theorem RowX.below {w w1:World}{p:Value×List Int}(h:RowX w p)(hb:Below w.heap.size w w1):RowX w1 p:=by
 obtain⟨base,h⟩:=h;exact⟨base,own_below h hb⟩
theorem RowX.rowV {w:World}{p:Value×List Int}(h:RowX w p)(hl:p.2.length<9223372036854775808):RowV w p:=by
 obtain⟨base,h⟩:=h;obtain⟨oa,cap,hv,_,hi⟩:=isAt_own h;exact⟨oa,cap,hv,hi,hl⟩
theorem aBlk2_any(n:Nat)(N O:List Int)(P:List (Value×List Int))(on oo ob:Option Addr)(cn co cb:Nat)(w:World)(Q:Exit→Act→World→Prop){u0 u2 u3 u5 u6 u7 u8 u9 u10 u11 u12 u13 u14 u15 u17 u18 u19 u20 u21 u22 u23 u24 u25 u26 u27 u28 u29 u30 u31 u32 u33 u34 u35 u36 u37 u38 u39 u40 u41 u42 u43 u44 u45 u46 u47 u48 u49 u50 u51 u52 u53 u54 u55 u56 u57 u58 u59 u60 u61 u62 u63 u64 u65 u66 u67 u68 u69 u70 u71 u72 u73 u74 u75 u76 u77 u78 u79 u80 u81 u82 u83 u84 u85 u89 u90 u91 u92 u93 u94 u95 u96 u97 u98 u99 u100 u101 u102 u103 u104 u105 u106 u107 u108 u109 u110 u111 u112 u113 u114 u115 u116 u117 u118 u119 u120 u121 u122 u123 u124 u125 u126 u127 u128 u129 u130 u131 u132 u133 u134 u135 u136 u137 u138 u139 u140 u141 u142 u143 u144 u145 u146 u147 u148 u149 u150 u151:Value}
 (hN:Names n N) (hO:Names P.length O) (hn:n≤12) (hm:P.length≤4096) (ha:allN n P) (hP0:PsAt w ob P) (hiN:IsAt w on N) (hiO:IsAt w oo O)
 (hP: ∀(c:List PanicEntry) (a:Act) (d:Option Nat) (v:Value) (w:World),Q (.panic c) (a.put d v) w→Q (.panic c) a w)
 (hQ: ∀(v18 v19 v21 v88 v89 v90 v91 v92 v93 v94 v95 v96 v97 v98 v99 v100 v101 v102 v103 v104 v105 v106 v107 v108 v109 v110 v111 v112 v113:Value) (w':World) (L:List (Value×List Int)) (ol:Option Addr) (cl:Nat),Below w.heap.size w w'→PsAt w' ol L→L.map Prod.snd=O.map (fun k=>renB N (P.getD k.toNat (.slice none 0 0,[])).2)→Q .normal ⟨#[u0,.slice ob P.length cb,u2,u3,.slice on N.length cn,u5,u6,u7,u8,u9,u10,u11,u12,u13,u14,u15,.slice ol L.length cl,u17,v18,v19,u20,v21,u22,u23,u24,u25,u26,u27,u28,u29,u30,u31,u32,u33,u34,u35,u36,u37,u38,u39,u40,u41,u42,u43,u44,u45,u46,u47,u48,u49,u50,u51,u52,u53,u54,u55,u56,u57,u58,u59,u60,u61,u62,u63,u64,u65,u66,u67,u68,u69,u70,u71,u72,u73,u74,u75,u76,u77,u78,u79,u80,u81,u82,u83,u84,u85,.slice oo O.length co,.int .i64 O.length,v88,v89,v90,v91,v92,v93,v94,v95,v96,v97,v98,v99,v100,v101,v102,v103,v104,v105,v106,v107,v108,v109,v110,v111,v112,v113,u114,u115,u116,u117,u118,u119,u120,u121,u122,u123,u124,u125,u126,u127,u128,u129,u130,u131,u132,u133,u134,u135,u136,u137,u138,u139,u140,u141,u142,u143,u144,u145,u146,u147,u148,u149,u150,u151],[]⟩ w'):
 Code.wp Tryz.prog (aBlk 2) Q ⟨#[u0,.slice ob P.length cb,u2,u3,.slice on N.length cn,u5,u6,u7,u8,u9,u10,u11,u12,u13,u14,u15,.slice none 0 0,u17,u18,u19,u20,u21,u22,u23,u24,u25,u26,u27,u28,u29,u30,u31,u32,u33,u34,u35,u36,u37,u38,u39,u40,u41,u42,u43,u44,u45,u46,u47,u48,u49,u50,u51,u52,u53,u54,u55,u56,u57,u58,u59,u60,u61,u62,u63,u64,u65,u66,u67,u68,u69,u70,u71,u72,u73,u74,u75,u76,u77,u78,u79,u80,u81,u82,u83,u84,u85,.slice oo O.length co,.int .i64 O.length,.int .i64 (0:Int),u89,u90,u91,u92,u93,u94,u95,u96,u97,u98,u99,u100,u101,u102,u103,u104,u105,u106,u107,u108,u109,u110,u111,u112,u113,u114,u115,u116,u117,u118,u119,u120,u121,u122,u123,u124,u125,u126,u127,u128,u129,u130,u131,u132,u133,u134,u135,u136,u137,u138,u139,u140,u141,u142,u143,u144,u145,u146,u147,u148,u149,u150,u151],[]⟩ w:=by
 have HP:=Lib.hid hP;clear hP
 conv=>arg 2;whnf
 have HQ:=Lib.hid hQ;obtain⟨i0,hi,hz0,hz1,hz2⟩:=info_parts info_i64;have HI:=Lib.hid hi;have HZ0:=Lib.hid hz0;have HZ1:=Lib.hid hz1;have HZ2:=Lib.hid hz2;obtain⟨j0,ji,jz0,jz1,jz2⟩:=info_parts info_ints;have JI:=Lib.hid ji;have JZ0:=Lib.hid jz0;have JZ1:=Lib.hid jz1;have JZ2:=Lib.hid jz2;have HN:=Lib.hid hN;have HO:=Lib.hid hO;have HA:=Lib.hid ha;have HPS:=Lib.hid hP0;have HIN:=Lib.hid hiN;have HIO:=Lib.hid hiO;have HLEN:=Lib.hid hN.len;have HLEO:=Lib.hid hO.len;have hN12:N.length≤12:=by have:=HLEN.out;omega
 have hO12:O.length≤4096:=by have:=HLEO.out;omega
 obtain⟨W,hW⟩: ∃W,W=w.heap.size:=⟨_,rfl⟩;have HW:=Lib.hid hW;have b0:=Below.refl w.heap.size w;rw [←hW]at b0;have BZ:=Lib.hid b0;clear hi hz0 hz1 hz2 ji jz0 jz1 jz2 hQ hN hO ha hP0 hiN hiO hW b0;rw [←HW.out]at HQ;go_wp2_with fail;go_loopw [88,16] (fun v vo wr=> ∃(k:Nat) (L:List (Value×List Int)),v=.int .i64 k∧k≤O.length∧Below W w wr∧wr.ownsRow W 29 1 vo k (L.map Prod.fst)∧(∀p∈L,p.2.length=n∧RowX wr p)∧L.map Prod.snd=(O.take k).map (fun k=>renB N (P.getD k.toNat (.slice none 0 0,[])).2)) (fun v _ _=>O.length-(intOf v).toNat);case atStart=>exact⟨0,[],rfl,Nat.zero_le _,BZ.out,World.ownsRow_nil _ _ _ _,(fun p hp=>by cases hp),rfl⟩
 case round=>
 clear BZ;obtain⟨k,L,rfl,hk,hb,ho,hr,hs⟩:=hrel;have BR:=Lib.hid hb;have OR:=Lib.hid ho;have RR:=Lib.hid hr;have SR:=Lib.hid hs;clear hb ho hr hs;by_cases hkn:k<O.length;case neg=>
  obtain rfl:k=O.length:=by omega
  have dk:decide ((O.length:Int)<(O.length:Int))=false:=decide_eq_false (by omega);have dk2:decide (O.length<O.length)=false:=decide_eq_false (by omega);obtain⟨ol,cl,hv,_,hps⟩:=psAt_own OR.out (fun p hp=>(RR.out p hp).2.rowV (by have:=(RR.out p hp).1;omega));have HPL:=Lib.hid hps;have HV:=Lib.hid hv;have S2:=SR.out;rw [List.take_length]at S2;have HS2:=Lib.hid S2;clear hps S2 hv;go_wp2_with fail;rw [HV.out];exact HQ.out _ _ _ _ _ _ _ _ _ _ _ _ _ _ _ _ _ _ _ _ _ _ _ _ _ _ _ _ _ wr L ol cl BR.out HPL.out HS2.out
 have dk:decide ((k:Int)<(O.length:Int))=true:=decide_eq_true (by omega);have dk2:decide (k<O.length)=true:=decide_eq_true hkn;have dki:(k:Int)<(O.length:Int):=by omega
 have hbw:Below w.heap.size w wr:=HW.out▸BR.out;obtain⟨a,hoa,hab,hac⟩:=(HIO.out.below hbw).cells k hkn;have hnk:=HO.out.nm.2 k (by have:=HLEO.out;omega);rw [List.getElem?_eq_getElem hkn]at hnk;have hNk:O[k]=((nmF O k:Nat):Int):=by injection hnk
 have hkp:=HO.out.nm.1.lt k (by have:=HLEO.out;omega)
 have HSN:=Lib.hid (show(O.take (k+1)).map (fun k=>renB N (P.getD k.toNat (.slice none 0 0,[])).2)=(O.take k).map (fun k=>renB N (P.getD k.toNat (.slice none 0 0,[])).2)++ [renB N P[nmF O k].2]by
  rw [List.take_succ_eq_append_getElem hkn,List.map_append,hNk,List.map_cons,List.map_nil,Int.toNat_natCast,List.getD_eq_getElem?_getD,List.getElem?_eq_getElem hkp];rfl)
 rw [hNk]at hac;have HPW:=Lib.hid (HPS.out.below hbw);have HNW:=Lib.hid (HIN.out.below hbw);obtain⟨q,hq,hqb,hqc⟩:=HPW.out.cells (nmF O k) hkp;have hpl:=HA.out P[nmF O k] (List.getElem_mem hkp);obtain⟨op,cp0,hp1,hp2,hp3⟩:=HPW.out.rows P[nmF O k] (List.getElem_mem hkp);rw [hp1]at hqc;generalize P[nmF O k]=p at*;generalize hi:nmF O k=kk at*;have hkk:(kk:Int)<(P.length:Int):=by omega
 have HP2:=Lib.hid hp2;have HQC:=Lib.hid hqc;have HPL:=Lib.hid hpl;subst hoa;subst hq;clear hnk hNk hi hbw hp1 hp2 hqc hpl;obtain⟨wo,hwo⟩: ∃wo:World,wo=wr:=⟨_,rfl⟩;subst hwo;obtain⟨Wo,hWo⟩: ∃Wo,Wo=wo.heap.size:=⟨_,rfl⟩;have HWo:=Lib.hid hWo;have b0:=Below.refl wo.heap.size wo;rw [←hWo]at b0;have BZ:=Lib.hid b0;clear hWo b0;go_wp2_with fail;clear hac dk dk2;go_loopw [94,19] (fun v vb wr=> ∃j:Nat,v=.int .i64 j∧j≤N.length∧Below Wo wo wr∧wr.ownsRow Wo 3 1 vb j (ivals ((renB N p.2).take j))) (fun v _ _=>N.length-(intOf v).toNat);case atStart=>exact⟨0,rfl,Nat.zero_le _,BZ.out,World.ownsRow_nil _ _ _ _⟩
 case round=>
 clear BZ;obtain⟨j,rfl,hj,hb,ho⟩:=hrel;have BI:=Lib.hid hb;have OI:=Lib.hid ho;clear hb ho;have hbo:Below wo.heap.size wo wr:=HWo.out▸BI.out;by_cases hjn:j<N.length;case pos=>
  have ek:decide ((j:Int)<(N.length:Int))=true:=decide_eq_true (by omega);have ek2:decide (j<N.length)=true:=decide_eq_true hjn;have eki:(j:Int)<(N.length:Int):=by omega
  obtain⟨a2,hoa2,hab2,hac2⟩:=(HNW.out.below hbo).cells j hjn;have hnk:=HN.out.nm.2 j (by have:=HLEN.out;omega);rw [List.getElem?_eq_getElem hjn]at hnk;have hNk:N[j]=((nmF N j:Nat):Int):=by injection hnk
  rw [hNk]at hac2;have hjp:=HN.out.nm.1.lt j (by have:=HLEN.out;omega);have hjq:nmF N j<p.2.length:=by rw [HPL.out];exact hjp
  obtain⟨a3,hoa3,hab3,hac3⟩:=(HP2.out.below hbo).cells (nmF N j) hjq;have HTK:=Lib.hid (renB_take HN.out HPL.out hjn hjq);have hqc:=(hbo.cell (p:=q.add kk) (by rw [addr_block];exact hqb)).trans HQC.out;have hws:=hbo.size;generalize p.2[nmF N j]=y at*;generalize hi:nmF N j=i at*;have hii:(i:Int)<(p.2.length:Int):=by omega
  subst hoa2;subst hoa3;have hWr:Wo≤wr.heap.size:=by have:=HWo.out;omega
  clear hnk hNk hi hbo;go_wp2_with (at_builtin;go_loud (refine wpList_append_lies _ rfl (.tmp 98) (.tmp 106) 29 rfl Wo 3 i0 (.int .i64 0) 1 8 Tryz.underlying29 HI.out HZ0.out HZ1.out HZ2.out rfl (by decide) _ j (ivals ((renB N p.2).take j)) rfl (OI.out.alloc _) ⟨_,0,none⟩ 1 1 (ivals [y]) rfl rfl (news_blk (heap_at rfl)) (ivals_one _) (by decide) (by unfold maxLen;omega) (by omega) (by simp;omega) _ rfl (fun g cp w7 own7 hg7 hf7 hlt7=>?_)));have B7:=Lib.hid ((BI.out.alloc hWr (.cells #[.int .i64 y] 3)).grown hg7 (by simp;omega) (fun i hi=>(OI.out.lt i hi).1));have O7:=Lib.hid own7;rw [ivals_append,←HTK.out]at O7;clear own7 hg7 hf7 hlt7;go_wp2_with fail;go_roundw;case rel=>exact⟨j+1,by go_num,by omega,B7.out,O7.out⟩
  case measure=>simp [intOf];omega
 obtain rfl:j=N.length:=by omega
 have ek:decide ((N.length:Int)<(N.length:Int))=false:=decide_eq_false (by omega);have ek2:decide (N.length<N.length)=false:=decide_eq_false (by omega);have O2:=OI.out;rw [show(renB N p.2).take N.length=renB N p.2 by rw [←length_renB N p.2,List.take_length]]at O2;obtain⟨o3,c3,hv3,_,_⟩:=isAt_own O2;subst hv3;have HO2:=Lib.hid O2;have OV:=Lib.hid (own_below OR.out hbo);have RV:=Lib.hid (fun p hp=>(⟨(RR.out p hp).1,(RR.out p hp).2.below hbo⟩:p.2.length=n∧RowX wr p));have hWW:W≤wr.heap.size:=by have h1:=hbo.size;have h2:=BR.out.size;have:=HW.out;omega
 have BV:=Lib.hid (BR.out.trans (hbo.mono (by have h2:=BR.out.size;have:=HW.out;omega)));clear O2 OI OR RR hbo BI BR HPW HNW HP2 HQC hj hjn;go_wp2_with (at_builtin;go_loud (refine wpList_append_lies _ rfl (.tmp 109) (.tmp 111) 25 rfl W 29 j0 (.slice none 0 0) 1 24 Tryz.underlying25 JI.out JZ0.out JZ1.out JZ2.out rfl (by decide) _ k (L.map Prod.fst) rfl (OV.out.alloc _) ⟨_,0,none⟩ 1 1 [.slice o3 (renB N p.2).length c3] rfl rfl (news_blk (heap_at rfl)) (by simp [Value.oneCell']) (by decide) (by unfold maxLen;omega) (by omega) (by simp;omega) _ rfl (fun g cp w7 own7 hg7 hf7 hlt7=>?_)))
 have RA:=Lib.hid (fun p1 hp=>(⟨(RV.out p1 hp).1,by
  obtain⟨base,hx⟩:=(RV.out p1 hp).2;have hy:=hx.alloc (.cells #[.slice o3 (renB N p.2).length c3] 29);exact⟨base,hy.kept hg7 (apart_types hy (OV.out.alloc (.cells #[.slice o3 (renB N p.2).length c3] 29)) (by decide))⟩⟩:p1.2.length=n∧RowX w7 p1))
 have RB:=Lib.hid (show RowX w7 (.slice o3 (renB N p.2).length c3,renB N p.2)from⟨Wo,by
  have hx:=HO2.out.alloc (.cells #[.slice o3 (renB N p.2).length c3] 29);have:=hx.kept hg7 (apart_types hx (OV.out.alloc (.cells #[.slice o3 (renB N p.2).length c3] 29)) (by decide));rw [←length_renB N p.2]at this;exact this⟩)
 have B7:=Lib.hid ((BV.out.alloc hWW (.cells #[.slice o3 (renB N p.2).length c3] 29)).grown hg7 (by simp;omega) (fun i hi=>(OV.out.lt i hi).1));have O7:=Lib.hid own7;clear own7 hg7 hf7 hlt7 OV RV HO2 BV;go_wp2_with fail;go_roundw;case rel=>
  refine⟨k+1,L++ [(.slice o3 (renB N p.2).length c3,renB N p.2)],by go_num,by omega,B7.out,?_,fun x hx=>?_,?_⟩;·rw [List.map_append];exact O7.out
  ·rcases List.mem_append.1 hx with h|h;·exact RA.out x h
   ·rw [List.mem_singleton.1 h];exact⟨by rw [length_renB];exact HLEN.out,RB.out⟩
  ·rw [List.map_append,SR.out,HSN.out];rfl
 case measure=>simp [intOf];omega
end Go.Proofs.YtnohcdpnnhmpfaaGreatDoor.TR
