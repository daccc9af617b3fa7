/-
  Chapter 13, the reference's Transfer: the function's blocks by their numbers; totals of digits while they are summed; votes behind pointers.
  Chapter 13, the reference's Transfer: totals, vote by vote. Printed by tools/genr6.py. PIECE
-/
import Derived.Test.YtnohcdpnnhmpfaaGreatDoorQ32
import Derived.Test.YtnohcdpnnhmpfaaGreatDoorQ31
set_option linter.unusedVariables false
set_option linter.unusedSimpArgs false
set_option maxRecDepth 100000
set_option maxHeartbeats 8000000
namespace Go.Proofs.YtnohcdpnnhmpfaaGreatDoor.TR
open Go.RowKit Tryz ML FRP AU CT FM
def Vd(n:Nat):Code→Option Code
 | .block m c=>if m=n then some (.block m c)else Vd n c
 |
  .seq a b=>match Vd n a with
  |some c=>some c
  |none=>Vd n b
 |
  .cond _ a b=>match Vd n a with
  |some c=>some c
  |none=>Vd n b
 | .loop c=>Vd n c
 | .scope c=>Vd n c
 |_=>none
noncomputable def jes(n:Nat):Code:=((Tryz.f10.body.bind (Vd n)).getD .skip)
theorem jcQ {n i:Nat}{xa xb:Nat→Value}(a b:Value)(hi:i<n):((yg n xa xb).set (i*2) a).set (i*2+1) b=yg n (upd xa i a) (upd xb i b):=by
 have hl: ∀(xa xb:Nat→Value),(yg n xa xb).length=n*2:=fun xa xb=>zw n xa xb;apply List.ext_getElem?;intro j;have hj:j=(j/2)*2∨j=(j/2)*2+1:=by omega
 simp only [List.getElem?_set,kD,hl];by_cases hjn:j/2<n
 ·obtain⟨g1,g2⟩:=Kd n xa xb (j/2) hjn;obtain⟨g3,g4⟩:=Kd n (upd xa i a) (upd xb i b) (j/2) hjn;rcases hj with hj|hj
  ·rw [jT (show ¬(i*2+1=j)by omega)];by_cases e:i=j/2
   ·rw [jR (show i*2=j by omega),jR (by omega)];rw [hj,g3,←e,xT]
   ·rw [jT (show ¬(i*2=j)by omega),hj,g1,g3,xX _ _ _ _ (fun e2=>e e2.symm)]
  ·by_cases e:i=j/2
   ·rw [jR (show i*2+1=j by omega),jR (by omega)];rw [hj,g4,←e,xT]
   ·rw [jT (show ¬(i*2+1=j)by omega),jT (show ¬(i*2=j)by omega),hj,g2,g4,xX _ _ _ _ (fun e2=>e e2.symm)]
 ·rw [jT (show ¬(i*2+1=j)by omega),jT (show ¬(i*2=j)by omega),kP (by rw [hl];omega),kP (by rw [hl];omega)]
theorem NrV.slices {w:World}{x:Fr}{a b:Value}(h:NrV w x a b):ym a=true∧ym b=true:=by
 obtain⟨oa,ca,ob,cb,rfl,rfl,_⟩:=h;exact⟨rfl,rfl⟩
structure JS(w:World)(base g cg n:Nat)(T:Nat→Fr)(xa xb:Nat→Value):Prop where
 row:GRow ym w base 69 2 (.slice (some ⟨g,0,none⟩) n cg) n (yg n xa xb)
 frs: ∀i,i<n→NrV w (T i) (xa i) (xb i)
section
variable {w w':World} {base g cg n:Nat} {T:Nat→Fr} {xa xb:Nat→Value}
theorem JS.tot(h:JS w base g cg n T xa xb):jeg w base g cg n T xa xb:=⟨h.row.own,h.frs⟩
theorem JS.below(h:JS w base g cg n T xa xb)(hb:Below w.heap.size w w'):JS w' base g cg n T xa xb:=⟨h.row.below hb,fun i hi=>(h.frs i hi).below hb⟩
theorem JS.congr {T':Nat→Fr}(h:JS w base g cg n T xa xb)(e: ∀i,i<n→T' i=T i):JS w base g cg n T' xa xb:=⟨h.row,fun i hi=>by rw [e i hi];exact h.frs i hi⟩
theorem JS.only(h:JS w base g cg n T xa xb){X:Nat}(ho:xp X w w'){cs:Array Value}{t:TypeId}{f:Nat×Nat}(hX:w.heap[X]?=some (.cells cs t f))(hn:cs.all ym=true)(hne:g≠X):JS w' base g cg n T xa xb:=
 ⟨h.row.kept (xR ho) (.inr (by intro e;injection e with e;exact hne e)),fun i hi=>(h.frs i hi).spare ho hX hn⟩
theorem JS.blk(h:JS w base g cg n T xa xb): ∃cur,w.heap[g]?=some (.cells cur 69 (0,0))∧cur.all ym=true:=by
 rcases h.row.own.2 with⟨h0,_⟩|⟨g2,cap2,cur,h0,_,hg,_⟩;·cases h0
 ·injection h0 with h0;injection h0 with h0;injection h0 with h0;subst h0;exact⟨cur,hg,Array.all_eq_true_iff_forall_mem.2 fun u hu=>h.row.all g cur _ _ rfl hg u (by simpa using hu)⟩
theorem JS.there(h:JS w base g cg n T xa xb){i:Nat}(hi:i<n):w.there g (i*2) 2:=fun j hj=>by
 rcases h.row.own.2 with⟨h0,_⟩|⟨g2,cap2,cur,h0,_,hg,hnc,_,hcs,_⟩;·cases h0
 ·injection h0 with h0;injection h0 with h0;injection h0 with h0;subst h0;rw [jM w g (i*2+j) cur _ _ hg];exact⟨by simp;omega,jb w g (i*2+j) cur _ hg⟩
theorem JS.put(h:JS w base g cg n T xa xb){i:Nat}(hi:i<n){x:Fr}{a b:Value}(hN:NrV w x a b):JS (w.setCells g (i*2) [a,b]) base g cg n (upd T i x) (upd xa i a) (upd xb i b):=by
 obtain⟨cur,hg,hn⟩:=h.blk;have ho:xp g w (w.setCells g (i*2) [a,b]):=zI g [a,b] (i*2) w;refine⟨?_,fun j hj=>?_⟩
 ·have:=(h.row.stored (i*2) a hN.slices.1).stored (i*2+1) b hN.slices.2;rw [jcQ a b hi]at this;exact this
 ·by_cases e:j=i
  ·subst e;rw [xT,xT,xT];exact hN.spare ho hg hn
  ·rw [xX _ _ _ _ e,xX _ _ _ _ e,xX _ _ _ _ e];exact(h.frs j hj).spare ho hg hn
end
structure yp(K:RK)(w:World)(oV:Option Addr):Prop where
 cells: ∀k,k<K.m→ ∃a,oV=some a∧a.block<w.heap.size∧w.cell? (a.add k)=some (.pointer (some ⟨K.vb k,0,none⟩))
 typ: ∀a,oV=some a→ ∃cs f,w.heap[a.block]?=some (.cells cs 75 f)
theorem yp.below {K:RK}{w w':World}{oV:Option Addr}(h:yp K w oV)(hb:Below w.heap.size w w'):yp K w' oV:=
 ⟨
  fun k hk=>by
  obtain⟨a,h1,h2,h3⟩:=h.cells k hk;exact⟨a,h1,jV h2 hb.size,(hb.cell (by rw [yM];exact h2)).trans h3⟩,
  fun a ha=>by
   obtain⟨cs,f,h1⟩:=h.typ a ha;exact⟨cs,f,(hb.block _ (lt_of_heap h1)).trans h1⟩⟩
theorem yp.only {K:RK}{w w':World}{oV:Option Addr}(h:yp K w oV){X:Option Nat}(hg:w.grownBy w' X)(hX: ∀x,X=some x→ ∃cs T f,w.heap[x]?=some (.cells cs T f)∧T≠75):yp K w' oV:=by
 have hne: ∀a,oV=some a→some a.block≠X:=fun a ha e=>by
  obtain⟨cs,f,h1⟩:=h.typ a ha;obtain⟨cs2,T,f2,h2,h3⟩:=hX a.block e.symm;rw [h1]at h2;injection h2 with h2;injection h2 with _ h2;exact h3 h2.symm
 refine⟨fun k hk=>?_,fun a ha=>?_⟩
 ·obtain⟨a,h1,h2,h3⟩:=h.cells k hk;refine⟨a,h1,jV h2 hg.size,?_⟩;rw [qh (w:=w) (by rw [yM];exact hg.block _ h2 (hne a h1))];exact h3
 ·obtain⟨cs,f,h1⟩:=h.typ a ha;exact⟨cs,f,(hg.block _ (lt_of_heap h1) (hne a ha)).trans h1⟩
end Go.Proofs.YtnohcdpnnhmpfaaGreatDoor.TR
namespace Go.Proofs.YtnohcdpnnhmpfaaGreatDoor.TR
open Go.RowKit Tryz ML FRP AU CT FM
theorem jkE(K:RK)(q:Fr)(S:St)(G:RG)(s:Nat)(O:List Nat)(oV:Option Addr)(cV TT NN g cg:Nat)(za zb:Value)(wo w:World)(Q:Exit→Act→World→Prop){u0 u1 u2 u3 u4 u5 u6 u7 u8 u9 u10 u11 u12 u13 u14 u15 u16 u17 u18 u19 u20 u21 u24 u25 u26 u27 u28 u29 u30 u31 u32 u33 u34 u35 u36 u37 u38 u39 u40 u41 u42 u43 u44 u45 u46 u47 u48 u49 u50 u51 u52 u53 u54 u55 u56 u57 u58 u59 u60 u61 u62 u63 u64 u65 u66 u67 u68 u69 u70 u71 u72 u73 u74 u75 u76 u77 u78 u79 u80 u81 u82 u83 u84 u85 u86 u87 u88 u89 u90 u91 u92 u93 u94 u95 u96 u97 u98 u99 u100 u101 u102 u103 u104 u105 u106 u107 u108 u109 u110 u111 u112 u116 u117 u118 u119 u120 u121 u122 u123 u124 u125 u126 u127 u128 u129 u130 u131 u132 u133 u134 u135 u136 u137 u138 u139 u140 u141 u142 u143 u144 u145 u146 u147 u148 u149 u150 u151 u152 u153 u154 u155 u156 u157 u158 u159 u160 u161 u162 u163 u164 u165 u166 u167 u168 u169 u170 u171 u172 u173 u174 u175 u176 u177 u178 u179 u180 u181 u182 u183 u184 u185 u186 u187 u188 u189 u190 u191 u192 u193 u194 u195 u196 u197 u198 u199 u200 u201 u202 u203 u204 u205 u206 u207 u208 u209 u210 u211 u212 u213 u214 u215 u216 u217 u218 u219 u220 u221 u222 u223 u224 u225 u226 u227 u228 u229 u230 u231 u232 u233 u234 u235 u236 u237 u238 u239 u240 u241 u242 u243 u244 u245 u246 u247 u248 u249 u250 u251 u252 u253 u254 u255 u256 u257 u258 u259 u260 u261 u262 u263 u264 u265 u266 u267 u268 u269 u270 u271 u272 u273 u274 u275 u276 u277 u278 u279 u280 u281 u282 u283 u284 u285 u286 u287 u288 u289 u290 u291 u292 u293 u294 u295 u296 u297 u298 u299 u300 u301 u302 u303 u304 u305 u306 u307 u308:Value}
 (hR:yI K q S G wo) (hV:yp K wo oV) (hI:Inv K.c.op.length s K.m q O S) (hn:K.c.op.length≤12) (hm:K.m≤4096) (hb:Below wo.heap.size wo w) (hM1:wo.heap.size≤TT) (hM2:wo.heap.size≤NN) (hgN:g≠NN)
 (hTT:w.heap[TT]?=some (.cells #[.slice (some ⟨g,0,none⟩) K.c.op.length cg] 73 (0,0))) (hT:JS w wo.heap.size g cg K.c.op.length S.kept G.ka G.kb) (hN:w.heap[NN]?=some (.cells #[za,zb] 69 (0,0))) (hz:NrV w zero za zb)
 (hP: ∀(c:List PanicEntry) (a:Act) (d:Option Nat) (v:Value) (w:World),Q (.panic c) (a.put d v) w→Q (.panic c) a w)
 (hQ: ∀(v25 v115 v116 v117 v118 v119 v120 v121 v122 v123 v124 v125 v126 v127 v128 v129 v130 v131 v132 v133 v134 v135 v136 v137 v138 v139 v140 v141 v142 v143 v144 v145 v146 v147 v148:Value) (w':World) (xa xb:Nat→Value) (na nb:Value),JS w' wo.heap.size g cg K.c.op.length (S.tot K.m) xa xb→w'.heap[NN]?=some (.cells #[na,nb] 69 (0,0))→NrV w' (S.non K.m) na nb→w'.heap[TT]?=some (.cells #[.slice (some ⟨g,0,none⟩) K.c.op.length cg] 73 (0,0))→Below wo.heap.size wo w'→Q .normal ⟨#[u0,u1,u2,u3,u4,u5,u6,u7,u8,u9,u10,u11,u12,u13,u14,u15,u16,u17,u18,u19,u20,u21,.pointer (some ⟨TT,0,none⟩),.pointer (some ⟨NN,0,none⟩),u24,v25,u26,u27,u28,u29,u30,u31,u32,u33,u34,u35,u36,u37,u38,u39,u40,u41,u42,u43,u44,u45,u46,u47,u48,u49,u50,u51,u52,u53,u54,u55,u56,u57,u58,u59,u60,u61,u62,u63,u64,u65,u66,u67,u68,u69,u70,u71,u72,u73,u74,u75,u76,u77,u78,u79,u80,u81,u82,u83,u84,u85,u86,u87,u88,u89,u90,u91,u92,u93,u94,u95,u96,u97,u98,u99,u100,u101,u102,u103,u104,u105,u106,u107,u108,u109,u110,u111,u112,.slice oV K.m cV,.int .i64 K.m,v115,v116,v117,v118,v119,v120,v121,v122,v123,v124,v125,v126,v127,v128,v129,v130,v131,v132,v133,v134,v135,v136,v137,v138,v139,v140,v141,v142,v143,v144,v145,v146,v147,v148,u149,u150,u151,u152,u153,u154,u155,u156,u157,u158,u159,u160,u161,u162,u163,u164,u165,u166,u167,u168,u169,u170,u171,u172,u173,u174,u175,u176,u177,u178,u179,u180,u181,u182,u183,u184,u185,u186,u187,u188,u189,u190,u191,u192,u193,u194,u195,u196,u197,u198,u199,u200,u201,u202,u203,u204,u205,u206,u207,u208,u209,u210,u211,u212,u213,u214,u215,u216,u217,u218,u219,u220,u221,u222,u223,u224,u225,u226,u227,u228,u229,u230,u231,u232,u233,u234,u235,u236,u237,u238,u239,u240,u241,u242,u243,u244,u245,u246,u247,u248,u249,u250,u251,u252,u253,u254,u255,u256,u257,u258,u259,u260,u261,u262,u263,u264,u265,u266,u267,u268,u269,u270,u271,u272,u273,u274,u275,u276,u277,u278,u279,u280,u281,u282,u283,u284,u285,u286,u287,u288,u289,u290,u291,u292,u293,u294,u295,u296,u297,u298,u299,u300,u301,u302,u303,u304,u305,u306,u307,u308],[]⟩ w'):
 Code.wp prog (jes 6) Q ⟨#[u0,u1,u2,u3,u4,u5,u6,u7,u8,u9,u10,u11,u12,u13,u14,u15,u16,u17,u18,u19,u20,u21,.pointer (some ⟨TT,0,none⟩),.pointer (some ⟨NN,0,none⟩),u24,u25,u26,u27,u28,u29,u30,u31,u32,u33,u34,u35,u36,u37,u38,u39,u40,u41,u42,u43,u44,u45,u46,u47,u48,u49,u50,u51,u52,u53,u54,u55,u56,u57,u58,u59,u60,u61,u62,u63,u64,u65,u66,u67,u68,u69,u70,u71,u72,u73,u74,u75,u76,u77,u78,u79,u80,u81,u82,u83,u84,u85,u86,u87,u88,u89,u90,u91,u92,u93,u94,u95,u96,u97,u98,u99,u100,u101,u102,u103,u104,u105,u106,u107,u108,u109,u110,u111,u112,.slice oV K.m cV,.int .i64 K.m,.int .i64 (0:Int),u116,u117,u118,u119,u120,u121,u122,u123,u124,u125,u126,u127,u128,u129,u130,u131,u132,u133,u134,u135,u136,u137,u138,u139,u140,u141,u142,u143,u144,u145,u146,u147,u148,u149,u150,u151,u152,u153,u154,u155,u156,u157,u158,u159,u160,u161,u162,u163,u164,u165,u166,u167,u168,u169,u170,u171,u172,u173,u174,u175,u176,u177,u178,u179,u180,u181,u182,u183,u184,u185,u186,u187,u188,u189,u190,u191,u192,u193,u194,u195,u196,u197,u198,u199,u200,u201,u202,u203,u204,u205,u206,u207,u208,u209,u210,u211,u212,u213,u214,u215,u216,u217,u218,u219,u220,u221,u222,u223,u224,u225,u226,u227,u228,u229,u230,u231,u232,u233,u234,u235,u236,u237,u238,u239,u240,u241,u242,u243,u244,u245,u246,u247,u248,u249,u250,u251,u252,u253,u254,u255,u256,u257,u258,u259,u260,u261,u262,u263,u264,u265,u266,u267,u268,u269,u270,u271,u272,u273,u274,u275,u276,u277,u278,u279,u280,u281,u282,u283,u284,u285,u286,u287,u288,u289,u290,u291,u292,u293,u294,u295,u296,u297,u298,u299,u300,u301,u302,u303,u304,u305,u306,u307,u308],[]⟩ w:=by
 have HP:=jA hP;clear hP
 conv=>arg 2;whnf
 have HR:=jA hR;have HV:=jA hV;have HQ:=jA hQ;have HS:=jA zM;have HTS:=jA (fun k (hk:k≤K.m) i (hi:i<K.c.op.length)=>hI.tot_sml hn hm hk hi);have HNS:=jA (fun k (hk:k≤K.m)=>hI.non_sml hn hm hk);have HWS:=jA (fun k (hk:k<K.m)=>hI.wt_sml hn hm hk);have HWI:=jA (fun k (hk:k<K.m) i (h:(S.V k).wi=some i)=>(hI.at_ k hk i h).1);have HB:=jA hb;have HT:=jA hT;have HN:=jA hN;have HZ:=jA hz;have HTT:=jA hTT;have HVL:=jA (fun k (hk:k<K.m)=>lt_of_heap (hR.vs k hk));clear hR hV hQ hI hb hT hN hz hTT;obtain⟨M,hM⟩: ∃M,M=wo.heap.size:=⟨_,rfl⟩;have HM:=jA hM;rw [←hM]at hM1 hM2 HB HT HQ;clear hM;go_wp2_with fail;go_loopw [115] (fun v wr=> ∃(k:Nat) (xa xb:Nat→Value) (na nb:Value),v=.int .i64 k∧k≤K.m∧JS wr M g cg K.c.op.length (S.tot k) xa xb∧wr.heap[NN]?=some (.cells #[na,nb] 69 (0,0))∧NrV wr (S.non k) na nb∧wr.heap[TT]?=some (.cells #[.slice (some ⟨g,0,none⟩) K.c.op.length cg] 73 (0,0))∧Below M wo wr) (fun v _=>K.m-(intOf v).toNat);case atStart=>exact⟨0,G.ka,G.kb,za,zb,rfl,ji _,HT.u.congr (fun i _=>jjs S i),HN.u,by rw [jjW];exact HZ.u,HTT.u,HB.u⟩
 case round=>
 clear HB HT HN HZ HTT;obtain⟨k,xa,xb,na,nb,rfl,hk,ht,hn1,hz1,htt,hbb⟩:=hrel;have HT:=jA ht;have HN:=jA hn1;have HZ:=jA hz1;have HTT:=jA htt;have HB:=jA hbb;clear ht hn1 hz1 htt hbb;by_cases hkm:k<K.m;case neg=>
  obtain rfl:k=K.m:=by omega
  have dk:decide ((K.m:Int)<(K.m:Int))=false:=jS (by omega);have dk2:decide (K.m<K.m)=false:=jS (by omega);go_wp2_with fail;exact HQ.u _ _ _ _ _ _ _ _ _ _ _ _ _ _ _ _ _ _ _ _ _ _ _ _ _ _ _ _ _ _ _ _ _ _ _ _ _ _ _ _ HT.u HN.u HZ.u HTT.u HB.u
 have dk:decide ((k:Int)<(K.m:Int))=true:=jQ (by omega);have dk2:decide (k<K.m)=true:=jQ hkm;have dki:(k:Int)<(K.m:Int):=by omega
 obtain⟨a,hoa,hab,hac⟩:=HV.u.cells k hkm;have hac2:wr.cell? (a.add k)=some (.pointer (some ⟨K.vb k,0,none⟩)):=((HM.u.symm▸HB.u:Below wo.heap.size wo wr).cell (by rw [yM];exact hab)).trans hac;have hB0:=(HM.u▸HB.u:Below wo.heap.size wo wr);have VB:=jA (xK hB0 (HVL.u k hkm) (HR.u.vs k hkm));have VF:=jA ((HR.u.vfr k hkm).below hB0);have hvl:K.vb k<wr.heap.size:=lt_of_heap VB.u;have hNl:NN<wr.heap.size:=lt_of_heap HN.u;have hTl:TT<wr.heap.size:=lt_of_heap HTT.u;have hMr:M≤wr.heap.size:=by have:=hB0.size;have:=HM.u;omega
 have HVM:=jA (fun w' (hw': ∃z:xS wr.heap.size wr,w'=z.w)=>(show ∀j u,([G.wn k,G.wd k]:List Value)[j]?=some u→w'.cell? ((⟨K.vb k,3,none⟩:Addr).add j)=some u by
  obtain⟨z,rfl⟩:=hw';intro j u hu;have h1:=xK z.2 hvl VB.u
  match j with
  |0=>exact(jM _ _ 3 _ _ _ h1).trans hu
  |1=>exact(jM _ _ 4 _ _ _ h1).trans hu
  |_+2=>cases hu))
 have k1:wr.cell? ⟨K.vb k,1,none⟩=some (.int .i64 (wiI (S.V k).wi)):=jM wr (K.vb k) 1 _ _ _ VB.u;subst hoa;clear hac hB0;rcases hwi:(S.V k).wi with _|i
 ·rw [hwi]at k1;have k1':wr.cell? ⟨K.vb k,1,none⟩=some (.int .i64 (-1)):=k1;have HNX:=jA (jlT (S:=S) hwi);have HTX:=jA (fun i=>jgW (S:=S) (k:=k) (i:=i) (by rw [hwi];exact fun h=>by cases h));clear k1 hwi;go_upto_region 31 with(fail);have QP:=jA (jhc wr.drew (HZ.u.below (jN _ _).drew) (VF.u.below (jN _ _).drew) (HNS.u k hk).ok (HWS.u k hkm).ok (HNS.u k hk).lens (HWS.u k hkm).lens);refine Seg.xL (fun w'=> ∃z:xS wr.heap.size wr,w'=z.w) [] [0,1,2,3,4] 5 (by kernel_rfl) (by kernel_rfl) (fun c a d v w h=>HP.u c a d v w h) (⟨⟨_,(jN _ _).drew⟩,rfl⟩) ?_;simp only [jK,Seg.opAt,Seg.xW];refine yR rfl 69 _ rfl NN #[na,nb] _ _ _ rfl HN hNl underlying69 rfl HS.u ?_;first|go_big_quiet_step (fail)|quiet_step (fail)
  first|go_big_quiet_step (fail)|quiet_step (fail)
  first|go_big_quiet_step (fail)|quiet_step (fail)
  refine xV rfl 69 _ rfl ⟨K.vb k,3,none⟩ [G.wn k,G.wd k] _ rfl HVM.u underlying69 rfl HS.u ?_;refine jP ?_;go_wp2_with (first
   |(go_at_call 36;refine QP.u.mono ?_;rintro e w3 ⟨a3,b3,rfl,f3,bw,li⟩;have F3:=jA f3;have B3:=jA (yV bw);clear f3 bw li;have N3:=jA (xK B3.u hNl HN.u))
   |(refine xM rfl rfl 69 _ _ rfl NN #[na,nb] #[a3,b3] 69 rfl rfl N3.u rfl HS.u (zF _ _ F3.u.one.1 F3.u.one.2) ?_;intro w4 ho hp))
  go_roundw;case rel=>
   have hnn:(#[na,nb]:Array Value).all ym=true:=by
    have h1:=HZ.u.slices;simp [h1.1,h1.2]
   refine⟨k+1,xa,xb,a3,b3,by go_num,by omega,((HT.u.below B3.u).only ho N3.u hnn hgN).congr (fun i _=>HTX.u i),hp,?_,?_,xQ (HB.u.trans (B3.u.mono hMr)) ho hM2⟩;·rw [HNX.u];exact F3.u.spare ho N3.u hnn
   ·exact(ho.block TT (yl HTT.u HN.u (by decide))).trans (xK B3.u hTl HTT.u)
  case measure=>simp [intOf];omega
 ·rw [hwi]at k1;have hin:=HWI.u k hkm i hwi;have k1':wr.cell? ⟨K.vb k,1,none⟩=some (.int .i64 (i:Int)):=k1;have dn:decide ((i:Int)<0)=false:=jS (by omega);have HNX:=jA (jlc (S:=S) (k:=k) (by rw [hwi];exact fun h=>by cases h))
  have HTX:=jA (fun j (hj:j<K.c.op.length)=>(show S.tot (k+1) j=upd (S.tot k) i ((S.tot k i).add (S.V k).wt) j by
   by_cases e:j=i;·subst e;rw [xT];exact jlL hwi
   ·rw [xX _ _ _ _ e];exact jgW (by rw [hwi];exact fun h=>e (by injection h with h;exact h.symm))))
  have HK1:=jA k1';clear k1 hwi;go_upto_region 32 with(fail);clear dn k1' dk dk2 dki;have hii:(i:Int)<(K.c.op.length:Int):=by omega
  have dT: ∀z:xS wr.heap.size wr,z.w.cell? ⟨TT,0,none⟩=some (.slice (some ⟨g,0,none⟩) K.c.op.length cg):=fun z=>jM _ TT 0 _ _ _ (xK z.2 hTl HTT.u);have dV: ∀z:xS wr.heap.size wr,z.w.cell? ⟨K.vb k,1,none⟩=some (.int .i64 (i:Int)):=fun z=>(z.2.cell (p:=⟨K.vb k,1,none⟩) hvl).trans HK1.u
  have HTM:=jA (fun w' (hw': ∃z:xS wr.heap.size wr,w'=z.w)=>(show ∀j u,([xa i,xb i]:List Value)[j]?=some u→w'.cell? ((⟨g,i*2,none⟩:Addr).add j)=some u by
   obtain⟨z,rfl⟩:=hw';exact(HT.u.below z.2).tot.mid hin))
  have QP:=jA (fun w2 (h:Below wr.heap.size wr w2)=>jhc w2 ((HT.u.frs i hin).below h) (VF.u.below h) (HTS.u k hk i hin).ok (HWS.u k hkm).ok (HTS.u k hk i hin).lens (HWS.u k hkm).lens);refine Seg.xL (fun w'=> ∃z:xS wr.heap.size wr,w'=z.w) [([0,1,2,3,4,5,6,7,8,9,10,11,12,13,14,15],16)] [] 17 (by kernel_rfl) (by kernel_rfl) (fun c a d v w h=>HP.u c a d v w h) (⟨⟨_,(jN _ _).drew⟩,rfl⟩) ?_;simp only [jK,Seg.opAt,Seg.xW];first|go_big_quiet_step (fail)|quiet_step (fail)
  first|go_big_quiet_step (fail)|quiet_step (fail)
  first|go_big_quiet_step (fail)|quiet_step (fail)
  first|go_big_quiet_step (fail)|quiet_step (fail)
  first|go_big_quiet_step (fail)|quiet_step (fail)
  first|go_big_quiet_step (fail)|quiet_step (fail)
  first|go_big_quiet_step (fail)|quiet_step (fail)
  first|go_big_quiet_step (fail)|quiet_step (fail)
  first|go_big_quiet_step (fail)|quiet_step (fail)
  first|go_big_quiet_step (fail)|quiet_step (fail)
  first|go_big_quiet_step (fail)|quiet_step (fail)
  refine xV rfl 69 _ rfl ⟨g,i*2,none⟩ [xa i,xb i] _ rfl HTM.u underlying69 rfl HS.u ?_;first|go_big_quiet_step (fail)|quiet_step (fail)
  first|go_big_quiet_step (fail)|quiet_step (fail)
  first|go_big_quiet_step (fail)|quiet_step (fail)
  refine xV rfl 69 _ rfl ⟨K.vb k,3,none⟩ [G.wn k,G.wd k] _ rfl HVM.u underlying69 rfl HS.u ?_;refine jP ?_;intro Kc hK;simp only [Region.wanted,jY];go_wp2_with (go_at_call 36;refine(QP.u wr.drew (jN _ _).drew).mono ?_;rintro e w3 ⟨a3,b3,rfl,f3,bw,li⟩);have F3:=jA f3;have B3:=jA (yV bw);have N3:=jA (xK B3.u hNl HN.u);have T3:=jA (HT.u.below B3.u);refine hK _ _ ⟨⟨w3,B3.u⟩,rfl⟩ ?_;clear hK Kc f3 bw li QP dT dV;repeat (any_goals (first|go_big_quiet_step (fail)|quiet_step (fail)))
  refine jP ?_;have TH:=T3.u.there hin;go_wp2_with (refine qR rfl 69 _ _ rfl g (i*2) #[a3,b3] rfl rfl TH HS.u (zF _ _ F3.u.one.1 F3.u.one.2) ?_);go_roundw;case rel=>
   have ho:xp g w3 (w3.setCells g (i*2) [a3,b3]):=zI g [a3,b3] (i*2) w3;obtain⟨cur,hg,hcn⟩:=T3.u.blk;obtain⟨cur2,hgr,_⟩:=HT.u.blk;have hMg:M≤g:=by have:=T3.u.row.own.lt g rfl;exact this.1
   refine⟨k+1,upd xa i a3,upd xb i b3,na,nb,by go_num,by omega,(T3.u.put hin F3.u).congr (fun j hj=>HTX.u j hj),(ho.block NN hgN.symm).trans N3.u,?_,?_,xQ (HB.u.trans (B3.u.mono hMr)) ho hMg⟩;·rw [HNX.u];exact(HZ.u.below B3.u).spare ho hg hcn
   ·exact(ho.block TT (yl HTT.u hgr (by decide))).trans (xK B3.u hTl HTT.u)
  case measure=>simp [intOf];omega
end Go.Proofs.YtnohcdpnnhmpfaaGreatDoor.TR
