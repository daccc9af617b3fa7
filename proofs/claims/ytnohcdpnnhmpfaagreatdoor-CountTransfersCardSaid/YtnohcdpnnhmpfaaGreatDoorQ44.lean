/-
  Chapter 13, the reference's Transfer: all go on, nothing is kept. Printed by tools/genr0.py. PIECE
  Chapter 13, the reference's Transfer: what is answered, as it is read; where the count begins.
-/
import Derived.Test.YtnohcdpnnhmpfaaGreatDoorQ38
import Derived.Test.YtnohcdpnnhmpfaaGreatDoorQ39
import Derived.Test.YtnohcdpnnhmpfaaGreatDoorQ27
import Derived.Test.YtnohcdpnnhmpfaaGreatDoorQ41
set_option linter.unusedVariables false
set_option linter.unusedSimpArgs false
set_option maxRecDepth 100000
set_option maxHeartbeats 8000000
namespace Go.Proofs.YtnohcdpnnhmpfaaGreatDoor.TR
open Go.RowKit Tryz ML FRP AU CT FM
theorem jkH(q:Fr)(n NB CV CA KA:Nat)(qa qb:Value)(xa xb:Nat→Value)(w:World)(Q:Exit→Act→World→Prop){u0 u1 u2 u3 u4 u5 u6 u7 u8 u9 u10 u12 u13 u15 u18 u19 u20 u21 u22 u23 u24 u25 u26 u27 u28 u29 u30 u31 u32 u33 u34 u35 u36 u37 u38 u39 u40 u41 u42 u43 u44 u45 u46 u47 u48 u49 u50 u51 u52 u53 u54 u55 u56 u57 u58 u59 u60 u61 u62 u63 u64 u65 u66 u67 u68 u69 u70 u71 u72 u73 u74 u75 u76 u77 u78 u79 u80 u81 u82 u83 u84 u85 u86 u87 u88 u89 u90 u91 u92 u93 u94 u95 u96 u97 u98 u99 u100 u101 u102 u103 u104 u105 u106 u107 u108 u109 u110 u111 u112 u113 u114 u115 u116 u117 u118 u119 u120 u121 u122 u123 u124 u125 u126 u127 u128 u129 u130 u131 u132 u133 u134 u135 u136 u137 u138 u139 u140 u141 u142 u143 u144 u145 u146 u147 u148 u149 u150 u151 u152 u153 u154 u155 u156 u157 u158 u159 u160 u161 u162 u163 u164 u165 u166 u167 u168 u169 u170 u171 u172 u173 u174 u175 u176 u177 u178 u179 u180 u181 u182 u183 u184 u185 u186 u187 u188 u189 u190 u191 u192 u193 u194 u195 u196 u197 u198 u199 u200 u201 u202 u203 u204 u205 u206 u207 u208 u209 u210 u211 u212 u213 u214 u215 u216 u217 u218 u219 u220 u221 u222 u223 u224 u225 u226 u227 u228 u229 u230 u231 u232 u233 u234 u235 u236 u237 u238 u239 u240 u241 u242 u243 u244 u245 u246 u247 u248 u249 u250 u251 u252 u253 u254 u255 u256 u257 u258 u259 u260 u261 u262 u263 u264 u265 u266 u267 u268 u269 u270 u271 u272 u273 u274 u275 u276 u277 u278 u279 u280 u281 u282 u283 u284 u285 u286 u287 u288 u289 u290 u291 u292 u293 u294 u295 u296 u297 u298 u299 u300 u301 u302 u303 u304 u305 u306 u307 u308:Value}
 (hn:n≤12) (hNB:w.heap[NB]?=some (.cells #[.int .i64 (n:Int)] 3 (0,0))) (hCV:w.heap[CV]?=some (.cells #[.slice (some ⟨CA,0,none⟩) n n] 39 (0,0)))
 (hCA:w.heap[CA]?=some (.cells (zO n (fun _=>false)).toArray 4 (0,0))) (hKA:w.heap[KA]?=some (.cells (yg n xa xb).toArray 69 (0,0))) (hx:(yg n xa xb).toArray.all ym=true) (hq:NrV w q qa qb)
 (hP: ∀(c:List PanicEntry) (a:Act) (d:Option Nat) (v:Value) (w:World),Q (.panic c) (a.put d v) w→Q (.panic c) a w)
 (hQ: ∀(v17 v79 v80 v81 v82 v83 v84 v85 v86 v87 v88 v89 v90:Value) (w':World) (ka kb:Nat→Value),w'.heap[CA]?=some (.cells (zO n (fun i=>decide (i<n))).toArray 4 (0,0))∧w'.heap[KA]?=some (.cells (yg n ka kb).toArray 69 (0,0))∧(∀i,i<n→NrV w' zero (ka i) (kb i))∧NrV w' q qa qb∧Two CA KA w w'→Q .normal ⟨#[u0,u1,u2,u3,u4,u5,u6,u7,u8,u9,u10,.pointer (some ⟨NB,0,none⟩),u12,u13,.pointer (some ⟨CV,0,none⟩),u15,.slice (some ⟨KA,0,none⟩) n n,v17,u18,u19,u20,u21,u22,u23,u24,u25,u26,u27,u28,u29,u30,u31,u32,u33,u34,u35,u36,u37,u38,u39,u40,u41,u42,u43,u44,u45,u46,u47,u48,u49,u50,u51,u52,u53,u54,u55,u56,u57,u58,u59,u60,u61,u62,u63,u64,u65,u66,u67,u68,u69,u70,u71,u72,u73,u74,u75,u76,u77,u78,v79,v80,v81,v82,v83,v84,v85,v86,v87,v88,v89,v90,u91,u92,u93,u94,u95,u96,u97,u98,u99,u100,u101,u102,u103,u104,u105,u106,u107,u108,u109,u110,u111,u112,u113,u114,u115,u116,u117,u118,u119,u120,u121,u122,u123,u124,u125,u126,u127,u128,u129,u130,u131,u132,u133,u134,u135,u136,u137,u138,u139,u140,u141,u142,u143,u144,u145,u146,u147,u148,u149,u150,u151,u152,u153,u154,u155,u156,u157,u158,u159,u160,u161,u162,u163,u164,u165,u166,u167,u168,u169,u170,u171,u172,u173,u174,u175,u176,u177,u178,u179,u180,u181,u182,u183,u184,u185,u186,u187,u188,u189,u190,u191,u192,u193,u194,u195,u196,u197,u198,u199,u200,u201,u202,u203,u204,u205,u206,u207,u208,u209,u210,u211,u212,u213,u214,u215,u216,u217,u218,u219,u220,u221,u222,u223,u224,u225,u226,u227,u228,u229,u230,u231,u232,u233,u234,u235,u236,u237,u238,u239,u240,u241,u242,u243,u244,u245,u246,u247,u248,u249,u250,u251,u252,u253,u254,u255,u256,u257,u258,u259,u260,u261,u262,u263,u264,u265,u266,u267,u268,u269,u270,u271,u272,u273,u274,u275,u276,u277,u278,u279,u280,u281,u282,u283,u284,u285,u286,u287,u288,u289,u290,u291,u292,u293,u294,u295,u296,u297,u298,u299,u300,u301,u302,u303,u304,u305,u306,u307,u308],[]⟩ w'):
 Code.wp prog (jes 0) Q ⟨#[u0,u1,u2,u3,u4,u5,u6,u7,u8,u9,u10,.pointer (some ⟨NB,0,none⟩),u12,u13,.pointer (some ⟨CV,0,none⟩),u15,.slice (some ⟨KA,0,none⟩) n n,.int .i64 (0:Int),u18,u19,u20,u21,u22,u23,u24,u25,u26,u27,u28,u29,u30,u31,u32,u33,u34,u35,u36,u37,u38,u39,u40,u41,u42,u43,u44,u45,u46,u47,u48,u49,u50,u51,u52,u53,u54,u55,u56,u57,u58,u59,u60,u61,u62,u63,u64,u65,u66,u67,u68,u69,u70,u71,u72,u73,u74,u75,u76,u77,u78,u79,u80,u81,u82,u83,u84,u85,u86,u87,u88,u89,u90,u91,u92,u93,u94,u95,u96,u97,u98,u99,u100,u101,u102,u103,u104,u105,u106,u107,u108,u109,u110,u111,u112,u113,u114,u115,u116,u117,u118,u119,u120,u121,u122,u123,u124,u125,u126,u127,u128,u129,u130,u131,u132,u133,u134,u135,u136,u137,u138,u139,u140,u141,u142,u143,u144,u145,u146,u147,u148,u149,u150,u151,u152,u153,u154,u155,u156,u157,u158,u159,u160,u161,u162,u163,u164,u165,u166,u167,u168,u169,u170,u171,u172,u173,u174,u175,u176,u177,u178,u179,u180,u181,u182,u183,u184,u185,u186,u187,u188,u189,u190,u191,u192,u193,u194,u195,u196,u197,u198,u199,u200,u201,u202,u203,u204,u205,u206,u207,u208,u209,u210,u211,u212,u213,u214,u215,u216,u217,u218,u219,u220,u221,u222,u223,u224,u225,u226,u227,u228,u229,u230,u231,u232,u233,u234,u235,u236,u237,u238,u239,u240,u241,u242,u243,u244,u245,u246,u247,u248,u249,u250,u251,u252,u253,u254,u255,u256,u257,u258,u259,u260,u261,u262,u263,u264,u265,u266,u267,u268,u269,u270,u271,u272,u273,u274,u275,u276,u277,u278,u279,u280,u281,u282,u283,u284,u285,u286,u287,u288,u289,u290,u291,u292,u293,u294,u295,u296,u297,u298,u299,u300,u301,u302,u303,u304,u305,u306,u307,u308],[]⟩ w:=by
 have HP:=jA hP;clear hP
 conv=>arg 2;whnf
 have HQ:=jA hQ;have HS:=jA zM;have H0:=jA (show w.heap[CA]?=some (.cells (zO n (fun i=>decide (i<0))).toArray 4 (0,0))∧w.heap[KA]?=some (.cells (yg n xa xb).toArray 69 (0,0))∧(∀i,i<0→NrV w zero (xa i) (xb i))∧NrV w q qa qb∧Two CA KA w w from⟨by rw [hCA];rfl,hKA,fun i hi=>absurd hi (kw i),hq,Two.refl _ _ _⟩);have HXN:=jA hx;have HNB:=jA hNB;have HCV:=jA hCV;have n1:=yl hNB hCA (by decide);have n2:=yl hNB hKA (by decide);have n3:=yl hCV hCA (by decide);have n4:=yl hCV hKA (by decide);have n5:=yl hCA hKA (by decide);clear hQ hNB hCV hCA hKA hq hx;go_wp2_with fail;go_loopw [17] (fun v wr=> ∃(k:Nat) (ka kb:Nat→Value),v=.int .i64 k∧k≤n∧(yg n ka kb).toArray.all ym=true∧wr.heap[CA]?=some (.cells (zO n (fun i=>decide (i<k))).toArray 4 (0,0))∧wr.heap[KA]?=some (.cells (yg n ka kb).toArray 69 (0,0))∧(∀i,i<k→NrV wr zero (ka i) (kb i))∧NrV wr q qa qb∧Two CA KA w wr) (fun v _=>n-(intOf v).toNat);case atStart=>exact⟨0,xa,xb,rfl,ji _,HXN.u,H0.u⟩
 case round=>
 clear H0 HXN;obtain⟨k,ka,kb,rfl,hk,hni,hca,hka,hz,hq,h2⟩:=hrel;have kNB:wr.heap[NB]?=some (.cells #[.int .i64 (n:Int)] 3 (0,0)):=(h2.block NB (lt_of_heap HNB.u) n1 n2).trans HNB.u;have kCV:wr.heap[CV]?=some (.cells #[.slice (some ⟨CA,0,none⟩) n n] 39 (0,0)):=(h2.block CV (lt_of_heap HCV.u) n3 n4).trans HCV.u;have CR:=jA hca;have KR:=jA hka;have ZR:=jA hz;have QR:=jA hq;have WR:=jA h2;have NI:=jA hni;have d1:wr.cell? ⟨NB,0,none⟩=some (.int .i64 (n:Int)):=jM wr NB 0 _ _ _ kNB;have d2:wr.cell? ⟨CV,0,none⟩=some (.slice (some ⟨CA,0,none⟩) n n):=jM wr CV 0 _ _ _ kCV;clear hca hka hz hq h2 kNB kCV hni;by_cases hlt:k<n;case neg=>
  obtain rfl:k=n:=by omega
  have dk:decide ((k:Int)<(k:Int))=false:=jS (by omega);have dk2:decide (k<k)=false:=jS (by omega);go_wp2_with fail;exact HQ.u _ _ _ _ _ _ _ _ _ _ _ _ _ _ ka kb ⟨CR.u,KR.u,ZR.u,QR.u,WR.u⟩
 have dk:decide ((k:Int)<(n:Int))=true:=jQ (by omega);have dk2:decide (k<n)=true:=jQ hlt;have dki:(k:Int)<(n:Int):=by omega
 have m1:=VO CR.u hlt;have z1:wr.frozen? ⟨CA,k,none⟩=false:=jb wr CA k _ _ CR.u;go_upto_region 16 with(fail)
 refine xP (fun w2=>w2.heap[CA]?=some (.cells (zO n (fun i=>decide (i<k+1))).toArray 4 (0,0))∧xp CA wr w2) ⟨by
  rw [QU true CR.u hlt];congr 2
  rw [Vg (fun i hi=>show upd (fun i=>decide (i<k)) k true i=decide (i<k+1)by
   by_cases e:i=k;·subst e;rw [xT];simp
   ·rw [xX _ _ _ _ e];congr 1;rw [eq_iff_iff];omega)],xh k _⟩ (fun w2 hw2=>?_)
 have hbn:(zO n (fun i=>decide (i<k))).toArray.all ym=true:=QV _ _;have CR2:=jA hw2.1;have KR2:=jA ((hw2.2.block KA n5.symm).trans KR.u);have ZR2:=jA (fun i hi=>(ZR.u i hi).spare hw2.2 CR.u hbn);have QR2:=jA (QR.u.spare hw2.2 CR.u hbn);have WR2:=jA (WR.u.grown (xR hw2.2) (fun y hy=>.inl (by injection hy with hy;exact hy.symm)));clear hw2 hbn CR KR ZR QR WR m1 z1 d1 d2;have QW:=jA (XH 0 w2 (by omega));have TH:=jA (fun(w':World) (h:w'.heap[KA]?=some (.cells (yg n ka kb).toArray 69 (0,0)))=>jav h hlt);go_wp2_with (first
  |(go_at_call 33;refine QW.u.mono ?_;rintro e w3 ⟨a1,b1,rfl,f1,b3,li⟩;have F1:=jA f1;have B3:=jA b3;have hKl:=lt_of_heap KR2.u;have K3:=jA (xK b3 hKl KR2.u);clear f1 b3 li)
  |(refine qR rfl 69 _ _ rfl KA (k*2) #[a1,b1] rfl rfl (TH.u _ K3.u) HS.u (zF _ _ F1.u.one.1 F1.u.one.2) ?_))
 go_roundw;case rel=>
  have ho:xp KA w3 (w3.setCells KA (k*2) [a1,b1]):=zI KA [a1,b1] (k*2) w3;have CR3:=(ho.block CA n5).trans (xK B3.u (lt_of_heap CR2.u) CR2.u);refine⟨k+1,upd ka k a1,upd kb k b1,by go_num,by omega,?_,CR3,Xf a1 b1 K3.u hlt,fun i hi=>?_,(QR2.u.below B3.u).spare ho K3.u NI.u,(WR2.u.grown (yY B3.u none) (fun y hy=>by cases hy)).grown (xR ho) (fun y hy=>.inr (.inl (by injection hy with hy;exact hy.symm)))⟩
  ·refine Zc fun u hu=>?_;have hni: ∀u∈yg n ka kb,ym u=true:=fun u hu=>by
    have:=NI.u;rw [Array.all_eq_true_iff_forall_mem]at this;exact this u (by simpa using hu)
   rw [←jcQ a1 b1 hlt]at hu;rcases vv hu with hu|hu
   ·rcases vv hu with hu|hu;·exact hni u hu
    ·rw [hu];exact F1.u.slices.1
   ·rw [hu];exact F1.u.slices.2
  ·by_cases e:i=k;·subst e;rw [xT,xT];exact F1.u.spare ho K3.u NI.u
   ·rw [xX _ _ _ _ e,xX _ _ _ _ e];exact((ZR2.u i (by omega)).below B3.u).spare ho K3.u NI.u
 case measure=>simp [intOf];omega
theorem jdr {w:World}{B o:Nat}{cs:Array Value}{T:TypeId}(h:w.heap[B]?=some (.cells cs T (0,0))){j:Nat}{u:Value}(hj:cs[o+j]?=some u):w.cell? ((⟨B,o,none⟩:Addr).add j)=some u:=by
 unfold Addr.add;split;·rename_i h0;subst h0;exact(jM w B o _ _ _ h).trans hj
 ·show w.cell? ⟨B,o+j,none⟩=some u;exact(jM w B (o+j) _ _ _ h).trans hj
theorem jjj {K:RK}{G:RG}{w:World}{l:List Nat}{v:Value}(h:Qh K G w l v): ∃o c,v=.slice o l.length c∧yj w o (xq l):=by
 obtain⟨g,off,cap,cur,h1,h2,h3,_,_⟩:=h.ex;refine⟨_,_,h1,⟨fun i hi=>⟨_,rfl,lt_of_heap h2,?_⟩⟩⟩;have hi':i<l.length:=by rw [←yO l];exact hi
 have e:(xq l)[i]=((l[i]:Nat):Int):=by simp [xq]
 rw [e];exact jdr h2 (h3 i hi')
theorem jjP {K:RK}{q:Fr}{G:RG}{w w':World}{R:List Rd}{vR:Value}{CS:List (List Value)}{E:List Nat}(h:zk K q G w R vR CS)(hE:w.ownsRow K.w0.heap.size 3 1 G.ev E.length (xU (xq E)))(ho:xp K.RB w w')
 {cs:Array Value} {f:Nat×Nat} (hres:w.heap[K.RB]?=some (.cells cs 31 f)):
 ∃oR cR oE cE,vR=.slice oR R.length cR∧G.ev=.slice oE E.length cE∧jfE w' oR R∧yj w' oE (xq E):=by
 have hg:=xR ho;have hrows:=zV h.rows hg (fun x hx=>by injection hx with hx;subst hx;exact⟨cs,f,hres⟩) (by decide);have hels:=zV hE hg (fun x hx=>by injection hx with hx;subst hx;exact⟨cs,f,hres⟩) (by decide);have heach: ∀i (h1:i<R.length) (h2:i<CS.length),RdR K G w' R[i] CS[i]:=fun i h1 h2=>(h.each i h1 h2).turn hg (fun x hx=>by injection hx with hx;subst hx;exact⟨cs,_,f,hres,by decide,.inr (by decide)⟩) (fun y hy=>.inl hy);obtain⟨oE,cE,he,_,hE2⟩:=zz hels;rw [yO]at he;rcases hrows.2 with⟨hv,h0⟩|⟨g,cap,cur,hv,hb,hg2,hnc,hfz,hc,ht⟩
 ·have:R= []:=kY.1 h0;subst this;exact⟨none,0,oE,cE,hv,he,⟨fun i hi=>by simp at hi⟩,hE2⟩
 ·refine⟨some ⟨g,0,none⟩,cap,oE,cE,hv,he,⟨fun i hi=>?_⟩,hE2⟩;have hi':i<CS.length:=by rw [h.len];exact hi
  have h5: ∀c∈CS,c.length=5:=fun c hc=>by
   obtain⟨k,hk,rfl⟩:=vO hc;obtain⟨tv,wv,e,_⟩:=(heach k (by rw [←h.len];exact hk) hk).ex;rw [e];rfl
  obtain⟨tv,wv,e,q1,q2⟩:=(heach i hi hi').ex;obtain⟨ot,ct,e1,_,f1⟩:=jff q1;obtain⟨ow,cw,e2,f2⟩:=jjj q2;rw [jz]at e1;refine⟨_,ot,ct,ow,cw,rfl,lt_of_heap hg2,fun j v hj=>?_,f1,f2⟩;rw [Go.Deep.add_add];refine hrows.cells (g:=g) (by rw [hv];rfl) (i*5+j) v ?_;refine jbs CS 5 h5 i hi' j v ?_;rw [e,e1,e2];exact hj
theorem jjR {n:Nat}{lot:Int→List UInt8}{O:List Int}(h:Ord n lot O):xq (O.map Int.toNat)=O:=by
 unfold xq;rw [List.map_map];refine(qu fun x hx=>?_).trans (List.map_id O);have:=h.mem.1 hx;show((x.toNat:Nat):Int)=x;omega
theorem jia {c:yE}{oa:Option Addr}{cap B RB OB NB X OUT CV WV CA WA KA:Nat}{oO:Option Addr}{cO:Nat}{O:List Nat}{q:Fr}{qa qb:Value}{ka kb:Nat→Value}{Bs:List (Value×List Int)}{w0 w:World}
 (bel:Below w0.heap.size w0 w)
 (ctb:w.heap[B]?=some (.cells #[.string ⟨c.nm.toArray⟩,.slice oa c.op.length cap,.int .i64 c.rl,.int .i64 c.se,.int .i64 c.mo] 24 (0,0)))
 (res:w.heap[RB]?=some (.cells #[.string ⟨#[]⟩,.string ⟨#[]⟩,.slice none 0 0,.slice none 0 0] 31 (0,0)))
 (ordc:w.heap[OB]?=some (.cells #[.slice oO c.op.length cO] 29 (0,0)))
 (nc:w.heap[NB]?=some (.cells #[.int .i64 (c.op.length:Int)] 3 (0,0)))
 (qc:w.heap[X]?=some (.cells #[qa,qb] 69 (0,0)))
 (cv:w.heap[CV]?=some (.cells #[.slice (some ⟨CA,0,none⟩) c.op.length c.op.length] 39 (0,0)))
 (wv:w.heap[WV]?=some (.cells #[.slice (some ⟨WA,0,none⟩) c.op.length c.op.length] 39 (0,0)))
 (ca:w.heap[CA]?=some (.cells (zO c.op.length (c0 c.op.length)).toArray 4 (0,0)))
 (wa:w.heap[WA]?=some (.cells (zO c.op.length (fun _=>false)).toArray 4 (0,0))) (cw:CA≠WA)
 (kar:w.heap[KA]?=some (.cells (yg c.op.length ka kb).toArray 69 (0,0))) (kq:KA≠X)
 (quo:NrV w q qa qb) (kfr: ∀i,i<c.op.length→NrV w zero (ka i) (kb i)) (ord:yj w0 oO (xq O)) (b1:w0.heap.size≤CA) (b2:w0.heap.size≤WA) (b3:w0.heap.size≤KA):
 yI ⟨c,oa,cap,0,B,RB,OB,NB,X,OUT,CV,WV,CA,WA,KA,oO,cO,O,fun _=>0,fun _=>none,fun _=>0,fun _=> [],qa,qb,w0⟩ q (S0 c.op.length (yB Bs) 0) ⟨ka,kb,fun _=>zW,fun _=>zW,fun _=>0,fun _=>false,zW⟩ w:=
 have tn: ∀{y},JK ⟨c,oa,cap,0,B,RB,OB,NB,X,OUT,CV,WV,CA,WA,KA,oO,cO,O,fun _=>0,fun _=>none,fun _=>0,fun _=> [],qa,qb,w0⟩ ⟨ka,kb,fun _=>zW,fun _=>zW,fun _=>0,fun _=>false,zW⟩ y→False:=by
  rintro y (⟨k,hk,_⟩|h);·exact absurd hk (kw k)
  ·cases h
 {
  bel:=bel,ctb:=ctb,res:=res,ordc:=ordc,nc:=nc,qc:=qc,cv:=cv,wv:=wv,ca:=ca,wa:=wa,cw:=cw,kar:=kar,kq:=kq
  vs:=fun k hk=>absurd hk (kw k)
  vinj:=fun k j hk=>absurd hk (kw k)
  quo:=quo,kfr:=kfr
  vfr:=fun k hk=>absurd hk (kw k)
  vrk:=fun k hk=>absurd hk (kw k)
  bal:=fun k hk=>absurd hk (kw k)
  ord:=ord
  els:=qA _ _ _ _
  bases:=⟨b1,b2,b3,fun k hk=>absurd hk (kw k)⟩
  oq:=fun y hy=>(tn hy).elim
  ok:=fun y hy=>(tn hy).elim
  ov:=fun y hy=>(tn hy).elim
  en:=fun e=>by cases e}
end Go.Proofs.YtnohcdpnnhmpfaaGreatDoor.TR
