/-
  Chapter 13, Transfer: (*hall).which and the function values of (*hall).round.
  Chapter 13, Transfer: what a hall's functions leave alone.
  Chapter 13, Transfer: (*hall).lay.
  Chapter 13, Transfer: (*hall).elect, (*hall).goOn.
  Chapter 13, Transfer: (*hall).goOn.
-/
import Derived.Test.YtnohcdpnnhmpfaaGreatDoorQ20
import Derived.Test.YtnohcdpnnhmpfaaGreatDoorQ21
import Derived.Test.YtnohcdpnnhmpfaaGreatDoorQ22
import Derived.Deep.LoopGhost
set_option linter.unusedVariables false
set_option linter.unusedSimpArgs false
set_option maxRecDepth 100000
set_option maxHeartbeats 8000000
namespace Go.Proofs.YtnohcdpnnhmpfaaGreatDoor.TR
open Go.RowKit Tryz ML FRP AU CT FM
structure Vw(K:HK):Prop where
 ord:yj K.w0 K.oO K.O
 plc:yj K.w0 K.oP K.P
 len:K.O.length=K.c.op.length
 plen:K.P.length=K.c.op.length
 mem: ∀x,x∈K.O↔0≤x∧x<(K.c.op.length:Int)
 place: ∀k (hk:k<K.O.length),K.P[K.O[k].toNat]?=some (k:Int)
 nd:K.O.Nodup
 n1:1≤K.c.op.length
 n12:K.c.op.length≤12
 m4:K.m≤4096
theorem Kj {w:World}{B n:Nat}{f:Nat→Bool}{T:TypeId}(h:w.heap[B]?=some (.cells (Vh n f) T (0,0))){i:Nat}(hi:i<n):w.cell? ⟨B,i,none⟩=some (.bool (f i)):=by
 rw [jM w B i _ _ _ h];unfold Vh;simp [hi]
theorem jfV(K:HK)(q:Fr)(S:St)(G:HG)(w:World)(hH:xZ K q S G w)(hx:Nat)(hX:w.cell? ⟨hx,0,none⟩=some (.pointer (some ⟨K.hb,0,none⟩)))(i:Nat)(hi:i<K.c.op.length):
 Calls prog 124 #[.int .i64 (i:Int),.pointer (some ⟨hx,0,none⟩)] w fun e w'=>e=.returned (.bool (S.cont i))∧Below w.heap.size w w':=by
 have k12:w.cell? ⟨K.hb,12,none⟩=some (.slice (some ⟨K.cb,0,none⟩) K.c.op.length K.c.op.length):=jM w K.hb 12 _ _ _ hH.hall;have kc:=Kj hH.conts hi;have e1:(i:Int)<(K.c.op.length:Int):=by omega
 generalize S.cont i=b at*;generalize K.c.op.length=n at*;clear hH;go_enter Tryz.func124,Tryz.ntmps124;go_wp2_with fail;go_ret;exact⟨rfl,jN _ _⟩
theorem jfI(M:FuncId)(qN:zs M)(c1:Value)(p:Int→Bool)(x:Int)(bx:Nat)(w:World)(hX:w.cell? ⟨bx,0,none⟩=some (.func (.func M) #[] #[c1]))
 (hf:Calls prog M #[.int .i64 x,c1] w fun e w2=>e=.returned (.bool (p x))∧Below w.heap.size w w2):
 Calls prog 172 #[.int .i64 x,.pointer (some ⟨bx,0,none⟩)] w fun e w'=>e=.returned (.bool (!p x))∧Below w.heap.size w w':=by
 unfold zs at qN;have QF:=jA hf;clear hf;generalize p x=b at*;go_enter Tryz.func172,Tryz.ntmps172;go_wp2_with (with_reducible refine(QF.u).mono ?_;rintro e w1 ⟨rfl,b1⟩);go_ret;exact⟨rfl,b1⟩
theorem jbS(K:HK)(q:Fr)(S:St)(G:HG)(w:World)(hH:xZ K q S G w)(hK:Vw K)(M:FuncId)(qM:zs M)(c1:Value)(p:Int→Bool)
 (hf: ∀w1,Below w.heap.size w w1→ ∀x∈K.O,Calls prog M #[.int .i64 x,c1] w1 fun e w2=>e=.returned (.bool (p x))∧Below w1.heap.size w1 w2):
 Calls prog 123 #[.pointer (some ⟨K.hb,0,none⟩),.func (.func M) #[] #[c1]] w fun e w'=> ∃ob cb,e=.returned (.slice ob (K.O.filter p).length cb)∧w'.ownsRow w.heap.size 3 1 (.slice ob (K.O.filter p).length cb) (K.O.filter p).length (xU (K.O.filter p))∧Below w.heap.size w w':=by
 have qW:zs 172:=Kf Tryz.func172 rfl rfl;have QW:=jA (fun bx w1 h1 x h2=>jfI M qM c1 p x bx w1 h1 h2);have QF:=jA hf;have k5:w.cell? ⟨K.hb,5,none⟩=some (.slice K.oO K.O.length K.cO):=jM w K.hb 5 _ _ _ hH.hall;have IOr:=jA (hK.ord.below hH.bel);have hlen:K.O.length≤12:=by rw [hK.len];exact hK.n12
 have hbl:=lt_of_heap hH.hall;have HQ:=jA qW;have hff:(K.O.filter fun x=> !!p x)=K.O.filter p:=by congr 1;funext x;simp
 have HFF:=jA hff;clear hf hff qW;generalize K.O=L at*;generalize K.oO=oO at*;generalize K.cO=cO at*;clear hK hH;go_enter Tryz.func123,Tryz.ntmps123;go_upto_region 1 with(fail);generalize hB:w.heap.size=B at*;have hbA:Below w.heap.size w (w.alloc (.cells #[.func (.func M) #[] #[c1]] 79)):=(jN _ _).alloc (jO _) _;have hcl:(w.alloc (.cells #[.func (.func M) #[] #[c1]] 79)).cell? ⟨w.heap.size,0,none⟩=some (.func (.func M) #[] #[c1]):=jM _ _ 0 _ _ _ (xN rfl);rw [hB]at hbA hcl;refine xP (fun w1=>Below B w w1∧w1.cell? ⟨B,0,none⟩=some (.func (.func M) #[] #[c1])∧B<w1.heap.size) ⟨hbA,hcl,by simp [hB]⟩ (fun w1 hw1=>?_);have B1:=jA hw1.1;have C1:=jA hw1.2.1;have hBs:=hw1.2.2;have HB:=jA hB;have k5':w1.cell? ⟨K.hb,5,none⟩=some (.slice oO L.length cO):=by rw [hw1.1.cell hbl];exact k5
 have I1:=jA (IOr.u.below (HB.u.symm▸B1.u));clear hw1 hbA hcl hB k5 IOr;go_wp2_with (first
  |(go_at_call 126;refine(Vr oO L cO w1 I1.u (by omega)).mono ?_;rintro e w2 ⟨ob,cb,rfl,own2,bel2⟩;have O2:=jA (zq own2 (jZ hBs));have B2:=jA bel2;have hX2: ∀x,Value.ownBlock (.slice ob L.length cb)=some x→w1.heap.size≤x:=fun x hx=>(own2.lt x hx).1;have HX2:=jA hX2;clear hX2 own2 bel2)
  |(go_at_call 125;refine(jfr 172 HQ.u (.pointer (some ⟨B,0,none⟩)) (fun x=> !p x) ob L cb B w2 O2.u hlen (fun w3 hg x hx=>?_)).mono ?_))
 ·have hbw:Below w1.heap.size w2 w3:=(jN _ w2).grown hg B2.u.size HX2.u;have hb3:Below B w w3:=B1.u.trans ((B2.u.trans hbw).mono (jZ hBs));have hc3:w3.cell? ⟨B,0,none⟩=some (.func (.func M) #[] #[c1]):=by rw [(B2.u.trans hbw).cell hBs];exact C1.u
  exact QW.u B w3 hc3 x (QF.u w3 hb3 x hx)
 ·rintro e w3 ⟨oc,cc,rfl,own3,hg3⟩;have O3:=jA own3;have hbw:=jA ((jN _ w2).grown hg3 B2.u.size HX2.u);clear own3 hg3;rw [HFF.u]at O3;go_wp2_with fail;go_ret;exact⟨oc,cc,rfl,by rw [HB.u];exact O3.u,by rw [HB.u];exact B1.u.trans ((B2.u.trans hbw.u).mono (jZ hBs))⟩
theorem Je.mid {w:World}{base n g cap:Nat}{T:Nat→Fr}{xa xb:Nat→Value}(h:Je w base n T (.slice (some ⟨g,0,none⟩) n cap) xa xb){i:Nat}(hi:i<n): ∀j u,([xa i,xb i]:List Value)[j]?=some u→w.cell? ((⟨g,i*2,none⟩:Addr).add j)=some u:=fun j u hj=>by
 obtain⟨h1,h2⟩:=Kd n xa xb i hi;have h3:=fun o v (hv:(yg n xa xb)[o]?=some v)=>h.row.own.cells (g:=g) rfl o v hv;rw [qZ]
 match j with
 |0=>have:=h3 (i*2) u (h1.trans hj);rw [Kl]at this;exact this
 |1=>have:=h3 (i*2+1) u (h2.trans hj);rw [Kl]at this;exact this
 |_+2=>cases hj
theorem Je.form {w:World}{base n:Nat}{T:Nat→Fr}{v:Value}{xa xb:Nat→Value}(h:Je w base n T v xa xb)(hn:1≤n): ∃g cap,v=.slice (some ⟨g,0,none⟩) n cap∧base≤g∧g<w.heap.size∧n≤cap:=by
 rcases h.row.own.2 with⟨_,h0⟩|⟨g,cap,cur,hv,hb,hg,hc,_⟩;·omega
 ·exact⟨g,cap,hv,hb,lt_of_heap hg,hc⟩
theorem jdB {K:HK}{q:Fr}{S:St}{G:HG}{w:World}(h:xZ K q S G w): ∀j u,([K.qn,K.qd]:List Value)[j]?=some u→w.cell? ((⟨K.hb,7,none⟩:Addr).add j)=some u:=
 jaO h.hall _ (fun j u hj=>by match j with|0=>exact hj|1=>exact hj|_+2=>cases hj)
theorem jfU(K:HK)(q:Fr)(S:St)(G:HG)(w:World)(hH:xZ K q S G w)(tx hx:Nat)(T:Nat→Fr)(base:Nat)(g cap:Nat)(xa xb:Nat→Value)(hT:Je w base K.c.op.length T (.slice (some ⟨g,0,none⟩) K.c.op.length cap) xa xb)
 (hX:w.cell? ⟨hx,0,none⟩=some (.pointer (some ⟨K.hb,0,none⟩))) (hX2:w.cell? ⟨tx,0,none⟩=some (.slice (some ⟨g,0,none⟩) K.c.op.length cap)) (hxl:hx<w.heap.size) (txl:tx<w.heap.size) (i:Nat) (hi:i<K.c.op.length) (sT:Sml (T i)) (sQ:Sml q):
 Calls prog 127 #[.int .i64 (i:Int),.pointer (some ⟨tx,0,none⟩),.pointer (some ⟨hx,0,none⟩)] w fun e w'=>e=.returned (.bool (decide (Qe (T i) q≤0)))∧Below w.heap.size w w':=by
 have HS:=jA zn;have TM:=jA (hT.mid hi);have QM:=jA (jdB hH);have QC:=jA (jlD w.drew (Trn.fr (Trn.of_below (jN _ _).drew 0 0) (hT.frs i hi)) (Trn.fr (Trn.of_below (jN _ _).drew 0 0) hH.quo) sT.lens sQ.lens);have hgl:g<w.heap.size:=by
  rcases hT.row.own.2 with⟨hv,_⟩|⟨g2,_,_,hv,_,hg2,_⟩;·cases hv
  ·injection hv with h1;injection h1 with h1;injection h1 with h1;subst h1;exact lt_of_heap hg2
 have hbl:=lt_of_heap hH.hall;have e1:(i:Int)<(K.c.op.length:Int):=by omega
 have d1: ∀x:xS w.heap.size w,x.w.cell? ⟨tx,0,none⟩=some (.slice (some ⟨g,0,none⟩) K.c.op.length cap):=fun x=>(x.2.cell (p:=⟨tx,0,none⟩) txl).trans hX2;have d2: ∀x:xS w.heap.size w,x.w.cell? ⟨hx,0,none⟩=some (.pointer (some ⟨K.hb,0,none⟩)):=fun x=>(x.2.cell (p:=⟨hx,0,none⟩) hxl).trans hX;have hc:(x:xS w.heap.size w)→ ∀{b o:Nat} {l:List Value},b<w.heap.size→(∀j u,l[j]?=some u→w.cell? ((⟨b,o,none⟩:Addr).add j)=some u)→ ∀j u,l[j]?=some u→x.w.cell? ((⟨b,o,none⟩:Addr).add j)=some u:=fun x {b o l} hb h j u hj=>(x.2.cell (by rw [xy];exact hb)).trans (h j u hj);have HC:=jA hc;clear hT hH hX hX2 hc;generalize Qe (T i) q=c at*;generalize K.c.op.length=n at*;go_enter Tryz.func127,Tryz.ntmps127;go_upto_region 1 with(fail);refine Seg.xL (fun w'=> ∃x:xS w.heap.size w,w'=x.w) [] [0,1,2,3,4,5,6,7] 8 (by kernel_rfl) (by kernel_rfl) (fun _ _ d _ _ h=>by cases d<;>exact h) (⟨⟨_,(jN _ _).drew⟩,rfl⟩) ?_;simp only [jK,Seg.opAt,Seg.xW];first|go_big_quiet_step (fail)|quiet_step (fail)
 first|go_big_quiet_step (fail)|quiet_step (fail)
 first|go_big_quiet_step (fail)|quiet_step (fail)
 refine xV rfl 90 _ rfl ⟨g,i*2,none⟩ [xa i,xb i] _ rfl (fun w' hw'=>by obtain⟨x,rfl⟩:=hw';exact HC.u x hgl TM.u) underlying90 rfl HS.u ?_;first|go_big_quiet_step (fail)|quiet_step (fail)
 first|go_big_quiet_step (fail)|quiet_step (fail)
 first|go_big_quiet_step (fail)|quiet_step (fail)
 refine xV rfl 90 _ rfl ⟨K.hb,7,none⟩ [K.qn,K.qd] _ rfl (fun w' hw'=>by obtain⟨x,rfl⟩:=hw';exact HC.u x hbl QM.u) underlying90 rfl HS.u ?_;refine jP ?_;go_wp2_with (go_at_call 51;refine QC.u.mono ?_;rintro e w2 ⟨rfl,bel2⟩);go_ret;exact⟨rfl,yV bel2⟩
theorem jjZ(l:List Nat)(i:Nat):jgo (l.map fun i:Nat=>(i:Int)) (i:Int)=decide (i∈l):=by
 rw [Bool.eq_iff_iff];simp [jgo];refine⟨?_,fun h=>⟨i,h,rfl⟩⟩;rintro⟨a,h1,h2⟩;obtain rfl:a=i:=by omega
 exact h1
theorem jfT(K:HK)(q:Fr)(S:St)(G:HG)(w:World)(hH:xZ K q S G w)(hx:Nat)(hX:w.cell? ⟨hx,0,none⟩=some (.pointer (some ⟨K.hb,0,none⟩)))(i:Nat)(hi:i<K.c.op.length)(hel:S.el.length≤12):
 Calls prog 130 #[.int .i64 (i:Int),.pointer (some ⟨hx,0,none⟩)] w fun e w'=>e=.returned (.bool (decide (i∈S.el)&& !S.moved i))∧Below w.heap.size w w':=by
 obtain⟨oe,ce,hev,_,he⟩:=zz hH.els.own;rw [jz]at hev;have QC:=jA (jeb oe (S.el.map fun i:Nat=>(i:Int)) ce (i:Int) w he (by rw [jz];omega));rw [jjZ,jz]at QC;have k14:w.cell? ⟨K.hb,14,none⟩=some (.slice oe S.el.length ce):=by rw [←hev];exact jM w K.hb 14 _ _ _ hH.hall
 have k13:w.cell? ⟨K.hb,13,none⟩=some (.slice (some ⟨K.mb,0,none⟩) K.c.op.length K.c.op.length):=jM w K.hb 13 _ _ _ hH.hall;have km:=Kj hH.moveds hi;have e1:(i:Int)<(K.c.op.length:Int):=by omega
 clear hev he hH;generalize S.moved i=b at*;generalize K.c.op.length=n at*;generalize S.el.length=m at*;cases hin:decide (i∈S.el)with
 |
  true=>
  rw [hin]at QC;clear hin;go_enter Tryz.func130,Tryz.ntmps130;go_wp2_with (go_at_call 63;refine QC.u.mono ?_;rintro e w2 ⟨rfl,rfl⟩);go_ret;exact⟨rfl,jN _ _⟩
 |
  false=>
  rw [hin]at QC;clear hin;go_enter Tryz.func130,Tryz.ntmps130;go_wp2_with (go_at_call 63;refine QC.u.mono ?_;rintro e w2 ⟨rfl,rfl⟩);go_ret;exact⟨rfl,jN _ _⟩
end Go.Proofs.YtnohcdpnnhmpfaaGreatDoor.TR
namespace Go.Proofs.YtnohcdpnnhmpfaaGreatDoor.TR
open Go.RowKit Tryz ML FRP AU CT
def yq(K:HK)(G:HG)(b:Nat):Prop:=b=K.hb∨b=K.wb∨b=K.kb∨b=K.cb∨b=K.mb∨(∃k,k<K.m∧b=K.pb k)∨(∃i,i<K.c.op.length∧(G.pv i).ownBlock=some b)∨G.nv.ownBlock=some b∨G.ev.ownBlock=some b
structure yQ(K:HK)(G:HG)(w:World)(G':HG)(w':World):Prop where
 os:w'.os=w.os
 tape:w'.tape=w.tape
 output:w'.output=w.output
 size:w.heap.size≤w'.heap.size
 frame: ∀b,b<w.heap.size→ ¬yq K G b→w'.heap[b]?=w.heap[b]?
 mine: ∀b,yq K G' b→yq K G b∨w.heap.size≤b
section
variable {K:HK} {G G' G'':HG} {w w' w'':World}
theorem yQ.refl(K:HK)(G:HG)(w:World):yQ K G w G w:=⟨rfl,rfl,rfl,jO _,fun _ _ _=>rfl,fun _ h=>.inl h⟩
theorem yQ.trans(h:yQ K G w G' w')(k:yQ K G' w' G'' w''):yQ K G w G'' w'':=⟨k.os.trans h.os,k.tape.trans h.tape,k.output.trans h.output,jU h.size k.size,
 fun b hb hn=>(k.frame b (jV hb h.size) (fun hm=>(h.mine b hm).elim hn (fun h1=>by omega))).trans (h.frame b hb hn),
 fun b hm=>(k.mine b hm).elim (fun h1=>h.mine b h1) (fun h1=>.inr (jU h.size h1))⟩
theorem yQ.below(h:yQ K G w G' w')(hb:Below w'.heap.size w' w''):yQ K G w G' w'':=h.trans ⟨hb.os,hb.tape,hb.output,hb.size,fun b h1 _=>hb.block b h1,fun b h1=>.inl h1⟩
theorem zf(hb:Below w.heap.size w w'):yQ K G w G w':=(yQ.refl K G w).below hb
theorem jfb {X:Option Nat}(hg:w.grownBy w' X)(hX: ∀x,X=some x→yq K G x)(hm: ∀b,yq K G' b→yq K G b∨w.heap.size≤b):yQ K G w G' w':=⟨hg.os,hg.tape,hg.output,hg.size,fun b hb hn=>hg.block b hb (fun e=>hn (hX b e.symm)),hm⟩
theorem Zs {X:Option Nat}{B:Nat}{w1:World}(hg:w.grownBy w1 X)(hX: ∀x,X=some x→yq K G x)(ho:xp B w1 w')(hB:yq K G B)(hm: ∀b,yq K G' b→yq K G b∨w.heap.size≤b):yQ K G w G' w':=⟨ho.os.trans hg.os,ho.tape.trans hg.tape,ho.output.trans hg.output,by rw [ho.size];exact hg.size,
 fun b hb hn=>(ho.block b (fun e=>hn (e▸hB))).trans (hg.block b hb (fun e=>hn (hX b e.symm))),hm⟩
theorem yQ.keep(h:yQ K G w G' w'){b:Nat}{o:Obj}(hb:w.heap[b]?=some o)(hn: ¬yq K G b):w'.heap[b]?=some o:=(h.frame b (lt_of_heap hb) hn).trans hb
theorem xZ.mineT {q:Fr}{S:St}(h:xZ K q S G w){b:Nat}(hm:yq K G b): ∃cs T f,w.heap[b]?=some (.cells cs T f)∧(∀u∈cs.toList,noLimb u=true)∧(T=116∨T=113∨T=90∨T=4∨T=168∨T=165∨T=3):=by
 rcases hm with rfl|rfl|rfl|rfl|rfl|⟨k,hk,rfl⟩|⟨i,hi,hv⟩|hv|hv;·exact⟨_,_,_,h.hall,YA h,by simp⟩
 ·exact⟨_,_,_,h.withs,Va h,by simp⟩
 ·exact⟨_,_,_,h.kepts,jam h,by simp⟩
 ·exact⟨_,_,_,h.conts,Ju _ _,by simp⟩
 ·exact⟨_,_,_,h.moveds,Ju _ _,by simp⟩
 ·exact⟨_,_,_,h.papers k hk,ZQ h hk,by simp⟩
 ·obtain⟨_,cs,f,h1,h2⟩:=GRow.typed (h.piles i hi) b hv;exact⟨cs,_,f,h1,h2,by simp⟩
 ·obtain⟨_,cs,f,h1,h2⟩:=GRow.typed h.nones b hv;exact⟨cs,_,f,h1,h2,by simp⟩
 ·obtain⟨_,cs,f,h1,h2⟩:=GRow.typed h.els b hv;exact⟨cs,_,f,h1,h2,by simp⟩
theorem yQ.limbs {q:Fr}{S:St}(t:yQ K G w G' w')(hH:xZ K q S G w){oc:Option Addr}{L:List Nat}(h:LimbsAt w oc L):LimbsAt w' oc L:=⟨fun i hi=>by
 obtain⟨a,h1,h2,h3⟩:=h.cells i hi;refine⟨a,h1,jV h2 t.size,?_⟩;have hb:(a.add i).block=a.block:=yM a i
 rw [qh (w:=w) (by
  rw [hb];refine t.frame _ h2 (fun hm=>?_);obtain⟨cs,T,f,g1,g2,_⟩:=hH.mineT hm;unfold World.cell? at h3;rw [hb,g1]at h3;simp only at h3;split at h3;·cases h3
  ·have hmem:=xB h3;have:=g2 _ (by simpa using hmem);cases this)]
 exact h3⟩
theorem yQ.fr {q:Fr}{S:St}(t:yQ K G w G' w')(hH:xZ K q S G w){x:Fr}{a b:Value}(h:FrV w x a b):FrV w' x a b:=by
 obtain⟨oa,ca,ob,cb,h1,h2,h3⟩:=h;exact⟨oa,ca,ob,cb,h1,h2,⟨t.limbs hH h3.num,t.limbs hH h3.den⟩⟩
theorem yQ.row(t:yQ K G w G' w'){good:Value→Bool}{base:Nat}{e:TypeId}{size n:Nat}{v:Value}{xs:List Value}(h:GRow good w base e size v n xs)(hn: ∀x,v.ownBlock=some x→ ¬yq K G x):GRow good w' base e size v n xs:=⟨by
 obtain⟨h1,h2⟩:=h.own;refine⟨h1,?_⟩;rcases h2 with h2|⟨g,cap,cur,hv,hb,hg,rest⟩;·exact .inl h2
 ·exact .inr ⟨g,cap,cur,hv,hb,t.keep hg (hn g (by rw [hv];rfl)),rest⟩,fun g cur t' fr hv hc=>by
 have hn':=hn g hv;obtain⟨_,cs,f,h1,h2⟩:=GRow.typed h g hv;rw [t.keep h1 hn']at hc;injection hc with hc;injection hc with hc;subst hc;exact h2⟩
theorem yQ.own(t:yQ K G w G' w'){base:Nat}{e:TypeId}{size n:Nat}{v:Value}{xs:List Value}(h:w.ownsRow base e size v n xs)(hn: ∀x,v.ownBlock=some x→ ¬yq K G x):w'.ownsRow base e size v n xs:=by
 obtain⟨h1,h2⟩:=h;refine⟨h1,?_⟩;rcases h2 with h2|⟨g,cap,cur,hv,hb,hg,rest⟩;·exact .inl h2
 ·exact .inr ⟨g,cap,cur,hv,hb,t.keep hg (hn g (by rw [hv];rfl)),rest⟩
theorem not_mine {q:Fr}{S:St}(hH:xZ K q S G w){b:Nat}{cs:Array Value}{T:TypeId}{f:Nat×Nat}(hb:w.heap[b]?=some (.cells cs T f))(hT:T≠116∧T≠113∧T≠90∧T≠4∧T≠168∧T≠165∧T≠3): ¬yq K G b:=fun hm=>by
 obtain⟨cs',T',f',h1,_,h2⟩:=hH.mineT hm;rw [hb]at h1;injection h1 with h1;injection h1 with _ h1;subst h1;simp_all
theorem KY {q:Fr}{S:St}{b:Nat}(ho:xp b w w')(hm:yq K G b)(hG: ∀b,yq K G' b→yq K G b):yQ K G w G' w':=jfb (xR ho) (fun x hx=>by injection hx with hx;subst hx;exact hm) (fun b h=>.inl (hG b h))
end
end Go.Proofs.YtnohcdpnnhmpfaaGreatDoor.TR
namespace Go.Proofs.YtnohcdpnnhmpfaaGreatDoor.TR
open Go.RowKit Tryz ML FRP AU CT FM
theorem jgw:(prog.info? 165).map (fun i=>(i.zero,i.size,i.bytes))=some (some (.pointer none),1,8):=by kernel_rfl
theorem Kz {b M:Nat}{w0:World}(x:GrT b M w0){p:Addr}{v:Value}(hb:p.block<M)(hne:p.block≠b)(hc:w0.cell? p=some v):x.w.cell? p=some v:=by
 exact(qh (w:=w0) (x.2 p.block hb hne)).trans hc
theorem jjq {α β:Type} [DecidableEq α](f:α→β)(i:α):upd f i (f i)=f:=by
 funext j;unfold upd;by_cases h:j=i<;>simp [h]
def yn(S:St)(k:Nat)(x:Vo):St:=⟨upd S.V k x,S.cont,S.moved,S.kept,S.el⟩
theorem KV(S:St)(k:Nat)(x y:Vo):yn (yn S k x) k y=yn S k y:=by
 unfold yn;congr 1;funext j;unfold upd;by_cases h:j=k<;>simp [h]
theorem jcb(S:St)(k:Nat):yn S k (S.V k)=S:=by
 unfold yn;have:upd S.V k (S.V k)=S.V:=by
  funext j;unfold upd;split;·rename_i e;rw [e]
  ·rfl
 rw [this]
theorem JG(S:St)(k:Nat)(x:Vo):(yn S k x).V k=x:=xT _ _ _
theorem jcd(c:Nat→Bool)(rk:List Nat)(n:Nat)(h:n<rk.length):Qc c (rk.drop n) n=if c rk[n]=true then(n+1,some rk[n])else Qc c (rk.drop (n+1)) (n+1):=by
 rw [kh h];rfl
theorem jjw(c:Nat→Bool)(rk:List Nat)(n:Nat)(h:rk.length≤n):Qc c (rk.drop n) n=(n,none):=by
 rw [ve h];rfl
def jei(K:HK)(q:Fr)(S:St)(G:HG)(k:Nat)(w:World)(e:Ending)(w':World):Prop:=
 e=.returned (.tuple #[])∧ ∃G',xZ K q (yn S k ((S.V k).go S.cont)) G' w'∧yQ K G w G' w'∧G'.PL=upd G.PL ((S.V k).go S.cont).wi (G.PL ((S.V k).go S.cont).wi++ [k])∧G'.ev=G.ev
theorem yq.piled {K:HK}{G:HG}{i g:Nat}{v':Value}{PL:Option Nat→List Nat}{N:Nat}(hi:i<K.c.op.length)(hv:v'.ownBlock=some g)(hf:(G.pv i).ownBlock=some g∨g=N): ∀b,yq K ⟨upd G.pv i v',G.nv,G.ev,PL,G.wn,G.wd,G.kn,G.kd⟩ b→yq K G b∨N≤b:=by
 intro b hm;rcases hm with h|h|h|h|h|h|⟨j,hj,h⟩|h|h;·exact .inl (.inl h)
 ·exact .inl (.inr (.inl h))
 ·exact .inl (.inr (.inr (.inl h)))
 ·exact .inl (.inr (.inr (.inr (.inl h))))
 ·exact .inl (.inr (.inr (.inr (.inr (.inl h)))))
 ·exact .inl (.inr (.inr (.inr (.inr (.inr (.inl h))))))
 ·have h':(upd G.pv i v' j).ownBlock=some b:=h;by_cases e:j=i
  ·subst e;rw [xT,hv]at h';injection h' with h';subst h';rcases hf with hf|hf;·exact .inl (.inr (.inr (.inr (.inr (.inr (.inr (.inl ⟨j,hi,hf⟩)))))))
   ·exact .inr (by omega)
  ·rw [xX _ _ _ _ e]at h';exact .inl (.inr (.inr (.inr (.inr (.inr (.inr (.inl ⟨j,hj,h'⟩)))))))
 ·exact .inl (.inr (.inr (.inr (.inr (.inr (.inr (.inr (.inl h))))))))
 ·exact .inl (.inr (.inr (.inr (.inr (.inr (.inr (.inr (.inr h))))))))
theorem yq.noned {K:HK}{G:HG}{g:Nat}{v':Value}{PL:Option Nat→List Nat}{N:Nat}(hv:v'.ownBlock=some g)(hf:G.nv.ownBlock=some g∨g=N): ∀b,yq K ⟨G.pv,v',G.ev,PL,G.wn,G.wd,G.kn,G.kd⟩ b→yq K G b∨N≤b:=by
 intro b hm;rcases hm with h|h|h|h|h|h|h|h|h;·exact .inl (.inl h)
 ·exact .inl (.inr (.inl h))
 ·exact .inl (.inr (.inr (.inl h)))
 ·exact .inl (.inr (.inr (.inr (.inl h))))
 ·exact .inl (.inr (.inr (.inr (.inr (.inl h)))))
 ·exact .inl (.inr (.inr (.inr (.inr (.inr (.inl h))))))
 ·exact .inl (.inr (.inr (.inr (.inr (.inr (.inr (.inl h)))))))
 ·have h':v'.ownBlock=some b:=h;rw [hv]at h';injection h' with h';subst h';rcases hf with hf|hf;·exact .inl (.inr (.inr (.inr (.inr (.inr (.inr (.inr (.inl hf))))))))
  ·exact .inr (by omega)
 ·exact .inl (.inr (.inr (.inr (.inr (.inr (.inr (.inr (.inr h))))))))
theorem xZ.wi {K:HK}{q:Fr}{S:St}{G:HG}{w:World}(h:xZ K q S G w){k:Nat}(hkn: ∀o,k∉G.PL o)(x:Option Nat):xZ K q (yn S k ⟨(S.V k).rk,(S.V k).nx,x,(S.V k).wt⟩) G w:=by
 have hj: ∀j,((yn S k ⟨(S.V k).rk,(S.V k).nx,x,(S.V k).wt⟩).V j).rk=(S.V j).rk∧((yn S k ⟨(S.V k).rk,(S.V k).nx,x,(S.V k).wt⟩).V j).nx=(S.V j).nx∧((yn S k ⟨(S.V k).rk,(S.V k).nx,x,(S.V k).wt⟩).V j).wt=(S.V j).wt∧(j≠k→((yn S k ⟨(S.V k).rk,(S.V k).nx,x,(S.V k).wt⟩).V j).wi=(S.V j).wi):=fun j=>by
  unfold yn upd;by_cases e:j=k;·subst e;simp
  ·simp [e]
 refine⟨h.bel,h.hall,h.withs,h.kepts,h.conts,h.moveds,h.cm,fun j hjm=>?_,h.pinj,h.ranks,fun j hjm=>?_,fun j hjm=>?_,fun j hjm=>?_,h.keps,h.quo,h.piles,h.nones,h.apart,h.apartN,fun o=>⟨(h.pls o).1,fun j hjo=>⟨((h.pls o).2 j hjo).1,?_⟩⟩,h.els,h.bases,h.contb,h.ebs⟩
 ·unfold Xa;rw [(hj j).1,(hj j).2.1];exact h.papers j hjm
 ·intro i hi;have hi':i<(S.V j).rk.length:=by rw [←(hj j).1];exact hi
  rw [h.rkc j hjm i hi'];simp [(hj j).1]
 ·rw [(hj j).1,(hj j).2.1];exact h.rkl j hjm
 ·rw [(hj j).2.2.1];exact h.wts j hjm
 ·rw [(hj j).2.2.2 (fun e=>hkn o (e▸hjo))];exact((h.pls o).2 j hjo).2
theorem xZ.plen {K:HK}{q:Fr}{S:St}{G:HG}{w:World}(h:xZ K q S G w)(o:Option Nat):(G.PL o).length≤K.m:=by
 have h2: ∀k∈G.PL o,k∈List.range K.m:=fun k hk=>jf.2 ((h.pls o).2 k hk).1;have:=qQ (h.pls o).1 h2
 rwa [kZ]at this
theorem jhh(K:HK)(q:Fr)(S:St)(G:HG)(w:World)(k:Nat)(hH:xZ K q S G w)(hK:Vw K)(hk:k<K.m)(hkn: ∀o,k∉G.PL o)(hr: ∀i∈(S.V k).rk,i<K.c.op.length):
 Calls prog 120 #[.pointer (some ⟨K.hb,0,none⟩),.pointer (some ⟨K.pb k,0,none⟩)] w (jei K q S G k w):=by
 obtain⟨i0,hi0,hz0,hz1,hz2⟩:=info_parts jgw;have I0:=jA hi0;have IZ0:=jA hz0;have IZ1:=jA hz1;have IZ2:=jA hz2;have HKn:=jA hkn;have HRk:=jA hr;have HH:=jA hH;obtain⟨rk,hrk⟩: ∃rk,rk=(S.V k).rk:=⟨_,rfl⟩;obtain⟨wt,hwt⟩: ∃wt,wt=(S.V k).wt:=⟨_,rfl⟩;obtain⟨wi,hwi⟩: ∃wi,wi=(S.V k).wi:=⟨_,rfl⟩;obtain⟨x0,hx0⟩: ∃x0,x0=(S.V k).nx:=⟨_,rfl⟩;have HV:=jA (show S.V k=⟨rk,x0,wi,wt⟩by rw [hrk,hwt,hwi,hx0]);obtain⟨r,hr2⟩: ∃r,r=Qc S.cont (rk.drop x0) x0:=⟨_,rfl⟩;have HR:=jA hr2;have HGO:=jA (show(S.V k).go S.cont=⟨rk,r.1,r.2,wt⟩by rw [HV.u,hr2];rfl);have hl12:rk.length≤12:=by rw [hrk];exact(hH.rkl k hk).2.1
 have hx0l:x0≤rk.length:=by rw [hrk,hx0];exact(hH.rkl k hk).2.2
 have hrn:rk.length≤K.rn k:=by rw [hrk];exact(hH.rkl k hk).1
 have hrg:K.rg k<w.heap.size:=lt_of_heap (hH.ranks k hk).1;rw [←hrk]at HRk;have hm4:=hK.m4;clear hi0 hz0 hz1 hz2 hH hkn hr hrk hwt hwi hx0 hr2 hK;go_enter Tryz.func120,Tryz.ntmps120;go_wp2_with fail;go_loopg [] (rk.length-x0) (fun N wr=> ∃nx:Nat,x0≤nx∧nx≤rk.length∧N=rk.length-nx∧Qc S.cont (rk.drop nx) nx=r∧xZ K q (yn S k ⟨rk,nx,wi,wt⟩) G wr∧yQ K G w G wr);case atStart=>exact⟨x0,jO _,hx0l,rfl,HR.u.symm,by rw [←HV.u,jcb];exact HH.u,yQ.refl _ _ _⟩
 case round=>
 obtain⟨nx,hx1,hx2,rfl,hsk,hA,hst⟩:=hrel;have HA:=jA hA;have ST:=jA hst;have SK:=jA hsk
 have PK:=jA (show wr.heap[K.pb k]?=some (.cells #[.slice (some ⟨K.rg k,0,none⟩) rk.length (K.rn k),G.wn k,G.wd k,.int .i64 (nx:Int)] 168 (0,0))by
  have:=hA.papers k hk;unfold Xa at this;rw [JG]at this;exact this)
 have hpl:K.pb k<wr.heap.size:=lt_of_heap PK.u;have d3: ∀x:xS wr.heap.size wr,x.w.cell? ⟨K.pb k,3,none⟩=some (.int .i64 (nx:Int)):=fun x=>jM _ _ 3 _ _ _ (xK x.2 hpl PK.u);have d0: ∀x:xS wr.heap.size wr,x.w.cell? ⟨K.pb k,0,none⟩=some (.slice (some ⟨K.rg k,0,none⟩) rk.length (K.rn k)):=fun x=>jM _ _ 0 _ _ _ (xK x.2 hpl PK.u);clear hA hst hsk;by_cases hlt:nx<rk.length;case neg=>
  have dk:decide ((nx:Int)<(rk.length:Int))=false:=jS (by omega);have dk2:decide (nx<rk.length)=false:=jS hlt;go_upto_region 0 with(fail);refine Seg.xL (fun w'=> ∃x:xS wr.heap.size wr,w'=x.w) [] [0,1,2,3,4,5,6,7,8] 9 (by kernel_rfl) (by kernel_rfl) (fun _ _ d _ _ h=>by cases d<;>exact h) (⟨⟨_,(jN _ _).drew⟩,rfl⟩) ?_;simp only [jK,Seg.opAt,Seg.xW];repeat (any_goals (first|go_big_quiet_step (fail)|quiet_step (fail)))
  refine jP ?_;have hnx:nx=rk.length:=by omega
  have HE:=jA (show r=(nx,none)from SK.u.symm.trans (jjw _ _ _ (by omega)));clear d3 d0;go_upto_region 5 with(fail);refine xP (fun w1=>Below wr.heap.size wr w1) (jN _ _).drew (fun w1 hw1=>?_);have B1:=jA hw1;have H1:=jA (HA.u.below hw1);obtain⟨on,cn,hnv,hnc,_⟩:=Xx H1.u.nones.own;have HNV:=jA hnv;have k10:w1.cell? ⟨K.hb,10,none⟩=some (.slice on (G.PL none).length cn):=by rw [←hnv];exact jM w1 K.hb 10 _ _ _ H1.u.hall
  have hll:=H1.u.plen none;have hb0:K.w0.heap.size≤w1.heap.size:=H1.u.bel.size;clear hw1 hnv hnc;go_wp2_with (first
   |(
    at_builtin;refine yS (good:=noLimb) _ rfl (.tmp 59) (.tmp 61) 113 rfl K.w0.heap.size 165 i0 (.pointer none) 1 8 underlying113 I0.u IZ0.u IZ1.u IZ2.u rfl (by decide) (fun u hu=>by simp [Value.cells]at hu;subst hu;rfl) (.slice on (G.PL none).length cn) (G.PL none).length (KC K (G.PL none)) rfl (HNV.u▸H1.u.nones.below ((jN _ _).alloc (jO _) _)) ⟨w1.heap.size,0,none⟩ 1 1 [.pointer (some ⟨K.pb k,0,none⟩)] rfl rfl (zG (xN rfl)) (fun u hu=>by rw [jo.1 hu];rfl) (fun u hu=>by rw [jo.1 hu];rfl) (fun _=>by decide) (by unfold maxLen;omega) (by omega) (by simp;omega) _ rfl ?_;intro g9 c9 w2 own hg hf hlt9;have HA2:=jA (H1.u.below ((jN w1.heap.size w1).alloc (jO _) (.cells #[.pointer (some ⟨K.pb k,0,none⟩)] 165)));have t1:=jA (show Trn 165 K.w0.heap.size G.nv.ownBlock _ w2 from⟨HNV.u▸hg,GRow.typed HA2.u.nones⟩);have h2:=t1.u.keep HA2.u.hall (by decide);have n10:w2.cell? ⟨K.hb,10,none⟩=some G.nv:=jM w2 K.hb 10 _ _ _ h2;have z10:w2.frozen? ⟨K.hb,10,none⟩=false:=jb w2 K.hb 10 _ _ h2))
  have HWn:=jA (show xZ K q (yn S k ⟨rk,nx,none,wt⟩) G _ by
   have:=HA2.u.wi HKn.u none;rw [JG,KV]at this;exact this)
  have hg':World.grownBy _ w2 G.nv.ownBlock:=HNV.u▸hg;have HN:=jA (HWn.u.noned hk HKn.u hg' own rfl (HNV.u▸hf) (by rw [JG]));have hH2:=HA2.u.hall
  go_end0
  unfold jei;rw [HGO.u,HE.u];refine⟨rfl,_,HN.u,(ST.u.below B1.u).trans ((zf ((jN _ _).alloc (jO _) _)).trans (Zs hg' (fun x hx=>.inr (.inr (.inr (.inr (.inr (.inr (.inr (.inl hx)))))))) (xh 10 _) (.inl rfl) (yq.noned rfl (HNV.u▸hf)))),rfl,rfl⟩
 have dk:decide ((nx:Int)<(rk.length:Int))=true:=jQ (by omega);have dk2:decide (nx<rk.length)=true:=jQ hlt;have dki:(nx:Int)<(rk.length:Int):=by omega
 obtain⟨i,hi⟩: ∃i,i=rk[nx]:=⟨_,rfl⟩;have hin:=HRk.u i (by rw [hi];exact jj hlt);have HS1:=jA (show S.cont i=true→r=(nx+1,some i)from fun h=>by rw [←SK.u,jcd _ _ _ hlt,←hi,jR h]);have HS0:=jA (show S.cont i=false→Qc S.cont (rk.drop (nx+1)) (nx+1)=r from fun h=>by rw [←SK.u,jcd _ _ _ hlt,←hi,h];rfl);have RG:=jA (HA.u.ranks k hk)
 have RC:=jA (show(K.rc k)[nx]?=some (.int .i64 (i:Int))by
  have h1:=HA.u.rkc k hk nx (by rw [JG];exact hlt);rw [h1,hi];simp [JG])
 clear hi SK;go_upto_region 0 with(fail);refine Seg.xL (fun w'=> ∃x:xS wr.heap.size wr,w'=x.w) [] [0,1,2,3,4,5,6,7,8] 9 (by kernel_rfl) (by kernel_rfl) (fun _ _ d _ _ h=>by cases d<;>exact h) (⟨⟨_,(jN _ _).drew⟩,rfl⟩) ?_;simp only [jK,Seg.opAt,Seg.xW];repeat (any_goals (first|go_big_quiet_step (fail)|quiet_step (fail)))
 refine jP ?_;go_upto_region 1 with(fail);refine xP (fun w1=>Below wr.heap.size wr w1) (jN _ _).drew (fun w1 hw1=>?_);have B1:=jA hw1;have H1:=jA (HA.u.below hw1);have ST1:=jA (ST.u.below hw1);have PK1:=jA (xK hw1 hpl PK.u);have RG1:=jA (xK hw1 (lt_of_heap RG.u.1) RG.u.1);clear hw1 d3 d0 HA ST PK hpl RG B1;have hpl:K.pb k<w1.heap.size:=lt_of_heap PK1.u;have hgl:K.rg k<w1.heap.size:=lt_of_heap RG1.u;have d3: ∀x:xS w1.heap.size w1,x.w.cell? ⟨K.pb k,3,none⟩=some (.int .i64 (nx:Int)):=fun x=>jM _ _ 3 _ _ _ (xK x.2 hpl PK1.u);have d0: ∀x:xS w1.heap.size w1,x.w.cell? ⟨K.pb k,0,none⟩=some (.slice (some ⟨K.rg k,0,none⟩) rk.length (K.rn k)):=fun x=>jM _ _ 0 _ _ _ (xK x.2 hpl PK1.u);have d1: ∀x:xS w1.heap.size w1,x.w.cell? ⟨K.rg k,nx,none⟩=some (.int .i64 (i:Int)):=fun x=>(jM _ _ nx _ _ _ (xK x.2 hgl RG1.u)).trans RC.u;have p1:w1.cell? ⟨K.rg k,nx,none⟩=some (.int .i64 (i:Int)):=(jM _ _ nx _ _ _ RG1.u).trans RC.u;refine Seg.xL (fun w'=> ∃x:xS w1.heap.size w1,w'=x.w) [] [0,1,2,3,4,5,6,7] 8 (by kernel_rfl) (by kernel_rfl) (fun _ _ d _ _ h=>by cases d<;>exact h) (⟨⟨_,(jN _ _).drew⟩,rfl⟩) ?_;simp only [jK,Seg.opAt,Seg.xW];repeat (any_goals (first|go_big_quiet_step (fail)|quiet_step (fail)))
 refine jP ?_;go_upto_region 2 with(fail);refine xP (fun w2=>Below w1.heap.size w1 w2) (jN _ _).drew (fun w2 hw2=>?_);have H2:=jA (H1.u.below hw2);have ST2:=jA (ST1.u.below hw2);have PK2:=jA (xK hw2 hpl PK1.u);clear hw2 d3 d0 d1 p1 H1 ST1 PK1 RG1 hpl hgl;have p3:w2.cell? ⟨K.pb k,3,none⟩=some (.int .i64 (nx:Int)):=jM _ _ 3 _ _ _ PK2.u;have z3:w2.frozen? ⟨K.pb k,3,none⟩=false:=jb w2 _ 3 _ _ PK2.u;go_upto_region 3 with(fail);have HP3:=jd w2 (K.pb k) 3 _ _ (.int .i64 ((nx:Int)+1)) PK2.u;have H3:xZ K q (yn S k ⟨rk,nx+1,wi,wt⟩) G (w2.setCell ⟨K.pb k,3,none⟩ (.int .i64 ((nx:Int)+1))):=by
  have h1:=H2.u.paper hk (nx+1) wt (G.wn k) (G.wd k) (xh 3 (.int .i64 ((nx:Int)+1))) (by rw [HP3,JG];rfl) (by rw [JG];exact hlt) (by have:=H2.u.wts k hk;rw [JG]at this;exact this);have e1:(⟨upd (yn S k ⟨rk,nx,wi,wt⟩).V k ⟨((yn S k ⟨rk,nx,wi,wt⟩).V k).rk,nx+1,((yn S k ⟨rk,nx,wi,wt⟩).V k).wi,wt⟩,S.cont,S.moved,S.kept,S.el⟩:St)=yn S k ⟨rk,nx+1,wi,wt⟩:=by
   rw [JG];exact KV S k ⟨rk,nx,wi,wt⟩ ⟨rk,nx+1,wi,wt⟩
  have e2:upd G.wn k (G.wn k)=G.wn:=jjq _ _;have e3:upd G.wd k (G.wd k)=G.wd:=jjq _ _;rw [e2,e3]at h1;exact e1▸h1
 refine xP (fun w3=>xZ K q (yn S k ⟨rk,nx+1,wi,wt⟩) G w3∧yQ K G w G w3) ⟨H3,ST2.u.trans (KY (q:=q) (S:=S) (xh 3 _) (.inr (.inr (.inr (.inr (.inr (.inl ⟨k,hk,rfl⟩)))))) (fun b h=>h))⟩ (fun w3 hw3=>?_);have H3':=jA hw3.1;have ST3:=jA hw3.2;have k12:w3.cell? ⟨K.hb,12,none⟩=some (.slice (some ⟨K.cb,0,none⟩) K.c.op.length K.c.op.length):=jM w3 K.hb 12 _ _ _ hw3.1.hall;have kc:w3.cell? ⟨K.cb,i,none⟩=some (.bool (S.cont i)):=Kj hw3.1.conts hin;have dii:(i:Int)<(K.c.op.length:Int):=by omega
 clear hw3 H3 HP3 p3 z3 H2 ST2 PK2 dk dk2;cases hci:S.cont i with
 |
  false=>
  rw [hci]at kc;have HN:=jA (HS0.u hci);clear hci HS1;go_wp2_with fail
  go_roundg (rk.length-(nx+1))
  case rel=>exact⟨nx+1,by omega,by omega,rfl,HN.u,H3'.u,ST3.u⟩
  case measure=>omega
 |
  true=>
  rw [hci]at kc;have HE:=jA (HS1.u hci);clear hci HS0;go_upto_region 4 with(fail);clear k12 kc;obtain⟨on,cn,hnv,hnc,_⟩:=Xx (H3'.u.piles i hin).own;have HNV:=jA hnv;obtain⟨M,hM⟩: ∃M,M=w3.heap.size:=⟨_,rfl⟩;obtain⟨b,hb⟩: ∃b,b=(G.pv i).ownBlock.getD M:=⟨_,rfl⟩;have hbH:K.hb<M:=by rw [hM];exact lt_of_heap H3'.u.hall
  have hbW:K.wb<M:=by rw [hM];exact lt_of_heap H3'.u.withs
  have hne:K.hb≠b∧K.wb≠b:=by
   cases ho:(G.pv i).ownBlock with
   |none=>rw [ho]at hb;simp at hb;omega
   |
    some g=>
    rw [ho]at hb;simp at hb;subst hb;obtain⟨_,cs,f,h1,_⟩:=GRow.typed (H3'.u.piles i hin) b ho;exact⟨yy H3'.u.hall h1 (by decide),yy H3'.u.withs h1 (by decide)⟩
  have d9: ∀x:GrT b M w3,x.w.cell? ⟨K.hb,9,none⟩=some (.slice (some ⟨K.wb,0,none⟩) K.c.op.length K.c.op.length):=fun x=>Kz x hbH hne.1 (jM w3 K.hb 9 _ _ _ H3'.u.hall);have di: ∀x:GrT b M w3,x.w.cell? ⟨K.wb,i,none⟩=some (.slice on (G.PL (some i)).length cn):=fun x=>Kz x hbW hne.2 (by rw [←hnv];exact YO H3'.u.withs hin);have HM:=jA hM;have HBB:=jA hb;have hll:=H3'.u.plen (some i);have hb0:K.w0.heap.size≤M:=by rw [hM];exact H3'.u.bel.size
  clear hnv hnc hM hb;refine Seg.xL (fun w'=> ∃x:GrT b M w3,w'=x.w) [([0,1,2,3,4,5,6,7,8,9,10,11,12],13),([],14)] [] 15 (by kernel_rfl) (by kernel_rfl) (fun _ _ d _ _ h=>by cases d<;>exact h) (YG HM.u (xR (xp.refl _ w3).drew)) ?_;simp only [jK,Seg.opAt,Seg.xW];repeat (any_goals (first|go_big_quiet_step (fail)|quiet_step (fail)))
  refine jP ?_;intro Kc hK;simp only [Region.wanted,jY];go_wp2_with fail;have hbA:Below w3.heap.size w3 (w3.alloc (.cells #[.pointer (some ⟨K.pb k,0,none⟩)] 165)).drew:=((jN _ _).alloc (jO _) _).drew;have hnw: ∀j u,([.pointer (some ⟨K.pb k,0,none⟩)]:List Value)[j]?=some u→(w3.alloc (.cells #[.pointer (some ⟨K.pb k,0,none⟩)] 165)).drew.cell? ((⟨w3.heap.size,0,none⟩:Addr).add j)=some u:=zG (xN rfl);refine hK _ _ (YG HM.u (zg hbA)) ?_;clear hK Kc;have HA4:=jA (H3'.u.below hbA);have ST4:=jA (ST3.u.below hbA);have HG4:=jA (show w3.grownBy (w3.alloc (.cells #[.pointer (some ⟨K.pb k,0,none⟩)] 165)).drew (some b)from zg hbA);have hs4:M≤(w3.alloc (.cells #[.pointer (some ⟨K.pb k,0,none⟩)] 165)).drew.heap.size:=by rw [HM.u];exact hbA.size
  generalize (w3.alloc (.cells #[.pointer (some ⟨K.pb k,0,none⟩)] 165)).drew=w4 at*;clear hbA;repeat (any_goals (first|go_big_quiet_step (fail)|quiet_step (fail)))
  refine jP ?_;intro Kc hK;simp only [Region.wanted,jY];refine Xw (good:=noLimb) _ (.tmp 50) (.tmp 52) 113 rfl K.w0.heap.size 165 i0 (.pointer none) 1 8 underlying113 I0.u IZ0.u IZ1.u IZ2.u rfl (by decide) (fun u hu=>by simp [Value.cells]at hu;subst hu;rfl) (.slice on (G.PL (some i)).length cn) (G.PL (some i)).length (KC K (G.PL (some i))) rfl (HNV.u▸HA4.u.piles i hin) ⟨w3.heap.size,0,none⟩ 1 1 [.pointer (some ⟨K.pb k,0,none⟩)] rfl rfl hnw (fun u hu=>by rw [jo.1 hu];rfl) (fun u hu=>by rw [jo.1 hu];rfl) (fun _=>by decide) (by unfold maxLen;omega) (by omega) (by omega) _ rfl (fun g9 c9 w5 own hg hf hlt9=>?_);have hg':w4.grownBy w5 (G.pv i).ownBlock:=HNV.u▸hg;have hgb:w3.grownBy w5 (some b):=by
   refine⟨hg'.os.trans HG4.u.os,hg'.tape.trans HG4.u.tape,hg'.output.trans HG4.u.output,jU HG4.u.size hg'.size,fun j hj hne2=>(hg'.block j (jV hj HG4.u.size) (fun e=>hne2 ?_)).trans (HG4.u.block j hj hne2)⟩;rw [HBB.u,←e];rfl
  refine hK _ _ (YG HM.u hgb) ?_;clear hK Kc;have t1:=jA (show Trn 165 K.w0.heap.size (G.pv i).ownBlock w4 w5 from⟨hg',GRow.typed (HA4.u.piles i hin)⟩);have h9:=t1.u.keep HA4.u.withs (by decide);have nwi:w5.cell? ⟨K.wb,i,none⟩=some (G.pv i):=YO h9 hin;have zwi:w5.frozen? ⟨K.wb,i,none⟩=false:=jb w5 K.wb i _ _ h9;repeat (any_goals (first|go_big_quiet_step (fail)|quiet_step (fail)))
  refine jP ?_;go_wp2_with fail
  have HWn:=jA (show xZ K q (yn S k ⟨rk,nx+1,some i,wt⟩) G w4 by
   have:=HA4.u.wi HKn.u (some i);rw [JG,KV]at this;exact this)
  have HN:=jA (HWn.u.piled hin hk HKn.u hg' own rfl (HNV.u▸hf) (by rw [JG]))
  go_end0
  unfold jei;rw [HGO.u,HE.u];exact⟨rfl,_,HN.u,ST4.u.trans (Zs hg' (fun x hx=>.inr (.inr (.inr (.inr (.inr (.inr (.inl ⟨i,hin,hx⟩))))))) (xh i _) (.inr (.inl rfl)) (yq.piled hin rfl (HNV.u▸hf))),rfl,rfl⟩
def xq(l:List Nat):List Int:=l.map fun i:Nat=>(i:Int)
theorem yh(l:List Nat):(xq l).length=l.length:=by simp [xq]
theorem jgJ(S:St)(l:List Nat)(j:Nat)(h:j<l.length):(⟨S.V,upd (S.elect (l.take j)).cont l[j] false,S.moved,S.kept,(S.elect (l.take j)).el++ [l[j]]⟩:St)=S.elect (l.take (j+1)):=by
 have e1:=jk h;unfold St.elect;congr 1
 ·funext x;simp only [e1,jh,jo];unfold upd;by_cases e:x=l[j];·simp [e]
  ·simp [e]
 ·rw [e1,kS]
theorem yq.eld {K:HK}{G:HG}{g:Nat}{v':Value}{N:Nat}(hv:v'.ownBlock=some g)(hf:G.ev.ownBlock=some g∨g=N): ∀b,yq K ⟨G.pv,G.nv,v',G.PL,G.wn,G.wd,G.kn,G.kd⟩ b→yq K G b∨N≤b:=by
 intro b hm;rcases hm with h|h|h|h|h|h|h|h|h;·exact .inl (.inl h)
 ·exact .inl (.inr (.inl h))
 ·exact .inl (.inr (.inr (.inl h)))
 ·exact .inl (.inr (.inr (.inr (.inl h))))
 ·exact .inl (.inr (.inr (.inr (.inr (.inl h)))))
 ·exact .inl (.inr (.inr (.inr (.inr (.inr (.inl h))))))
 ·exact .inl (.inr (.inr (.inr (.inr (.inr (.inr (.inl h)))))))
 ·exact .inl (.inr (.inr (.inr (.inr (.inr (.inr (.inr (.inl h))))))))
 ·have h':v'.ownBlock=some b:=h;rw [hv]at h';injection h' with h';subst h';rcases hf with hf|hf;·exact .inl (.inr (.inr (.inr (.inr (.inr (.inr (.inr (.inr hf))))))))
  ·exact .inr (by omega)
theorem jbe {w:World}{base:Nat}{e:TypeId}{n:Nat}{o:Option Addr}{cap:Nat}{l:List Nat}(h:w.ownsRow base e 1 (.slice o n cap) n (xU (xq l))){j:Nat}(hj:j<l.length): ∃g,o=some ⟨g,0,none⟩∧w.cell? ⟨g,j,none⟩=some (.int .i64 ((l[j]:Nat):Int)):=by
 rcases h.2 with⟨hv,h0⟩|⟨g,c,cur,hv,_⟩;·have:=h.1;simp [xU,xq]at this;omega
 ·injection hv with h1;refine⟨g,h1,?_⟩;have h2:=h.cells (g:=g) (by rw [h1];rfl) j (.int .i64 ((l[j]:Nat):Int)) (by simp [xU,xq,hj])
  rwa [Kl]at h2
theorem jcT(K:HK)(q:Fr)(S:St)(G:HG)(w:World)(l:List Nat)(base:Nat)(o:Option Addr)(cap:Nat)(hH:xZ K q S G w)(hn:K.c.op.length≤12)(hl: ∀i∈l,i<K.c.op.length)(hll:S.el.length+l.length≤1000)
 (hr:w.ownsRow base 3 1 (.slice o l.length cap) l.length (xU (xq l))) (hX: ∀x,(Value.slice o l.length cap).ownBlock=some x→ ¬yq K G x):
 Calls prog 129 #[.pointer (some ⟨K.hb,0,none⟩),.slice o l.length cap] w fun e w'=>e=.returned (.tuple #[])∧ ∃G',xZ K q (S.elect l) G' w'∧yQ K G w G' w'∧G'.PL=G.PL:=by
 obtain⟨i0,hi0,hz0,hz1,hz2⟩:=info_parts KL;have I0:=jA hi0;have IZ0:=jA hz0;have IZ1:=jA hz1;have IZ2:=jA hz2;have HH:=jA hH;have HL:=jA hl;have HR:=jA hr;have HX:=jA hX;clear hi0 hz0 hz1 hz2 hH hl hr hX;go_enter Tryz.func129,Tryz.ntmps129;go_wp2_with fail;go_loopw [8] (fun v wr=> ∃(j:Nat) (G1:HG),v=.int .i64 j∧j≤l.length∧xZ K q (S.elect (l.take j)) G1 wr∧yQ K G w G1 wr∧G1.PL=G.PL) (fun v _=>l.length-(intOf v).toNat);case atStart=>
  refine⟨0,G,rfl,ji _,?_,yQ.refl _ _ _,rfl⟩;have:S.elect (l.take 0)=S:=by simp [St.elect]
  rw [this];exact HH.u
 case round=>
 obtain⟨j,G1,rfl,hj,hA,hs,hpl⟩:=hrel;have HA:=jA hA;have ST:=jA hs;have PLE:=jA hpl;clear hA hs hpl;by_cases hlt:j<l.length;case neg=>
  have dk:decide ((j:Int)<(l.length:Int))=false:=jS (by omega);have dk2:decide (j<l.length)=false:=jS hlt;obtain rfl:j=l.length:=by omega
  rw [kG]at HA;go_wp2_with fail
  go_end0
  exact⟨rfl,G1,HA.u,ST.u,PLE.u⟩
 have dk:decide ((j:Int)<(l.length:Int))=true:=jQ (by omega);have dk2:decide (j<l.length)=true:=jQ hlt;have dkj:(j:Int)<(l.length:Int):=by omega
 have hR:=ST.u.own HR.u HX.u;obtain⟨gl,ho,hcl⟩:=jbe hR hlt;have hin:=HL.u _ (jj hlt);have HTK:=jA (jgJ S l j hlt);have hel:(S.elect (l.take j)).el.length=S.el.length+j:=by simp [St.elect];omega
 have HEL:=jA hel;subst ho;generalize l[j]=i at*;have k12:wr.cell? ⟨K.hb,12,none⟩=some (.slice (some ⟨K.cb,0,none⟩) K.c.op.length K.c.op.length):=jM wr K.hb 12 _ _ _ HA.u.hall;have kc:=Kj HA.u.conts hin;have zc:wr.frozen? ⟨K.cb,i,none⟩=false:=jb wr _ i _ _ HA.u.conts;have dii:(i:Int)<(K.c.op.length:Int):=by omega
 go_upto_region 4 with(fail);have HO:=HA.u.outed hin;refine xP (fun w2=>xZ K q ⟨S.V,upd (S.elect (l.take j)).cont i false,S.moved,S.kept,(S.elect (l.take j)).el⟩ G1 w2∧yQ K G w G1 w2) ⟨HO,ST.u.trans (KY (q:=q) (S:=S) (xh i _) (.inr (.inr (.inr (.inl rfl)))) (fun b h=>h))⟩ (fun w2 hw2=>?_);have H2:=jA hw2.1;have ST2:=jA hw2.2;obtain⟨oe,ce,hev,hec,_⟩:=zz hw2.1.els.own;rw [jz]at hev;have HEV:=jA hev;have k14:w2.cell? ⟨K.hb,14,none⟩=some (.slice oe (S.elect (l.take j)).el.length ce):=by rw [←hev];exact jM w2 K.hb 14 _ _ _ hw2.1.hall
 clear hw2 HO k12 kc zc hcl hR hev hec HA ST hel;go_wp2_with (first
  |(
   at_builtin;refine yS (good:=noLimb) _ rfl (.tmp 22) (.tmp 24) 29 rfl K.eb 3 i0 (.int .i64 0) 1 8 underlying29 I0.u IZ0.u IZ1.u IZ2.u rfl (by decide) (fun u hu=>by simp [Value.cells]at hu;subst hu;rfl) (.slice oe (S.elect (l.take j)).el.length ce) (S.elect (l.take j)).el.length (xU (xq (S.elect (l.take j)).el)) rfl (HEV.u▸H2.u.els.below ((jN _ _).alloc (jO _) _)) ⟨w2.heap.size,0,none⟩ 1 1 [.int .i64 (i:Int)] rfl rfl (zG (xN rfl)) (fun u hu=>by rw [jo.1 hu];rfl) (fun u hu=>by rw [jo.1 hu];rfl) (fun _=>by decide) (by rw [HEL.u];unfold maxLen;omega) (by rw [HEL.u];omega) (by have:=H2.u.ebs;simp;omega) _ rfl ?_;intro g9 c9 w3 own hg hf hlt9;have HA2:=jA (H2.u.below ((jN w2.heap.size w2).alloc (jO _) (.cells #[.int .i64 (i:Int)] 3)));have t1:=jA (show Trn 3 K.w0.heap.size G1.ev.ownBlock _ w3 from⟨HEV.u▸hg,GRow.typed (GRow.lift HA2.u.els HA2.u.bases.2.2.2.2.2.1)⟩);have h2:=t1.u.keep HA2.u.hall (by decide);have n14:w3.cell? ⟨K.hb,14,none⟩=some G1.ev:=jM w3 K.hb 14 _ _ _ h2;have z14:w3.frozen? ⟨K.hb,14,none⟩=false:=jb w3 K.hb 14 _ _ h2))
 have hg':World.grownBy _ w3 G1.ev.ownBlock:=HEV.u▸hg;have HN:=jA (HA2.u.eld hg' own);have HS:=jA (ST2.u.trans ((zf ((jN w2.heap.size w2).alloc (jO _) (.cells #[.int .i64 (i:Int)] 3))).trans (Zs hg' (fun x hx=>.inr (.inr (.inr (.inr (.inr (.inr (.inr (.inr hx)))))))) (xh 14 (.slice (some ⟨g9,0,none⟩) ((S.elect (l.take j)).el.length+1) c9)) (.inl rfl) (yq.eld (G:=G1) (g:=g9) (v':=.slice (some ⟨g9,0,none⟩) ((S.elect (l.take j)).el.length+1) c9) rfl (HEV.u▸hf)))));go_roundw;case rel=>exact⟨j+1,_,by go_num,by omega,HTK.u▸HN.u,HS.u,PLE.u⟩
 case measure=>simp [intOf];omega
theorem Qn {K:HK}{q:Fr}{S:St}{G:HG}{w:World}(h:xZ K q S G w){b:Nat}(hm:yq K G b):b<w.heap.size:=by
 obtain⟨cs,T,f,h1,_⟩:=h.mineT hm;exact lt_of_heap h1
theorem jhC {K:HK}{q:Fr}{S:St}{G:HG}{w:World}(h:xZ K q S G w){i:Nat}(hi:i<K.c.op.length){PL:Option Nat→List Nat}{x:Nat}(hx:(G.pv i).ownBlock=some x): ¬yq K ⟨upd G.pv i (.slice none 0 0),G.nv,G.ev,PL,G.wn,G.wd,G.kn,G.kd⟩ x:=by
 obtain⟨_,cs,f,h1,_⟩:=GRow.typed (h.piles i hi) x hx;intro hm;rcases hm with rfl|rfl|rfl|rfl|rfl|⟨k,hk,rfl⟩|⟨j,hj,hv⟩|hv|hv;·exact yy h.hall h1 (by decide) rfl
 ·exact yy h.withs h1 (by decide) rfl
 ·exact yy h.kepts h1 (by decide) rfl
 ·exact yy h.conts h1 (by decide) rfl
 ·exact yy h.moveds h1 (by decide) rfl
 ·exact yy (h.papers k hk) h1 (by decide) rfl
 ·have hv':(upd G.pv i (.slice none 0 0) j).ownBlock=some x:=hv;by_cases e:j=i;·subst e;rw [xT]at hv';cases hv'
  ·rw [xX _ _ _ _ e]at hv';rcases h.apart j i hj hi e with h2|h2;·rw [hv']at h2;cases h2
   ·rw [hv',hx]at h2;exact h2 rfl
 ·have hv':G.nv.ownBlock=some x:=hv;rcases h.apartN i hi with h2|h2;·rw [hx]at h2;cases h2
  ·rw [hv',hx]at h2;exact h2 rfl
 ·have hv':G.ev.ownBlock=some x:=hv;obtain⟨_,cs',f',h2,_⟩:=GRow.typed h.els x hv';exact yy h2 h1 (by decide) rfl
theorem yq.taken {K:HK}{G:HG}{i:Nat}{PL:Option Nat→List Nat}: ∀b,yq K ⟨upd G.pv i (.slice none 0 0),G.nv,G.ev,PL,G.wn,G.wd,G.kn,G.kd⟩ b→yq K G b:=by
 intro b hm;rcases hm with h|h|h|h|h|h|⟨j,hj,hv⟩|h|h;·exact .inl h
 ·exact .inr (.inl h)
 ·exact .inr (.inr (.inl h))
 ·exact .inr (.inr (.inr (.inl h)))
 ·exact .inr (.inr (.inr (.inr (.inl h))))
 ·exact .inr (.inr (.inr (.inr (.inr (.inl h)))))
 ·have hv':(upd G.pv i (.slice none 0 0) j).ownBlock=some b:=hv;by_cases e:j=i;·subst e;rw [xT]at hv';cases hv'
  ·rw [xX _ _ _ _ e]at hv';exact .inr (.inr (.inr (.inr (.inr (.inr (.inl ⟨j,hj,hv'⟩))))))
 ·exact .inr (.inr (.inr (.inr (.inr (.inr (.inr (.inl h)))))))
 ·exact .inr (.inr (.inr (.inr (.inr (.inr (.inr (.inr h)))))))
def goV(S:St)(f:Fr)(L:List Nat):St:=⟨fun k=>if k∈L then((S.V k).by f).go S.cont else S.V k,S.cont,S.moved,S.kept,S.el⟩
theorem jhn(S:St)(f:Fr):goV S f []=S:=by simp [goV]
theorem jkl(S:St)(f:Fr)(L:List Nat)(t:Nat)(h:t<L.length)(hnd:L.Nodup):yn (yn (goV S f (L.take t)) L[t] ((S.V L[t]).by f)) L[t] (((S.V L[t]).by f).go S.cont)=goV S f (L.take (t+1))∧(goV S f (L.take t)).V L[t]=S.V L[t]:=by
 have e1:=jk h;have hn:L[t]∉L.take t:=by
  intro hm;have h2:(L.take (t+1)).Nodup:=hnd.sublist (List.take_sublist _ _);rw [e1]at h2;exact(vB.1 h2).2.2 L[t] hm L[t] (by simp) rfl
 constructor
 ·rw [KV];unfold yn goV;congr 1;funext k;simp only [e1,jh,jo];unfold upd;by_cases e:k=L[t];·simp [e]
  ·simp [e]
 ·unfold goV;simp [hn]
structure jkO(K:HK)(S:St)(G:HG)(R:List Nat):Prop where
 all: ∀k,k<K.m→k∉R→k∈G.PL (S.V k).wi
 not: ∀k∈R,∀o,k∉G.PL o
def Yz(K:HK)(S:St)(G:HG):Prop:= ∀k,k<K.m→k∈G.PL (S.V k).wi
theorem jfc(K:HK)(q:Fr)(S:St)(G:HG)(w:World)(i:Nat)(f:Fr)(fa fb:Value)(hH:xZ K q S G w)(hK:Vw K)(hi:i<K.c.op.length)(hF:Yz K S G)(hf:FrV w f fa fb)(sf:Sml f)
 (hw: ∀k∈G.PL (some i),Sml (S.V k).wt∧Sml ((S.V k).wt.mul f)) (hrk: ∀k,k<K.m→ ∀j∈(S.V k).rk,j<K.c.op.length):
 Calls prog 131 #[.pointer (some ⟨K.hb,0,none⟩),.int .i64 (i:Int),.agg #[fa,fb]] w fun e w'=>e=.returned (.tuple #[])∧ ∃G',xZ K q (goV S f (G.PL (some i))) G' w'∧yQ K G w G' w'∧Yz K (goV S f (G.PL (some i))) G':=by
 have HS:=jA zn;have HH:=jA hH;have HK:=jA hK;have HF:=jA hF;have HFf:=jA hf;have HSF:=jA sf;have HW:=jA hw;have HRK:=jA hrk;have hm4:=hK.m4;have hLm:=hH.plen (some i);obtain⟨L,hL⟩: ∃L,L=G.PL (some i):=⟨_,rfl⟩;have HL:=jA hL;rw [←hL]at HW hLm ⊢;have HLk:=jA (show ∀k∈L,k<K.m∧(S.V k).wi=some i by rw [hL];exact(hH.pls _).2);have HND:=jA (show L.Nodup by rw [hL];exact(hH.pls _).1);clear hH hK hF hf sf hw hrk hL;go_enter Tryz.func131,Tryz.ntmps131;go_upto_region 1 with(fail);have hbA:Below w.heap.size w (w.alloc (.cells #[fa,fb] 90)):=(jN _ _).alloc (jO _) _;have hcA:(w.alloc (.cells #[fa,fb] 90)).heap[w.heap.size]?=some (.cells #[fa,fb] 90 (0,0)):=xN rfl;generalize hC:w.heap.size=C at*;refine xP (fun w1=>Below C w w1∧w1.heap[C]?=some (.cells #[fa,fb] 90 (0,0))) ⟨hbA,hcA⟩ (fun w1 hw1=>?_);have hbw:Below w.heap.size w w1:=by rw [hC];exact hw1.1
 have H1:=jA (HH.u.below hbw);have ST1:=jA (zf (K:=K) (G:=G) hbw);have BX1:=jA hw1.2;have F1:=jA (HFf.u.below hbw);have HCM:=jA (show ¬yq K G C from fun hm=>by have:=Qn HH.u hm;omega);obtain⟨ol,cl,hpv,_,hva⟩:=Xx (H1.u.piles i hi).own;have HPV:=jA hpv;have k9:w1.cell? ⟨K.hb,9,none⟩=some (.slice (some ⟨K.wb,0,none⟩) K.c.op.length K.c.op.length):=jM w1 K.hb 9 _ _ _ H1.u.hall;have ki:w1.cell? ⟨K.wb,i,none⟩=some (.slice ol L.length cl):=by rw [HL.u,←hpv];exact YO H1.u.withs hi
 have zi:w1.frozen? ⟨K.wb,i,none⟩=false:=jb w1 _ i _ _ H1.u.withs;have dii:(i:Int)<(K.c.op.length:Int):=by omega
 clear hbA hcA hC hw1 hbw hva hpv HFf;go_upto_region 3 with(fail);have HT:=H1.u.taken hi;obtain⟨G1,hG1⟩: ∃G1:HG,G1=⟨upd G.pv i (.slice none 0 0),G.nv,G.ev,upd G.PL (some i) [],G.wn,G.wd,G.kn,G.kd⟩:=⟨_,rfl⟩;rw [←hG1]at HT;have hMT: ∀b,yq K G1 b→yq K G b:=fun b h=>by rw [hG1]at h;exact yq.taken b h
 have HPL1:=jA (show G1.PL=upd G.PL (some i) []by rw [hG1]);have HNM:=jA (show ∀x,(Value.slice ol L.length cl).ownBlock=some x→ ¬yq K G1 x from fun x hx=>by rw [hG1];exact jhC H1.u hi (by rw [HPV.u,←HL.u];exact hx));have HC1:=jA (show ¬yq K G1 C from fun hm=>HCM.u (hMT C hm));have tR:Trn 113 K.w0.heap.size (some K.wb) w1 (w1.setCell ⟨K.wb,i,none⟩ (.slice none 0 0)):=Trn.of_only (xh i _) H1.u.withs H1.u.bases.2.1 (Va H1.u);have hRow:=tR.rowT (H1.u.piles i hi) (by decide);rw [HPV.u,←HL.u]at hRow;have hSt:yQ K G w1 G1 (w1.setCell ⟨K.wb,i,none⟩ (.slice none 0 0)):=KY (q:=q) (S:=S) (xh i _) (.inr (.inl rfl)) hMT;refine xP (fun w2=>xZ K q S G1 w2∧yQ K G w1 G1 w2∧GRow noLimb w2 K.w0.heap.size 165 1 (.slice ol L.length cl) L.length (KC K L)) ⟨HT,hSt,hRow⟩ (fun w2 hw2=>?_);have H2:=jA hw2.1;have ST2:=jA (ST1.u.trans hw2.2.1);have RW2:=jA hw2.2.2;have BX2:=jA (hw2.2.1.keep BX1.u HCM.u);have F2:=jA (hw2.2.1.fr H1.u F1.u)
 have FU2:=jA (show jkO K S G1 L from⟨fun k hk hn=>by
  rw [HPL1.u];have h1:=HF.u k hk;rw [xX _ _ _ _ (fun e=>hn (by rw [HL.u,←e];exact h1))];exact h1,
  fun k hk o ho=>by
   rw [HPL1.u]at ho;by_cases e:o=some i;·subst e;rw [xT]at ho;cases ho
   ·rw [xX _ _ _ _ e]at ho;have h1:=((HH.u.pls o).2 k ho).2;exact e (h1.symm.trans (HLk.u k hk).2)⟩)
 clear hw2 HT hMT hRow hSt tR k9 ki zi H1 BX1 F1 HCM hG1 ST1 HPL1;go_wp2_with fail;go_loopw [24] (fun v wr=> ∃(t:Nat) (Gt:HG),v=.int .i64 t∧t≤L.length∧xZ K q (goV S f (L.take t)) Gt wr∧yQ K G1 w2 Gt wr∧jkO K (goV S f (L.take t)) Gt (L.drop t)) (fun v _=>L.length-(intOf v).toNat);case atStart=>
  refine⟨0,G1,rfl,ji _,?_,yQ.refl _ _ _,?_⟩;·rw [qe,jhn];exact H2.u
  ·rw [qe,jhn];exact FU2.u
 case round=>
 obtain⟨t,Gt,rfl,ht,hA,hs,hfu⟩:=hrel;have HA:=jA hA;have ST:=jA hs;have FU:=jA hfu;clear hA hs hfu;by_cases hlt:t<L.length;case neg=>
  have dk:decide ((t:Int)<(L.length:Int))=false:=jS (by omega);have dk2:decide (t<L.length)=false:=jS hlt;obtain rfl:t=L.length:=by omega
  rw [kG]at HA FU;rw [List.drop_length]at FU;go_wp2_with fail
  go_end0
  exact⟨rfl,Gt,HA.u,ST2.u.trans ST.u,fun k hk=>FU.u.all k hk (by simp)⟩
 have dk:decide ((t:Int)<(L.length:Int))=true:=jQ (by omega);have dk2:decide (t<L.length)=true:=jQ hlt;have dkt:(t:Int)<(L.length:Int):=by omega
 have RWr:=jA (ST.u.row RW2.u HNM.u);have BXr:=jA (ST.u.keep BX2.u HC1.u);have Ff:=jA (ST.u.fr H2.u F2.u);obtain⟨k,hk⟩: ∃k,k=L[t]:=⟨_,rfl⟩;have hkL:k∈L:=by rw [hk];exact jj hlt
 have hkm:=(HLk.u k hkL).1;obtain⟨gl,ho,hcl⟩: ∃g,ol=some ⟨g,0,none⟩∧wr.cell? ⟨g,t,none⟩=some (.pointer (some ⟨K.pb k,0,none⟩)):=by
  rcases RWr.u.own.2 with⟨hv,h0⟩|⟨g,c,cur,hv,_⟩;·omega
  ·injection hv with h1;refine⟨g,h1,?_⟩;have h2:=RWr.u.own.cells (g:=g) (by rw [h1];rfl) t (.pointer (some ⟨K.pb k,0,none⟩)) (by simp [KC,hk,hlt])
   rwa [Kl]at h2
 have HSt:=jA (jkl S f L t hlt HND.u);rw [←hk]at HSt;have PK:=jA (HA.u.papers k hkm);unfold Xa at PK;rw [HSt.u.2]at PK;have FW:=jA (HA.u.wts k hkm);rw [HSt.u.2]at FW;have HDR:=jA (show L.drop t=k::L.drop (t+1)by rw [hk,kh hlt])
 have HND2:=jA (show k∉L.drop (t+1)by
  have h2:(L.drop t).Nodup:=HND.u.sublist (List.drop_sublist _ _);rw [HDR.u]at h2;exact(vM.1 h2).1)
 have SW:=jA (HW.u k hkL);have HKt:=jA hk;have hpl:K.pb k<wr.heap.size:=lt_of_heap PK.u;have hCl:C<wr.heap.size:=lt_of_heap BXr.u;have QT:=jA (jkR wr.drew (Trn.fr (Trn.of_below (jN _ _).drew 0 0) FW.u) (Trn.fr (Trn.of_below (jN _ _).drew 0 0) Ff.u) SW.u.1.ok HSF.u.ok SW.u.1.lens HSF.u.lens);clear hk;subst ho;go_upto_region 6 with(fail);clear hcl;generalize hwn:Gt.wn k=xn at*;generalize hwd:Gt.wd k=xd at*;have HWN:=jA hwn;have HWD:=jA hwd;clear hwn hwd;refine Seg.xL (fun w'=> ∃x:xS wr.heap.size wr,w'=x.w) [([0,1,2,3,4,5],6)] [] 7 (by kernel_rfl) (by kernel_rfl) (fun _ _ d _ _ h=>by cases d<;>exact h) (⟨⟨_,(jN _ _).drew⟩,rfl⟩) ?_;simp only [jK,Seg.opAt,Seg.xW];first|go_big_quiet_step (fail)|quiet_step (fail)
 first|go_big_quiet_step (fail)|quiet_step (fail)
 first|go_big_quiet_step (fail)|quiet_step (fail)
 first|go_big_quiet_step (fail)|quiet_step (fail)
 refine xV rfl 90 _ rfl ⟨K.pb k,1,none⟩ [xn,xd] _ rfl (fun w' hw'=>by obtain⟨x,rfl⟩:=hw';exact jcw (xK x.2 hpl PK.u)) underlying90 rfl HS.u ?_;refine xV rfl 90 _ rfl ⟨C,0,none⟩ [fa,fb] _ rfl (fun w' hw'=>by obtain⟨x,rfl⟩:=hw';exact jfg (xK x.2 hCl BXr.u)) underlying90 rfl HS.u ?_;refine jP ?_;intro Kc hK;simp only [Region.wanted,jY];go_wp2_with (go_at_call 170;refine QT.u.mono ?_;rintro e w3 ⟨a',b',rfl,f3,bel3⟩);have F3:=jA f3;have B3:=jA (yV bel3);refine hK _ _ ⟨⟨w3,B3.u⟩,rfl⟩ ?_;clear hK Kc f3 bel3 QT;have HA3:=jA (HA.u.below B3.u);have ST3:=jA (ST.u.below B3.u);have PK3:=jA (xK B3.u hpl PK.u);have TH:w3.there (K.pb k) 1 2:=fun j hj=>by
  refine⟨?_,jb w3 _ _ _ _ PK3.u⟩;rw [jM w3 (K.pb k) (1+j) _ _ _ PK3.u];rcases(show j=0∨j=1 by omega)with rfl|rfl<;>rfl
 repeat (any_goals (first|go_big_quiet_step (fail)|quiet_step (fail)))
 refine jP ?_;go_upto_region 7 with(refine qR rfl 90 _ _ rfl (K.pb k) 1 #[a',b'] rfl rfl TH HS.u (zF _ _ F3.u.noLimb.2.2.1 F3.u.noLimb.2.2.2) ?_);have hp1:=jd w3 (K.pb k) 1 _ _ a' PK3.u;have hp2:=jd (w3.setCell ⟨K.pb k,1,none⟩ a') (K.pb k) 2 _ _ b' hp1;have hOnly:xp (K.pb k) w3 (w3.setCells (K.pb k) 1 [a',b']):=zI (K.pb k) [a',b'] 1 w3;have hHA:=HA3.u.paper hkm (S.V k).nx ((S.V k).wt.mul f) a' b' hOnly (by rw [HSt.u.2];exact hp2) (by have:=(HA3.u.rkl k hkm).2.2;rw [HSt.u.2]at this ⊢;exact this) F3.u;rw [HSt.u.2]at hHA;obtain⟨G4,hG4⟩: ∃G4:HG,G4=⟨Gt.pv,Gt.nv,Gt.ev,Gt.PL,upd Gt.wn k a',upd Gt.wd k b',Gt.kn,Gt.kd⟩:=⟨_,rfl⟩;have HP4:=jA (show G4.PL=Gt.PL by rw [hG4]);have hM4: ∀b,yq K G4 b→yq K Gt b:=fun b h=>by rw [hG4]at h;exact h
 rw [←hG4]at hHA;have hHA':xZ K q (yn (goV S f (L.take t)) k ((S.V k).by f)) G4 (w3.setCells (K.pb k) 1 [a',b']):=hHA;have hSt4:yQ K Gt w3 G4 (w3.setCells (K.pb k) 1 [a',b']):=KY (q:=q) (S:=S) hOnly (.inr (.inr (.inr (.inr (.inr (.inl ⟨k,hkm,rfl⟩)))))) hM4;show Code.wp _ _ _ _ (w3.setCells (K.pb k) 1 [a',b']);refine xP (fun w4=>xZ K q (yn (goV S f (L.take t)) k ((S.V k).by f)) G4 w4∧yQ K G1 w2 G4 w4) ⟨hHA',ST3.u.trans hSt4⟩ (fun w4 hw4=>?_);have H4:=jA hw4.1;have ST4:=jA hw4.2;have QL:=jA (jhh K q (yn (goV S f (L.take t)) k ((S.V k).by f)) G4 w4 k H4.u HK.u hkm (fun o ho=>FU.u.not k (by rw [HDR.u];simp) o (HP4.u▸ho)) (by rw [JG];exact HRK.u k hkm));clear hw4 hHA hHA' hSt4 hM4 hG4 hp1 hp2 hOnly TH PK PK3 HA HA3 ST3 BXr Ff FW F3 B3 RWr hpl hCl HWN HWD;go_wp2_with (go_at_call 120;refine QL.u.mono ?_;rintro e w5 ⟨rfl,G5,h5,s5,p5, -⟩);rw [JG]at h5 p5;have h5':xZ K q (goV S f (L.take (t+1))) G5 w5:=by
  rw [←HSt.u.1];exact h5
 rw [HP4.u]at p5;have p5':G5.PL=upd Gt.PL (((S.V k).by f).go S.cont).wi (Gt.PL (((S.V k).by f).go S.cont).wi++ [k]):=p5;have hfu:jkO K (goV S f (L.take (t+1))) G5 (L.drop (t+1)):=by
  rw [←HSt.u.1,KV];refine⟨fun j hj hn=>?_,fun j hj o ho=>?_⟩
  ·rw [p5'];by_cases e:j=k;·subst e;rw [JG,xT];simp
   ·have h1:(yn (goV S f (L.take t)) k (((S.V k).by f).go S.cont)).V j=(goV S f (L.take t)).V j:=xX _ _ _ _ e;rw [h1];have h2:=FU.u.all j hj (by rw [HDR.u];simp [e,hn]);by_cases e2:((goV S f (L.take t)).V j).wi=(((S.V k).by f).go S.cont).wi;·rw [e2,xT];rw [e2]at h2;simp [h2]
    ·rw [xX _ _ _ _ e2];exact h2
  ·rw [p5']at ho;have e:j≠k:=fun e=>HND2.u (e▸hj);have h2:=FU.u.not j (by rw [HDR.u];simp [hj]);by_cases e2:o=(((S.V k).by f).go S.cont).wi
   ·rw [e2,xT]at ho;rcases jh.1 ho with h3|h3;·exact h2 _ h3
    ·exact e (jo.1 h3)
   ·rw [xX _ _ _ _ e2]at ho;exact h2 o ho
 go_roundw;case rel=>exact⟨t+1,G5,by go_num,by omega,h5',ST4.u.trans s5,hfu⟩
 case measure=>simp [intOf];omega
end Go.Proofs.YtnohcdpnnhmpfaaGreatDoor.TR
