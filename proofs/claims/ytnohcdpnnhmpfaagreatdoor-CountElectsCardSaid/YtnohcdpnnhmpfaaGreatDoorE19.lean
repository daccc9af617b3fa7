/- Chapter 13, Transfer: (*hall).which and the function values of (*hall).round. -/
import Derived.Test.YtnohcdpnnhmpfaaGreatDoorE16
import Derived.Test.YtnohcdpnnhmpfaaGreatDoorE18
import Derived.Deep.LoopGhost
set_option linter.all false
set_option maxRecDepth 100000
set_option maxHeartbeats 8000000
namespace Go.Proofs.YtnohcdpnnhmpfaaGreatDoor.TR
open Go.RowKit Tryz ML FRP AU CT FM
variable{base i n:Nat}{w:m0}{xa xb:Nat→n0}
structure Xo(K:HK):Prop where
 ord:yW K.w0 K.oO K.O
 plc:yW K.w0 K.oP K.P
 len:K.O.length=K.c.op.length
 plen:K.P.length=K.c.op.length
 mem: ∀x,x∈K.O↔0≤x∧x<(K.c.op.length:Int)
 place: ∀k (hk:k<K.O.length),K.P[K.O[k].toNat]?=some (k:Int)
 nd:K.O.Nodup
 n1:1≤K.c.op.length
 n12:K.c.op.length≤12
 m4:K.m≤4096
theorem Qd{B:Nat}{f:Nat→Bool}{T:o0}(h:w.heap[B]?=some (.cells (XZ n f) T (0,0)))(hi:i<n):w.cell? ⟨B,i,none⟩=some (.bool (f i)):=by
 rw [jM w B i _ _ _ h];unfold XZ;simp [hi]
theorem jhO(K:HK)(q:Fr)(S:St)(G:HG)(w:m0)(hH:yB K q S G w)(hx:Nat)(hX:w.cell? ⟨hx,0,none⟩=some (.pointer (some ⟨K.hb,0,none⟩)))(i:Nat)(hi:i<K.c.op.length):
 Calls prog 124 #[.int .i64 (i:Int),.pointer (some ⟨hx,0,none⟩)] w fun e w'=>e=.returned (.bool (S.cont i))∧O0 w.heap.size w w':=by
 have IN:w.cell? ⟨K.hb,12,none⟩=some (.slice (some ⟨K.cb,0,none⟩) K.c.op.length K.c.op.length):=jM w K.hb 12 _ _ _ hH.hall;have kc:=Qd hH.conts hi;have e1:(i:Int)<(K.c.op.length:Int):=by omega
 generalize S.cont i=b at*;generalize K.c.op.length=n at*;clear hH;go_enter Tryz.func124,Tryz.ntmps124;go_wp2_with fail;go_ret;exact⟨rfl,jN _ _⟩
theorem jhA(M:FuncId)(qN:zh M)(c1:n0)(p:Int→Bool)(x:Int)(bx:Nat)(w:m0)(hX:w.cell? ⟨bx,0,none⟩=some (.func (.func M) #[] #[c1]))
 (hf:Calls prog M #[.int .i64 x,c1] w fun e w2=>e=.returned (.bool (p x))∧O0 w.heap.size w w2):
 Calls prog 172 #[.int .i64 x,.pointer (some ⟨bx,0,none⟩)] w fun e w'=>e=.returned (.bool (!p x))∧O0 w.heap.size w w':=by
 unfold zh at qN;have QF:=jA hf;clear hf;generalize p x=b at*;go_enter Tryz.func172,Tryz.ntmps172;go_wp2_with (with_reducible refine(QF.u).mono ?_;rintro e w1 ⟨rfl,b1⟩);go_ret;exact⟨rfl,b1⟩
theorem jdo(K:HK)(q:Fr)(S:St)(G:HG)(w:m0)(hH:yB K q S G w)(hK:Xo K)(M:FuncId)(qM:zh M)(c1:n0)(p:Int→Bool)
 (hf: ∀w1,O0 w.heap.size w w1→ ∀x∈K.O,Calls prog M #[.int .i64 x,c1] w1 fun e w2=>e=.returned (.bool (p x))∧O0 w1.heap.size w1 w2):
 Calls prog 123 #[.pointer (some ⟨K.hb,0,none⟩),.func (.func M) #[] #[c1]] w fun e w'=> ∃ob cb,e=.returned (.slice ob (K.O.filter p).length cb)∧w'.ownsRow w.heap.size 3 1 (.slice ob (K.O.filter p).length cb) (K.O.filter p).length (xq (K.O.filter p))∧O0 w.heap.size w w':=by
 have qW:zh 172:=KJ Tryz.func172 rfl rfl;have QW:=jA (fun bx w1 h1 x h2=>jhA M qM c1 p x bx w1 h1 h2);have QF:=jA hf;have k5:w.cell? ⟨K.hb,5,none⟩=some (.slice K.oO K.O.length K.cO):=jM w K.hb 5 _ _ _ hH.hall;have Oz:=jA (hK.ord.below hH.bel);have Ds:K.O.length≤12:=by rw [hK.len];exact hK.n12
 have Ox:=xZ hH.hall;have HQ:=jA qW;have hff:(K.O.filter fun x=> !!p x)=K.O.filter p:=by congr 1;funext x;simp
 have HFF:=jA hff;clear hf hff qW;generalize K.O=L at*;generalize K.oO=oO at*;generalize K.cO=cO at*;clear hK hH;go_enter Tryz.func123,Tryz.ntmps123;go_upto_region 1 with(fail);generalize hB:w.heap.size=B at*;have Bv:O0 w.heap.size w (w.alloc (.cells #[.func (.func M) #[] #[c1]] 79)):=(jN _ _).alloc (jO _) _;have ey:(w.alloc (.cells #[.func (.func M) #[] #[c1]] 79)).cell? ⟨w.heap.size,0,none⟩=some (.func (.func M) #[] #[c1]):=jM _ _ 0 _ _ _ (xh rfl);rw [hB]at Bv ey;refine xr (fun w1=>O0 B w w1∧w1.cell? ⟨B,0,none⟩=some (.func (.func M) #[] #[c1])∧B<w1.heap.size) ⟨Bv,ey,by simp [hB]⟩ (fun w1 ts=>?_);have B1:=jA ts.1;have C1:=jA ts.2.1;have mt:=ts.2.2;have HB:=jA hB;have k5':w1.cell? ⟨K.hb,5,none⟩=some (.slice oO L.length cO):=by rw [ts.1.cell Ox];exact k5
 have I1:=jA (Oz.u.below (HB.u.symm▸B1.u));clear ts Bv ey hB k5 Oz;go_wp2_with (first
  |(go_at_call 126;refine(Qo oO L cO w1 I1.u (by omega)).mono ?_;rintro e w2 ⟨ob,cb,rfl,own2,us⟩;have O2:=jA (JM own2 (jX mt));have B2:=jA us;have hX2: ∀x,Value.ownBlock (.slice ob L.length cb)=some x→w1.heap.size≤x:=fun x hx=>(own2.lt x hx).1;have eN:=jA hX2;clear hX2 own2 us)
  |(go_at_call 125;refine(jhf 172 HQ.u (.pointer (some ⟨B,0,none⟩)) (fun x=> !p x) ob L cb B w2 O2.u Ds (fun w3 hg x hx=>?_)).mono ?_))
 ·have Uw:O0 w1.heap.size w2 w3:=(jN _ w2).grown hg B2.u.size eN.u;have Dx:O0 B w w3:=B1.u.trans ((B2.u.trans Uw).mono (jX mt));have Ey:w3.cell? ⟨B,0,none⟩=some (.func (.func M) #[] #[c1]):=by rw [(B2.u.trans Uw).cell mt];exact C1.u
  exact QW.u B w3 Ey x (QF.u w3 Dx x hx)
 ·rintro e w3 ⟨oc,cc,rfl,Tu,hg3⟩;have O3:=jA Tu;have Uw:=jA ((jN _ w2).grown hg3 B2.u.size eN.u);clear Tu hg3;rw [HFF.u]at O3;go_wp2_with fail;go_ret;exact⟨oc,cc,rfl,by rw [HB.u];exact O3.u,by rw [HB.u];exact B1.u.trans ((B2.u.trans Uw.u).mono (jX mt))⟩
theorem KG.mid{g cap:Nat}{T:Nat→Fr}(h:KG w base n T (.slice (some ⟨g,0,none⟩) n cap) xa xb)(hi:i<n): ∀j u,([xa i,xb i]:A0)[j]?=some u→w.cell? ((⟨g,i*2,none⟩:Addr).add j)=some u:=fun j u hj=>by
 obtain⟨h1,h2⟩:=QU n xa xb i hi;have h3:=fun o v (hv:(yy n xa xb)[o]?=some v)=>h.row.own.cells (g:=g) rfl o v hv;rw [qD]
 match j with
 |0=>have:=h3 (i*2) u (h1.trans hj);rw [Qf]at this;exact this
 |1=>have:=h3 (i*2+1) u (h2.trans hj);rw [Qf]at this;exact this
 |_+2=>cases hj
theorem KG.form{T:Nat→Fr}{v:n0}(h:KG w base n T v xa xb)(hn:1≤n): ∃g cap,v=.slice (some ⟨g,0,none⟩) n cap∧base≤g∧g<w.heap.size∧n≤cap:=by
 rcases h.row.own.2 with⟨_,h0⟩|⟨g,cap,Es,hv,hb,hg,hc,_⟩;·omega
 ·exact⟨g,cap,hv,hb,xZ hg,hc⟩
theorem jfk {K:HK}{q:Fr}{S:St}{G:HG}(h:yB K q S G w): ∀j u,([K.qn,K.qd]:A0)[j]?=some u→w.cell? ((⟨K.hb,7,none⟩:Addr).add j)=some u:=
 jbU h.hall _ (fun j u hj=>by match j with|0=>exact hj|1=>exact hj|_+2=>cases hj)
theorem jhN(K:HK)(q:Fr)(S:St)(G:HG)(w:m0)(hH:yB K q S G w)(tx hx:Nat)(T:Nat→Fr)(base:Nat)(g cap:Nat)(xa xb:Nat→n0)(hT:KG w base K.c.op.length T (.slice (some ⟨g,0,none⟩) K.c.op.length cap) xa xb)
 (hX:w.cell? ⟨hx,0,none⟩=some (.pointer (some ⟨K.hb,0,none⟩))) (hX2:w.cell? ⟨tx,0,none⟩=some (.slice (some ⟨g,0,none⟩) K.c.op.length cap)) (lQ:hx<w.heap.size) (txl:tx<w.heap.size) (i:Nat) (hi:i<K.c.op.length) (sT:Sml (T i)) (sQ:Sml q):
 Calls prog 127 #[.int .i64 (i:Int),.pointer (some ⟨tx,0,none⟩),.pointer (some ⟨hx,0,none⟩)] w fun e w'=>e=.returned (.bool (decide (VM (T i) q≤0)))∧O0 w.heap.size w w':=by
 have HS:=jA JJ;have TM:=jA (hT.mid hi);have QM:=jA (jfk hH);have QC:=jA (jow w.drew (Trn.fr (Trn.of_below (jN _ _).drew 0 0) (hT.frs i hi)) (Trn.fr (Trn.of_below (jN _ _).drew 0 0) hH.quo) sT.lens sQ.lens);have ay:g<w.heap.size:=by
  rcases hT.row.own.2 with⟨hv,_⟩|⟨g2,_,_,hv,_,Hu,_⟩;·cases hv
  ·injection hv with h1;injection h1 with h1;injection h1 with h1;subst h1;exact xZ Hu
 have Ox:=xZ hH.hall;have e1:(i:Int)<(K.c.op.length:Int):=by omega
 have d1: ∀x:xj w.heap.size w,x.w.cell? ⟨tx,0,none⟩=some (.slice (some ⟨g,0,none⟩) K.c.op.length cap):=fun x=>(x.2.cell (p:=⟨tx,0,none⟩) txl).trans hX2;have d2: ∀x:xj w.heap.size w,x.w.cell? ⟨hx,0,none⟩=some (.pointer (some ⟨K.hb,0,none⟩)):=fun x=>(x.2.cell (p:=⟨hx,0,none⟩) lQ).trans hX;have hc:(x:xj w.heap.size w)→ ∀{b o:Nat} {l:A0},b<w.heap.size→(∀j u,l[j]?=some u→w.cell? ((⟨b,o,none⟩:Addr).add j)=some u)→ ∀j u,l[j]?=some u→x.w.cell? ((⟨b,o,none⟩:Addr).add j)=some u:=fun x {b o l} hb h j u hj=>(x.2.cell (by rw [yI];exact hb)).trans (h j u hj);have HC:=jA hc;clear hT hH hX hX2 hc;generalize VM (T i) q=c at*;generalize K.c.op.length=n at*;go_enter Tryz.func127,Tryz.ntmps127;go_upto_region 1 with(fail);refine Seg.xf (fun w'=> ∃x:xj w.heap.size w,w'=x.w) [] [0,1,2,3,4,5,6,7] 8 (by kernel_rfl) (by kernel_rfl) (fun _ _ d _ _ h=>by cases d<;>exact h) (⟨⟨_,(jN _ _).drew⟩,rfl⟩) ?_;simp only [jK,Seg.opAt,Seg.xu];iterate 3 first|go_big_quiet_step (fail)|quiet_step (fail)
 refine xx rfl 90 _ rfl ⟨g,i*2,none⟩ [xa i,xb i] _ rfl (fun w' Tt=>by obtain⟨x,rfl⟩:=Tt;exact HC.u x ay TM.u) underlying90 rfl HS.u ?_;iterate 3 first|go_big_quiet_step (fail)|quiet_step (fail)
 refine xx rfl 90 _ rfl ⟨K.hb,7,none⟩ [K.qn,K.qd] _ rfl (fun w' Tt=>by obtain⟨x,rfl⟩:=Tt;exact HC.u x Ox QM.u) underlying90 rfl HS.u ?_;refine jR ?_;go_wp2_with (go_at_call 51;refine QC.u.mono ?_;rintro e w2 ⟨rfl,us⟩);go_ret;exact⟨rfl,yq us⟩
theorem jms(l:E0)(i:Nat):jig (l.map fun i:Nat=>(i:Int)) (i:Int)=decide (i∈l):=by
 rw [Bool.eq_iff_iff];simp [jig];refine⟨?_,fun h=>⟨i,h,rfl⟩⟩;rintro⟨a,h1,h2⟩;obtain rfl:a=i:=by omega
 exact h1
theorem jhM(K:HK)(q:Fr)(S:St)(G:HG)(w:m0)(hH:yB K q S G w)(hx:Nat)(hX:w.cell? ⟨hx,0,none⟩=some (.pointer (some ⟨K.hb,0,none⟩)))(i:Nat)(hi:i<K.c.op.length)(AA:S.el.length≤12):
 Calls prog 130 #[.int .i64 (i:Int),.pointer (some ⟨hx,0,none⟩)] w fun e w'=>e=.returned (.bool (decide (i∈S.el)&& !S.moved i))∧O0 w.heap.size w w':=by
 obtain⟨oe,ce,Nx,_,he⟩:=zT hH.els.own;rw [kS]at Nx;have QC:=jA (jfJ oe (S.el.map fun i:Nat=>(i:Int)) ce (i:Int) w he (by rw [kS];omega));rw [jms,kS]at QC;have k14:w.cell? ⟨K.hb,14,none⟩=some (.slice oe S.el.length ce):=by rw [←Nx];exact jM w K.hb 14 _ _ _ hH.hall
 have k13:w.cell? ⟨K.hb,13,none⟩=some (.slice (some ⟨K.mb,0,none⟩) K.c.op.length K.c.op.length):=jM w K.hb 13 _ _ _ hH.hall;have km:=Qd hH.moveds hi;have e1:(i:Int)<(K.c.op.length:Int):=by omega
 clear Nx he hH;generalize S.moved i=b at*;generalize K.c.op.length=n at*;generalize S.el.length=m at*;cases bt:decide (i∈S.el)with
 |
  true=>
  rw [bt]at QC;clear bt;go_enter Tryz.func130,Tryz.ntmps130;go_wp2_with (go_at_call 63;refine QC.u.mono ?_;rintro e w2 ⟨rfl,rfl⟩);go_ret;exact⟨rfl,jN _ _⟩
 |
  false=>
  rw [bt]at QC;clear bt;go_enter Tryz.func130,Tryz.ntmps130;go_wp2_with (go_at_call 63;refine QC.u.mono ?_;rintro e w2 ⟨rfl,rfl⟩);go_ret;exact⟨rfl,jN _ _⟩
end Go.Proofs.YtnohcdpnnhmpfaaGreatDoor.TR
namespace Go.Proofs.YtnohcdpnnhmpfaaGreatDoor.TR
open Go.RowKit Tryz ML FRP AU CT
def zI(K:HK)(G:HG)(b:Nat):Prop:=b=K.hb∨b=K.wb∨b=K.kb∨b=K.cb∨b=K.mb∨(∃k,k<K.m∧b=K.pb k)∨(∃i,i<K.c.op.length∧(G.pv i).ownBlock=some b)∨G.nv.ownBlock=some b∨G.ev.ownBlock=some b
structure yj(K:HK)(G:HG)(w:m0)(G':HG)(w':m0):Prop where
 os:w'.os=w.os
 tape:w'.tape=w.tape
 output:w'.output=w.output
 size:w.heap.size≤w'.heap.size
 frame: ∀b,b<w.heap.size→ ¬zI K G b→w'.heap[b]?=w.heap[b]?
 mine: ∀b,zI K G' b→zI K G b∨w.heap.size≤b
section
variable {K:HK} {G G' G'':HG} {w w' Fu:m0}
theorem yj.refl(K:HK)(G:HG)(w:m0):yj K G w G w:=⟨rfl,rfl,rfl,jO _,fun _ _ _=>rfl,fun _ h=>.inl h⟩
theorem yj.trans(h:yj K G w G' w')(k:yj K G' w' G'' Fu):yj K G w G'' Fu:=⟨k.os.trans h.os,k.tape.trans h.tape,k.output.trans h.output,jU h.size k.size,
 fun b hb hn=>(k.frame b (jW hb h.size) (fun hm=>(h.mine b hm).elim hn (fun h1=>by omega))).trans (h.frame b hb hn),
 fun b hm=>(k.mine b hm).elim (fun h1=>h.mine b h1) (fun h1=>.inr (jU h.size h1))⟩
theorem yj.below(h:yj K G w G' w')(hb:O0 w'.heap.size w' Fu):yj K G w G' Fu:=h.trans ⟨hb.os,hb.tape,hb.output,hb.size,fun b h1 _=>hb.block b h1,fun b h1=>.inl h1⟩
theorem JD(hb:O0 w.heap.size w w'):yj K G w G w':=(yj.refl K G w).below hb
theorem jgM {X:L0}(hg:w.grownBy w' X)(hX: ∀x,X=some x→zI K G x)(hm: ∀b,zI K G' b→zI K G b∨w.heap.size≤b):yj K G w G' w':=⟨hg.os,hg.tape,hg.output,hg.size,fun b hb hn=>hg.block b hb (fun e=>hn (hX b e.symm)),hm⟩
theorem jaW {X:L0}{B:Nat}{w1:m0}(hg:w.grownBy w1 X)(hX: ∀x,X=some x→zI K G x)(ho:yG B w1 w')(hB:zI K G B)(hm: ∀b,zI K G' b→zI K G b∨w.heap.size≤b):yj K G w G' w':=⟨ho.os.trans hg.os,ho.tape.trans hg.tape,ho.output.trans hg.output,by rw [ho.size];exact hg.size,
 fun b hb hn=>(ho.block b (fun e=>hn (e▸hB))).trans (hg.block b hb (fun e=>hn (hX b e.symm))),hm⟩
theorem yj.keep(h:yj K G w G' w'){b:Nat}{o:Obj}(hb:w.heap[b]?=some o)(hn: ¬zI K G b):w'.heap[b]?=some o:=(h.frame b (xZ hb) hn).trans hb
theorem yB.mineT {q:Fr}{S:St}(h:yB K q S G w){b:Nat}(hm:zI K G b): ∃cs T f,w.heap[b]?=some (.cells cs T f)∧(∀u∈cs.toList,noLimb u=true)∧(T=116∨T=113∨T=90∨T=4∨T=168∨T=165∨T=3):=by
 rcases hm with rfl|rfl|rfl|rfl|rfl|⟨k,hk,rfl⟩|⟨i,hi,hv⟩|hv|hv;·exact⟨_,_,_,h.hall,Yu h,by simp⟩
 ·exact⟨_,_,_,h.withs,XO h,by simp⟩
 ·exact⟨_,_,_,h.kepts,jbs h,by simp⟩
 ·exact⟨_,_,_,h.conts,Ka _ _,by simp⟩
 ·exact⟨_,_,_,h.moveds,Ka _ _,by simp⟩
 ·exact⟨_,_,_,h.papers k hk,jau h hk,by simp⟩
 ·obtain⟨_,cs,f,h1,h2⟩:=GRow.typed (h.piles i hi) b hv;exact⟨cs,_,f,h1,h2,by simp⟩
 ·obtain⟨_,cs,f,h1,h2⟩:=GRow.typed h.nones b hv;exact⟨cs,_,f,h1,h2,by simp⟩
 ·obtain⟨_,cs,f,h1,h2⟩:=GRow.typed h.els b hv;exact⟨cs,_,f,h1,h2,by simp⟩
theorem yj.limbs {q:Fr}{S:St}(t:yj K G w G' w')(hH:yB K q S G w){oc:s0}{L:E0}(h:LimbsAt w oc L):LimbsAt w' oc L:=⟨fun i hi=>by
 obtain⟨a,h1,h2,h3⟩:=h.cells i hi;refine⟨a,h1,jW h2 t.size,?_⟩;have hb:(a.add i).block=a.block:=yo a i
 rw [vA (w:=w) (by
  rw [hb];refine t.frame _ h2 (fun hm=>?_);obtain⟨cs,T,f,g1,g2,_⟩:=hH.mineT hm;unfold World.cell? at h3;rw [hb,g1]at h3;simp only at h3;split at h3;·cases h3
  ·have Mu:=xL h3;have:=g2 _ (by simpa using Mu);cases this)]
 exact h3⟩
theorem yj.fr {q:Fr}{S:St}(t:yj K G w G' w')(hH:yB K q S G w){x:Fr}{a b:n0}(h:FrV w x a b):FrV w' x a b:=by
 obtain⟨oa,ca,ob,cb,h1,h2,h3⟩:=h;exact⟨oa,ca,ob,cb,h1,h2,⟨t.limbs hH h3.num,t.limbs hH h3.den⟩⟩
theorem yj.row(t:yj K G w G' w'){good:n0→Bool}{base:Nat}{e:o0}{size n:Nat}{v:n0}{xs:A0}(h:GRow good w base e size v n xs)(hn: ∀x,v.ownBlock=some x→ ¬zI K G x):GRow good w' base e size v n xs:=⟨by
 obtain⟨h1,h2⟩:=h.own;refine⟨h1,?_⟩;rcases h2 with h2|⟨g,cap,Es,hv,hb,hg,rest⟩;·exact .inl h2
 ·exact .inr ⟨g,cap,Es,hv,hb,t.keep hg (hn g (by rw [hv];rfl)),rest⟩,fun g Es t' fr hv hc=>by
 have hn':=hn g hv;obtain⟨_,cs,f,h1,h2⟩:=GRow.typed h g hv;rw [t.keep h1 hn']at hc;injection hc with hc;injection hc with hc;subst hc;exact h2⟩
theorem yj.own(t:yj K G w G' w'){base:Nat}{e:o0}{size n:Nat}{v:n0}{xs:A0}(h:w.ownsRow base e size v n xs)(hn: ∀x,v.ownBlock=some x→ ¬zI K G x):w'.ownsRow base e size v n xs:=by
 obtain⟨h1,h2⟩:=h;refine⟨h1,?_⟩;rcases h2 with h2|⟨g,cap,Es,hv,hb,hg,rest⟩;·exact .inl h2
 ·exact .inr ⟨g,cap,Es,hv,hb,t.keep hg (hn g (by rw [hv];rfl)),rest⟩
theorem not_mine {q:Fr}{S:St}(hH:yB K q S G w){b:Nat}{cs:t0}{T:o0}{f:Nat×Nat}(hb:w.heap[b]?=some (.cells cs T f))(hT:T≠116∧T≠113∧T≠90∧T≠4∧T≠168∧T≠165∧T≠3): ¬zI K G b:=fun hm=>by
 obtain⟨gv,T',f',h1,_,h2⟩:=hH.mineT hm;rw [hb]at h1;injection h1 with h1;injection h1 with _ h1;subst h1;simp_all
theorem Ky {q:Fr}{S:St}{b:Nat}(ho:yG b w w')(hm:zI K G b)(hG: ∀b,zI K G' b→zI K G b):yj K G w G' w':=jgM (xk ho) (fun x hx=>by injection hx with hx;subst hx;exact hm) (fun b h=>.inl (hG b h))
end
end Go.Proofs.YtnohcdpnnhmpfaaGreatDoor.TR
namespace Go.Proofs.YtnohcdpnnhmpfaaGreatDoor.TR
open Go.RowKit Tryz ML FRP AU CT FM
variable{N b g i:Nat}{v':n0}{w:m0}
theorem jio:(prog.info? 165).map (fun i=>(i.zero,i.size,i.bytes))=some (some (.pointer none),1,8):=by kernel_rfl
theorem Qx {M:Nat}{w0:m0}(x:GrT b M w0){p:Addr}{v:n0}(hb:p.block<M)(Cs:p.block≠b)(hc:w0.cell? p=some v):x.w.cell? p=some v:=by
 exact(vA (w:=w0) (x.2 p.block hb Cs)).trans hc
theorem jly {α β:Type} [DecidableEq α](f:α→β)(i:α):upd f i (f i)=f:=by
 funext j;unfold upd;by_cases h:j=i<;>simp [h]
def zF(S:St)(k:Nat)(x:Vo):St:=⟨upd S.V k x,S.cont,S.moved,S.kept,S.el⟩
theorem Kv(S:St)(k:Nat)(x y:Vo):zF (zF S k x) k y=zF S k y:=by
 unfold zF;congr 1;funext j;unfold upd;by_cases h:j=k<;>simp [h]
theorem jdz(S:St)(k:Nat):zF S k (S.V k)=S:=by
 unfold zF;have:upd S.V k (S.V k)=S.V:=by
  funext j;unfold upd;split;·rename_i e;rw [e]
  ·rfl
 rw [this]
theorem Jc(S:St)(k:Nat)(x:Vo):(zF S k x).V k=x:=xp _ _ _
theorem jdB(c:Nat→Bool)(rk:E0)(n:Nat)(h:n<rk.length):VH c (rk.drop n) n=if c rk[n]=true then(n+1,some rk[n])else VH c (rk.drop (n+1)) (n+1):=by
 rw [qA h];rfl
theorem jlH(c:Nat→Bool)(rk:E0)(n:Nat)(h:rk.length≤n):VH c (rk.drop n) n=(n,none):=by
 rw [xP h];rfl
def jfQ(K:HK)(q:Fr)(S:St)(G:HG)(k:Nat)(w:m0)(e:Ending)(w':m0):Prop:=
 e=.returned (.tuple #[])∧ ∃G',yB K q (zF S k ((S.V k).go S.cont)) G' w'∧yj K G w G' w'∧G'.PL=upd G.PL ((S.V k).go S.cont).wi (G.PL ((S.V k).go S.cont).wi++ [k])∧G'.ev=G.ev
theorem zI.piled {K:HK}{G:HG}{PL:L0→E0}(hi:i<K.c.op.length)(hv:v'.ownBlock=some g)(hf:(G.pv i).ownBlock=some g∨g=N): ∀b,zI K ⟨upd G.pv i v',G.nv,G.ev,PL,G.wn,G.wd,G.kn,G.kd⟩ b→zI K G b∨N≤b:=by
 intro b hm;rcases hm with h|h|h|h|h|h|⟨j,hj,h⟩|h|h;·exact .inl (.inl h)
 ·exact .inl (.inr (.inl h))
 ·exact .inl (.inr (.inr (.inl h)))
 ·exact .inl (.inr (.inr (.inr (.inl h))))
 ·exact .inl (.inr (.inr (.inr (.inr (.inl h)))))
 ·exact .inl (.inr (.inr (.inr (.inr (.inr (.inl h))))))
 ·have h':(upd G.pv i v' j).ownBlock=some b:=h;by_cases e:j=i
  ·subst e;rw [xp,hv]at h';injection h' with h';subst h';rcases hf with hf|hf;·exact .inl (.inr (.inr (.inr (.inr (.inr (.inr (.inl ⟨j,hi,hf⟩)))))))
   ·exact .inr (by omega)
  ·rw [xw _ _ _ _ e]at h';exact .inl (.inr (.inr (.inr (.inr (.inr (.inr (.inl ⟨j,hj,h'⟩)))))))
 ·exact .inl (.inr (.inr (.inr (.inr (.inr (.inr (.inr (.inl h))))))))
 ·exact .inl (.inr (.inr (.inr (.inr (.inr (.inr (.inr (.inr h))))))))
theorem zI.noned {K:HK}{G:HG}{PL:L0→E0}(hv:v'.ownBlock=some g)(hf:G.nv.ownBlock=some g∨g=N): ∀b,zI K ⟨G.pv,v',G.ev,PL,G.wn,G.wd,G.kn,G.kd⟩ b→zI K G b∨N≤b:=by
 intro b hm;rcases hm with h|h|h|h|h|h|h|h|h;·exact .inl (.inl h)
 ·exact .inl (.inr (.inl h))
 ·exact .inl (.inr (.inr (.inl h)))
 ·exact .inl (.inr (.inr (.inr (.inl h))))
 ·exact .inl (.inr (.inr (.inr (.inr (.inl h)))))
 ·exact .inl (.inr (.inr (.inr (.inr (.inr (.inl h))))))
 ·exact .inl (.inr (.inr (.inr (.inr (.inr (.inr (.inl h)))))))
 ·have h':v'.ownBlock=some b:=h;rw [hv]at h';injection h' with h';subst h';rcases hf with hf|hf;·exact .inl (.inr (.inr (.inr (.inr (.inr (.inr (.inr (.inl hf))))))))
  ·exact .inr (by omega)
 ·exact .inl (.inr (.inr (.inr (.inr (.inr (.inr (.inr (.inr h))))))))
theorem yB.wi {K:HK}{q:Fr}{S:St}{G:HG}(h:yB K q S G w){k:Nat}(Bx: ∀o,k∉G.PL o)(x:L0):yB K q (zF S k ⟨(S.V k).rk,(S.V k).nx,x,(S.V k).wt⟩) G w:=by
 have hj: ∀j,((zF S k ⟨(S.V k).rk,(S.V k).nx,x,(S.V k).wt⟩).V j).rk=(S.V j).rk∧((zF S k ⟨(S.V k).rk,(S.V k).nx,x,(S.V k).wt⟩).V j).nx=(S.V j).nx∧((zF S k ⟨(S.V k).rk,(S.V k).nx,x,(S.V k).wt⟩).V j).wt=(S.V j).wt∧(j≠k→((zF S k ⟨(S.V k).rk,(S.V k).nx,x,(S.V k).wt⟩).V j).wi=(S.V j).wi):=fun j=>by
  unfold zF upd;by_cases e:j=k;·subst e;simp
  ·simp [e]
 refine⟨h.bel,h.hall,h.withs,h.kepts,h.conts,h.moveds,h.cm,fun j uC=>?_,h.pinj,h.ranks,fun j uC=>?_,fun j uC=>?_,fun j uC=>?_,h.keps,h.quo,h.piles,h.nones,h.apart,h.apartN,fun o=>⟨(h.pls o).1,fun j gZ=>⟨((h.pls o).2 j gZ).1,?_⟩⟩,h.els,h.bases,h.contb,h.ebs⟩
 ·unfold YU;rw [(hj j).1,(hj j).2.1];exact h.papers j uC
 ·intro i hi;have Cx:i<(S.V j).rk.length:=by rw [←(hj j).1];exact hi
  rw [h.rkc j uC i Cx];simp [(hj j).1]
 ·rw [(hj j).1,(hj j).2.1];exact h.rkl j uC
 ·rw [(hj j).2.2.1];exact h.wts j uC
 ·rw [(hj j).2.2.2 (fun e=>Bx o (e▸gZ))];exact((h.pls o).2 j gZ).2
theorem yB.plen {K:HK}{q:Fr}{S:St}{G:HG}(h:yB K q S G w)(o:L0):(G.PL o).length≤K.m:=by
 have h2: ∀k∈G.PL o,k∈List.range K.m:=fun k hk=>jk.2 ((h.pls o).2 k hk).1;have:=qi (h.pls o).1 h2
 rwa [ku]at this
theorem jje(K:HK)(q:Fr)(S:St)(G:HG)(w:m0)(k:Nat)(hH:yB K q S G w)(hK:Xo K)(hk:k<K.m)(Bx: ∀o,k∉G.PL o)(hr: ∀i∈(S.V k).rk,i<K.c.op.length):
 Calls prog 120 #[.pointer (some ⟨K.hb,0,none⟩),.pointer (some ⟨K.pb k,0,none⟩)] w (jfQ K q S G k w):=by
 obtain⟨i0,rA,Is,Ts,Ns⟩:=info_parts jio;have I0:=jA rA;have dN:=jA Is;have bN:=jA Ts;have aN:=jA Ns;have HKn:=jA Bx;have HRk:=jA hr;have HH:=jA hH;obtain⟨rk,Pu⟩: ∃rk,rk=(S.V k).rk:=⟨_,rfl⟩;obtain⟨wt,ix⟩: ∃wt,wt=(S.V k).wt:=⟨_,rfl⟩;obtain⟨wi,Hy⟩: ∃wi,wi=(S.V k).wi:=⟨_,rfl⟩;obtain⟨x0,nt⟩: ∃x0,x0=(S.V k).nx:=⟨_,rfl⟩;have HV:=jA (show S.V k=⟨rk,x0,wi,wt⟩by rw [Pu,ix,Hy,nt]);obtain⟨r,DE⟩: ∃r,r=VH S.cont (rk.drop x0) x0:=⟨_,rfl⟩;have HR:=jA DE;have HGO:=jA (show(S.V k).go S.cont=⟨rk,r.1,r.2,wt⟩by rw [HV.u,DE];rfl);have GT:rk.length≤12:=by rw [Pu];exact(hH.rkl k hk).2.1
 have hx0l:x0≤rk.length:=by rw [Pu,nt];exact(hH.rkl k hk).2.2
 have gT:rk.length≤K.rn k:=by rw [Pu];exact(hH.rkl k hk).1
 have hrg:K.rg k<w.heap.size:=xZ (hH.ranks k hk).1;rw [←Pu]at HRk;have Ay:=hK.m4;clear rA Is Ts Ns hH Bx hr Pu ix Hy nt DE hK;go_enter Tryz.func120,Tryz.ntmps120;go_wp2_with fail;go_loopg [] (rk.length-x0) (fun N wr=> ∃nx:Nat,x0≤nx∧nx≤rk.length∧N=rk.length-nx∧VH S.cont (rk.drop nx) nx=r∧yB K q (zF S k ⟨rk,nx,wi,wt⟩) G wr∧yj K G w G wr);case atStart=>exact⟨x0,jO _,hx0l,rfl,HR.u.symm,by rw [←HV.u,jdz];exact HH.u,yj.refl _ _ _⟩
 case round=>
 obtain⟨nx,Fw,Lv,rfl,hsk,hA,Sz⟩:=hrel;have HA:=jA hA;have ST:=jA Sz;have SK:=jA hsk
 have PK:=jA (show wr.heap[K.pb k]?=some (.cells #[.slice (some ⟨K.rg k,0,none⟩) rk.length (K.rn k),G.wn k,G.wd k,.int .i64 (nx:Int)] 168 (0,0))by
  have:=hA.papers k hk;unfold YU at this;rw [Jc]at this;exact this)
 have Cw:K.pb k<wr.heap.size:=xZ PK.u;have d3: ∀x:xj wr.heap.size wr,x.w.cell? ⟨K.pb k,3,none⟩=some (.int .i64 (nx:Int)):=fun x=>jM _ _ 3 _ _ _ (xe x.2 Cw PK.u);have d0: ∀x:xj wr.heap.size wr,x.w.cell? ⟨K.pb k,0,none⟩=some (.slice (some ⟨K.rg k,0,none⟩) rk.length (K.rn k)):=fun x=>jM _ _ 0 _ _ _ (xe x.2 Cw PK.u);clear hA Sz hsk;by_cases ns:nx<rk.length;case neg=>
  obtain⟨dk,Ms⟩:=Go.yg ns;go_upto_region 0 with(fail);refine Seg.xf (fun w'=> ∃x:xj wr.heap.size wr,w'=x.w) [] [0,1,2,3,4,5,6,7,8] 9 (by kernel_rfl) (by kernel_rfl) (fun _ _ d _ _ h=>by cases d<;>exact h) (⟨⟨_,(jN _ _).drew⟩,rfl⟩) ?_;simp only [jK,Seg.opAt,Seg.xu];repeat (any_goals (first|go_big_quiet_step (fail)|quiet_step (fail)))
  refine jR ?_;have WH:nx=rk.length:=by omega
  have HE:=jA (show r=(nx,none)from SK.u.symm.trans (jlH _ _ _ (by omega)));clear d3 d0;go_upto_region 5 with(fail);refine xr (fun w1=>O0 wr.heap.size wr w1) (jN _ _).drew (fun w1 ts=>?_);have B1:=jA ts;have H1:=jA (HA.u.below ts);obtain⟨on,cn,eM,px,_⟩:=Yp H1.u.nones.own;have gN:=jA eM;have k10:w1.cell? ⟨K.hb,10,none⟩=some (.slice on (G.PL none).length cn):=by rw [←eM];exact jM w1 K.hb 10 _ _ _ H1.u.hall
  have WC:=H1.u.plen none;have Gz:K.w0.heap.size≤w1.heap.size:=H1.u.bel.size;clear ts eM px;go_wp2_with (first
   |(
    at_builtin;refine yk (good:=noLimb) _ rfl (.tmp 59) (.tmp 61) 113 rfl K.w0.heap.size 165 i0 (.pointer none) 1 8 underlying113 I0.u dN.u bN.u aN.u rfl (by decide) (fun u hu=>by simp [Value.cells]at hu;subst hu;rfl) (.slice on (G.PL none).length cn) (G.PL none).length (Kh K (G.PL none)) rfl (gN.u▸H1.u.nones.below ((jN _ _).alloc (jO _) _)) ⟨w1.heap.size,0,none⟩ 1 1 [.pointer (some ⟨K.pb k,0,none⟩)] rfl rfl (zK (xh rfl)) (fun u hu=>by rw [jm.1 hu];rfl) (fun u hu=>by rw [jm.1 hu];rfl) (fun _=>by decide) (by unfold maxLen;omega) (by omega) (by simp;omega) _ rfl ?_;intro g9 c9 w2 own hg hf tz;have Hv:=jA (H1.u.below ((jN w1.heap.size w1).alloc (jO _) (.cells #[.pointer (some ⟨K.pb k,0,none⟩)] 165)));have t1:=jA (show Trn 165 K.w0.heap.size G.nv.ownBlock _ w2 from⟨gN.u▸hg,GRow.typed Hv.u.nones⟩);have h2:=t1.u.keep Hv.u.hall (by decide);have n10:w2.cell? ⟨K.hb,10,none⟩=some G.nv:=jM w2 K.hb 10 _ _ _ h2;have z10:w2.frozen? ⟨K.hb,10,none⟩=false:=jc w2 K.hb 10 _ _ h2))
  have HWn:=jA (show yB K q (zF S k ⟨rk,nx,none,wt⟩) G _ by
   have:=Hv.u.wi HKn.u none;rw [Jc,Kv]at this;exact this)
  have Cz:World.grownBy _ w2 G.nv.ownBlock:=gN.u▸hg;have HN:=jA (HWn.u.noned hk HKn.u Cz own rfl (gN.u▸hf) (by rw [Jc]));have hH2:=Hv.u.hall
  go_end0
  unfold jfQ;rw [HGO.u,HE.u];refine⟨rfl,_,HN.u,(ST.u.below B1.u).trans ((JD ((jN _ _).alloc (jO _) _)).trans (jaW Cz (fun x hx=>.inr (.inr (.inr (.inr (.inr (.inr (.inr (.inl hx)))))))) (yC 10 _) (.inl rfl) (zI.noned rfl (gN.u▸hf)))),rfl,rfl⟩
 obtain⟨dk,Ms,Py⟩:=Go.yD ns
 obtain⟨i,hi⟩: ∃i,i=rk[nx]:=⟨_,rfl⟩;have bt:=HRk.u i (by rw [hi];exact jb ns);have HS1:=jA (show S.cont i=true→r=(nx+1,some i)from fun h=>by rw [←SK.u,jdB _ _ _ ns,←hi,jP h]);have dS:=jA (show S.cont i=false→VH S.cont (rk.drop (nx+1)) (nx+1)=r from fun h=>by rw [←SK.u,jdB _ _ _ ns,←hi,h];rfl);have RG:=jA (HA.u.ranks k hk)
 have RC:=jA (show(K.rc k)[nx]?=some (.int .i64 (i:Int))by
  have h1:=HA.u.rkc k hk nx (by rw [Jc];exact ns);rw [h1,hi];simp [Jc])
 clear hi SK;go_upto_region 0 with(fail);refine Seg.xf (fun w'=> ∃x:xj wr.heap.size wr,w'=x.w) [] [0,1,2,3,4,5,6,7,8] 9 (by kernel_rfl) (by kernel_rfl) (fun _ _ d _ _ h=>by cases d<;>exact h) (⟨⟨_,(jN _ _).drew⟩,rfl⟩) ?_;simp only [jK,Seg.opAt,Seg.xu];repeat (any_goals (first|go_big_quiet_step (fail)|quiet_step (fail)))
 refine jR ?_;go_upto_region 1 with(fail);refine xr (fun w1=>O0 wr.heap.size wr w1) (jN _ _).drew (fun w1 ts=>?_);have B1:=jA ts;have H1:=jA (HA.u.below ts);have ST1:=jA (ST.u.below ts);have PK1:=jA (xe ts Cw PK.u);have RG1:=jA (xe ts (xZ RG.u.1) RG.u.1);clear ts d3 d0 HA ST PK Cw RG B1;have Cw:K.pb k<w1.heap.size:=xZ PK1.u;have ay:K.rg k<w1.heap.size:=xZ RG1.u;have d3: ∀x:xj w1.heap.size w1,x.w.cell? ⟨K.pb k,3,none⟩=some (.int .i64 (nx:Int)):=fun x=>jM _ _ 3 _ _ _ (xe x.2 Cw PK1.u);have d0: ∀x:xj w1.heap.size w1,x.w.cell? ⟨K.pb k,0,none⟩=some (.slice (some ⟨K.rg k,0,none⟩) rk.length (K.rn k)):=fun x=>jM _ _ 0 _ _ _ (xe x.2 Cw PK1.u);have d1: ∀x:xj w1.heap.size w1,x.w.cell? ⟨K.rg k,nx,none⟩=some (.int .i64 (i:Int)):=fun x=>(jM _ _ nx _ _ _ (xe x.2 ay RG1.u)).trans RC.u;have p1:w1.cell? ⟨K.rg k,nx,none⟩=some (.int .i64 (i:Int)):=(jM _ _ nx _ _ _ RG1.u).trans RC.u;refine Seg.xf (fun w'=> ∃x:xj w1.heap.size w1,w'=x.w) [] [0,1,2,3,4,5,6,7] 8 (by kernel_rfl) (by kernel_rfl) (fun _ _ d _ _ h=>by cases d<;>exact h) (⟨⟨_,(jN _ _).drew⟩,rfl⟩) ?_;simp only [jK,Seg.opAt,Seg.xu];repeat (any_goals (first|go_big_quiet_step (fail)|quiet_step (fail)))
 refine jR ?_;go_upto_region 2 with(fail);refine xr (fun w2=>O0 w1.heap.size w1 w2) (jN _ _).drew (fun w2 lu=>?_);have H2:=jA (H1.u.below lu);have OZ:=jA (ST1.u.below lu);have PK2:=jA (xe lu Cw PK1.u);clear lu d3 d0 d1 p1 H1 ST1 PK1 RG1 Cw ay;have p3:w2.cell? ⟨K.pb k,3,none⟩=some (.int .i64 (nx:Int)):=jM _ _ 3 _ _ _ PK2.u;have z3:w2.frozen? ⟨K.pb k,3,none⟩=false:=jc w2 _ 3 _ _ PK2.u;go_upto_region 3 with(fail);have PB:=jd w2 (K.pb k) 3 _ _ (.int .i64 ((nx:Int)+1)) PK2.u;have H3:yB K q (zF S k ⟨rk,nx+1,wi,wt⟩) G (w2.setCell ⟨K.pb k,3,none⟩ (.int .i64 ((nx:Int)+1))):=by
  have h1:=H2.u.paper hk (nx+1) wt (G.wn k) (G.wd k) (yC 3 (.int .i64 ((nx:Int)+1))) (by rw [PB,Jc];rfl) (by rw [Jc];exact ns) (by have:=H2.u.wts k hk;rw [Jc]at this;exact this);have e1:(⟨upd (zF S k ⟨rk,nx,wi,wt⟩).V k ⟨((zF S k ⟨rk,nx,wi,wt⟩).V k).rk,nx+1,((zF S k ⟨rk,nx,wi,wt⟩).V k).wi,wt⟩,S.cont,S.moved,S.kept,S.el⟩:St)=zF S k ⟨rk,nx+1,wi,wt⟩:=by
   rw [Jc];exact Kv S k ⟨rk,nx,wi,wt⟩ ⟨rk,nx+1,wi,wt⟩
  have e2:upd G.wn k (G.wn k)=G.wn:=jly _ _;have e3:upd G.wd k (G.wd k)=G.wd:=jly _ _;rw [e2,e3]at h1;exact e1▸h1
 refine xr (fun w3=>yB K q (zF S k ⟨rk,nx+1,wi,wt⟩) G w3∧yj K G w G w3) ⟨H3,OZ.u.trans (Ky (q:=q) (S:=S) (yC 3 _) (.inr (.inr (.inr (.inr (.inr (.inl ⟨k,hk,rfl⟩)))))) (fun b h=>h))⟩ (fun w3 mw=>?_);have GI:=jA mw.1;have ST3:=jA mw.2;have IN:w3.cell? ⟨K.hb,12,none⟩=some (.slice (some ⟨K.cb,0,none⟩) K.c.op.length K.c.op.length):=jM w3 K.hb 12 _ _ _ mw.1.hall;have kc:w3.cell? ⟨K.cb,i,none⟩=some (.bool (S.cont i)):=Qd mw.1.conts bt;have dii:(i:Int)<(K.c.op.length:Int):=by omega
 clear mw H3 PB p3 z3 H2 OZ PK2 dk Ms;cases FE:S.cont i with
 |
  false=>
  rw [FE]at kc;have HN:=jA (dS.u FE);clear FE HS1;go_wp2_with fail
  go_roundg (rk.length-(nx+1))
  case rel=>exact⟨nx+1,by omega,by omega,rfl,HN.u,GI.u,ST3.u⟩
  case measure=>omega
 |
  true=>
  rw [FE]at kc;have HE:=jA (HS1.u FE);clear FE dS;go_upto_region 4 with(fail);clear IN kc;obtain⟨on,cn,eM,px,_⟩:=Yp (GI.u.piles i bt).own;have gN:=jA eM;obtain⟨M,hM⟩: ∃M,M=w3.heap.size:=⟨_,rfl⟩;obtain⟨b,hb⟩: ∃b,b=(G.pv i).ownBlock.getD M:=⟨_,rfl⟩;have hbH:K.hb<M:=by rw [hM];exact xZ GI.u.hall
  have hbW:K.wb<M:=by rw [hM];exact xZ GI.u.withs
  have Cs:K.hb≠b∧K.wb≠b:=by
   cases ho:(G.pv i).ownBlock with
   |none=>rw [ho]at hb;simp at hb;omega
   |
    some g=>
    rw [ho]at hb;simp at hb;subst hb;obtain⟨_,cs,f,h1,_⟩:=GRow.typed (GI.u.piles i bt) b ho;exact⟨zR GI.u.hall h1 (by decide),zR GI.u.withs h1 (by decide)⟩
  have d9: ∀x:GrT b M w3,x.w.cell? ⟨K.hb,9,none⟩=some (.slice (some ⟨K.wb,0,none⟩) K.c.op.length K.c.op.length):=fun x=>Qx x hbH Cs.1 (jM w3 K.hb 9 _ _ _ GI.u.hall);have di: ∀x:GrT b M w3,x.w.cell? ⟨K.wb,i,none⟩=some (.slice on (G.PL (some i)).length cn):=fun x=>Qx x hbW Cs.2 (by rw [←eM];exact ZL GI.u.withs bt);have HM:=jA hM;have Eu:=jA hb;have WC:=GI.u.plen (some i);have Gz:K.w0.heap.size≤M:=by rw [hM];exact GI.u.bel.size
  clear eM px hM hb;refine Seg.xf (fun w'=> ∃x:GrT b M w3,w'=x.w) [([0,1,2,3,4,5,6,7,8,9,10,11,12],13),([],14)] [] 15 (by kernel_rfl) (by kernel_rfl) (fun _ _ d _ _ h=>by cases d<;>exact h) (ZA HM.u (xk (yG.refl _ w3).drew)) ?_;simp only [jK,Seg.opAt,Seg.xu];repeat (any_goals (first|go_big_quiet_step (fail)|quiet_step (fail)))
  refine jR ?_;intro Kc hK;simp only [Region.wanted,jY];go_wp2_with fail;have Bv:O0 w3.heap.size w3 (w3.alloc (.cells #[.pointer (some ⟨K.pb k,0,none⟩)] 165)).drew:=((jN _ _).alloc (jO _) _).drew;have hnw: ∀j u,([.pointer (some ⟨K.pb k,0,none⟩)]:A0)[j]?=some u→(w3.alloc (.cells #[.pointer (some ⟨K.pb k,0,none⟩)] 165)).drew.cell? ((⟨w3.heap.size,0,none⟩:Addr).add j)=some u:=zK (xh rfl);refine hK _ _ (ZA HM.u (JE Bv)) ?_;clear hK Kc;have cC:=jA (GI.u.below Bv);have ST4:=jA (ST3.u.below Bv);have HG4:=jA (show w3.grownBy (w3.alloc (.cells #[.pointer (some ⟨K.pb k,0,none⟩)] 165)).drew (some b)from JE Bv);have hs4:M≤(w3.alloc (.cells #[.pointer (some ⟨K.pb k,0,none⟩)] 165)).drew.heap.size:=by rw [HM.u];exact Bv.size
  generalize (w3.alloc (.cells #[.pointer (some ⟨K.pb k,0,none⟩)] 165)).drew=w4 at*;clear Bv;repeat (any_goals (first|go_big_quiet_step (fail)|quiet_step (fail)))
  refine jR ?_;intro Kc hK;simp only [Region.wanted,jY];refine Yn (good:=noLimb) _ (.tmp 50) (.tmp 52) 113 rfl K.w0.heap.size 165 i0 (.pointer none) 1 8 underlying113 I0.u dN.u bN.u aN.u rfl (by decide) (fun u hu=>by simp [Value.cells]at hu;subst hu;rfl) (.slice on (G.PL (some i)).length cn) (G.PL (some i)).length (Kh K (G.PL (some i))) rfl (gN.u▸cC.u.piles i bt) ⟨w3.heap.size,0,none⟩ 1 1 [.pointer (some ⟨K.pb k,0,none⟩)] rfl rfl hnw (fun u hu=>by rw [jm.1 hu];rfl) (fun u hu=>by rw [jm.1 hu];rfl) (fun _=>by decide) (by unfold maxLen;omega) (by omega) (by omega) _ rfl (fun g9 c9 w5 own hg hf tz=>?_);have Cz:w4.grownBy w5 (G.pv i).ownBlock:=gN.u▸hg;have nZ:w3.grownBy w5 (some b):=by
   refine⟨Cz.os.trans HG4.u.os,Cz.tape.trans HG4.u.tape,Cz.output.trans HG4.u.output,jU HG4.u.size Cz.size,fun j hj hne2=>(Cz.block j (jW hj HG4.u.size) (fun e=>hne2 ?_)).trans (HG4.u.block j hj hne2)⟩;rw [Eu.u,←e];rfl
  refine hK _ _ (ZA HM.u nZ) ?_;clear hK Kc;have t1:=jA (show Trn 165 K.w0.heap.size (G.pv i).ownBlock w4 w5 from⟨Cz,GRow.typed (cC.u.piles i bt)⟩);have h9:=t1.u.keep cC.u.withs (by decide);have nwi:w5.cell? ⟨K.wb,i,none⟩=some (G.pv i):=ZL h9 bt;have zwi:w5.frozen? ⟨K.wb,i,none⟩=false:=jc w5 K.wb i _ _ h9;repeat (any_goals (first|go_big_quiet_step (fail)|quiet_step (fail)))
  refine jR ?_;go_wp2_with fail
  have HWn:=jA (show yB K q (zF S k ⟨rk,nx+1,some i,wt⟩) G w4 by
   have:=cC.u.wi HKn.u (some i);rw [Jc,Kv]at this;exact this)
  have HN:=jA (HWn.u.piled bt hk HKn.u Cz own rfl (gN.u▸hf) (by rw [Jc]))
  go_end0
  unfold jfQ;rw [HGO.u,HE.u];exact⟨rfl,_,HN.u,ST4.u.trans (jaW Cz (fun x hx=>.inr (.inr (.inr (.inr (.inr (.inr (.inl ⟨i,bt,hx⟩))))))) (yC i _) (.inr (.inl rfl)) (zI.piled bt rfl (gN.u▸hf))),rfl,rfl⟩
def yK(l:E0):C0:=l.map fun i:Nat=>(i:Int)
theorem zA(l:E0):(yK l).length=l.length:=by simp [yK]
theorem jiC(S:St)(l:E0)(j:Nat)(h:j<l.length):(⟨S.V,upd (S.elect (l.take j)).cont l[j] false,S.moved,S.kept,(S.elect (l.take j)).el++ [l[j]]⟩:St)=S.elect (l.take (j+1)):=by
 have e1:=jh h;unfold St.elect;congr 1
 ·funext x;simp only [e1,jj,jm];unfold upd;by_cases e:x=l[j];·simp [e]
  ·simp [e]
 ·rw [e1,kY]
theorem zI.eld {K:HK}{G:HG}(hv:v'.ownBlock=some g)(hf:G.ev.ownBlock=some g∨g=N): ∀b,zI K ⟨G.pv,G.nv,v',G.PL,G.wn,G.wd,G.kn,G.kd⟩ b→zI K G b∨N≤b:=by
 intro b hm;rcases hm with h|h|h|h|h|h|h|h|h;·exact .inl (.inl h)
 ·exact .inl (.inr (.inl h))
 ·exact .inl (.inr (.inr (.inl h)))
 ·exact .inl (.inr (.inr (.inr (.inl h))))
 ·exact .inl (.inr (.inr (.inr (.inr (.inl h)))))
 ·exact .inl (.inr (.inr (.inr (.inr (.inr (.inl h))))))
 ·exact .inl (.inr (.inr (.inr (.inr (.inr (.inr (.inl h)))))))
 ·exact .inl (.inr (.inr (.inr (.inr (.inr (.inr (.inr (.inl h))))))))
 ·have h':v'.ownBlock=some b:=h;rw [hv]at h';injection h' with h';subst h';rcases hf with hf|hf;·exact .inl (.inr (.inr (.inr (.inr (.inr (.inr (.inr (.inr hf))))))))
  ·exact .inr (by omega)
theorem jcq{base:Nat}{e:o0}{n:Nat}{o:s0}{cap:Nat}{l:E0}(h:w.ownsRow base e 1 (.slice o n cap) n (xq (yK l))){j:Nat}(hj:j<l.length): ∃g,o=some ⟨g,0,none⟩∧w.cell? ⟨g,j,none⟩=some (.int .i64 ((l[j]:Nat):Int)):=by
 rcases h.2 with⟨hv,h0⟩|⟨g,c,Es,hv,_⟩;·have:=h.1;simp [xq,yK]at this;omega
 ·injection hv with h1;refine⟨g,h1,?_⟩;have h2:=h.cells (g:=g) (by rw [h1];rfl) j (.int .i64 ((l[j]:Nat):Int)) (by simp [xq,yK,hj])
  rwa [Qf]at h2
theorem jer(K:HK)(q:Fr)(S:St)(G:HG)(w:m0)(l:E0)(base:Nat)(o:s0)(cap:Nat)(hH:yB K q S G w)(hn:K.c.op.length≤12)(hl: ∀i∈l,i<K.c.op.length)(WC:S.el.length+l.length≤1000)
 (hr:w.ownsRow base 3 1 (.slice o l.length cap) l.length (xq (yK l))) (hX: ∀x,(Value.slice o l.length cap).ownBlock=some x→ ¬zI K G x):
 Calls prog 129 #[.pointer (some ⟨K.hb,0,none⟩),.slice o l.length cap] w fun e w'=>e=.returned (.tuple #[])∧ ∃G',yB K q (S.elect l) G' w'∧yj K G w G' w'∧G'.PL=G.PL:=by
 obtain⟨i0,rA,Is,Ts,Ns⟩:=info_parts KC;have I0:=jA rA;have dN:=jA Is;have bN:=jA Ts;have aN:=jA Ns;have HH:=jA hH;have HL:=jA hl;have HR:=jA hr;have HX:=jA hX;clear rA Is Ts Ns hH hl hr hX;go_enter Tryz.func129,Tryz.ntmps129;go_wp2_with fail;go_loopw [8] (fun v wr=> ∃(j:Nat) (G1:HG),v=.int .i64 j∧j≤l.length∧yB K q (S.elect (l.take j)) G1 wr∧yj K G w G1 wr∧G1.PL=G.PL) (fun v _=>l.length-(intOf v).toNat);case atStart=>
  refine⟨0,G,rfl,ja _,?_,yj.refl _ _ _,rfl⟩;have:S.elect (l.take 0)=S:=by simp [St.elect]
  rw [this];exact HH.u
 case round=>
 obtain⟨j,G1,rfl,hj,hA,hs,Cw⟩:=hrel;have HA:=jA hA;have ST:=jA hs;have PLE:=jA Cw;clear hA hs Cw;by_cases ns:j<l.length;case neg=>
  obtain⟨dk,Ms⟩:=Go.yg ns;obtain rfl:j=l.length:=by omega
  rw [jr]at HA;go_wp2_with fail
  go_end0
  exact⟨rfl,G1,HA.u,ST.u,PLE.u⟩
 obtain⟨dk,Ms,dkj⟩:=Go.yD ns
 have hR:=ST.u.own HR.u HX.u;obtain⟨gl,ho,ey⟩:=jcq hR ns;have bt:=HL.u _ (jb ns);have Ou:=jA (jiC S l j ns);have AA:(S.elect (l.take j)).el.length=S.el.length+j:=by simp [St.elect];omega
 have HEL:=jA AA;subst ho;generalize l[j]=i at*;have IN:wr.cell? ⟨K.hb,12,none⟩=some (.slice (some ⟨K.cb,0,none⟩) K.c.op.length K.c.op.length):=jM wr K.hb 12 _ _ _ HA.u.hall;have kc:=Qd HA.u.conts bt;have zc:wr.frozen? ⟨K.cb,i,none⟩=false:=jc wr _ i _ _ HA.u.conts;have dii:(i:Int)<(K.c.op.length:Int):=by omega
 go_upto_region 4 with(fail);have HO:=HA.u.outed bt;refine xr (fun w2=>yB K q ⟨S.V,upd (S.elect (l.take j)).cont i false,S.moved,S.kept,(S.elect (l.take j)).el⟩ G1 w2∧yj K G w G1 w2) ⟨HO,ST.u.trans (Ky (q:=q) (S:=S) (yC i _) (.inr (.inr (.inr (.inl rfl)))) (fun b h=>h))⟩ (fun w2 lu=>?_);have H2:=jA lu.1;have OZ:=jA lu.2;obtain⟨oe,ce,Nx,hec,_⟩:=zT lu.1.els.own;rw [kS]at Nx;have wG:=jA Nx;have k14:w2.cell? ⟨K.hb,14,none⟩=some (.slice oe (S.elect (l.take j)).el.length ce):=by rw [←Nx];exact jM w2 K.hb 14 _ _ _ lu.1.hall
 clear lu HO IN kc zc ey hR Nx hec HA ST AA;go_wp2_with (first
  |(
   at_builtin;refine yk (good:=noLimb) _ rfl (.tmp 22) (.tmp 24) 29 rfl K.eb 3 i0 (.int .i64 0) 1 8 underlying29 I0.u dN.u bN.u aN.u rfl (by decide) (fun u hu=>by simp [Value.cells]at hu;subst hu;rfl) (.slice oe (S.elect (l.take j)).el.length ce) (S.elect (l.take j)).el.length (xq (yK (S.elect (l.take j)).el)) rfl (wG.u▸H2.u.els.below ((jN _ _).alloc (jO _) _)) ⟨w2.heap.size,0,none⟩ 1 1 [.int .i64 (i:Int)] rfl rfl (zK (xh rfl)) (fun u hu=>by rw [jm.1 hu];rfl) (fun u hu=>by rw [jm.1 hu];rfl) (fun _=>by decide) (by rw [HEL.u];unfold maxLen;omega) (by rw [HEL.u];omega) (by have:=H2.u.ebs;simp;omega) _ rfl ?_;intro g9 c9 w3 own hg hf tz;have Hv:=jA (H2.u.below ((jN w2.heap.size w2).alloc (jO _) (.cells #[.int .i64 (i:Int)] 3)));have t1:=jA (show Trn 3 K.w0.heap.size G1.ev.ownBlock _ w3 from⟨wG.u▸hg,GRow.typed (GRow.lift Hv.u.els Hv.u.bases.2.2.2.2.2.1)⟩);have h2:=t1.u.keep Hv.u.hall (by decide);have n14:w3.cell? ⟨K.hb,14,none⟩=some G1.ev:=jM w3 K.hb 14 _ _ _ h2;have z14:w3.frozen? ⟨K.hb,14,none⟩=false:=jc w3 K.hb 14 _ _ h2))
 have Cz:World.grownBy _ w3 G1.ev.ownBlock:=wG.u▸hg;have HN:=jA (Hv.u.eld Cz own);have HS:=jA (OZ.u.trans ((JD ((jN w2.heap.size w2).alloc (jO _) (.cells #[.int .i64 (i:Int)] 3))).trans (jaW Cz (fun x hx=>.inr (.inr (.inr (.inr (.inr (.inr (.inr (.inr hx)))))))) (yC 14 (.slice (some ⟨g9,0,none⟩) ((S.elect (l.take j)).el.length+1) c9)) (.inl rfl) (zI.eld (G:=G1) (g:=g9) (v':=.slice (some ⟨g9,0,none⟩) ((S.elect (l.take j)).el.length+1) c9) rfl (wG.u▸hf)))));go_roundw;case rel=>exact⟨j+1,_,by go_num,by omega,Ou.u▸HN.u,HS.u,PLE.u⟩
 case measure=>simp [intOf];omega
theorem VX {K:HK}{q:Fr}{S:St}{G:HG}(h:yB K q S G w)(hm:zI K G b):b<w.heap.size:=by
 obtain⟨cs,T,f,h1,_⟩:=h.mineT hm;exact xZ h1
theorem jjA {K:HK}{q:Fr}{S:St}{G:HG}(h:yB K q S G w)(hi:i<K.c.op.length){PL:L0→E0}{x:Nat}(hx:(G.pv i).ownBlock=some x): ¬zI K ⟨upd G.pv i (.slice none 0 0),G.nv,G.ev,PL,G.wn,G.wd,G.kn,G.kd⟩ x:=by
 obtain⟨_,cs,f,h1,_⟩:=GRow.typed (h.piles i hi) x hx;intro hm;rcases hm with rfl|rfl|rfl|rfl|rfl|⟨k,hk,rfl⟩|⟨j,hj,hv⟩|hv|hv;·exact zR h.hall h1 (by decide) rfl
 ·exact zR h.withs h1 (by decide) rfl
 ·exact zR h.kepts h1 (by decide) rfl
 ·exact zR h.conts h1 (by decide) rfl
 ·exact zR h.moveds h1 (by decide) rfl
 ·exact zR (h.papers k hk) h1 (by decide) rfl
 ·have tD:(upd G.pv i (.slice none 0 0) j).ownBlock=some x:=hv;by_cases e:j=i;·subst e;rw [xp]at tD;cases tD
  ·rw [xw _ _ _ _ e]at tD;rcases h.apart j i hj hi e with h2|h2;·rw [tD]at h2;cases h2
   ·rw [tD,hx]at h2;exact h2 rfl
 ·have tD:G.nv.ownBlock=some x:=hv;rcases h.apartN i hi with h2|h2;·rw [hx]at h2;cases h2
  ·rw [tD,hx]at h2;exact h2 rfl
 ·have tD:G.ev.ownBlock=some x:=hv;obtain⟨_,gv,f',h2,_⟩:=GRow.typed h.els x tD;exact zR h2 h1 (by decide) rfl
theorem zI.taken {K:HK}{G:HG}{PL:L0→E0}: ∀b,zI K ⟨upd G.pv i (.slice none 0 0),G.nv,G.ev,PL,G.wn,G.wd,G.kn,G.kd⟩ b→zI K G b:=by
 intro b hm;rcases hm with h|h|h|h|h|h|⟨j,hj,hv⟩|h|h;·exact .inl h
 ·exact .inr (.inl h)
 ·exact .inr (.inr (.inl h))
 ·exact .inr (.inr (.inr (.inl h)))
 ·exact .inr (.inr (.inr (.inr (.inl h))))
 ·exact .inr (.inr (.inr (.inr (.inr (.inl h)))))
 ·have tD:(upd G.pv i (.slice none 0 0) j).ownBlock=some b:=hv;by_cases e:j=i;·subst e;rw [xp]at tD;cases tD
  ·rw [xw _ _ _ _ e]at tD;exact .inr (.inr (.inr (.inr (.inr (.inr (.inl ⟨j,hj,tD⟩))))))
 ·exact .inr (.inr (.inr (.inr (.inr (.inr (.inr (.inl h)))))))
 ·exact .inr (.inr (.inr (.inr (.inr (.inr (.inr (.inr h)))))))
def goV(S:St)(f:Fr)(L:E0):St:=⟨fun k=>if k∈L then((S.V k).by f).go S.cont else S.V k,S.cont,S.moved,S.kept,S.el⟩
theorem jjk(S:St)(f:Fr):goV S f []=S:=by simp [goV]
theorem jmG(S:St)(f:Fr)(L:E0)(t:Nat)(h:t<L.length)(MG:L.Nodup):zF (zF (goV S f (L.take t)) L[t] ((S.V L[t]).by f)) L[t] (((S.V L[t]).by f).go S.cont)=goV S f (L.take (t+1))∧(goV S f (L.take t)).V L[t]=S.V L[t]:=by
 have e1:=jh h;have hn:L[t]∉L.take t:=by
  intro hm;have h2:(L.take (t+1)).Nodup:=MG.sublist (List.take_sublist _ _);rw [e1]at h2;exact(vH.1 h2).2.2 L[t] hm L[t] (by simp) rfl
 constructor
 ·rw [Kv];unfold zF goV;congr 1;funext k;simp only [e1,jj,jm];unfold upd;by_cases e:k=L[t];·simp [e]
  ·simp [e]
 ·unfold goV;simp [hn]
structure jnr(K:HK)(S:St)(G:HG)(R:E0):Prop where
 all: ∀k,k<K.m→k∉R→k∈G.PL (S.V k).wi
 not: ∀k∈R,∀o,k∉G.PL o
def jab(K:HK)(S:St)(G:HG):Prop:= ∀k,k<K.m→k∈G.PL (S.V k).wi
theorem jgN(K:HK)(q:Fr)(S:St)(G:HG)(w:m0)(i:Nat)(f:Fr)(fa fb:n0)(hH:yB K q S G w)(hK:Xo K)(hi:i<K.c.op.length)(hF:jab K S G)(hf:FrV w f fa fb)(sf:Sml f)
 (hw: ∀k∈G.PL (some i),Sml (S.V k).wt∧Sml ((S.V k).wt.mul f)) (Pu: ∀k,k<K.m→ ∀j∈(S.V k).rk,j<K.c.op.length):
 Calls prog 131 #[.pointer (some ⟨K.hb,0,none⟩),.int .i64 (i:Int),.agg #[fa,fb]] w fun e w'=>e=.returned (.tuple #[])∧ ∃G',yB K q (goV S f (G.PL (some i))) G' w'∧yj K G w G' w'∧jab K (goV S f (G.PL (some i))) G':=by
 have HS:=jA JJ;have HH:=jA hH;have HK:=jA hK;have HF:=jA hF;have HFf:=jA hf;have HSF:=jA sf;have HW:=jA hw;have eS:=jA Pu;have Ay:=hK.m4;have hLm:=hH.plen (some i);obtain⟨L,hL⟩: ∃L,L=G.PL (some i):=⟨_,rfl⟩;have HL:=jA hL;rw [←hL]at HW hLm ⊢;have HLk:=jA (show ∀k∈L,k<K.m∧(S.V k).wi=some i by rw [hL];exact(hH.pls _).2);have HND:=jA (show L.Nodup by rw [hL];exact(hH.pls _).1);clear hH hK hF hf sf hw Pu hL;go_enter Tryz.func131,Tryz.ntmps131;go_upto_region 1 with(fail);have Bv:O0 w.heap.size w (w.alloc (.cells #[fa,fb] 90)):=(jN _ _).alloc (jO _) _;have hcA:(w.alloc (.cells #[fa,fb] 90)).heap[w.heap.size]?=some (.cells #[fa,fb] 90 (0,0)):=xh rfl;generalize hC:w.heap.size=C at*;refine xr (fun w1=>O0 C w w1∧w1.heap[C]?=some (.cells #[fa,fb] 90 (0,0))) ⟨Bv,hcA⟩ (fun w1 ts=>?_);have Uw:O0 w.heap.size w w1:=by rw [hC];exact ts.1
 have H1:=jA (HH.u.below Uw);have ST1:=jA (JD (K:=K) (G:=G) Uw);have BX1:=jA ts.2;have F1:=jA (HFf.u.below Uw);have FH:=jA (show ¬zI K G C from fun hm=>by have:=VX HH.u hm;omega);obtain⟨ol,cl,hpv,_,WL⟩:=Yp (H1.u.piles i hi).own;have HPV:=jA hpv;have k9:w1.cell? ⟨K.hb,9,none⟩=some (.slice (some ⟨K.wb,0,none⟩) K.c.op.length K.c.op.length):=jM w1 K.hb 9 _ _ _ H1.u.hall;have ki:w1.cell? ⟨K.wb,i,none⟩=some (.slice ol L.length cl):=by rw [HL.u,←hpv];exact ZL H1.u.withs hi
 have zi:w1.frozen? ⟨K.wb,i,none⟩=false:=jc w1 _ i _ _ H1.u.withs;have dii:(i:Int)<(K.c.op.length:Int):=by omega
 clear Bv hcA hC ts Uw WL hpv HFf;go_upto_region 3 with(fail);have HT:=H1.u.taken hi;obtain⟨G1,sK⟩: ∃G1:HG,G1=⟨upd G.pv i (.slice none 0 0),G.nv,G.ev,upd G.PL (some i) [],G.wn,G.wd,G.kn,G.kd⟩:=⟨_,rfl⟩;rw [←sK]at HT;have hMT: ∀b,zI K G1 b→zI K G b:=fun b h=>by rw [sK]at h;exact zI.taken b h
 have MW:=jA (show G1.PL=upd G.PL (some i) []by rw [sK]);have HNM:=jA (show ∀x,(Value.slice ol L.length cl).ownBlock=some x→ ¬zI K G1 x from fun x hx=>by rw [sK];exact jjA H1.u hi (by rw [HPV.u,←HL.u];exact hx));have oD:=jA (show ¬zI K G1 C from fun hm=>FH.u (hMT C hm));have tR:Trn 113 K.w0.heap.size (some K.wb) w1 (w1.setCell ⟨K.wb,i,none⟩ (.slice none 0 0)):=Trn.of_only (yC i _) H1.u.withs H1.u.bases.2.1 (XO H1.u);have uU:=tR.rowT (H1.u.piles i hi) (by decide);rw [HPV.u,←HL.u]at uU;have hSt:yj K G w1 G1 (w1.setCell ⟨K.wb,i,none⟩ (.slice none 0 0)):=Ky (q:=q) (S:=S) (yC i _) (.inr (.inl rfl)) hMT;refine xr (fun w2=>yB K q S G1 w2∧yj K G w1 G1 w2∧GRow noLimb w2 K.w0.heap.size 165 1 (.slice ol L.length cl) L.length (Kh K L)) ⟨HT,hSt,uU⟩ (fun w2 lu=>?_);have H2:=jA lu.1;have OZ:=jA (ST1.u.trans lu.2.1);have RW2:=jA lu.2.2;have BX2:=jA (lu.2.1.keep BX1.u FH.u);have F2:=jA (lu.2.1.fr H1.u F1.u)
 have FU2:=jA (show jnr K S G1 L from⟨fun k hk hn=>by
  rw [MW.u];have h1:=HF.u k hk;rw [xw _ _ _ _ (fun e=>hn (by rw [HL.u,←e];exact h1))];exact h1,
  fun k hk o ho=>by
   rw [MW.u]at ho;by_cases e:o=some i;·subst e;rw [xp]at ho;cases ho
   ·rw [xw _ _ _ _ e]at ho;have h1:=((HH.u.pls o).2 k ho).2;exact e (h1.symm.trans (HLk.u k hk).2)⟩)
 clear lu HT hMT uU hSt tR k9 ki zi H1 BX1 F1 FH sK ST1 MW;go_wp2_with fail;go_loopw [24] (fun v wr=> ∃(t:Nat) (Gt:HG),v=.int .i64 t∧t≤L.length∧yB K q (goV S f (L.take t)) Gt wr∧yj K G1 w2 Gt wr∧jnr K (goV S f (L.take t)) Gt (L.drop t)) (fun v _=>L.length-(intOf v).toNat);case atStart=>
  refine⟨0,G1,rfl,ja _,?_,yj.refl _ _ _,?_⟩;·rw [qu,jjk];exact H2.u
  ·rw [qu,jjk];exact FU2.u
 case round=>
 obtain⟨t,Gt,rfl,ht,hA,hs,pM⟩:=hrel;have HA:=jA hA;have ST:=jA hs;have FU:=jA pM;clear hA hs pM;by_cases ns:t<L.length;case neg=>
  obtain⟨dk,Ms⟩:=Go.yg ns;obtain rfl:t=L.length:=by omega
  rw [jr]at HA FU;rw [List.drop_length]at FU;go_wp2_with fail
  go_end0
  exact⟨rfl,Gt,HA.u,OZ.u.trans ST.u,fun k hk=>FU.u.all k hk (by simp)⟩
 obtain⟨dk,Ms,dkt⟩:=Go.yD ns
 have RWr:=jA (ST.u.row RW2.u HNM.u);have BXr:=jA (ST.u.keep BX2.u oD.u);have Ff:=jA (ST.u.fr H2.u F2.u);obtain⟨k,hk⟩: ∃k,k=L[t]:=⟨_,rfl⟩;have TQ:k∈L:=by rw [hk];exact jb ns
 have Wu:=(HLk.u k TQ).1;obtain⟨gl,ho,ey⟩: ∃g,ol=some ⟨g,0,none⟩∧wr.cell? ⟨g,t,none⟩=some (.pointer (some ⟨K.pb k,0,none⟩)):=by
  rcases RWr.u.own.2 with⟨hv,h0⟩|⟨g,c,Es,hv,_⟩;·omega
  ·injection hv with h1;refine⟨g,h1,?_⟩;have h2:=RWr.u.own.cells (g:=g) (by rw [h1];rfl) t (.pointer (some ⟨K.pb k,0,none⟩)) (by simp [Kh,hk,ns])
   rwa [Qf]at h2
 have aS:=jA (jmG S f L t ns HND.u);rw [←hk]at aS;have PK:=jA (HA.u.papers k Wu);unfold YU at PK;rw [aS.u.2]at PK;have FW:=jA (HA.u.wts k Wu);rw [aS.u.2]at FW;have nN:=jA (show L.drop t=k::L.drop (t+1)by rw [hk,qA ns])
 have HND2:=jA (show k∉L.drop (t+1)by
  have h2:(L.drop t).Nodup:=HND.u.sublist (List.drop_sublist _ _);rw [nN.u]at h2;exact(vh.1 h2).1)
 have SW:=jA (HW.u k TQ);have Cw:K.pb k<wr.heap.size:=xZ PK.u;have PU:C<wr.heap.size:=xZ BXr.u;have QT:=jA (jnu wr.drew (Trn.fr (Trn.of_below (jN _ _).drew 0 0) FW.u) (Trn.fr (Trn.of_below (jN _ _).drew 0 0) Ff.u) SW.u.1.ok HSF.u.ok SW.u.1.lens HSF.u.lens);clear hk;subst ho;go_upto_region 6 with(fail);clear ey;generalize hwn:Gt.wn k=xn at*;generalize hwd:Gt.wd k=xd at*;clear hwn hwd;refine Seg.xf (fun w'=> ∃x:xj wr.heap.size wr,w'=x.w) [([0,1,2,3,4,5],6)] [] 7 (by kernel_rfl) (by kernel_rfl) (fun _ _ d _ _ h=>by cases d<;>exact h) (⟨⟨_,(jN _ _).drew⟩,rfl⟩) ?_;simp only [jK,Seg.opAt,Seg.xu];iterate 4 first|go_big_quiet_step (fail)|quiet_step (fail)
 refine xx rfl 90 _ rfl ⟨K.pb k,1,none⟩ [xn,xd] _ rfl (fun w' Tt=>by obtain⟨x,rfl⟩:=Tt;exact jdT (xe x.2 Cw PK.u)) underlying90 rfl HS.u ?_;refine xx rfl 90 _ rfl ⟨C,0,none⟩ [fa,fb] _ rfl (fun w' Tt=>by obtain⟨x,rfl⟩:=Tt;exact jgR (xe x.2 PU BXr.u)) underlying90 rfl HS.u ?_;refine jR ?_;intro Kc hK;simp only [Region.wanted,jY];go_wp2_with (go_at_call 170;refine QT.u.mono ?_;rintro e w3 ⟨a',b',rfl,f3,ws⟩);have F3:=jA f3;have B3:=jA (yq ws);refine hK _ _ ⟨⟨w3,B3.u⟩,rfl⟩ ?_;clear hK Kc f3 ws QT;have TF:=jA (HA.u.below B3.u);have ST3:=jA (ST.u.below B3.u);have PK3:=jA (xe B3.u Cw PK.u);have TH:w3.there (K.pb k) 1 2:=fun j hj=>by
  refine⟨?_,jc w3 _ _ _ _ PK3.u⟩;rw [jM w3 (K.pb k) (1+j) _ _ _ PK3.u];rcases(show j=0∨j=1 by omega)with rfl|rfl<;>rfl
 repeat (any_goals (first|go_big_quiet_step (fail)|quiet_step (fail)))
 refine jR ?_;go_upto_region 7 with(refine qm rfl 90 _ _ rfl (K.pb k) 1 #[a',b'] rfl rfl TH HS.u (zd _ _ F3.u.noLimb.2.2.1 F3.u.noLimb.2.2.2) ?_);have sw:=jd w3 (K.pb k) 1 _ _ a' PK3.u;have Ru:=jd (w3.setCell ⟨K.pb k,1,none⟩ a') (K.pb k) 2 _ _ b' sw;have Iz:yG (K.pb k) w3 (w3.setCells (K.pb k) 1 [a',b']):=zf (K.pb k) [a',b'] 1 w3;have hHA:=TF.u.paper Wu (S.V k).nx ((S.V k).wt.mul f) a' b' Iz (by rw [aS.u.2];exact Ru) (by have:=(TF.u.rkl k Wu).2.2;rw [aS.u.2]at this ⊢;exact this) F3.u;rw [aS.u.2]at hHA;obtain⟨G4,hG4⟩: ∃G4:HG,G4=⟨Gt.pv,Gt.nv,Gt.ev,Gt.PL,upd Gt.wn k a',upd Gt.wd k b',Gt.kn,Gt.kd⟩:=⟨_,rfl⟩;have pE:=jA (show G4.PL=Gt.PL by rw [hG4]);have hM4: ∀b,zI K G4 b→zI K Gt b:=fun b h=>by rw [hG4]at h;exact h
 rw [←hG4]at hHA;have hHA':yB K q (zF (goV S f (L.take t)) k ((S.V k).by f)) G4 (w3.setCells (K.pb k) 1 [a',b']):=hHA;have hSt4:yj K Gt w3 G4 (w3.setCells (K.pb k) 1 [a',b']):=Ky (q:=q) (S:=S) Iz (.inr (.inr (.inr (.inr (.inr (.inl ⟨k,Wu,rfl⟩)))))) hM4;show Code.wp _ _ _ _ (w3.setCells (K.pb k) 1 [a',b']);refine xr (fun w4=>yB K q (zF (goV S f (L.take t)) k ((S.V k).by f)) G4 w4∧yj K G1 w2 G4 w4) ⟨hHA',ST3.u.trans hSt4⟩ (fun w4 Gu=>?_);have H4:=jA Gu.1;have ST4:=jA Gu.2;have QL:=jA (jje K q (zF (goV S f (L.take t)) k ((S.V k).by f)) G4 w4 k H4.u HK.u Wu (fun o ho=>FU.u.not k (by rw [nN.u];simp) o (pE.u▸ho)) (by rw [Jc];exact eS.u k Wu));clear Gu hHA hHA' hSt4 hM4 hG4 sw Ru Iz TH PK PK3 HA TF ST3 BXr Ff FW F3 B3 RWr Cw PU;go_wp2_with (go_at_call 120;refine QL.u.mono ?_;rintro e w5 ⟨rfl,G5,h5,s5,p5, -⟩);rw [Jc]at h5 p5;have h5':yB K q (goV S f (L.take (t+1))) G5 w5:=by
  rw [←aS.u.1];exact h5
 rw [pE.u]at p5;have p5':G5.PL=upd Gt.PL (((S.V k).by f).go S.cont).wi (Gt.PL (((S.V k).by f).go S.cont).wi++ [k]):=p5;have pM:jnr K (goV S f (L.take (t+1))) G5 (L.drop (t+1)):=by
  rw [←aS.u.1,Kv];refine⟨fun j hj hn=>?_,fun j hj o ho=>?_⟩
  ·rw [p5'];by_cases e:j=k;·subst e;rw [Jc,xp];simp
   ·have h1:(zF (goV S f (L.take t)) k (((S.V k).by f).go S.cont)).V j=(goV S f (L.take t)).V j:=xw _ _ _ _ e;rw [h1];have h2:=FU.u.all j hj (by rw [nN.u];simp [e,hn]);by_cases e2:((goV S f (L.take t)).V j).wi=(((S.V k).by f).go S.cont).wi;·rw [e2,xp];rw [e2]at h2;simp [h2]
    ·rw [xw _ _ _ _ e2];exact h2
  ·rw [p5']at ho;have e:j≠k:=fun e=>HND2.u (e▸hj);have h2:=FU.u.not j (by rw [nN.u];simp [hj]);by_cases e2:o=(((S.V k).by f).go S.cont).wi
   ·rw [e2,xp]at ho;rcases jj.1 ho with h3|h3;·exact h2 _ h3
    ·exact e (jm.1 h3)
   ·rw [xw _ _ _ _ e2]at ho;exact h2 o ho
 go_roundw;case rel=>exact⟨t+1,G5,by go_num,by omega,h5',ST4.u.trans s5,pM⟩
 case measure=>simp [intOf];omega
end Go.Proofs.YtnohcdpnnhmpfaaGreatDoor.TR
