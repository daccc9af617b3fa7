/-
  Chapter 13, Transfer: (*hall).round. Printed by tools/genround.py.
-/
import Derived.Test.YtnohcdpnnhmpfaaGreatDoorQ25
set_option linter.unusedVariables false
set_option linter.unusedSimpArgs false
set_option maxRecDepth 100000
set_option maxHeartbeats 16000000
namespace Go.Proofs.YtnohcdpnnhmpfaaGreatDoor.TR
open Go.RowKit Tryz ML FRP AU CT FM
def jfD(K:HK)(s:Nat)(q:Fr)(S:St)(G:HG)(w:World)(e:Ending)(w':World):Prop:=
 (End K.m s q K.On S∧e=.returned (.tuple #[.int .i64 0,.slice none 0 0,.bool false])∧xZ K q S G w'∧yQ K G w G w')∨
 ∃(d:Nat) (who:List Nat) (ob:Option Addr) (cb:Nat) (G':HG),Dec K.m s q K.On S d who∧e=.returned (.tuple #[.int .i64 (d:Int),.slice ob who.length cb,.bool true])∧w'.ownsRow w.heap.size 3 1 (.slice ob who.length cb) who.length (xU (xq who))∧(∀x,(Value.slice ob who.length cb).ownBlock=some x→ ¬yq K G' x)∧xZ K q (S.next K.m q d who) G' w'∧yQ K G w G' w'∧Yz K (S.next K.m q d who) G'
theorem YW {K:HK}{q:Fr}{S:St}{G:HG}{w:World}(h:xZ K q S G w): ∀j u,([.string ⟨K.c.nm.toArray⟩,.slice K.oa K.c.op.length K.cap,.int .i64 K.c.rl,.int .i64 K.c.se,.int .i64 K.c.mo,.slice K.oO K.O.length K.cO,.slice K.oP K.P.length K.cP]:List Value)[j]?=some u→w.cell? ((⟨K.hb,0,none⟩:Addr).add j)=some u:=
 jaO h.hall _ (fun j u hj=>by match j with|0=>exact hj|1=>exact hj|2=>exact hj|3=>exact hj|4=>exact hj|5=>exact hj|6=>exact hj|_+7=>cases hj)
theorem VY:(prog.info? 62).map (·.size)=some 7:=by kernel_rfl
theorem jcP {K:HK}{q:Fr}{S:St}{G:HG}{w w':World}(h:xZ K q S G w){e:TypeId}{n:Nat}{v:Value}{xs:List Value}{base:Nat}(hb:w.heap.size≤base)(hr:w'.ownsRow base e 1 v n xs): ∀x,v.ownBlock=some x→ ¬yq K G x:=fun x hx hm=>by
 have h1:=(hr.lt x hx).1;have h2:=Qn h hm;omega
theorem yQ.not_mine {K:HK}{G G':HG}{w w':World}(h:yQ K G w G' w'){x:Nat}(hx:x<w.heap.size)(hn: ¬yq K G x): ¬yq K G' x:=fun hm=>by
 rcases h.mine x hm with h1|h1;·exact hn h1
 ·omega
theorem jld {n s m:Nat}{q:Fr}{O:List Nat}{S:St}(h:Inv n s m q O S){i:Nat}{L:List Nat}(hL: ∀k,k∈L↔k<m∧(S.V k).wi=some i):goV ⟨S.V,S.cont,upd S.moved i true,upd S.kept i q,S.el⟩ (S.surplus m q i) L=S.move m q i:=by
 have hw: ∀k,k∈L↔(S.V k).wi=some i:=fun k=>by
  rw [hL];refine⟨fun h1=>h1.2,fun h1=>⟨?_,h1⟩⟩;rcases jt k m with h2|h2;·exact h2
  ·rw [h.vout k h2]at h1;cases h1
 unfold goV St.move;congr 1
 ·funext k;unfold St.goOn;by_cases h1:(S.V k).wi=some i;·rw [jR ((hw k).2 h1),jR h1]
  ·rw [jT (fun h2=>h1 ((hw k).1 h2)),jT h1]
 ·funext j;unfold upd;by_cases e:j=i<;>simp [e]
theorem jlr {n s m:Nat}{q:Fr}{O:List Nat}{S:St}(h:Inv n s m q O S){i:Nat}{L:List Nat}(hL: ∀k,k∈L↔k<m∧(S.V k).wi=some i):goV ⟨S.V,upd S.cont i false,S.moved,S.kept,S.el⟩ one L=S.excl i:=by
 have hw: ∀k,k∈L↔(S.V k).wi=some i:=fun k=>by
  rw [hL];refine⟨fun h1=>h1.2,fun h1=>⟨?_,h1⟩⟩;rcases jt k m with h2|h2;·exact h2
  ·rw [h.vout k h2]at h1;cases h1
 have hc:upd S.cont i false=out S.cont i:=by
  funext j;unfold upd out;by_cases e:j=i<;>simp [e]
 unfold goV St.excl;rw [hc];congr 1;funext k;unfold St.goOn;by_cases h1:(S.V k).wi=some i;·rw [jR ((hw k).2 h1),jR h1]
 ·rw [jT (fun h2=>h1 ((hw k).1 h2)),jT h1]
theorem jbq {K:HK}{q:Fr}{S:St}{G:HG}{w:World}(h:xZ K q S G w)(hF:Yz K S G)(i:Nat): ∀k,k∈G.PL (some i)↔k<K.m∧(S.V k).wi=some i:=fun k=>⟨fun h1=>(h.pls _).2 k h1,fun h1=>by have:=hF k h1.1;rwa [h1.2]at this⟩
theorem jeX {w:World}{i base:Nat}(hb:base≤w.heap.size):(w.alloc (.cells #[.int .i64 (i:Int)] 3)).ownsRow base 3 1 (.slice (some ⟨w.heap.size,0,none⟩) 1 1) 1 (xU (xq [i])):=⟨rfl,.inr ⟨_,1,_,rfl,hb,xN rfl,jO _,by unfold maxLen;omega,rfl,rfl⟩⟩
theorem yQ.tots {K:HK}{q:Fr}{S:St}{G G':HG}{w w':World}(t:yQ K G w G' w')(hH:xZ K q S G w){base n g cap:Nat}{T:Nat→Fr}{xa xb:Nat→Value}(h:Je w base n T (.slice (some ⟨g,0,none⟩) n cap) xa xb)(hg: ¬yq K G g):Je w' base n T (.slice (some ⟨g,0,none⟩) n cap) xa xb:=⟨t.row h.row (fun x hx=>by
 have e:g=x:=by simpa [Value.ownBlock] using hx
 exact e▸hg),fun i hi=>t.fr hH (h.frs i hi)⟩
theorem jhW(K:HK)(s:Nat)(q:Fr)(S:St)(G:HG)(w:World)(hH:xZ K q S G w)(hK:Vw K)(hI:Inv K.c.op.length s K.m q K.On S)(hF:Yz K S G)(hse:K.c.se=s)(base g cap:Nat)(xa xb:Nat→Value)
 (hT:Je w base K.c.op.length (S.tot K.m) (.slice (some ⟨g,0,none⟩) K.c.op.length cap) xa xb) (hg: ¬yq K G g):
 Calls prog 75 #[.pointer (some ⟨K.hb,0,none⟩),(.slice (some ⟨g,0,none⟩) K.c.op.length cap)] w (jfD K s q S G w):=by
 have q1:zs 124:=Kf Tryz.func124 rfl rfl;have q2:zs 127:=Kf Tryz.func127 rfl rfl;have q3:zs 130:=Kf Tryz.func130 rfl rfl;have E1:=jA q1;have E2:=jA q2;have E3:=jA q3;have HK:=jA hK;have HI:=jA hI;have HF:=jA hF;have HSE:=jA hse;have HT:=jA hT;have HG:=jA hg;have HH:=jA hH;have hn12:=hK.n12;have hm4:=hK.m4;have HST:=jA (fun i (hi:i<K.c.op.length)=>hI.t_sml hn12 hm4 hi);have HSQ:=jA (hI.q_sml hn12 hm4);have hgl:g<w.heap.size:=by
  rcases hT.row.own.2 with⟨hv,_⟩|⟨g2,_,_,hv,_,hg2,_⟩;·cases hv
  ·injection hv with h1;injection h1 with h1;injection h1 with h1;subst h1;exact lt_of_heap hg2
 have HPO:=jA (fun(p:Int→Bool) (f:Nat→Bool) (h: ∀i,i<K.c.op.length→p (i:Int)=f i)=>show K.O.filter p=xq (K.On.filter f)by rw [hK.onats];exact jan _ _ _ (fun i hi=>h i ((hK.omem i).1 hi)));have HXO:=jA (fun(x:Int) (hx:x∈K.O)=>show ∃i:Nat,x=i∧i<K.c.op.length from⟨x.toNat,by have:=(hK.mem x).1 hx;omega,by have:=(hK.mem x).1 hx;omega⟩);have hel:S.el.length≤12:=by
  have h1: ∀x∈S.el,x∈List.range K.c.op.length:=fun x hx=>jf.2 (hI.elc x hx).1;have h2:=qQ hI.nd h1;rw [kZ]at h2;omega
 clear q1 q2 q3 hK hI hF hse hT hg hH;go_enter Tryz.func75,Tryz.ntmps75;go_upto_region 1 with(fail);have hbA:Below w.heap.size w ((w.alloc (.cells #[.pointer (some ⟨K.hb,0,none⟩)] 109)).alloc (.cells #[(.slice (some ⟨g,0,none⟩) K.c.op.length cap)] 114)):=((jN _ _).alloc (jO _) _).alloc (by simp) _;have hc2:((w.alloc (.cells #[.pointer (some ⟨K.hb,0,none⟩)] 109)).alloc (.cells #[(.slice (some ⟨g,0,none⟩) K.c.op.length cap)] 114)).heap[w.heap.size]?=some (.cells #[.pointer (some ⟨K.hb,0,none⟩)] 109 (0,0)):=xx (xN rfl);have hc3:((w.alloc (.cells #[.pointer (some ⟨K.hb,0,none⟩)] 109)).alloc (.cells #[(.slice (some ⟨g,0,none⟩) K.c.op.length cap)] 114)).heap[w.heap.size+1]?=some (.cells #[(.slice (some ⟨g,0,none⟩) K.c.op.length cap)] 114 (0,0)):=xN (by simp);generalize hB:w.heap.size=B at*;refine xP (fun w1=>Below B w w1∧w1.heap[B]?=some (.cells #[.pointer (some ⟨K.hb,0,none⟩)] 109 (0,0))∧w1.heap[B+1]?=some (.cells #[(.slice (some ⟨g,0,none⟩) K.c.op.length cap)] 114 (0,0))) ⟨hbA,hc2,hc3⟩ (fun w1 hw1=>?_);have HB:=jA hB;have HNB:=jA (show ¬yq K G B from fun hm=>by have:=Qn HH.u hm;omega);have HNB1:=jA (show ¬yq K G (B+1)from fun hm=>by have:=Qn HH.u hm;omega);have hbw:Below w.heap.size w w1:=by rw [hB];exact hw1.1
 have B1:=jA hbw;have H1:=jA (HH.u.below hbw);have X2:=jA hw1.2.1;have X3:=jA hw1.2.2;have T1:=jA (HT.u.below hbw);have hBl:B<w1.heap.size:=lt_of_heap hw1.2.1;have hBl3:B+1<w1.heap.size:=lt_of_heap hw1.2.2;have x2:w1.cell? ⟨B,0,none⟩=some (.pointer (some ⟨K.hb,0,none⟩)):=jM w1 B 0 _ _ _ X2.u;clear hbA hc2 hc3 hB hw1 hbw
 have QW:=jA (jbS K q S G w1 H1.u HK.u 124 E1.u (.pointer (some ⟨B,0,none⟩)) (fun x=>S.cont x.toNat) (fun w2 hb x hx=>by
  obtain⟨i,rfl,hi⟩:=HXO.u x hx;exact jfV K q S G w2 (H1.u.below hb) B ((hb.cell (p:=⟨B,0,none⟩) hBl).trans (jM w1 B 0 _ _ _ X2.u)) i hi))
 have hPS:K.O.filter (fun x=>S.cont x.toNat)=xq (S.still K.On):=HPO.u (fun x=>S.cont x.toNat) S.cont (fun i _=>by simp);rw [hPS]at QW;go_upto_region 2 with(go_at_call 123;refine QW.u.mono ?_;rintro e w2 ⟨os,cs,rfl,own2,bel2⟩);have SO2:=jA (show w2.ownsRow w1.heap.size 3 1 (.slice os (xq (S.still K.On)).length cs) (xq (S.still K.On)).length (xU (xq (S.still K.On)))from own2);have B2:=jA bel2;have H2:=jA (H1.u.below bel2);have T2:=jA (T1.u.below bel2);have X22:=jA (xK bel2 hBl X2.u);have X32:=jA (xK bel2 hBl3 X3.u);have hs12:=bel2.size;have STLT:=jA (show ∀i∈S.still K.On,i<K.c.op.length from fun i hi=>(HI.u.mem_still.1 hi).1);have STND:=jA (show(S.still K.On).Nodup from HI.u.still_nd)
 have STL:=jA (show(xq (S.still K.On)).length≤12 by
  rw [yh];have:=Xi (l:=K.On) S.cont;have h2:=HK.u.olen;show(K.On.filter S.cont).length≤12;omega)
 have I2:=jA (Ka SO2.u);have hstl:=STL.u;have STD:=jA (show St.still K.On S=K.On.filter S.cont from rfl)
 have OVD:=jA (show(xq (S.still K.On)).filter (fun x=> !decide (Qe (S.tot K.m x.toNat) q≤0))=xq (S.over K.m q K.On)from jan _ _ _ (fun i hi=>by
  have hi':=STLT.u i hi;simp only [Int.toNat_natCast];exact jlt (HST.u i hi').ok.1 HSQ.u.ok.1))
 clear own2 bel2 QW x2 H1 T1 X2 X3 HT HH hPS;have hBl2:B<w2.heap.size:=jV hBl hs12;have hBl32:B+1<w2.heap.size:=jV hBl3 hs12
 have QD:=jA (fun(ob:Option Addr) (cb:Nat) (w3:World) (o3:w3.ownsRow w2.heap.size 3 1 (.slice ob (xq (S.still K.On)).length cb) (xq (S.still K.On)).length (xU (xq (S.still K.On)))) (b3:Below w2.heap.size w2 w3)=>jfq 127 E2.u (.pointer (some ⟨B+1,0,none⟩)) (.pointer (some ⟨B,0,none⟩)) (fun x=>decide (Qe (S.tot K.m x.toNat) q≤0)) ob (xq (S.still K.On)) cb w2.heap.size w3 o3 hstl (fun w4 hg x hx=>by
  have hbw:Below w2.heap.size w3 w4:=(jN _ w3).grown hg b3.size (fun x hx=>(o3.lt x hx).1);have hb4:Below w2.heap.size w2 w4:=b3.trans hbw;unfold xq at hx;obtain⟨i,hi,rfl⟩:=jl.1 hx;have hi':=STLT.u i hi;exact jfU K q S G w4 (H2.u.below hb4) (B+1) B (S.tot K.m) base g cap xa xb (T2.u.below hb4) ((hb4.cell (p:=⟨B,0,none⟩) hBl2).trans (jM w2 B 0 _ _ _ X22.u)) ((hb4.cell (p:=⟨B+1,0,none⟩) hBl32).trans (jM w2 (B+1) 0 _ _ _ X32.u)) (jV hBl2 hb4.size) (jV hBl32 hb4.size) i hi' (HST.u i hi') HSQ.u))
 rw [OVD.u]at QD;go_upto_region 3 with(first
  |(go_at_call 126;refine(Vr os (xq (S.still K.On)) cs w2 I2.u (by omega)).mono ?_;rintro e w3 ⟨ob,cb,rfl,own3,bel3⟩;have O3:=jA own3;have B3:=jA bel3;clear own3 bel3)
  |(go_at_call 125;refine(QD.u ob cb w3 O3.u B3.u).mono ?_;rintro e w5 ⟨oo,co,rfl,own5,hg5⟩;have OV5:=jA own5;have HG5:=jA hg5;clear own5 hg5))
 have hb5:Below w2.heap.size w2 w5:=B3.u.trans ((jN _ w3).grown HG5.u B3.u.size (fun x hx=>(O3.u.lt x hx).1));have H5:=jA (H2.u.below hb5);have T5:=jA (T2.u.below hb5);have X25:=jA (xK hb5 hBl2 X22.u);have X35:=jA (xK hb5 hBl32 X32.u);have SO5:=jA (SO2.u.kept (row:=none) (yY hb5 none) (by cases Value.ownBlock _<;>simp));have B5:=jA (B1.u.trans ((B2.u.trans (hb5.mono hs12)).mono B1.u.size));have hs5:=hb5.size;have hBl5:B<w5.heap.size:=jV hBl2 hs5;have hBl35:B+1<w5.heap.size:=jV hBl32 hs5;have hBw1:=B1.u.size;rw [HB.u]at hBw1;clear HG5 hb5 O3 B3 H2 T2 X22 X32 SO2 I2 B1 B2 OVD QD hBl hBl3 hBl2 hBl32;obtain⟨ov,hov⟩: ∃ov,ov=S.over K.m q K.On:=⟨_,rfl⟩;obtain⟨sl,hsl⟩: ∃sl,sl=S.still K.On:=⟨_,rfl⟩;rw [←hov]at OV5 ⊢;rw [←hsl]at SO5 STLT STND STL hstl ⊢;have HOV:=jA hov;have HSL:=jA hsl;clear hov hsl;rcases qz ov.length with hz|hpos;case inr=>
  have dk:decide ((0:Int)<((xq ov).length:Int))=true:=jQ (by rw [yh];omega);have dk2:decide (0<(xq ov).length)=true:=jQ (by rw [yh];omega);have OVLT:=jA (show ∀i∈ov,i<K.c.op.length from fun i hi=>by rw [HOV.u]at hi;exact(HI.u.mem_over.1 hi).1);have OVND:=jA (show ov.Nodup by rw [HOV.u];exact HI.u.over_nd);have hovl:(xq ov).length≤12:=by
   have h1: ∀x∈ov,x∈List.range K.c.op.length:=fun x hx=>jf.2 (OVLT.u x hx);have h2:=qQ OVND.u h1;rw [kZ]at h2;rw [yh];omega
  have hovp:0<(xq ov).length:=by rw [yh];exact hpos
  clear hpos;go_upto_region 4 with(fail);clear dk dk2;have d2: ∀x:xS w5.heap.size w5,x.w.cell? ⟨B,0,none⟩=some (.pointer (some ⟨K.hb,0,none⟩)):=fun x=>jM _ B 0 _ _ _ (xK x.2 hBl5 X25.u);have d3: ∀x:xS w5.heap.size w5,x.w.cell? ⟨B+1,0,none⟩=some (.slice (some ⟨g,0,none⟩) K.c.op.length cap):=fun x=>jM _ (B+1) 0 _ _ _ (xK x.2 hBl35 X35.u);have hbl:=lt_of_heap H5.u.hall;have DM:=jA (fun(x:xS w5.heap.size w5) (j:Nat) (u:Value) (hj:([.string ⟨K.c.nm.toArray⟩,.slice K.oa K.c.op.length K.cap,.int .i64 K.c.rl,.int .i64 K.c.se,.int .i64 K.c.mo,.slice K.oO K.O.length K.cO,.slice K.oP K.P.length K.cP]:List Value)[j]?=some u)=>(x.2.cell (p:=(⟨K.hb,0,none⟩:Addr).add j) (by rw [xy];exact hbl)).trans (YW H5.u j u hj))
  have QS:=jA (VX K.c.op.length (S.tot K.m) base g cap xa xb K.P (xq ov) ⟨K.c.nm.toArray⟩ K.oa K.c.op.length K.cap K.c.rl K.c.se K.c.mo K.oO K.O.length K.cO K.oP K.cP oo co w5.drew (T5.u.below (jN _ _).drew) HST.u ((HK.u.plc.below H5.u.bel).drew) ((Ka OV5.u).drew) (fun x hx=>by
   unfold xq at hx;obtain⟨i,hi,rfl⟩:=jl.1 hx;have:=OVLT.u i hi;omega) HK.u.plen.symm HK.u.pbd hovl hovp (by omega) (ZO HK.u OVLT.u OVND.u))
  refine Seg.xL (fun w'=> ∃x:xS w5.heap.size w5,w'=x.w) [] [0,1,2,3,4,5] 6 (by kernel_rfl) (by kernel_rfl) (fun _ _ d _ _ h=>by cases d<;>exact h) (⟨⟨_,(jN _ _).drew⟩,rfl⟩) ?_;simp only [jK,Seg.opAt,Seg.xW];first|go_big_quiet_step (fail)|quiet_step (fail)
  first|go_big_quiet_step (fail)|quiet_step (fail)
  first|go_big_quiet_step (fail)|quiet_step (fail)
  refine xV rfl 62 _ rfl ⟨K.hb,0,none⟩ [.string ⟨K.c.nm.toArray⟩,.slice K.oa K.c.op.length K.cap,.int .i64 K.c.rl,.int .i64 K.c.se,.int .i64 K.c.mo,.slice K.oO K.O.length K.cO,.slice K.oP K.P.length K.cP] _ rfl (fun w' hw'=>by obtain⟨x,rfl⟩:=hw';exact DM.u x) underlying62 rfl VY ?_;first|go_big_quiet_step (fail)|quiet_step (fail)
  first|go_big_quiet_step (fail)|quiet_step (fail)
  refine jP ?_;go_upto_region 5 with(go_at_call 128;refine QS.u.mono ?_;rintro e w6 ⟨R,ob6,cb6,rfl,own6,perm6,srt6,bel6⟩);have b6:=jA (yV bel6);obtain⟨r,rfl,hrk,hrl⟩:=jha HK.u OVLT.u perm6 srt6;have RK:=jA hrk;have hlen:(xq ov).length=r.length:=by rw [yh,hrl]
  have ROW:=jA (hlen▸own6);rw [hlen];have H6:=jA (H5.u.below b6.u);have hrm: ∀i,i∈r↔i∈ov:=fun i=>RK.u.perm.mem_iff;have HX6:=jA (jcP (H5.u) (jO _) ROW.u);have hX6:=fun x hx=>(show ¬yq K G x from HX6.u x hx);have QE:=jA (jcT K q S G w6 r w5.drew.heap.size ob6 cb6 H6.u hn12 (fun i hi=>OVLT.u i ((hrm i).1 hi)) (by have:=yh ov;omega) ROW.u hX6);have x26:w6.cell? ⟨B,0,none⟩=some (.pointer (some ⟨K.hb,0,none⟩)):=jM w6 B 0 _ _ _ (xK b6.u hBl5 X25.u);have HRL:=jA hrl;clear own6 perm6 srt6 bel6 hrk QS DM d2 d3 hrm hX6 hrl;go_wp2_with (go_at_call 129;refine QE.u.mono ?_;rintro e w7 ⟨rfl,G7,h7,s7,p7⟩)
  go_ret3
  have hstep:yQ K G w G7 w7:=((zf B5.u).below b6.u).trans s7;have hlt6: ∀x,(Value.slice ob6 r.length cb6).ownBlock=some x→x<w6.heap.size:=fun x hx=>(ROW.u.lt x hx).2;refine .inr ⟨1,r,ob6,cb6,G7,.elect r ?_ ?_,rfl,zq (s7.own ROW.u HX6.u) (by rw [HB.u];exact jU hBw1 (jU hs12 hs5)),fun x hx=>s7.not_mine (hlt6 x hx) (HX6.u x hx),h7,hstep,fun k hk=>?_⟩;·rw [←HOV.u];intro e0;rw [e0]at hovp;exact absurd hovp (by decide)
  ·rw [←HOV.u];exact RK.u
  ·rw [p7];exact HF.u k hk
 have dk:decide ((0:Int)<((xq ov).length:Int))=false:=jS (by rw [yh];omega);have dk2:decide (0<(xq ov).length)=false:=jS (by rw [yh];omega);have OVN:=jA (show S.over K.m q K.On= []by rw [←HOV.u];exact kY.1 hz);clear hz HOV;go_upto_region 7 with(fail);clear dk dk2 OV5;obtain⟨oe,ce,hev, -,hie⟩:=zz H5.u.els.own;rw [jz]at hev;have hbl7:=lt_of_heap H5.u.hall;have HEV:=jA hev;clear hev hie;have d2: ∀x:xS w5.heap.size w5,x.w.cell? ⟨B,0,none⟩=some (.pointer (some ⟨K.hb,0,none⟩)):=fun x=>jM _ B 0 _ _ _ (xK x.2 hBl5 X25.u);have d14: ∀x:xS w5.heap.size w5,x.w.cell? ⟨K.hb,14,none⟩=some (.slice oe S.el.length ce):=fun x=>by rw [←HEV.u];exact jM _ K.hb 14 _ _ _ (xK x.2 hbl7 H5.u.hall)
 have d3s: ∀x:xS w5.heap.size w5,x.w.cell? ⟨K.hb,3,none⟩=some (.int .i64 (s:Int)):=fun x=>by rw [←HSE.u];exact jM _ K.hb 3 _ _ _ (xK x.2 hbl7 H5.u.hall)
 refine Seg.xL (fun w'=> ∃x:xS w5.heap.size w5,w'=x.w) [] [0,1,2,3,4,5,6,7,8,9,10] 11 (by kernel_rfl) (by kernel_rfl) (fun _ _ d _ _ h=>by cases d<;>exact h) (⟨⟨_,(jN _ _).drew⟩,rfl⟩) ?_;simp only [jK,Seg.opAt,Seg.xW];repeat (any_goals (first|go_big_quiet_step (fail)|quiet_step (fail)))
 refine jP ?_;by_cases hels:S.el.length=s;case pos=>
  have db:((S.el.length:Int)==(s:Int))=true:=by rw [beq_iff_eq];omega
  have db2:decide ((S.el.length:Int)=(s:Int))=true:=jQ (by omega);have HE:=jA hels;clear hels;go_wp2_with fail
  go_ret3
  exact .inl ⟨⟨OVN.u,HE.u⟩,rfl,H5.u.below (jN _ _).drew,(zf B5.u).below (jN _ _).drew⟩
 have db:((S.el.length:Int)==(s:Int))=false:=by rw [kE];omega
 have db2:decide ((S.el.length:Int)=(s:Int))=false:=jS (by omega);have HNE:=jA hels;clear hels;go_upto_region 9 with(fail);clear db db2 d2 d14 d3s;refine xP (fun w6=>Below w5.heap.size w5 w6) (jN _ _).drew (fun w6 hb6=>?_);have H6:=jA (H5.u.below hb6);have T6:=jA (T5.u.below hb6);have X26:=jA (xK hb6 hBl5 X25.u);have X36:=jA (xK hb6 hBl35 X35.u);have SO6:=jA (SO5.u.kept (row:=none) (yY hb6 none) (by cases Value.ownBlock _<;>simp));have B6:=jA (B5.u.trans ((hb6).mono B5.u.size));have hs6:=(hb6).size;have hBl6:B<w6.heap.size:=jV hBl5 hs6;have hBl36:B+1<w6.heap.size:=jV hBl35 hs6;clear hb6 H5 T5 X25 X35 SO5 B5 hBl5 hBl35 hbl7;have hbl7:=lt_of_heap H6.u.hall;have d2: ∀x:xS w6.heap.size w6,x.w.cell? ⟨B,0,none⟩=some (.pointer (some ⟨K.hb,0,none⟩)):=fun x=>jM _ B 0 _ _ _ (xK x.2 hBl6 X26.u);have d14: ∀x:xS w6.heap.size w6,x.w.cell? ⟨K.hb,14,none⟩=some (.slice oe S.el.length ce):=fun x=>by rw [←HEV.u];exact jM _ K.hb 14 _ _ _ (xK x.2 hbl7 H6.u.hall)
 have d3s: ∀x:xS w6.heap.size w6,x.w.cell? ⟨K.hb,3,none⟩=some (.int .i64 (s:Int)):=fun x=>by rw [←HSE.u];exact jM _ K.hb 3 _ _ _ (xK x.2 hbl7 H6.u.hall)
 refine Seg.xL (fun w'=> ∃x:xS w6.heap.size w6,w'=x.w) [] [0,1,2,3,4,5,6,7,8,9,10,11,12,13] 14 (by kernel_rfl) (by kernel_rfl) (fun _ _ d _ _ h=>by cases d<;>exact h) (⟨⟨_,(jN _ _).drew⟩,rfl⟩) ?_;simp only [jK,Seg.opAt,Seg.xW];repeat (any_goals (first|go_big_quiet_step (fail)|quiet_step (fail)))
 refine jP ?_;by_cases hfill:(xq sl).length+S.el.length≤s;case pos=>
  have db:decide (((xq sl).length:Int)+(S.el.length:Int)≤(s:Int))=true:=jQ (by omega);have db2:decide ((xq sl).length+S.el.length≤s)=true:=jQ hfill;have HFI:=jA hfill;clear hfill;go_upto_region 10 with(fail);clear db db2 d2 d14 d3s;refine xP (fun w8=>Below w6.heap.size w6 w8) (jN _ _).drew (fun w8 hb8=>?_);have H8:=jA (H6.u.below hb8);have T8:=jA (T6.u.below hb8);have X28:=jA (xK hb8 hBl6 X26.u);have X38:=jA (xK hb8 hBl36 X36.u);have SO8:=jA (SO6.u.kept (row:=none) (yY hb8 none) (by cases Value.ownBlock _<;>simp));have B8:=jA (B6.u.trans ((hb8).mono B6.u.size));have hs8:=(hb8).size;have hBl8:B<w8.heap.size:=jV hBl6 hs8;have hBl38:B+1<w8.heap.size:=jV hBl36 hs8;clear hb8 H6 T6 X26 X36 SO6 B6 hBl6 hBl36 hbl7;have hslp:0<(xq sl).length:=by
   have h1:=HI.u.many;have h2:=HI.u.few;rw [←HSL.u]at h1;have h3:=HNE.u;rw [yh];omega
  have d2: ∀x:xS w8.heap.size w8,x.w.cell? ⟨B,0,none⟩=some (.pointer (some ⟨K.hb,0,none⟩)):=fun x=>jM _ B 0 _ _ _ (xK x.2 hBl8 X28.u);have d3: ∀x:xS w8.heap.size w8,x.w.cell? ⟨B+1,0,none⟩=some (.slice (some ⟨g,0,none⟩) K.c.op.length cap):=fun x=>jM _ (B+1) 0 _ _ _ (xK x.2 hBl38 X38.u);have hbl:=lt_of_heap H8.u.hall;have DM:=jA (fun(x:xS w8.heap.size w8) (j:Nat) (u:Value) (hj:([.string ⟨K.c.nm.toArray⟩,.slice K.oa K.c.op.length K.cap,.int .i64 K.c.rl,.int .i64 K.c.se,.int .i64 K.c.mo,.slice K.oO K.O.length K.cO,.slice K.oP K.P.length K.cP]:List Value)[j]?=some u)=>(x.2.cell (p:=(⟨K.hb,0,none⟩:Addr).add j) (by rw [xy];exact hbl)).trans (YW H8.u j u hj))
  have QS:=jA (VX K.c.op.length (S.tot K.m) base g cap xa xb K.P (xq sl) ⟨K.c.nm.toArray⟩ K.oa K.c.op.length K.cap K.c.rl K.c.se K.c.mo K.oO K.O.length K.cO K.oP K.cP os cs w8.drew (T8.u.below (jN _ _).drew) HST.u ((HK.u.plc.below H8.u.bel).drew) ((Ka SO8.u).drew) (fun x hx=>by
   unfold xq at hx;obtain⟨i,hi,rfl⟩:=jl.1 hx;have:=STLT.u i hi;omega) HK.u.plen.symm HK.u.pbd hstl hslp (by omega) (ZO HK.u STLT.u STND.u))
  refine Seg.xL (fun w'=> ∃x:xS w8.heap.size w8,w'=x.w) [] [0,1,2,3,4,5] 6 (by kernel_rfl) (by kernel_rfl) (fun _ _ d _ _ h=>by cases d<;>exact h) (⟨⟨_,(jN _ _).drew⟩,rfl⟩) ?_;simp only [jK,Seg.opAt,Seg.xW];first|go_big_quiet_step (fail)|quiet_step (fail)
  first|go_big_quiet_step (fail)|quiet_step (fail)
  first|go_big_quiet_step (fail)|quiet_step (fail)
  refine xV rfl 62 _ rfl ⟨K.hb,0,none⟩ [.string ⟨K.c.nm.toArray⟩,.slice K.oa K.c.op.length K.cap,.int .i64 K.c.rl,.int .i64 K.c.se,.int .i64 K.c.mo,.slice K.oO K.O.length K.cO,.slice K.oP K.P.length K.cP] _ rfl (fun w' hw'=>by obtain⟨x,rfl⟩:=hw';exact DM.u x) underlying62 rfl VY ?_;first|go_big_quiet_step (fail)|quiet_step (fail)
  first|go_big_quiet_step (fail)|quiet_step (fail)
  refine jP ?_;go_upto_region 11 with(go_at_call 128;refine QS.u.mono ?_;rintro e w9 ⟨R,ob6,cb6,rfl,own6,perm6,srt6,bel6⟩);have b6:=jA (yV bel6);obtain⟨r,rfl,hrk,hrl⟩:=jha HK.u STLT.u perm6 srt6;have RK:=jA hrk;have hlen:(xq sl).length=r.length:=by rw [yh,hrl]
  have ROW:=jA (hlen▸own6);rw [hlen];have H9:=jA (H8.u.below b6.u);have hrm: ∀i,i∈r↔i∈sl:=fun i=>RK.u.perm.mem_iff;have HX6:=jA (jcP (H8.u) (jO _) ROW.u);have hX6:=fun x hx=>(show ¬yq K G x from HX6.u x hx);have QE:=jA (jcT K q S G w9 r w8.drew.heap.size ob6 cb6 H9.u hn12 (fun i hi=>STLT.u i ((hrm i).1 hi)) (by have:=yh sl;omega) ROW.u hX6);have x29:w9.cell? ⟨B,0,none⟩=some (.pointer (some ⟨K.hb,0,none⟩)):=jM w9 B 0 _ _ _ (xK b6.u hBl8 X28.u);have HRL:=jA hrl;clear own6 perm6 srt6 bel6 hrk QS DM d2 d3 hrm hX6 hrl;go_wp2_with (go_at_call 129;refine QE.u.mono ?_;rintro e w7 ⟨rfl,G7,h7,s7,p7⟩)
  go_ret3
  have hstep:yQ K G w G7 w7:=((zf B8.u).below b6.u).trans s7;have hlt6: ∀x,(Value.slice ob6 r.length cb6).ownBlock=some x→x<w9.heap.size:=fun x hx=>(ROW.u.lt x hx).2;refine .inr ⟨4,r,ob6,cb6,G7,.fill r OVN.u HNE.u ?_ ?_,rfl,zq (s7.own ROW.u HX6.u) (B8.u.size),fun x hx=>s7.not_mine (hlt6 x hx) (HX6.u x hx),h7,hstep,fun k hk=>?_⟩;·rw [←HSL.u,←yh];rw [hlen];have:=HFI.u;rw [hlen]at this;exact this
  ·rw [←HSL.u];exact RK.u
  ·rw [p7];exact HF.u k hk
 have db:decide (((xq sl).length:Int)+(S.el.length:Int)≤(s:Int))=false:=jS (by omega);have db2:decide ((xq sl).length+S.el.length≤s)=false:=jS hfill;have HNF:=jA (show s<(S.still K.On).length+S.el.length by rw [←HSL.u,←yh];omega);clear hfill;go_upto_region 13 with(fail);clear db db2 d2 d14 d3s;refine xP (fun w8=>Below w6.heap.size w6 w8) (jN _ _).drew (fun w8 hb8=>?_);have H8:=jA (H6.u.below hb8);have T8:=jA (T6.u.below hb8);have X28:=jA (xK hb8 hBl6 X26.u);have X38:=jA (xK hb8 hBl36 X36.u);have SO8:=jA (SO6.u.kept (row:=none) (yY hb8 none) (by cases Value.ownBlock _<;>simp));have B8:=jA (B6.u.trans ((hb8).mono B6.u.size));have hs8:=(hb8).size;have hBl8:B<w8.heap.size:=jV hBl6 hs8;have hBl38:B+1<w8.heap.size:=jV hBl36 hs8;clear hb8 H6 T6 X26 X36 SO6 B6 hBl6 hBl36 hbl7;have x28:w8.cell? ⟨B,0,none⟩=some (.pointer (some ⟨K.hb,0,none⟩)):=jM w8 B 0 _ _ _ X28.u
 have QW:=jA (jbS K q S G w8 H8.u HK.u 130 E3.u (.pointer (some ⟨B,0,none⟩)) (fun x=>decide (x.toNat∈S.el)&& !S.moved x.toNat) (fun w9 hb x hx=>by
  obtain⟨i,rfl,hi⟩:=HXO.u x hx;exact jfT K q S G w9 (H8.u.below hb) B ((hb.cell (p:=⟨B,0,none⟩) hBl8).trans (jM w8 B 0 _ _ _ X28.u)) i hi hel))
 have hPS:K.O.filter (fun x=>decide (x.toNat∈S.el)&& !S.moved x.toNat)=xq (S.wait K.On):=HPO.u (fun x=>decide (x.toNat∈S.el)&& !S.moved x.toNat) (fun i=>decide (i∈S.el)&& !S.moved i) (fun i _=>by simp);rw [hPS]at QW;obtain⟨wa,hwa⟩: ∃wa,wa=S.wait K.On:=⟨_,rfl⟩;rw [←hwa]at QW;have HWA:=jA hwa;clear hPS hwa;go_upto_region 14 with(go_at_call 123;refine QW.u.mono ?_;rintro e w9 ⟨ow,cw,rfl,own9,bel9⟩);have WA9:=jA own9;have H9:=jA (H8.u.below bel9);have T9:=jA (T8.u.below bel9);have X29:=jA (xK bel9 hBl8 X28.u);have X39:=jA (xK bel9 hBl38 X38.u);have SO9:=jA (SO8.u.kept (row:=none) (yY bel9 none) (by cases Value.ownBlock _<;>simp));have B9:=jA (B8.u.trans ((bel9).mono B8.u.size));have hs9:=(bel9).size;have hBl9:B<w9.heap.size:=jV hBl8 hs9;have hBl39:B+1<w9.heap.size:=jV hBl38 hs9;clear bel9 own9 QW x28 H8 T8 X28 X38 SO8 B8 hBl8 hBl38;rcases qz wa.length with hz|hpos;case inr=>
  have dk:decide ((0:Int)<((xq wa).length:Int))=true:=jQ (by rw [yh];omega);have dk2:decide (0<(xq wa).length)=true:=jQ (by rw [yh];omega);have WALT:=jA (show ∀i∈wa,i<K.c.op.length from fun i hi=>by rw [HWA.u]at hi;exact(HI.u.mem_wait.1 hi).1);have WAND:=jA (show wa.Nodup by rw [HWA.u];exact HI.u.wait_nd);have hwal:(xq wa).length≤12:=by
   have h1: ∀x∈wa,x∈List.range K.c.op.length:=fun x hx=>jf.2 (WALT.u x hx);have h2:=qQ WAND.u h1;rw [kZ]at h2;rw [yh];omega
  have hwap:0<(xq wa).length:=by rw [yh];exact hpos
  have hwai:(0:Int)<((xq wa).length:Int):=by omega
  clear hpos;go_upto_region 15 with(fail);clear dk dk2;have d2: ∀x:xS w9.heap.size w9,x.w.cell? ⟨B,0,none⟩=some (.pointer (some ⟨K.hb,0,none⟩)):=fun x=>jM _ B 0 _ _ _ (xK x.2 hBl9 X29.u);have d3: ∀x:xS w9.heap.size w9,x.w.cell? ⟨B+1,0,none⟩=some (.slice (some ⟨g,0,none⟩) K.c.op.length cap):=fun x=>jM _ (B+1) 0 _ _ _ (xK x.2 hBl39 X39.u);have hbl:=lt_of_heap H9.u.hall;have DM:=jA (fun(x:xS w9.heap.size w9) (j:Nat) (u:Value) (hj:([.string ⟨K.c.nm.toArray⟩,.slice K.oa K.c.op.length K.cap,.int .i64 K.c.rl,.int .i64 K.c.se,.int .i64 K.c.mo,.slice K.oO K.O.length K.cO,.slice K.oP K.P.length K.cP]:List Value)[j]?=some u)=>(x.2.cell (p:=(⟨K.hb,0,none⟩:Addr).add j) (by rw [xy];exact hbl)).trans (YW H9.u j u hj))
  have QS:=jA (VX K.c.op.length (S.tot K.m) base g cap xa xb K.P (xq wa) ⟨K.c.nm.toArray⟩ K.oa K.c.op.length K.cap K.c.rl K.c.se K.c.mo K.oO K.O.length K.cO K.oP K.cP ow cw w9.drew (T9.u.below (jN _ _).drew) HST.u ((HK.u.plc.below H9.u.bel).drew) ((Ka WA9.u).drew) (fun x hx=>by
   unfold xq at hx;obtain⟨i,hi,rfl⟩:=jl.1 hx;have:=WALT.u i hi;omega) HK.u.plen.symm HK.u.pbd hwal hwap (by omega) (ZO HK.u WALT.u WAND.u))
  refine Seg.xL (fun w'=> ∃x:xS w9.heap.size w9,w'=x.w) [] [0,1,2,3,4,5] 6 (by kernel_rfl) (by kernel_rfl) (fun _ _ d _ _ h=>by cases d<;>exact h) (⟨⟨_,(jN _ _).drew⟩,rfl⟩) ?_;simp only [jK,Seg.opAt,Seg.xW];first|go_big_quiet_step (fail)|quiet_step (fail)
  first|go_big_quiet_step (fail)|quiet_step (fail)
  first|go_big_quiet_step (fail)|quiet_step (fail)
  refine xV rfl 62 _ rfl ⟨K.hb,0,none⟩ [.string ⟨K.c.nm.toArray⟩,.slice K.oa K.c.op.length K.cap,.int .i64 K.c.rl,.int .i64 K.c.se,.int .i64 K.c.mo,.slice K.oO K.O.length K.cO,.slice K.oP K.P.length K.cP] _ rfl (fun w' hw'=>by obtain⟨x,rfl⟩:=hw';exact DM.u x) underlying62 rfl VY ?_;first|go_big_quiet_step (fail)|quiet_step (fail)
  first|go_big_quiet_step (fail)|quiet_step (fail)
  refine jP ?_
  go_upto_region 16 with(go_at_call 128;refine QS.u.mono ?_;rintro e w10 ⟨R,ob6,cb6,rfl,own6,perm6,srt6,bel6⟩;obtain⟨r,rfl,hrk,hrl⟩:=jha HK.u WALT.u perm6 srt6;obtain⟨i,r',rfl⟩: ∃i r',r=i::r':=(by
   cases r with
   |nil=>(have h0:=yh wa;simp at hrl;omega)
   |cons i r'=>exact⟨i,r',rfl⟩);obtain⟨g6,rfl,hc6⟩:=jbe (l:=i::r') own6 (j:=0) (by simp);have RK:=jA hrk;have b6:=jA (yV bel6);clear own6 perm6 srt6 bel6 hrk hrl)
  have him:=HI.u.mem_wait.1 (show i∈S.wait K.On by rw [←HWA.u];exact RK.u.perm.mem_iff.1 (by simp));have HIM:=jA him;have hin:i<K.c.op.length:=him.1
  have HQ:=jA (show q.v<(S.tot K.m i).v by
   rcases HI.u.high with h1|h1;·exact h1 i HIM.u.2.1 HIM.u.2.2
   ·exact absurd h1.1 HNE.u)
  clear him;have hc6':w10.cell? ⟨g6,0,none⟩=some (.int .i64 (i:Int)):=hc6;clear hc6 hc6' QS DM d2 d3;have H10:=jA (H9.u.below b6.u);have T10:=jA (T9.u.below b6.u);have X210:=jA (xK b6.u hBl9 X29.u);have X310:=jA (xK b6.u hBl39 X39.u);have SO10:=jA (SO9.u.kept (row:=none) (yY b6.u none) (by cases Value.ownBlock _<;>simp));have B10:=jA (B9.u.trans ((b6.u).mono B9.u.size));have hs10:=(b6.u).size;have hBl10:B<w10.heap.size:=jV hBl9 hs10;have hBl310:B+1<w10.heap.size:=jV hBl39 hs10;clear hBl9 hBl39 hbl;have H10':=H10.u;have dii:(i:Int)<(K.c.op.length:Int):=by omega
  obtain⟨M,hM⟩: ∃M,M=w10.heap.size:=⟨_,rfl⟩;have HM:=jA hM;have l1:K.hb<M:=by rw [hM];exact lt_of_heap H10'.hall
  have l2:K.mb<M:=by rw [hM];exact lt_of_heap H10'.moveds
  have l3:B<M:=by rw [hM];exact hBl10
  have n1:K.hb≠K.mb:=yy H10'.hall H10'.moveds (by decide);have n2:B≠K.mb:=yy X210.u H10'.moveds (by decide);have d2: ∀x:GrT K.mb M w10,x.w.cell? ⟨B,0,none⟩=some (.pointer (some ⟨K.hb,0,none⟩)):=fun x=>Kz x l3 n2 (jM _ B 0 _ _ _ X210.u);have d13: ∀x:GrT K.mb M w10,x.w.cell? ⟨K.hb,13,none⟩=some (.slice (some ⟨K.mb,0,none⟩) K.c.op.length K.c.op.length):=fun x=>Kz x l1 n1 (jM _ K.hb 13 _ _ _ H10.u.hall);have d11: ∀x:GrT K.mb M w10,x.w.cell? ⟨K.hb,11,none⟩=some (.slice (some ⟨K.kb,0,none⟩) K.c.op.length K.c.op.length):=fun x=>Kz x l1 n1 (jM _ K.hb 11 _ _ _ H10.u.hall);have DQ:=jA (fun(x:GrT K.mb M w10) (j:Nat) (u:Value) (hj:([K.qn,K.qd]:List Value)[j]?=some u)=>Kz x (p:=(⟨K.hb,7,none⟩:Addr).add j) (by rw [xy];exact l1) (by rw [xy];exact n1) (jdB H10.u j u hj));clear H10' hM;have HSZ:=jA zn;refine Seg.xL (fun w'=> ∃x:GrT K.mb M w10,w'=x.w) [([0,1,2,3,4,5,6,7,8,9,10,11,12,13,14],15)] [] 16 (by kernel_rfl) (by kernel_rfl) (fun _ _ d _ _ h=>by cases d<;>exact h) (YG HM.u (xR (xp.refl _ w10).drew)) ?_;simp only [jK,Seg.opAt,Seg.xW];first|go_big_quiet_step (fail)|quiet_step (fail)
  first|go_big_quiet_step (fail)|quiet_step (fail)
  first|go_big_quiet_step (fail)|quiet_step (fail)
  first|go_big_quiet_step (fail)|quiet_step (fail)
  first|go_big_quiet_step (fail)|quiet_step (fail)
  first|go_big_quiet_step (fail)|quiet_step (fail)
  first|go_big_quiet_step (fail)|quiet_step (fail)
  first|go_big_quiet_step (fail)|quiet_step (fail)
  first|go_big_quiet_step (fail)|quiet_step (fail)
  first|go_big_quiet_step (fail)|quiet_step (fail)
  first|go_big_quiet_step (fail)|quiet_step (fail)
  first|go_big_quiet_step (fail)|quiet_step (fail)
  first|go_big_quiet_step (fail)|quiet_step (fail)
  refine xV rfl 90 _ rfl ⟨K.hb,7,none⟩ [K.qn,K.qd] _ rfl (fun w' hw'=>by obtain⟨x,rfl⟩:=hw';exact DQ.u x) underlying90 rfl HSZ.u ?_;first|go_big_quiet_step (fail)|quiet_step (fail)
  refine jP ?_;intro Kc hK;simp only [Region.wanted,jY];have zm:w10.frozen? ⟨K.mb,i,none⟩=false:=jb w10 _ i _ _ H10.u.moveds;have nm:=Kj H10.u.moveds hin;go_wp2_with fail;refine hK _ _ (YG HM.u (xR (xh i _).drew)) ?_;clear hK Kc d2 d13 d11 DQ zm nm;have H11:=jA ((H10.u.movd hin).below (jN _ _).drew);have S11:=jA ((KY (q:=q) (S:=S) (G:=G) (G':=G) (xh i (.bool true)) (.inr (.inr (.inr (.inr (.inl rfl))))) (fun b h=>h):yQ K G w10 G (w10.setCell ⟨K.mb,i,none⟩ (.bool true))).below (jN _ _).drew);generalize (w10.setCell ⟨K.mb,i,none⟩ (.bool true)).drew=w11 at*;have HFQ:=H11.u.quo;have KB:=jA (show w11.heap[K.kb]?=some (.cells (yg K.c.op.length G.kn G.kd).toArray 90 (0,0))from H11.u.kepts);have TH:w11.there K.kb (i*2) 2:=fun j hj=>by
   refine⟨?_,jb w11 _ _ _ _ KB.u⟩;rw [jM w11 K.kb (i*2+j) _ _ _ KB.u];have:=zw K.c.op.length G.kn G.kd;simp;omega
  repeat (any_goals (first|go_big_quiet_step (fail)|quiet_step (fail)))
  refine jP ?_;go_upto_region 17 with(refine qR rfl 90 _ _ rfl K.kb (i*2) #[K.qn,K.qd] rfl rfl TH HSZ.u (zF _ _ HFQ.noLimb.2.2.1 HFQ.noLimb.2.2.2) ?_);show Code.wp _ _ _ _ (w11.setCells K.kb (i*2) [K.qn,K.qd]);have hOnly:xp K.kb w11 (w11.setCells K.kb (i*2) [K.qn,K.qd]):=zI K.kb [K.qn,K.qd] (i*2) w11;have hH12:=H11.u.keeps hin HFQ hOnly (Xf K.qn K.qd KB.u hin);obtain⟨G12,hG12⟩: ∃G12:TR.HG,G12=⟨G.pv,G.nv,G.ev,G.PL,G.wn,G.wd,upd G.kn i K.qn,upd G.kd i K.qd⟩:=⟨_,rfl⟩;rw [←hG12]at hH12;have hM12: ∀b,yq K G12 b→yq K G b:=fun b h=>by rw [hG12]at h;exact h
  have HPL:=jA (show G12.PL=G.PL by rw [hG12]);have hS12:yQ K G w10 G12 (w11.setCells K.kb (i*2) [K.qn,K.qd]):=S11.u.trans (KY (q:=q) (S:=S) hOnly (.inr (.inr (.inl rfl))) hM12);have hH12':xZ K q ⟨S.V,S.cont,upd S.moved i true,upd S.kept i q,S.el⟩ G12 (w11.setCells K.kb (i*2) [K.qn,K.qd]):=hH12;refine xP (fun w12=>xZ K q ⟨S.V,S.cont,upd S.moved i true,upd S.kept i q,S.el⟩ G12 w12∧yQ K G w10 G12 w12) ⟨hH12',hS12⟩ (fun w12 hw12=>?_);have H12:=jA hw12.1;have S12:=jA hw12.2;have T12:=jA (S12.u.tots H10.u T10.u HG.u);have X212:=jA (S12.u.keep X210.u HNB.u);have X312:=jA (S12.u.keep X310.u HNB1.u);clear hw12 hH12 hH12' hS12 hM12 hOnly TH KB HFQ H11 S11 hG12 l1 l2 l3 n1 n2 HM H9 T9 X29 X39 B9 WA9 SO9 SO10
  as_aux_lemma=>
  have hBl12:=lt_of_heap X212.u;have hBl312:=lt_of_heap X312.u;have hbl:=lt_of_heap H12.u.hall;have hgl12:g<w12.heap.size:=by
   rcases T12.u.row.own.2 with⟨hv,_⟩|⟨g2,_,_,hv,_,hg2,_⟩;·cases hv
   ·injection hv with h1;injection h1 with h1;injection h1 with h1;subst h1;exact lt_of_heap hg2
  have d2: ∀x:xS w12.heap.size w12,x.w.cell? ⟨B,0,none⟩=some (.pointer (some ⟨K.hb,0,none⟩)):=fun x=>jM _ B 0 _ _ _ (xK x.2 hBl12 X212.u);have d3: ∀x:xS w12.heap.size w12,x.w.cell? ⟨B+1,0,none⟩=some (.slice (some ⟨g,0,none⟩) K.c.op.length cap):=fun x=>jM _ (B+1) 0 _ _ _ (xK x.2 hBl312 X312.u);have HC:=jA (fun(x:xS w12.heap.size w12) (b o:Nat) (l:List Value) (hb:b<w12.heap.size) (h: ∀j u,l[j]?=some u→w12.cell? ((⟨b,o,none⟩:Addr).add j)=some u) (j:Nat) (u:Value) (hj:l[j]?=some u)=>(x.2.cell (p:=(⟨b,o,none⟩:Addr).add j) (by rw [xy];exact hb)).trans (h j u hj));have TM:=jA (T12.u.mid hin);have QM:=jA (jdB H12.u);obtain⟨sm1,sm2⟩:=HI.u.sur_sml hn12 hm4 hin HQ.u;have SM1:=jA sm1;have SM2:=jA sm2;have ST:=jA (HST.u i hin);obtain⟨_,tpos,_,tn⟩:=HI.u.surplus_ok HQ.u;have TN:=jA tn;have QMi:=jA (jle w12.drew (Trn.fr (Trn.of_below (jN _ _).drew 0 0) (T12.u.frs i hin)) (Trn.fr (Trn.of_below (jN _ _).drew 0 0) H12.u.quo) ST.u.ok HSQ.u.ok (ko HQ.u) ST.u.lens HSQ.u.lens);clear sm1 sm2 tpos tn;refine Seg.xL (fun w'=> ∃x:xS w12.heap.size w12,w'=x.w) [([0,1,2,3,4,5,6,7,8,9,11,12,13,14],10),([],15)] [] 16 (by kernel_rfl) (by kernel_rfl) (fun _ _ d _ _ h=>by cases d<;>exact h) (⟨⟨_,(jN _ _).drew⟩,rfl⟩) ?_;simp only [jK,Seg.opAt,Seg.xW];first|go_big_quiet_step (fail)|quiet_step (fail)
  first|go_big_quiet_step (fail)|quiet_step (fail)
  first|go_big_quiet_step (fail)|quiet_step (fail)
  first|go_big_quiet_step (fail)|quiet_step (fail)
  first|go_big_quiet_step (fail)|quiet_step (fail)
  refine xV rfl 90 _ rfl ⟨g,i*2,none⟩ [xa i,xb i] _ rfl (fun w' hw'=>by obtain⟨x,rfl⟩:=hw';exact HC.u x _ _ _ hgl12 TM.u) underlying90 rfl HSZ.u ?_;first|go_big_quiet_step (fail)|quiet_step (fail)
  first|go_big_quiet_step (fail)|quiet_step (fail)
  first|go_big_quiet_step (fail)|quiet_step (fail)
  refine xV rfl 90 _ rfl ⟨K.hb,7,none⟩ [K.qn,K.qd] _ rfl (fun w' hw'=>by obtain⟨x,rfl⟩:=hw';exact HC.u x _ _ _ hbl QM.u) underlying90 rfl HSZ.u ?_;first|go_big_quiet_step (fail)|quiet_step (fail)
  first|go_big_quiet_step (fail)|quiet_step (fail)
  first|go_big_quiet_step (fail)|quiet_step (fail)
  refine xV rfl 90 _ rfl ⟨g,i*2,none⟩ [xa i,xb i] _ rfl (fun w' hw'=>by obtain⟨x,rfl⟩:=hw';exact HC.u x _ _ _ hgl12 TM.u) underlying90 rfl HSZ.u ?_;refine jP ?_;intro Kc hK;simp only [Region.wanted,jY];go_wp2_with (go_at_call 132;refine QMi.u.mono ?_;rintro e w13 ⟨a1,b1,rfl,f1,bel1⟩);have F1:=jA f1;have B13:=jA (yV bel1);refine hK _ _ ⟨⟨w13,B13.u⟩,rfl⟩ ?_;clear hK Kc f1 bel1 QMi d2 d3;repeat (any_goals (first|go_big_quiet_step (fail)|quiet_step (fail)))
  refine jP ?_;intro Kc hK;first|go_simp|skip
  have QOv:=jA (jjO w13 F1.u ((T12.u.frs i hin).below B13.u) SM1.u.ok TN.u SM1.u.lens ST.u.lens);go_wp2_with (go_at_call 119;refine QOv.u.mono ?_;rintro e w14 ⟨a2,b2,rfl,f2,bel2⟩);have F2:=jA (show FrV w14 (S.surplus K.m q i) a2 b2 from f2);have B14:=jA (B13.u.trans (bel2.mono B13.u.size));refine hK _ _ ⟨⟨w14,B14.u⟩,rfl⟩ ?_;clear hK Kc f2 bel2 QOv F1 B13;have H14:=jA (H12.u.below B14.u);have HNX:=jA (HI.u.moves hm4 hin HIM.u.2.1 HIM.u.2.2 HNE.u);have HFI:=jA (jbq (H12.u) (show Yz K ⟨S.V,S.cont,upd S.moved i true,upd S.kept i q,S.el⟩ G12 from fun k hk=>by rw [HPL.u];exact HF.u k hk) i)
  have QG:=jA (jfc K q ⟨S.V,S.cont,upd S.moved i true,upd S.kept i q,S.el⟩ G12 w14 i (S.surplus K.m q i) a2 b2 H14.u HK.u hin (fun k hk=>by rw [HPL.u];exact HF.u k hk) F2.u SM2.u (fun k hk=>by
   obtain⟨h1,h2⟩:=(HFI.u k).1 hk;refine⟨HI.u.wt_sml hn12 hm4 h1,?_⟩;have h3:=HNX.u.wt_sml hn12 hm4 h1;have h4:((S.move K.m q i).V k).wt=(S.V k).wt.mul (S.surplus K.m q i):=by
    show(S.goOn S.cont i (S.surplus K.m q i) k).wt=_;rw [ZV,jR h2]
   rw [h4]at h3;exact h3) (fun k hk j hj=>HI.u.rk k hk j hj))
  rw [jld HI.u HFI.u]at QG;repeat (any_goals (first|go_big_quiet_step (fail)|quiet_step (fail)))
  refine jP ?_;go_upto_region 18 with(go_at_call 131;refine QG.u.mono ?_;rintro e w15 ⟨rfl,G15,h15,s15,fu15⟩);have H15:=jA h15;have hstep:yQ K G w G15 w15:=(zf B10.u).trans ((S12.u.below B14.u).trans s15);have S15:=jA hstep;have FU15:=jA fu15;clear h15 s15 hstep fu15 QG;go_wp2_with fail
  go_ret3
  have hba:Below w15.heap.size w15 (w15.alloc (.cells #[.int .i64 (i:Int)] 3)):=(jN _ _).alloc (jO _) _;have hbase:w.heap.size≤w15.heap.size:=S15.u.size;refine .inr ⟨2,[i],some ⟨w15.heap.size,0,none⟩,1,G15,.move i r' OVN.u HNE.u HNF.u (HWA.u▸RK.u),rfl,jeX hbase,fun x hx hm=>?_,H15.u.below hba,S15.u.below hba,FU15.u⟩;have e:w15.heap.size=x:=by simpa [Value.ownBlock] using hx
  have:=Qn H15.u hm;omega
 have dk:decide ((0:Int)<((xq wa).length:Int))=false:=jS (by rw [yh];omega);have dk2:decide (0<(xq wa).length)=false:=jS (by rw [yh];omega);have WAN:=jA (show S.wait K.On= []by rw [←HWA.u];exact kY.1 hz);have hslp:0<(xq sl).length:=by
  have h1:=HI.u.many;have h2:=HI.u.few;rw [←HSL.u]at h1;have h3:=HNE.u;rw [yh];omega
 clear hz HWA WA9;go_upto_region 19 with(fail);clear dk dk2;have d2: ∀x:xS w9.heap.size w9,x.w.cell? ⟨B,0,none⟩=some (.pointer (some ⟨K.hb,0,none⟩)):=fun x=>jM _ B 0 _ _ _ (xK x.2 hBl9 X29.u);have d3: ∀x:xS w9.heap.size w9,x.w.cell? ⟨B+1,0,none⟩=some (.slice (some ⟨g,0,none⟩) K.c.op.length cap):=fun x=>jM _ (B+1) 0 _ _ _ (xK x.2 hBl39 X39.u);have hbl:=lt_of_heap H9.u.hall;have DM:=jA (fun(x:xS w9.heap.size w9) (j:Nat) (u:Value) (hj:([.string ⟨K.c.nm.toArray⟩,.slice K.oa K.c.op.length K.cap,.int .i64 K.c.rl,.int .i64 K.c.se,.int .i64 K.c.mo,.slice K.oO K.O.length K.cO,.slice K.oP K.P.length K.cP]:List Value)[j]?=some u)=>(x.2.cell (p:=(⟨K.hb,0,none⟩:Addr).add j) (by rw [xy];exact hbl)).trans (YW H9.u j u hj))
 have QS:=jA (VX K.c.op.length (S.tot K.m) base g cap xa xb K.P (xq sl) ⟨K.c.nm.toArray⟩ K.oa K.c.op.length K.cap K.c.rl K.c.se K.c.mo K.oO K.O.length K.cO K.oP K.cP os cs w9.drew (T9.u.below (jN _ _).drew) HST.u ((HK.u.plc.below H9.u.bel).drew) ((Ka SO9.u).drew) (fun x hx=>by
  unfold xq at hx;obtain⟨i,hi,rfl⟩:=jl.1 hx;have:=STLT.u i hi;omega) HK.u.plen.symm HK.u.pbd hstl hslp (by omega) (ZO HK.u STLT.u STND.u))
 refine Seg.xL (fun w'=> ∃x:xS w9.heap.size w9,w'=x.w) [] [0,1,2,3,4,5] 6 (by kernel_rfl) (by kernel_rfl) (fun _ _ d _ _ h=>by cases d<;>exact h) (⟨⟨_,(jN _ _).drew⟩,rfl⟩) ?_;simp only [jK,Seg.opAt,Seg.xW];first|go_big_quiet_step (fail)|quiet_step (fail)
 first|go_big_quiet_step (fail)|quiet_step (fail)
 first|go_big_quiet_step (fail)|quiet_step (fail)
 refine xV rfl 62 _ rfl ⟨K.hb,0,none⟩ [.string ⟨K.c.nm.toArray⟩,.slice K.oa K.c.op.length K.cap,.int .i64 K.c.rl,.int .i64 K.c.se,.int .i64 K.c.mo,.slice K.oO K.O.length K.cO,.slice K.oP K.P.length K.cP] _ rfl (fun w' hw'=>by obtain⟨x,rfl⟩:=hw';exact DM.u x) underlying62 rfl VY ?_;first|go_big_quiet_step (fail)|quiet_step (fail)
 first|go_big_quiet_step (fail)|quiet_step (fail)
 refine jP ?_;go_upto_region 20 with(go_at_call 128;refine QS.u.mono ?_;rintro e w10 ⟨R,ob6,cb6,rfl,own6,perm6,srt6,bel6⟩;obtain⟨r,rfl,hrk,hrl⟩:=jha HK.u STLT.u perm6 srt6;have RK:=jA hrk;have b6:=jA (yV bel6);have ROW:=jA own6;have HRL:=jA hrl;clear own6 perm6 srt6 bel6 hrk hrl);obtain⟨r',i,hri⟩: ∃r' i,r=r'++ [i]:=by
  have hne:r≠ []:=fun e=>by have h0:=yh sl;have h1:=HRL.u;rw [e]at h1;simp at h1;omega
  exact⟨r.dropLast,r.getLast hne,(List.dropLast_concat_getLast hne).symm⟩
 subst hri;have hlen:(xq sl).length=r'.length+1:=by have h0:=yh sl;have h1:=HRL.u;simp at h1;omega
 have own7:=ROW.u;rw [hlen]at own7 ⊢;obtain⟨p,hp⟩: ∃p,p=r'.length:=⟨_,rfl⟩;rw [←hp]at own7 ⊢;obtain⟨g6,rfl,hc6⟩:=jbe (l:=r'++ [i]) own7 (j:=p) (by simp;omega);have hc6':w10.cell? ⟨g6,p,none⟩=some (.int .i64 (i:Int)):=by rw [hc6];simp [hp]
 have e1:(p:Int)<((p+1:Nat):Int):=by omega
 have e2:(p:Int)<(p:Int)+1:=by omega
 have e3:p≤12:=by omega
 have e4:wrap64 (p:Int)=(p:Int):=IntWalk.wrap64_in _ (by omega);have HIC:=jA (HI.u.mem_still.1 (show i∈S.still K.On by rw [←HSL.u];exact RK.u.perm.mem_iff.1 (by simp)));have hin:i<K.c.op.length:=HIC.u.1;clear hc6 own7 ROW QS DM d2 d3 hp hslp;have H10:=jA (H9.u.below b6.u);have T10:=jA (T9.u.below b6.u);have X210:=jA (xK b6.u hBl9 X29.u);have X310:=jA (xK b6.u hBl39 X39.u);have SO10:=jA (SO9.u.kept (row:=none) (yY b6.u none) (by cases Value.ownBlock _<;>simp));have B10:=jA (B9.u.trans ((b6.u).mono B9.u.size));have hs10:=(b6.u).size;have hBl10:B<w10.heap.size:=jV hBl9 hs10;have hBl310:B+1<w10.heap.size:=jV hBl39 hs10;clear hBl9 hBl39 hbl H9 T9 X29 X39 B9 SO9 SO10;have x210:w10.cell? ⟨B,0,none⟩=some (.pointer (some ⟨K.hb,0,none⟩)):=jM w10 B 0 _ _ _ X210.u;have k12:w10.cell? ⟨K.hb,12,none⟩=some (.slice (some ⟨K.cb,0,none⟩) K.c.op.length K.c.op.length):=jM w10 K.hb 12 _ _ _ H10.u.hall;have kc:=Kj H10.u.conts hin;have zc:w10.frozen? ⟨K.cb,i,none⟩=false:=jb w10 _ i _ _ H10.u.conts;have dii:(i:Int)<(K.c.op.length:Int):=by omega
 go_upto_region 22 with(fail);have hH11:=H10.u.outed hin;have hS11:yQ K G w10 G (w10.setCell ⟨K.cb,i,none⟩ (.bool false)):=KY (q:=q) (S:=S) (xh i _) (.inr (.inr (.inr (.inl rfl)))) (fun b h=>h);refine xP (fun w11=>xZ K q ⟨S.V,upd S.cont i false,S.moved,S.kept,S.el⟩ G w11∧yQ K G w10 G w11) ⟨hH11,hS11⟩ (fun w11 hw11=>?_);have H11:=jA hw11.1;have S11:=jA hw11.2;have X211:=jA (S11.u.keep X210.u HNB.u);clear hw11 hH11 hS11 x210 k12 kc zc hc6' e1 e2 e4
 as_aux_lemma=>
 have hBl11:=lt_of_heap X211.u;have d2: ∀x:xS w11.heap.size w11,x.w.cell? ⟨B,0,none⟩=some (.pointer (some ⟨K.hb,0,none⟩)):=fun x=>jM _ B 0 _ _ _ (xK x.2 hBl11 X211.u);have QWo:=jA (ZE 1 w11.drew (by decide));refine Seg.xL (fun w'=> ∃x:xS w11.heap.size w11,w'=x.w) [([0,1],2)] [] 3 (by kernel_rfl) (by kernel_rfl) (fun _ _ d _ _ h=>by cases d<;>exact h) (⟨⟨_,(jN _ _).drew⟩,rfl⟩) ?_;simp only [jK,Seg.opAt,Seg.xW];repeat (any_goals (first|go_big_quiet_step (fail)|quiet_step (fail)))
 refine jP ?_;intro Kc hK;simp only [Region.wanted,jY];go_wp2_with (go_at_call 118;refine QWo.u.mono ?_;rintro e w14 ⟨a2,b2,rfl,f2,bel2⟩);have F2:=jA (show FrV w14 one a2 b2 from f2);have B14:=jA (yV bel2);refine hK _ _ ⟨⟨w14,B14.u⟩,rfl⟩ ?_;clear hK Kc f2 bel2 QWo d2;have H14:=jA (H11.u.below B14.u);have HFI:=jA (jbq (H11.u) (show Yz K ⟨S.V,upd S.cont i false,S.moved,S.kept,S.el⟩ G from HF.u) i)
 have QG:=jA (jfc K q ⟨S.V,upd S.cont i false,S.moved,S.kept,S.el⟩ G w14 i one a2 b2 H14.u HK.u hin HF.u F2.u Sml.one (fun k hk=>by
  obtain⟨h1,h2⟩:=(HFI.u k).1 hk;have h3:=HI.u.wt_sml hn12 hm4 h1;refine⟨h3,?_⟩;have h4:(S.V k).wt.mul one=(S.V k).wt:=Fr.mul_one h3.ok;show Sml ((S.V k).wt.mul one);rw [h4];exact h3) (fun k hk j hj=>HI.u.rk k hk j hj))
 rw [jlr HI.u HFI.u]at QG;repeat (any_goals (first|go_big_quiet_step (fail)|quiet_step (fail)))
 refine jP ?_;go_upto_region 23 with(go_at_call 131;refine QG.u.mono ?_;rintro e w15 ⟨rfl,G15,h15,s15,fu15⟩);have H15:=jA h15;have hstep:yQ K G w G15 w15:=(zf B10.u).trans ((S11.u.below B14.u).trans s15);have S15:=jA hstep;have FU15:=jA fu15;clear h15 s15 hstep fu15 QG;go_wp2_with fail
 go_ret3
 have hba:Below w15.heap.size w15 (w15.alloc (.cells #[.int .i64 (i:Int)] 3)):=(jN _ _).alloc (jO _) _;have hbase:w.heap.size≤w15.heap.size:=S15.u.size;refine .inr ⟨3,[i],some ⟨w15.heap.size,0,none⟩,1,G15,.excl i r' OVN.u HNE.u HNF.u WAN.u (HSL.u▸RK.u),rfl,jeX hbase,fun x hx hm=>?_,H15.u.below hba,S15.u.below hba,FU15.u⟩;have e:w15.heap.size=x:=by simpa [Value.ownBlock] using hx
 have:=Qn H15.u hm;omega
end Go.Proofs.YtnohcdpnnhmpfaaGreatDoor.TR
