/- Chapter 13, Transfer: count.weight; (*hall).totals. -/
import Derived.Test.YtnohcdpnnhmpfaaGreatDoorE15
set_option linter.all false
set_option maxRecDepth 100000
set_option maxHeartbeats 4000000
namespace Go.Proofs.YtnohcdpnnhmpfaaGreatDoor.TR
open Go.RowKit Tryz ML FRP AU CT FM
variable{T:o0}{base i n:Nat}{v z:n0}{w:m0}{xa xb:Nat→n0}{xs:A0}
structure jlm(w:m0)(oa:s0)(xs:A0):Prop where
 cells: ∀i (h:i<xs.length),∃a,oa=some a∧a.block<w.heap.size∧w.cell? (a.add i)=some xs[i]
theorem jlm.below {w1:m0}{oa:s0}(h:jlm w oa xs)(hb:O0 w.heap.size w w1):jlm w1 oa xs:=⟨fun i hi=>by
 obtain⟨a,h1,h2,h3⟩:=h.cells i hi;exact⟨a,h1,jW h2 hb.size,by rw [hb.cell (by rw [yI];exact h2)];exact h3⟩⟩
theorem Yp{e:o0}(h:w.ownsRow base e 1 v n xs): ∃oa cap,v=.slice oa n cap∧n≤cap∧jlm w oa xs:=by
 have hl:=h.1;rcases h.2 with⟨hv,h0⟩|⟨g,cap,Es,hv,hb,hg,px,_,hc,ht⟩
 ·have:xs= []:=kt.1 (by omega);subst this;exact⟨none,0,by rw [hv,h0],by omega,⟨fun i hi=>by simp at hi⟩⟩
 ·exact⟨some ⟨g,0,none⟩,cap,hv,px,⟨fun i hi=>⟨_,rfl,xZ hg,h.cells (g:=g) (by rw [hv];rfl) i xs[i] (by simp [hi])⟩⟩⟩
theorem jlV(K:HK)(L:E0):(Kh K L).length=L.length:=by simp [Kh]
theorem jkR(a:Fr)(l:List Fr)(x:Fr):Qy a (l++ [x])=(Qy a l).add x:=by simp [Qy]
theorem jdT{p:Nat}{r x y:n0}(h:w.heap[p]?=some (.cells #[r,x,y,z] T (0,0))): ∀j u,([x,y]:A0)[j]?=some u→w.cell? ((⟨p,1,none⟩:Addr).add j)=some u:=
 jbU h _ (fun j u hj=>by match j with|0=>exact hj|1=>exact hj|_+2=>cases hj)
theorem jca(K:HK)(q:Fr)(S:St)(G:HG)(w:m0)(hH:yB K q S G w)(L:E0)(hL: ∀k∈L,k<K.m)(oa:s0)(cap:Nat)(hV:jlm w oa (Kh K L))(hl:L.length≤4096)
 (hs: ∀j,j≤L.length→Sml (Qy zero ((L.take j).map fun k=>(S.V k).wt))) (hw: ∀k∈L,Sml (S.V k).wt):
 Calls prog 74 #[.slice oa L.length cap] w fun e w'=> ∃a b,e=.returned (.agg #[a,b])∧FrV w' (Qy zero (L.map fun k=>(S.V k).wt)) a b∧O0 w.heap.size w w':=by
 have QZ:=jA (fun w=>jlp w);have HS:=jA JJ;have HH:=jA hH;have HL:=jA hL;have HV:=jA hV;have HSm:=jA hs;have HW:=jA hw;clear hH hL hV hs hw;go_enter Tryz.func74,Tryz.ntmps74;go_upto_region 1 with(fail);generalize hB:w.heap.size=B at*;refine Go.bxE hB ?_;intro w1 ts;have B1:=jA ts.1;have oD:=jA ts.2;have HB:=jA hB;have GE:B<w1.heap.size:=xZ ts.2;clear ts hB;go_upto_region 2 with(first
  |(go_at_call 117;refine(QZ.u w1).mono ?_;rintro e w2 ⟨a0,b0,rfl,f2,us⟩;have F2:=jA f2;have B2:=jA us;clear f2 us)
  |(refine xg rfl rfl 90 _ _ rfl w2.heap.size #[.slice none 0 0,.slice none 0 0] #[a0,b0] 90 rfl rfl (xh rfl) rfl HS.u (zd _ _ F2.u.noLimb.2.2.1 F2.u.noLimb.2.2.2) ?_;intro w4 ho hp))
 have Fz:O0 w2.heap.size w2 w4:=xl ((jN _ _).alloc (jO _) _) ho (jO _);have F4:=jA (F2.u.below Fz);have C4:=jA hp;have D4:=jA (xe Fz (jW GE B2.u.size) (xe B2.u GE oD.u));have B4:=jA (B1.u.trans ((B2.u.trans (Fz.mono B2.u.size)).mono (jX GE)));have hBC:B<w2.heap.size:=jW GE B2.u.size;clear ho hp Fz F2 B2 oD B1;generalize w2.heap.size=C at*;clear GE;go_wp2_with fail;go_loopw [9] (fun v wr=> ∃(k:Nat) (a b:n0),v=.int .i64 k∧k≤L.length∧FrV wr (Qy zero ((L.take k).map fun k=>(S.V k).wt)) a b∧wr.heap[C]?=some (.cells #[a,b] 90 (0,0))∧wr.heap[B]?=some (.cells #[.slice none 0 0,.slice none 0 0] 90 (0,0))∧O0 B w wr) (fun v _=>L.length-(intOf v).toNat);case atStart=>exact⟨0,a0,b0,rfl,ja _,F4.u,C4.u,D4.u,B4.u⟩
 case round=>
 obtain⟨k,a,b,rfl,hk,hf,hc,hd,hb⟩:=hrel;have F:=jA hf;have C':=jA hc;have D':=jA hd;have BR:=jA hb;have hCr:C<wr.heap.size:=xZ hc;clear hf hc hd hb F4 C4 D4 B4;by_cases ns:k<L.length;case neg=>
  obtain⟨dk,Ms⟩:=Go.yg ns;obtain rfl:k=L.length:=by omega
  rw [jr]at F;have c1:wr.cell? ⟨C,0,none⟩=some a:=jM wr C 0 _ _ _ C'.u;have c2:wr.cell? ⟨C,1,none⟩=some b:=jM wr C 1 _ _ _ C'.u;go_wp2_with (first
   |(refine xg rfl rfl 90 _ _ rfl B #[.slice none 0 0,.slice none 0 0] #[a,b] 90 rfl rfl D'.u rfl HS.u (zd _ _ F.u.noLimb.2.2.1 F.u.noLimb.2.2.2) ?_;intro w5 ho hp))
  have t:Trn 90 0 (some B) wr w5:=Trn.of_only ho D'.u (ja _) (fun u hu=>by simp at hu;subst hu;rfl);refine jq (kB rfl _ w5 B _ _ _ _ rfl hp underlying90 rfl HS.u) rfl ⟨a,b,rfl,t.fr F.u,by rw [HB.u];exact xl BR.u ho (jO _)⟩
 obtain⟨dk,Ms,Py⟩:=Go.yD ns
 obtain⟨p,Us,bM,hpc0⟩:=(HV.u.below (HB.u.symm▸BR.u)).cells k (by rw [jlV];exact ns);have hpc:wr.cell? (p.add k)=some (.pointer (some ⟨K.pb L[k],0,none⟩)):=by rw [hpc0];simp [Kh]
 clear hpc0;have Wu:=HL.u _ (jb ns);have HR:=jA (HH.u.below (HB.u.symm▸BR.u));have PK:=jA (HR.u.papers _ Wu);unfold YU at PK;have FW:=jA (HR.u.wts _ Wu);have SW:=jA (HW.u _ (jb ns));have S0:=jA (HSm.u k (by omega));have Ou:=jA (show Qy zero ((L.take (k+1)).map fun k=>(S.V k).wt)=(Qy zero ((L.take k).map fun k=>(S.V k).wt)).add (S.V L[k]).wt by rw [jh ns,qk,List.map_singleton,jkR]);subst Us;generalize (S.V L[k]).wt=y at*;generalize Qy zero ((L.take k).map fun k=>(S.V k).wt)=x at*;generalize G.wn L[k]=c at*;generalize G.wd L[k]=d at*;generalize K.pb L[k]=pk at*;generalize K.rn L[k]=rn at*;generalize K.rg L[k]=rg at*;generalize (S.V L[k]).rk.length=rl at*;generalize (S.V L[k]).nx=nx at*;have Cw:pk<wr.heap.size:=xZ PK.u;have QP:=jA (jlY wr.drew (Trn.fr (Trn.of_below (jN _ _).drew 0 0) F.u) (Trn.fr (Trn.of_below (jN _ _).drew 0 0) FW.u) S0.u.ok SW.u.ok S0.u.lens SW.u.lens);go_upto_region 5 with(fail);refine Seg.xf (fun w'=> ∃x:xj wr.heap.size wr,w'=x.w) [] [0,1,2,3,4] 5 (by kernel_rfl) (by kernel_rfl) (fun _ _ d _ _ h=>by cases d<;>exact h) (⟨⟨_,(jN _ _).drew⟩,rfl⟩) ?_;simp only [jK,Seg.opAt,Seg.xu];refine xx rfl 90 _ rfl ⟨C,0,none⟩ [a,b] _ rfl (fun w' Tt=>by obtain⟨x,rfl⟩:=Tt;exact jgR (xe x.2 hCr C'.u)) underlying90 rfl HS.u ?_;iterate 3 first|go_big_quiet_step (fail)|quiet_step (fail)
 refine xx rfl 90 _ rfl ⟨pk,1,none⟩ [c,d] _ rfl (fun w' Tt=>by obtain⟨x,rfl⟩:=Tt;exact jdT (xe x.2 Cw PK.u)) underlying90 rfl HS.u ?_;refine jR ?_;go_wp2_with (first
  |(go_at_call 48;refine QP.u.mono ?_;rintro e w2' ⟨a',b',rfl,f2,us⟩;have F2:=jA f2;have B2:=jA (yq us);have C2:=jA (xe (yq us) hCr C'.u);have D2:=jA (xe (yq us) (xZ D'.u) D'.u);clear f2 us)
  |(refine xg rfl rfl 90 _ _ rfl C #[a,b] #[a',b'] 90 rfl rfl C2.u rfl HS.u (zd _ _ F2.u.noLimb.2.2.1 F2.u.noLimb.2.2.2) ?_;intro w5 ho hp))
 have hn:=F.u.noLimb
 have t:Trn 90 0 (some C) w2' w5:=Trn.of_only ho C2.u (ja _) (fun u hu=>by
  simp only [jl,kD,kH]at hu;rcases hu with rfl|rfl;·exact hn.1
  ·exact hn.2.1)
 have D5:=t.keepX D2.u (by intro e;injection e with e;omega);go_roundw;case rel=>exact⟨k+1,a',b',by go_num,by omega,by rw [Ou.u];exact t.fr F2.u,hp,D5,xl (BR.u.trans (B2.u.mono (by have:=xZ D'.u;omega))) ho (by omega)⟩
 case measure=>simp [intOf];omega
theorem jaU:(prog.info? 90).map (fun i=>(i.zero,i.size,i.bytes))=some (some (.agg #[.slice none 0 0,.slice none 0 0]),2,48):=by kernel_rfl
theorem info_parts {P:Program}{s b:Nat}(h:(P.info? T).map (fun i=>(i.zero,i.size,i.bytes))=some (some z,s,b)): ∃i,P.info? T=some i∧i.zero=some z∧i.size=s∧i.bytes=b:=by
 cases hi:P.info? T with
 |none=>rw [hi]at h;cases h
 |some i=>rw [hi]at h;simp at h;exact⟨i,rfl,h.1,h.2.1,h.2.2⟩
theorem jiR {p:n0→Prop}{a b:n0}(h1:p a)(h2:p b): ∀u∈ [a,b],p u:=fun u hu=>by
 simp only [jl,kD,kH]at hu;rcases hu with rfl|rfl;·exact h1
 ·exact h2
def yy(n:Nat)(xa xb:Nat→n0):A0:=(List.range n).flatMap fun i=> [xa i,xb i]
theorem JU(n:Nat)(xa xb:Nat→n0):(yy n xa xb).length=n*2:=by
 induction n with
 |zero=>rfl
 |succ n ih=>unfold yy at*;rw [qI,vV,jZ,ih];simp;omega
theorem jit(n:Nat)(xa xb:Nat→n0)(a b:n0):yy (n+1) (upd xa n a) (upd xb n b)=yy n xa xb++ [a,b]:=by
 unfold yy;rw [qI,vV];have h: ∀m,m≤n→(List.range m).flatMap (fun i=> [upd xa n a i,upd xb n b i])=(List.range m).flatMap fun i=> [xa i,xb i]:=by
  intro m hm
  induction m with
  |zero=>rfl
  |succ m ih=>rw [qI,vV,vV,ih (by omega)];simp [xw _ _ _ _ (show m≠n by omega)]
 rw [h n (jO _)];simp [xp]
theorem QU(n:Nat)(xa xb:Nat→n0)(i:Nat)(hi:i<n):(yy n xa xb)[i*2]?=some (xa i)∧(yy n xa xb)[i*2+1]?=some (xb i):=by
 induction n with
 |zero=>omega
 |
  succ n ih=>
  have h1:yy (n+1) xa xb=yy n xa xb++ [xa n,xb n]:=by unfold yy;rw [qI,vV];simp
  rw [h1];by_cases h:i<n
  ·rw [qZ (by rw [JU];omega),qZ (by rw [JU];omega)];exact ih h
  ·obtain rfl:i=n:=by omega
   rw [kZ (by rw [JU];omega),kZ (by rw [JU];omega),JU];simp
structure KG(w:m0)(base:Nat)(n:Nat)(T:Nat→Fr)(v:n0)(xa xb:Nat→n0):Prop where
 row:GRow noLimb w base 90 2 v n (yy n xa xb)
 frs: ∀i,i<n→FrV w (T i) (xa i) (xb i)
theorem KG.below {w':m0}{T:Nat→Fr}(h:KG w base n T v xa xb)(hb:O0 w.heap.size w w'):KG w' base n T v xa xb:=⟨h.row.below hb,fun i hi=>(h.frs i hi).below hb⟩
theorem jkE{B:Nat}(h:w.heap[B]?=some (.cells (yy n xa xb).toArray T (0,0)))(hi:i<n): ∀j u,([xa i,xb i]:A0)[j]?=some u→w.cell? ((⟨B,i*2,none⟩:Addr).add j)=some u:=
 jbU h _ (fun j u hj=>by
  obtain⟨h1,h2⟩:=QU n xa xb i hi
  match j with
  |0=>simpa using h1.trans hj
  |1=>simpa using h2.trans hj
  |_+2=>cases hj)
theorem ZL {K:HK}{G:HG}(h:w.heap[K.wb]?=some (.cells (jbZ K G) 113 (0,0)))(hi:i<K.c.op.length):w.cell? ⟨K.wb,i,none⟩=some (G.pv i):=by
 rw [jM w K.wb i _ _ _ h];unfold jbZ;simp [hi]
theorem jhC(K:HK)(q:Fr)(S:St)(G:HG)(w:m0)(hH:yB K q S G w)(hn:K.c.op.length≤12)(hm:K.m≤4096)(T:Nat→Fr)
 (hs: ∀i,i<K.c.op.length→ ∀j,j≤(G.PL (some i)).length→Sml (Qy zero (((G.PL (some i)).take j).map fun k=>(S.V k).wt))) (hw: ∀k,k<K.m→Sml (S.V k).wt)
 (hT: ∀i,i<K.c.op.length→(Qy zero ((G.PL (some i)).map fun k=>(S.V k).wt)).add (S.kept i)=T i∧Sml (T i)∧Sml (S.kept i)):
 Calls prog 73 #[.pointer (some ⟨K.hb,0,none⟩)] w fun e w'=> ∃v xa xb,e=.returned v∧KG w' w.heap.size K.c.op.length T v xa xb∧O0 w.heap.size w w':=by
 have QW:=jA (fun(w1:m0) (h1:yB K q S G w1) (i:Nat) (hi:i<K.c.op.length) (oa:s0) (cap:Nat) (hv:jlm w1 oa (Kh K (G.PL (some i))))=>jca K q S G w1 h1 (G.PL (some i)) (fun k hk=>((h1.pls _).2 k hk).1) oa cap hv (by
  have h2: ∀k∈G.PL (some i),k∈List.range K.m:=fun k hk=>jk.2 ((h1.pls _).2 k hk).1;have:=qi (h1.pls (some i)).1 h2;rw [ku]at this;omega) (hs i hi) (fun k hk=>hw k ((h1.pls _).2 k hk).1))
 have HS:=jA JJ;have HH:=jA hH;have HT:=jA hT;have HSm:=jA hs;obtain⟨i0,rA,Is,Ts,Ns⟩:=info_parts jaU;have I0:=jA rA;have dN:=jA Is;have bN:=jA Ts;have aN:=jA Ns;have k9:w.cell? ⟨K.hb,9,none⟩=some (.slice (some ⟨K.wb,0,none⟩) K.c.op.length K.c.op.length):=jM w K.hb 9 _ _ _ hH.hall;obtain⟨n,mx⟩: ∃n,n=K.c.op.length:=⟨_,rfl⟩;rw [←mx]at k9 hn QW HT HSm ⊢;have HN:=jA mx;clear hH hT hs hw rA Is Ts Ns mx;go_enter Tryz.func73,Tryz.ntmps73;generalize hB:w.heap.size=B at*;have HB:=jA hB;clear hB;go_upto_region 3 with(fail);clear k9;go_loopw [10,3] (fun v l wr=> ∃(k:Nat) (xa xb:Nat→n0),v=.int .i64 k∧k≤n∧KG wr B k T l xa xb∧O0 B w wr) (fun v _ _=>n-(intOf v).toNat);case atStart=>exact⟨0,fun _=>undef,fun _=>undef,rfl,ja _,⟨GRow.nil,fun i hi=>by omega⟩,jN _ _⟩
 case round=>
 obtain⟨k,xa,xb,rfl,hk,ht,hb⟩:=hrel;have TA:=jA ht;have BR:=jA hb;have Lt:B≤wr.heap.size:=by rw [←HB.u];exact(HB.u.symm▸hb).size
 clear ht hb;by_cases ns:k<n;case neg=>
  obtain⟨dk,Ms⟩:=Go.yg ns;obtain rfl:k=n:=by omega
  go_wp2_with fail;go_ret;exact⟨_,xa,xb,rfl,TA.u,BR.u⟩
 obtain⟨dk,Ms,Py⟩:=Go.yD ns
 have HR:=jA (HH.u.below (HB.u.symm▸BR.u));have Bx:k<K.c.op.length:=by rw [←HN.u];exact ns
 obtain⟨op,cp,hpv,hpc,WL⟩:=Yp (HR.u.piles k Bx).own;have HVA:=jA WL;obtain⟨hTk,hT1,NO⟩:=HT.u k ns;have Ou:=jA hTk;have HT2:=jA NO;have HP0:=jA (by have:=HSm.u k ns _ (jO _);rwa [jr]at this);have FK:=jA (HR.u.keps k Bx);have h9:K.hb<wr.heap.size:=xZ HR.u.hall;have EY:K.wb<wr.heap.size:=xZ HR.u.withs;have dI:K.kb<wr.heap.size:=xZ HR.u.kepts;have d1: ∀x:xj wr.heap.size wr,x.w.cell? ⟨K.hb,9,none⟩=some (.slice (some ⟨K.wb,0,none⟩) n n):=fun x=>by rw [HN.u];exact jM _ K.hb 9 _ _ _ (xe x.2 h9 HR.u.hall)
 have d2: ∀x:xj wr.heap.size wr,x.w.cell? ⟨K.hb,11,none⟩=some (.slice (some ⟨K.kb,0,none⟩) n n):=fun x=>by rw [HN.u];exact jM _ K.hb 11 _ _ _ (xe x.2 h9 HR.u.hall)
 have d3: ∀x:xj wr.heap.size wr,x.w.cell? ⟨K.wb,k,none⟩=some (.slice op (G.PL (some k)).length cp):=fun x=>by rw [←hpv];exact ZL (xe x.2 EY HR.u.withs) Bx
 have KB:=jA (show wr.heap[K.kb]?=some (.cells (yy n G.kn G.kd).toArray 90 (0,0))by rw [HN.u];exact HR.u.kepts);clear WL hTk hT1 NO hpc;go_upto_region 5 with(fail);refine Seg.xf (fun w'=> ∃x:xj wr.heap.size wr,w'=x.w) [([0,1,2,3,4,5,6,7,9,10,11,12,13,14,15],8),([],16),([],17)] [] 18 (by kernel_rfl) (by kernel_rfl) (fun _ _ d _ _ h=>by cases d<;>exact h) (⟨⟨_,(jN _ _).drew⟩,rfl⟩) ?_;simp only [jK,Seg.opAt,Seg.xu];iterate 14 first|go_big_quiet_step (fail)|quiet_step (fail)
 refine xx rfl 90 _ rfl ⟨K.kb,k*2,none⟩ [G.kn k,G.kd k] _ rfl (fun w' Tt=>by obtain⟨x,rfl⟩:=Tt;exact jkE (xe x.2 dI KB.u) ns) underlying90 rfl HS.u ?_;refine jR ?_;intro Kc hK;simp only [Region.wanted,jY];have QW':=jA (QW.u wr.drew (HR.u.below (jN _ _).drew) k ns op cp (HVA.u.below (jN _ _).drew));go_wp2_with (go_at_call 74;refine QW'.u.mono ?_;rintro e w2 ⟨a,b,rfl,f2,us⟩);have F2:=jA f2;have B2:=jA (yq us);refine hK _ _ ⟨⟨w2,B2.u⟩,rfl⟩ ?_;clear hK Kc f2 us d1 d2 d3 QW';repeat (any_goals (first|go_big_quiet_step (fail)|quiet_step (fail)))
 refine jR ?_;intro Kc hK;first|go_simp|skip
 have QP:=jA (jlY w2 F2.u (FK.u.below B2.u) HP0.u.ok HT2.u.ok HP0.u.lens HT2.u.lens);go_wp2_with (go_at_call 48;refine QP.u.mono ?_;rintro e w3 ⟨a',b',rfl,f3,ws⟩);have F3:=jA f3;have B3:=jA (B2.u.trans (ws.mono B2.u.size));refine hK _ _ ⟨⟨w3,B3.u⟩,rfl⟩ ?_;clear hK Kc f3 ws QP F2 B2;repeat (any_goals (first|go_big_quiet_step (fail)|quiet_step (fail)))
 refine jR ?_;intro Kc hK;first|go_simp|skip
 go_wp2_with fail;have bh:O0 w3.heap.size w3 (w3.alloc (.cells #[a',b'] 90)):=(jN _ _).alloc (jO _) _;have ed:(w3.alloc (.cells #[a',b'] 90)).heap[w3.heap.size]?=some (.cells #[a',b'] 90 (0,0)):=xh rfl;have F4:=jA (F3.u.below bh);have B4:=jA (B3.u.trans (bh.mono B3.u.size));refine hK _ _ ⟨⟨_,B4.u⟩,rfl⟩ ?_;clear hK Kc bh F3;generalize (w3.alloc (.cells #[a',b'] 90))=w4 at*;generalize w3.heap.size=C at*;clear B3;have TB:=jA (TA.u.below B4.u);repeat (any_goals (first|go_big_quiet_step (fail)|quiet_step (fail)))
 refine jR ?_;go_wp2_with (at_builtin;refine yk (good:=noLimb) _ rfl (.tmp 13) (.tmp 30) 114 rfl B 90 i0 (.agg #[.slice none 0 0,.slice none 0 0]) 2 48 underlying114 I0.u dN.u bN.u aN.u rfl (by decide) (fun u hu=>by simp [Value.cells]at hu;subst hu;rfl) u3 k (yy k xa xb) rfl TB.u.row ⟨C,0,none⟩ 1 1 [a',b'] rfl rfl (zK ed) (jiR (p:=fun u=>u.oneCell'=true) F4.u.noLimb.2.2.1 F4.u.noLimb.2.2.2) (jiR (p:=fun u=>noLimb u=true) F4.u.noLimb.1 F4.u.noLimb.2.1) (fun _=>by decide) (by unfold maxLen;omega) (by omega) (by have:=B4.u.size;omega) _ rfl ?_;intro g9 c9 w5 own hg hf tz);have t:Trn 90 B u3.ownBlock w4 w5:=⟨hg,GRow.typed TB.u.row⟩;go_roundw;case rel=>
  refine⟨k+1,upd xa k a',upd xb k b',by go_num,by omega,⟨by rw [jit];exact own,fun i hi=>?_⟩,?_⟩
  ·by_cases e:i=k;·subst e;rw [xp,xp,←Ou.u];exact t.fr F4.u
   ·rw [xw _ _ _ _ e,xw _ _ _ _ e];exact t.fr (TB.u.frs i (by omega))
  ·exact(BR.u.trans (B4.u.mono Lt)).grown hg (by have:=B4.u.size;omega) (fun x hx=>(t.ty x hx).1)
 case measure=>simp [intOf];omega
end Go.Proofs.YtnohcdpnnhmpfaaGreatDoor.TR
