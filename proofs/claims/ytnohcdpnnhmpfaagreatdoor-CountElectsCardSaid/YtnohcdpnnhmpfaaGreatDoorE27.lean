/- Chapter 13: count.Lots and count.jhx. -/
import Derived.Test.YtnohcdpnnhmpfaaGreatDoorE26
set_option linter.all false
set_option maxRecDepth 100000
set_option maxHeartbeats 4000000
namespace Go.Proofs.YtnohcdpnnhmpfaaGreatDoor
open Go.RowKit Tryz ML FM AU CT
variable{O P S T:C0}{a b:Int}{n:Nat}
def jbG(T:C0)(lot:Int→List UInt8)(a b:Int):Prop:=T.getD b.toNat 0<T.getD a.toNat 0∨T.getD a.toNat 0=T.getD b.toNat 0∧ltL lot a b
theorem ZE(T:C0)(lot:Int→List UInt8)(a b:Int)(h1:jbG T lot a b)(h2:jbG T lot b a):False:=by
 rcases h1 with h1|⟨e1,h1⟩<;>rcases h2 with h2|⟨e2,h2⟩;·omega
 ·omega
 ·omega
 ·exact YC lot a b h1 h2
theorem jlZ{lot:Int→List UInt8}(ho:Ord n lot O)(hp:Place O P)(ha:0≤a∧a<n)(hb:0≤b∧b<n)(h:P.getD a.toNat 0<P.getD b.toNat 0):ltL lot a b:=by
 obtain⟨i,hi,rfl⟩:=qs.1 (ho.mem.2 ha);obtain⟨j,hj,rfl⟩:=qs.1 (ho.mem.2 hb);have h1:=hp.2 i hi;have h2:=hp.2 j hj;rw [jV,jV,h1,h2]at h;have pt:i<j:=by simp at h;omega
 exact xJ.1 ho.srt i j hi hj pt
theorem jkj{lot:Int→List UInt8}(ho:Ord n lot O)(hp:Place O P)(ha:0≤a∧a<n)(hb:0≤b∧b<n)(h:P.getD a.toNat 0=P.getD b.toNat 0):a=b:=by
 obtain⟨i,hi,rfl⟩:=qs.1 (ho.mem.2 ha);obtain⟨j,hj,rfl⟩:=qs.1 (ho.mem.2 hb);have h1:=hp.2 i hi;have h2:=hp.2 j hj;rw [jV,jV,h1,h2]at h;have pt:i=j:=by simp at h;omega
 subst pt;rfl
theorem jma{lot:Int→List UInt8}(ho:Ord n lot O)(hp:Place O P): ∀x∈P,0≤x∧x<n:=by
 intro x hx;obtain⟨i,hi,rfl⟩:=qs.1 hx;have wU:P.length=n:=hp.1.trans ho.len;obtain⟨j,hj,he⟩:=qs.1 (ho.mem.2 (show 0≤(i:Int)∧(i:Int)<n by omega));have h2:=hp.2 j hj;rw [he,ke,kL hi]at h2;have:P[i]=(j:Int):=by injection h2
 rw [this];have:=ho.len;omega
structure jbh(n:Nat)(T:C0)(lot:Int→List UInt8)(S:C0):Prop where
 perm:S.Perm (Vv n)
 srt:S.Pairwise (jbG T lot)
theorem jbh.unique{lot:Int→List UInt8}{S':C0}(h:jbh n T lot S)(h':jbh n T lot S'):S=S':=
 List.Perm.eq_of_pairwise (fun a b _ _ h1 h2=>(ZE T lot a b h1 h2).elim) h.srt h'.srt (h.perm.trans h'.perm.symm)
theorem jbh.len{lot:Int→List UInt8}(h:jbh n T lot S):S.length=n:=by rw [h.perm.length_eq,Jy]
theorem jom{lot:Int→List UInt8}(ho:Ord n lot O)(hp:Place O P)(Cu:S.Perm O)(hs:S.Pairwise (leV T P)):jbh n T lot S:=by
 refine⟨Cu.trans ho.perm,xT (fun {a b} ha hb h=>?_) hs⟩;have ha:=ho.mem.1 (Cu.mem_iff.1 ha);have hb:=ho.mem.1 (Cu.mem_iff.1 hb);rcases h with h|⟨h1,h2⟩;·exact .inl h
 ·exact .inr ⟨h1,jlZ ho hp ha hb h2⟩
def Vt(c:yH)(T:C0):Int:=if yz c=true then 2 else if T.length≠c.op.length then 2 else if jdk T=true then 4 else 0
def Xa(c:yH)(lots:Bytes)(T:C0)(w:m0)(e:Ending)(w':m0):Prop:=
 O0 w.heap.size w w'∧if Vt c T=0 then ∃S oS cS,jbh c.op.length T (Kr c lots) S∧yW w' oS (S.take c.se.toNat)∧e=.returned (.tuple #[.slice oS (S.take c.se.toNat).length cS,.int .i64 0])
 else e=.returned (.tuple #[.slice none 0 0,.int .i64 (Vt c T)])
theorem jmr(c:yH)(T:C0)(lots:Bytes)(oa:s0)(cap:Nat)(ot:s0)(ct:Nat)(w:m0)(hs:zg w oa c.op)(hT:yW w ot T)(hf:c.Fits lots)(Gw:c.op.length<9223372036854775807)(PN:T.length<9223372036854775807):
 Calls prog 56 #[.agg (c.cells oa cap).toArray,.slice ot T.length ct,.string ⟨lots.toArray⟩] w (Xa c lots T w):=by
 have hC:(c.cells oa cap).toArray= #[.string ⟨c.nm.toArray⟩,.slice oa c.op.length cap,.int .i64 c.rl,.int .i64 c.se,.int .i64 c.mo]:=rfl;have QD:=jA (fun w h=>jhc c lots oa cap w h hf Gw);rw [hC]at QD ⊢;clear hC hf;have HS:=jA hs;have HT:=jA hT;have MF:=jA (show Vt c T=if yz c=true then 2 else if T.length≠c.op.length then 2 else if jdk T=true then 4 else 0 from rfl);clear hs hT;unfold jbX at QD;go_enter Tryz.func56,Tryz.ntmps56;go_upto_region 1 with(fail);generalize hB:w.heap.size=B at*;refine Go.bxE hB ?_;intro w1 ts;have HB:=jA hB;have B1:=jA ts.1;have X1:=ts.2;have mt:B<w1.heap.size:=xZ X1;clear hB ts;have Q1:=jA (QD.u w1 (HS.u.below (HB.u.symm▸B1.u)));clear QD;cases hW:yz c with
 |
  true=>
  rw [hW]at Q1 MF;have iB:=jA (MF.u.trans (jP rfl));clear hW MF;go_wp2_with (first
   |(refine xy rfl 24 _ rfl B _ _ _ _ rfl X1 underlying24 rfl xt ?_)
   |(go_at_call 28;refine Q1.u.mono ?_;rintro e w3 ⟨b3,h3⟩;rw [jP rfl]at h3;subst h3)
   |(refine xg rfl rfl 62 _ _ rfl w3.heap.size #[.string ⟨#[]⟩,.slice none 0 0,.int .i64 0,.int .i64 0,.int .i64 0,.slice none 0 0,.slice none 0 0] #[.string ⟨#[]⟩,.slice none 0 0,.int .i64 0,.int .i64 0,.int .i64 0,.slice none 0 0,.slice none 0 0] 62 rfl rfl (xh rfl) rfl zQ (XN _ _ _ _ _ _ _ rfl rfl rfl rfl rfl rfl rfl) ?_;intro w4 ho hp;have y5:w4.cell? ⟨w3.heap.size,5,none⟩=some (.slice none 0 0):=jM w4 w3.heap.size 5 _ _ _ hp))
  go_ret2
  have b4:O0 w3.heap.size w3 w4:=xl ((jN _ _).alloc (jO _) _) ho (jO _);have hE:Vt c T=2:=iB.u;exact⟨by rw [HB.u];exact B1.u.trans ((b3.mono (jX mt)).trans (b4.mono (by have:=b3.size;omega))),by rw [jQ (by rw [hE];decide),hE];rfl⟩
 |
  false=>
  rw [hW]at Q1 MF;have HW:=jA hW;clear hW;have gB:=jA (MF.u.trans (jQ (by decide)));clear MF;go_upto_region 2 with(first
   |(refine xy rfl 24 _ rfl B _ _ _ _ rfl X1 underlying24 rfl xt ?_)
   |(go_at_call 28;refine Q1.u.mono ?_;rintro e w3 ⟨b3,h3⟩;rw [jQ (by decide)]at h3;obtain⟨O,P,oO,cO,oP,cP,hO,hP,dz,GU,rfl⟩:=h3;have HO:=jA hO;have HP:=jA hP;have BH:=jA dz;have HIP:=jA GU;clear hP GU hO dz)
   |(refine xg rfl rfl 62 _ _ rfl w3.heap.size #[.string ⟨#[]⟩,.slice none 0 0,.int .i64 0,.int .i64 0,.int .i64 0,.slice none 0 0,.slice none 0 0] #[.string ⟨c.nm.toArray⟩,.slice oa c.op.length cap,.int .i64 c.rl,.int .i64 c.se,.int .i64 c.mo,.slice oO O.length cO,.slice oP P.length cP] 62 rfl rfl (xh rfl) rfl zQ (XN _ _ _ _ _ _ _ rfl rfl rfl rfl rfl rfl rfl) ?_;intro w4 ho hp;have y5:w4.cell? ⟨w3.heap.size,5,none⟩=some (.slice oO O.length cO):=jM w4 w3.heap.size 5 _ _ _ hp))
  have b4:O0 w3.heap.size w3 w4:=xl ((jN _ _).alloc (jO _) _) ho (jO _);have cT:=b3.size;have hW0:w.heap.size≤w1.heap.size:=by rw [HB.u];omega
  have NK:O0 w1.heap.size w1 w4:=b3.trans (b4.mono cT);have B4:=jA (B1.u.trans (NK.mono (jX mt)));have X4:=xe NK mt X1;have k1:w4.cell? ⟨B,1,none⟩=some (.slice oa c.op.length cap):=jM w4 B 1 _ _ _ X4;have k3:w4.cell? ⟨B,3,none⟩=some (.int .i64 c.se):=jM w4 B 3 _ _ _ X4;have Oz:=jA (BH.u.below b4);have IP:=jA (HIP.u.below b4);have IT:=jA (HT.u.below (HB.u.symm▸B4.u));have RD:=jA hp;have sF:w3.heap.size<w4.heap.size:=xZ hp;have hBD:B<w3.heap.size:=by omega
  clear ho hp b3 b4 NK X1 X4 y5 BH HIP Q1 cT hW0;generalize w3.heap.size=D at*;clear w3 mt B1;by_cases Ds:T.length=c.op.length;case neg=>
   have hE:=jA (gB.u.trans (jP Ds));have e1:((T.length:Int) !=(c.op.length:Int))=true:=by rw [ju];omega
   have e2:(T.length !=c.op.length)=true:=by rw [ju];exact Ds
   clear gB Ds;go_wp2_with fail
   go_ret2
   exact⟨by rw [HB.u];exact B4.u,by rw [jQ (by rw [hE.u];decide),hE.u];rfl⟩
  have pL:=jA (gB.u.trans (jQ (fun h=>h Ds)));clear gB;have hn:1≤c.op.length∧c.op.length≤12∧1≤c.se∧c.se≤c.op.length:=by have:=HW.u;unfold yz at this;have:=qr this;omega
  have QM:=jA (jnV ot T ct w4 IT.u (by omega) (by omega));have e1:((T.length:Int) !=(c.op.length:Int))=false:=by rw [bne_eq_false_iff_eq];omega
  have e2:(T.length !=c.op.length)=false:=by rw [bne_eq_false_iff_eq];exact Ds
  have MC:=jA Ds;have HN:=jA hn;clear Ds hn;cases hg:jdk T with
  |
   true=>
   rw [hg]at pL;have hE:=jA (pL.u.trans (jP rfl));have HG:=jA hg;clear pL hg;go_wp2_with (go_at_call 99;refine QM.u.mono ?_;rintro e w5 ⟨⟨m,rfl,hm⟩,rfl⟩;have NQ:decide (m<0)=true:=hm.neg.trans HG.u)
   go_ret2
   exact⟨by rw [HB.u];exact B4.u,by rw [jQ (by rw [hE.u];decide),hE.u];rfl⟩
  |false=>
  rw [hg]at pL;have hE:=jA (pL.u.trans (jQ (by decide)));have HG:=jA hg;clear pL hg;go_upto_region 8 with(go_at_call 99;refine QM.u.mono ?_;rintro e w5 ⟨⟨m,rfl,hm⟩,rfl⟩;have NQ:decide (m<0)=false:=hm.neg.trans HG.u);clear e1 e2;clear hm NQ QM k1;have k5:w4.cell? ⟨D,5,none⟩=some (.slice oO O.length cO):=jM w4 D 5 _ _ _ RD.u;obtain⟨M,hM⟩: ∃M,M=w4.heap.size:=⟨_,rfl⟩;have nt:O0 M w4 w4.drew:=(jN _ _).drew;have hDM:D<M:=by omega
  have Gy:B<M:=by omega
  have HM:=jA hM;clear hM sF;have Oy:=HO.u.len
  have QS:=jA (fun w' (hx:O0 M w4 w')=>jhH T P O ⟨c.nm.toArray⟩ oa c.op.length cap c.rl c.se c.mo oO O.length cO oP cP oO cO ot ct w' (IT.u.below (HM.u▸hx)) (IP.u.below (HM.u▸hx)) (Oz.u.below (HM.u▸hx)) (fun x hx=>by rw [MC.u];exact HO.u.mem.1 hx) (by rw [MC.u,HP.u.1,Oy]) (fun x hx=>by have:=jma HO.u HP.u x hx;have:=HN.u;omega) (by have:=HN.u;omega) (by have:=HN.u;omega) (by have:=HN.u;have:=MC.u;omega) (xT (fun {a b} ha hb h he=>by
   have:=jkj HO.u HP.u (HO.u.mem.1 ha) (HO.u.mem.1 hb) he;subst this;exact YC _ _ _ h h) HO.u.srt))
  clear Oy;unfold jeH at QS;have d5: ∀x:xj M w4,x.w.cell? ⟨D,5,none⟩=some (.slice oO O.length cO):=fun x=>JO ⟨x,rfl⟩ hDM k5;have d3: ∀x:xj M w4,x.w.cell? ⟨B,3,none⟩=some (.int .i64 c.se):=fun x=>JO ⟨x,rfl⟩ Gy k3;clear k5 k3;refine Seg.xf (fun w'=> ∃x:xj M w4,w'=x.w) [([0,1,2,3,5,6],4)] [] 7 (by kernel_rfl) (by kernel_rfl) (fun _ _ d _ _ h=>by cases d<;>exact h) (⟨⟨_,nt⟩,rfl⟩) ?_;simp only [jK,Seg.opAt,Seg.xu];refine yY rfl 62 _ rfl D #[.string ⟨c.nm.toArray⟩,.slice oa c.op.length cap,.int .i64 c.rl,.int .i64 c.se,.int .i64 c.mo,.slice oO O.length cO,.slice oP P.length cP] _ _ _ rfl RD.u hDM underlying62 rfl zQ ?_;iterate 5 first|go_big_quiet_step (fail)|quiet_step (fail)
  refine jR ?_;intro K hK;simp only [Region.wanted,jY];go_wp2_with (go_at_call 100;refine(QS.u _ nt).mono ?_;rintro e w5 ⟨S,ob,cb,rfl,NM,Cu,nz,eK,dD⟩);have hx5:=nt.trans (dD.mono (kh HM.u));refine hK _ _ ⟨⟨_,hx5⟩,rfl⟩ ?_;have LH:=jA (jom HO.u HP.u Cu nz);have aC:=jA NM;have Oy:=HO.u.len;have hn:=HN.u;have mK:=LH.u.len;have z1:(0:Int)≤c.se:=by omega
  have z2:c.se≤(O.length:Int):=by omega
  have z3:c.se≤(cb:Int):=by omega
  have HX5:=jA hx5;clear hK K Cu nz NM nt hx5 dD QS;repeat (any_goals (first|go_big_quiet_step (fail)|quiet_step (fail)))
  refine jR ?_;go_wp2_with fail;have av:=jA (show(S.take c.se.toNat).length=c.se.toNat by rw [jf];omega)
  go_ret2
  refine⟨by rw [HB.u];exact B4.u.trans (HX5.u.mono (jX Gy)),?_⟩;rw [jP hE.u];refine⟨S,ob,cb,LH.u,aC.u.take _,?_⟩;rw [av.u];rfl
end Go.Proofs.YtnohcdpnnhmpfaaGreatDoor
namespace Go.Proofs.YtnohcdpnnhmpfaaGreatDoor.TR
open Go.RowKit Tryz ML FRP AU CT FM
variable{E:Int}{M i n:Nat}{O T:C0}{e:o0}{w w':m0}
def sm(x y:Int):Int:=wrap64 (x+y)
def Kt(T b:C0)(i:Nat):C0:=(List.range i).foldl (fun T j=>T.set j (sm (T.getD j 0) (b.getD j 0))) T
theorem Zy(T b:C0)(i:Nat):Kt T b (i+1)=(Kt T b i).set i (sm ((Kt T b i).getD i 0) (b.getD i 0)):=by
 unfold Kt;rw [qI,List.foldl_append];rfl
theorem jbg(T b:C0)(i:Nat):(Kt T b i).length=T.length:=by
 induction i with
 |zero=>rfl
 |succ i ih=>rw [Zy,kE,ih]
def Qr(n:Nat)(P:List (n0×C0)):C0:=P.foldl (fun T p=>Kt T p.2 n) (List.replicate n 0)
theorem jds(n:Nat)(P:List (n0×C0))(p:n0×C0):Qr n (P++ [p])=Kt (Qr n P) p.2 n:=by
 unfold Qr;rw [List.foldl_append];rfl
theorem jaj(n:Nat)(P:List (n0×C0)):(Qr n P).length=n:=by
 have Rv: ∀(P:List (n0×C0)) (T:C0),T.length=n→(P.foldl (fun T p=>Kt T p.2 n) T).length=n:=by
  intro P
  induction P with
  |nil=>intro T h;exact h
  |cons p P ih=>intro T h;exact ih _ (by rw [jbg];exact h)
 exact Rv P _ (vm ..)
theorem jhb(T:C0)(j:Nat)(h:j<T.length):(xq T)[j]?=some (.int .i64 (T.getD j 0)):=by
 simp [xq,h]
theorem Zw(h:w.heap[M]?=some (.cells (xq T).toArray e (0,0)))(j:Nat)(hj:j<T.length):w.cell? ⟨M,j,none⟩=some (.int .i64 (T.getD j 0)):=by
 rw [jM w M j _ _ _ h,jE,jhb T j hj]
theorem jes(h:w.heap[M]?=some (.cells (xq T).toArray e (0,0)))(j:Nat)(z:Int):(w.setCell ⟨M,j,none⟩ (.int .i64 z)).heap[M]?=some (.cells (xq (T.set j z)).toArray e (0,0)):=by
 rw [jd w M j _ _ _ h];congr 2;unfold xq;rw [vC,vJ]
theorem jcJ(h:w.heap[M]?=some (.cells (xq T).toArray e (0,0))):yW w (some ⟨M,0,none⟩) T:=⟨fun i hi=>⟨_,rfl,xZ h,by
 rw [qD,jv,Zw h i hi];simp [hi]⟩⟩
theorem jcK(n:Nat):madeCells #[Value.int .i64 0] n=(xq (Qr n [])).toArray:=by
 rw [←Array.toList_inj,List.toList_toArray,vW];show List.replicate n (Value.int .i64 0)=(List.replicate n 0).map _;rw [List.map_replicate]
def XC(n:Nat)(W:Mx)(O:C0)(i:Nat):Prop:=Top n W i∧ ∃k,k<O.length∧O.take (k+1)=O.take k++ [(i:Int)]∧ ∀x∈O.take k,¬Top n W x.toNat
theorem XC.unique{W W':Mx}{i':Nat}(hW: ∀a b,a<n→b<n→W a b=W' a b)(h:XC n W O i)(h':XC n W' O i'):i=i':=by
 have top: ∀a,Top n W a↔Top n W' a:=fun a=>by
  unfold Top;constructor
  ·rintro⟨h1,h2⟩;exact⟨h1,fun j hj=>by rw [←hW a j h1 hj,←hW j a hj h1];exact h2 j hj⟩
  ·rintro⟨h1,h2⟩;exact⟨h1,fun j hj=>by rw [hW a j h1 hj,hW j a hj h1];exact h2 j hj⟩
 obtain⟨t,k,hk,e,hb⟩:=h;obtain⟨t',k',hk',e',hb'⟩:=h';have mem: ∀{a b:Nat} {x:Nat},O.take (a+1)=O.take a++ [(x:Int)]→a+1≤b→(x:Int)∈O.take b:=by
  intro a b x he eu;have h1:(x:Int)∈O.take (a+1):=by rw [he];simp
  have h2:O.take (a+1)=(O.take b).take (a+1):=by rw [List.take_take,kP eu]
  rw [h2]at h1;exact qR h1
 rcases vf k k' with ns|rfl|ns
 ·have h1:=hb' _ (mem e ns);rw [ke]at h1;exact absurd ((top i).1 t) h1
 ·rw [e]at e';have h1:=List.append_cancel_left e';injection h1 with h1 _;exact Int.ofNat.inj h1
 ·have h1:=hb _ (mem e' ns);rw [ke]at h1;exact absurd ((top i').2 t') h1
def jgA(W:Mx)(i j:Nat):Bool:=(List.range j).all fun a=>decide (W a i≤W i a)
theorem jku(W:Mx)(i j:Nat):jgA W i (j+1)=(jgA W i j&&decide (W j i≤W i j)):=by
 unfold jgA;rw [qI,List.all_append];simp
theorem jgz{W:Mx}(hi:i<n):jgA W i n=true↔Top n W i:=by
 unfold jgA Top;rw [kw];constructor
 ·intro h;exact⟨hi,fun j hj ns=>by have:=qP (h j (jk.2 hj));omega⟩
 ·rintro⟨_,h⟩ a ha;exact jT (by have:=h a (jk.1 ha);omega)
def Yg(c:yH)(lots:Bytes)(T:C0)(w':m0)(v:n0)(E:Int):Prop:=
 if Vt c T=0 then ∃S oS cS,jbh c.op.length T (Kr c lots) S∧yW w' oS (S.take c.se.toNat)∧v=.slice oS (S.take c.se.toNat).length cS∧E=0
 else v=.slice none 0 0∧E=Vt c T
theorem Xa.fin {c:yH}{lots:Bytes}{e:Ending}(h:Xa c lots T w e w'): ∃v E,e=.returned (.tuple #[v,.int .i64 E])∧Yg c lots T w' v E∧O0 w.heap.size w w':=by
 obtain⟨hb,h⟩:=h;by_cases h0:Vt c T=0
 ·rw [jP h0]at h;obtain⟨S,oS,cS,h1,h2,rfl⟩:=h;exact⟨_,_,rfl,by unfold Yg;rw [jP h0];exact⟨S,oS,cS,h1,h2,rfl,rfl⟩,hb⟩
 ·rw [jQ h0]at h;exact⟨_,_,h,by unfold Yg;rw [jQ h0];exact⟨rfl,rfl⟩,hb⟩
def kept(c:yH)(P:List (n0×C0)):List (n0×C0):=P.filter (zB (c.rule c.rl))
def jeJ(c:yH)(P:List (n0×C0))(lots:Bytes)(w':m0)(v:n0)(E:Int):Prop:=
 if c.rl=3 then ∃(O:C0) (R:List Rd) (S:St) (oE:s0) (cE:Nat),Ord c.op.length (Kr c lots) O∧
  XF c.op.length (kept c P).length c.se.toNat (zW (kept c P).length c.se.toNat) (O.map Int.toNat) (S0 c.op.length (yT (kept c P)) (kept c P).length) R S∧
  End (kept c P).length c.se.toNat (zW (kept c P).length c.se.toNat) (O.map Int.toNat) S∧v=.slice oE (yK S.el).length cE∧E=0∧yW w' oE (yK S.el)
 else if c.rl=4 then ∃(O:C0) (W:Mx) (i:Nat) (oo:s0) (co:Nat),Ord c.op.length (Kr c lots) O∧JS (Ks (zv (kept c P))) c.op.length W∧XC c.op.length W O i∧v=.slice oo 1 co∧E=0∧yW w' oo [(i:Int)]
 else Yg c lots (Qr c.op.length (kept c P)) w' v E
def Je(c:yH)(P:List (n0×C0))(lots:Bytes)(w:m0)(e:Ending)(w':m0):Prop:=
 O0 w.heap.size w w'∧ ∃v E,e=.returned (.tuple #[v,.int .i64 E])∧if prE c P=0 then jeJ c P lots w' v E else v=.slice none 0 0∧E=prE c P
theorem Je.bad {c:yH}{P:List (n0×C0)}{lots:Bytes}(hE:prE c P=E)(h0:E≠0)(hb:O0 w.heap.size w w'):Je c P lots w (.returned (.tuple #[.slice none 0 0,.int .i64 E])) w':=
 ⟨hb,_,_,rfl,by rw [hE,jQ h0];exact⟨rfl,rfl⟩⟩
theorem Je.tr {c:yH}{P:List (n0×C0)}{lots:Bytes}(hE:prE c P=0)(h3:c.rl=3)(hb:O0 w.heap.size w w'){R:List Rd}{S:St}{oE:s0}{cE:Nat}(hO:Ord c.op.length (Kr c lots) O)
 (hR:XF c.op.length (kept c P).length c.se.toNat (zW (kept c P).length c.se.toNat) (O.map Int.toNat) (S0 c.op.length (yT (kept c P)) (kept c P).length) R S)
 (hD:End (kept c P).length c.se.toNat (zW (kept c P).length c.se.toNat) (O.map Int.toNat) S) (hn:n=(yK S.el).length) (hI:yW w' oE (yK S.el)):Je c P lots w (.returned (.tuple #[.slice oE n cE,.int .i64 0])) w':=
 ⟨hb,_,_,rfl,by rw [jP hE];unfold jeJ;rw [jP h3];exact⟨O,R,S,oE,cE,hO,hR,hD,by rw [hn],rfl,hI⟩⟩
theorem Je.pr {c:yH}{P:List (n0×C0)}{lots:Bytes}(hE:prE c P=0)(h4:c.rl=4)(hb:O0 w.heap.size w w'){W:Mx}{oo:s0}{co:Nat}(hO:Ord c.op.length (Kr c lots) O)
 (hS:JS (Ks (zv (kept c P))) c.op.length W) (hF:XC c.op.length W O i) (hI:yW w' oo [(i:Int)]):Je c P lots w (.returned (.tuple #[.slice oo 1 co,.int .i64 0])) w':=
 ⟨hb,_,_,rfl,by rw [jP hE];unfold jeJ;rw [jQ (by omega),jP h4];exact⟨O,W,i,oo,co,hO,hS,hF,rfl,rfl,hI⟩⟩
theorem Je.ms {c:yH}{P:List (n0×C0)}{lots:Bytes}(hE:prE c P=0)(h3:c.rl≠3)(h4:c.rl≠4)(hb:O0 w.heap.size w w'){v:n0}(h:Yg c lots (Qr c.op.length (kept c P)) w' v E):Je c P lots w (.returned (.tuple #[v,.int .i64 E])) w':=
 ⟨hb,_,_,rfl,by rw [jP hE];unfold jeJ;rw [jQ h3,jQ h4];exact h⟩
theorem jgV {k:Nat}{W:Mx}(hO: ∀x∈O,0≤x∧x<n)(ht:Top n W i)(hk:k<O.length)(he:O.take (k+1)=O.take k++ [(i:Int)])(hb: ∀x∈O.take k,O.any (Kf W x.toNat)=true):XC n W O i:=
 ⟨ht,k,hk,he,fun x hx h=>by have:=hb x hx;rw [jeF hO h]at this;cases this⟩
theorem Je.same {c:yH}{P:List (n0×C0)}{lots:Bytes}{w1 Fu:m0}{e e':Ending}(h:Je c P lots w e w')(h':Je c P lots w1 e' Fu): ∃(L:C0) (E:Int) (oo GS:s0) (co CZ:Nat),e=.returned (.tuple #[.slice oo L.length co,.int .i64 E])∧e'=.returned (.tuple #[.slice GS L.length CZ,.int .i64 E])∧yW w' oo L∧yW Fu GS L∧L.length≤c.op.length:=by
 obtain⟨_,v,E,rfl,h⟩:=h;obtain⟨_,v',E',rfl,h'⟩:=h';have nil: ∀w:m0,yW w none []:=fun w=>⟨fun i hi=>by simp at hi⟩;by_cases h0:prE c P=0;case neg=>
  rw [jQ h0]at h h';obtain⟨rfl,rfl⟩:=h;obtain⟨rfl,rfl⟩:=h';exact⟨[],_,none,none,0,0,rfl,rfl,nil _,nil _,ja _⟩
 rw [jP h0]at h h';unfold jeJ at h h';by_cases h3:c.rl=3
 ·rw [jP h3]at h h';obtain⟨O,R,S,oE,cE,hO,hR,hD,rfl,rfl,hI⟩:=h;obtain⟨O',R',S',oE',cE',hO',hR',hD',rfl,rfl,hI'⟩:=h';obtain rfl:O=O':=hO.unique hO';obtain⟨rfl,rfl⟩:=hR.unique hD hR' hD'
  exact⟨yK S.el,0,oE,oE',cE,cE',rfl,rfl,hI,hI',by
   rw [yn];have h1:=hD.2;have h2:yz c=false:=by
    unfold prE at h0;cases hw:yz c with
    |true=>rw [hw,jP rfl]at h0;cases h0
    |false=>rfl
   have h3:=Xq h2;omega⟩
 rw [jQ h3]at h h';by_cases h4:c.rl=4
 ·rw [jP h4]at h h';obtain⟨O,W,i,oo,co,hO,hS,hF,rfl,rfl,hI⟩:=h;obtain⟨O',W',i',GS,CZ,hO',hS',hF',rfl,rfl,hI'⟩:=h';obtain rfl:O=O':=hO.unique hO';obtain rfl:i=i':=hF.unique (fun a b ha hb=>hS.unique hS' a b ha hb) hF';exact⟨_,0,oo,GS,co,CZ,rfl,rfl,hI,hI',by show 1≤_;have:=hF.1.1;omega⟩
 rw [jQ h4]at h h';unfold Yg at h h';by_cases hm:Vt c (Qr c.op.length (kept c P))=0
 ·rw [jP hm]at h h';obtain⟨S,oS,cS,hB,hI,rfl,rfl⟩:=h;obtain⟨S',oS',cS',hB',hI',rfl,rfl⟩:=h';obtain rfl:S=S':=hB.unique hB';exact⟨_,0,oS,oS',cS,cS',rfl,rfl,hI,hI',by rw [jf,hB.len];exact Nat.min_le_right _ _⟩
 ·rw [jQ hm]at h h';obtain⟨rfl,rfl⟩:=h;obtain⟨rfl,rfl⟩:=h';exact⟨[],_,none,none,0,0,rfl,rfl,nil _,nil _,ja _⟩
end Go.Proofs.YtnohcdpnnhmpfaaGreatDoor.TR
