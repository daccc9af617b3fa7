/- (exact.Nat).Div. -/
import Derived.Test.YtnohcdpnnhmpfaaGreatDoorE05
import Derived.Deep.QuietTactic
set_option linter.all false
set_option maxRecDepth 100000
set_option maxHeartbeats 8000000
namespace Go.Proofs.YtnohcdpnnhmpfaaGreatDoor
open Go.RowKit Tryz ML NL
variable{B0 base g gq i k n v:Nat}{L Q R W:E0}{T e:o0}{cs gv:t0}{oc od:s0}{w w2 wr:m0}
theorem Zg{cc:Nat}(h:w.ownsRow base e 1 (.slice oc n cc) n (yQ L)):L.length=n∧LimbsAt w oc L∧(∀a,oc=some a→base≤a.block∧a.block<w.heap.size)∧n≤cc:=by
 have hl:L.length=n:=by have:=h.1;rw [Kj]at this;omega
 subst hl;obtain⟨oc2,cc2,he,EB,hb,hI⟩:=XQ h;simp only [Value.slice.injEq]at he;obtain⟨rfl,_,rfl⟩:=he;refine⟨rfl,hI,fun a ha=>⟨hb a ha,?_⟩,EB⟩;rcases h.2 with⟨hv,_⟩|⟨g,cap,Es,hv,_,hg,_⟩;·rw [ha]at hv;simp at hv
 ·rw [ha]at hv;simp only [Value.slice.injEq,Option.some.injEq]at hv;rw [hv.1];exact xZ hg
theorem jkr{v:n0}(h:w.ownsRow base e 1 v L.length (yQ L))(h0:L≠ []): ∃g cc cs,v=.slice (some ⟨g,0,none⟩) L.length cc∧base≤g∧w.heap[g]?=some (.cells cs e (0,0))∧KL cs 0 L∧L.length≤cc∧cs.size=cc:=by
 rcases h.2 with⟨hv,h1⟩|⟨g,cap,Es,hv,hb,hg,px,hm,hc,ht⟩;·exact absurd (kt.1 h1) h0
 ·rw [qS]at ht hc;exact⟨g,cap,Es,hv,hb,hg,jdF ht,px,hc⟩
theorem jhL(h:KL cs 0 R)(hi:i+k≤R.length):KL cs i ((R.drop i).take k):=by
 intro j hj;rw [jf,kQ]at hj;have:=h (i+j) (by omega);rw [jv]at this;rw [this];have mM:j<k:=by omega
 simp [lAt,jV,vF,mM]
theorem jjR {w':m0}(h:KL cs 0 R)(hU:JR w w' g i T cs gv k)(hW:KL gv i W)(hl:W.length=k)(hi:i+k≤R.length):KL gv 0 (Yt R W i):=by
 intro j hj;rw [Yx (by omega)]at hj;rw [jv];have e1:(R.take i).length=i:=by rw [jf];omega
 rcases jw j i with h1|h1
 ·rw [hU.u j (.inl h1)];have:=h j hj;rw [jv]at this;rw [this];simp [lAt,Yt,jV,List.getElem?_append,e1,h1,hj]
 ·rcases jw j (i+k)with h2|h2
  ·have:=hW (j-i) (by omega);rw [show i+(j-i)=j by omega]at this;rw [this];have h3:j-i<W.length:=by omega
   have h4: ¬j<i:=by omega
   simp [lAt,Yt,jV,List.getElem?_append,e1,h3,h4]
  ·rw [hU.u j (.inr h2)];have:=h j hj;rw [jv]at this;rw [this];have h3: ¬j-i<W.length:=by omega
   have h4: ¬j<i:=by omega
   have h5:i+W.length+(j-i-W.length)=j:=by omega
   simp [lAt,Yt,jV,List.getElem?_append,e1,h3,h4,vF,h5]
theorem jcw(R:E0)(i k j:Nat)(hj:j<k):lAt ((R.drop i).take k) j=lAt R (i+j):=by
 simp [lAt,jV,vF,hj]
structure jac(B0:Nat)(w wr:m0)(g gq:Nat)(od:s0)(v:Nat)(R Q:E0):Prop where
 bel:O0 B0 w wr
 div:LimbsAt wr od (dig v)
 dlt: ∀a,od=some a→a.block<g
 rest: ∃cs:t0,wr.heap[g]?=some (.cells cs 180 (0,0))∧KL cs 0 R
 quot:wr.heap[gq]?=some (.cells (yQ Q).toArray 180 (0,0))
 ne:g<gq
 base:B0≤g
theorem jac.below(H:jac B0 w wr g gq od v R Q)(hb:O0 wr.heap.size wr w2):jac B0 w w2 g gq od v R Q:=by
 obtain⟨cs,h1,h2⟩:=H.rest;have:=xZ h1;have:=H.base;exact⟨H.bel.trans (hb.mono (by omega)),H.div.below hb,H.dlt,⟨cs,xe hb (xZ h1) h1,h2⟩,xe hb (xZ H.quot) H.quot,H.ne,H.base⟩
theorem JR.trans {w1:m0}{d o:Nat}{cs1 cs2:t0}(h:JR w w1 d o T cs cs1 n)(k:JR w1 w2 d o T cs1 cs2 n):JR w w2 d o T cs cs2 n:=
 ⟨h.only.trans k.only,k.heap,k.size.trans h.size,fun j hj=>(k.u j hj).trans (h.u j hj)⟩
theorem jac.turned(H:jac B0 w wr g gq od v R Q)(hr:KL cs 0 R)
 (U:JR wr w2 g i 180 cs gv k) (hW:KL gv i W) (hl:W.length=k) (hi:i+k≤R.length):jac B0 w w2 g gq od v (Yt R W i) Q:=
 ⟨xl H.bel U.only H.base,H.div.only U.only (fun a h=>Nat.ne_of_lt (H.dlt a h)),H.dlt,⟨gv,U.heap,jjR hr U hW hl hi⟩,U.only.keep (Nat.ne_of_gt H.ne) H.quot,H.ne,H.base⟩
theorem jac.limb(H:jac B0 w wr g gq od v R Q)(i q:Nat):jac B0 w (wr.setCell ⟨gq,i,none⟩ (.int .u32 (q:Int))) g gq od v R (Q.set i q):=by
 have O:=(yG.refl gq wr).setCell i (.int .u32 (q:Int));obtain⟨cs,h1,h2⟩:=H.rest;have:=H.ne;exact⟨xl H.bel O (by have:=H.base;omega),H.div.only O (fun a h=>by have:=H.dlt a h;omega),H.dlt,⟨cs,O.keep (by omega) h1,h2⟩,ZO H.quot i q,H.ne,H.base⟩
theorem jgZ(x y:Nat)(oa ob:s0)(ca cb:Nat)(w:m0)(Uu:x<y)(ha:LimbsAt w oa (dig x))(hb:LimbsAt w ob (dig y))(hx:(dig x).length<1099511627775)(hy:(dig y).length<1099511627775):
 Calls prog 137 #[.slice oa (dig x).length ca,.slice ob (dig y).length cb] w fun e w'=> ∃oq cq or cr,e=.returned (.tuple #[.slice oq (dig (x/y)).length cq,.slice or (dig (x%y)).length cr])∧LimbsAt w' oq (dig (x/y))∧LimbsAt w' or (dig (x%y))∧O0 w.heap.size w w':=by
 have QC:=jA (YL x y oa ob ca cb w ha hb (by omega) (by omega));rw [XV Uu]at QC;have QL:=jA (fun w h=>jbD (dig x) oa ca w h (by omega));have HA:=jA ha;have e1:=jA (Nat.div_eq_of_lt Uu);have e2:=jA (kl Uu);clear Uu ha hb;go_enter Tryz.func137,Tryz.ntmps137;go_upto_region 2 with(go_at_call 95;refine QC.u.mono ?_;rintro e w1 ⟨rfl,et⟩);go_wp2_with (go_at_call 175;refine(QL.u w1 (HA.u.below et)).mono ?_;rintro e w2 ⟨v,rfl,hv⟩)
 go_ret2
 rw [e1.u,e2.u,yi];rcases hv with⟨_,hL,rfl,rfl⟩|⟨g,cc,cs,rfl,hg,hh,hr,EB,bel⟩
 ·rw [hL];exact⟨none,0,none,0,rfl,LimbsAt.nil,LimbsAt.nil,et⟩
 ·exact⟨none,0,_,_,rfl,LimbsAt.nil,Yr hh hr,et.trans (bel.mono et.size)⟩
theorem jmj {y:Nat}(h:(dig y).length=1):lAt (dig y) 0=y∧0<y∧y<1000000000:=by
 have e:=yJ (dig y) 0;rw [je (by omega),yR]at e;simp [val]at e;have h1:=yP (yN y) 0;have h2:=jbd (n:=y) (by intro h0;rw [h0]at h;simp at h);rw [h]at h2;refine⟨?_,jW (by decide) h2,?_⟩;·unfold lAt;rw [jV];exact e.symm
 ·rw [e];rw [jV]at h1;exact h1
theorem jiB(x y:Nat)(oa ob:s0)(ca cb:Nat)(w:m0)(Uu:y≤x)(h1:(dig y).length=1)(ha:LimbsAt w oa (dig x))(hb:LimbsAt w ob (dig y))(hx:(dig x).length<1099511627775)(hy:(dig y).length<1099511627775):
 Calls prog 137 #[.slice oa (dig x).length ca,.slice ob (dig y).length cb] w fun e w'=> ∃oq cq or cr,e=.returned (.tuple #[.slice oq (dig (x/y)).length cq,.slice or (dig (x%y)).length cr])∧LimbsAt w' oq (dig (x/y))∧LimbsAt w' or (dig (x%y))∧O0 w.heap.size w w':=by
 have QC:=jA (YL x y oa ob ca cb w ha hb (by omega) (by omega));have gy: ¬Ja x y<0:=by
  unfold Ja;rw [jQ (by omega)];split<;>omega
 obtain⟨WF,Uv,hy9⟩:=jmj h1;obtain⟨b0,Mw,Iy⟩:=hb.get 0 (by omega);have CC:w.cell? (b0.add 0)=some (.int .u32 ((lAt (dig y) 0:Nat):Int)):=Iy;rw [WF]at CC;have my:b0.block<w.heap.size:=by
  obtain⟨a1,h2,h3,_⟩:=hb.cells 0 (by omega);rw [Mw]at h2;cases h2;exact h3
 have QB:=jA (fun w h=>jha x y oa ca w h (by omega) Uv hy9);have QO:=jA (fun n (hn:n<1000000000) w=>jaB n w (by omega));have HA:=jA ha;have hm9:=jA (show x%y<1000000000 by have:=qL x Uv;omega);subst Mw;clear Uu ha hb Iy WF;generalize Ja x y=c at*;rw [h1]at QC ⊢;clear h1;go_enter Tryz.func137,Tryz.ntmps137;go_upto_region 3 with(go_at_call 95;refine QC.u.mono ?_;rintro e w1 ⟨rfl,et⟩);have LD:w1.cell? (b0.add 0)=some (.int .u32 (y:Int)):=by rw [et.cell (p:=b0.add 0) (by rw [yo];exact my)];exact CC
 rw [show b0.add 0=b0 by unfold Addr.add;exact jP rfl]at LD;clear CC QC;go_upto_region 5 with(go_at_call 176;refine(QB.u w1 (HA.u.below et)).mono ?_;rintro e w2 ⟨oq,cq,m,rfl,hm,hI2, -,us⟩;have HM:=jA hm;clear hm);have hm8:m<1000000000:=by rw [HM.u];exact hm9.u
 clear QB;go_wp2_with (go_at_call 96;refine(QO.u m hm8 w2).mono ?_;rintro e w3 ⟨or,cr,rfl,UD, -,ws⟩)
 go_ret2
 rw [←HM.u];exact⟨oq,cq,or,cr,rfl,hI2.below ws,UD,et.trans ((us.trans (ws.mono us.size)).mono et.size)⟩
theorem jfT(L:E0)(j:Nat):yQ (L++List.replicate j 0)++yQ [0]=yQ (L++List.replicate (j+1) 0):=by
 rw [Jj,kY,List.replicate_succ']
theorem jpo(t:Nat):(1000000000:Int)/((t:Int)+1)=((1000000000/(t+1):Nat):Int):=(Int.natCast_ediv 1000000000 (t+1)).symm
theorem jeD(a:Addr)(n:Nat):a.add (n+1)=⟨a.block,a.off+(n+1),none⟩:=by unfold Addr.add;exact jQ (by omega)
theorem yl(B:Nat)(w:m0)(n:Nat):O0 B w (w.drewN n):=⟨rfl,rfl,rfl,jO _,fun _ _=>rfl⟩
theorem jiA(x y k:Nat)(oa ob:s0)(ca cb:Nat)(w:m0)(Uu:y≤x)(hk:(dig y).length=k+2)(ha:LimbsAt w oa (dig x))(hb:LimbsAt w ob (dig y))(hx:(dig x).length<1099511627775)(hy:(dig y).length<1099511627775):
 Calls prog 137 #[.slice oa (dig x).length ca,.slice ob (dig y).length cb] w fun e w'=> ∃oq cq or cr,e=.returned (.tuple #[.slice oq (dig (x/y)).length cq,.slice or (dig (x%y)).length cr])∧LimbsAt w' oq (dig (x/y))∧LimbsAt w' or (dig (x%y))∧O0 w.heap.size w w':=by
 obtain⟨i0,hi,Is,Ts,Ns⟩:=info_parts QJ;have HI:=jA hi;have Dt:=jA Is;have Ct:=jA Ts;have Bt:=jA Ns;clear hi Is Ts Ns;have QC:=jA (YL x y oa ob ca cb w ha hb (by omega) (by omega));have gy: ¬Ja x y<0:=by
  unfold Ja;rw [jQ (by omega)];split<;>omega
 obtain⟨u,hu,hu1,hu9,eJ,half⟩:=jmF y k hk;obtain⟨b0,Mw,Iy⟩:=hb.get (k+1) (by omega);have my:b0.block<w.heap.size:=by
  obtain⟨a1,h2,h3,_⟩:=hb.cells 0 (by omega);rw [Mw]at h2;cases h2;exact h3
 have hlyx:(dig y).length≤(dig x).length:=by
  rcases jw (dig x).length (dig y).length with h|h;·have:=JT h;omega
  ·exact h
 have hXl:(dig (x*u)).length≤(dig x).length+1:=by
  refine yO _ _ ?_;rw [js];have h1:=xz x;exact Nat.mul_lt_mul'' h1 hu9
 have CC:w.cell? (b0.add (k+1))=some (.int .u32 ((lAt (dig y) (k+1):Nat):Int)):=Iy;have ht9:lAt (dig y) (k+1)<1000000000:=yP (yN y) _;have hui:(1000000000:Int)/((lAt (dig y) (k+1):Int)+1)=(u:Int):=by
  have:u=1000000000/(lAt (dig y) (k+1)+1):=hu;rw [this];exact jpo _
 have QY:=jA (fun w h=>ZC y u ob cb w h (by omega) hu9);have QX:=jA (fun w h=>ZC x u oa ca w h (by omega) hu9);have HA:=jA ha;have Eu:=jA hb;have HK:=jA hk;have LB:=jA eJ;have HALF:=jA half;subst Mw;clear Uu ha hb Iy hu half eJ;generalize Ja x y=c at*;generalize lAt (dig y) (k+1)=t at*;rw [hk]at QC hy hlyx;rw [hk];clear hk;go_enter Tryz.func137,Tryz.ntmps137;go_upto_region 6 with(go_at_call 95;refine QC.u.mono ?_;rintro e w1 ⟨rfl,et⟩);have LD:w1.cell? (b0.add (k+1))=some (.int .u32 (t:Int)):=by rw [et.cell (p:=b0.add (k+1)) (by rw [yo];exact my)];exact CC
 rw [jeD]at LD;clear CC QC;go_upto_region 7 with(fail);clear LD;have hY:=QY.u w1 (Eu.u.below et);rw [HK.u,LB.u]at hY;have HY:=jA hY;clear QY hY hui;go_upto_region 8 with(go_at_call 177;refine HY.u.mono ?_;rintro e w2 ⟨od,cd,rfl,own2,us⟩);clear HY;have fE:=et.trans (us.mono et.size);obtain⟨-,hI2,iI,hcd⟩:=Zg own2;have QX2:=jA (QX.u w2 (HA.u.below fE));have DH:=jA hI2;have HFD:=jA iI;clear QX et us own2 hI2 iI;go_upto_region 9 with(first
  |(go_at_call 177;refine QX2.u.mono ?_;rintro e w3 ⟨oe,ce,rfl,Tu,ws⟩;have bsz3:=ws.size)
  |(at_builtin;refine kV _ rfl (.tmp 53) (.tmp 54) 88 rfl w2.heap.size 180 i0 (.int .u32 0) 1 4 underlying88 HI.u Dt.u Ct.u Bt.u rfl (by decide) (.slice oe (dig (x*u)).length ce) (dig (x*u)).length (yQ (dig (x*u))) rfl (Tu.alloc _) ⟨w3.heap.size,0,none⟩ 1 1 (yQ [0]) rfl rfl ?c1 ?c2 ?c3 ?c4 ?c5 ?_))
 case c1=>exact KW w3 [0] _ _ rfl
 case c2=>exact KX _
 case c3=>unfold maxLen;omega
 case c4=>omega
 case c5=>first|omega|(simp;omega)
 intro v5 w5 Hs ru _;have Gs:O0 w2.heap.size w2 w5:=(ws.alloc bsz3 _).grown ru (by simp;omega) (fun q hq=>(Tu.lt q hq).1);have e1:yQ (dig (x*u))++yQ [0]=yQ (dig (x*u)++List.replicate 1 0):=by rw [Jj];rfl
 rw [e1]at Hs;have iu:=jA Hs;have HXL:=jA hXl;clear Hs Tu ru ws bsz3 e1 QX2;generalize hX:dig (x*u)=DX at*;have HX:=jA hX;clear hX;go_upto_region 9 with(fail);go_loopw [5] (fun v wr=> ∃j:Nat,1≤j∧DX.length+j≤(dig x).length+2∧O0 w2.heap.size w2 wr∧wr.ownsRow w2.heap.size 180 1 v (DX.length+j) (yQ (DX++List.replicate j 0))) (fun v _=>match v with| .slice _ n _=>(dig x).length+1-n|_=>0);case atStart=>exact⟨1,jO _,by have:=HXL.u;omega,Gs,iu.u⟩
 case round=>
 obtain⟨j,hj1,By,bel,own⟩:=hrel;clear Gs iu;have CJ:(DX++List.replicate j 0).length=DX.length+j:=by simp
 obtain⟨g,cc,cs,rfl,nZ,mZ,eO,EB,Dz⟩:=jkr (L:=DX++List.replicate j 0) (by rw [CJ];exact own) (by intro h;rw [h]at CJ;simp at CJ;omega);rw [CJ]at EB own ⊢;have EF:=bel.size;by_cases hm:DX.length+j<(dig x).length+1
 ·have hdm:decide (((DX.length+j:Nat):Int)<((dig x).length:Int)+1)=true:=by simp;omega
  have hdm2:decide ((DX.length:Int)+(j:Int)<((dig x).length:Int)+1)=true:=by simp;omega
  have WW:=jA own;clear own eO mZ;go_upto_region 99 with(at_builtin;refine kV _ rfl (.tmp 62) (.tmp 63) 88 rfl w2.heap.size 180 i0 (.int .u32 0) 1 4 underlying88 HI.u Dt.u Ct.u Bt.u rfl (by decide) (.slice (some ⟨g,0,none⟩) (DX.length+j) cc) (DX.length+j) (yQ (DX++List.replicate j 0)) rfl (WW.u.alloc _) ⟨wr.heap.size,0,none⟩ 1 1 (yQ [0]) rfl rfl ?c1 ?c2 ?c3 ?c4 ?c5 ?_);case c1=>exact KW wr [0] _ _ rfl
  case c2=>exact KX _
  case c3=>unfold maxLen;have:=HXL.u;omega
  case c4=>omega
  case c5=>first|omega|(simp;omega)
  intro v5 w5 Hs ru _;have Gs:O0 w2.heap.size w2 w5:=(bel.alloc EF _).grown ru (by simp;omega) (fun q hq=>(WW.u.lt q hq).1);rw [jfT]at Hs;have iu:w5.ownsRow w2.heap.size 180 1 v5 (DX.length+(j+1)) (yQ (DX++List.replicate (j+1) 0)):=Hs;have hv5: ∃o c,v5=.slice o (DX.length+(j+1)) c:=by
   rcases Hs.2 with⟨hv,h1⟩|⟨g,cap,Es,hv,_⟩;·omega
   ·exact⟨_,_,hv⟩
  obtain⟨o5,c5,rfl⟩:=hv5;clear Hs ru bel WW;go_wp2_with fail;go_roundw;case rel=>exact⟨j+1,by omega,by omega,Gs,iu⟩
  case measure=>simp;omega
 ·have hdm:decide (((DX.length+j:Nat):Int)<((dig x).length:Int)+1)=false:=by simp;omega
  have hdm2:decide ((DX.length:Int)+(j:Int)<((dig x).length:Int)+1)=false:=by simp;omega
  obtain⟨s,hs⟩: ∃s,s+(k+2)=DX.length+j:=⟨DX.length+j-(k+2),by omega⟩;have hsi:(DX.length:Int)+(j:Int)-((k:Int)+2)=(s:Int):=by omega
  have sD:1000000000^(k+1)≤y*u:=by
   have h1:=jbd (n:=y*u) (by intro h;have:=LB.u;rw [h]at this;simp at this);rw [LB.u]at h1;exact h1
  have S0:VO (x*u) (y*u) (k+2) s (DX++List.replicate j 0) (List.replicate s 0):=by
   refine VO.init (by rw [CJ];omega) ?_ ?_ sD (by omega) ?_
   ·rw [←HX.u];intro d hd;rcases jj.1 hd with h|h;·exact yN _ d h
    ·exact Qe j d h
   ·rw [zP,Xu,←HX.u,yR,Nat.mul_zero,qq]
   ·rw [hs,jV,kZ (by omega),qU];split<;>rfl
  have dS:=jA S0;have HRI:=jA eO;have HGC:=jA mZ;clear own eO mZ S0 sD CJ;go_upto_region 12 with(refine wpList_make_row _ rfl _ _ 88 rfl 180 i0 (.int .u32 0) underlying88 HI.u Dt.u Ct.u rfl .i64 .i64 s rfl rfl (by rw [Bt.u];omega) (by omega) ?_);rw [Zp];have GV:=fE.trans (bel.mono fE.size);have wK:w.heap.size≤wr.heap.size:=GV.size;have hgw:g<wr.heap.size:=xZ HGC.u;have D0:jac w.heap.size w (wr.alloc (.cells (yQ (List.replicate s 0)).toArray 180)) g wr.heap.size od (y*u) (DX++List.replicate j 0) (List.replicate s 0):=
   ⟨GV.alloc wK _,DH.u.below ((bel.alloc EF _)),fun a h=>jW (HFD.u a h).2 nZ,⟨cs,yM HGC.u,HRI.u⟩,xh rfl,hgw,jU fE.size nZ⟩
  generalize hB:wr.heap.size=gq at*;refine xr (fun w6=>jac w.heap.size w w6 g gq od (y*u) (DX++List.replicate j 0) (List.replicate s 0)) D0 (fun w6 D6=>?_);have D6H:=jA D6;clear D0 GV wK hgw bel HGC HRI DH HFD hB fE EF HXL;obtain⟨d0,hod,lF⟩:=D6.div.get (k+1) (by rw [LB.u];omega);obtain⟨Mz,wT,mI⟩:=D6.div.get k (by rw [LB.u];omega);obtain rfl:Mz=d0:=by rw [hod]at wT;cases wT;rfl
  have hT:w6.cell? (Mz.add (k+1))=some (.int .u32 ((lAt (dig (y*u)) (k+1):Nat):Int)):=lF;have hN:w6.cell? (Mz.add k)=some (.int .u32 ((lAt (dig (y*u)) k:Nat):Int)):=mI;have hT9:lAt (dig (y*u)) (k+1)<1000000000:=yP (yN _) _;have hN9:lAt (dig (y*u)) k<1000000000:=yP (yN _) _;have hT5:1000000000≤2*lAt (dig (y*u)) (k+1):=HALF.u;rw [jeD]at hT;subst hod;clear wT lF mI D6;obtain⟨T,hTe⟩: ∃T,T=lAt (dig (y*u)) (k+1):=⟨_,rfl⟩;obtain⟨M,hMe⟩: ∃M,M=lAt (dig (y*u)) k:=⟨_,rfl⟩;rw [←hTe]at hT hT9 hT5;rw [←hMe]at hN hN9;have HTE:=jA hTe;have MF:=jA hMe;clear hTe hMe
  go_quiet (fail)
  clear hT hN;go_upto_region 14 with(fail);refine xr (fun w7=>jac w.heap.size w w7 g gq (some Mz) (y*u) (DX++List.replicate j 0) (List.replicate s 0)) (D6H.u.below (yl _ _ _)) (fun w7 D7=>?_);clear D6H;go_loopw [12] (fun i wr=> ∃(m:Nat) (z:Int) (R Q:E0),m≤s∧z=(m:Int)-1∧i=.int .i64 z∧Q.length=s∧VO (x*u) (y*u) (k+2) m R Q∧jac w.heap.size w wr g gq (some Mz) (y*u) R Q) (fun i _=>(intOf i+1).toNat);case atStart=>exact⟨s,_,_,_,jO _,rfl,by go_num,by simp,dS.u,D7⟩
  case round=>
  clear dS D7;obtain⟨m,z,R,Q,MQ,hz,rfl,nG,S,D⟩:=hrel;have Ny:R.length=DX.length+j:=by have:=S.len;omega
  obtain⟨cs2,Hu,DE⟩:=D.rest;have ay:=xZ Hu;have Av:=D.base;by_cases h0:m=0
  ·subst h0;obtain rfl:z= -1:=by omega
   have hd:=S.done;rw [joD x y u (by omega)]at hd;have QR:=jA (KE (some ⟨g,0,none⟩) R cc wr (Yr Hu DE) (by omega) (by omega) S.allR);have QQ:=jA (fun w h=>KE (some ⟨gq,0,none⟩) Q s w h (by omega) (by omega) S.allQ);rw [hd.2,Ny]at QR;rw [hd.1,nG]at QQ;have hXl2:(dig (x*u%(y*u))).length≤(dig x).length+1:=by
    refine yO _ _ ?_;refine qK (Nat.mod_le _ _) ?_;rw [js];exact Nat.mul_lt_mul'' (xz x) hu9
   have QB:=jA (fun w h=>jha (x*u%(y*u)) u (some ⟨g,0,none⟩) cc w h (by omega) (by omega) hu9);rw [joC x y u (by omega)]at QB;have HD:=jA D;have DI:=jA Ny;have EI:=jA nG;clear S D Hu DE hd Ny nG hz Av;go_upto_region 28 with(first
    |(go_at_call 138;refine QR.u.mono ?_;rintro e w8 ⟨rfl,IU,rfl⟩)
    |(go_at_call 176;refine(QB.u w8 IU).mono ?_;rintro e w9 ⟨oc,cr,r9,rfl,RY,hI9, -,Nu⟩;have HR9:=jA RY;clear RY))
   have GG:=Xj (xe Nu (xZ HD.u.quot) HD.u.quot) rfl;have QQ2:=jA (QQ.u w9 GG);clear QQ GG;go_wp2_with (go_at_call 138;refine QQ2.u.mono ?_;rintro e du ⟨rfl,hI10,rfl⟩)
   go_ret2
   exact⟨_,_,_,_,rfl,hI10,hI9,HD.u.bel.trans (Nu.mono HD.u.bel.size)⟩
  ·obtain⟨i,rfl⟩: ∃i,m=i+1:=⟨m-1,by omega⟩;obtain rfl:z=(i:Int):=by omega
   have hvB:y*u<1000000000^(k+2):=by
    have:=xz (y*u);rw [LB.u]at this;exact this
   obtain⟨p1,p2,p3,p4⟩:=S.part (by omega) hvB;have P:=jnN _ p1 (y*u) k p2 LB.u HALF.u p4;have c2:=DE (i+(k+2)) (by omega);have c1:=DE (i+(k+1)) (by omega);have c0:=DE (i+k) (by omega);rw [jv]at c2 c1 c0;have Tv:=jM wr g (i+(k+2)) _ _ _ Hu;have uu:=jM wr g (i+(k+1)) _ _ _ Hu;have iU:=jM wr g (i+k) _ _ _ Hu;rw [c2]at Tv;rw [c1]at uu;rw [c0]at iU;have ha2:lAt R (i+(k+2))<1000000000:=yP S.allR _;have ha1:lAt R (i+(k+1))<1000000000:=yP S.allR _;have ha0:lAt R (i+k)<1000000000:=yP S.allR _;have e2:(((R.drop i).take (k+3)).getD (k+2) 0)=lAt R (i+(k+2)):=jcw R i (k+3) (k+2) (by omega);have e1:(((R.drop i).take (k+3)).getD (k+1) 0)=lAt R (i+(k+1)):=jcw R i (k+3) (k+1) (by omega);have e0:(((R.drop i).take (k+3)).getD k 0)=lAt R (i+k):=jcw R i (k+3) k (by omega);rw [show k+2+1=k+3 from rfl]at P;rw [e2,e1,e0]at P;have P2:NL.Part (val ((R.drop i).take (k+3))) (y*u) (1000000000^k) (val (((R.drop i).take (k+3)).take k)) (val ((dig (y*u)).take k)) (lAt R (i+(k+2))*1000000000+lAt R (i+(k+1))) (lAt R (i+k)) T M:=by rw [HTE.u,MF.u];exact P
   have HP:=jA P2;have EW:=jA S;have HD:=jA D;have DI:=jA Ny;have EI:=jA nG;have hHd:=P2.headlt;clear P P2 S D p1 p2 p3 p4 c2 c1 c0 e2 e1 e0 Hu DE hvB hz h0;generalize lAt R (i+(k+2))=a2 at*;generalize lAt R (i+(k+1))=a1 at*;generalize lAt R (i+k)=a0 at*;have rA:(0:Int)≤i:=by omega
   have iM:(0:Int)≤k:=by omega
   have Cy:(i:Int)+((k:Int)+2)<(DX.length:Int)+(j:Int):=by omega
   go_upto_region 16 with(fail);have hTz:((T:Int)==0)=false:=by rw [jt];omega
   go_quiet (fail)
   obtain⟨H,hH⟩: ∃H:Nat,H=a2*1000000000+a1:=⟨_,rfl⟩;have hHi:(a2:Int)*1000000000+(a1:Int)=(H:Int):=by omega
   have hHb:H<1000000000000000000:=by omega
   rw [←hH]at HP hHd;rw [hHi];clear hH hHi uu Tv ha2 ha1;go_upto_region 17 with(fail);have hqi:(H:Int)/(T:Int)=((H/T:Nat):Int):=(Int.natCast_ediv H T).symm;have eO:(H:Int)%(T:Int)=((H%T:Nat):Int):=(Int.natCast_emod H T).symm;have G0:=HP.u.init;have OQ:H%T<1000000000:=by have:=qL H (show T>0 by omega);omega
   generalize H/T=g0 at*;generalize H%T=l0 at*;have OJ:=G0.small HP.u;have LP:=jA G0;clear G0
   go_quiet (fail)
   rw [eO];have HRI:=jA eO;have CM:NL.Xc (val ((R.drop i).take (k+3))) (y*u) H T g0 l0:=LP.u;generalize hXX:val ((R.drop i).take (k+3))=XX at*;have WZ:=jA hXX;have HG:=jA CM;clear hXX CM LP hqi eO hTz HRI;go_upto_block 4 with(fail);refine xr (fun w8=>w8.cell? ⟨g,i+k,none⟩=some (.int .u32 (a0:Int))∧jac w.heap.size w w8 g gq (some Mz) (y*u) R Q) ⟨iU,(HD.u.below ((yl _ wr _).trans (yl _ _ _)))⟩ (fun w8 LN=>?_);obtain⟨hc8',D8⟩:=LN;have tM:w8.cell? ⟨g,i+(k+2)-2,none⟩=some (.int .u32 (a0:Int)):=hc8';clear hc8';have HD8:=jA D8;clear D8 iU HD ay;go_cut [14] (fun v w'=> ∃G:Nat,v=.int .u64 (G:Int)∧G<1000000000∧(G=XX/(y*u)∨G=XX/(y*u)+1)∧w'=w8);case first=>
    go_upto_region 18 with(fail);go_loopw [14,15] (fun vg vl wi=> ∃G l:Nat,vg=.int .u64 (G:Int)∧vl=.int .u64 (l:Int)∧G≤1000000001∧l<1000000000∧NL.Xc XX (y*u) H T G l∧wi=w8) (fun vg _ _=>(intOf vg).toNat);case atStart=>exact⟨g0,l0,rfl,rfl,OJ,OQ,HG.u,rfl⟩
    case round=>
    clear HG OJ OQ;obtain⟨G,l,rfl,rfl,OJ,OQ,hGS,ou⟩:=hrel;replace ou:=ou.symm;subst ou;have nD:=jA hGS;clear hGS;by_cases DB:1000000000≤G∨l*1000000000+a0<G*M
    ·obtain⟨RJ,hGN⟩:=nD.u.next HP.u DB;have PF:=jA hGN;clear hGN;by_cases hB:1000000000≤G
     ·have dB:decide ((1000000000:Int)≤(G:Int))=true:=by simp;omega
      clear DB;by_cases hL:1000000000≤l+T
      ·obtain⟨GG,hqs⟩:=PF.u.brk HP.u hL;have HN:=jA (PF.u.near HP.u GG hqs);have dL:decide ((1000000000:Int)≤(l:Int)+(T:Int))=true:=by simp;omega
       clear hqs;go_wp2_with fail;go_meet;exact⟨G-1,by go_num,GG,HN.u,rfl⟩
      ·have dL:decide ((1000000000:Int)≤(l:Int)+(T:Int))=false:=by simp;omega
       go_wp2_with fail;go_roundw;case rel=>exact⟨G-1,l+T,by go_num,by go_num,by omega,by omega,PF.u,trivial⟩
       case measure=>simp [intOf];omega
     ·have dB:decide ((1000000000:Int)≤(G:Int))=false:=by simp;omega
      have Tv:l*1000000000+a0<G*M:=by omega
      obtain⟨m,hm⟩: ∃m,m=G*M:=⟨_,rfl⟩;have NG:(G:Int)* (M:Int)=(m:Int):=by rw [hm];exact(vY G M).symm
      have hmb:m≤999999999*999999999:=by rw [hm];exact qV (by omega) (by omega)
      rw [←hm]at Tv;rw [show 999999999*999999999=999999998000000001 by decide]at hmb;have dC:decide ((l:Int)*1000000000+(a0:Int)<(m:Int))=true:=by simp;omega
      clear hm DB;by_cases hL:1000000000≤l+T
      ·obtain⟨GG,hqs⟩:=PF.u.brk HP.u hL;have HN:=jA (PF.u.near HP.u GG hqs);have dL:decide ((1000000000:Int)≤(l:Int)+(T:Int))=true:=by simp;omega
       clear hqs;go_wp2_with fail;go_meet;exact⟨G-1,by go_num,GG,HN.u,rfl⟩
      ·have dL:decide ((1000000000:Int)≤(l:Int)+(T:Int))=false:=by simp;omega
       go_wp2_with fail;go_roundw;case rel=>exact⟨G-1,l+T,by go_num,by go_num,by omega,by omega,PF.u,trivial⟩
       case measure=>simp [intOf];omega
    ·have hB: ¬1000000000≤G:=fun h=>DB (.inl h);have hC:G*M≤l*1000000000+a0:=by
      rcases jw (l*1000000000+a0) (G*M)with h|h;·exact absurd (.inr h) DB
      ·exact h
     have HN:=jA (nD.u.near HP.u (by omega) (nD.u.stop hC));have dB:decide ((1000000000:Int)≤(G:Int))=false:=by simp;omega
     obtain⟨m,hm⟩: ∃m,m=G*M:=⟨_,rfl⟩;have NG:(G:Int)* (M:Int)=(m:Int):=by rw [hm];exact(vY G M).symm
     have hmb:m≤999999999*999999999:=by rw [hm];exact qV (by omega) (by omega)
     rw [←hm]at hC;rw [show 999999999*999999999=999999998000000001 by decide]at hmb;have dC:decide ((l:Int)*1000000000+(a0:Int)<(m:Int))=false:=by simp;omega
     clear hm DB;go_wp2_with fail;go_meet;exact⟨G,rfl,by omega,HN.u,rfl⟩
   case rest=>
   obtain⟨G,rfl,hG9,hGq,ou⟩:=hcut;replace ou:=ou.symm;subst ou;have HGQ:=jA hGq;clear hGq tM OJ OQ HG hHb hHd ha0 hN9 Cy;have Ds:((R.drop i).take (k+3)).length=k+3:=by rw [jf,kQ,DI.u];omega
   have hAL:yx ((R.drop i).take (k+3)):=zz (fun d hd=>EW.u.allR d (xC hd)) _;obtain⟨cs9,OJ,RY⟩:=HD8.u.rest;have ay:=xZ OJ;have hgl2:=xZ HD8.u.quot;have QT:=ZC (y*u) G (some Mz) cd w8 HD8.u.div (by rw [LB.u];omega) hG9;rw [LB.u]at QT;have HQT:=jA QT;clear QT;go_upto_region 23 with(fail);rw [show i+(k+2)+1-i=k+3 by omega];have QL:=jA (fun ob cb w9 hg hr (hb:LimbsAt w9 ob (dig (y*u*G))) Cs hlM=>jcI ((R.drop i).take (k+3)) (dig (y*u*G)) g i (cc-i) 180 cs9 ob cb w9 hAL (yN _) hg hr hb (fun _=>Cs) (by omega) hlM);rw [Ds]at QL;have GY:=HP.u.vpos;have hdl9:(dig (y*u*G)).length≤k+3:=by
    refine yO _ _ ?_;have h1:=xz (y*u);rw [LB.u]at h1;rw [show k+3=k+2+1 from rfl,js];exact Nat.mul_lt_mul'' h1 hG9
   have mN:=jA OJ;have HR9:=jA RY;have HPP:=jA (jhL RY (k:=k+3) (i:=i) (by rw [DI.u];omega));clear OJ RY
   go_upto_if 157 with(first
    |(go_at_call 177;refine HQT.u.mono ?_;rintro e w9 ⟨ob,cb,rfl,mC,Nu⟩;have L9:=jA (Zg mC);clear mC;have sP:=jA (QL.u ob cb w9 (xe Nu ay mN.u) HPP.u L9.u.2.1 (fun a h=>Nat.ne_of_gt (jW ay (L9.u.2.2.1 a h).1)) (by omega));clear QL)
    |(go_at_call 178;refine sP.u.mono ?_;rintro e du ⟨Wl,dn,rfl,hE,EV,hr10,hT10⟩;have HE:=jA hE;have IW:=jA hr10;have HT10:=jA hT10;clear hE hr10 hT10))
   have HD9:=jA (HD8.u.below Nu);have MC:=jA Ds;have aK:(dig (y*u*G)).length≤((R.drop i).take (k+3)).length:=by rw [Ds];exact hdl9
   have EX:Hid ((G=XX/(y*u)→dn=0∧val Wl=XX%(y*u))∧(G=XX/(y*u)+1→dn=1∧val Wl+y*u=XX%(y*u)+1000000000^(k+3))):=jA (by
    have a1:=jil HE.u aK GY;have a2:=jkA HE.u aK GY;rw [WZ.u,Ds]at a2;rw [WZ.u]at a1;exact⟨a1,a2⟩)
   have sZ:Wl.length=k+3:=by rw [HE.u.len,Ds]
   have nE:=jA HE.u.all;have OO:JR w9 du g i 180 cs9 EV (k+3):=HT10.u;have CW:=jA OO;have QM:=jix Wl (dig (y*u)) g i (cc-i) 180 EV (some Mz) cd du nE.u (yN _) OO.heap IW.u (HD9.u.div.only OO.only (fun a h=>Nat.ne_of_lt (HD9.u.dlt a h))) (fun a h=>Nat.ne_of_lt (HD9.u.dlt a h)) (by omega) (by rw [LB.u];omega);rw [sZ,LB.u]at QM;have fS:=jA QM;have HWL:=jA sZ;obtain⟨q,hq⟩: ∃q,q=XX/(y*u):=⟨_,rfl⟩;have HQ:=jA hq;clear HT10 OO QM sP HQT HPP HE Ds aK sZ hdl9 hAL hq L9 Nu;go_cut [14] (fun v w'=> ∃(Wf:E0) (LK:t0),v=.int .u64 (q:Int)∧Wf.length=k+3∧yx Wf∧val Wf=XX%(y*u)∧KL LK i Wf∧JR w9 w' g i 180 cs9 LK (k+3));case first=>
    rcases HGQ.u with hG|hG
    ·obtain⟨rfl,hv⟩:=EX.u.1 hG;rw [←HQ.u]at hG;subst hG;have HV:=jA hv;clear hv;go_wp2_with fail;go_meet;exact⟨Wl,EV,rfl,HWL.u,nE.u,HV.u,IW.u,CW.u⟩
    ·obtain⟨rfl,hv⟩:=EX.u.2 hG;rw [←HQ.u]at hG;subst hG;have HV:=jA hv;clear hv;go_wp2_with (go_at_call 179;refine fS.u.mono ?_;rintro e ew ⟨rfl,W2,u2,LK,hM,dF,eH⟩;have gB:=jA hM;have HR11:=jA dF;have HT12:=jA eH;clear hM dF eH);go_meet;refine⟨W2,LK,by go_num,by rw [gB.u.len];exact HWL.u,gB.u.all,?_,HR11.u,CW.u.trans HT12.u⟩;have hb:=jkx (L:=(R.drop i).take (k+3)) (by rw [HWL.u,MC.u]) (by rw [WZ.u,MC.u];exact HV.u) (by rw [HWL.u];exact gB.u) (by rw [LB.u,HWL.u];omega);rw [WZ.u]at hb;exact hb
   case rest=>
   obtain⟨Wf,LK,rfl,hWf,hWA,hWv,dF,eH⟩:=hcut;have hvB:y*u<1000000000^(k+2):=by
    have:=xz (y*u);rw [LB.u]at this;exact this
   have hSN:=EW.u.next (by rw [EI.u];omega) GY hvB hWf hWA (by rw [show k+2+1=k+3 from rfl,WZ.u];exact hWv) q (by rw [show k+2+1=k+3 from rfl,WZ.u];exact HQ.u);have AP:=jA hSN.1;have GG:=hSN.2;have FX:=jA (HD9.u.turned HR9.u eH dF hWf (by rw [DI.u];omega));have hc12:=Yf FX.u.quot i (by rw [EI.u];omega);have hf12:=jc _ gq i _ _ FX.u.quot;have oN:=jA (FX.u.limb i q);clear hSN hWf hWA hWv dF eH hvB fS EX HGQ CW IW nE HWL;generalize lAt Q i=ql at*;have his:(i:Int)<(s:Int):=by omega
   go_upto_region 15 with(fail);refine xr (fun LL=>jac w.heap.size w LL g gq (some Mz) (y*u) (Yt R Wf i) (Q.set i q)) oN.u (fun LL D13=>?_);clear hc12 hf12 oN;go_wp2_with fail;go_roundw;case rel=>
    repeat apply Exists.intro
    refine⟨⟨i,(i:Int)-1,_,_,by omega,rfl,?_,?_,AP.u,D13⟩,?_⟩;rotate_left 2;·rfl
    ·rfl
    ·rw [kE];exact EI.u
   case measure=>simp [intOf]
theorem jaZ(x y:Nat)(oa ob:s0)(ca cb:Nat)(w:m0)(Uv:0<y)(ha:LimbsAt w oa (dig x))(hb:LimbsAt w ob (dig y))(hx:(dig x).length<1099511627775)(hy:(dig y).length<1099511627775):
 Calls prog 137 #[.slice oa (dig x).length ca,.slice ob (dig y).length cb] w fun e w'=> ∃oq cq or cr,e=.returned (.tuple #[.slice oq (dig (x/y)).length cq,.slice or (dig (x%y)).length cr])∧LimbsAt w' oq (dig (x/y))∧LimbsAt w' or (dig (x%y))∧O0 w.heap.size w w':=by
 rcases jw x y with h|h;·exact jgZ x y oa ob ca cb w h ha hb hx hy
 ·
   have hl:0<(dig y).length:=by
    rcases vP (dig y).length with h0|h0;·have:=xz y;rw [h0]at this;omega
    ·exact h0
   by_cases h1:(dig y).length=1;·exact jiB x y oa ob ca cb w h h1 ha hb hx hy
   ·exact jiA x y ((dig y).length-2) oa ob ca cb w h (by omega) ha hb hx hy
def jfu(w:m0)(v:n0):Nat:=match v with
 | .slice (some a) n _=>val ((List.range n).map fun i=>match w.cell? (a.add i)with|some v=>(intOf v).toNat|none=>0)
 |_=>0
theorem jec(h:LimbsAt w oc L)(cc:Nat):jfu w (.slice oc L.length cc)=val L:=by
 cases oc with
 |none=>rw [jik h];rfl
 |
  some a=>
  have e:((List.range L.length).map fun i=>match w.cell? (a.add i)with|some v=>(intOf v).toNat|none=>0)=L:=by
   refine vM (by rw [kS,ku]) (fun i h1 h2=>?_);obtain⟨a',he,_,hc⟩:=h.cells i h2;cases he;rw [List.getElem_map,List.getElem_range,hc];simp [intOf]
  show val ((List.range L.length).map fun i=>match w.cell? (a.add i)with|some v=>(intOf v).toNat|none=>0)=val L;rw [e]
theorem jkZ(x y:Nat)(oa ob:s0)(ca cb:Nat)(w:m0)(ha:LimbsAt w oa (dig x))(hb:LimbsAt w ob (dig y))(hx:(dig x).length<1099511627775)(hy:(dig y).length<1099511627775):
 Calls prog 94 #[.slice oa (dig x).length ca,.slice ob (dig y).length cb] w fun e w'=> ∃oc cc,e=.returned (.slice oc (dig (Nat.gcd x y)).length cc)∧LimbsAt w' oc (dig (Nat.gcd x y))∧O0 w.heap.size w w':=by
 have HA:=jA ha;have Eu:=jA hb;clear ha hb;go_enter Tryz.func94,Tryz.ntmps94;go_upto_region 1 with(fail);go_loopw [0,1] (fun va vb wr=> ∃(X Y:Nat) (oX oY:s0) (cX cY:Nat),va=.slice oX (dig X).length cX∧vb=.slice oY (dig Y).length cY∧Nat.gcd X Y=Nat.gcd x y∧(dig X).length<1099511627775∧(dig Y).length<1099511627775∧LimbsAt wr oX (dig X)∧LimbsAt wr oY (dig Y)∧O0 w.heap.size w wr) (fun _ vb wr=>jfu wr vb);case atStart=>exact⟨x,y,oa,ob,ca,cb,rfl,rfl,rfl,hx,hy,HA.u,Eu.u,jN _ _⟩
 case round=>
 obtain⟨X,Y,oX,oY,cX,cY,rfl,rfl,hg,hX,hY,TO,rK,bel⟩:=hrel;clear HA Eu hx hy;have HG:=jA hg;have HM:=jA (jec rK cY);rw [yR]at HM;have QZ:=jA (jiw oY (dig Y).length cY wr);by_cases h0:Y=0
 ·subst h0;have iX:=jA TO;rw [yi]at QZ ⊢;rw [Nat.gcd_zero_right]at HG;clear hg TO rK HM;go_wp2_with (go_at_call 93;refine QZ.u.mono ?_;rintro e w1 ⟨rfl,rfl⟩);go_ret;rw [←HG.u];exact⟨oX,cX,rfl,iX.u,bel⟩
 ·have AM:0<Y:=by omega
  have hlz:(((dig Y).length:Int)==0)=false:=by
   rw [jt];intro h;have h1:(dig Y).length=0:=by omega
   have:=xz Y;rw [h1]at this;omega
  have QD:=jA (jaZ X Y oX oY cX cY wr AM TO rK hX hY);have HIY:=jA rK;have HML:=jA (qL X AM);have HL:=jA (show(dig (X%Y)).length≤(dig Y).length from yO _ _ (Nat.lt_trans (qL X AM) (xz Y)));have hG2:=jA (show Nat.gcd Y (X%Y)=Nat.gcd x y by rw [Nat.gcd_comm,←Nat.gcd_rec,Nat.gcd_comm];exact hg);rw [hlz]at QZ;clear hg TO rK h0 hlz;go_wp2_with (first
   |(go_at_call 93;refine QZ.u.mono ?_;rintro e w1 ⟨rfl,rfl⟩)
   |(go_at_call 137;refine QD.u.mono ?_;rintro e w2 ⟨oq,cq,or,cr,rfl,hq,hr,us⟩;have HR:=jA hr;clear hq hr))
  have hm2:=jA (jec HR.u cr);go_roundw;case rel=>exact⟨Y,X%Y,oY,or,cY,cr,rfl,rfl,hG2.u,hY,by have:=HL.u;omega,HIY.u.below us,HR.u,bel.trans (us.mono bel.size)⟩
  case measure=>
   have e:=hm2.u;rw [yR]at e;show jfu w2 (.slice or (dig (X%Y)).length cr)<jfu _ (.slice oY (dig Y).length cY);rw [e,HM.u];exact HML.u
end Go.Proofs.YtnohcdpnnhmpfaaGreatDoor
