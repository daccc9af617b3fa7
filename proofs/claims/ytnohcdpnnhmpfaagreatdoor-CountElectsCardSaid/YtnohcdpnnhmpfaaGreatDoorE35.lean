/- Chapter 13, for Pairs: the reference's WrongPairs, Pairs. -/
import Derived.Test.YtnohcdpnnhmpfaaGreatDoorE32
set_option linter.all false
set_option maxRecDepth 100000
set_option maxHeartbeats 8000000
namespace Go.Proofs.YtnohcdpnnhmpfaaGreatDoor
open Go.RowKit Tryz ML FM AU CT
variable{D X:Nat}{w w1:m0}
theorem jni(x:Int):Za x=(decide (x<0)||decide (1099511627776<x)):=rfl
theorem jaq(P:List (n0×C0))(ob:s0)(cb:Nat)(w:m0)(hP:Va w ob P)(hl:P.length<9223372036854775808):
 Calls prog 102 #[.slice ob P.length cb] w fun e w'=>e=.returned (.int .i64 (wrE P))∧w=w':=by
 have HP:=jA hP;clear hP;by_cases h1:P.length<1
 ·have d0:decide ((P.length:Int)<1)=true:=jT (by omega);have Mz:decide (P.length<1)=true:=jT h1;have HE:=jA (show wrE P=2 by unfold wrE;rw [jP (.inl h1)]);clear h1;go_enter Tryz.func102,Tryz.ntmps102;go_wp2_with fail;go_ret;exact⟨by rw [HE.u];rfl,rfl⟩
 ·by_cases h2:12<P.length
  ·have d0:decide ((P.length:Int)<1)=false:=jS (by omega);have Mz:decide (P.length<1)=false:=jS h1;have d1:decide ((12:Int)<(P.length:Int))=true:=jT (by omega);have wR:decide (12<P.length)=true:=jT h2;have HE:=jA (show wrE P=2 by unfold wrE;rw [jP (.inr (.inl h2))]);clear h1 h2;go_enter Tryz.func102,Tryz.ntmps102;go_wp2_with fail;go_ret;exact⟨by rw [HE.u];rfl,rfl⟩
  ·have d0:decide ((P.length:Int)<1)=false:=jS (by omega);have Mz:decide (P.length<1)=false:=jS h1;have d1:decide ((12:Int)<(P.length:Int))=false:=jS (by omega);have wR:decide (12<P.length)=false:=jS h2;have hp12:P.length≤12:=by omega
   have AS:=jA (show ¬(P.length<1∨12<P.length∨ ¬XE P.length P)↔XE P.length P from⟨fun h=>Classical.byContradiction fun h3=>h (.inr (.inr h3)),fun h h4=>h4.elim h1 (fun h5=>h5.elim h2 (fun h6=>h6 h))⟩);clear h1 h2;go_enter Tryz.func102,Tryz.ntmps102;go_wp2_with fail;clear d0 Mz d1 wR
   go_loop [19] (fun i=> ∃k:Nat,k≤P.length∧i=.int .i64 k∧XE P.length (P.take k)) (fun i=>P.length-(intOf i).toNat)
   case atStart=>exact⟨0,ja _,rfl,(fun x hx=>by simp at hx)⟩
   case round=>
   obtain⟨k,hk,rfl,ha⟩:=hrel;have HA:=jA ha;clear ha;by_cases ns:k<P.length
   ·obtain⟨dk,Ms,nu⟩:=Go.yD ns
    obtain⟨q,Us,Wy,Mv⟩:=HP.u.cells k ns;subst Us;have Ou:=jA (show P.take (k+1)=P.take k++ [P[k]]from jh ns);have Ot:=jA (jb ns);generalize P[k]=p at*;obtain⟨or,cr,sw,Ru,Pw⟩:=HP.u.rows p Ot.u;rw [sw]at Mv;clear sw Ru;by_cases Ix:p.2.length=P.length
    ·have e0:((p.2.length:Int) !=(P.length:Int))=false:=by rw [Ix];simp
     have e0':(p.2.length !=P.length)=false:=by rw [Ix];simp
     have HAN2:=jA (show XE P.length (P.take (k+1))by
      rw [Ou.u];intro x hx;rcases jj.1 hx with h|h;·exact HA.u x h
      ·rw [jm.1 h];exact Ix)
     clear Ix;go_wp2_with fail
     go_round
     case rel=>exact⟨k+1,by omega,by go_num,HAN2.u⟩
     case measure=>simp [intOf];omega
    ·have e0:((p.2.length:Int) !=(P.length:Int))=true:=by rw [ju];omega
     have e0':(p.2.length !=P.length)=true:=by rw [ju];exact Ix
     have HE:=jA (show wrE P=2 by unfold wrE;rw [jP (.inr (.inr (fun h=>Ix (h p Ot.u))))]);clear Ix;go_wp2_with fail;go_ret;exact⟨by rw [HE.u];rfl,rfl⟩
   ·obtain⟨dk,Ms⟩:=Go.yg ns;obtain rfl:k=P.length:=by omega
    rw [jr]at HA;have HE:=jA (show wrE P=if(YK P).any Za=true then 4 else 0 by unfold wrE;rw [jQ (AS.u.2 HA.u)]);clear AS;go_wp2_with fail;clear hk ns dk Ms
    go_loop [31] (fun i=> ∃k:Nat,k≤P.length∧i=.int .i64 k∧(YK (P.take k)).any Za=false) (fun i=>P.length-(intOf i).toNat)
    case atStart=>exact⟨0,ja _,rfl,rfl⟩
    case round=>
    obtain⟨k,hk,rfl,ha⟩:=hrel;have HF:=jA ha;clear ha;by_cases ns:k<P.length
    ·obtain⟨dk,Ms,nu⟩:=Go.yD ns
     obtain⟨q,Us,Wy,Mv⟩:=HP.u.cells k ns;subst Us;have Ou:=jA (show YK (P.take (k+1))=YK (P.take k)++P[k].2 by rw [jh ns,jis]);have Ot:=jA (show P[k]∈P from jb ns);generalize P[k]=p at*;obtain⟨or,cr,sw,Ru,Pw⟩:=HP.u.rows p Ot.u;rw [sw]at Mv;have aC:=jA Ru;have HBAD:=jA (show ∀x∈p.2,Za x=true→(YK P).any Za=true from fun x hx hb=>vI.2 ⟨x,qj.2 ⟨p,Ot.u,hx⟩,hb⟩);clear sw Ru;generalize p.2=L at*;go_wp2_with fail
     go_loop [37] (fun i=> ∃j:Nat,j≤L.length∧i=.int .i64 j∧(L.take j).any Za=false) (fun i=>L.length-(intOf i).toNat)
     case atStart=>exact⟨0,ja _,rfl,rfl⟩
     case round=>
     obtain⟨j,hj,rfl,ha⟩:=hrel;have HJ:=jA ha;clear ha;by_cases Dw:j<L.length
     ·obtain⟨ek,EC,Ow⟩:=Go.yD Dw
      obtain⟨r,wB,nJ,FG⟩:=aC.u.cells j Dw;subst wB;have pS:=jA (show(L.take (j+1)).any Za=Za L[j]by rw [jh Dw,List.any_append,HJ.u];simp);have HJM:=jA (show Za L[j]=true→(YK P).any Za=true from HBAD.u _ (jb Dw));generalize L[j]=x at*;rw [jni]at pS HJM;by_cases nt:x<0
      ·have g0:decide (x<0)=true:=jT nt;have iB:=jA (show wrE P=4 by rw [HE.u,jP (HJM.u (by rw [g0];rfl))]);clear nt;go_wp2_with fail;go_ret;exact⟨by rw [iB.u];rfl,rfl⟩
      ·have g0:decide (x<0)=false:=jS nt;by_cases Fw:1099511627776<x
       ·have g1:decide (1099511627776<x)=true:=jT Fw;have iB:=jA (show wrE P=4 by rw [HE.u,jP (HJM.u (by rw [g1];simp))]);clear nt Fw;go_wp2_with fail;go_ret;exact⟨by rw [iB.u];rfl,rfl⟩
       ·have g1:decide (1099511627776<x)=false:=jS Fw;have HJ2:=jA (show(L.take (j+1)).any Za=false by rw [pS.u,g0,g1];rfl);clear nt Fw;go_wp2_with fail
        go_round
        case rel=>exact⟨j+1,by omega,by go_num,HJ2.u⟩
        case measure=>simp [intOf];omega
     ·obtain⟨ek,EC⟩:=Go.yg Dw;obtain rfl:j=L.length:=by omega
      rw [jr]at HJ;have HF2:=jA (show(YK (P.take (k+1))).any Za=false by rw [Ou.u,List.any_append,HF.u,HJ.u];rfl);go_wp2_with fail
      go_round
      case rel=>exact⟨k+1,by omega,by go_num,HF2.u⟩
      case measure=>simp [intOf];omega
    ·obtain⟨dk,Ms⟩:=Go.yg ns;obtain rfl:k=P.length:=by omega
     rw [jr]at HF;have iB:=jA (show wrE P=0 by rw [HE.u,HF.u];rfl);go_wp2_with fail;go_ret;exact⟨by rw [iB.u];rfl,rfl⟩
structure XB(w:m0)(D X:Nat)(Q:List (n0×C0)):Prop where
 own: ∀p∈Q,w.ownsRow D 3 1 p.1 p.2.length (xq p.2)
 lt: ∀p∈Q,∀b,p.1.ownBlock=some b→b<X
theorem XB.grown{Q:List (n0×C0)}{row:L0}(h:XB w D X Q)(hg:w.grownBy w1 row)(hr: ∀b,row=some b→X≤b):XB w1 D X Q:=
 ⟨fun p hp=>(h.own p hp).kept hg (by
  cases hv:p.1.ownBlock with
  |none=>exact .inl rfl
  |some b=>exact .inr (fun e=>by have:=h.lt p hp b hv;have:=hr b e.symm;omega)),h.lt⟩
theorem XB.grownT{n:Nat}{Q:List (n0×C0)}{v:n0}{xs:A0}(h:XB w D X Q)(ho:w.ownsRow D 29 1 v n xs)(hg:w.grownBy w1 v.ownBlock):XB w1 D X Q:=
 ⟨fun p hp=>(h.own p hp).kept hg (JY (h.own p hp) ho (by decide)),h.lt⟩
theorem XB.below{Q:List (n0×C0)}(h:XB w D X Q)(hb:O0 w.heap.size w w1):XB w1 D X Q:=⟨fun p hp=>yA (h.own p hp) hb,h.lt⟩
theorem XB.rows{Q:List (n0×C0)}(h:XB w D X Q)(hl: ∀p∈Q,p.2.length<9223372036854775808): ∀p∈Q,jiO w p:=fun p hp=>by
 obtain⟨oa,cap,hv,_,hI⟩:=zT (h.own p hp);exact⟨oa,cap,hv,hI,hl p hp⟩
theorem jjS(M:Mx)(i j:Nat):KO (j+1) M i=KO j M i++ [M i j]:=by simp [KO,qI]
theorem joa {c:yH}{P:List (n0×C0)}: ∀p∈P.filter (zB c),∀x∈p.2,0≤x:=by
 intro p hp x hx;have h:=(jz.1 hp).2;unfold zB jmA at h;rw [jy,jcH]at h;unfold Vl at h;rw [jy,Vn]at h;exact(h.1.1 x hx).1
theorem jfd(c:yH)(P:List (n0×C0))(oa:s0)(cap:Nat)(ob:s0)(cb:Nat)(w:m0)(hP:Va w ob P)(Gw:c.op.length<9223372036854775807):
 Calls prog 57 #[.agg #[.string ⟨c.nm.toArray⟩,.slice oa c.op.length cap,.int .i64 c.rl,.int .i64 c.se,.int .i64 c.mo],.slice ob P.length cb] w (Jp c P w):=by
 have QW:=jA (show ∀w,Calls prog 76 #[.agg #[.string ⟨c.nm.toArray⟩,.slice oa c.op.length cap,.int .i64 c.rl,.int .i64 c.se,.int .i64 c.mo]] w (fun e w'=>e=.returned (.int .i64 (Jv c))∧O0 w.heap.size w w')from fun w=>jap c oa cap w Gw);have HP:=jA hP;have py:=jA (show prE c P=if yz c=true then 2 else KQ c.op.length P from rfl);have tG:=jA (show Jv c=if yz c=true then 2 else 0 from rfl);clear hP;cases hW:yz c with
 |
  true=>
  rw [hW]at py tG;have HE:=jA (py.u.trans (jP rfl));rw [show Jv c=2 from tG.u.trans (jP rfl)]at QW;clear hW py tG;go_enter Tryz.func57,Tryz.ntmps57;go_upto_region 1 with(fail);generalize hB:w.heap.size=B at*;refine Go.bxE hB ?_;intro w1 ts;have HB:=jA hB;have B1:=jA ts.1;have X1:=jA ts.2;have mt:B<w1.heap.size:=xZ ts.2;clear hB ts;go_wp2_with (first
   |go_big_skip
   |((with_reducible refine yE 24 ?_);refine xi ?_ 24 (.tmp 2) ?_ B _ _ _ _ ?_ X1.u underlying24 ?_ xt ?_;rfl;rfl;rfl;rfl)
   |(go_at_call 76;refine(QW.u w1).mono ?_;rintro e w3 ⟨rfl,b3⟩;dsimp only;have B3:=jA (B1.u.trans (b3.mono (jX mt)));clear b3))
  go_ret2
  exact Jp.bad HE.u (by decide) (by rw [HB.u];exact B3.u)
 |
  false=>
  rw [hW]at py tG;obtain⟨Sw,Ws,_⟩:=Xq hW;have HE:=jA (py.u.trans (jQ (by decide)));rw [show Jv c=0 from tG.u.trans (jQ (by decide))]at QW;have QF:=jA (fun w1 h=>Xe c 4 P oa cap ob cb w1 h Ws);clear hW py tG;unfold Js at QF;have FP:=jA (show prK c P=P.filter (zB (c.rule 4))from rfl);go_enter Tryz.func57,Tryz.ntmps57;go_upto_region 1 with(fail);generalize hB:w.heap.size=B at*;refine Go.bxE hB ?_;intro w1 ts;have HB:=jA hB;have B1:=jA ts.1;have X1:=jA ts.2;have mt:B<w1.heap.size:=xZ ts.2;clear hB ts;go_upto_region 2 with(first
   |go_big_skip
   |((with_reducible refine yE 24 ?_);refine xi ?_ 24 (.tmp 2) ?_ B _ _ _ _ ?_ X1.u underlying24 ?_ xt ?_;rfl;rfl;rfl;rfl)
   |(go_at_call 76;refine(QW.u w1).mono ?_;rintro e w4 ⟨rfl,b4⟩;dsimp only;have B4:=jA (B1.u.trans (b4.mono (jX mt)));have X4:=jA (xe b4 mt X1.u);clear b4))
  have rx:B<w4.heap.size:=xZ X4.u;have pE:=jA (HP.u.below (HB.u.symm▸B4.u));have Q4:=jA (QF.u w4 pE.u);clear X1 B1 mt QF QW
  as_aux_lemma=>
  by_cases h0:KQ c.op.length P=0;case neg=>
   have HD:=jA (show(KQ c.op.length P !=0)=true by rw [ju];exact h0);have hd:=HD.u;have H0:=jA h0;clear h0 FP;go_wp2_with (first
    |go_big_skip
    |((with_reducible refine yE 24 ?_);refine xi ?_ 24 (.tmp 2) ?_ B _ _ _ _ ?_ X4.u underlying24 ?_ xt ?_;rfl;rfl;rfl;rfl)
    |(go_at_call 12;refine(Q4.u).mono ?_;rintro e w5 ⟨b5,h5⟩;rw [jQ H0.u]at h5;subst h5;dsimp only;have B5:=jA (B4.u.trans (b5.mono (jX rx)));clear b5))
   go_ret2
   exact Jp.bad HE.u H0.u (by rw [HB.u];exact B5.u)
  have RF:=jA (HE.u.trans h0);obtain⟨hA,uw⟩:=jbW h0;have tL:=jA h0;have AH:=jA (ZF (zB (c.rule 4)) hA);have HKN:=jA (joa (c:=c.rule 4) (P:=P));have lH:(P.filter (zB (c.rule 4))).length≤4096:=jU (qJ _ _) uw;rw [←FP.u]at Q4 AH lH HKN;have Ex:=jA (show ∀(Q:List (n0×C0)) (w':m0) (oo:s0) (co:Nat),O0 w.heap.size w w'→Q.length=c.op.length→Va w' oo Q→Q.map Prod.snd=(List.range c.op.length).map (KO c.op.length (zv (prK c P)))→Jp c P w (.returned (.tuple #[.slice oo c.op.length co,.int .i64 0])) w' from fun Q w' oo co h1 h2 h3 h4=>Jp.ok RF.u h1 h2 h3 h4);clear h0 hA uw FP HE RF;generalize prK c P=K at*;obtain⟨i0,hi,Is,Ts,Ns⟩:=info_parts YG;obtain⟨j0,ji,gQ,fQ,eQ⟩:=info_parts YF;have HI:=jA hi;have Dt:=jA Is;have Ct:=jA Ts;have Bt:=jA Ns;have JI:=jA ji;have SA:=jA gQ;have OA:=jA fQ;have MA:=jA eQ;clear hi Is Ts Ns ji gQ fQ eQ;go_upto_region 7 with(first
   |go_big_skip
   |((with_reducible refine yE 24 ?_);refine xi ?_ 24 (.tmp 2) ?_ B _ _ _ _ ?_ X4.u underlying24 ?_ xt ?_;rfl;rfl;rfl;rfl)
   |(go_at_call 12;refine(Q4.u).mono ?_;rintro e w5 ⟨b5,h5⟩;rw [jP tL.u]at h5;obtain⟨ol,cl,sC,rfl⟩:=h5;dsimp only;have B5:=jA (B4.u.trans (b5.mono (jX rx)));have P5:=jA sC;have X5:=jA (xe b5 rx X4.u);clear b5 sC))
  clear Q4 tL X4 B4 pE rx
  as_aux_lemma=>
  have gD:B<w5.heap.size:=xZ X5.u;obtain⟨D,hD⟩: ∃D,D=w5.heap.size:=⟨_,rfl⟩;have HD:=jA hD;rw [←hD]at gD;clear hD;have k1:w5.cell? ⟨B,1,none⟩=some (.slice oa c.op.length cap):=jM _ _ _ _ _ _ X5.u;go_wp2_with fail;clear k1;go_loopw [32,8] (fun i v wr=> ∃(k:Nat) (Q:List (n0×C0)) (vo:n0),i=.int .i64 k∧vo=v∧k≤c.op.length∧Q.map Prod.snd=(List.range k).map (KO c.op.length (zv K))∧wr.ownsRow D 29 1 vo Q.length (Q.map Prod.fst)∧XB wr D wr.heap.size Q∧O0 D w5 wr) (fun i _ _=>c.op.length-(intOf i).toNat);case atStart=>exact⟨0,[],_,rfl,rfl,ja _,rfl,kg _ _ _ _,⟨fun p hp=>by simp at hp,fun p hp=>by simp at hp⟩,by rw [HD.u];exact jN _ _⟩
  case round=>
  obtain⟨k,Q,vo,rfl,rfl,hk,hq,ho,hr,hb⟩:=hrel;have HQ:=jA hq;have O2:=jA ho;have R2:=jA hr;have B2:=jA hb;have EI:=jA (show Q.length=k by have:=qO List.length hq;simpa using this);have AZ:D≤wr.heap.size:=by have:=hb.size;have:=HD.u;omega
  have k1:wr.cell? ⟨B,1,none⟩=some (.slice oa c.op.length cap):=jM _ _ _ _ _ _ (xe hb gD X5.u);clear hq ho hr hb;by_cases ns:k<c.op.length
  ·obtain⟨dk,Ms,Py⟩:=Go.yD ns
   go_wp2_with fail;clear k1;obtain⟨X,hX⟩: ∃X,X=wr.heap.size:=⟨_,rfl⟩;have HX:=jA hX;rw [←hX]at AZ R2;clear hX;obtain⟨wo,hwo⟩: ∃wo:m0,wo=wr:=⟨_,rfl⟩;subst hwo;go_loopw [38,10] (fun j v wr=> ∃(j1:Nat) (vr:n0),j=.int .i64 j1∧vr=v∧j1≤c.op.length∧wr.ownsRow X 3 1 vr (KO j1 (zv K) k).length (xq (KO j1 (zv K) k))∧wr.ownsRow D 29 1 vo Q.length (Q.map Prod.fst)∧XB wr D X Q∧O0 D w5 wr∧X≤wr.heap.size) (fun j _ _=>c.op.length-(intOf j).toNat);case atStart=>exact⟨0,_,rfl,rfl,ja _,kg _ _ _ _,O2.u,R2.u,B2.u,kh HX.u⟩
   case round=>
   clear O2 R2 B2 HX;obtain⟨j1,vr,rfl,rfl,hj,FY,ho,hr,hb,hXw⟩:=hrel;have VR:=jA FY;have O3:=jA ho;have R3:=jA hr;have B3:=jA hb;have PB:=jA (P5.u.below (HD.u▸hb));clear FY ho hr hb;by_cases Dw:j1<c.op.length
   ·obtain⟨ek,EC,uR⟩:=Go.yD Dw
    obtain⟨wp,rD⟩: ∃wp:m0,wp=wr:=⟨_,rfl⟩;subst rD;go_wp2_with fail;go_loopw [43,12] (fun t v wr=> ∃(t1 m d:Nat),t=.int .i64 t1∧v=.int .i64 m∧t1≤K.length∧m=ZZ (K.take t1) k j1∧m≤t1∧wr=wp.drewN d) (fun t _ _=>K.length-(intOf t).toNat);case atStart=>exact⟨0,0,0,rfl,rfl,ja _,rfl,jO _,rfl⟩
    case round=>
    obtain⟨t1,m,d,rfl,rfl,ht,hm,hmt,rfl⟩:=hrel;have HM:=jA hm;clear hm;by_cases bG:t1<K.length
    ·obtain⟨fk,wF,lV⟩:=Go.yD bG
     obtain⟨q,Us,Wy,Mv⟩:=PB.u.cells t1 bG;subst Us;have Ou:=jA (show K.take (t1+1)=K.take t1++ [K[t1]]from jh bG);have Ot:=jA (show K[t1]∈K from jb bG);generalize K[t1]=p at*;obtain⟨or,cr,sw,Ru,Pw⟩:=PB.u.rows p Ot.u;have hL:p.2.length=c.op.length:=AH.u p Ot.u;rw [sw,hL]at Mv;have mL:=jA (HKN.u p Ot.u);have Wv:=jA (jew (K.take t1) p k j1);rw [←Ou.u,←HM.u]at Wv;have TQ:k<p.2.length:=by omega
     have EJ:j1<p.2.length:=by omega
     obtain⟨r,rfl,nJ,FG⟩:=Ru.cells k TQ;obtain⟨r',wB,_,CE⟩:=Ru.cells j1 EJ;obtain rfl:r=r':=by injection wB
     have HX0:=jA (show p.2.getD k 0=p.2[k]by simp [TQ]);have HY0:=jA (show p.2.getD j1 0=p.2[j1]by simp [EJ]);have nt:=mL.u _ (jb TQ);have lB:=jA (show VN p.2 k j1=(decide (0<p.2.getD k 0)&&(p.2.getD j1 0==0||decide (p.2.getD k 0<p.2.getD j1 0)))from rfl);rw [HX0.u,HY0.u]at lB;have HKJ:=jA (show k=j1→p.2[k]=p.2[j1]from fun e=>by subst e;rfl);clear sw Ru Pw wB hL HX0 HY0;generalize p.2[k]=x at*;generalize p.2[j1]=y at*;have rF:=jA (show VN p.2 k j1=true→m+1=ZZ (K.take (t1+1)) k j1 from fun h=>by rw [Wv.u,jP h]);have lR:=jA (show VN p.2 k j1=false→m=ZZ (K.take (t1+1)) k j1 from fun h=>by rw [Wv.u,jQ (by rw [h];decide)];rfl);generalize p.2.length=pl at*;by_cases Wz:k=j1
     ·have g0:((k:Int) !=(j1:Int))=false:=by rw [Wz];simp
      have g0':(k !=j1)=false:=by rw [Wz];simp
      have HN:=jA (lR.u (by
       have:=HKJ.u Wz;rw [lB.u,this];by_cases h:0<y;·rw [show(y==0)=false by rw [jt];omega,jS (Int.lt_irrefl y),Bool.or_self,Bool.and_false]
       ·rw [jS h,Bool.false_and]))
      clear Wz HKJ rF lR lB Wv;go_upto_region 19 with(fail);refine Seg.xf (fun w'=> ∃m,w'=(wp.drewN d).drewN m) [] [0,1,2,3,4,5,6,7,8,9,10,11,12,13,14,15,16,17,18,19,20,21,22,23,24] 25 (by kernel_rfl) (by kernel_rfl) (fun _ _ d _ _ h=>by cases d<;>exact h) (⟨1,rfl⟩) ?_;simp only [jK,Seg.opAt,Seg.xu];repeat (any_goals (first|go_big_quiet_step (fail)|quiet_step (fail)))
      refine jR ?_;go_wp2_with go_big_skip;go_roundw;case rel=>exact⟨t1+1,m,_,by go_num,rfl,by omega,HN.u,by omega,rfl⟩
      case measure=>simp [intOf];omega
     ·have g0:((k:Int) !=(j1:Int))=true:=by rw [ju];omega
      have g0':(k !=j1)=true:=by rw [ju];exact Wz
      by_cases DY:x=0
      ·have g1:(x !=0)=false:=by rw [DY];rfl
       have HN:=jA (lR.u (by rw [lB.u,jS (by omega),Bool.false_and]));clear Wz HKJ rF lR lB Wv DY;go_upto_region 19 with(fail);refine Seg.xf (fun w'=> ∃m,w'=(wp.drewN d).drewN m) [] [0,1,2,3,4,5,6,7,8,9,10,11,12,13,14,15,16,17,18,19,20,21,22,23,24] 25 (by kernel_rfl) (by kernel_rfl) (fun _ _ d _ _ h=>by cases d<;>exact h) (⟨1,rfl⟩) ?_;simp only [jK,Seg.opAt,Seg.xu];repeat (any_goals (first|go_big_quiet_step (fail)|quiet_step (fail)))
       refine jR ?_;go_wp2_with go_big_skip;go_roundw;case rel=>exact⟨t1+1,m,_,by go_num,rfl,by omega,HN.u,by omega,rfl⟩
       case measure=>simp [intOf];omega
      ·have g1:(x !=0)=true:=by rw [ju];exact DY
       by_cases hyz:y=0
       ·have g2:(y==0)=true:=by rw [qH];exact hyz
        have HY:=jA (rF.u (by rw [lB.u,jT (by omega),g2];rfl));clear Wz HKJ rF lR lB Wv DY hyz;go_upto_region 19 with(fail);refine Seg.xf (fun w'=> ∃m,w'=(wp.drewN d).drewN m) [] [0,1,2,3,4,5,6,7,8,9,10,11,12,13,14,15,16,17,18,19,20,21,22,23,24] 25 (by kernel_rfl) (by kernel_rfl) (fun _ _ d _ _ h=>by cases d<;>exact h) (⟨1,rfl⟩) ?_;simp only [jK,Seg.opAt,Seg.xu];repeat (any_goals (first|go_big_quiet_step (fail)|quiet_step (fail)))
        refine jR ?_;go_wp2_with go_big_skip;go_roundw;case rel=>exact⟨t1+1,m+1,_,by go_num,by go_num,by omega,HY.u,by omega,rfl⟩
        case measure=>simp [intOf];omega
       ·have g2:(y==0)=false:=by rw [jt];exact hyz
        by_cases Uu:x<y
        ·have g3:decide (x<y)=true:=jT Uu;have HY:=jA (rF.u (by rw [lB.u,jT (by omega),g3,Bool.or_true];rfl));clear Wz HKJ rF lR lB Wv DY hyz Uu;go_upto_region 19 with(fail);refine Seg.xf (fun w'=> ∃m,w'=(wp.drewN d).drewN m) [] [0,1,2,3,4,5,6,7,8,9,10,11,12,13,14,15,16,17,18,19,20,21,22,23,24] 25 (by kernel_rfl) (by kernel_rfl) (fun _ _ d _ _ h=>by cases d<;>exact h) (⟨1,rfl⟩) ?_;simp only [jK,Seg.opAt,Seg.xu];repeat (any_goals (first|go_big_quiet_step (fail)|quiet_step (fail)))
         refine jR ?_;go_wp2_with go_big_skip;go_roundw;case rel=>exact⟨t1+1,m+1,_,by go_num,by go_num,by omega,HY.u,by omega,rfl⟩
         case measure=>simp [intOf];omega
        ·have g3:decide (x<y)=false:=jS Uu;have HN:=jA (lR.u (by rw [lB.u,g2,g3,Bool.or_self,Bool.and_false]));clear Wz HKJ rF lR lB Wv DY hyz Uu;go_upto_region 19 with(fail);refine Seg.xf (fun w'=> ∃m,w'=(wp.drewN d).drewN m) [] [0,1,2,3,4,5,6,7,8,9,10,11,12,13,14,15,16,17,18,19,20,21,22,23,24] 25 (by kernel_rfl) (by kernel_rfl) (fun _ _ d _ _ h=>by cases d<;>exact h) (⟨1,rfl⟩) ?_;simp only [jK,Seg.opAt,Seg.xu];repeat (any_goals (first|go_big_quiet_step (fail)|quiet_step (fail)))
         refine jR ?_;go_wp2_with go_big_skip;go_roundw;case rel=>exact⟨t1+1,m,_,by go_num,rfl,by omega,HN.u,by omega,rfl⟩
         case measure=>simp [intOf];omega
    ·obtain⟨fk,wF⟩:=Go.yg bG;obtain rfl:t1=K.length:=by omega
     rw [jr]at HM;have HRS:=jA (show KO (j1+1) (zv K) k=KO j1 (zv K) k++ [(m:Int)]by rw [jjS,HM.u];rfl);have hRL:(KO j1 (zv K) k).length=j1:=Qv _ _ _;have hXw2:X≤(wp.drewN d).heap.size:=hXw;have hDw:D≤(wp.drewN d).heap.size:=jU AZ hXw;have bd:=ML.yl (jN wp.heap.size wp) d;refine xr (fun w6=>w6.ownsRow X 3 1 vr (KO j1 (zv K) k).length (xq (KO j1 (zv K) k))∧w6.ownsRow D 29 1 vo Q.length (Q.map Prod.fst)∧XB w6 D X Q∧O0 D w5 w6∧X≤w6.heap.size) ⟨yA VR.u bd,yA O3.u bd,R3.u.below bd,ML.yl B3.u d,hXw⟩ (fun w6 Lw=>?_);have H6:=jA Lw;have rU:=Lw.2.2.2.2;have hD6:D≤w6.heap.size:=jU AZ rU;clear Lw bd VR O3 R3 B3 PB hXw2 hDw hXw;generalize KO j1 (zv K) k=L at*;have hL12:L.length≤12:=by omega
     clear hRL;go_wp2_with (at_builtin;refine wpList_append_lies _ rfl (.tmp 78) (.tmp 80) 29 rfl X 3 i0 (.int .i64 0) 1 8 underlying29 HI.u Dt.u Ct.u Bt.u rfl (by decide) vr L.length (xq L) rfl (H6.u.1.alloc _) ⟨_,0,none⟩ 1 1 (xq [(m:Int)]) rfl rfl (zK (xh rfl)) (Kb _) (by decide) (by unfold maxLen;omega) (by omega) (by simp;omega) _ rfl (fun g cp w7 Iv aA bU gF=>?_));have nA: ∀b,vr.ownBlock=some b→X≤b:=fun b hb=>(H6.u.1.lt b hb).1;have hne7': ∀b,vr.ownBlock=some b→D≤b:=fun b hb=>jU AZ (nA b hb);have bA:O0 w6.heap.size w6 (w6.alloc (.cells #[.int .i64 (m:Int)] 3)):=(jN _ _).alloc (jO _) _;have B7:=jA ((H6.u.2.2.2.1.alloc hD6 (.cells #[.int .i64 (m:Int)] 3)).grown aA (by simp;omega) hne7');have R7:=jA ((H6.u.2.2.1.below bA).grown aA nA);have O7:=jA ((yA H6.u.2.1 bA).kept aA (JY (yA H6.u.2.1 bA) (yA H6.u.1 bA) (by decide)));have V7:=jA Iv;have hX7:X≤w7.heap.size:=by have:=aA.size;simp at this;omega
     clear Iv aA bU gF bA;go_wp2_with fail;go_roundw;case rel=>exact⟨j1+1,_,by go_num,rfl,by omega,by rw [HRS.u,jZ,←JW];exact V7.u,O7.u,R7.u,B7.u,hX7⟩
     case measure=>simp [intOf];omega
   ·obtain⟨ek,EC⟩:=Go.yg Dw;obtain rfl:j1=c.op.length:=by omega
    have hRL:(KO c.op.length (zv K) k).length=c.op.length:=Qv _ _ _;have HQ2:=jA (show ∀v:n0,(Q++ [(v,KO c.op.length (zv K) k)]).map Prod.snd=(List.range (k+1)).map (KO c.op.length (zv K))from fun v=>by rw [qk,HQ.u,qI,qk];rfl);generalize KO c.op.length (zv K) k=L at*;obtain⟨or,cr,rfl,hcr,EU⟩:=zT VR.u;have hQ12:Q.length≤12:=by have:=EI.u;omega
    clear EU hRL;have hD6:D≤wr.heap.size:=jU AZ hXw;go_wp2_with (at_builtin;refine wpList_append_lies _ rfl (.tmp 83) (.tmp 85) 25 rfl D 29 j0 (.slice none 0 0) 1 24 underlying25 JI.u SA.u OA.u MA.u rfl (by decide) vo Q.length (Q.map Prod.fst) rfl (O3.u.alloc _) ⟨_,0,none⟩ 1 1 [.slice or L.length cr] rfl rfl (zK (xh rfl)) (by simp [Value.oneCell']) (by decide) (by unfold maxLen;omega) (by omega) (by simp;omega) _ rfl (fun g cp w7 Iv aA bU gF=>?_));have nA: ∀b,vo.ownBlock=some b→D≤b:=fun b hb=>(O3.u.lt b hb).1;have bA:O0 wr.heap.size wr (wr.alloc (.cells #[.slice or L.length cr] 29)):=(jN _ _).alloc (jO _) _;have B7:=jA ((B3.u.alloc hD6 (.cells #[.slice or L.length cr] 29)).grown aA (by simp;omega) nA);have R7a:=(R3.u.below bA).grownT (yA O3.u bA) aA;have V7a:w7.ownsRow D 3 1 (.slice or L.length cr) L.length (xq L):=by
     have h1:=(yA VR.u bA).kept aA (JY (yA VR.u bA) (yA O3.u bA) (by decide));exact⟨h1.1,h1.2.elim .inl (fun⟨g,cp,cu,a1,a2,a3⟩=>.inr ⟨g,cp,cu,a1,jU AZ a2,a3⟩)⟩
    have R7:=jA (show XB w7 D w7.heap.size (Q++ [(.slice or L.length cr,L)])from⟨fun p hp=>by
     rcases jj.1 hp with h|h;·exact R7a.own p h
     ·rw [jm.1 h];exact V7a,fun p hp b hb=>by
     rcases jj.1 hp with h|h;·exact((R7a.own p h).lt b hb).2
     ·rw [jm.1 h]at hb;exact(V7a.lt b hb).2⟩)
    have O7:=jA Iv;clear Iv aA bU gF bA R7a V7a;go_wp2_with fail;go_roundw;case rel=>exact⟨k+1,Q++ [(.slice or L.length cr,L)],_,by go_num,rfl,by omega,HQ2.u _,by rw [jZ,qk];exact O7.u,R7.u,B7.u⟩
    case measure=>simp [intOf];omega
  ·obtain⟨dk,Ms⟩:=Go.yg ns;obtain rfl:k=c.op.length:=by omega
   obtain⟨oo,co,rfl,dR,uD⟩:=jcp O2.u (R2.u.rows (fun p hp=>by
    have:p.2∈Q.map Prod.snd:=jo.2 ⟨p,hp,rfl⟩;rw [HQ.u]at this;obtain⟨i,_,e⟩:=jo.1 this;rw [←e,Qv];omega))
   have HF:=jA (Ex.u Q wr oo co (by rw [HB.u];exact B5.u.trans (B2.u.mono (jX gD))) EI.u uD HQ.u);rw [←EI.u]at HF;clear uD;go_wp2_with fail
   go_ret2
   exact HF.u
end Go.Proofs.YtnohcdpnnhmpfaaGreatDoor
