/- Chapter 13: the reference's jhx. -/
import Derived.Test.YtnohcdpnnhmpfaaGreatDoorE33
import Derived.Test.YtnohcdpnnhmpfaaGreatDoorE27
set_option linter.all false
set_option maxRecDepth 100000
set_option maxHeartbeats 4000000
namespace Go.Proofs.YtnohcdpnnhmpfaaGreatDoor
open Go.RowKit Tryz ML FM AU CT
variable{O T out:C0}{b i:Int}{j m n:Nat}
theorem jht(T:C0)(lot:Int→List UInt8)(a b c:Int)(h1:jbG T lot a b)(h2:jbG T lot b c):jbG T lot a c:=by
 rcases h1 with h1|⟨e1,h1⟩<;>rcases h2 with h2|⟨e2,h2⟩;·exact .inl (by omega)
 ·exact .inl (by omega)
 ·exact .inl (by omega)
 ·exact .inr ⟨by omega,ZS lot a b c h1 h2⟩
def VQ(T:C0)(lot:Int→List UInt8)(O out:C0)(m:Nat)(b:Int):Prop:=
 (b= -1∧ ∀x∈O.take m,x∈out)∨(0≤b∧b∈O.take m∧b∉out∧ ∀y∈O.take m,y∉out→y≠b→jbG T lot b y)
theorem jhq(T:C0)(lot:Int→List UInt8)(O out:C0):VQ T lot O out 0 (-1):=.inl ⟨rfl,by simp⟩
theorem jiK{lot:Int→List UInt8}(h:VQ T lot O out m b)(hm:O.take (m+1)=O.take m++ [i])(hi:i∈out):VQ T lot O out (m+1) b:=by
 rcases h with⟨hb,h⟩|⟨h0,hb,ho,h⟩
 ·refine .inl ⟨hb,fun x hx=>?_⟩;rw [hm]at hx;rcases jj.1 hx with hx|hx;·exact h x hx
  ·obtain rfl:x=i:=by simpa using hx
   exact hi
 ·refine .inr ⟨h0,by rw [hm];exact List.mem_append_left _ hb,ho,fun y hy iQ Cs=>?_⟩;rw [hm]at hy;rcases jj.1 hy with hy|hy;·exact h y hy iQ Cs
  ·obtain rfl:y=i:=by simpa using hy
   exact absurd hi iQ
theorem jfN{lot:Int→List UInt8}(h:VQ T lot O out m b)(hb:b<0)(hm:O.take (m+1)=O.take m++ [i])(hi:i∉out)(h0:0≤i):VQ T lot O out (m+1) i:=by
 rcases h with⟨_,h⟩|⟨h1,_⟩
 ·refine .inr ⟨h0,by rw [hm];simp,hi,fun y hy iQ Cs=>?_⟩;rw [hm]at hy;rcases jj.1 hy with hy|hy;·exact absurd (h y hy) iQ
  ·exact absurd (by simpa using hy) Cs
 ·omega
theorem jhr{lot:Int→List UInt8}(h:VQ T lot O out m b)(hb:0≤b)(hm:O.take (m+1)=O.take m++ [i])(hi:i∉out)(h0:0≤i)(hT:T.getD b.toNat 0<T.getD i.toNat 0):VQ T lot O out (m+1) i:=by
 rcases h with⟨h1,_⟩|⟨_,hbm,pF,h⟩;·omega
 ·have hib:jbG T lot i b:=.inl hT;refine .inr ⟨h0,by rw [hm];simp,hi,fun y hy iQ Cs=>?_⟩;rw [hm]at hy;rcases jj.1 hy with hy|hy
  ·by_cases e:y=b;·rw [e];exact hib
   ·exact jht T lot i b y hib (h y hy iQ e)
  ·exact absurd (by simpa using hy) Cs
theorem jhs{lot:Int→List UInt8}(h:VQ T lot O out m b)(hb:0≤b)(hm:O.take (m+1)=O.take m++ [i])(nz:(O.take m++ [i]).Pairwise (ltL lot))(hT: ¬T.getD b.toNat 0<T.getD i.toNat 0):VQ T lot O out (m+1) b:=by
 rcases h with⟨h1,_⟩|⟨_,hbm,pF,h⟩;·omega
 ·refine .inr ⟨hb,by rw [hm];exact List.mem_append_left _ hbm,pF,fun y hy iQ Cs=>?_⟩;rw [hm]at hy;rcases jj.1 hy with hy|hy;·exact h y hy iQ Cs
  ·obtain rfl:y=i:=by simpa using hy
   have ns:=(vk.1 nz).2.2 b hbm y (by simp);by_cases e:T.getD y.toNat 0<T.getD b.toNat 0;·exact .inl e
   ·exact .inr ⟨by omega,ns⟩
theorem jiL{lot:Int→List UInt8}{S:C0}(ho:Ord n lot O)(hs:jbh n T lot S)(hj:j<S.length)(h:VQ T lot O (S.take j) O.length b):b=S[j]:=by
 have MG: ∀a c (ha:a<S.length) (hc:c<S.length),a<c→S[a]≠S[c]:=fun a c ha hc Ft he=>by
  have:=xJ.1 hs.srt a c ha hc Ft;rw [he]at this;exact ZE T lot _ _ this this
 have gZ:S[j]∉S.take j:=fun hm=>by
  obtain⟨i,hi,he⟩:=qs.1 hm;rw [jf]at hi;rw [List.getElem_take]at he;exact MG i j (by omega) hj (by omega) he
 have hjO:S[j]∈O:=(ho.perm.trans hs.perm.symm).mem_iff.2 (jb hj);rw [VQ,jr]at h;rcases h with⟨_,h⟩|⟨_,hb,pF,h⟩;·exact absurd (h _ hjO) gZ
 ·by_cases e:S[j]=b;·exact e.symm
  ·have h1:=h _ hjO gZ e;obtain⟨i,hi,he⟩:=qs.1 ((ho.perm.trans hs.perm.symm).mem_iff.1 hb);have Ow:j<i:=by
    rcases jw i j with ns|bD;·exact absurd (by rw [←he];exact vq.2 ⟨i,by omega,rfl⟩) pF
    ·rcases Nat.eq_or_lt_of_le bD with h2|h2;·subst h2;exact absurd he e
     ·exact h2
   have h2:=xJ.1 hs.srt j i hj hi Ow;rw [he]at h2;exact(ZE T lot _ _ h1 h2).elim
def sliceLen:n0→Nat
 | .slice _ n _=>n
 |_=>0
theorem jgo(c:yH)(T:C0)(lots:Bytes)(S:C0)(hS:Vt c T=0→jbh c.op.length T (Kr c lots) S)(oa:s0)(cap:Nat)(ot:s0)(ct:Nat)(w:m0)(hs:zg w oa c.op)(hT:yW w ot T)(hf:c.Fits lots)(Gw:c.op.length<9223372036854775807)(PN:T.length<9223372036854775807):
 Calls prog 59 #[.agg (c.cells oa cap).toArray,.slice ot T.length ct,.string ⟨lots.toArray⟩] w (Xa c lots T w):=by
 have hC:(c.cells oa cap).toArray= #[.string ⟨c.nm.toArray⟩,.slice oa c.op.length cap,.int .i64 c.rl,.int .i64 c.se,.int .i64 c.mo]:=rfl;have QD:=jA (fun w h=>Ys c lots oa cap w h hf Gw);rw [hC]at QD ⊢;clear hC hf;have HS:=jA hs;have HT:=jA hT;have EW:=jA hS;have MF:=jA (show Vt c T=if yz c=true then 2 else if T.length≠c.op.length then 2 else if jdk T=true then 4 else 0 from rfl);clear hs hT hS;unfold ZY at QD;go_enter Tryz.func59,Tryz.ntmps59;go_upto_region 1 with(fail);generalize hB:w.heap.size=B at*;refine Go.bxE hB ?_;intro w1 ts;have HB:=jA hB;have B1:=jA ts.1;have X1:=jA ts.2;have mt:B<w1.heap.size:=xZ ts.2;have k0:w1.cell? ⟨B,0,none⟩=some (.string ⟨c.nm.toArray⟩):=jM w1 B 0 _ _ _ ts.2;have k1:w1.cell? ⟨B,1,none⟩=some (.slice oa c.op.length cap):=jM w1 B 1 _ _ _ ts.2;have k2:w1.cell? ⟨B,2,none⟩=some (.int .i64 c.rl):=jM w1 B 2 _ _ _ ts.2;have k3:w1.cell? ⟨B,3,none⟩=some (.int .i64 c.se):=jM w1 B 3 _ _ _ ts.2;clear hB ts;clear k0 k2;have Q1:=jA (QD.u w1 (HS.u.below (HB.u.symm▸B1.u)));clear QD;cases hW:yz c with
 |
  true=>
  rw [hW]at Q1 MF;have iB:=jA (MF.u.trans (jP rfl));clear hW MF;go_wp2_with (first|(refine xy rfl 24 _ rfl B _ _ _ _ rfl X1.u underlying24 rfl xt ?_)|(go_at_call 31;refine Q1.u.mono ?_;rintro e w3 ⟨b3,h3⟩;rw [jP rfl]at h3;subst h3))
  go_ret2
  have hE:Vt c T=2:=iB.u;exact⟨by rw [HB.u];exact B1.u.trans (b3.mono (jX mt)),by rw [jQ (by rw [hE];decide),hE];rfl⟩
 |false=>
 rw [hW]at Q1 MF;have HW:=jA hW;clear hW;have gB:=jA (MF.u.trans (jQ (by decide)));clear MF;go_upto_region 2 with(first|(refine xy rfl 24 _ rfl B _ _ _ _ rfl X1.u underlying24 rfl xt ?_)|(go_at_call 31;refine Q1.u.mono ?_;rintro e w3 ⟨b3,h3⟩;rw [jQ (by decide)]at h3;obtain⟨O,oO,cO,hO,dz,rfl⟩:=h3;have HO:=jA hO;have BH:=jA dz;clear hO dz));have X3:=jA (xe b3 mt X1.u);have B3:=jA (B1.u.trans (b3.mono (jX mt)));have HT3:=jA (HT.u.below (HB.u.symm▸B3.u));clear k1 k3 Q1 b3 X1 B1 mt;have k1:w3.cell? ⟨B,1,none⟩=some (.slice oa c.op.length cap):=jM w3 B 1 _ _ _ X3.u;by_cases Ds:T.length=c.op.length;case neg=>
  have hE:=jA (gB.u.trans (jP Ds));have e1:((T.length:Int) !=(c.op.length:Int))=true:=by rw [ju];omega
  have e2:(T.length !=c.op.length)=true:=by rw [ju];exact Ds
  clear gB Ds;go_wp2_with fail
  go_ret2
  exact⟨by rw [HB.u];exact B3.u,by rw [jQ (by rw [hE.u];decide),hE.u];rfl⟩
 have pL:=jA (gB.u.trans (jQ (fun h=>h Ds)));clear gB;have hn:=jA (show 1≤c.op.length∧c.op.length≤12∧1≤c.se∧c.se≤c.op.length by have:=HW.u;unfold yz at this;have:=qr this;omega);have e1:((T.length:Int) !=(c.op.length:Int))=false:=by rw [bne_eq_false_iff_eq];omega
 have e2:(T.length !=c.op.length)=false:=by rw [bne_eq_false_iff_eq];exact Ds
 have MC:=jA Ds;clear Ds;go_wp2_with fail;clear e1 e2 k1
 go_loop [33] (fun i=> ∃k:Nat,k≤T.length∧i=.int .i64 k∧jdk (T.take k)=false) (fun i=>T.length-(intOf i).toNat)
 case atStart=>exact⟨0,by omega,rfl,rfl⟩
 case round=>
 obtain⟨k,hk,rfl,Rw⟩:=hrel;have HNG:=jA Rw;clear Rw;by_cases ns:k<T.length
 ·obtain⟨dk,Ms,nu⟩:=Go.yD ns
  obtain⟨q,Us,Wy,Mv⟩:=HT3.u.cells k ns;subst Us
  have DP:=jA (show jdk (T.take (k+1))=decide (T[k]<0)by
   have:=HNG.u;unfold jdk at*;rw [jh ns,List.any_append,this];simp)
  have LF:=jA (fun h:T[k]<0=>(show jdk T=true from vI.2 ⟨T[k],jb ns,by simpa using h⟩));generalize T[k]=x at*;by_cases hx:x<0
  ·have dx:decide (x<0)=true:=jT hx;have hE:=jA (pL.u.trans (jP (LF.u hx)));clear hx DP LF pL;go_wp2_with fail
   go_ret2
   exact⟨by rw [HB.u];exact B3.u,by rw [jQ (by rw [hE.u];decide),hE.u];rfl⟩
  ·have dx:decide (x<0)=false:=jS hx;have LC:=jA (DP.u.trans dx);clear hx DP LF;go_wp2_with fail
   go_round
   case rel=>exact⟨k+1,by omega,by go_num,LC.u⟩
   case measure=>simp [intOf];omega
 obtain⟨dk,Ms⟩:=Go.yg ns;obtain rfl:k=T.length:=by omega
 rw [jr]at HNG;have hE:=jA (pL.u.trans (jQ (by rw [HNG.u];decide)));clear pL hk ns;have HBS:=jA (EW.u hE.u);clear EW HNG;obtain⟨se,cG⟩: ∃se:Nat,c.se=(se:Int):=⟨c.se.toNat,by have:=hn.u;omega⟩;have gA:=jA cG;have Hx:se≤c.op.length:=by have:=hn.u;omega
 have Ws:c.op.length≤12:=hn.u.2.1;have mK:=jA HBS.u.len;have HOl:=jA HO.u.len;obtain⟨i0,hi,Is,Ts,Ns⟩:=info_parts KC;have HI:=jA hi;have Dt:=jA Is;have Ct:=jA Ts;have Bt:=jA Ns;clear hi Is Ts Ns cG;go_wp2_with fail;clear dk Ms
 as_aux_lemma=>
 obtain⟨M,hM⟩: ∃M,M=w3.heap.size:=⟨_,rfl⟩;have Gy:B<M:=by have:=xZ X3.u;omega
 have HM:=jA hM;clear hM;go_loopw [12] (fun vo wr=> ∃j:Nat,j≤se∧wr.ownsRow M 3 1 vo j (xq (S.take j))∧O0 M w3 wr) (fun vo _=>se-sliceLen vo);case atStart=>exact⟨0,by omega,kg _ _ _ _,jN _ _⟩
 case round=>
 obtain⟨j,hj,Nt,it⟩:=hrel;have By:(S.take j).length=j:=by rw [jf];have:=mK.u;omega
 obtain⟨ob,cb,SC, -, -⟩:=zT Nt;rw [By]at SC;subst SC;have Fv:=jA Nt;have BE:=jA it;have HJL:=jA By;clear Nt it By;have k3:wr.cell? ⟨B,3,none⟩=some (.int .i64 c.se):=jM wr B 3 _ _ _ (xe BE.u Gy X3.u);have hMs:M≤wr.heap.size:=by have:=BE.u.size;rw [←HM.u]at this;exact this
 by_cases ns:j<se
 ·have dj:decide ((j:Int)<c.se)=true:=jT (by rw [gA.u];omega);have hjS:j<S.length:=by have:=mK.u;omega
  go_wp2_with fail;clear k3 dj
  as_aux_lemma=>
  go_loopw [47,13] (fun i vb wr=> ∃(m:Nat) (b:Int),m≤O.length∧i=.int .i64 m∧vb=.int .i64 b∧VQ T (Kr c lots) O (S.take j) m b∧wr.ownsRow M 3 1 (.slice ob j cb) j (xq (S.take j))∧O0 M w3 wr) (fun i _ _=>O.length-(intOf i).toNat);case atStart=>exact⟨0, -1,by omega,rfl,rfl,jhq _ _ _ _,Fv.u,BE.u⟩
  case round=>
  clear Fv BE hMs;obtain⟨m,b,hm,rfl,rfl,pF,Nt,it⟩:=hrel;have Fv:=jA Nt;have BE:=jA it;have HBO:=jA pF;clear Nt it pF;have hMs:M≤wr.heap.size:=by have:=BE.u.size;rw [←HM.u]at this;exact this
  have CU:O.length≤12:=by have:=HOl.u;omega
  by_cases hlo:m<O.length
  ·as_aux_lemma=>
   obtain⟨dm,dm2,NG⟩:=Go.yD hlo
   obtain⟨q,Us,Wy,Mv⟩:=(BH.u.below (HM.u▸BE.u)).cells m hlo;subst Us;obtain⟨o,ho⟩: ∃o:Nat,O[m]=(o:Int):=⟨O[m].toNat,by have:=HO.u.mem.1 (jb hlo);omega⟩;have WY:o<c.op.length:=by have:=HO.u.mem.1 (jb hlo);rw [ho]at this;omega
   have Ou:=jA (show O.take (m+1)=O.take m++ [(o:Int)]by rw [jh hlo,ho]);have gL:=jA (show(O.take m++ [(o:Int)]).Pairwise (ltL (Kr c lots))by rw [←Ou.u];exact HO.u.srt.sublist (List.take_sublist _ _));rw [ho]at Mv;clear ho;have hoT:o<T.length:=by rw [MC.u];exact WY
   obtain⟨qt,hot,hqtb,oT⟩:=(HT3.u.below (HM.u▸BE.u)).cells o hoT;subst hot;have wW:=jA (show T.getD o 0=T[o]by rw [jV,kL hoT];rfl);have UY:(o:Int)<(T.length:Int):=by omega
   obtain⟨tv,IY⟩: ∃tv,tv=T[o]:=⟨_,rfl⟩;rw [←IY]at oT wW;clear IY;obtain⟨oS,cS,hvS, -,NM⟩:=zT Fv.u;obtain⟨rfl,rfl⟩:ob=oS∧cb=cS:=by injection hvS with h1 _ h3;exact⟨h1,h3⟩
   have QI:=jA (fun w' (h:yW w' ob (S.take j))=>jaP ob (S.take j) cb (o:Int) w' h (by rw [HJL.u];omega));rw [HJL.u]at QI;have SZ:=jA (QI.u wr.drew (NM.below (jN _ _).drew));clear hvS NM QI;obtain⟨N,hN⟩: ∃N,N=wr.heap.size:=⟨_,rfl⟩;have nt:O0 N wr wr.drew:=(jN _ _).drew;have HQT:=jA oT;have dq: ∀x:xj N wr,x.w.cell? (qt.add o)=some (.int .i64 tv):=fun x=>(x.2.cell (by rw [yI,hN];exact hqtb)).trans HQT.u
   have HBN:=jA (fun(bn:Nat) (hb:bn<T.length)=>(show ∀x:xj N wr,x.w.cell? (qt.add bn)=some (.int .i64 (T[bn]))from fun x=>by
    obtain⟨q3,h3,h4,h5⟩:=(HT3.u.below (HM.u▸BE.u)).cells bn hb;obtain rfl:qt=q3:=by injection h3
    exact(x.2.cell (by rw [yI,hN];exact h4)).trans h5))
   clear hN oT;go_upto_region 18 with(fail);clear Mv Wy NG;cases bt:decide ((o:Int)∈S.take j)with
   |
    true=>
    rw [bt]at SZ;have FI:=jA (qP bt);clear bt;refine Seg.xf (fun w'=> ∃x:xj N wr,w'=x.w) [([0,1],2)] [3,4,5,6,7,8,9,10,11,12,13,14,15] 16 (by kernel_rfl) (by kernel_rfl) (fun _ _ d _ _ h=>by cases d<;>exact h) (⟨⟨_,nt⟩,rfl⟩) ?_;simp only [jK,Seg.opAt,Seg.xu];repeat (any_goals (first|go_big_quiet_step (fail)|quiet_step (fail)))
    refine jR ?_;intro K hK;simp only [Region.wanted,jY];go_wp2_with (go_at_call 38;refine SZ.u.mono ?_;rintro e w5 ⟨rfl,rfl⟩);refine hK _ _ ⟨⟨_,nt⟩,rfl⟩ ?_;clear hK K;repeat (any_goals (first|go_big_quiet_step (fail)|quiet_step (fail)))
    refine jR ?_;go_wp2_with fail;go_roundw;case rel=>exact⟨m+1,b,by omega,by go_num,rfl,jiK HBO.u Ou.u FI.u,zM Fv.u,BE.u.drew⟩
    case measure=>simp [intOf];omega
   |
    false=>
    rw [bt]at SZ;have FI:=jA (qr bt);clear bt;by_cases hb:b<0
    ·have db:decide (b<0)=true:=jT hb;have IH:=jA (jfN HBO.u hb Ou.u FI.u (by omega));clear hb;refine Seg.xf (fun w'=> ∃x:xj N wr,w'=x.w) [([0,1],2)] [3,4,5,6,7,8,9,10,11,12,13,14,15] 16 (by kernel_rfl) (by kernel_rfl) (fun _ _ d _ _ h=>by cases d<;>exact h) (⟨⟨_,nt⟩,rfl⟩) ?_;simp only [jK,Seg.opAt,Seg.xu];repeat (any_goals (first|go_big_quiet_step (fail)|quiet_step (fail)))
     refine jR ?_;intro K hK;simp only [Region.wanted,jY];go_wp2_with (go_at_call 38;refine SZ.u.mono ?_;rintro e w5 ⟨rfl,rfl⟩);refine hK _ _ ⟨⟨_,nt⟩,rfl⟩ ?_;clear hK K;repeat (any_goals (first|go_big_quiet_step (fail)|quiet_step (fail)))
     refine jR ?_;go_wp2_with fail;go_roundw;case rel=>exact⟨m+1,o,by omega,by go_num,rfl,IH.u,zM Fv.u,BE.u.drew⟩
     case measure=>simp [intOf];omega
    ·obtain⟨bn,rfl⟩: ∃bn:Nat,b=bn:=⟨b.toNat,by omega⟩;have hbT:bn<T.length:=by
      rcases HBO.u with⟨h1,_⟩|⟨_,h2,_⟩;·omega
      ·have:=HO.u.mem.1 (qR h2);rw [MC.u];omega
     have db:decide ((bn:Int)<0)=false:=jS (by omega);have oZ:(bn:Int)<(T.length:Int):=by omega
     have dqb:=HBN.u bn hbT;have HTB:=jA (show T.getD bn 0=T[bn]by rw [jV,kL hbT];rfl);clear hb HBN;obtain⟨tb,htb⟩: ∃tb,tb=T[bn]:=⟨_,rfl⟩;rw [←htb]at dqb HTB;clear htb;by_cases NO:tb<tv
     ·have dT:decide (tb<tv)=true:=jT NO;have IH:=jA (jhr HBO.u (by omega) Ou.u FI.u (by omega) (by rw [ke,ke,wW.u,HTB.u];exact NO));clear NO;refine Seg.xf (fun w'=> ∃x:xj N wr,w'=x.w) [([0,1],2)] [3,4,5,6,7,8,9,10,11,12,13,14,15] 16 (by kernel_rfl) (by kernel_rfl) (fun _ _ d _ _ h=>by cases d<;>exact h) (⟨⟨_,nt⟩,rfl⟩) ?_;simp only [jK,Seg.opAt,Seg.xu];repeat (any_goals (first|go_big_quiet_step (fail)|quiet_step (fail)))
      refine jR ?_;intro K hK;simp only [Region.wanted,jY];go_wp2_with (go_at_call 38;refine SZ.u.mono ?_;rintro e w5 ⟨rfl,rfl⟩);refine hK _ _ ⟨⟨_,nt⟩,rfl⟩ ?_;clear hK K;repeat (any_goals (first|go_big_quiet_step (fail)|quiet_step (fail)))
      refine jR ?_;go_wp2_with fail;go_roundw;case rel=>exact⟨m+1,o,by omega,by go_num,rfl,IH.u,zM Fv.u,BE.u.drew⟩
      case measure=>simp [intOf];omega
     ·have dT:decide (tb<tv)=false:=jS NO;have IH:=jA (jhs HBO.u (by omega) Ou.u gL.u (by rw [ke,ke,wW.u,HTB.u];exact NO));clear NO;refine Seg.xf (fun w'=> ∃x:xj N wr,w'=x.w) [([0,1],2)] [3,4,5,6,7,8,9,10,11,12,13,14,15] 16 (by kernel_rfl) (by kernel_rfl) (fun _ _ d _ _ h=>by cases d<;>exact h) (⟨⟨_,nt⟩,rfl⟩) ?_;simp only [jK,Seg.opAt,Seg.xu];repeat (any_goals (first|go_big_quiet_step (fail)|quiet_step (fail)))
      refine jR ?_;intro K hK;simp only [Region.wanted,jY];go_wp2_with (go_at_call 38;refine SZ.u.mono ?_;rintro e w5 ⟨rfl,rfl⟩);refine hK _ _ ⟨⟨_,nt⟩,rfl⟩ ?_;clear hK K;repeat (any_goals (first|go_big_quiet_step (fail)|quiet_step (fail)))
      refine jR ?_;go_wp2_with fail;go_roundw;case rel=>exact⟨m+1,bn,by omega,by go_num,rfl,IH.u,zM Fv.u,BE.u.drew⟩
      case measure=>simp [intOf];omega
  ·as_aux_lemma=>
   obtain⟨dm,dm2⟩:=Go.yg hlo;obtain rfl:m=O.length:=by omega
   have hb:=jiL HO.u HBS.u hjS HBO.u;have PE:=jA (show S.take (j+1)=S.take j++ [b]by rw [hb];exact jh hjS);have OWA:=jA (Fv.u.alloc (.cells #[.int .i64 b] 3));clear hb;have hj12:j<12:=by omega
   go_wp2_with (at_builtin;refine wpList_append_lies _ rfl (.tmp 72) (.tmp 74) 29 rfl M 3 i0 (.int .i64 0) 1 8 underlying29 HI.u Dt.u Ct.u Bt.u rfl (by decide) (.slice ob j cb) j (xq (S.take j)) rfl OWA.u ⟨wr.heap.size,0,none⟩ 1 1 (xq [b]) rfl rfl (zK (xh rfl)) (Kb _) (by decide) (by unfold maxLen;omega) (by omega) (by simp;omega) _ rfl (fun g cp w4 own hg hf NJ=>?_));rw [JW,←PE.u]at own;have OW4:=jA own;have Fz:=jA ((BE.u.alloc hMs (.cells #[.int .i64 b] 3)).grown hg (by simp;omega) (fun k hk=>(Fv.u.lt k hk).1));clear own hg hf NJ;go_roundw;case rel=>exact⟨j+1,by omega,OW4.u,Fz.u⟩
   case measure=>simp [sliceLen];omega
 ·have dj:decide ((j:Int)<c.se)=false:=jS (by rw [gA.u];omega);have HJS:=jA (show j=se by omega);go_wp2_with fail
  go_ret2
  obtain⟨oS,cS,hvS, -,NM⟩:=zT Fv.u;obtain⟨rfl,rfl⟩:ob=oS∧cb=cS:=by injection hvS with h1 _ h3;exact⟨h1,h3⟩
  refine⟨by rw [HB.u];exact B3.u.trans (BE.u.mono (jX Gy)),?_⟩;rw [jP hE.u];refine⟨S,ob,cb,HBS.u,by rw [gA.u,ke,←HJS.u];exact NM,?_⟩;rw [gA.u,ke,←HJS.u,HJL.u];rfl
theorem jdp {e e':Mx}(h: ∀i j,i<n→j<n→e i j=e' i j){s:Int}{i:Nat}(hw:CT.Way e n s i j):CT.Way e' n s i j:=by
 induction hw with
 |one h1 h2 h3=>exact .one h1 h2 (by rw [←h _ _ h1 h2];exact h3)
 |more h1 h2 h3 ih=>exact .more ih h2 (by rw [←h _ _ h1.lt.2 h2];exact h3)
theorem jeT {e e' w:Mx}(h: ∀i j,i<n→j<n→e i j=e' i j)(hs:JS e n w):JS e' n w:=
 ⟨hs.zero,hs.nn,fun i j hi hj pt s h0=>⟨fun hw=>jdp h ((hs.is i j hi hj pt s h0).1 hw),fun hw=>(hs.is i j hi hj pt s h0).2 (jdp (fun a b ha hb=>(h a b ha hb).symm) hw)⟩⟩
theorem jgv{K Q:List (n0×C0)}(Sw:1≤n)(Ws:n≤12)(hK:K.length≤4096)(hQ:Q.map Prod.snd=(List.range n).map (KO n (zv K))):Q.length=n∧wrE Q=0∧ ∀i j,i<n→j<n→mxP Q i j=zv K i j:=by
 have hl:Q.length=n:=by have:=qO List.length hQ;simpa using this
 have hr: ∀i (h:i<Q.length),Q[i].2=KO n (zv K) i:=fun i h=>by
  have h2:=qO (fun l=>l[i]?) hQ;have h3:i<n:=by omega
  simpa [h,h3] using h2
 have ha:XE Q.length Q:=fun p hp=>by
  obtain⟨i,hi,rfl⟩:=qs.1 hp;rw [hr i hi,Qv,hl]
 refine⟨hl,?_,fun i j hi hj=>?_⟩
 ·unfold wrE;rw [jQ (by rintro(h|h|h)<;>first|omega|exact h ha),jQ];rw [vI];rintro⟨x,hx,hb⟩;obtain⟨p,hp,hxp⟩:=qj.1 hx;obtain⟨i,hi,rfl⟩:=qs.1 hp;rw [hr i hi]at hxp;obtain⟨j,_,rfl⟩:=jo.1 hxp;have:=jjn K i j;unfold Za zv at hb;rw [jS (by omega),jS (by omega)]at hb;cases hb
 ·rw [jft Q i j (by omega) (by rw [hr i (by omega),Qv];exact hj)];have:=hr i (by omega);simp only [this,jlO]
end Go.Proofs.YtnohcdpnnhmpfaaGreatDoor
