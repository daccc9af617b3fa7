/- Chapter 13, Transfer: the comparer of sorted[exact.Frac]. -/
import Derived.Test.YtnohcdpnnhmpfaaGreatDoorE19
set_option linter.all false
set_option maxRecDepth 100000
set_option maxHeartbeats 4000000
namespace Go.Proofs.YtnohcdpnnhmpfaaGreatDoor.TR
open Go.RowKit Tryz ML FRP AU CT FM
structure jln(w:m0)(p q r:Nat)(r6:A0)(n:Nat)(T:Nat→Fr)(P:C0)(base g cap:Nat)(xa xb:Nat→n0):Prop where
 hp:w.heap[p]?=some (.cells #[(.func (.func 51) #[] #[])] 172 (0,0))
 hq:w.heap[q]?=some (.cells #[.slice (some ⟨g,0,none⟩) n cap] 114 (0,0))
 tot:KG w base n T (.slice (some ⟨g,0,none⟩) n cap) xa xb
 hr: ∃oP cP,w.heap[r]?=some (.cells (r6++ [Value.slice oP P.length cP]).toArray 62 (0,0))∧yW w oP P
 h6:r6.length=6
theorem jln.below {w w1:m0}{p q r:Nat}{r6:A0}{n:Nat}{T:Nat→Fr}{P:C0}{base g cap:Nat}{xa xb:Nat→n0}(h:jln w p q r r6 n T P base g cap xa xb)(hb:O0 w.heap.size w w1):jln w1 p q r r6 n T P base g cap xa xb:=by
 obtain⟨oP,cP,hr,hP⟩:=h.hr;exact⟨xe hb (xZ h.hp) h.hp,xe hb (xZ h.hq) h.hq,h.tot.below hb,⟨oP,cP,xe hb (xZ hr) hr,hP.below hb⟩,h.h6⟩
def jcO(T:Nat→Fr)(P:C0)(a b:Int):Int:=orI (VM (T b.toNat) (T a.toNat)) (P.getD a.toNat 0-P.getD b.toNat 0)
theorem jcf(i j:Nat)(p q r:Nat)(r6:A0)(n:Nat)(T:Nat→Fr)(P:C0)(base g cap:Nat)(xa xb:Nat→n0)(w:m0)(h:jln w p q r r6 n T P base g cap xa xb)(hi:i<n)(hj:j<n)(MO:n=P.length)(hl:n<1000)(fH: ∀x∈P,0≤x∧x<1000)(hT: ∀i,i<n→Sml (T i)):
 Calls prog 173 #[.int .i64 i,.int .i64 j,.pointer (some ⟨p,0,none⟩),.pointer (some ⟨q,0,none⟩),.pointer (some ⟨r,0,none⟩)] w fun e w'=>e=.returned (.int .i64 (jcO T P i j))∧O0 w.heap.size w w':=by
 obtain⟨oP,cP,hr,hP⟩:=h.hr;have hp:=h.hp;have hq:=h.hq;have h6:=h.h6;obtain⟨qp,hop,bM,aM⟩:=hP.cells i (by omega);obtain⟨qp2,sJ, -,hpj⟩:=hP.cells j (by omega);subst hop;obtain rfl:qp=qp2:=by injection sJ
 have bi:=fH P[i] (jb _);have bj:=fH P[j] (jb _)
 have HE:=jA (show jcO T P i j=orI (VM (T j) (T i)) (P[i]-P[j])by
  unfold jcO;simp only [ke,jV];rw [kL (by omega:i<P.length),kL (by omega:j<P.length)];rfl)
 have HS:=jA JJ;have TI:=jA (h.tot.mid hi);have TJ:=jA (h.tot.mid hj);have ay:g<w.heap.size:=by
  rcases h.tot.row.own.2 with⟨hv,_⟩|⟨g2,_,_,hv,_,Hu,_⟩;·cases hv
  ·injection hv with h1;injection h1 with h1;injection h1 with h1;subst h1;exact xZ Hu
 have Q:=jA (jow w.drew (Trn.fr (Trn.of_below (jN _ _).drew 0 0) (h.tot.frs j hj)) (Trn.fr (Trn.of_below (jN _ _).drew 0 0) (h.tot.frs i hi)) (hT j hj).lens (hT i hi).lens);have zi:(i:Int)<(n:Int):=by omega
 have zj:(j:Int)<(n:Int):=by omega
 have eK:VM (T j) (T i)= -1∨VM (T j) (T i)=0∨VM (T j) (T i)=1:=by
  rcases Qb (hT j hj).ok.1 (hT i hi).ok.1 with h|h|h;·exact .inl h.1
  ·exact .inr (.inl h.1)
  ·exact .inr (.inr h.1)
 rw [←MO]at hr;generalize VM (T j) (T i)=cc at*;generalize P[i]=pi at*;generalize P[j]=pj at*;obtain⟨M,hM⟩: ∃M,M=w.heap.size:=⟨_,rfl⟩;have hpM:p<M:=hM▸xZ hp;have SY:q<M:=hM▸xZ hq;have hrM:r<M:=hM▸xZ hr;rw [←hM]at ay bM;have nt:O0 M w w.drew:=(jN _ _).drew;have c1:w.cell? ⟨p,0,none⟩=some (.func (.func 51) #[] #[]):=jM w p 0 _ _ _ hp;have c2:w.cell? ⟨q,0,none⟩=some (.slice (some ⟨g,0,none⟩) n cap):=jM w q 0 _ _ _ hq;have c3:w.cell? ⟨r,6,none⟩=some (.slice (some qp) n cP):=by
  rw [jM w r 6 _ _ _ hr];simp [h6]
 have C1:=jA c1;have C2:=jA c2;have C3:=jA c3;have PI:=jA aM;have PJ:=jA hpj;have eZ:=yI qp i;have hk4:=yI qp j;have HM:=jA hM;clear hP hp hq hr sJ fH c1 c2 c3 aM hpj h hT;go_enter Tryz.func173,Tryz.ntmps173;go_wp2_with fail;have d1: ∀x:xj M w,x.w.cell? ⟨p,0,none⟩=some (.func (.func 51) #[] #[]):=fun x=>JO ⟨x,rfl⟩ hpM C1.u;have d2: ∀x:xj M w,x.w.cell? ⟨q,0,none⟩=some (.slice (some ⟨g,0,none⟩) n cap):=fun x=>JO ⟨x,rfl⟩ SY C2.u;have d3: ∀x:xj M w,x.w.cell? ⟨r,6,none⟩=some (.slice (some qp) n cP):=fun x=>JO ⟨x,rfl⟩ hrM C3.u;have d6: ∀x:xj M w,x.w.cell? (qp.add i)=some (.int .i64 pi):=fun x=>JO ⟨x,rfl⟩ (by omega) PI.u;have d7: ∀x:xj M w,x.w.cell? (qp.add j)=some (.int .i64 pj):=fun x=>JO ⟨x,rfl⟩ (by omega) PJ.u;have HC:=jA (fun(x:xj M w) (o:Nat) (l:A0) (h: ∀j u,l[j]?=some u→w.cell? ((⟨g,o,none⟩:Addr).add j)=some u) (j:Nat) (u:n0) (hj:l[j]?=some u)=>(x.2.cell (p:=(⟨g,o,none⟩:Addr).add j) (by rw [yI];exact ay)).trans (h j u hj));clear eZ hk4 hM;refine Seg.xf (fun w'=> ∃x:xj M w,w'=x.w) [([0,1,2,3,4,5,6,7,8,10,11,12,13,14,15,16,17,18,19,20],9)] [] 21 (by kernel_rfl) (by kernel_rfl) (fun _ _ d _ _ h=>by cases d<;>exact h) (⟨⟨_,nt⟩,rfl⟩) ?_;simp only [jK,Seg.opAt,Seg.xu];iterate 4 first|go_big_quiet_step (fail)|quiet_step (fail)
 refine xx rfl 90 _ rfl ⟨g,j*2,none⟩ [xa j,xb j] _ rfl (fun w' Tt=>by obtain⟨x,rfl⟩:=Tt;exact HC.u x _ _ TJ.u) underlying90 rfl HS.u ?_;iterate 3 first|go_big_quiet_step (fail)|quiet_step (fail)
 refine xx rfl 90 _ rfl ⟨g,i*2,none⟩ [xa i,xb i] _ rfl (fun w' Tt=>by obtain⟨x,rfl⟩:=Tt;exact HC.u x _ _ TI.u) underlying90 rfl HS.u ?_;repeat (any_goals (first|go_big_quiet_step (fail)|quiet_step (fail)))
 refine jR ?_;intro K hK;simp only [Region.wanted,jY];go_wp2_with (go_at_call 51;refine Q.u.mono ?_;rintro e w1 ⟨rfl,b1⟩);have B1:=jA (yq b1);have BM:=jA (show O0 M w w1 by rw [HM.u];exact B1.u);refine hK _ _ ⟨⟨_,BM.u⟩,rfl⟩ ?_;clear hK K b1;have QO:=jA (fun(g:Nat) (w1:m0) (h:w1.heap[g]?=some (.cells #[.int .i64 cc,.int .i64 (pi-pj)] 3 (0,0)))=>jmi cc (pi-pj) g 2 w1 (jM w1 g 0 _ _ _ h) (jM w1 g 1 _ _ _ h));have QO2:=jA (QO.u w1.heap.size (w1.alloc (.cells #[.int .i64 cc,.int .i64 (pi-pj)] 3)) (xh rfl));clear QO;repeat (any_goals (first|go_big_quiet_step (fail)|quiet_step (fail)))
 refine jR ?_;go_wp2_with (go_at_call 142;refine QO2.u.mono ?_;rintro e w2 ⟨rfl,rfl⟩);go_ret;exact⟨by rw [HE.u];rfl,B1.u.alloc B1.u.size _⟩
end Go.Proofs.YtnohcdpnnhmpfaaGreatDoor.TR
namespace Go.Proofs.YtnohcdpnnhmpfaaGreatDoor
open Go.RowKit Tryz ML FM AU CT
theorem jfA(N:FuncId)(qN:zh N)(c:Int→Int→Int)(le:Int→Int→Prop)(tr: ∀a b c,le a b→le b c→le a c)(D:C0)(X cap base:Nat)(p q r:Nat)(w:m0)
 (HC: ∀(x y:Int) (w':m0),x∈D→y∈D→Kept X w w'→Calls prog N #[.int .i64 x,.int .i64 y,.pointer (some ⟨p,0,none⟩),.pointer (some ⟨q,0,none⟩),.pointer (some ⟨r,0,none⟩)] w' fun e Fu=>e=.returned (.int .i64 (c x y))∧O0 w'.heap.size w' Fu)
 (hc:D.Pairwise fun y x=>(c x y<0→le x y)∧(0≤c x y→le y x)) (hl:D.length<4611686018427387904) (hD:w.ownsRow base 3 1 (.slice (some ⟨X,0,none⟩) D.length cap) D.length (xq D)):
 Calls prog 166 #[.slice (some ⟨X,0,none⟩) D.length cap,.int .i64 0,.int .i64 D.length,.func (.func N) #[] #[.pointer (some ⟨p,0,none⟩),.pointer (some ⟨q,0,none⟩),.pointer (some ⟨r,0,none⟩)]] w fun e w'=>e=.returned (.tuple #[])∧Vh le D X cap base 3 w w':=by
 have TR:=jA tr;have QC:=jA HC;have PC:=jA hc;have RD:=jA hD;have hX:X<w.heap.size:=YV hD;clear tr HC hc hD;unfold zh at qN;go_enter Tryz.func166,Tryz.ntmps166;go_wp2_with fail;go_loopw [8] (fun i wr=> ∃(k:Nat) (S:C0),1≤k∧(k≤D.length∨k=1)∧i=.int .i64 k∧Zk le D S k∧wr.ownsRow base 3 1 (.slice (some ⟨X,0,none⟩) D.length cap) D.length (xq (S++D.drop k))∧Kept X w wr) (fun i _=>D.length-(intOf i).toNat);case atStart=>exact⟨1,D.take 1,by omega,.inr rfl,rfl,jei le D,by rw [qw];exact RD.u,Kept.refl X w⟩
 case round=>
 clear RD;obtain⟨k,S,fZ,gG,rfl,hS,hR,hK⟩:=hrel;have HS:=jA hS;have HR:=jA hR;have HK:=jA hK;clear hS hR hK;by_cases ns:k<D.length
 ·obtain⟨dk,Ms,nu⟩:=Go.yD ns
  obtain⟨x,hx⟩: ∃x,x=D[k]:=⟨_,rfl⟩;have cy:D.drop k=x::D.drop (k+1):=by rw [hx,qA ns]
  have mK:=HS.u.len (by omega);have HXD:=jA (show x∈D by rw [hx];exact jb ns)
  have Wv:=jA (show ∀y∈S,(c x y<0→le x y)∧(0≤c x y→le y x)from fun y hy=>by
   rw [hx];exact Zf PC.u k ns y (HS.u.perm.mem_iff.1 hy))
  have HSD:=jA (show ∀y∈S,y∈D from fun y hy=>qR (HS.u.perm.mem_iff.1 hy));have Iw:=jA (show ∀A C,A++C=S→(A++x::C).Pairwise le→Zk le D (A++x::C) (k+1)from fun A C nH hp=>HS.u.next ns nH (hx▸rfl) hp);have GW:=jA (show wr.ownsRow base 3 1 (.slice (some ⟨X,0,none⟩) D.length cap) D.length (xq (S++x::D.drop (k+1)))by rw [←cy];exact HR.u);clear HR cy hx;have hLR:S.length+(1+(D.drop (k+1)).length)=D.length:=by rw [kQ];omega
  obtain⟨R,hR⟩: ∃R,R=D.drop (k+1):=⟨_,rfl⟩;rw [←hR]at hLR GW;have sH:=jA hR;clear hR;generalize Iu:w.heap.size=W at*;clear Iu;go_wp2_with fail;go_loopw [9] (fun j wr=> ∃(A C:C0),j=.int .i64 (A.length:Int)∧A++C=S∧(∀y∈C,le x y)∧wr.ownsRow base 3 1 (.slice (some ⟨X,0,none⟩) D.length cap) D.length (xq (A++x::(C++R)))∧Kept X w wr) (fun j _=>(intOf j).toNat);case atStart=>exact⟨S,[],by rw [mK],by simp,by simp,by simpa using GW.u,HK.u⟩
  case round=>
  clear GW HK;obtain⟨A,C,rfl,nH,hC,hR,hK⟩:=hrel;have CL:=jA nH;have HCC:=jA hC;have HR:=jA hR;have HK:=jA hK;have LE:A.length≤S.length:=by rw [←nH];simp
  clear nH hC hR hK;have gL:=jA (fun h=>jhW TR.u A C x (CL.u▸HS.u.srt) HCC.u h);rcases List.eq_nil_or_concat A with hA|⟨A',y,hA⟩
  ·subst hA;have d0:decide ((0:Int)<0)=false:=rfl;have HF:=jA (Iw.u [] C CL.u (gL.u (fun A' z h=>by simp at h)));go_wp2_with fail;refine Seg.xf (fun w'=> ∃m,w'=wr.drewN m) [] [0,1,2,3,4,5,6,7,8,9,10,11,12,13] 14 (by kernel_rfl) (by kernel_rfl) (fun _ _ d _ _ h=>by cases d<;>exact h) (⟨1,rfl⟩) ?_;simp only [jK,Seg.opAt,Seg.xu];repeat (any_goals (first|go_big_quiet_step (fail)|quiet_step (fail)))
   refine jR ?_;go_wp2_with fail;go_roundw;case rel=>exact⟨k+1,x::C,by omega,.inl (by omega),by go_num,HF.u,by rw [←sH.u];exact zM HR.u,HK.u.drew⟩
   case measure=>simp [intOf];omega
  ·rw [List.concat_eq_append]at hA;obtain⟨jp,hjp⟩: ∃jp,jp=A'.length:=⟨_,rfl⟩;have eV:A.length=jp+1:=by rw [hA,hjp];simp
   have uu:=HR.u.cellAt (jp+1) (by omega);have gy:=HR.u.cellAt jp (by omega);have WJ:=HR.u.frozenAt (jp+1);have uA:=HR.u.frozenAt jp;have e1:(xq (A++x::(C++R)))[jp+1]?=some (.int .i64 x):=by rw [←eV];simp [xq]
   have e0:(xq (A++x::(C++R)))[jp]?=some (.int .i64 y):=by rw [hA,hjp];simp [xq]
   rw [e1]at uu;rw [e0]at gy;clear e1 e0;have OS:y∈S:=by rw [←CL.u,hA];simp
   have QQ:=jA (fun w' (hk:Kept X w w')=>QC.u x y w' HXD.u (HSD.u y OS) hk);have CS:=jA (Wv.u y OS)
   have fX:=jA (show ∀A2 z,A=A2++ [z]→0≤c x y→le z x from fun A2 z h h0=>by
    rw [hA]at h;have hz:=(List.append_inj' h rfl).2;simp at hz;subst hz;exact CS.u.2 h0)
   have DW:=jA (show((xq (A++x::(C++R))).set (jp+1) (.int .i64 y)).set jp (.int .i64 x)=xq (A'++x::(y::C++R))by
    have:=jdu (xq A') (.int .i64 y) (.int .i64 x) (xq (C++R));rw [show(xq A').length=jp by simp [xq,hjp]]at this;rw [hA];simpa [xq] using this)
   have aY:=jA (show A'++y::C=S by rw [←CL.u,hA];simp);have z1:decide ((0:Int)<(jp:Int)+1)=true:=jT (by omega);have z2:(0:Int)<(jp:Int)+1:=by omega
   have z3:(jp:Int)+1<(D.length:Int):=by omega
   have z4:(jp:Int)<(D.length:Int):=by omega
   have z5:(A.length:Int)=(jp:Int)+1:=by omega
   rw [z5];clear z5;have HJ:=jA hjp;obtain⟨iN,MJ⟩: ∃q,q=jp+1:=⟨_,rfl⟩;have ea:((jp:Int)+1).toNat=iN:=by omega
   rw [←MJ]at uu WJ DW;have FI:=jA MJ;clear hjp hA MJ OS;have oD:=jA uu;have RP:=jA gy;by_cases Rw:c x y<0
   ·have dn:decide (c x y<0)=true:=jT Rw;have HLE:=jA (CS.u.1 Rw);clear CS fX Iw gL Rw;go_wp2_with fail;refine Seg.xf (fun w'=> ∃m,w'=wr.drewN m) [] [0,1,2,3,4,5,6,7,8,9,10,11,12,13] 14 (by kernel_rfl) (by kernel_rfl) (fun _ _ d _ _ h=>by cases d<;>exact h) (⟨1,rfl⟩) ?_;simp only [jK,Seg.opAt,Seg.xu];repeat (any_goals (first|go_big_quiet_step (fail)|quiet_step (fail)))
    refine jR ?_;go_wp2_with (with_reducible refine(QQ.u _ HK.u.drew).mono ?_;rintro e w2 ⟨rfl,b2⟩;have B2:=jA b2;clear b2);have oU:X<wr.drew.heap.size:=by have:=YV HR.u;exact this
    have K2:=jA (HK.u.drew.below B2.u);have R2:=jA (yA (zM HR.u) B2.u);clear uu gy WJ uA;have uu:=(B2.u.cell (p:=⟨X,iN,none⟩) oU).trans oD.u;have gy:=(B2.u.cell (p:=⟨X,jp,none⟩) oU).trans RP.u;have WJ:=R2.u.frozenAt iN;have uA:=R2.u.frozenAt jp;have MJ:=FI.u;obtain⟨u,hcu⟩: ∃u,(w2.setCell ⟨X,iN,none⟩ (.int .i64 y)).cell? ⟨X,jp,none⟩=some u:=⟨_,(World.cell?_setCell_other _ _ _ _ (by intro e';simp only [Addr.mk.injEq]at e';omega)).trans gy⟩;have HR3:=jA (zM ((R2.u.stored iN (.int .i64 y)).1.stored jp (.int .i64 x)).1);have K3:=jA (((K2.u.set iN (.int .i64 y)).set jp (.int .i64 x)).drew);clear B2 K2 R2 HR HK oD RP oU MJ QQ;rw [DW.u]at HR3;clear DW
    go_big_region
    clear uu gy WJ uA hcu ea;generalize ((w2.setCell ⟨X,iN,none⟩ (.int .i64 y)).setCell ⟨X,jp,none⟩ (.int .i64 x)).drew=w3 at*;go_wp2_with fail;go_roundw;case rel=>exact⟨A',y::C,by rw [←HJ.u],aY.u,fun v hv=>(jl.1 hv).elim (fun h=>h▸HLE.u) (HCC.u v),HR3.u,K3.u⟩
    case measure=>simp [intOf]
   ·have dn:decide (c x y<0)=false:=jS Rw;have HF:=jA (Iw.u A C CL.u (gL.u (fun A2 z h=>fX.u A2 z h (by omega))));clear CS fX Iw gL Rw;go_wp2_with fail;refine Seg.xf (fun w'=> ∃m,w'=wr.drewN m) [] [0,1,2,3,4,5,6,7,8,9,10,11,12,13] 14 (by kernel_rfl) (by kernel_rfl) (fun _ _ d _ _ h=>by cases d<;>exact h) (⟨1,rfl⟩) ?_;simp only [jK,Seg.opAt,Seg.xu];repeat (any_goals (first|go_big_quiet_step (fail)|quiet_step (fail)))
    refine jR ?_;go_wp2_with (with_reducible refine(QQ.u _ HK.u.drew).mono ?_;rintro e w2 ⟨rfl,b2⟩;have B2:=jA b2;clear b2);have K2:=jA (HK.u.drew.below B2.u);have R2:=jA (yA (zM HR.u) B2.u);clear uu gy WJ uA;go_roundw;case rel=>exact⟨k+1,A++x::C,by omega,.inl (by omega),by go_num,HF.u,by rw [←sH.u,kY];exact R2.u,K2.u⟩
    case measure=>simp [intOf];omega
 ·obtain⟨dk,Ms⟩:=Go.yg ns;have HDT:=jA (show D.take k=D from je (by omega));have uS:=jA (show D.drop k= []from xP (by omega));go_wp2_with fail
  go_end0
  exact⟨rfl,S,by have:=HS.u.perm;rwa [HDT.u]at this,HS.u.srt,by have:=HR.u;rwa [uS.u,qG]at this,HK.u⟩
theorem jnM(N:FuncId)(qN:zh N)(c:Int→Int→Int)(le:Int→Int→Prop)(tr: ∀a b c,le a b→le b c→le a c)(D:C0)(X cap base:Nat)(p q r:Nat)(w:m0)
 (HC: ∀(x y:Int) (w':m0),x∈D→y∈D→Kept X w w'→Calls prog N #[.int .i64 x,.int .i64 y,.pointer (some ⟨p,0,none⟩),.pointer (some ⟨q,0,none⟩),.pointer (some ⟨r,0,none⟩)] w' fun e Fu=>e=.returned (.int .i64 (c x y))∧O0 w'.heap.size w' Fu)
 (hc:D.Pairwise fun y x=>(c x y<0→le x y)∧(0≤c x y→le y x)) (hl:D.length≤12) (hD:w.ownsRow base 3 1 (.slice (some ⟨X,0,none⟩) D.length cap) D.length (xq D)) (lim:Int):
 Calls prog 181 #[.slice (some ⟨X,0,none⟩) D.length cap,.int .i64 0,.int .i64 D.length,.int .i64 lim,.func (.func N) #[] #[.pointer (some ⟨p,0,none⟩),.pointer (some ⟨q,0,none⟩),.pointer (some ⟨r,0,none⟩)]] w fun e w'=>e=.returned (.tuple #[])∧Vh le D X cap base 3 w w':=by
 have Q:=jA (jfA N qN c le tr D X cap base p q r w HC hc (by omega) hD);have d1:decide ((D.length:Int)≤12)=true:=jT (by omega);have d2:decide (D.length≤12)=true:=jT hl;clear tr HC hc hD;generalize D.length=n at*;go_enter Tryz.func181,Tryz.ntmps181;go_wp2_with fail
 go_loop [1,2] (fun a b=>a=.int .i64 0∧b=.int .i64 n) (fun _ _=>0)
 case atStart=>exact⟨rfl,rfl⟩
 case round=>
 obtain⟨rfl,rfl⟩:=hrel;go_wp2_with (go_at_call 166;refine Q.u.mono ?_;rintro e w1 ⟨rfl,hs⟩;have HS:=jA hs;clear hs);refine jq (results_none rfl _ _ _) rfl ⟨rfl,HS.u⟩
theorem jal(N:FuncId)(qN:zh N)(c:Int→Int→Int)(le:Int→Int→Prop)(tr: ∀a b c,le a b→le b c→le a c)(D:C0)(X cap base:Nat)(p q r:Nat)(w:m0)
 (HC: ∀(x y:Int) (w':m0),x∈D→y∈D→Kept X w w'→Calls prog N #[.int .i64 x,.int .i64 y,.pointer (some ⟨p,0,none⟩),.pointer (some ⟨q,0,none⟩),.pointer (some ⟨r,0,none⟩)] w' fun e Fu=>e=.returned (.int .i64 (c x y))∧O0 w'.heap.size w' Fu)
 (hc:D.Pairwise fun y x=>(c x y<0→le x y)∧(0≤c x y→le y x)) (hl:D.length≤12) (hD:w.ownsRow base 3 1 (.slice (some ⟨X,0,none⟩) D.length cap) D.length (xq D)):
 Calls prog 140 #[.slice (some ⟨X,0,none⟩) D.length cap,.func (.func N) #[] #[.pointer (some ⟨p,0,none⟩),.pointer (some ⟨q,0,none⟩),.pointer (some ⟨r,0,none⟩)]] w fun e w'=>e=.returned (.tuple #[])∧Vh le D X cap base 3 w w':=by
 have Q:=jA (fun lim=>jnM N qN c le tr D X cap base p q r w HC hc hl hD lim);have QL:=jA (fun w=>jnZ D.length hl w);have BJ:(D.length:Int)<9223372036854775808:=by omega
 clear tr HC hc hD;generalize D.length=n at*;go_enter Tryz.func140,Tryz.ntmps140;go_wp2_with (first|(go_at_call 112;refine(QL.u _).mono ?_;rintro e w1 ⟨⟨kk,rfl⟩,rfl⟩)|(go_at_call 181;refine(Q.u _).mono ?_;rintro e w1 ⟨rfl,hs⟩;have HS:=jA hs;clear hs))
 go_end0
 exact⟨rfl,HS.u⟩
def leV(V P:C0)(a b:Int):Prop:=V.getD b.toNat 0<V.getD a.toNat 0∨V.getD a.toNat 0=V.getD b.toNat 0∧P.getD a.toNat 0<P.getD b.toNat 0
theorem jkC(V P:C0)(a b c:Int)(h1:leV V P a b)(h2:leV V P b c):leV V P a c:=by unfold leV at*;omega
theorem jpe(V P:C0)(a b:Int)(h1:leV V P a b)(h2:leV V P b a):False:=by unfold leV at*;omega
theorem jmT(V P:C0)(a b:Int)(h:jcN V P a b<0):leV V P a b:=by
 unfold jcN orI Ja at h;unfold leV
 repeat' split at h
 all_goals omega
theorem jmS(V P:C0)(a b:Int)(Cs:P.getD a.toNat 0≠P.getD b.toNat 0)(h:0≤jcN V P a b):leV V P b a:=by
 unfold jcN orI Ja at h;unfold leV
 repeat' split at h
 all_goals omega
def jeH(V P L:C0)(w:m0)(e:Ending)(w':m0):Prop:=
 ∃S ob cb,e=.returned (.slice ob L.length cb)∧yW w' ob S∧S.Perm L∧S.Pairwise (leV V P)∧L.length≤cb∧O0 w.heap.size w w'
theorem jhH(V P L:C0)(nm:ByteArray)(oa:s0)(no ca:Nat)(rl se mo:Int)(oO:s0)(lO cO:Nat)(oP:s0)(cP:Nat)(ol:s0)(cl:Nat)(ov:s0)(cv:Nat)(w:m0)
 (hV:yW w ov V) (hP:yW w oP P) (hL:yW w ol L) (SO: ∀x∈L,0≤x∧x<V.length) (MO:V.length=P.length) (fH: ∀x∈P,0≤x∧x<1000) (hl:L.length≤12) (CJ:0<L.length) (hv:V.length<1000) (hd:L.Pairwise fun y x=>P.getD y.toNat 0≠P.getD x.toNat 0):
 Calls prog 100 #[.agg #[.string nm,.slice oa no ca,.int .i64 rl,.int .i64 se,.int .i64 mo,.slice oO lO cO,.slice oP P.length cP],.slice ol L.length cl,.slice ov V.length cv,.func (.func 101) #[] #[]] w (jeH V P L w):=by
 have HV:=jA hV;have HP:=jA hP;have NF:=jA hL;have QC:=jA (fun w' (h:yW w' ol L)=>Qo ol L cl w' h (by omega));have hpw:=jA (hd.imp (fun {y x} h=>(⟨fun h1=>jmT V P x y h1,fun h1=>jmS V P x y (Ne.symm h) h1⟩:(jcN V P x y<0→leV V P x y)∧(0≤jcN V P x y→leV V P y x))));have HPB:=jA fH;have dX:=jA SO;have HVP:=jA MO;clear hV hP hL fH SO hd MO;go_enter Tryz.func100,Tryz.ntmps100;go_upto_region 1 with(fail);have BL:O0 w.heap.size w (((w.alloc (.cells #[.string nm,.slice oa no ca,.int .i64 rl,.int .i64 se,.int .i64 mo,.slice oO lO cO,.slice oP P.length cP] 62)).alloc (.cells #[.slice ov V.length cv] 29)).alloc (.cells #[.func (.func 101) #[] #[]] 107)):=(((jN _ _).alloc (jO _) _).alloc (by simp) _).alloc (by simp;omega) _;have SR:jeG (((w.alloc (.cells #[.string nm,.slice oa no ca,.int .i64 rl,.int .i64 se,.int .i64 mo,.slice oO lO cO,.slice oP P.length cP] 62)).alloc (.cells #[.slice ov V.length cv] 29)).alloc (.cells #[.func (.func 101) #[] #[]] 107)) (w.heap.size+2) (w.heap.size+1) w.heap.size [.string nm,.slice oa no ca,.int .i64 rl,.int .i64 se,.int .i64 mo,.slice oO lO cO] V P:=
  ⟨xh (by simp),⟨ov,cv,yM (xh (by simp)),HV.u.below BL⟩,⟨oP,cP,yM (yM (xh rfl)),HP.u.below BL⟩,rfl⟩
 generalize hB:w.heap.size=B at*;refine xr (fun w3=>O0 B w w3∧jeG w3 (B+2) (B+1) B [.string nm,.slice oa no ca,.int .i64 rl,.int .i64 se,.int .i64 mo,.slice oO lO cO] V P) ⟨BL,SR⟩ (fun w3 mw=>?_);have HB:=jA hB;have B3:=jA mw.1;have S3:=jA mw.2;clear BL SR hB mw;go_upto_region 2 with(go_at_call 126;refine(QC.u w3 (NF.u.below (HB.u.symm▸B3.u))).mono ?_;rintro e w4 ⟨ob,cb,rfl,Rx,b4⟩);obtain⟨X,xc,Mw,pU,cH⟩:=Rx.form CJ;obtain⟨rfl,rfl⟩:ob=some ⟨X,0,none⟩∧cb=xc:=by injection Mw with h1 _ h3;exact⟨h1,h3⟩
 have cT:B≤w3.heap.size:=by have:=B3.u.size;rw [HB.u]at this;exact this
 have B4:=jA (B3.u.trans (b4.mono cT));have Pw:=xZ S3.u.hp
 have QK:=jA (show ∀(x y:Int) (w':m0),x∈L→y∈L→Kept X w4 w'→Calls prog 141 #[.int .i64 x,.int .i64 y,.pointer (some ⟨B+2,0,none⟩),.pointer (some ⟨B+1,0,none⟩),.pointer (some ⟨B,0,none⟩)] w' fun e Fu=>e=.returned (.int .i64 (jcN V P x y))∧O0 w'.heap.size w' Fu from by
  intro x y w' hx hy hk;have hx:=dX.u x hx;have hy:=dX.u y hy;obtain⟨i,rfl⟩: ∃i:Nat,x=i:=⟨x.toNat,by omega⟩;obtain⟨j,rfl⟩: ∃j:Nat,y=j:=⟨y.toNat,by omega⟩;have Dx:O0 w3.heap.size w4 w':=hk.bel pU cH;exact jde i j (B+2) (B+1) B _ V P w' (S3.u.below (b4.trans Dx)) (by omega) (by omega) HVP.u hv HPB.u)
 have QS:=jA (jal 141 (KJ Tryz.func141 rfl rfl) (jcN V P) (leV V P) (jkC V P) L X cb w3.heap.size (B+2) (B+1) B w4 QK.u hpw.u hl Rx);clear QK Rx Mw b4;go_upto_region 3 with(go_at_call 140;refine QS.u.mono ?_;rintro e w5 ⟨rfl,hs⟩;have HS:=jA hs;clear hs);go_wp2_with fail;go_ret;obtain⟨S,Cu,nz,Nt,AB⟩:=HS.u;rw [←Cu.length_eq]at Nt;obtain⟨oc,cc,hoc,EB,hI⟩:=zT Nt;obtain⟨rfl,rfl⟩:some ⟨X,0,none⟩=oc∧cb=cc:=by injection hoc with h1 _ h3;exact⟨h1,h3⟩
 exact⟨S,_,_,rfl,hI,Cu,nz,by rw [←Cu.length_eq];exact EB,by rw [HB.u];exact B4.u.trans (AB.bel (by omega) cH)⟩
end Go.Proofs.YtnohcdpnnhmpfaaGreatDoor
namespace Go.Proofs.YtnohcdpnnhmpfaaGreatDoor.TR
open Go.RowKit Tryz ML FRP AU CT FM
variable{P:C0}{a b:Int}
def leT(T:Nat→Fr)(P:C0)(a b:Int):Prop:=(T b.toNat).v<(T a.toNat).v∨(T a.toNat).v=(T b.toNat).v∧P.getD a.toNat 0<P.getD b.toNat 0
theorem jkD(T:Nat→Fr)(P:C0)(a b c:Int)(h1:leT T P a b)(h2:leT T P b c):leT T P a c:=by unfold leT at*;grind
theorem jmV {T:Nat→Fr}(ha:0<(T a.toNat).d)(hb:0<(T b.toNat).d)(h:jcO T P a b<0):leT T P a b:=by
 unfold jcO orI at h;unfold leT;rcases Qb hb ha with⟨e,hv⟩|⟨e,hv⟩|⟨e,hv⟩<;>rw [e]at h;·exact .inl hv
 ·rw [jP rfl]at h;exact .inr ⟨hv.symm,by omega⟩
 ·rw [jQ (by decide)]at h;omega
theorem jmU {T:Nat→Fr}(ha:0<(T a.toNat).d)(hb:0<(T b.toNat).d)(Cs:P.getD a.toNat 0≠P.getD b.toNat 0)(h:0≤jcO T P a b):leT T P b a:=by
 unfold jcO orI at h;unfold leT;rcases Qb hb ha with⟨e,hv⟩|⟨e,hv⟩|⟨e,hv⟩<;>rw [e]at h;·rw [jQ (by decide)]at h;omega
 ·rw [jP rfl]at h;exact .inr ⟨hv,by omega⟩
 ·exact .inl hv
def jiN(T:Nat→Fr)(P L:C0)(w:m0)(e:Ending)(w':m0):Prop:=
 ∃S ob cb,e=.returned (.slice ob L.length cb)∧w'.ownsRow w.heap.size 3 1 (.slice ob L.length cb) L.length (xq S)∧S.Perm L∧S.Pairwise (leT T P)∧O0 w.heap.size w w'
theorem XK(n:Nat)(T:Nat→Fr)(base g cap:Nat)(xa xb:Nat→n0)(P L:C0)(nm:ByteArray)(oa:s0)(no ca:Nat)(rl se mo:Int)(oO:s0)(lO cO:Nat)(oP:s0)(cP:Nat)(ol:s0)(cl:Nat)(w:m0)
 (hV:KG w base n T (.slice (some ⟨g,0,none⟩) n cap) xa xb) (hT: ∀i,i<n→Sml (T i)) (hP:yW w oP P) (hL:yW w ol L) (SO: ∀x∈L,0≤x∧x<n) (MO:n=P.length) (fH: ∀x∈P,0≤x∧x<1000) (hl:L.length≤12) (CJ:0<L.length) (hv:n<1000) (hd:L.Pairwise fun y x=>P.getD y.toNat 0≠P.getD x.toNat 0):
 Calls prog 128 #[.agg #[.string nm,.slice oa no ca,.int .i64 rl,.int .i64 se,.int .i64 mo,.slice oO lO cO,.slice oP P.length cP],.slice ol L.length cl,.slice (some ⟨g,0,none⟩) n cap,(.func (.func 51) #[] #[])] w (jiN T P L w):=by
 have HV:=jA hV;have HP:=jA hP;have NF:=jA hL;have fz:=jA hT;have QC:=jA (fun w' (h:yW w' ol L)=>Qo ol L cl w' h (by omega));have hpw:=jA (xT (fun {y x} hy hx h=>(⟨fun h1=>jmV (hT _ (by have:=SO x hx;omega)).ok.1 (hT _ (by have:=SO y hy;omega)).ok.1 h1,fun h1=>jmU (hT _ (by have:=SO x hx;omega)).ok.1 (hT _ (by have:=SO y hy;omega)).ok.1 (Ne.symm h) h1⟩:(jcO T P x y<0→leT T P x y)∧(0≤jcO T P x y→leT T P y x))) hd);have HPB:=jA fH;have dX:=jA SO;have HVP:=jA MO;clear hV hP hL fH SO hd MO hT;go_enter Tryz.func128,Tryz.ntmps128;go_upto_region 1 with(fail);have BL:O0 w.heap.size w (((w.alloc (.cells #[.string nm,.slice oa no ca,.int .i64 rl,.int .i64 se,.int .i64 mo,.slice oO lO cO,.slice oP P.length cP] 62)).alloc (.cells #[.slice (some ⟨g,0,none⟩) n cap] 114)).alloc (.cells #[(.func (.func 51) #[] #[])] 172)):=(((jN _ _).alloc (jO _) _).alloc (by simp) _).alloc (by simp;omega) _;have SR:jln (((w.alloc (.cells #[.string nm,.slice oa no ca,.int .i64 rl,.int .i64 se,.int .i64 mo,.slice oO lO cO,.slice oP P.length cP] 62)).alloc (.cells #[.slice (some ⟨g,0,none⟩) n cap] 114)).alloc (.cells #[(.func (.func 51) #[] #[])] 172)) (w.heap.size+2) (w.heap.size+1) w.heap.size [.string nm,.slice oa no ca,.int .i64 rl,.int .i64 se,.int .i64 mo,.slice oO lO cO] n T P base g cap xa xb:=
  ⟨xh (by simp),yM (xh (by simp)),HV.u.below BL,⟨oP,cP,yM (yM (xh rfl)),HP.u.below BL⟩,rfl⟩
 generalize hB:w.heap.size=B at*;refine xr (fun w3=>O0 B w w3∧jln w3 (B+2) (B+1) B [.string nm,.slice oa no ca,.int .i64 rl,.int .i64 se,.int .i64 mo,.slice oO lO cO] n T P base g cap xa xb) ⟨BL,SR⟩ (fun w3 mw=>?_);have HB:=jA hB;have B3:=jA mw.1;have S3:=jA mw.2;clear BL SR hB mw;go_upto_region 2 with(go_at_call 126;refine(QC.u w3 (NF.u.below (HB.u.symm▸B3.u))).mono ?_;rintro e w4 ⟨ob,cb,rfl,Rx,b4⟩);obtain⟨X,xc,Mw,pU,cH⟩:=Rx.form CJ;obtain⟨rfl,rfl⟩:ob=some ⟨X,0,none⟩∧cb=xc:=by injection Mw with h1 _ h3;exact⟨h1,h3⟩
 have cT:B≤w3.heap.size:=by have:=B3.u.size;rw [HB.u]at this;exact this
 have B4:=jA (B3.u.trans (b4.mono cT));have Pw:=xZ S3.u.hp
 have QK:=jA (show ∀(x y:Int) (w':m0),x∈L→y∈L→Kept X w4 w'→Calls prog 173 #[.int .i64 x,.int .i64 y,.pointer (some ⟨B+2,0,none⟩),.pointer (some ⟨B+1,0,none⟩),.pointer (some ⟨B,0,none⟩)] w' fun e Fu=>e=.returned (.int .i64 (jcO T P x y))∧O0 w'.heap.size w' Fu from by
  intro x y w' hx hy hk;have hx:=dX.u x hx;have hy:=dX.u y hy;obtain⟨i,rfl⟩: ∃i:Nat,x=i:=⟨x.toNat,by omega⟩;obtain⟨j,rfl⟩: ∃j:Nat,y=j:=⟨y.toNat,by omega⟩;have Dx:O0 w3.heap.size w4 w':=hk.bel pU cH;exact jcf i j (B+2) (B+1) B _ n T P base g cap xa xb w' (S3.u.below (b4.trans Dx)) (by omega) (by omega) HVP.u hv HPB.u fz.u)
 have QS:=jA (jal 173 (KJ Tryz.func173 rfl rfl) (jcO T P) (leT T P) (jkD T P) L X cb w3.heap.size (B+2) (B+1) B w4 QK.u hpw.u hl Rx);clear QK Rx Mw b4;go_upto_region 3 with(go_at_call 140;refine QS.u.mono ?_;rintro e w5 ⟨rfl,hs⟩;have HS:=jA hs;clear hs);go_wp2_with fail;go_ret;obtain⟨S,Cu,nz,Nt,AB⟩:=HS.u;exact⟨S,_,_,rfl,by rw [HB.u];exact JM Nt cT,Cu,nz,by rw [HB.u];exact B4.u.trans (AB.bel (by omega) cH)⟩
end Go.Proofs.YtnohcdpnnhmpfaaGreatDoor.TR
