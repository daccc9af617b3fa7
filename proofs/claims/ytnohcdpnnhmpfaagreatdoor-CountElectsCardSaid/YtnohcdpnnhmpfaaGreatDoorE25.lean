/- Chapter 13, for Pairs: matrices in memory; count.square, pairs. -/
import Derived.Test.YtnohcdpnnhmpfaaGreatDoorE24
set_option linter.all false
set_option maxRecDepth 100000
set_option maxHeartbeats 8000000
namespace Go.Proofs.YtnohcdpnnhmpfaaGreatDoor
open Go.RowKit Tryz ML FM AU CT
def KO(n:Nat)(M:Mx)(i:Nat):C0:=(List.range n).map fun j=>M i j
def Zm(n:Nat)(M:Mx)(i:Nat):A0:=xq (KO n M i)
theorem Qv(n:Nat)(M:Mx)(i:Nat):(KO n M i).length=n:=by simp [KO]
theorem XR(n:Nat)(M:Mx)(i:Nat):(Zm n M i).length=n:=by simp [Zm,xq,KO]
theorem jlO(n:Nat)(M:Mx)(i j:Nat)(h:j<(KO n M i).length):(KO n M i)[j]=M i j:=by simp [KO]
theorem jcj(n:Nat)(M:Mx)(i j:Nat)(h:j<n):(Zm n M i)[j]?=some (.int .i64 (M i j)):=by simp [Zm,xq,KO,h]
theorem jlN(n:Nat)(M:Mx)(i j:Nat)(v:Int)(h:j<n):(Zm n M i).set j (.int .i64 v)=Zm n (upd M i j v) i:=by
 apply List.ext_getElem?;intro k;rw [List.getElem?_set,XR];by_cases hk:k<n
 ·rw [jcj n (upd M i j v) i k hk];by_cases e:j=k;·subst e;simp [h,upd]
  ·rw [jQ e,jcj n M i k hk];unfold upd;rw [jQ (fun h=>e h.2.symm)]
 ·have h1:(Zm n M i)[k]?=none:=kR (by rw [XR];omega);have h2:(Zm n (upd M i j v) i)[k]?=none:=kR (by rw [XR];omega);rw [h1,h2];by_cases e:j=k;·subst e;omega
  ·rw [jQ e]
theorem jck {n:Nat}{M M':Mx}{i:Nat}(h: ∀j,j<n→M i j=M' i j):Zm n M i=Zm n M' i:=by
 unfold Zm KO;congr 1;apply qz;intro j hj;exact h j (jk.1 hj)
theorem joT {α:Type}{l:List α}(h:l.Nodup){i j:Nat}(hi:i<l.length)(hj:j<l.length)(e:l[i]=l[j]):i=j:=by
 have hp:=xJ.1 h;rcases vf i j with h1|h1|h1;·exact absurd e (hp i j hi hj h1)
 ·exact h1
 ·exact absurd e.symm (hp j i hj hi h1)
def XT(n:Nat)(gs:E0):A0:=gs.map fun g=>Value.slice (some ⟨g,0,none⟩) n n
structure MxO(B:Nat)(w:m0)(F n:Nat)(gs:E0)(M:Mx):Prop where
 len:gs.length=n
 head:w.heap[F]?=some (.cells (XT n gs).toArray 29 (0,0))
 ge:B≤F
 gge: ∀g∈gs,B≤g∧g≠F
 nd:gs.Nodup
 row: ∀i (h:i<gs.length),w.heap[gs[i]]?=some (.cells (Zm n M i).toArray 3 (0,0))
namespace MxO
variable {B:Nat} {w w1:m0} {F n:Nat} {gs:E0} {M M':Mx}
theorem lt(h:MxO B w F n gs M):F<w.heap.size:=xZ h.head
theorem glt(h:MxO B w F n gs M)(i:Nat)(hi:i<gs.length):gs[i]<w.heap.size:=xZ (h.row i hi)
theorem congr(h:MxO B w F n gs M)(he: ∀i j,i<n→j<n→M i j=M' i j):MxO B w F n gs M':=⟨h.len,h.head,h.ge,h.gge,h.nd,fun i hi=>by rw [h.row i hi,jck (he i · (by rw [←h.len];exact hi))]⟩
theorem cellF(h:MxO B w F n gs M)(i:Nat)(hi:i<gs.length):w.cell? ⟨F,i,none⟩=some (.slice (some ⟨gs[i],0,none⟩) n n):=by
 rw [jM _ _ _ _ _ _ h.head,jE];simp [XT,hi]
theorem cellG(h:MxO B w F n gs M)(i j:Nat)(hi:i<gs.length)(hj:j<n):w.cell? ⟨gs[i],j,none⟩=some (.int .i64 (M i j)):=by
 rw [jM _ _ _ _ _ _ (h.row i hi),jE];exact jcj n M i j hj
theorem froz(h:MxO B w F n gs M)(i j:Nat)(hi:i<gs.length):w.frozen? ⟨gs[i],j,none⟩=false:=jc _ _ _ _ _ (h.row i hi)
theorem set(h:MxO B w F n gs M)(i j:Nat)(hi:i<gs.length)(hj:j<n)(v:Int):MxO B (w.setCell ⟨gs[i],j,none⟩ (.int .i64 v)) F n gs (upd M i j v):=by
 refine⟨h.len,(qf _ _ _ _ (fun e=>(h.gge _ (jb hi)).2 e.symm)).trans h.head,h.ge,h.gge,h.nd,fun k hk=>?_⟩;by_cases e:k=i
 ·subst e;rw [jd _ _ _ _ _ _ (h.row k hk),vJ,jlN n M k j v hj]
 ·rw [qf _ _ _ _ (fun e2=>e (joT h.nd hk hi e2)),h.row k hk];rw [jck (M':=upd M i j v) (fun c _=>by unfold upd;rw [jQ (fun h=>e h.1)])]
end MxO
structure MxR(w:m0)(oa:s0)(n:Nat)(M:Mx):Prop where
 cells: ∀i,i<n→ ∃a,oa=some a∧a.block<w.heap.size∧ ∃b c,b.block<w.heap.size∧w.cell? (a.add i)=some (.slice (some b) n c)∧ ∀j,j<n→w.cell? (b.add j)=some (.int .i64 (M i j))
theorem MxR.below {w w1:m0}{oa:s0}{n:Nat}{M:Mx}(h:MxR w oa n M)(hb:O0 w.heap.size w w1):MxR w1 oa n M:=⟨fun i hi=>by
 obtain⟨a,h1,h2,b,c,h3,h4,h5⟩:=h.cells i hi;exact⟨a,h1,jW h2 hb.size,b,c,jW h3 hb.size,by rw [hb.cell (by rw [yI];exact h2)];exact h4,fun j hj=>by rw [hb.cell (by rw [yI];exact h3)];exact h5 j hj⟩⟩
theorem MxO.read {B:Nat}{w:m0}{F n:Nat}{gs:E0}{M:Mx}(h:MxO B w F n gs M):MxR w (some ⟨F,0,none⟩) n M:=⟨fun i hi=>by
 have iG:i<gs.length:=by rw [h.len];exact hi
 refine⟨_,rfl,h.lt,⟨gs[i],0,none⟩,n,h.glt i iG,by rw [qD,jv];exact h.cellF i iG,fun j hj=>by rw [qD,jv];exact h.cellG i j iG hj⟩⟩
def mxP(P:List (n0×C0)):Mx:=fun i j=>((P.getD i (.slice none 0 0,[])).2).getD j 0
theorem jft(P:List (n0×C0))(i j:Nat)(hi:i<P.length)(hj:j<P[i].2.length):mxP P i j=P[i].2[j]:=by
 simp [mxP,hi,hj]
theorem jkf {w:m0}{oa:s0}{P:List (n0×C0)}(h:Va w oa P)(ha:XE P.length P):MxR w oa P.length (mxP P):=⟨fun i hi=>by
 obtain⟨a,h1,h2,h3⟩:=h.cells i hi;obtain⟨ob,cb,hv,hI,hl⟩:=h.rows P[i] (jb hi);have Ix:=ha P[i] (jb hi);have h0:0<P[i].2.length:=by omega
 obtain⟨b,rfl,Ox,_⟩:=hI.cells 0 h0;refine⟨a,h1,h2,b,cb,Ox,by rw [h3,hv,Ix],fun j hj=>?_⟩;obtain⟨b',hb',_,hc⟩:=hI.cells j (by omega);obtain rfl:b=b':=by injection hb'
 rw [jft P i j hi (by omega)];exact hc⟩
def mxRows(n:Nat)(gs:E0)(M:Mx):List (n0×C0):=(List.range n).map fun i=>(Value.slice (some ⟨gs.getD i 0,0,none⟩) n n,KO n M i)
theorem YG:(Tryz.prog.info? 3).map (fun i=>(i.zero,i.size,i.bytes))=some (some (.int .i64 0),1,8):=by kernel_rfl
structure SqK(B:Nat)(w:m0)(F n:Nat)(gs:E0):Prop where
 head:w.heap[F]?=some (.cells (XT n gs++List.replicate (n-gs.length) (Value.slice none 0 0)).toArray 29 (0,0))
 le:gs.length≤n
 ge:B≤F
 gge: ∀g∈gs,B≤g∧g≠F
 nd:gs.Nodup
 row: ∀g∈gs,w.heap[g]?=some (.cells (Zm n (fun _ _=>0) 0).toArray 3 (0,0))
theorem jaO(n i:Nat):Zm n (fun _ _=>0) i=List.replicate n (.int .i64 0):=by
 apply vM (by simp [XR]);intro j h1 h2;simp [Zm,xq,KO]
theorem SqK.all {B:Nat}{w:m0}{F n:Nat}{gs:E0}(h:SqK B w F n gs)(hn:gs.length=n):MxO B w F n gs (fun _ _=>0):=
 ⟨hn,by rw [h.head,hn,Nat.sub_self,List.replicate_zero,qG],h.ge,h.gge,h.nd,fun i hi=>by rw [h.row _ (jb hi),jaO,jaO]⟩
theorem SqK.next {B:Nat}{w:m0}{F n:Nat}{gs:E0}(h:SqK B w F n gs)(hk:gs.length<n)(hB:B≤w.heap.size):
 SqK B ((w.setCell ⟨F,gs.length,none⟩ (.slice (some ⟨w.heap.size,0,none⟩) n n)).alloc (.cells (madeCells #[Value.int .i64 0] n) 3)) F n (gs++ [w.heap.size]):=by
 have hF:F<w.heap.size:=xZ h.head;have Iu:(w.setCell ⟨F,gs.length,none⟩ (.slice (some ⟨w.heap.size,0,none⟩) n n)).heap.size=w.heap.size:=by simp
 refine⟨?_,by simp;omega,h.ge,fun g hg=>?_,?_,fun g hg=>?_⟩
 ·have h1:=jd w F gs.length _ _ (.slice (some ⟨w.heap.size,0,none⟩) n n) h.head;rw [yM h1,vJ];congr 3;have e:n-gs.length=(n-(gs++ [w.heap.size]).length)+1:=by simp;omega
  rw [e,List.replicate_succ];have l1:gs.length=(XT n gs).length:=by simp [XT]
  rw [l1,List.set_append_right _ _ (jO _),Nat.sub_self,List.set_cons_zero];simp [XT]
 ·rcases jj.1 hg with hg|hg;·exact h.gge g hg
  ·rw [jm.1 hg];omega
 ·rw [vH];refine⟨h.nd,by simp,fun a ha b hb=>?_⟩;rw [jm.1 hb];have:=xZ (h.row a ha);omega
 ·rcases jj.1 hg with hg|hg;·exact yM ((qf _ _ _ _ (h.gge g hg).2).trans (h.row g hg))
  ·rw [jm.1 hg,xh Iu,jaO,←vW]
def jpu(n:Nat)(w:m0)(e:Ending)(w':m0):Prop:= ∃F gs,e=.returned (.slice (some ⟨F,0,none⟩) n n)∧MxO w.heap.size w' F n gs (fun _ _=>0)∧O0 w.heap.size w w'
theorem jce(n:Nat)(w:m0)(hn:n≤12):Calls Tryz.prog 97 #[.int .i64 n] w (jpu n w):=by
 obtain⟨i0,hi,Is,Ts,Ns⟩:=info_parts YG;obtain⟨j0,ji,gQ,fQ,eQ⟩:=info_parts YF;have HI:=jA hi;have Dt:=jA Is;have Ct:=jA Ts;have Bt:=jA Ns;have JI:=jA ji;have SA:=jA gQ;have OA:=jA fQ;have MA:=jA eQ;clear hi Is Ts Ns ji gQ fQ eQ;go_enter Tryz.func97,Tryz.ntmps97;go_upto_region 2 with(refine wpList_make_row _ rfl _ _ 25 rfl 29 j0 (.slice none 0 0) Tryz.underlying25 JI.u SA.u OA.u rfl .i64 .i64 n rfl rfl (by rw [MA.u];omega) (by omega) ?_);have hS:SqK w.heap.size (w.alloc (.cells (madeCells #[Value.slice none 0 0] n) 29)) w.heap.size n []:=⟨by rw [xh rfl];simp [XT,←vW],by simp,jO _,fun g hg=>by simp at hg,List.nodup_nil,fun g hg=>by simp at hg⟩;have Gz:O0 w.heap.size w (w.alloc (.cells (madeCells #[Value.slice none 0 0] n) 29)):=(jN _ _).alloc (jO _) _;generalize hB:w.heap.size=B at*;have HB:=jA hB;clear hB;refine xr (fun w1=>SqK B w1 B n []∧O0 B w w1) ⟨hS,Gz⟩ (fun w1 ts=>?_);have H1:=jA ts;clear ts hS Gz;go_wp2_with fail;go_loopw [9] (fun i wr=> ∃(k:Nat) (gs:E0),k=gs.length∧i=.int .i64 k∧k≤n∧SqK B wr B n gs∧O0 B w wr) (fun i _=>n-(intOf i).toNat);case atStart=>exact⟨0,[],rfl,rfl,ja _,H1.u.1,H1.u.2⟩
 case round=>
 clear H1;obtain⟨k,gs,PQ,rfl,hk,hs,hb⟩:=hrel;have HK:=jA PQ;have S:=jA hs;have BB:=jA hb;have Lt:B<wr.heap.size:=xZ hs.head;clear PQ hs hb;by_cases ns:k<n
 ·obtain⟨dk,Ms,nu⟩:=Go.yD ns
  have c1:wr.cell? ⟨B,k,none⟩=some (.slice none 0 0):=by
   rw [jM _ _ _ _ _ _ S.u.head,jE,kZ (by simp [XT,←HK.u])];rw [show k-(XT n gs).length=0 by simp [XT,←HK.u],qU,jP (by rw [←HK.u];omega)]
  have f1:wr.frozen? ⟨B,k,none⟩=false:=jc _ _ _ _ _ S.u.head;have SN:=jA (S.u.next (by rw [←HK.u];exact ns) (jX Lt));rw [←HK.u]at SN;go_upto_region 6 with(refine wpList_make_row _ rfl _ _ 29 rfl 3 i0 (.int .i64 0) Tryz.underlying29 HI.u Dt.u Ct.u rfl .i64 .i64 n rfl rfl (by rw [Bt.u];omega) (by omega) ?_);go_wp2_with fail;go_roundw;case rel=>exact⟨k+1,_,by simp [HK.u],by go_num,by omega,SN.u,(BB.u.setCell (jO _) _).alloc (by simp;omega) _⟩
  case measure=>simp [intOf];omega
 ·obtain⟨dk,Ms⟩:=Go.yg ns;have HN:=jA (show gs.length=n by rw [←HK.u];omega);go_wp2_with fail;go_ret;exact⟨B,gs,rfl,by rw [HB.u];exact S.u.all HN.u,by rw [HB.u];exact BB.u⟩
def VN(b:C0)(i j:Nat):Bool:=decide (0<b.getD i 0)&&(b.getD j 0==0||decide (b.getD i 0<b.getD j 0))
def ZZ(P:List (n0×C0))(i j:Nat):Nat:=(P.filter fun p=>VN p.2 i j).length
def zv(P:List (n0×C0)):Mx:=fun i j=>(ZZ P i j:Int)
def stM(P:List (n0×C0))(b:C0)(i j:Nat):Mx:=fun a c=>(ZZ P a c:Int)+if(a<i∨a=i∧c<j)∧VN b a c=true then 1 else 0
theorem jjn(P:List (n0×C0))(i j:Nat):ZZ P i j≤P.length:=qJ _ _
theorem jew(P:List (n0×C0))(p:n0×C0)(i j:Nat):ZZ (P++ [p]) i j=ZZ P i j+if VN p.2 i j=true then 1 else 0:=by
 unfold ZZ;rw [qY,jZ];by_cases h:VN p.2 i j=true<;>simp [h]
theorem jlE(P:List (n0×C0))(b:C0)(a c:Nat):zv P a c=stM P b 0 0 a c:=by
 unfold stM zv;rw [jQ (by omega)];omega
theorem joJ(P:List (n0×C0))(b:C0)(i j:Nat):stM P b i j i j=(ZZ P i j:Int):=by
 unfold stM;rw [jQ (by omega)];omega
theorem jnw(P:List (n0×C0))(b:C0)(i j:Nat)(h:VN b i j=true)(a c:Nat):upd (stM P b i j) i j ((ZZ P i j:Int)+1) a c=stM P b i (j+1) a c:=by
 unfold upd stM;by_cases e:a=i∧c=j
 ·obtain⟨rfl,rfl⟩:=e;rw [jP ⟨rfl,rfl⟩,jP ⟨.inr ⟨rfl,by omega⟩,h⟩]
 ·rw [jQ e];congr 1;have:(a<i∨a=i∧c<j)↔(a<i∨a=i∧c<j+1):=by omega
  simp only [this]
theorem joI(P:List (n0×C0))(b:C0)(i j:Nat)(h:VN b i j=false)(a c:Nat):stM P b i j a c=stM P b i (j+1) a c:=by
 unfold stM;congr 1;by_cases e:a=i∧c=j
 ·obtain⟨rfl,rfl⟩:=e;rw [h];simp
 ·have:(a<i∨a=i∧c<j)↔(a<i∨a=i∧c<j+1):=by omega
  simp only [this]
theorem jnx(P:List (n0×C0))(b:C0)(n i a c:Nat)(hc:c<n):stM P b i n a c=stM P b (i+1) 0 a c:=by
 unfold stM;have:(a<i∨a=i∧c<n)↔(a<i+1∨a=i+1∧c<0):=by omega
 simp only [this]
theorem jny(P:List (n0×C0))(p:n0×C0)(n a c:Nat)(ha:a<n):stM P p.2 n 0 a c=zv (P++ [p]) a c:=by
 unfold stM zv;rw [jew];have:(a<n∨a=n∧c<0):=.inl ha;by_cases h:VN p.2 a c=true;·rw [jP ⟨this,h⟩,jP h];rfl
 ·rw [jQ (fun h2=>h h2.2),jQ h];rfl
def jpx(n:Nat)(M:Mx)(w:m0)(e:Ending)(w':m0):Prop:= ∃F gs,e=.returned (.slice (some ⟨F,0,none⟩) n n)∧MxO w.heap.size w' F n gs M∧O0 w.heap.size w w'
theorem jko(n:Nat)(P:List (n0×C0))(ob:s0)(cb:Nat)(w:m0)(hP:Va w ob P)(hA:XE n P)(hn:n≤12)(hp:P.length≤4096):
 Calls Tryz.prog 53 #[.int .i64 n,.slice ob P.length cb] w (jpx n (zv P) w):=by
 have HP:=jA hP;have HA:=jA hA;have QS:=jA (fun w=>jce n w hn);clear hP hA;obtain⟨B,hB⟩: ∃B,B=w.heap.size:=⟨_,rfl⟩;have HB:=jA hB;clear hB;go_enter Tryz.func53,Tryz.ntmps53;go_upto_region 2 with(go_at_call 97;refine(QS.u w).mono ?_;rintro e w1 ⟨F,gs,rfl,fM,bv⟩;dsimp only);have M1:=jA (show MxO B w1 F n gs (zv [])by rw [HB.u];exact fM.congr (fun i j _ _=>by simp [zv,ZZ]));have B1:=jA (show O0 B w w1 by rw [HB.u];exact bv);have HL:=jA fM.len;clear fM bv;go_wp2_with fail;go_loopw [16] (fun i wr=> ∃k:Nat,k≤P.length∧i=.int .i64 k∧MxO B wr F n gs (zv (P.take k))∧O0 B w wr) (fun i _=>P.length-(intOf i).toNat);case atStart=>exact⟨0,ja _,rfl,M1.u,B1.u⟩
 case round=>
 clear M1 B1;obtain⟨k,hk,rfl,hm,hb⟩:=hrel;have M2:=jA hm;have B2:=jA hb;clear hm hb;by_cases ns:k<P.length
 ·obtain⟨dk,Ms,nu⟩:=Go.yD ns
  obtain⟨q,Us,Wy,Mv⟩:=(HP.u.below (HB.u▸B2.u)).cells k ns;subst Us;have Ou:=jA (show P.take (k+1)=P.take k++ [P[k]]from jh ns);have Ot:=jA (jb ns);generalize P[k]=p at*;obtain⟨or,cr,sw,Ru,Pw⟩:=HP.u.rows p Ot.u;rw [sw]at Mv;have aC:=jA Ru;have HALL:=jA (fun a c=>jny (P.take k) p n a c);rw [←Ou.u]at HALL;have hL:p.2.length=n:=HA.u p Ot.u;rw [hL]at Mv;have NF:=jA hL;clear sw Ru Pw hL;generalize p.2=L at*;have hPk:(P.take k).length≤4096:=by rw [jf];omega
  generalize P.take k=Pk at*;have M3:=jA (M2.u.congr (fun a c _ _=>jlE Pk L a c));obtain⟨wo,hwo⟩: ∃wo:m0,wo=wr:=⟨_,rfl⟩;subst hwo;go_wp2_with fail;go_loopw [22] (fun i wr=> ∃i1:Nat,i1≤n∧i=.int .i64 i1∧MxO B wr F n gs (stM Pk L i1 0)∧O0 B w wr) (fun i _=>n-(intOf i).toNat);case atStart=>exact⟨0,ja _,rfl,M3.u,B2.u⟩
  case round=>
  clear M3 M2 B2 Wy Mv;obtain⟨i1,PG,rfl,hm,hb⟩:=hrel;have M4:=jA hm;have B4:=jA hb;clear hm hb;by_cases Nv:i1<n
  ·obtain⟨ek,EC,uR⟩:=Go.yD Nv
   have hiL:i1<L.length:=by rw [NF.u];exact Nv
   obtain⟨r,wB,nJ,FG⟩:=(aC.u.below (HB.u▸B4.u)).cells i1 hiL;subst wB;have HX:=jA (show L.getD i1 0=L[i1]by simp [hiL]);generalize L[i1]=x at*;have aD:i1<gs.length:=by rw [HL.u];exact Nv
   obtain⟨wp,rD⟩: ∃wp:m0,wp=wr:=⟨_,rfl⟩;subst rD;go_wp2_with fail;go_loopw [29] (fun j wr=> ∃j1:Nat,j1≤n∧j=.int .i64 j1∧MxO B wr F n gs (stM Pk L i1 j1)∧O0 B w wr) (fun j _=>n-(intOf j).toNat);case atStart=>exact⟨0,ja _,rfl,M4.u,B4.u⟩
   case round=>
   clear M4 B4 nJ FG;obtain⟨j1,hj1,rfl,hm,hb⟩:=hrel;have M5:=jA hm;have B5:=jA hb;clear hm hb;by_cases ft:j1<n
   ·obtain⟨fk,wF,lV⟩:=Go.yD ft
    have EJ:j1<L.length:=by rw [NF.u];exact ft
    obtain⟨r',wB,nJ,FG⟩:=(aC.u.below (HB.u▸B5.u)).cells j1 EJ;obtain rfl:r=r':=by injection wB
    have HY:=jA (show L.getD j1 0=L[j1]by simp [EJ]);generalize L[j1]=y at*;have lB:=jA (show VN L i1 j1=(decide (0<x)&&(y==0||decide (x<y)))by unfold VN;rw [HX.u,HY.u]);have GC:=jA (jnw Pk L i1 j1);have lN:=jA (joI Pk L i1 j1);have kF:wr.cell? ⟨F,i1,none⟩=some (.slice (some ⟨gs[i1],0,none⟩) n n):=M5.u.cellF i1 aD;have kG:wr.cell? ⟨gs[i1],j1,none⟩=some (.int .i64 (ZZ Pk i1 j1:Nat)):=by rw [M5.u.cellG i1 j1 aD ft,joJ]
    have fG:wr.frozen? ⟨gs[i1],j1,none⟩=false:=M5.u.froz i1 j1 aD;have MS:=jA (M5.u.set i1 j1 aD ft ((ZZ Pk i1 j1:Nat)+1:Int));have PM:=(M5.u.gge _ (jb aD)).1;have ey:ZZ Pk i1 j1≤4096:=jU (jjn _ _ _) hPk;generalize gs[i1]=G at*;generalize ZZ Pk i1 j1=z at*;by_cases nt:0<x
    ·have g0:decide (0<x)=true:=jT nt;by_cases Uv:y=0
     ·have g1:(y==0)=true:=by rw [qH];exact Uv
      have HM:=jA (MS.u.congr (fun a c _ _=>GC.u (by rw [lB.u,g0,g1];rfl) a c));clear Uv nt;go_wp2_with fail;go_roundw;case rel=>exact⟨j1+1,by omega,by go_num,HM.u,B5.u.setCell PM _⟩
      case measure=>simp [intOf];omega
     ·have g1:(y==0)=false:=by rw [jt];exact Uv
      by_cases Uu:x<y
      ·have g2:decide (x<y)=true:=jT Uu;have HM:=jA (MS.u.congr (fun a c _ _=>GC.u (by rw [lB.u,g0,g1,g2];rfl) a c));clear Uv nt Uu;go_wp2_with fail;go_roundw;case rel=>exact⟨j1+1,by omega,by go_num,HM.u,B5.u.setCell PM _⟩
       case measure=>simp [intOf];omega
      ·have g2:decide (x<y)=false:=jS Uu;have HM:=jA (M5.u.congr (fun a c _ _=>lN.u (by rw [lB.u,g0,g1,g2];rfl) a c));clear Uv nt Uu;go_wp2_with fail;go_roundw;case rel=>exact⟨j1+1,by omega,by go_num,HM.u,B5.u⟩
       case measure=>simp [intOf];omega
    ·have g0:decide (0<x)=false:=jS nt;have HM:=jA (M5.u.congr (fun a c _ _=>lN.u (by rw [lB.u,g0];rfl) a c));clear nt;go_wp2_with fail;go_roundw;case rel=>exact⟨j1+1,by omega,by go_num,HM.u,B5.u⟩
     case measure=>simp [intOf];omega
   ·obtain⟨fk,wF⟩:=Go.yg ft;obtain rfl:j1=n:=by omega
    have HM:=jA (M5.u.congr (fun a c _ hc=>jnx Pk L j1 i1 a c hc));go_wp2_with fail;go_roundw;case rel=>exact⟨i1+1,by omega,by go_num,HM.u,B5.u⟩
    case measure=>simp [intOf];omega
  ·obtain⟨ek,EC⟩:=Go.yg Nv;obtain rfl:i1=n:=by omega
   have HM:=jA (M4.u.congr (fun a c ha _=>HALL.u a c ha));go_wp2_with fail;go_roundw;case rel=>exact⟨k+1,by omega,by go_num,HM.u,B4.u⟩
   case measure=>simp [intOf];omega
 ·obtain⟨dk,Ms⟩:=Go.yg ns;obtain rfl:k=P.length:=by omega
  rw [jr]at M2;go_wp2_with fail;go_ret;exact⟨F,gs,rfl,by rw [←HB.u];exact M2.u,by rw [←HB.u];exact B2.u⟩
end Go.Proofs.YtnohcdpnnhmpfaaGreatDoor
namespace Go.Proofs.YtnohcdpnnhmpfaaGreatDoor
open Go.RowKit Tryz ML FM AU CT
variable{k n:Nat}
theorem MxO.drewN {B:Nat}{w:m0}{F:Nat}{gs:E0}{M:Mx}(h:MxO B w F n gs M)(m:Nat):MxO B (w.drewN m) F n gs M:=⟨h.len,h.head,h.ge,h.gge,h.nd,h.row⟩
def stE(M:Mx)(i j:Nat):Mx:=fun a c=>if a<i∨a=i∧c<j then Ks M a c else 0
theorem jnD(M:Mx)(i j:Nat)(h:M j i<M i j)(a c:Nat):upd (stE M i j) i j (M i j) a c=stE M i (j+1) a c:=by
 unfold upd stE;by_cases e:a=i∧c=j
 ·obtain⟨rfl,rfl⟩:=e;rw [jP ⟨rfl,rfl⟩,jP (.inr ⟨rfl,by omega⟩)];unfold Ks;rw [jP h]
 ·rw [jQ e];have:(a<i∨a=i∧c<j)↔(a<i∨a=i∧c<j+1):=by omega
  simp only [this]
theorem joM(M:Mx)(i j:Nat)(h: ¬M j i<M i j)(a c:Nat):stE M i j a c=stE M i (j+1) a c:=by
 unfold stE;by_cases e:a=i∧c=j
 ·obtain⟨rfl,rfl⟩:=e;rw [jQ (by omega),jP (.inr ⟨rfl,by omega⟩)];unfold Ks;rw [jQ h]
 ·have:(a<i∨a=i∧c<j)↔(a<i∨a=i∧c<j+1):=by omega
  simp only [this]
theorem jnE(M:Mx)(n i a c:Nat)(hc:c<n):stE M i n a c=stE M (i+1) 0 a c:=by
 unfold stE;have:(a<i∨a=i∧c<n)↔(a<i+1∨a=i+1∧c<0):=by omega
 simp only [this]
theorem jnF(M:Mx)(n a c:Nat)(ha:a<n):stE M n 0 a c=Ks M a c:=by unfold stE;rw [jP (.inl ha)]
def Xy(W:Mx)(k:Nat):Mx:=fun a c=>if a=c then W a c else max (W a c) (min (W a k) (W k c))
def stF(W:Mx)(k i j:Nat):Mx:=fun a c=>if a<i∨a=i∧c<j then Xy W k a c else W a c
structure ZJ(e:Mx)(n k:Nat)(W:Mx):Prop where
 sound:jcX e n W
 low: ∀i j,i<n→j<n→i≠j→e i j≤W i j
 closed:jdb n W k
theorem ZJ.start {M:Mx}(h: ∀i j,i<n→j<n→0≤M i j):ZJ (Ks M) n 0 (Ks M):=
 ⟨⟨fun i _=>by unfold Ks;rw [jQ (by omega)],fun i j hi hj=>by unfold Ks;split;exact h i j hi hj;omega,fun i j hi hj _ _=>.one hi hj (vL _)⟩,fun i j _ _ _=>vL _,fun i j k _ _ _ hk=>by omega⟩
theorem ZJ.step {e W:Mx}(h:ZJ e n k W)(hk:k<n):ZJ e n (k+1) (Xy W k):=by
 have hz:=h.sound.zero;have mx:=h.sound.nn;refine⟨⟨fun i hi=>by unfold Xy;rw [jP rfl];exact hz i hi,fun i j hi hj=>?_,fun i j hi hj pt hp=>?_⟩,fun i j hi hj pt=>?_,jhk hk hz mx (fun i j hi hj pt=>by unfold Xy;rw [jQ pt]) (fun i hi=>by unfold Xy;rw [jP rfl];exact hz i hi) h.closed⟩
 ·unfold Xy;have:=mx i j hi hj;split<;>omega
 ·unfold Xy at hp ⊢;rw [jQ pt]at hp ⊢;have a:=mx i j hi hj;have b:=mx i k hi hk;have c:=mx k j hk hj;by_cases Az:min (W i k) (W k j)≤W i j
  ·rw [Int.max_eq_left Az]at hp ⊢;exact h.sound.way i j hi hj pt hp
  ·have Cy:i≠k:=fun e=>by subst e;have:=hz i hi;omega
   have Wz:k≠j:=fun e=>by subst e;have:=hz k hk;omega
   rw [Int.max_eq_right (by omega)]at hp ⊢;exact((h.sound.way i k hi hk Cy (by omega)).mono (by omega)).trans ((h.sound.way k j hk hj Wz (by omega)).mono (by omega))
 ·unfold Xy;rw [jQ pt];have:=h.low i j hi hj pt;omega
theorem ZJ.done {e W:Mx}(h:ZJ e n n W):JS e n W:=jaL h.sound h.low h.closed
theorem jlF(W:Mx)(k a c:Nat):W a c=stF W k 0 0 a c:=by unfold stF;rw [jQ (by omega)]
theorem jgb(W:Mx)(k i a c:Nat)(e:a=c)(j:Nat):stF W k i j a c=W a c:=by unfold stF Xy;subst e;simp
theorem joL(W:Mx)(k i j:Nat):stF W k i j i j=W i j:=by unfold stF;rw [jQ (by omega)]
theorem jnB {e W:Mx}(h:ZJ e n k W)(hk:k<n)(i j a:Nat)(ha:a<n):stF W k i j a k=W a k:=by
 unfold stF Xy;have h1:=h.sound.zero k hk;have h2:=h.sound.nn a k ha hk;split
 ·split;·rfl
  ·rw [h1];omega
 ·rfl
theorem jlG {e W:Mx}(h:ZJ e n k W)(hk:k<n)(i j c:Nat)(hc:c<n):stF W k i j k c=W k c:=by
 unfold stF Xy;have h1:=h.sound.zero k hk;have h2:=h.sound.nn k c hk hc;split
 ·split;·rfl
  ·rw [h1];omega
 ·rfl
theorem jnz(W:Mx)(k i j:Nat)(pt:i≠j)(a c:Nat):upd (stF W k i j) i j (max (W i j) (min (W i k) (W k j))) a c=stF W k i (j+1) a c:=by
 unfold upd stF;by_cases e:a=i∧c=j
 ·obtain⟨rfl,rfl⟩:=e;rw [jP ⟨rfl,rfl⟩,jP (.inr ⟨rfl,by omega⟩)];unfold Xy;rw [jQ pt]
 ·rw [jQ e];have:(a<i∨a=i∧c<j)↔(a<i∨a=i∧c<j+1):=by omega
  simp only [this]
theorem joK(W:Mx)(k i j:Nat)(pt:i=j)(a c:Nat):stF W k i j a c=stF W k i (j+1) a c:=by
 by_cases e:a=i∧c=j
 ·obtain⟨rfl,rfl⟩:=e;rw [jgb _ _ _ _ _ pt,jgb _ _ _ _ _ pt]
 ·unfold stF;have:(a<i∨a=i∧c<j)↔(a<i∨a=i∧c<j+1):=by omega
  simp only [this]
theorem jnA(W:Mx)(k n i a c:Nat)(hc:c<n):stF W k i n a c=stF W k (i+1) 0 a c:=by
 unfold stF;have:(a<i∨a=i∧c<n)↔(a<i+1∨a=i+1∧c<0):=by omega
 simp only [this]
theorem jnC(W:Mx)(k n a c:Nat)(ha:a<n):stF W k n 0 a c=Xy W k a c:=by unfold stF;rw [jP (.inl ha)]
def joo(n:Nat)(M:Mx)(w:m0)(e:Ending)(w':m0):Prop:= ∃F gs W,e=.returned (.slice (some ⟨F,0,none⟩) n n)∧MxO w.heap.size w' F n gs W∧JS (Ks M) n W∧O0 w.heap.size w w'
theorem jkn(n:Nat)(M:Mx)(q:Addr)(cb:Nat)(w:m0)(hM:MxR w (some q) n M)(hn:n≤12)(h0: ∀i j,i<n→j<n→0≤M i j):
 Calls prog 52 #[.slice (some q) n cb] w (joo n M w):=by
 have HM:=jA hM;have H0:=jA h0;have QS:=jA (fun w=>jce n w hn);clear hM h0;obtain⟨B,hB⟩: ∃B,B=w.heap.size:=⟨_,rfl⟩;have HB:=jA hB;clear hB;go_enter Tryz.func52,Tryz.ntmps52;go_upto_region 2 with(go_at_call 97;refine(QS.u w).mono ?_;rintro e w1 ⟨F,gs,rfl,fM,bv⟩;dsimp only);have M1:=jA (show MxO B w1 F n gs (stE M 0 0)by rw [HB.u];exact fM.congr (fun i j _ _=>by unfold stE;rw [jQ (by omega)]));have B1:=jA (show O0 B w w1 by rw [HB.u];exact bv);have HL:=jA fM.len;clear fM bv;go_wp2_with fail;go_loopw [14] (fun i wr=> ∃i1:Nat,i1≤n∧i=.int .i64 i1∧MxO B wr F n gs (stE M i1 0)∧O0 B w wr) (fun i _=>n-(intOf i).toNat);case atStart=>exact⟨0,ja _,rfl,M1.u,B1.u⟩
 case round=>
 clear M1 B1;obtain⟨i1,PG,rfl,hm,hb⟩:=hrel;have M2:=jA hm;have B2:=jA hb;clear hm hb;by_cases Nv:i1<n
 ·obtain⟨ek,EC,uR⟩:=Go.yD Nv
  have aD:i1<gs.length:=by rw [HL.u];exact Nv
  obtain⟨wp,rD⟩: ∃wp:m0,wp=wr:=⟨_,rfl⟩;subst rD;go_wp2_with fail;go_loopw [19] (fun i wr=> ∃j1:Nat,j1≤n∧i=.int .i64 j1∧MxO B wr F n gs (stE M i1 j1)∧O0 B w wr) (fun i _=>n-(intOf i).toNat);case atStart=>exact⟨0,ja _,rfl,M2.u,B2.u⟩
  case round=>
  clear M2 B2;obtain⟨j1,hj1,rfl,hm,hb⟩:=hrel;have M5:=jA hm;have B5:=jA hb;clear hm hb;by_cases ft:j1<n
  ·obtain⟨fk,wF,lV⟩:=Go.yD ft
   have HMr:=jA (HM.u.below (HB.u▸B5.u));obtain⟨a,ha,eu,b,cbi,cD,FE,nF⟩:=HMr.u.cells i1 Nv;obtain rfl:q=a:=by injection ha
   obtain⟨a,ha,_,b',cbj,hbb',hci',hcj'⟩:=HMr.u.cells j1 ft;obtain rfl:q=a:=by injection ha
   have k1:=nF j1 ft;have k2:=hcj' i1 Nv;have kF:wr.cell? ⟨F,i1,none⟩=some (.slice (some ⟨gs[i1],0,none⟩) n n):=M5.u.cellF i1 aD;have kG:=M5.u.cellG i1 j1 aD ft;have fG:wr.frozen? ⟨gs[i1],j1,none⟩=false:=M5.u.froz i1 j1 aD;have MS:=jA (fun m=>(M5.u.drewN m).set i1 j1 aD ft (M i1 j1));have GC:=jA (jnD M i1 j1);have lN:=jA (joM M i1 j1);have PM:=(M5.u.gge _ (jb aD)).1;clear nF hcj' ha;generalize gs[i1]=G at*;generalize stE M i1 j1 i1 j1=z at*;generalize M i1 j1=x at*;generalize M j1 i1=y at*;by_cases Uu:y<x
   ·have g0:decide (y<x)=true:=jT Uu;have nL:=jA (fun m=>(MS.u m).congr (fun a c _ _=>GC.u Uu a c));clear Uu GC lN MS;go_upto_region 8 with(fail)
    go_quiet (fail)
    go_wp2_with fail;refine Seg.xf (fun w'=> ∃m,w'=wr.drewN m) [] [0,1,2,3,4,5,6,7,8,9,10,11] 12 (by kernel_rfl) (by kernel_rfl) (fun _ _ d _ _ h=>by cases d<;>exact h) (⟨_+1,rfl⟩) ?_;simp only [jK,Seg.opAt,Seg.xu];repeat (any_goals (first|go_big_quiet_step (fail)|quiet_step (fail)))
    refine jR ?_;go_wp2_with fail;go_roundw;case rel=>exact⟨j1+1,by omega,by go_num,nL.u _,(ML.yl B5.u _).setCell PM _⟩
    case measure=>simp [intOf];omega
   ·have g0:decide (y<x)=false:=jS Uu;have nL:=jA (fun m=>(M5.u.drewN m).congr (fun a c _ _=>lN.u Uu a c));clear Uu GC lN MS;go_upto_region 8 with(fail)
    go_quiet (fail)
    go_wp2_with fail;go_roundw;case rel=>exact⟨j1+1,by omega,by go_num,nL.u _,ML.yl B5.u _⟩
    case measure=>simp [intOf];omega
  ·obtain⟨fk,wF⟩:=Go.yg ft;obtain rfl:j1=n:=by omega
   have nL:=jA (M5.u.congr (fun a c _ hc=>jnE M j1 i1 a c hc));go_wp2_with fail;go_roundw;case rel=>exact⟨i1+1,by omega,by go_num,nL.u,B5.u⟩
   case measure=>simp [intOf];omega
 ·obtain⟨ek,EC⟩:=Go.yg Nv;obtain rfl:i1=n:=by omega
  have M3:=jA (M2.u.congr (fun a c ha _=>jnF M i1 a c ha));have PI:=jA (ZJ.start H0.u);clear M2 Nv ek EC PG
  as_aux_lemma=>
  clear HM H0 QS;go_wp2_with fail;go_loopw [54] (fun i wr=> ∃k:Nat,k≤i1∧i=.int .i64 k∧O0 B w wr∧ ∃W,MxO B wr F i1 gs W∧ZJ (Ks M) i1 k W) (fun i _=>i1-(intOf i).toNat);case atStart=>exact⟨0,ja _,rfl,B2.u,_,M3.u,PI.u⟩
  case round=>
  clear M3 PI B2;obtain⟨k,hk,rfl,hb,W,hm,aM⟩:=hrel;have M2:=jA hm;have B2:=jA hb;have PI:=jA aM;clear hm hb aM;by_cases Sv:k<i1
  ·obtain⟨dk,Ms,Py⟩:=Go.yD Sv
   have PQ:k<gs.length:=by rw [HL.u];exact Sv
   have M3:=jA (M2.u.congr (fun a c _ _=>jlF W k a c));have PIS:=jA (PI.u.step Sv);clear M2;obtain⟨wo,hwo⟩: ∃wo:m0,wo=wr:=⟨_,rfl⟩;subst hwo;go_wp2_with fail;go_loopw [59] (fun i wr=> ∃a1:Nat,a1≤i1∧i=.int .i64 a1∧MxO B wr F i1 gs (stF W k a1 0)∧O0 B w wr) (fun i _=>i1-(intOf i).toNat);case atStart=>exact⟨0,ja _,rfl,M3.u,B2.u⟩
   case round=>
   clear M3 B2;obtain⟨a1,ha1,rfl,hm,hb⟩:=hrel;have M2:=jA hm;have B2:=jA hb;clear hm hb;by_cases mO:a1<i1
   ·obtain⟨ek,EC,uR⟩:=Go.yD mO
    have rZ:a1<gs.length:=by rw [HL.u];exact mO
    obtain⟨wp,rD⟩: ∃wp:m0,wp=wr:=⟨_,rfl⟩;subst rD;go_wp2_with fail;go_loopw [64] (fun i wr=> ∃j1:Nat,j1≤i1∧i=.int .i64 j1∧MxO B wr F i1 gs (stF W k a1 j1)∧O0 B w wr) (fun i _=>i1-(intOf i).toNat);case atStart=>exact⟨0,ja _,rfl,M2.u,B2.u⟩
    case round=>
    clear M2 B2;obtain⟨j1,hj1,rfl,hm,hb⟩:=hrel;have M5:=jA hm;have B5:=jA hb;clear hm hb;by_cases ft:j1<i1
    ·obtain⟨fk,wF,lV⟩:=Go.yD ft
     by_cases mU:a1=j1
     ·have g1:((a1:Int) !=(j1:Int))=false:=by rw [mU];simp
      have g2:(a1 !=j1)=false:=by rw [mU];simp
      have nL:=jA (M5.u.congr (fun a c _ _=>joK W k a1 j1 mU a c));clear mU;go_wp2_with fail;go_roundw;case rel=>exact⟨j1+1,by omega,by go_num,nL.u,B5.u⟩
      case measure=>simp [intOf];omega
     ·have g1:((a1:Int) !=(j1:Int))=true:=by rw [ju];omega
      have g2:(a1 !=j1)=true:=by rw [ju];exact mU
      have kFa:wr.cell? ⟨F,a1,none⟩=some (.slice (some ⟨gs[a1],0,none⟩) i1 i1):=M5.u.cellF a1 rZ;have kFk:wr.cell? ⟨F,k,none⟩=some (.slice (some ⟨gs[k],0,none⟩) i1 i1):=M5.u.cellF k PQ;have kaj:wr.cell? ⟨gs[a1],j1,none⟩=some (.int .i64 (W a1 j1)):=by rw [M5.u.cellG a1 j1 rZ ft,joL]
      have kak:wr.cell? ⟨gs[a1],k,none⟩=some (.int .i64 (W a1 k)):=by rw [M5.u.cellG a1 k rZ Sv,jnB PI.u Sv _ _ _ mO]
      have kkj:wr.cell? ⟨gs[k],j1,none⟩=some (.int .i64 (W k j1)):=by rw [M5.u.cellG k j1 PQ ft,jlG PI.u Sv _ _ _ ft]
      have fG:wr.frozen? ⟨gs[a1],j1,none⟩=false:=M5.u.froz a1 j1 rZ;have GC:=jnz W k a1 j1 mU;have MS:=jA (fun m=>((M5.u.drewN m).set a1 j1 rZ ft (max (W a1 j1) (min (W a1 k) (W k j1)))).congr (fun a c _ _=>GC a c));have PM:=(M5.u.gge _ (jb rZ)).1;clear GC mU;generalize W a1 j1=x at*;generalize W a1 k=y at*;generalize W k j1=z at*;generalize gs[a1]=Ga at*;generalize gs[k]=Gk at*;have HV:=jA (show max x (min y z)=if x<(if z<y then z else y)then(if z<y then z else y)else x by split<;>split<;>omega);rw [HV.u]at MS;go_upto_region 22 with(fail);refine Seg.xf (fun w'=> ∃m,w'=wr.drewN m) [] [0,1,2,3,4,5,6,7,8,9,10,11,12,13,14,15,16,17,18,19,20,21,22,23,24,25,26,27] 28 (by kernel_rfl) (by kernel_rfl) (fun _ _ d _ _ h=>by cases d<;>exact h) (⟨1,rfl⟩) ?_;simp only [jK,Seg.opAt,Seg.xu];repeat (any_goals (first|go_big_quiet_step (fail)|quiet_step (fail)))
      refine jR ?_;go_wp2_with fail;go_roundw;case rel=>exact⟨j1+1,by omega,by go_num,MS.u _,(ML.yl B5.u _).setCell PM _⟩
      case measure=>simp [intOf];omega
    ·obtain⟨fk,wF⟩:=Go.yg ft;obtain rfl:j1=i1:=by omega
     have nL:=jA (M5.u.congr (fun a c _ hc=>jnA W k j1 a1 a c hc));go_wp2_with fail;go_roundw;case rel=>exact⟨a1+1,by omega,by go_num,nL.u,B5.u⟩
     case measure=>simp [intOf];omega
   ·obtain⟨ek,EC⟩:=Go.yg mO;obtain rfl:a1=i1:=by omega
    have nL:=jA (M2.u.congr (fun a c ha _=>jnC W k a1 a c ha));go_wp2_with fail;go_roundw;case rel=>exact⟨k+1,by omega,by go_num,B2.u,_,nL.u,PIS.u⟩
    case measure=>simp [intOf];omega
  ·obtain⟨dk,Ms⟩:=Go.yg Sv;obtain rfl:k=i1:=by omega
   go_wp2_with fail;go_ret;exact⟨F,gs,W,rfl,by rw [←HB.u];exact M2.u,PI.u.done,by rw [←HB.u];exact B2.u⟩
end Go.Proofs.YtnohcdpnnhmpfaaGreatDoor
