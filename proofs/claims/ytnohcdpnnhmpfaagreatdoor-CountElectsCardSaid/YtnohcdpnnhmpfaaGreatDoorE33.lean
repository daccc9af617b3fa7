/- Chapter 13: the reference's Lots. -/
import Derived.Test.YtnohcdpnnhmpfaaGreatDoorE32
import Derived.Deep.AppendSrc
import Derived.Lib.SlFresh
set_option linter.all false
set_option maxRecDepth 100000
set_option maxHeartbeats 8000000
namespace Go.Proofs.YtnohcdpnnhmpfaaGreatDoor
open Go.RowKit Tryz ML FM AU CT
variable{e:o0}{w:m0}
theorem jkG{a:Addr}{L:C0}(h:yW w (some a) L): ∀j u,(xq L)[j]?=some u→w.cell? (a.add j)=some u:=jeh h
theorem VK(i:TypeInfo)(hi:prog.info? 3=some i)(hz:i.zero=some (.int .i64 0))(sz:i.size=1)(uM:i.bytes=8)(base g n cap:Nat)(xs:A0)(Nt:w.ownsRow base 3 1 (.slice (some ⟨g,0,none⟩) n cap) n xs)(oS:s0)(L:C0)(lS c:Nat)(hlS:lS=L.length)(hS:yW w oS L)(h:n+L.length<1000)(Av:base≤w.heap.size):
 ∃g' DF w',(Builtin.append_ #[29,29] 29 #[.slice (some ⟨g,0,none⟩) n cap,.slice oS lS c]).run prog w=.ok (.slice (some ⟨g',0,none⟩) (n+lS) DF) w'∧
  w'.ownsRow base 3 1 (.slice (some ⟨g',0,none⟩) (n+lS) DF) (n+lS) (xs++xq L)∧w.grownBy w' (some g)∧(g'=g∨g'=w.heap.size):=by
 subst hlS;cases oS with
 |
  none=>
  have hL:L= []:=by
   cases L with
   |nil=>rfl
   |cons x r=>obtain⟨a,ha,_⟩:=hS.cells 0 (by simp);cases ha
  subst hL;have fK:n≤cap:=by
   rcases Nt.2 with⟨h,_⟩|⟨g2,c2,Es,hv,_,_,px,_⟩;·cases h
   ·obtain⟨_,rfl⟩:_∧cap=c2:=by simpa using hv
    exact px
  have hr:=run_append_room_src (P:=prog) (w:=w) 29 29 29 3 i underlying29 hi g 0 n cap (.slice none 0 c) 0 [] (Src.ofNil _ underlying29 c) (by omega) (fun j hj=>by simp at hj) (fun j hj=>by simp at hj);refine⟨g,cap,_,hr,?_,?_,.inl rfl⟩;·simpa [xq,World.setCells] using Nt
  ·simpa [World.setCells] using JE (jN w.heap.size w)
 |
  some a=>
  obtain⟨v',w',hr,h2,h3,h4,h5⟩:=run_append_own_at (P:=prog) (w:=w) base 29 29 3 i (.int .i64 0) 1 8 underlying29 hi hz sz uM rfl (by decide) _ n xs Nt a L.length c (xq L) (by simp [xq]) (jkG hS) (Kb _) (by unfold maxLen;omega) (by omega) Av;rcases h2.2 with⟨hv,h0⟩|⟨g',DF,Es,hv,_⟩
  ·have:=(h4.1 hv).1;cases this
  ·subst hv;refine⟨g',DF,w',hr,h2,h3,?_⟩;rcases h5 with h5|h5;·left;simpa [Value.ownBlock] using h5
   ·right;simpa [Value.ownBlock] using h5
theorem jkH{ol:s0}{O:C0}(h:yW w ol O)(m cl:Nat)(ey:O.length≤cl):yW w (if cl=m then ol else Option.map (fun x=>x.add m) ol) (O.drop m):=⟨fun i hi=>by
 have iG:m+i<O.length:=by rw [kQ]at hi;omega
 rw [jQ (by omega)];obtain⟨a,h1,h2,h3⟩:=h.cells (m+i) iG;subst h1;refine⟨a.add m,rfl,by rw [yI];exact h2,?_⟩;rw [Go.Deep.add_add,h3];simp⟩
theorem jkq{base E:Nat}(h:w.heap[E]?=some (.cells #[] e (0,0)))(hb:base≤E):w.ownsRow base e 1 (.slice (some ⟨E,0,none⟩) 0 0) 0 []:=⟨rfl,.inr ⟨E,0, #[],rfl,hb,h,jO _,by unfold maxLen;omega,rfl,rfl⟩⟩
theorem jmB{F:Nat}{x:Int}(h:w.heap[F]?=some (.cells #[.int .i64 x] e (0,0))):yW w (some ⟨F,0,none⟩) [x]:=⟨fun i hi=>⟨_,rfl,xZ h,by
 have Cx:i<1:=hi;obtain rfl:i=0:=by omega
 rw [qD];exact jM w F 0 _ _ _ h⟩⟩
end Go.Proofs.YtnohcdpnnhmpfaaGreatDoor
namespace Go.Proofs.YtnohcdpnnhmpfaaGreatDoor
open Go.RowKit Tryz ML FM AU CT Go.Seg
noncomputable def lReg(n:Nat):Code:=((Tryz.f31.body.bind (Qn n)).getD .skip)
theorem jcv(k m cl M:Nat)(O:C0)(ol:s0)(w0 w:m0)(Q:Exit→Act→m0→Prop){u0 u1 u2 u3 u4 u5 u6 P0 Ob C7 G9 Th Ph Dh c7 E7 L1 i4 A4 Rb i7 I4 L4 ff N1 N4 U1 l7 t7 A7 W7 R4 G2 P4 T4 g7 L2 N2 i3 A3 D3 G3 I3 L3 P3 A1 R0 U0:n0}(hm:m≤O.length)(ey:O.length≤cl)(hO:O.length≤12)(hM:M=w0.heap.size)(hb:O0 M w0 w)(NM:yW w0 ol O)
 (hP: ∀(c:List PanicEntry) (a:Act) (d:L0) (v:n0) (w:m0),Q (.panic c) (a.put d v) w→Q (.panic c) a w)
 (hQ: ∀(ci Rh mi ni si ti ui Ai Bi Ci Di lp:n0) (g c:Nat) (w':m0),w'.ownsRow M 3 1 (.slice (some ⟨g,0,none⟩) (m+1+(O.length-m)) c) (m+1+(O.length-m)) (xq (O.take m)++xq [(k:Int)]++xq (O.drop m))∧O0 M w0 w'→Q .normal ⟨#[u0,u1,u2,u3,u4,u5,u6,.slice (some ⟨g,0,none⟩) (m+1+(O.length-m)) c,.int .i64 (k:Int),.int .i64 (m:Int),P0,Ob,C7,G9,Th,Ph,Dh,c7,E7,L1,i4,A4,Rb,i7,I4,L4,ff,N1,N4,U1,l7,t7,A7,W7,R4,G2,P4,ci,Rh,mi,ni,si,ti,ui,Ai,Bi,Ci,Di,lp,R0,U0],[]⟩ w'):
 Code.wp prog (lReg 11) Q ⟨#[u0,u1,u2,u3,u4,u5,u6,.slice ol O.length cl,.int .i64 (k:Int),.int .i64 (m:Int),P0,Ob,C7,G9,Th,Ph,Dh,c7,E7,L1,i4,A4,Rb,i7,I4,L4,ff,N1,N4,U1,l7,t7,A7,W7,R4,G2,P4,T4,g7,L2,N2,i3,A3,D3,G3,I3,L3,P3,A1,R0,U0],[]⟩ w:=by
 have HQ:=jA hQ;have HM:=jA hM;have aC:=jA NM;have HB:=jA hb;obtain⟨i0,hi,Is,Ts,Ns⟩:=info_parts KC;have HI:=jA hi;have Dt:=jA Is;have Ct:=jA Ts;have Bt:=jA Ns;have Ht:M≤w.heap.size:=by have:=hb.size;omega
 clear hP hQ hM NM hb hi Is Ts Ns
 conv=>arg 2;whnf
 dsimp only
 refine Seg.Xd 11 (fun L a w=> ∃(ci Rh mi ni si ti ui Ai Bi Ci Di:n0),a=⟨#[u0,u1,u2,u3,u4,u5,u6,.slice ol O.length cl,.int .i64 (k:Int),.int .i64 (m:Int),P0,Ob,C7,G9,Th,Ph,Dh,c7,E7,L1,i4,A4,Rb,i7,I4,L4,ff,N1,N4,U1,l7,t7,A7,W7,R4,G2,P4,ci,Rh,mi,ni,si,ti,ui,Ai,Bi,Ci,Di,A1,R0,U0],[]⟩∧O0 M w0 w∧M≤w.heap.size∧(L.getD 0 false=true→ ¬L.getD 4 false=true→ ∃E,ci=.slice (some ⟨E,0,none⟩) 0 0∧M≤E∧w.heap[E]?=some (.cells #[] 3 (0,0)))∧(L.getD 1 false=true→Rh=.slice ol O.length cl)∧(L.getD 2 false=true→mi=.int .i64 (m:Int))∧(L.getD 3 false=true→ni=.slice ol m cl)∧(L.getD 4 false=true→ ¬L.getD 7 false=true→ ∃g c,si=.slice (some ⟨g,0,none⟩) m c∧w.ownsRow M 3 1 (.slice (some ⟨g,0,none⟩) m c) m (xq (O.take m)))∧(L.getD 5 false=true→ti=.int .i64 (k:Int))∧(L.getD 6 false=true→ ¬L.getD 7 false=true→ ∃F,ui=.slice (some ⟨F,0,none⟩) 1 1∧w.heap[F]?=some (.cells #[.int .i64 (k:Int)] 3 (0,0)))∧(L.getD 7 false=true→ ∃g c,Ai=.slice (some ⟨g,0,none⟩) (m+1) c∧w.ownsRow M 3 1 (.slice (some ⟨g,0,none⟩) (m+1) c) (m+1) (xq (O.take m)++xq [(k:Int)]))∧(L.getD 8 false=true→Bi=.slice ol O.length cl)∧(L.getD 9 false=true→Ci=.int .i64 (m:Int))∧(L.getD 10 false=true→Di=Value.slice (if cl=m then ol else Option.map (fun x=>x.add m) ol) (O.length-m) (cl-m))∧(L.getD 7 false=true→L.getD 4 false=true)) (by kernel_rfl) (by kernel_rfl) ?_ ?_ ?_;case refine_1=>
  have hB:=HB.u;exact⟨_,_,_,_,_,_,_,_,_,_,_,rfl,hB.drew,Ht,fun h=>absurd h (by decide),fun h=>absurd h (by decide),fun h=>absurd h (by decide),fun h=>absurd h (by decide),fun h=>absurd h (by decide),fun h=>absurd h (by decide),fun h=>absurd h (by decide),fun h=>absurd h (by decide),fun h=>absurd h (by decide),fun h=>absurd h (by decide),fun h=>absurd h (by decide),fun h=>absurd h (by decide)⟩
 case refine_2=>
  clear Ht HB;intro i hi L a w hr hI;obtain⟨ci,Rh,mi,ni,si,ti,ui,Ai,Bi,Ci,Di,rfl,hb,Ht,fV,hA1,hA2,hA3,hA4,hA5,hA6,hA7,hA8,hA9,CK,UO⟩:=hI;obtain⟨AE,o,ho,hall⟩:=mem_ready.1 hr;have hs:=Xk AE;have g: ∀j,j≠i→(L.setIfInBounds i true).getD j false=L.getD j false:=fun j hj=>getD_set_ne false (Ne.symm hj);have BN:=jA fV;have aw:=jA hA1;have Hv:=jA hA2;have TF:=jA hA3;have cC:=jA hA4;have EL:=jA hA5;have DL:=jA hA6;have AN:=jA hA7;have wN:=jA hA8;have tN:=jA hA9;have mB:=jA CK;have Pz:=jA UO;have Ov:=jA hb;clear fV hA1 hA2 hA3 hA4 hA5 hA6 hA7 hA8 hA9 CK UO hb;have Wx:=(zl hr).symm.trans ho;injection Wx with Wx;subst Wx;clear ho hr;rcases(show i=0∨i=1∨i=2∨i=3∨i=4∨i=5∨i=6∨i=7∨i=8∨i=9∨i=10 by omega)with rfl|rfl|rfl|rfl|rfl|rfl|rfl|rfl|rfl|rfl|rfl
  ·have tw:O0 w.heap.size w (w.alloc (.cells #[] 3)):=(jN _ _).alloc (jO _) _;clear hall
   as_aux_lemma=>
   unfold Seg.JB;intro K hK;have HK:=jA hK;clear hK;try simp only [Seg.yS,Seg.opAt,jK]
   first|go_simp|skip
   go_wp2_with fail;refine HK.u _ _ trivial ?_;simp only [g 1 (by decide),g 2 (by decide),g 3 (by decide),g 4 (by decide),g 5 (by decide),g 6 (by decide),g 7 (by decide),g 8 (by decide),g 9 (by decide),g 10 (by decide)]
   exact⟨_,_,_,_,_,_,_,_,_,_,_,rfl,Ov.u.trans (tw.mono Ht),jU Ht tw.size,(fun _ _=>⟨w.heap.size,rfl,Ht,xh rfl⟩),aw.u,Hv.u,TF.u,(fun h4 h7=>by
    obtain⟨g,c,e,o⟩:=cC.u h4 h7;exact⟨g,c,e,yA o tw⟩),EL.u,(fun h6 h7=>by
    obtain⟨F,e,hF⟩:=DL.u h6 h7;exact⟨F,e,xe tw (xZ hF) hF⟩),(fun h7=>by
    obtain⟨g,c,e,o⟩:=AN.u h7;exact⟨g,c,e,yA o tw⟩),wN.u,tN.u,mB.u,Pz.u⟩
  ·clear hall
   as_aux_lemma=>
   unfold Seg.JB;intro K hK;have HK:=jA hK;clear hK;try simp only [Seg.yS,Seg.opAt,jK]
   first|go_simp|skip
   go_wp2_with fail;refine HK.u _ _ trivial ?_;simp only [g 0 (by decide),g 2 (by decide),g 3 (by decide),g 4 (by decide),g 5 (by decide),g 6 (by decide),g 7 (by decide),g 8 (by decide),g 9 (by decide),g 10 (by decide)];exact⟨_,_,_,_,_,_,_,_,_,_,_,rfl,Ov.u,Ht,BN.u,(fun _=>rfl),Hv.u,TF.u,cC.u,EL.u,DL.u,AN.u,wN.u,tN.u,mB.u,Pz.u⟩
  ·clear hall
   as_aux_lemma=>
   unfold Seg.JB;intro K hK;have HK:=jA hK;clear hK;try simp only [Seg.yS,Seg.opAt,jK]
   first|go_simp|skip
   go_wp2_with fail;refine HK.u _ _ trivial ?_;simp only [g 0 (by decide),g 1 (by decide),g 3 (by decide),g 4 (by decide),g 5 (by decide),g 6 (by decide),g 7 (by decide),g 8 (by decide),g 9 (by decide),g 10 (by decide)];exact⟨_,_,_,_,_,_,_,_,_,_,_,rfl,Ov.u,Ht,BN.u,aw.u,(fun _=>rfl),TF.u,cC.u,EL.u,DL.u,AN.u,wN.u,tN.u,mB.u,Pz.u⟩
  ·have d1:L.getD 1 false=true:=hall ⟨1,.data⟩ (by simp [Seg.opAt]) rfl;have d2:L.getD 2 false=true:=hall ⟨2,.data⟩ (by simp [Seg.opAt]) rfl;obtain rfl:=aw.u d1;obtain rfl:=Hv.u d2;clear hall
   as_aux_lemma=>
   unfold Seg.JB;intro K hK;have HK:=jA hK;clear hK;try simp only [Seg.yS,Seg.opAt,jK]
   first|go_simp|skip
   go_wp2_with fail;refine HK.u _ _ trivial ?_;simp only [g 0 (by decide),g 1 (by decide),g 2 (by decide),g 4 (by decide),g 5 (by decide),g 6 (by decide),g 7 (by decide),g 8 (by decide),g 9 (by decide),g 10 (by decide)];exact⟨_,_,_,_,_,_,_,_,_,_,_,rfl,Ov.u,Ht,BN.u,(fun _=>rfl),(fun _=>rfl),(fun _=>rfl),cC.u,EL.u,DL.u,AN.u,wN.u,tN.u,mB.u,Pz.u⟩
  ·have d0:L.getD 0 false=true:=hall ⟨0,.data⟩ (by simp [Seg.opAt]) rfl;have d3:L.getD 3 false=true:=hall ⟨3,.data⟩ (by simp [Seg.opAt]) rfl;have n4: ¬L.getD 4 false=true:=fun h=>by rw [jaz AE]at h;cases h
   obtain⟨E,rfl,mE,eE⟩:=BN.u d0 n4;obtain rfl:=TF.u d3;obtain⟨g1,c1,w1,hr,own1,hg,hl1⟩:=VK (w:=w) i0 HI.u Dt.u Ct.u Bt.u M E 0 0 [] (jkq eE mE) ol (O.take m) m cl (by rw [jf];omega) ((aC.u.below (HM.u▸Ov.u)).take m) (by rw [jf];omega) Ht;simp only [jv,vQ]at hr own1;have EE:=jA eE;have Fv:=jA own1;clear eE own1;clear hall
   as_aux_lemma=>
   unfold Seg.JB;intro K hK;have HK:=jA hK;clear hK;rw [jP (by rfl)];refine Lib.wp_append_run_sl _ (.tmp 37) (.tmp 40) 29 rfl _ _ rfl rfl hr ?_;refine HK.u _ _ trivial ?_;simp only [g 0 (by decide),g 1 (by decide),g 2 (by decide),g 3 (by decide),g 5 (by decide),g 6 (by decide),g 7 (by decide),g 8 (by decide),g 9 (by decide),g 10 (by decide)]
   exact⟨_,_,_,_,_,_,_,_,_,_,_,rfl,Ov.u.grown hg Ht (fun j hj=>by cases hj;exact mE),jU Ht hg.size,(fun _ h=>absurd hs h),aw.u,Hv.u,(fun _=>rfl),(fun _ _=>⟨g1,c1,rfl,Fv.u⟩),EL.u,(fun h6 h7=>by
    obtain⟨F,e,hF⟩:=DL.u h6 h7;exact⟨F,e,yU hg (fun e=>by injection e with e;have h:=EE.u;rw [e]at h;rw [h]at hF;cases hF) hF⟩),(fun h7=>absurd (Pz.u h7) n4),wN.u,tN.u,mB.u,(fun _=>hs)⟩
  ·clear hall
   as_aux_lemma=>
   unfold Seg.JB;intro K hK;have HK:=jA hK;clear hK;try simp only [Seg.yS,Seg.opAt,jK]
   first|go_simp|skip
   go_wp2_with fail;refine HK.u _ _ trivial ?_;simp only [g 0 (by decide),g 1 (by decide),g 2 (by decide),g 3 (by decide),g 4 (by decide),g 6 (by decide),g 7 (by decide),g 8 (by decide),g 9 (by decide),g 10 (by decide)];exact⟨_,_,_,_,_,_,_,_,_,_,_,rfl,Ov.u,Ht,BN.u,aw.u,Hv.u,TF.u,cC.u,(fun _=>rfl),DL.u,AN.u,wN.u,tN.u,mB.u,Pz.u⟩
  ·have d5:L.getD 5 false=true:=hall ⟨5,.data⟩ (by simp [Seg.opAt]) rfl;obtain rfl:=EL.u d5;have tw:O0 w.heap.size w (w.alloc (.cells #[.int .i64 (k:Int)] 3)):=(jN _ _).alloc (jO _) _;clear hall
   as_aux_lemma=>
   unfold Seg.JB;intro K hK;have HK:=jA hK;clear hK;try simp only [Seg.yS,Seg.opAt,jK]
   first|go_simp|skip
   go_wp2_with fail;refine HK.u _ _ trivial ?_;simp only [g 0 (by decide),g 1 (by decide),g 2 (by decide),g 3 (by decide),g 4 (by decide),g 5 (by decide),g 7 (by decide),g 8 (by decide),g 9 (by decide),g 10 (by decide)]
   exact⟨_,_,_,_,_,_,_,_,_,_,_,rfl,Ov.u.trans (tw.mono Ht),jU Ht tw.size,(fun h0 h4=>by
    obtain⟨E,e,mE,hE⟩:=BN.u h0 h4;exact⟨E,e,mE,xe tw (xZ hE) hE⟩),aw.u,Hv.u,TF.u,(fun h4 h7=>by
    obtain⟨g,c,e,o⟩:=cC.u h4 h7;exact⟨g,c,e,yA o tw⟩),(fun _=>rfl),(fun _ _=>⟨w.heap.size,rfl,xh rfl⟩),(fun h7=>by
    obtain⟨g,c,e,o⟩:=AN.u h7;exact⟨g,c,e,yA o tw⟩),wN.u,tN.u,mB.u,Pz.u⟩
  ·have d4:L.getD 4 false=true:=hall ⟨4,.data⟩ (by simp [Seg.opAt]) rfl;have d6:L.getD 6 false=true:=hall ⟨6,.data⟩ (by simp [Seg.opAt]) rfl;have n7: ¬L.getD 7 false=true:=fun h=>by rw [jaz AE]at h;cases h
   obtain⟨g1,c1,rfl,own1⟩:=cC.u d4 n7;obtain⟨F,rfl,eF⟩:=DL.u d6 n7;obtain⟨g2,c2,w2,hr,own2,hg,BJ⟩:=VK (w:=w) i0 HI.u Dt.u Ct.u Bt.u M g1 m c1 _ own1 (some ⟨F,0,none⟩) [(k:Int)] 1 1 rfl (jmB eF) (by simp;omega) Ht;have mg1:M≤g1:=(own1.lt g1 rfl).1;have Fv:=jA own2;clear own1 own2 eF;clear hall
   as_aux_lemma=>
   unfold Seg.JB;intro K hK;have HK:=jA hK;clear hK;rw [jP (by rfl)];refine Lib.wp_append_run_sl _ (.tmp 41) (.tmp 43) 29 rfl _ _ rfl rfl hr ?_;refine HK.u _ _ trivial ?_;simp only [g 0 (by decide),g 1 (by decide),g 2 (by decide),g 3 (by decide),g 4 (by decide),g 5 (by decide),g 6 (by decide),g 8 (by decide),g 9 (by decide),g 10 (by decide)];exact⟨_,_,_,_,_,_,_,_,_,_,_,rfl,Ov.u.grown hg Ht (fun j hj=>by cases hj;exact mg1),jU Ht hg.size,(fun _ h=>absurd d4 h),aw.u,Hv.u,TF.u,(fun _ h=>absurd hs h),EL.u,(fun _ h=>absurd hs h),(fun _=>⟨g2,c2,rfl,Fv.u⟩),wN.u,tN.u,mB.u,(fun _=>d4)⟩
  ·clear hall
   as_aux_lemma=>
   unfold Seg.JB;intro K hK;have HK:=jA hK;clear hK;try simp only [Seg.yS,Seg.opAt,jK]
   first|go_simp|skip
   go_wp2_with fail;refine HK.u _ _ trivial ?_;simp only [g 0 (by decide),g 1 (by decide),g 2 (by decide),g 3 (by decide),g 4 (by decide),g 5 (by decide),g 6 (by decide),g 7 (by decide),g 9 (by decide),g 10 (by decide)];exact⟨_,_,_,_,_,_,_,_,_,_,_,rfl,Ov.u,Ht,BN.u,aw.u,Hv.u,TF.u,cC.u,EL.u,DL.u,AN.u,(fun _=>rfl),tN.u,mB.u,Pz.u⟩
  ·clear hall
   as_aux_lemma=>
   unfold Seg.JB;intro K hK;have HK:=jA hK;clear hK;try simp only [Seg.yS,Seg.opAt,jK]
   first|go_simp|skip
   go_wp2_with fail;refine HK.u _ _ trivial ?_;simp only [g 0 (by decide),g 1 (by decide),g 2 (by decide),g 3 (by decide),g 4 (by decide),g 5 (by decide),g 6 (by decide),g 7 (by decide),g 8 (by decide),g 10 (by decide)];exact⟨_,_,_,_,_,_,_,_,_,_,_,rfl,Ov.u,Ht,BN.u,aw.u,Hv.u,TF.u,cC.u,EL.u,DL.u,AN.u,wN.u,(fun _=>rfl),mB.u,Pz.u⟩
  ·have d8:L.getD 8 false=true:=hall ⟨8,.data⟩ (by simp [Seg.opAt]) rfl;have d9:L.getD 9 false=true:=hall ⟨9,.data⟩ (by simp [Seg.opAt]) rfl;obtain rfl:=wN.u d8;obtain rfl:=tN.u d9;clear hall
   as_aux_lemma=>
   unfold Seg.JB;intro K hK;have HK:=jA hK;clear hK;by_cases mF:cl=m
   ·subst mF;try simp only [Seg.yS,Seg.opAt,jK]
    first|go_simp|skip
    go_wp2_with fail;refine HK.u _ _ trivial ?_;simp only [g 0 (by decide),g 1 (by decide),g 2 (by decide),g 3 (by decide),g 4 (by decide),g 5 (by decide),g 6 (by decide),g 7 (by decide),g 8 (by decide),g 9 (by decide)];exact⟨_,_,_,_,_,_,_,_,_,_,_,rfl,Ov.u,Ht,BN.u,aw.u,Hv.u,TF.u,cC.u,EL.u,DL.u,AN.u,(fun _=>rfl),(fun _=>rfl),(fun _=>by rw [jP trivial,Nat.sub_self,Nat.sub_eq_zero_of_le ey]),Pz.u⟩
   ·try simp only [Seg.yS,Seg.opAt,jK]
    first|go_simp|skip
    go_wp2_with fail;refine HK.u _ _ trivial ?_;simp only [g 0 (by decide),g 1 (by decide),g 2 (by decide),g 3 (by decide),g 4 (by decide),g 5 (by decide),g 6 (by decide),g 7 (by decide),g 8 (by decide),g 9 (by decide)];exact⟨_,_,_,_,_,_,_,_,_,_,_,rfl,Ov.u,Ht,BN.u,aw.u,Hv.u,TF.u,cC.u,EL.u,DL.u,AN.u,(fun _=>rfl),(fun _=>rfl),(fun _=>by rw [jQ mF]),Pz.u⟩
 case refine_3=>
  clear Ht HB;intro L a w hall hI;obtain⟨ci,Rh,mi,ni,si,ti,ui,Ai,Bi,Ci,Di,rfl,hb,Ht,fV,hA1,hA2,hA3,hA4,hA5,hA6,hA7,hA8,hA9,CK,UO⟩:=hI;obtain⟨g2,c2,rfl,own2⟩:=hA7 (hall 7 (by omega));obtain rfl:=CK (hall 10 (by omega));have cy:=jkH (aC.u.below (HM.u▸hb)) m cl ey;obtain⟨g3,c3,w9,hr,Tu,hg,hl3⟩:=VK (w:=w) i0 HI.u Dt.u Ct.u Bt.u M g2 (m+1) c2 _ own2 _ (O.drop m) (O.length-m) (cl-m) (by rw [kQ]) cy (by rw [kQ];omega) Ht;have mg2:M≤g2:=(own2.lt g2 rfl).1;have Ov:=jA (hb.grown hg Ht (fun j hj=>by cases hj;exact mg2));have Fv:=jA Tu;clear fV hA1 hA2 hA3 hA4 hA5 hA6 hA8 hA9 UO hA7 CK hall hb own2 Tu hg hl3 cy mg2;generalize (if cl=m then ol else Option.map (fun x=>x.add m) ol)=od at*;simp only [jF,jH];go_wp2_with (at_builtin;refine Lib.wpList_append_run_sl _ rfl (.tmp 44) (.tmp 47) 29 rfl _ _ rfl rfl hr ?_);exact HQ.u _ _ _ _ _ _ _ _ _ _ _ _ g3 c3 _ ⟨Fv.u,Ov.u⟩
end Go.Proofs.YtnohcdpnnhmpfaaGreatDoor
namespace Go.Proofs.YtnohcdpnnhmpfaaGreatDoor
open Go.RowKit Tryz ML FM AU CT
def jju(c:yH)(lots:Bytes)(oa:s0)(cap:Nat)(B:Nat)(w:m0)(i vl:n0)(wr:m0):Prop:=
 ∃(k:Nat) (O:C0) (ol:s0) (cl:Nat),k≤c.op.length∧i=.int .i64 k∧Ord k (Kr c lots) O∧vl=.slice ol O.length cl∧O.length≤cl∧yW wr ol O∧O0 B w wr∧wr.heap[B]?=some (.cells #[.string ⟨c.nm.toArray⟩,.slice oa c.op.length cap,.int .i64 c.rl,.int .i64 c.se,.int .i64 c.mo] 24 (0,0))
theorem jgH {c:yH}{lots:Bytes}{oa:s0}{cap B k n g base c3:Nat}{w w9:m0}{A C:C0}{i:n0}(hk:k+1≤c.op.length)(hi:i=.int .i64 ((k+1:Nat):Int))(ho:Ord (k+1) (Kr c lots) (A++(k:Int)::C))(hl:A.length+1+C.length=n)
 (own:w9.ownsRow base 3 1 (.slice (some ⟨g,0,none⟩) n c3) n (xq (A++ [(k:Int)]++C))) (hb:O0 B w w9) (hx:w9.heap[B]?=some (.cells #[.string ⟨c.nm.toArray⟩,.slice oa c.op.length cap,.int .i64 c.rl,.int .i64 c.se,.int .i64 c.mo] 24 (0,0))):jju c lots oa cap B w i (.slice (some ⟨g,0,none⟩) n c3) w9:=by
 have e:A++ [(k:Int)]++C=A++(k:Int)::C:=by simp
 rw [e]at own;have Ix:(A++(k:Int)::C).length=n:=by simp;omega
 obtain⟨oa',ca',hv,hc,hI⟩:=zT own;obtain⟨rfl,_,rfl⟩:some ⟨g,0,none⟩=oa'∧n=_∧c3=ca':=by injection hv with h1 h2 h3;exact⟨h1,h2,h3⟩
 exact⟨k+1,_,_,c3,hk,hi,ho,by rw [Ix],hc,hI,hb,hx⟩
theorem Ys(c:yH)(lots:Bytes)(oa:s0)(cap:Nat)(w:m0)(hs:zg w oa c.op)(hf:c.Fits lots)(Gw:c.op.length<9223372036854775807):
 Calls prog 31 #[.agg (c.cells oa cap).toArray,.string ⟨lots.toArray⟩] w (ZY c lots w):=by
 have hC:(c.cells oa cap).toArray= #[.string ⟨c.nm.toArray⟩,.slice oa c.op.length cap,.int .i64 c.rl,.int .i64 c.se,.int .i64 c.mo]:=rfl;have QW:=jA (fun w=>jap c oa cap w Gw);have QA:=jA (fun i k w h hi hk=>jfi c lots i k oa cap w h hf hi hk Gw);rw [hC]at QW QA ⊢;clear hC hf;have HS:=jA hs;clear hs;go_enter Tryz.func31,Tryz.ntmps31;go_upto_region 1 with(fail);generalize hB:w.heap.size=B at*;refine Go.bxE hB ?_;intro w1 ts;have HB:=jA hB;have B1:=jA ts.1;have X1:=jA ts.2;have mt:B<w1.heap.size:=xZ ts.2;have k0:w1.cell? ⟨B,0,none⟩=some (.string ⟨c.nm.toArray⟩):=jM w1 B 0 _ _ _ ts.2;have k1:w1.cell? ⟨B,1,none⟩=some (.slice oa c.op.length cap):=jM w1 B 1 _ _ _ ts.2;have k2:w1.cell? ⟨B,2,none⟩=some (.int .i64 c.rl):=jM w1 B 2 _ _ _ ts.2;have k3:w1.cell? ⟨B,3,none⟩=some (.int .i64 c.se):=jM w1 B 3 _ _ _ ts.2;clear hB ts;clear k0 k2 k3;have tG:=jA (show Jv c=if yz c=true then 2 else 0 from rfl);cases hW:yz c with
 |
  true=>
  have HW:=jA hW;have HE:=jA (show Jv c=2 from tG.u.trans (jP hW));have e1:(Jv c !=0)=true:=by rw [HE.u];rfl
  clear hW tG;go_wp2_with (first|(refine xy rfl 24 _ rfl B _ _ _ _ rfl X1.u underlying24 rfl xt ?_)|(go_at_call 76;refine(QW.u w1).mono ?_;rintro e w2 ⟨rfl,b2⟩))
  go_ret2
  exact⟨by rw [HB.u];exact B1.u.trans (b2.mono (jX mt)),by rw [jP HW.u,←HE.u];rfl⟩
 |
  false=>
  have HW:=jA hW;have HE:=jA (show Jv c=0 from tG.u.trans (jQ (by rw [hW];decide)));have hn:=jA (show 1≤c.op.length∧c.op.length≤12 by unfold yz at hW;have:=qr hW;omega);have e1:(Jv c !=0)=false:=by rw [HE.u];rfl
  clear hW tG;go_upto_region 5 with(first|(refine xy rfl 24 _ rfl B _ _ _ _ rfl X1.u underlying24 rfl xt ?_)|(go_at_call 76;refine(QW.u w1).mono ?_;rintro e w2 ⟨rfl,b2⟩));have X2:=jA (xe b2 mt X1.u);have B2:=jA (B1.u.trans (b2.mono (jX mt)));have k1:w2.cell? ⟨B,1,none⟩=some (.slice oa c.op.length cap):=jM w2 B 1 _ _ _ X2.u;clear e1 b2 mt QW B1 X1;obtain⟨i0,hi,Is,Ts,Ns⟩:=info_parts KC;clear hi Is Ts Ns;go_wp2_with fail;clear k1;go_loopw [18,7] (fun i vl wr=>jju c lots oa cap B w i vl wr) (fun i _ _=>c.op.length-(intOf i).toNat);case atStart=>exact⟨0,[],none,0,by omega,rfl,⟨List.Perm.refl _,List.Pairwise.nil⟩,rfl,by simp,yW.nil,B2.u,X2.u⟩
  case round=>
  clear B2 X2;obtain⟨k,O,ol,cl,hk,rfl,ho,rfl,ey,dz,it,hx⟩:=hrel;have HO:=jA ho;have Oz:=jA dz;have BB:=jA it;have XX:=jA hx;clear ho dz it hx;by_cases ns:k<c.op.length
  ·as_aux_lemma=>
   obtain⟨dk,Ms,nu⟩:=Go.yD ns
   have Oy:=jA (HO.u.len);have Ws:=hn.u;have CU:O.length≤12:=by have:=Oy.u;omega
   clear ns;go_wp2_with fail;go_loopw [9] (fun j wr=> ∃m:Nat,m≤O.length∧j=.int .i64 m∧(∀a∈O.take m,ltL (Kr c lots) a k)∧yW wr ol O∧O0 B w wr∧wr.heap[B]?=some (.cells #[.string ⟨c.nm.toArray⟩,.slice oa c.op.length cap,.int .i64 c.rl,.int .i64 c.se,.int .i64 c.mo] 24 (0,0))) (fun j _=>O.length-(intOf j).toNat);case atStart=>exact⟨0,by omega,rfl,by simp,Oz.u,BB.u,XX.u⟩
   case round=>
   clear Oz BB XX;obtain⟨m,hm,rfl,hA,dz,it,hx⟩:=hrel;have HA:=jA hA;have Oz:=jA dz;have BB:=jA it;have XX:=jA hx;clear hA dz it hx;have Lt:B<wr.heap.size:=xZ XX.u;obtain⟨M,hM⟩: ∃M,M=wr.heap.size:=⟨_,rfl⟩;have nt:O0 M wr wr.drew:=(jN _ _).drew;have Gy:B<M:=by omega
   have HM:=jA hM;clear hM;by_cases ns:m<O.length
   ·as_aux_lemma=>
    obtain⟨dm,dm2,NG⟩:=Go.yD ns
    obtain⟨q,Us,Wy,Mv⟩:=Oz.u.cells m ns;subst Us;obtain⟨o,ho⟩: ∃o:Nat,O[m]=(o:Int):=⟨O[m].toNat,by have:=HO.u.mem.1 (jb ns);omega⟩;have gu:o<k:=by have:=HO.u.mem.1 (jb ns);rw [ho]at this;omega
    have Ou:=jA (show O.take (m+1)=O.take m++ [(o:Int)]by rw [jh ns,ho]);have nN:=jA (show O.drop m=(o:Int)::O.drop (m+1)by rw [←ho];exact qA ns);rw [ho]at Mv;have SY:(q.add m).block<M:=by rw [yI,HM.u];exact Wy
    have HQC:=jA Mv;have dq: ∀x:xj M wr,x.w.cell? (q.add m)=some (.int .i64 o):=fun x=>JO ⟨x,rfl⟩ SY HQC.u;have QA2:=jA (QA.u o k wr.drew ((HS.u.below (HB.u.symm▸BB.u)).below (HM.u▸nt)) (by omega) (by omega));clear ho Mv Wy;cases ha:jcT (Kr c lots) o k with
    |
     true=>
     rw [ha]at QA2;have lB:=jA ((jcS _ _ _).1 ha);clear ha;go_wp2_with fail;refine Seg.xf (fun w'=> ∃x:xj M wr,w'=x.w) [] [0,1,2,3,4,5,6,7,8,9,10,11] 12 (by kernel_rfl) (by kernel_rfl) (fun _ _ d _ _ h=>by cases d<;>exact h) (⟨⟨_,nt⟩,rfl⟩) ?_;simp only [jK,Seg.opAt,Seg.xu];iterate 5 first|go_big_quiet_step (fail)|quiet_step (fail)
     refine yY rfl 24 _ rfl B #[.string ⟨c.nm.toArray⟩,.slice oa c.op.length cap,.int .i64 c.rl,.int .i64 c.se,.int .i64 c.mo] _ _ _ rfl XX.u Gy underlying24 rfl xt ?_;iterate 6 first|go_big_quiet_step (fail)|quiet_step (fail)
     refine jR ?_;go_wp2_with (go_at_call 77;refine QA2.u.mono ?_;rintro e w3 ⟨rfl,b3⟩);go_roundw;have bw:O0 wr.heap.size wr w3:=(jN _ _).drew.trans b3;case rel=>exact⟨m+1,by omega,by go_num,by rw [Ou.u];intro a h;rcases jj.1 h with h|h;exact HA.u a h;(obtain rfl:a=(o:Int):=by simpa using h);exact lB.u,Oz.u.below bw,BB.u.trans (bw.mono (by omega)),xe bw Lt XX.u⟩
     case measure=>simp [intOf];omega
    |
     false=>
     rw [ha]at QA2;have lB:=jA (show ¬ltL (Kr c lots) o k from fun h=>by rw [(jcS _ _ _).2 h]at ha;cases ha);clear ha;go_wp2_with fail;refine Seg.xf (fun w'=> ∃x:xj M wr,w'=x.w) [] [0,1,2,3,4,5,6,7,8,9,10,11] 12 (by kernel_rfl) (by kernel_rfl) (fun _ _ d _ _ h=>by cases d<;>exact h) (⟨⟨_,nt⟩,rfl⟩) ?_;simp only [jK,Seg.opAt,Seg.xu];iterate 5 first|go_big_quiet_step (fail)|quiet_step (fail)
     refine yY rfl 24 _ rfl B #[.string ⟨c.nm.toArray⟩,.slice oa c.op.length cap,.int .i64 c.rl,.int .i64 c.se,.int .i64 c.mo] _ _ _ rfl XX.u Gy underlying24 rfl xt ?_;iterate 6 first|go_big_quiet_step (fail)|quiet_step (fail)
     refine jR ?_;go_wp2_with (go_at_call 77;refine QA2.u.mono ?_;rintro e w3 ⟨rfl,b3⟩);have HXW:O0 M wr w3:=nt.trans (b3.mono (kh HM.u));have FI:=jA (HO.u.ins_at m HA.u (fun a C' e=>by rw [nN.u]at e;injection e with e;rw [←e];exact lB.u));clear dm dm2 NG dq QA2 b3 nt SY HQC Ou nN lB;refine jcv k m cl M O (some q) wr (w3) _ hm ey CU HM.u HXW Oz.u (fun _ _ d _ _ h=>by cases d<;>exact h) ?_;rintro ci Rh mi ni si ti ui Ai Bi Ci Di lp g3 c3 w9 ⟨Tu,b9'⟩;dsimp only [Exit.then];have b9:=jA b9';have tB:=jA Tu;clear Tu b9' HXW;go_wp2_with fail;go_roundw;case rel=>exact jgH (by omega) (by go_num) FI.u (by rw [jf,kQ];omega) (by have h9:=tB.u;rw [JW,JW]at h9;exact h9) (BB.u.trans (b9.u.mono (jX Gy))) (xe b9.u Gy XX.u)
     case measure=>simp [intOf];omega
   ·as_aux_lemma=>
    obtain⟨dm,dm2⟩:=Go.yg ns;go_wp2_with fail;refine Seg.xf (fun w'=> ∃x:xj M wr,w'=x.w) [] [0,1,2,3,4,5,6,7,8,9,10,11] 12 (by kernel_rfl) (by kernel_rfl) (fun _ _ d _ _ h=>by cases d<;>exact h) (⟨⟨_,nt⟩,rfl⟩) ?_;simp only [jK,Seg.opAt,Seg.xu];repeat (any_goals (first|go_big_quiet_step (fail)|quiet_step (fail)))
    refine jR ?_;go_wp2_with fail;have HXW:O0 M wr wr.drew:=nt;have FI:=jA (HO.u.ins_at m HA.u (fun a C' e=>by rw [xP (by omega)]at e;cases e));clear dm dm2 nt;refine jcv k m cl M O ol wr (wr.drew) _ hm ey CU HM.u HXW Oz.u (fun _ _ d _ _ h=>by cases d<;>exact h) ?_;rintro ci Rh mi ni si ti ui Ai Bi Ci Di lp g3 c3 w9 ⟨Tu,b9'⟩;dsimp only [Exit.then];have b9:=jA b9';have tB:=jA Tu;clear Tu b9' HXW;go_wp2_with fail;go_roundw;case rel=>exact jgH (by omega) (by go_num) FI.u (by rw [jf,kQ];omega) (by have h9:=tB.u;rw [JW,JW]at h9;exact h9) (BB.u.trans (b9.u.mono (jX Gy))) (xe b9.u Gy XX.u)
    case measure=>simp [intOf];omega
  ·obtain⟨dk,Ms⟩:=Go.yg ns;obtain rfl:k=c.op.length:=by omega
   go_wp2_with fail
   go_ret2
   exact⟨by rw [HB.u];exact BB.u,by rw [jQ (by rw [HW.u];decide)];exact⟨O,ol,cl,HO.u,Oz.u,rfl⟩⟩
end Go.Proofs.YtnohcdpnnhmpfaaGreatDoor
