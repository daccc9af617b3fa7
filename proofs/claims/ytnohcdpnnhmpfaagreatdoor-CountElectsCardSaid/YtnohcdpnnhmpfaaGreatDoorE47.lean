/- Chapter 13, the reference's Transfer: the votes of a pile go on. -/
import Derived.Test.YtnohcdpnnhmpfaaGreatDoorE46
set_option linter.all false
set_option maxRecDepth 100000
set_option maxHeartbeats 8000000
namespace Go.Proofs.YtnohcdpnnhmpfaaGreatDoor.TR
open Go.RowKit Tryz ML FRP AU CT FM
theorem jey(K:RK)(q:Fr)(S:St)(G:RG)(s:Nat)(O:E0)(R:List Rd)(vR:n0)(CS:List (A0))(oV:s0)(cV RB BY gw ow lw cw:Nat)(Ry:t0)(i d:Nat)(f:Fr)(fa fb tv xv yv:n0)(w:m0)(Q:Exit→Act→m0→Prop){u0 u1 u2 u3 u4 u5 u6 u7 u8 u9 P0 Ob C7 G9 Ph Dh c7 E7 L1 i4 A4 Rb i7 I4 L4 N1 N4 U1 l7 t7 A7 R4 G2 P4 T4 g7 L2 N2 i3 A3 D3 G3 I3 L3 P3 A1 R0 U0 a5 i5 l5 A5 C5 E5 I5 L5 a6 i6 l6 m6 n6 t6 A6 C6 E6 I6 L6 M6 a7 I7 I9 aa da ia L7 U7 a8 g8 i8 l8 m8 p8 r8 s8 t8 A8 E8 F8 ma pa ra G8 I8 L8 O8 U8 W8 a9 i9 m9 o9 s9 A9 C9 D9 E9 ta ua Aa Ba Mh Nh Oh Sb Tb Ub Wb dc ec ic mc pc sc tc uc Ac Bc Cc Dc Ec Fc Gc Hc Ic Lc Mc Nc Oc Pc Rc Sc Tc Uc Wc pd sd Ca Da Ea Eh Fh Gh td ud Ad Bd Cd Dd Ed Fd Gd Hd Ld Fa Ha Ia La Ma Na Oa Pa Ra Sa Ta gf mf nf pf rf tf uf Af Bf Cf Df Ef Gf Hf If Mf Nf Of Pf Rf Sf Tf Uf bg eg fg gg ig lg mg ng pg sg tg ug wg Ag Bg Cg Dg Eg Fg Gg Hg Ig Lg Mg Ng Og Pg Rg Sg Tg Ug Wg ah ch dh eh fh gh lh mh nh oh ph rh sh th uh Ua Wa bb ib rb ub Ab Bb Cb Eb Fb Gb Lb Mb Nb Ah Bh Ch Md Nd Od Pd Sd Td Ud Wd ae be de ee fe ie me pe re te ue we Ae Be Ce De Ee Fe Ge He Ie Le Me Oe Pe Re Se Te Ue We bf cf ef:n0}
 (hR:yX K q S G w) (hU:JG K q G w R vR CS) (SC: ∀y,vR.ownBlock=some y→Ko K q S G y) (hV:zH K w oV) (Sw:1≤K.c.op.length) (hn:K.c.op.length≤12) (hm:K.m≤4096) (hWS: ∀k,k<K.m→Sml (S.V k).wt) (hf:Sml f)
 (pK:w.heap[RB]?=some (.cells #[tv,xv,yv,.int .i64 (d:Int),.slice (some ⟨gw,ow,none⟩) lw cw] 44 (0,0))) (hW:w.heap[gw]?=some (.cells Ry 3 (0,0))) (hW0:Ry[ow]?=some (.int .i64 (i:Int))) (hlw:0<lw) (bP:w.heap[BY]?=some (.cells #[fa,fb] 69 (0,0))) (hF:NrV w f fa fb) (hFo: ∀y,Jh K G y→Off f fa fb y)
 (hP: ∀(c:List PanicEntry) (a:Act) (d:L0) (v:n0) (w:m0),Q (.panic c) (a.put d v) w→Q (.panic c) a w)
 (hQ: ∀(Rh po ro uo Ao Bo Co Do Eo Fo Ho Io Lo Mo No Oo Po Ro So To Uo Wo bp dp ep fp gp:n0) (w':m0) (G':RG),Yk G G'→yX K q (goK S S.cont i f K.m) G' w'→JG K q G' w' R vR CS→(∀y,vR.ownBlock=some y→Ko K q (goK S S.cont i f K.m) G' y)→zH K w' oV→Q .normal ⟨#[u0,u1,u2,u3,u4,u5,u6,u7,u8,u9,P0,Ob,C7,G9,.pointer (some ⟨K.CV,0,none⟩),Ph,Dh,c7,E7,L1,i4,A4,Rb,i7,I4,L4,.pointer (some ⟨RB,0,none⟩),N1,N4,U1,l7,t7,A7,.pointer (some ⟨BY,0,none⟩),R4,G2,P4,T4,Rh,L2,N2,i3,A3,D3,G3,I3,L3,P3,A1,R0,U0,a5,i5,l5,A5,C5,E5,I5,L5,a6,i6,l6,m6,n6,t6,A6,C6,E6,I6,L6,M6,a7,I7,I9,aa,da,ia,L7,U7,a8,g8,i8,l8,m8,p8,r8,s8,t8,A8,E8,F8,ma,pa,ra,G8,I8,L8,O8,U8,W8,a9,i9,m9,o9,s9,A9,C9,D9,E9,ta,ua,Aa,Ba,Mh,Nh,Oh,Sb,Tb,Ub,Wb,dc,ec,ic,mc,pc,sc,tc,uc,Ac,Bc,Cc,Dc,Ec,Fc,Gc,Hc,Ic,Lc,Mc,Nc,Oc,Pc,Rc,Sc,Tc,Uc,Wc,pd,sd,Ca,Da,Ea,Eh,Fh,Gh,td,ud,Ad,Bd,Cd,Dd,Ed,Fd,Gd,Hd,Ld,Fa,Ha,Ia,La,Ma,Na,Oa,Pa,Ra,Sa,Ta,gf,mf,nf,pf,rf,tf,uf,Af,Bf,Cf,Df,Ef,Gf,Hf,If,Mf,Nf,Of,Pf,Rf,Sf,Tf,Uf,bg,eg,fg,gg,ig,lg,mg,ng,pg,sg,tg,ug,wg,Ag,Bg,Cg,Dg,Eg,Fg,Gg,Hg,Ig,Lg,Mg,Ng,Og,Pg,Rg,Sg,Tg,Ug,Wg,ah,ch,dh,eh,fh,gh,lh,mh,nh,oh,ph,rh,sh,th,uh,Ua,Wa,bb,ib,rb,ub,Ab,Bb,Cb,Eb,Fb,Gb,Lb,Mb,Nb,Ah,Bh,Ch,Md,Nd,Od,Pd,Sd,Td,Ud,Wd,ae,be,de,ee,fe,ie,me,pe,.slice oV K.m cV,.int .i64 K.m,po,ro,uo,Ao,Bo,Co,Do,Eo,Fo,Ho,Io,Lo,Mo,No,Oo,Po,Ro,So,To,Uo,Wo,bp,dp,ep,fp,gp],[]⟩ w'):
 Code.wp prog (jfZ 13) Q ⟨#[u0,u1,u2,u3,u4,u5,u6,u7,u8,u9,P0,Ob,C7,G9,.pointer (some ⟨K.CV,0,none⟩),Ph,Dh,c7,E7,L1,i4,A4,Rb,i7,I4,L4,.pointer (some ⟨RB,0,none⟩),N1,N4,U1,l7,t7,A7,.pointer (some ⟨BY,0,none⟩),R4,G2,P4,T4,g7,L2,N2,i3,A3,D3,G3,I3,L3,P3,A1,R0,U0,a5,i5,l5,A5,C5,E5,I5,L5,a6,i6,l6,m6,n6,t6,A6,C6,E6,I6,L6,M6,a7,I7,I9,aa,da,ia,L7,U7,a8,g8,i8,l8,m8,p8,r8,s8,t8,A8,E8,F8,ma,pa,ra,G8,I8,L8,O8,U8,W8,a9,i9,m9,o9,s9,A9,C9,D9,E9,ta,ua,Aa,Ba,Mh,Nh,Oh,Sb,Tb,Ub,Wb,dc,ec,ic,mc,pc,sc,tc,uc,Ac,Bc,Cc,Dc,Ec,Fc,Gc,Hc,Ic,Lc,Mc,Nc,Oc,Pc,Rc,Sc,Tc,Uc,Wc,pd,sd,Ca,Da,Ea,Eh,Fh,Gh,td,ud,Ad,Bd,Cd,Dd,Ed,Fd,Gd,Hd,Ld,Fa,Ha,Ia,La,Ma,Na,Oa,Pa,Ra,Sa,Ta,gf,mf,nf,pf,rf,tf,uf,Af,Bf,Cf,Df,Ef,Gf,Hf,If,Mf,Nf,Of,Pf,Rf,Sf,Tf,Uf,bg,eg,fg,gg,ig,lg,mg,ng,pg,sg,tg,ug,wg,Ag,Bg,Cg,Dg,Eg,Fg,Gg,Hg,Ig,Lg,Mg,Ng,Og,Pg,Rg,Sg,Tg,Ug,Wg,ah,ch,dh,eh,fh,gh,lh,mh,nh,oh,ph,rh,sh,th,uh,Ua,Wa,bb,ib,rb,ub,Ab,Bb,Cb,Eb,Fb,Gb,Lb,Mb,Nb,Ah,Bh,Ch,Md,Nd,Od,Pd,Sd,Td,Ud,Wd,ae,be,de,ee,fe,ie,me,pe,.slice oV K.m cV,.int .i64 K.m,.int .i64 (0:Int),re,te,ue,we,Ae,Be,Ce,De,Ee,Fe,Ge,He,Ie,Le,Me,Oe,Pe,Re,Se,Te,Ue,We,bf,cf,ef],[]⟩ w:=by
 have HP:=jA hP;clear hP
 conv=>arg 2;whnf
 have HQ:=jA hQ;have HS:=jA zu;have uW:=jA hWS;have uG:=jA hf;have HW0:=jA hW0;have MP:=jA hFo
 have H0:=jA (show yX K q (goK S S.cont i f 0) G w∧JG K q G w R vR CS∧(∀y,vR.ownBlock=some y→Ko K q (goK S S.cont i f 0) G y)∧zH K w oV∧w.heap[RB]?=some (.cells #[tv,xv,yv,.int .i64 (d:Int),.slice (some ⟨gw,ow,none⟩) lw cw] 44 (0,0))∧w.heap[gw]?=some (.cells Ry 3 (0,0))∧w.heap[BY]?=some (.cells #[fa,fb] 69 (0,0))∧NrV w f fa fb by
  rw [jmH];exact⟨hR,hU,SC,hV,pK,hW,bP,hF⟩)
 clear hQ hWS hf hW0 hFo hR hU SC hV pK hW bP hF;go_wp2_with fail;go_loopw [283] (fun v wr=> ∃(k:Nat) (G':RG),v=.int .i64 k∧k≤K.m∧Yk G G'∧yX K q (goK S S.cont i f k) G' wr∧JG K q G' wr R vR CS∧(∀y,vR.ownBlock=some y→Ko K q (goK S S.cont i f k) G' y)∧zH K wr oV∧wr.heap[RB]?=some (.cells #[tv,xv,yv,.int .i64 (d:Int),.slice (some ⟨gw,ow,none⟩) lw cw] 44 (0,0))∧wr.heap[gw]?=some (.cells Ry 3 (0,0))∧wr.heap[BY]?=some (.cells #[fa,fb] 69 (0,0))∧NrV wr f fa fb) (fun v _=>K.m-(intOf v).toNat);case atStart=>exact⟨0,G,rfl,ja _,rfl,H0.u⟩
 case round=>
 clear H0;obtain⟨k,G',rfl,hk,BA,hr,hu,SC,hv,nJ,hw,uM,hf⟩:=hrel;have BG:=jA BA;have HR:=jA hr;have HU:=jA hu;have IF:=jA SC;have HV:=jA hv;have Bw:=jA nJ;have HW:=jA hw;have wL:=jA uM;have HF:=jA hf;have Nx:G'.ev=G.ev:=by unfold Yk at BA;rw [BA]
 have HFT:=jA (fun y (hy:Jh K G' y)=>MP.u y (by unfold Jh at hy ⊢;rw [Nx]at hy;exact hy));clear BA hr hu SC hv nJ hw uM hf Nx;by_cases Wu:k<K.m;case neg=>
  obtain rfl:k=K.m:=by omega
  have dk:decide ((K.m:Int)<(K.m:Int))=false:=jS (by omega);have Ms:decide (K.m<K.m)=false:=jS (by omega);go_wp2_with fail;exact HQ.u _ _ _ _ _ _ _ _ _ _ _ _ _ _ _ _ _ _ _ _ _ _ _ _ _ _ _ wr G' BG.u HR.u HU.u IF.u HV.u
 obtain⟨dk,Ms,Py⟩:=Go.yD Wu
 obtain⟨a,Us,eu,Ft⟩:=HV.u.cells k Wu;subst Us;have VB:=jA (HR.u.vs k Wu);have eJ:K.vb k<wr.heap.size:=xZ VB.u;have Tz:RB<wr.heap.size:=xZ Bw.u;have ay:gw<wr.heap.size:=xZ HW.u;have Ox:BY<wr.heap.size:=xZ wL.u;have ey:K.CV<wr.heap.size:=xZ HR.u.cv;have hgk:(goK S S.cont i f k).V k=S.V k:=jmK S S.cont i f k;have HGK:=jA hgk;have k1: ∀z:xj wr.heap.size wr,z.w.cell? ⟨K.vb k,1,none⟩=some (.int .i64 (wiI (S.V k).wi)):=fun z=>by
  rw [←hgk];exact jM _ (K.vb k) 1 _ _ _ (xe z.2 eJ VB.u)
 have k2: ∀z:xj wr.heap.size wr,z.w.cell? ⟨RB,4,none⟩=some (.slice (some ⟨gw,ow,none⟩) lw cw):=fun z=>jM _ RB 4 _ _ _ (xe z.2 Tz Bw.u);have k3: ∀z:xj wr.heap.size wr,z.w.cell? ⟨gw,ow,none⟩=some (.int .i64 (i:Int)):=fun z=>(jM _ gw ow _ _ _ (xe z.2 ay HW.u)).trans HW0.u;have hlw0:(0:Int)<(lw:Int):=by omega
 clear hgk;go_upto_region 71 with(fail);clear dk Ms Py Ft;by_cases Hy:(S.V k).wi=some i;case neg=>
  have Ez:(wiI (S.V k).wi==(i:Int))=false:=by
   rw [jt];intro e;apply Hy;rcases h:(S.V k).wi with _|j;·rw [h]at e;exact absurd e (by show(-1:Int)≠i;omega)
   ·rw [h]at e;have e2:(j:Int)=i:=e;rw [show j=i by omega]
  have nD:=jA (jmJ (S:=S) (c:=S.cont) (f:=f) Hy);clear Hy;generalize wiI (S.V k).wi=ww at*;refine Seg.xf (fun w'=> ∃z:xj wr.heap.size wr,w'=z.w) [] [0,1,2,3,4,5,6,7] 8 (by kernel_rfl) (by kernel_rfl) (fun c a d v w h=>HP.u c a d v w h) (⟨⟨_,(jN _ _).drew⟩,rfl⟩) ?_;simp only [jK,Seg.opAt,Seg.xu];repeat (any_goals (first|go_big_quiet_step (fail)|quiet_step (fail)))
  refine jR ?_;go_wp2_with fail;go_roundw;case rel=>
   have hb:O0 wr.heap.size wr wr.drew:=(jN _ _).drew;exact⟨k+1,G',by go_num,by omega,BG.u,by rw [nD.u];exact HR.u.below hb,HU.u.below hb,by rw [nD.u];exact IF.u,HV.u.below hb,xe hb Tz Bw.u,xe hb ay HW.u,xe hb Ox wL.u,HF.u.below hb⟩
  case measure=>simp [intOf];omega
 have Ez:(wiI (S.V k).wi==(i:Int))=true:=by rw [Hy];exact beq_self_eq_true (i:Int)
 have nD:=jA (jmI (S:=S) (c:=S.cont) (f:=f) Hy);have HWI:=jA Hy;clear Hy;generalize hww:wiI (S.V k).wi=ww at*;have HWW:=jA hww;clear hww;refine Seg.xf (fun w'=> ∃z:xj wr.heap.size wr,w'=z.w) [] [0,1,2,3,4,5,6,7] 8 (by kernel_rfl) (by kernel_rfl) (fun c a d v w h=>HP.u c a d v w h) (⟨⟨_,(jN _ _).drew⟩,rfl⟩) ?_;simp only [jK,Seg.opAt,Seg.xu];repeat (any_goals (first|go_big_quiet_step (fail)|quiet_step (fail)))
 refine jR ?_;go_upto_region 72 with(fail);clear Ez k1 k2 k3;refine xr (fun w2=>O0 wr.heap.size wr w2) (jN _ _).drew (fun w2 Ut=>?_);have R2:=jA (HR.u.below Ut);have U2:=jA (HU.u.below Ut);have V2:=jA (HV.u.below Ut);have RB2:=jA (xe Ut Tz Bw.u);have W2:=jA (xe Ut ay HW.u);have CN:=jA (xe Ut Ox wL.u);have F2:=jA (HF.u.below Ut);clear Ut HR HU HV Bw HW wL HF VB eJ Tz ay Ox ey;have VB2:=jA (R2.u.vs k Wu);have eJ:K.vb k<w2.heap.size:=xZ VB2.u;have Ox:BY<w2.heap.size:=xZ CN.u;have NW:=jA (show NrV w2 (S.V k).wt (G'.wn k) (G'.wd k)by have:=R2.u.vfr k Wu;rw [HGK.u]at this;exact this)
 have HVM:=jA (fun w' (Tt: ∃z:xj w2.heap.size w2,w'=z.w)=>(show ∀j u,([G'.wn k,G'.wd k]:A0)[j]?=some u→w'.cell? ((⟨K.vb k,3,none⟩:Addr).add j)=some u by
  obtain⟨z,rfl⟩:=Tt;intro j u hu;have h1:=xe z.2 eJ VB2.u
  match j with
  |0=>exact(jM _ _ 3 _ _ _ h1).trans hu
  |1=>exact(jM _ _ 4 _ _ _ h1).trans hu
  |_+2=>cases hu))
 have QT:=jA (jlS w2.drew (NW.u.below (jN _ _).drew) (F2.u.below (jN _ _).drew) (uW.u k Wu).ok uG.u.ok (uW.u k Wu).lens uG.u.lens);refine Seg.xf (fun w'=> ∃z:xj w2.heap.size w2,w'=z.w) [([0,1,2,3,4,5],6)] [] 7 (by kernel_rfl) (by kernel_rfl) (fun c a d v w h=>HP.u c a d v w h) (⟨⟨_,(jN _ _).drew⟩,rfl⟩) ?_;simp only [jK,Seg.opAt,Seg.xu];iterate 4 first|go_big_quiet_step (fail)|quiet_step (fail)
 refine xx rfl 69 _ rfl ⟨K.vb k,3,none⟩ [G'.wn k,G'.wd k] _ rfl HVM.u underlying69 rfl HS.u ?_;refine yY rfl 69 _ rfl BY #[fa,fb] _ _ _ rfl CN Ox underlying69 rfl HS.u ?_;refine jR ?_;intro Kc hK;simp only [Region.wanted,jY];go_wp2_with (go_at_call 44;refine QT.u.mono ?_;rintro e w3 ⟨a3,b3,rfl,f3,bw,li⟩);have F3:=jA f3;have B3:=jA (yq bw);have LI:=jA (show jaa (fun z=>w2.heap.size≤z) a3 b3 from li);have MR:=jA (xe B3.u eJ VB2.u);refine hK _ _ ⟨⟨w3,B3.u⟩,rfl⟩ ?_;clear hK Kc f3 bw li QT HVM;repeat (any_goals (first|go_big_quiet_step (fail)|quiet_step (fail)))
 refine jR ?_;have TH:w3.there (K.vb k) 3 2:=jdt MR.u (by show 3+2≤5;omega);go_upto_region 73 with(refine qm rfl 69 _ _ rfl (K.vb k) 3 #[a3,b3] rfl rfl TH HS.u (zd _ _ F3.u.one.1 F3.u.one.2) ?_);have WH:G'.rr k=(S.V k).nx:=by
  have:=(R2.u.vrk k Wu).2.2;rw [HGK.u]at this;exact this (by rw [HWI.u];exact fun h=>by cases h)
 have AQ:(w3.setCells (K.vb k) 3 [a3,b3]).heap[K.vb k]?=some (.cells #[.slice (K.ob k) (K.L k).length (K.cb k),.int .i64 ww,.int .i64 ((S.V k).nx:Int),a3,b3] 77 (0,0)):=by
  have h3:=MR.u;unfold jah at h3;rw [HGK.u,HWW.u,WH]at h3;exact jd _ (K.vb k) 4 _ _ b3 (jd w3 (K.vb k) 3 _ _ a3 h3)
 refine xr (fun w4=>w4.heap[K.vb k]?=some (.cells #[.slice (K.ob k) (K.L k).length (K.cb k),.int .i64 ww,.int .i64 ((S.V k).nx:Int),a3,b3] 77 (0,0))∧yG (K.vb k) w3 w4) ⟨AQ,zf (K.vb k) [a3,b3] 3 w3⟩ (fun w4 Gu=>?_);have VB4:=jA Gu.1;have O4:=jA Gu.2;have R3:=jA (R2.u.below B3.u);have U3:=jA (U2.u.below B3.u);clear Gu AQ TH WH;have mQ:K.w0.heap.size≤K.vb k:=R3.u.bases.2.2.2 k Wu;have b04:O0 K.w0.heap.size K.w0 w4:=xl R3.u.bel O4.u mQ;have Pu:(S.V k).rk=Jb (K.L k):=by have:=(R3.u.vrk k Wu).1;rw [HGK.u]at this;exact this
 have BT:(S.V k).nx≤JK (K.L k):=by have:=(R3.u.vrk k Wu).2.1;rw [HGK.u]at this;exact this
 have CV4:w4.heap[K.CV]?=some (.cells #[.slice (some ⟨K.CA,0,none⟩) K.c.op.length K.c.op.length] 39 (0,0)):=(O4.u.block _ (zD R3.u.cv MR.u (by decide))).trans R3.u.cv;have CA4:w4.heap[K.CA]?=some (.cells (zp K.c.op.length S.cont).toArray 4 (0,0)):=(O4.u.block _ (zD R3.u.ca MR.u (by decide))).trans R3.u.ca;have d2:w4.cell? ⟨K.CV,0,none⟩=some (.slice (some ⟨K.CA,0,none⟩) K.c.op.length K.c.op.length):=jM w4 K.CV 0 _ _ _ CV4
 have QF:=jA (jcF S.cont K.c.op.length (K.L k) (K.vb k) K.CA K.c.op.length (K.ob k) (K.cb k) (S.V k).nx ww a3 b3 w4 (R3.u.bal k Wu).2 hn ((R3.u.bal k Wu).1.below b04) (fun a ha=>by
  obtain⟨a',h1,h2,_⟩:=(R3.u.bal k Wu).1.cells 0 (by rw [(R3.u.bal k Wu).2.len];omega);rw [ha]at h1;injection h1 with h1;subst h1;omega) (zD R3.u.ca MR.u (by decide)) CA4 VB4.u BT)
 rw [←Pu]at QF;have eS:=jA Pu;have Iw:=jA BT;clear CV4 CA4 b04 Pu BT mQ;go_wp2_with (go_at_call 35;refine QF.u.mono ?_;rintro e w5 ⟨rfl,o5,r5,h5,p5⟩;have O5:=jA (O4.u.trans o5);have V5:=jA h5;have P5:=jA p5;clear o5 h5 p5);go_roundw;case rel=>
  have hT:Jh K G' (K.vb k):=.inl ⟨k,Wu,rfl⟩;have hw23:w2.heap.size≤w3.heap.size:=B3.u.size;have tC: ∀y,y<w2.heap.size→Off (((S.V k).by f).go S.cont).wt a3 b3 y:=fun y hy=>YD LI.u hy
  have nT:=R3.u.setVote Wu (((S.V k).by f).go S.cont) a3 b3 r5 O5.u V5.u F3.u (fun y hy=>tC y (R2.u.turns_lt hy)) (by rw [HGK.u];rfl) (by
   have h1:=jeU S.cont ((S.V k).rk.drop (S.V k).nx) (S.V k).nx;rw [kQ,eS.u,Vk]at h1;have h2:=Iw.u;have h3:(((S.V k).by f).go S.cont).nx=(VH S.cont ((Jb (K.L k)).drop (S.V k).nx) (S.V k).nx).1:=by rw [←eS.u];rfl
   rw [h3];omega) P5.u
  rw [←nD.u]at nT;have hg:=xk O5.u;have kp: ∀{b:Nat} {cs:t0} {T:o0},w3.heap[b]?=some (.cells cs T (0,0))→T≠77→w5.heap[b]?=some (.cells cs T (0,0)):=fun hb hT=>(O5.u.block _ (zD hb MR.u hT)).trans hb
  refine⟨k+1,_,by go_num,by omega,?_,nT,U3.u.turn hg (fun x hx=>by
   injection hx with hx;subst hx;exact⟨_,_,_,MR.u,by decide,by decide,by decide,.inl hT⟩) rfl,fun y hy=>?_,V2.u.below B3.u |>.only hg (fun x hx=>by
   injection hx with hx;subst hx;exact⟨_,_,_,MR.u,by decide⟩),kp (xe B3.u (xZ RB2.u) RB2.u) (by decide),kp (xe B3.u (xZ W2.u) W2.u) (by decide),kp (xe B3.u Ox CN.u) (by decide),(F2.u.below B3.u).turn hg (fun y hy=>by injection hy with hy;subst hy;exact HFT.u _ hT)⟩
  ·have:=BG.u;unfold Yk at this ⊢;rw [this]
  ·have h1:=IF.u y hy;rw [nD.u];refine⟨h1.q,h1.k,fun j hj=>?_⟩;by_cases e:j=k
   ·subst e;simp only [zF,xp];exact tC y (U2.u.rows.lt y hy).2
   ·simp only [zF,xw _ _ _ _ e];exact h1.v j hj
 case measure=>simp [intOf];omega
end Go.Proofs.YtnohcdpnnhmpfaaGreatDoor.TR
