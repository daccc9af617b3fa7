/- Chapter 13, the reference's Transfer: all go on, nothing is kept. -/
import Derived.Test.YtnohcdpnnhmpfaaGreatDoorE46
set_option linter.all false
set_option maxRecDepth 100000
set_option maxHeartbeats 8000000
namespace Go.Proofs.YtnohcdpnnhmpfaaGreatDoor.TR
open Go.RowKit Tryz ML FRP AU CT FM
variable{B:Nat}{w:m0}
theorem jnf(q:Fr)(n NB CV CA KA:Nat)(qa qb:n0)(xa xb:Nat→n0)(w:m0)(Q:Exit→Act→m0→Prop){u0 u1 u2 u3 u4 u5 u6 u7 u8 u9 P0 C7 G9 Ph E7 L1 i4 A4 Rb i7 I4 L4 ff N1 N4 U1 l7 t7 A7 W7 R4 G2 P4 T4 g7 L2 N2 i3 A3 D3 G3 I3 L3 P3 A1 R0 U0 a5 i5 l5 A5 C5 E5 I5 L5 a6 i6 l6 m6 n6 t6 A6 C6 E6 I6 L6 M6 a7 I7 I9 aa da ia L7 U7 a8 g8 i8 l8 m8 p8 r8 s8 t8 A8 E8 F8 ma pa ra G8 I8 L8 O8 U8 W8 a9 i9 m9 o9 s9 A9 C9 D9 E9 ta ua Aa Ba Mh Nh Oh Sb Tb Ub Wb dc ec ic mc pc sc tc uc Ac Bc Cc Dc Ec Fc Gc Hc Ic Lc Mc Nc Oc Pc Rc Sc Tc Uc Wc pd sd Ca Da Ea Eh Fh Gh td ud Ad Bd Cd Dd Ed Fd Gd Hd Ld Fa Ha Ia La Ma Na Oa Pa Ra Sa Ta gf mf nf pf rf tf uf Af Bf Cf Df Ef Gf Hf If Mf Nf Of Pf Rf Sf Tf Uf bg eg fg gg ig lg mg ng pg sg tg ug wg Ag Bg Cg Dg Eg Fg Gg Hg Ig Lg Mg Ng Og Pg Rg Sg Tg Ug Wg ah ch dh eh fh gh lh mh nh oh ph rh sh th uh Ua Wa bb ib rb ub Ab Bb Cb Eb Fb Gb Lb Mb Nb Ah Bh Ch Md Nd Od Pd Sd Td Ud Wd ae be de ee fe ie me pe Hh Ih Lh re te ue we Ae Be Ce De Ee Fe Ge He Ie Le Me Oe Pe Re Se Te Ue We bf cf ef:n0}
 (hn:n≤12) (IM:w.heap[NB]?=some (.cells #[.int .i64 (n:Int)] 3 (0,0))) (WD:w.heap[CV]?=some (.cells #[.slice (some ⟨CA,0,none⟩) n n] 39 (0,0)))
 (hCA:w.heap[CA]?=some (.cells (zp n (fun _=>false)).toArray 4 (0,0))) (nR:w.heap[KA]?=some (.cells (yy n xa xb).toArray 69 (0,0))) (hx:(yy n xa xb).toArray.all zE=true) (hq:NrV w q qa qb)
 (hP: ∀(c:List PanicEntry) (a:Act) (d:L0) (v:n0) (w:m0),Q (.panic c) (a.put d v) w→Q (.panic c) a w)
 (hQ: ∀(fi Ir Lr Mr Nr Pr Rr Sr Tr Ur Wr bs fs:n0) (w':m0) (ka kb:Nat→n0),w'.heap[CA]?=some (.cells (zp n (fun i=>decide (i<n))).toArray 4 (0,0))∧w'.heap[KA]?=some (.cells (yy n ka kb).toArray 69 (0,0))∧(∀i,i<n→NrV w' zero (ka i) (kb i))∧NrV w' q qa qb∧Two CA KA w w'→Q .normal ⟨#[u0,u1,u2,u3,u4,u5,u6,u7,u8,u9,P0,.pointer (some ⟨NB,0,none⟩),C7,G9,.pointer (some ⟨CV,0,none⟩),Ph,.slice (some ⟨KA,0,none⟩) n n,fi,E7,L1,i4,A4,Rb,i7,I4,L4,ff,N1,N4,U1,l7,t7,A7,W7,R4,G2,P4,T4,g7,L2,N2,i3,A3,D3,G3,I3,L3,P3,A1,R0,U0,a5,i5,l5,A5,C5,E5,I5,L5,a6,i6,l6,m6,n6,t6,A6,C6,E6,I6,L6,M6,a7,I7,I9,aa,da,ia,L7,U7,Ir,Lr,Mr,Nr,Pr,Rr,Sr,Tr,Ur,Wr,bs,fs,ma,pa,ra,G8,I8,L8,O8,U8,W8,a9,i9,m9,o9,s9,A9,C9,D9,E9,ta,ua,Aa,Ba,Mh,Nh,Oh,Sb,Tb,Ub,Wb,dc,ec,ic,mc,pc,sc,tc,uc,Ac,Bc,Cc,Dc,Ec,Fc,Gc,Hc,Ic,Lc,Mc,Nc,Oc,Pc,Rc,Sc,Tc,Uc,Wc,pd,sd,Ca,Da,Ea,Eh,Fh,Gh,td,ud,Ad,Bd,Cd,Dd,Ed,Fd,Gd,Hd,Ld,Fa,Ha,Ia,La,Ma,Na,Oa,Pa,Ra,Sa,Ta,gf,mf,nf,pf,rf,tf,uf,Af,Bf,Cf,Df,Ef,Gf,Hf,If,Mf,Nf,Of,Pf,Rf,Sf,Tf,Uf,bg,eg,fg,gg,ig,lg,mg,ng,pg,sg,tg,ug,wg,Ag,Bg,Cg,Dg,Eg,Fg,Gg,Hg,Ig,Lg,Mg,Ng,Og,Pg,Rg,Sg,Tg,Ug,Wg,ah,ch,dh,eh,fh,gh,lh,mh,nh,oh,ph,rh,sh,th,uh,Ua,Wa,bb,ib,rb,ub,Ab,Bb,Cb,Eb,Fb,Gb,Lb,Mb,Nb,Ah,Bh,Ch,Md,Nd,Od,Pd,Sd,Td,Ud,Wd,ae,be,de,ee,fe,ie,me,pe,Hh,Ih,Lh,re,te,ue,we,Ae,Be,Ce,De,Ee,Fe,Ge,He,Ie,Le,Me,Oe,Pe,Re,Se,Te,Ue,We,bf,cf,ef],[]⟩ w'):
 Code.wp prog (jfZ 0) Q ⟨#[u0,u1,u2,u3,u4,u5,u6,u7,u8,u9,P0,.pointer (some ⟨NB,0,none⟩),C7,G9,.pointer (some ⟨CV,0,none⟩),Ph,.slice (some ⟨KA,0,none⟩) n n,.int .i64 (0:Int),E7,L1,i4,A4,Rb,i7,I4,L4,ff,N1,N4,U1,l7,t7,A7,W7,R4,G2,P4,T4,g7,L2,N2,i3,A3,D3,G3,I3,L3,P3,A1,R0,U0,a5,i5,l5,A5,C5,E5,I5,L5,a6,i6,l6,m6,n6,t6,A6,C6,E6,I6,L6,M6,a7,I7,I9,aa,da,ia,L7,U7,a8,g8,i8,l8,m8,p8,r8,s8,t8,A8,E8,F8,ma,pa,ra,G8,I8,L8,O8,U8,W8,a9,i9,m9,o9,s9,A9,C9,D9,E9,ta,ua,Aa,Ba,Mh,Nh,Oh,Sb,Tb,Ub,Wb,dc,ec,ic,mc,pc,sc,tc,uc,Ac,Bc,Cc,Dc,Ec,Fc,Gc,Hc,Ic,Lc,Mc,Nc,Oc,Pc,Rc,Sc,Tc,Uc,Wc,pd,sd,Ca,Da,Ea,Eh,Fh,Gh,td,ud,Ad,Bd,Cd,Dd,Ed,Fd,Gd,Hd,Ld,Fa,Ha,Ia,La,Ma,Na,Oa,Pa,Ra,Sa,Ta,gf,mf,nf,pf,rf,tf,uf,Af,Bf,Cf,Df,Ef,Gf,Hf,If,Mf,Nf,Of,Pf,Rf,Sf,Tf,Uf,bg,eg,fg,gg,ig,lg,mg,ng,pg,sg,tg,ug,wg,Ag,Bg,Cg,Dg,Eg,Fg,Gg,Hg,Ig,Lg,Mg,Ng,Og,Pg,Rg,Sg,Tg,Ug,Wg,ah,ch,dh,eh,fh,gh,lh,mh,nh,oh,ph,rh,sh,th,uh,Ua,Wa,bb,ib,rb,ub,Ab,Bb,Cb,Eb,Fb,Gb,Lb,Mb,Nb,Ah,Bh,Ch,Md,Nd,Od,Pd,Sd,Td,Ud,Wd,ae,be,de,ee,fe,ie,me,pe,Hh,Ih,Lh,re,te,ue,we,Ae,Be,Ce,De,Ee,Fe,Ge,He,Ie,Le,Me,Oe,Pe,Re,Se,Te,Ue,We,bf,cf,ef],[]⟩ w:=by
 clear hP
 conv=>arg 2;whnf
 have HQ:=jA hQ;have HS:=jA zu;have H0:=jA (show w.heap[CA]?=some (.cells (zp n (fun i=>decide (i<0))).toArray 4 (0,0))∧w.heap[KA]?=some (.cells (yy n xa xb).toArray 69 (0,0))∧(∀i,i<0→NrV w zero (xa i) (xb i))∧NrV w q qa qb∧Two CA KA w w from⟨by rw [hCA];rfl,nR,fun i hi=>absurd hi (qC i),hq,Two.refl _ _ _⟩);have HXN:=jA hx;have iS:=jA IM;have HCV:=jA WD;have n1:=zD IM hCA (by decide);have n2:=zD IM nR (by decide);have n3:=zD WD hCA (by decide);have n4:=zD WD nR (by decide);have n5:=zD hCA nR (by decide);clear hQ IM WD hCA nR hq hx;go_wp2_with fail;go_loopw [17] (fun v wr=> ∃(k:Nat) (ka kb:Nat→n0),v=.int .i64 k∧k≤n∧(yy n ka kb).toArray.all zE=true∧wr.heap[CA]?=some (.cells (zp n (fun i=>decide (i<k))).toArray 4 (0,0))∧wr.heap[KA]?=some (.cells (yy n ka kb).toArray 69 (0,0))∧(∀i,i<k→NrV wr zero (ka i) (kb i))∧NrV wr q qa qb∧Two CA KA w wr) (fun v _=>n-(intOf v).toNat);case atStart=>exact⟨0,xa,xb,rfl,ja _,HXN.u,H0.u⟩
 case round=>
 clear H0 HXN;obtain⟨k,ka,kb,rfl,hk,AJ,BC,gM,hz,hq,h2⟩:=hrel;have kNB:wr.heap[NB]?=some (.cells #[.int .i64 (n:Int)] 3 (0,0)):=(h2.block NB (xZ iS.u) n1 n2).trans iS.u;have kCV:wr.heap[CV]?=some (.cells #[.slice (some ⟨CA,0,none⟩) n n] 39 (0,0)):=(h2.block CV (xZ HCV.u) n3 n4).trans HCV.u;have CR:=jA BC;have KR:=jA gM;have ZR:=jA hz;have QR:=jA hq;have WR:=jA h2;have NI:=jA AJ;have d1:wr.cell? ⟨NB,0,none⟩=some (.int .i64 (n:Int)):=jM wr NB 0 _ _ _ kNB;have d2:wr.cell? ⟨CV,0,none⟩=some (.slice (some ⟨CA,0,none⟩) n n):=jM wr CV 0 _ _ _ kCV;clear BC gM hz hq h2 kNB kCV AJ;by_cases ns:k<n;case neg=>
  obtain rfl:k=n:=by omega
  have dk:decide ((k:Int)<(k:Int))=false:=jS (by omega);have Ms:decide (k<k)=false:=jS (by omega);go_wp2_with fail;exact HQ.u _ _ _ _ _ _ _ _ _ _ _ _ _ _ ka kb ⟨CR.u,KR.u,ZR.u,QR.u,WR.u⟩
 obtain⟨dk,Ms,Py⟩:=Go.yD ns
 have m1:=Vz CR.u ns;have z1:wr.frozen? ⟨CA,k,none⟩=false:=jc wr CA k _ _ CR.u;go_upto_region 16 with(fail)
 refine xr (fun w2=>w2.heap[CA]?=some (.cells (zp n (fun i=>decide (i<k+1))).toArray 4 (0,0))∧yG CA wr w2) ⟨by
  rw [VC true CR.u ns];congr 2
  rw [XY (fun i hi=>show upd (fun i=>decide (i<k)) k true i=decide (i<k+1)by
   by_cases e:i=k;·subst e;rw [xp];simp
   ·rw [xw _ _ _ _ e];congr 1;rw [eq_iff_iff];omega)],yC k _⟩ (fun w2 lu=>?_)
 have iR:(zp n (fun i=>decide (i<k))).toArray.all zE=true:=VD _ _;have CR2:=jA lu.1;have KR2:=jA ((lu.2.block KA n5.symm).trans KR.u);have ZR2:=jA (fun i hi=>(ZR.u i hi).spare lu.2 CR.u iR);have QR2:=jA (QR.u.spare lu.2 CR.u iR);have WR2:=jA (WR.u.grown (xk lu.2) (fun y hy=>.inl (by injection hy with hy;exact hy.symm)));clear lu iR CR KR ZR QR WR m1 z1 d1 d2;have QW:=jA (YA 0 w2 (by omega));have TH:=jA (fun(w':m0) (h:w'.heap[KA]?=some (.cells (yy n ka kb).toArray 69 (0,0)))=>jbB h ns);go_wp2_with (first
  |(go_at_call 33;refine QW.u.mono ?_;rintro e w3 ⟨a1,b1,rfl,f1,b3,li⟩;have F1:=jA f1;have B3:=jA b3;have hKl:=xZ KR2.u;have K3:=jA (xe b3 hKl KR2.u);clear f1 b3 li)
  |(refine qm rfl 69 _ _ rfl KA (k*2) #[a1,b1] rfl rfl (TH.u _ K3.u) HS.u (zd _ _ F1.u.one.1 F1.u.one.2) ?_))
 go_roundw;case rel=>
  have ho:yG KA w3 (w3.setCells KA (k*2) [a1,b1]):=zf KA [a1,b1] (k*2) w3;have CR3:=(ho.block CA n5).trans (xe B3.u (xZ CR2.u) CR2.u);refine⟨k+1,upd ka k a1,upd kb k b1,by go_num,by omega,?_,CR3,YZ a1 b1 K3.u ns,fun i hi=>?_,(QR2.u.below B3.u).spare ho K3.u NI.u,(WR2.u.grown (yt B3.u none) (fun y hy=>by cases hy)).grown (xk ho) (fun y hy=>.inr (.inl (by injection hy with hy;exact hy.symm)))⟩
  ·refine jaG fun u hu=>?_;have AJ: ∀u∈yy n ka kb,zE u=true:=fun u hu=>by
    have:=NI.u;rw [Array.all_eq_true_iff_forall_mem]at this;exact this u (by simpa using hu)
   rw [←jeo a1 b1 ns]at hu;rcases xK hu with hu|hu
   ·rcases xK hu with hu|hu;·exact AJ u hu
    ·rw [hu];exact F1.u.slices.1
   ·rw [hu];exact F1.u.slices.2
  ·by_cases e:i=k;·subst e;rw [xp,xp];exact F1.u.spare ho K3.u NI.u
   ·rw [xw _ _ _ _ e,xw _ _ _ _ e];exact((ZR2.u i (by omega)).below B3.u).spare ho K3.u NI.u
 case measure=>simp [intOf];omega
theorem jeY{o:Nat}{cs:t0}{T:o0}(h:w.heap[B]?=some (.cells cs T (0,0))){j:Nat}{u:n0}(hj:cs[o+j]?=some u):w.cell? ((⟨B,o,none⟩:Addr).add j)=some u:=by
 unfold Addr.add;split;·rename_i h0;subst h0;exact(jM w B o _ _ _ h).trans hj
 ·show w.cell? ⟨B,o+j,none⟩=some u;exact(jM w B (o+j) _ _ _ h).trans hj
theorem jlr {K:RK}{G:RG}{l:E0}{v:n0}(h:VS K G w l v): ∃o c,v=.slice o l.length c∧yW w o (yK l):=by
 obtain⟨g,Du,cap,Es,h1,h2,h3,_,_⟩:=h.ex;refine⟨_,_,h1,⟨fun i hi=>⟨_,rfl,xZ h2,?_⟩⟩⟩;have Cx:i<l.length:=by rw [←yn l];exact hi
 have e:(yK l)[i]=((l[i]:Nat):Int):=by simp [yK]
 rw [e];exact jeY h2 (h3 i Cx)
theorem jmf {K:RK}{q:Fr}{G:RG}{w':m0}{R:List Rd}{vR:n0}{CS:List (A0)}{E:E0}(h:JG K q G w R vR CS)(hE:w.ownsRow K.w0.heap.size 3 1 G.ev E.length (xq (yK E)))(ho:yG K.RB w w')
 {cs:t0} {f:Nat×Nat} (EG:w.heap[K.RB]?=some (.cells cs 31 f)):
 ∃oR cR oE cE,vR=.slice oR R.length cR∧G.ev=.slice oE E.length cE∧jpd w' oR R∧yW w' oE (yK E):=by
 have hg:=xk ho;have rQ:=zw h.rows hg (fun x hx=>by injection hx with hx;subst hx;exact⟨cs,f,EG⟩) (by decide);have UG:=zw hE hg (fun x hx=>by injection hx with hx;subst hx;exact⟨cs,f,EG⟩) (by decide);have bR: ∀i (h1:i<R.length) (h2:i<CS.length),RdR K G w' R[i] CS[i]:=fun i h1 h2=>(h.each i h1 h2).turn hg (fun x hx=>by injection hx with hx;subst hx;exact⟨cs,_,f,EG,by decide,.inr (by decide)⟩) (fun y hy=>.inl hy);obtain⟨oE,cE,he,_,hE2⟩:=zT UG;rw [yn]at he;rcases rQ.2 with⟨hv,h0⟩|⟨g,cap,Es,hv,hb,Hu,px,nM,hc,ht⟩
 ·have:R= []:=kt.1 h0;subst this;exact⟨none,0,oE,cE,hv,he,⟨fun i hi=>by simp at hi⟩,hE2⟩
 ·refine⟨some ⟨g,0,none⟩,cap,oE,cE,hv,he,⟨fun i hi=>?_⟩,hE2⟩;have Cx:i<CS.length:=by rw [h.len];exact hi
  have h5: ∀c∈CS,c.length=5:=fun c hc=>by
   obtain⟨k,hk,rfl⟩:=vn hc;obtain⟨tv,wv,e,_⟩:=(bR k (by rw [←h.len];exact hk) hk).ex;rw [e];rfl
  obtain⟨tv,wv,e,q1,q2⟩:=(bR i hi Cx).ex;obtain⟨ot,ct,e1,_,f1⟩:=jgQ q1;obtain⟨ow,cw,e2,f2⟩:=jlr q2;rw [kS]at e1;refine⟨_,ot,ct,ow,cw,rfl,xZ Hu,fun j v hj=>?_,f1,f2⟩;rw [Go.Deep.add_add];refine rQ.cells (g:=g) (by rw [hv];rfl) (i*5+j) v ?_;refine jcG CS 5 h5 i Cx j v ?_;rw [e,e1,e2];exact hj
theorem jmh {n:Nat}{lot:Int→List UInt8}{O:C0}(h:Ord n lot O):yK (O.map Int.toNat)=O:=by
 unfold yK;rw [List.map_map];refine(qz fun x hx=>?_).trans (List.map_id O);have:=h.mem.1 hx;show((x.toNat:Nat):Int)=x;omega
theorem jjZ {c:yH}{oa:s0}{cap RB OB NB X OUT CV WV CA WA KA:Nat}{oO:s0}{cO:Nat}{O:E0}{q:Fr}{qa qb:n0}{ka kb:Nat→n0}{Bs:List (n0×C0)}{w0:m0}
 (bel:O0 w0.heap.size w0 w)
 (ctb:w.heap[B]?=some (.cells #[.string ⟨c.nm.toArray⟩,.slice oa c.op.length cap,.int .i64 c.rl,.int .i64 c.se,.int .i64 c.mo] 24 (0,0)))
 (res:w.heap[RB]?=some (.cells #[.string ⟨#[]⟩,.string ⟨#[]⟩,.slice none 0 0,.slice none 0 0] 31 (0,0)))
 (ordc:w.heap[OB]?=some (.cells #[.slice oO c.op.length cO] 29 (0,0)))
 (nc:w.heap[NB]?=some (.cells #[.int .i64 (c.op.length:Int)] 3 (0,0)))
 (qc:w.heap[X]?=some (.cells #[qa,qb] 69 (0,0)))
 (cv:w.heap[CV]?=some (.cells #[.slice (some ⟨CA,0,none⟩) c.op.length c.op.length] 39 (0,0)))
 (wv:w.heap[WV]?=some (.cells #[.slice (some ⟨WA,0,none⟩) c.op.length c.op.length] 39 (0,0)))
 (ca:w.heap[CA]?=some (.cells (zp c.op.length (c0 c.op.length)).toArray 4 (0,0)))
 (wa:w.heap[WA]?=some (.cells (zp c.op.length (fun _=>false)).toArray 4 (0,0))) (cw:CA≠WA)
 (kar:w.heap[KA]?=some (.cells (yy c.op.length ka kb).toArray 69 (0,0))) (kq:KA≠X)
 (quo:NrV w q qa qb) (kfr: ∀i,i<c.op.length→NrV w zero (ka i) (kb i)) (ord:yW w0 oO (yK O)) (b1:w0.heap.size≤CA) (b2:w0.heap.size≤WA) (b3:w0.heap.size≤KA):
 yX ⟨c,oa,cap,0,B,RB,OB,NB,X,OUT,CV,WV,CA,WA,KA,oO,cO,O,fun _=>0,fun _=>none,fun _=>0,fun _=> [],qa,qb,w0⟩ q (S0 c.op.length (yT Bs) 0) ⟨ka,kb,fun _=>zx,fun _=>zx,fun _=>0,fun _=>false,zx⟩ w:=
 have tn: ∀{y},Jh ⟨c,oa,cap,0,B,RB,OB,NB,X,OUT,CV,WV,CA,WA,KA,oO,cO,O,fun _=>0,fun _=>none,fun _=>0,fun _=> [],qa,qb,w0⟩ ⟨ka,kb,fun _=>zx,fun _=>zx,fun _=>0,fun _=>false,zx⟩ y→False:=by
  rintro y (⟨k,hk,_⟩|h);·exact absurd hk (qC k)
  ·cases h
 {
  bel:=bel,ctb:=ctb,res:=res,ordc:=ordc,nc:=nc,qc:=qc,cv:=cv,wv:=wv,ca:=ca,wa:=wa,cw:=cw,kar:=kar,kq:=kq
  vs:=fun k hk=>absurd hk (qC k)
  vinj:=fun k j hk=>absurd hk (qC k)
  quo:=quo,kfr:=kfr
  vfr:=fun k hk=>absurd hk (qC k)
  vrk:=fun k hk=>absurd hk (qC k)
  bal:=fun k hk=>absurd hk (qC k)
  ord:=ord
  els:=kg _ _ _ _
  bases:=⟨b1,b2,b3,fun k hk=>absurd hk (qC k)⟩
  oq:=fun y hy=>(tn hy).elim
  ok:=fun y hy=>(tn hy).elim
  ov:=fun y hy=>(tn hy).elim
  en:=fun e=>by cases e}
end Go.Proofs.YtnohcdpnnhmpfaaGreatDoor.TR
namespace Go.Proofs.YtnohcdpnnhmpfaaGreatDoor.TR
open Go.RowKit Tryz ML FRP AU CT FM Go.Seg
noncomputable def tReg(n:Nat):Code:=((Tryz.f10.body.bind (Qn n)).getD .skip)
theorem jjY(n NB M:Nat)(w0 w:m0)(Q:Exit→Act→m0→Prop){u0 u1 u2 u3 u4 u5 u6 u7 u8 u9 P0 C7 G9 Th Ph Dh c7 E7 L1 i4 A4 Rb i7 I4 L4 ff N1 N4 U1 l7 t7 A7 W7 R4 G2 P4 T4 g7 L2 N2 i3 A3 D3 G3 I3 L3 P3 A1 R0 U0 a5 i5 l5 A5 C5 E5 I5 L5 a6 i6 l6 m6 n6 t6 A6 C6 E6 I6 L6 M6 a7 I7 I9 aa da ia L7 U7 a8 g8 i8 l8 m8 p8 r8 s8 t8 A8 E8 F8 ma pa ra G8 I8 L8 O8 U8 W8 a9 i9 m9 o9 s9 A9 C9 D9 E9 ta ua Aa Ba Mh Nh Oh Sb Tb Ub Wb dc ec ic mc pc sc tc uc Ac Bc Cc Dc Ec Fc Gc Hc Ic Lc Mc Nc Oc Pc Rc Sc Tc Uc Wc pd sd Ca Da Ea Eh Fh Gh td ud Ad Bd Cd Dd Ed Fd Gd Hd Ld Fa Ha Ia La Ma Na Oa Pa Ra Sa Ta gf mf nf pf rf tf uf Af Bf Cf Df Ef Gf Hf If Mf Nf Of Pf Rf Sf Tf Uf bg eg fg gg ig lg mg ng pg sg tg ug wg Ag Bg Cg Dg Eg Fg Gg Hg Ig Lg Mg Ng Og Pg Rg Sg Tg Ug Wg ah ch dh eh fh gh lh mh nh oh ph rh sh th uh Ua Wa bb ib rb ub Ab Bb Cb Eb Fb Gb Lb Mb Nb Ah Bh Ch Md Nd Od Pd Sd Td Ud Wd ae be de ee fe ie me pe Hh Ih Lh re te ue we Ae Be Ce De Ee Fe Ge He Ie Le Me Oe Pe Re Se Te Ue We bf cf ef:n0}(hn:n≤12)(hM:M=w0.heap.size)(hb:O0 M w0 w)(IM:w0.heap[NB]?=some (.cells #[.int .i64 (n:Int)] 3 (0,0)))
 (hP: ∀(c:List PanicEntry) (a:Act) (d:L0) (v:n0) (w:m0),Q (.panic c) (a.put d v) w→Q (.panic c) a w)
 (hQ: ∀(tl ul:n0) (CV WV CA WA:Nat) (w':m0),CV≠WV∧CA≠WA∧M≤CV∧M≤WV∧w'.heap[CV]?=some (.cells #[.slice (some ⟨CA,0,none⟩) n n] 39 (0,0))∧w'.heap[WV]?=some (.cells #[.slice (some ⟨WA,0,none⟩) n n] 39 (0,0))∧w'.ownsRow M 4 1 (.slice (some ⟨CA,0,none⟩) n n) n (madeCells (Value.bool false).cells (n*1)).toList∧w'.ownsRow M 4 1 (.slice (some ⟨WA,0,none⟩) n n) n (madeCells (Value.bool false).cells (n*1)).toList∧O0 M w0 w'→Q .normal ⟨#[u0,u1,u2,u3,u4,u5,u6,u7,u8,u9,P0,.pointer (some ⟨NB,0,none⟩),C7,G9,.pointer (some ⟨CV,0,none⟩),.pointer (some ⟨WV,0,none⟩),Dh,c7,E7,L1,i4,A4,Rb,i7,I4,L4,ff,N1,N4,U1,l7,t7,A7,W7,R4,G2,P4,T4,g7,L2,N2,i3,A3,D3,G3,I3,L3,P3,A1,R0,U0,a5,i5,l5,A5,C5,E5,I5,L5,a6,i6,l6,m6,n6,t6,A6,C6,E6,I6,L6,M6,a7,I7,tl,.slice (some ⟨CA,0,none⟩) n n,ul,.slice (some ⟨WA,0,none⟩) n n,L7,U7,a8,g8,i8,l8,m8,p8,r8,s8,t8,A8,E8,F8,ma,pa,ra,G8,I8,L8,O8,U8,W8,a9,i9,m9,o9,s9,A9,C9,D9,E9,ta,ua,Aa,Ba,Mh,Nh,Oh,Sb,Tb,Ub,Wb,dc,ec,ic,mc,pc,sc,tc,uc,Ac,Bc,Cc,Dc,Ec,Fc,Gc,Hc,Ic,Lc,Mc,Nc,Oc,Pc,Rc,Sc,Tc,Uc,Wc,pd,sd,Ca,Da,Ea,Eh,Fh,Gh,td,ud,Ad,Bd,Cd,Dd,Ed,Fd,Gd,Hd,Ld,Fa,Ha,Ia,La,Ma,Na,Oa,Pa,Ra,Sa,Ta,gf,mf,nf,pf,rf,tf,uf,Af,Bf,Cf,Df,Ef,Gf,Hf,If,Mf,Nf,Of,Pf,Rf,Sf,Tf,Uf,bg,eg,fg,gg,ig,lg,mg,ng,pg,sg,tg,ug,wg,Ag,Bg,Cg,Dg,Eg,Fg,Gg,Hg,Ig,Lg,Mg,Ng,Og,Pg,Rg,Sg,Tg,Ug,Wg,ah,ch,dh,eh,fh,gh,lh,mh,nh,oh,ph,rh,sh,th,uh,Ua,Wa,bb,ib,rb,ub,Ab,Bb,Cb,Eb,Fb,Gb,Lb,Mb,Nb,Ah,Bh,Ch,Md,Nd,Od,Pd,Sd,Td,Ud,Wd,ae,be,de,ee,fe,ie,me,pe,Hh,Ih,Lh,re,te,ue,we,Ae,Be,Ce,De,Ee,Fe,Ge,He,Ie,Le,Me,Oe,Pe,Re,Se,Te,Ue,We,bf,cf,ef],[]⟩ w'):
 Code.wp prog (tReg 10) Q ⟨#[u0,u1,u2,u3,u4,u5,u6,u7,u8,u9,P0,.pointer (some ⟨NB,0,none⟩),C7,G9,Th,Ph,Dh,c7,E7,L1,i4,A4,Rb,i7,I4,L4,ff,N1,N4,U1,l7,t7,A7,W7,R4,G2,P4,T4,g7,L2,N2,i3,A3,D3,G3,I3,L3,P3,A1,R0,U0,a5,i5,l5,A5,C5,E5,I5,L5,a6,i6,l6,m6,n6,t6,A6,C6,E6,I6,L6,M6,a7,I7,I9,aa,da,ia,L7,U7,a8,g8,i8,l8,m8,p8,r8,s8,t8,A8,E8,F8,ma,pa,ra,G8,I8,L8,O8,U8,W8,a9,i9,m9,o9,s9,A9,C9,D9,E9,ta,ua,Aa,Ba,Mh,Nh,Oh,Sb,Tb,Ub,Wb,dc,ec,ic,mc,pc,sc,tc,uc,Ac,Bc,Cc,Dc,Ec,Fc,Gc,Hc,Ic,Lc,Mc,Nc,Oc,Pc,Rc,Sc,Tc,Uc,Wc,pd,sd,Ca,Da,Ea,Eh,Fh,Gh,td,ud,Ad,Bd,Cd,Dd,Ed,Fd,Gd,Hd,Ld,Fa,Ha,Ia,La,Ma,Na,Oa,Pa,Ra,Sa,Ta,gf,mf,nf,pf,rf,tf,uf,Af,Bf,Cf,Df,Ef,Gf,Hf,If,Mf,Nf,Of,Pf,Rf,Sf,Tf,Uf,bg,eg,fg,gg,ig,lg,mg,ng,pg,sg,tg,ug,wg,Ag,Bg,Cg,Dg,Eg,Fg,Gg,Hg,Ig,Lg,Mg,Ng,Og,Pg,Rg,Sg,Tg,Ug,Wg,ah,ch,dh,eh,fh,gh,lh,mh,nh,oh,ph,rh,sh,th,uh,Ua,Wa,bb,ib,rb,ub,Ab,Bb,Cb,Eb,Fb,Gb,Lb,Mb,Nb,Ah,Bh,Ch,Md,Nd,Od,Pd,Sd,Td,Ud,Wd,ae,be,de,ee,fe,ie,me,pe,Hh,Ih,Lh,re,te,ue,we,Ae,Be,Ce,De,Ee,Fe,Ge,He,Ie,Le,Me,Oe,Pe,Re,Se,Te,Ue,We,bf,cf,ef],[]⟩ w:=by
 have HQ:=jA hQ;have iS:=jA IM;have HB:=jA hb;obtain⟨b0,IV,NV,MV,LV⟩:=info_parts YI;have bI:=jA IV;have bA:=jA NV;have bB:=jA MV;have bC:=jA LV;have Ht:M≤w.heap.size:=by have:=hb.size;omega
 have oG:NB<M:=by rw [hM];exact xZ IM
 clear hP hQ hM IM hb IV NV MV LV
 conv=>arg 2;whnf
 dsimp only
 refine Seg.Xd 7 (fun L a w=> ∃(Uh Wh tl Bl ul ip:n0),a=⟨#[u0,u1,u2,u3,u4,u5,u6,u7,u8,u9,P0,.pointer (some ⟨NB,0,none⟩),C7,G9,Uh,Wh,Dh,c7,E7,L1,i4,A4,Rb,i7,I4,L4,ff,N1,N4,U1,l7,t7,A7,W7,R4,G2,P4,T4,g7,L2,N2,i3,A3,D3,G3,I3,L3,P3,A1,R0,U0,a5,i5,l5,A5,C5,E5,I5,L5,a6,i6,l6,m6,n6,t6,A6,C6,E6,I6,L6,M6,a7,I7,tl,Bl,ul,ip,L7,U7,a8,g8,i8,l8,m8,p8,r8,s8,t8,A8,E8,F8,ma,pa,ra,G8,I8,L8,O8,U8,W8,a9,i9,m9,o9,s9,A9,C9,D9,E9,ta,ua,Aa,Ba,Mh,Nh,Oh,Sb,Tb,Ub,Wb,dc,ec,ic,mc,pc,sc,tc,uc,Ac,Bc,Cc,Dc,Ec,Fc,Gc,Hc,Ic,Lc,Mc,Nc,Oc,Pc,Rc,Sc,Tc,Uc,Wc,pd,sd,Ca,Da,Ea,Eh,Fh,Gh,td,ud,Ad,Bd,Cd,Dd,Ed,Fd,Gd,Hd,Ld,Fa,Ha,Ia,La,Ma,Na,Oa,Pa,Ra,Sa,Ta,gf,mf,nf,pf,rf,tf,uf,Af,Bf,Cf,Df,Ef,Gf,Hf,If,Mf,Nf,Of,Pf,Rf,Sf,Tf,Uf,bg,eg,fg,gg,ig,lg,mg,ng,pg,sg,tg,ug,wg,Ag,Bg,Cg,Dg,Eg,Fg,Gg,Hg,Ig,Lg,Mg,Ng,Og,Pg,Rg,Sg,Tg,Ug,Wg,ah,ch,dh,eh,fh,gh,lh,mh,nh,oh,ph,rh,sh,th,uh,Ua,Wa,bb,ib,rb,ub,Ab,Bb,Cb,Eb,Fb,Gb,Lb,Mb,Nb,Ah,Bh,Ch,Md,Nd,Od,Pd,Sd,Td,Ud,Wd,ae,be,de,ee,fe,ie,me,pe,Hh,Ih,Lh,re,te,ue,we,Ae,Be,Ce,De,Ee,Fe,Ge,He,Ie,Le,Me,Oe,Pe,Re,Se,Te,Ue,We,bf,cf,ef],[]⟩∧O0 M w0 w∧M≤w.heap.size∧
  (L.getD 0 false=true→tl=.int .i64 (n:Int))∧(L.getD 2 false=true→ul=.int .i64 (n:Int))∧
  (L.getD 1 false=true→ ∃CA,Bl=.slice (some ⟨CA,0,none⟩) n n∧CA<w.heap.size∧w.ownsRow M 4 1 (.slice (some ⟨CA,0,none⟩) n n) n (madeCells (Value.bool false).cells (n*1)).toList)∧
  (L.getD 3 false=true→ ∃WA,ip=.slice (some ⟨WA,0,none⟩) n n∧WA<w.heap.size∧w.ownsRow M 4 1 (.slice (some ⟨WA,0,none⟩) n n) n (madeCells (Value.bool false).cells (n*1)).toList)∧
  (∀CA WA,L.getD 1 false=true→L.getD 3 false=true→Bl=.slice (some ⟨CA,0,none⟩) n n→ip=.slice (some ⟨WA,0,none⟩) n n→CA≠WA)∧
  (L.getD 4 false=true→ ∃CV,Uh=.pointer (some ⟨CV,0,none⟩)∧M≤CV∧w.heap[CV]?=some (.cells #[if L.getD 6 false=true then Bl else .slice none 0 0] 39 (0,0)))∧
  (L.getD 5 false=true→ ∃WV,Wh=.pointer (some ⟨WV,0,none⟩)∧M≤WV∧w.heap[WV]?=some (.cells #[.slice none 0 0] 39 (0,0)))∧
  (∀CV WV,L.getD 4 false=true→L.getD 5 false=true→Uh=.pointer (some ⟨CV,0,none⟩)→Wh=.pointer (some ⟨WV,0,none⟩)→CV≠WV)∧(L.getD 6 false=true→L.getD 1 false=true∧L.getD 4 false=true)) (by kernel_rfl) (by kernel_rfl) ?_ ?_ ?_
 case refine_1=>
  have hB:=HB.u;exact⟨_,_,_,_,_,_,rfl,hB.drew,Ht,fun h=>absurd h (by decide),fun h=>absurd h (by decide),fun h=>absurd h (by decide),fun h=>absurd h (by decide),fun _ _ h=>absurd h (by decide),fun h=>absurd h (by decide),fun h=>absurd h (by decide),fun _ _ h=>absurd h (by decide),fun h=>absurd h (by decide)⟩
 case refine_2=>
  clear Ht HB;intro i hi L a w hr hI;obtain⟨Uh,Wh,tl,Bl,ul,ip,rfl,hb,Ht,h0,h2,h1,h3,DK,h4,h5,h45,h6⟩:=hI;have sS:=jA h6;obtain⟨AE,o,ho,hall⟩:=mem_ready.1 hr;have hs:=Xk AE;have g: ∀j,j≠i→(L.setIfInBounds i true).getD j false=L.getD j false:=fun j hj=>getD_set_ne false (Ne.symm hj);have tS:=jA h0;have DH:=jA h2;have EH:=jA h1;have tX:=jA h3;have sL:=jA DK;have GP:=jA h4;have sX:=jA h5;have CH:=jA h45;have Ov:=jA hb;clear h0 h2 h1 h3 DK h4 h5 h45 h6 hb;have d:w.cell? ⟨NB,0,none⟩=some (.int .i64 (n:Int)):=(Ov.u.cell (p:=⟨NB,0,none⟩) oG).trans (jM w0 NB 0 _ _ _ iS.u);have Wx:=(zl hr).symm.trans ho;injection Wx with Wx;subst Wx;clear ho hr;rcases(show i=0∨i=1∨i=2∨i=3∨i=4∨i=5∨i=6 by omega)with rfl|rfl|rfl|rfl|rfl|rfl|rfl
  ·clear hall;unfold Seg.JB;intro K hK;have HK:=jA hK;clear hK;try simp only [Seg.yS,Seg.opAt,jK]
   first|go_simp|skip
   go_wp2_with fail;refine HK.u _ _ trivial ?_;simp only [g 1 (by decide),g 2 (by decide),g 3 (by decide),g 4 (by decide),g 5 (by decide),g 6 (by decide)];exact⟨_,_,_,_,_,_,rfl,Ov.u,Ht,fun _=>rfl,DH.u,EH.u,tX.u,sL.u,GP.u,sX.u,CH.u,sS.u⟩
  ·have d0:L.getD 0 false=true:=hall ⟨0,.data⟩ (by simp [Seg.opAt]) rfl;clear hall;obtain rfl:=tS.u d0;obtain⟨w',Uy,own,hg⟩:=vK (P:=prog) (w:=w) M 39 4 b0 (.bool false) 1 underlying39 bI.u bA.u bB.u .i64 .i64 n (by rw [bC.u];omega) (by unfold maxLen;omega) Ht;have Fv:=jA own;clear own;unfold Seg.JB;intro K hK;have HK:=jA hK;clear hK;try simp only [Seg.yS,Seg.opAt,jK]
   first|go_simp|skip
   try rw [Uy]
   go_wp2_with fail;have tw:O0 w.heap.size w w':=(jN _ _).grown hg (jO _) (fun _ h=>by cases h);refine HK.u _ _ trivial ?_;simp only [g 0 (by decide),g 2 (by decide),g 3 (by decide),g 4 (by decide),g 5 (by decide),g 6 (by decide)]
   exact⟨_,_,_,_,_,_,rfl,Ov.u.trans (tw.mono Ht),jU Ht tw.size,(fun _=>rfl),DH.u,(fun _=>⟨w.heap.size,rfl,(Fv.u.lt _ rfl).2,Fv.u⟩),(fun h=>by
    obtain⟨A,e,l,o⟩:=tX.u h;exact⟨A,e,jW l tw.size,yA o tw⟩),(fun CA WA _ h3 eC eW=>by
    obtain⟨A,e,l,_⟩:=tX.u h3;rw [e]at eW;injection eW with eW;injection eW with eW;injection eW with eW;injection eC with eC;injection eC with eC;injection eC with eC;omega),(fun h=>by
    obtain⟨CV,e,m,hc⟩:=GP.u h;have h6: ¬L.getD 6 false=true:=fun h=>by
     have:=(sS.u h).1;rw [jaz AE]at this;cases this
    rw [jQ h6]at hc ⊢;exact⟨CV,e,m,xe tw (xZ hc) hc⟩),(fun h=>by
    obtain⟨WV,e,m,hc⟩:=sX.u h;exact⟨WV,e,m,xe tw (xZ hc) hc⟩),CH.u,(fun h=>⟨hs,(sS.u h).2⟩)⟩
  ·clear hall;unfold Seg.JB;intro K hK;have HK:=jA hK;clear hK;try simp only [Seg.yS,Seg.opAt,jK]
   first|go_simp|skip
   go_wp2_with fail;refine HK.u _ _ trivial ?_;simp only [g 0 (by decide),g 1 (by decide),g 3 (by decide),g 4 (by decide),g 5 (by decide),g 6 (by decide)];exact⟨_,_,_,_,_,_,rfl,Ov.u,Ht,tS.u,fun _=>rfl,EH.u,tX.u,sL.u,GP.u,sX.u,CH.u,sS.u⟩
  ·have d0:L.getD 2 false=true:=hall ⟨2,.data⟩ (by simp [Seg.opAt]) rfl;clear hall;obtain rfl:=DH.u d0;obtain⟨w',Uy,own,hg⟩:=vK (P:=prog) (w:=w) M 39 4 b0 (.bool false) 1 underlying39 bI.u bA.u bB.u .i64 .i64 n (by rw [bC.u];omega) (by unfold maxLen;omega) Ht;have Fv:=jA own;clear own;unfold Seg.JB;intro K hK;have HK:=jA hK;clear hK;try simp only [Seg.yS,Seg.opAt,jK]
   first|go_simp|skip
   try rw [Uy]
   go_wp2_with fail;have tw:O0 w.heap.size w w':=(jN _ _).grown hg (jO _) (fun _ h=>by cases h);refine HK.u _ _ trivial ?_;simp only [g 0 (by decide),g 1 (by decide),g 2 (by decide),g 4 (by decide),g 5 (by decide),g 6 (by decide)]
   exact⟨_,_,_,_,_,_,rfl,Ov.u.trans (tw.mono Ht),jU Ht tw.size,tS.u,(fun _=>rfl),(fun h=>by
    obtain⟨A,e,l,o⟩:=EH.u h;exact⟨A,e,jW l tw.size,yA o tw⟩),(fun _=>⟨w.heap.size,rfl,(Fv.u.lt _ rfl).2,Fv.u⟩),(fun CA WA h1 _ eC eW=>by
    obtain⟨A,e,l,_⟩:=EH.u h1;rw [e]at eC;injection eC with eC;injection eC with eC;injection eC with eC;injection eW with eW;injection eW with eW;injection eW with eW;omega),(fun h=>by
    obtain⟨CV,e,m,hc⟩:=GP.u h;exact⟨CV,e,m,xe tw (xZ hc) hc⟩),(fun h=>by
    obtain⟨WV,e,m,hc⟩:=sX.u h;exact⟨WV,e,m,xe tw (xZ hc) hc⟩),CH.u,sS.u⟩
  ·clear hall;have tw:O0 w.heap.size w (w.alloc (.cells #[.slice none 0 0] 39)):=(jN _ _).alloc (jO _) _;unfold Seg.JB;intro K hK;have HK:=jA hK;clear hK;try simp only [Seg.yS,Seg.opAt,jK]
   first|go_simp|skip
   go_wp2_with fail;refine HK.u _ _ trivial ?_;simp only [g 0 (by decide),g 1 (by decide),g 2 (by decide),g 3 (by decide),g 5 (by decide),g 6 (by decide)]
   exact⟨_,_,_,_,_,_,rfl,Ov.u.trans (tw.mono Ht),jU Ht tw.size,tS.u,DH.u,(fun h=>by
    obtain⟨A,e,l,o⟩:=EH.u h;exact⟨A,e,jW l tw.size,yA o tw⟩),(fun h=>by
    obtain⟨A,e,l,o⟩:=tX.u h;exact⟨A,e,jW l tw.size,yA o tw⟩),sL.u,(fun _=>by
    have h6: ¬L.getD 6 false=true:=fun h=>by
     have:=(sS.u h).2;rw [jaz AE]at this;cases this
    rw [jQ h6];exact⟨w.heap.size,rfl,Ht,xh rfl⟩),(fun h=>by
    obtain⟨WV,e,m,hc⟩:=sX.u h;exact⟨WV,e,m,xe tw (xZ hc) hc⟩),(fun CV WV _ h5 eC eW=>by
    obtain⟨A,e,m,hc⟩:=sX.u h5;have:=xZ hc;rw [e]at eW;injection eW with eW;injection eW with eW;injection eW with eW;injection eC with eC;injection eC with eC;injection eC with eC;omega),(fun h=>⟨(sS.u h).1,hs⟩)⟩
  ·clear hall;have tw:O0 w.heap.size w (w.alloc (.cells #[.slice none 0 0] 39)):=(jN _ _).alloc (jO _) _;unfold Seg.JB;intro K hK;have HK:=jA hK;clear hK;try simp only [Seg.yS,Seg.opAt,jK]
   first|go_simp|skip
   go_wp2_with fail;refine HK.u _ _ trivial ?_;simp only [g 0 (by decide),g 1 (by decide),g 2 (by decide),g 3 (by decide),g 4 (by decide),g 6 (by decide)]
   exact⟨_,_,_,_,_,_,rfl,Ov.u.trans (tw.mono Ht),jU Ht tw.size,tS.u,DH.u,(fun h=>by
    obtain⟨A,e,l,o⟩:=EH.u h;exact⟨A,e,jW l tw.size,yA o tw⟩),(fun h=>by
    obtain⟨A,e,l,o⟩:=tX.u h;exact⟨A,e,jW l tw.size,yA o tw⟩),sL.u,(fun h=>by
    obtain⟨CV,e,m,hc⟩:=GP.u h;exact⟨CV,e,m,xe tw (xZ hc) hc⟩),(fun _=>⟨w.heap.size,rfl,Ht,xh rfl⟩),(fun CV WV h4 _ eC eW=>by
    obtain⟨A,e,m,hc⟩:=GP.u h4;have:=xZ hc;rw [e]at eC;injection eC with eC;injection eC with eC;injection eC with eC;injection eW with eW;injection eW with eW;injection eW with eW;omega),sS.u⟩
  ·have d1:L.getD 1 false=true:=hall ⟨1,.data⟩ (by simp [Seg.opAt]) rfl;have d4:L.getD 4 false=true:=hall ⟨4,.data⟩ (by simp [Seg.opAt]) rfl;clear hall;obtain⟨CA,rfl,lCA,oCA⟩:=EH.u d1;obtain⟨CV,rfl,mCV,WD⟩:=GP.u d4;have h6: ¬L.getD 6 false=true:=fun h=>by rw [jaz AE]at h;cases h
   rw [jQ h6]at WD;have OCA:=jA oCA;have nm:w.cell? ⟨CV,0,none⟩=some (.slice none 0 0):=jM w CV 0 _ _ _ WD;have zm:w.frozen? ⟨CV,0,none⟩=false:=jc w CV 0 _ _ WD;clear oCA h6;unfold Seg.JB;intro K hK;have HK:=jA hK;clear hK;try simp only [Seg.yS,Seg.opAt,jK]
   first|go_simp|skip
   go_wp2_with fail;have ho:yG CV w (w.setCell ⟨CV,0,none⟩ (.slice (some ⟨CA,0,none⟩) n n)):=yC 0 _;have Iu:(w.setCell ⟨CV,0,none⟩ (.slice (some ⟨CA,0,none⟩) n n)).heap.size=w.heap.size:=ho.size;refine HK.u _ _ trivial ?_;simp only [g 0 (by decide),g 1 (by decide),g 2 (by decide),g 3 (by decide),g 4 (by decide),g 5 (by decide)]
   exact⟨_,_,_,_,_,_,rfl,xl Ov.u ho mCV,by rw [Iu];exact Ht,tS.u,DH.u,(fun _=>⟨CA,rfl,by rw [Iu];exact lCA,zw OCA.u (xk ho) (fun x hx=>by injection hx with hx;subst hx;exact⟨_,_,WD⟩) (by decide)⟩),(fun h=>by
    obtain⟨A,e,l,o⟩:=tX.u h;exact⟨A,e,by rw [Iu];exact l,zw o (xk ho) (fun x hx=>by injection hx with hx;subst hx;exact⟨_,_,WD⟩) (by decide)⟩),sL.u,(fun _=>⟨CV,rfl,mCV,by rw [jP hs];exact(jd w CV 0 _ _ _ WD).trans rfl⟩),(fun h=>by
    obtain⟨WV,e,m,hc⟩:=sX.u h;exact⟨WV,e,m,(ho.block WV (fun e2=>CH.u CV WV d4 h rfl e e2.symm)).trans hc⟩),CH.u,fun _=>⟨d1,d4⟩⟩
 case refine_3=>
  clear Ht HB iS oG bI bA bB bC;intro L a w hall hI;obtain⟨Uh,Wh,tl,Bl,ul,ip,rfl,hb,Ht,h0,h2,h1,h3,DK,h4,h5,h45,h6⟩:=hI;obtain⟨CA,rfl,lCA,oCA⟩:=h1 (hall 1 (by omega));obtain⟨WA,rfl,lWA,oWA⟩:=h3 (hall 3 (by omega));obtain⟨CV,rfl,mCV,WD⟩:=h4 (hall 4 (by omega));obtain⟨WV,rfl,mWV,hWV⟩:=h5 (hall 5 (by omega));have BC:=DK CA WA (hall 1 (by omega)) (hall 3 (by omega)) rfl rfl;have DO:=h45 CV WV (hall 4 (by omega)) (hall 5 (by omega)) rfl rfl;rw [jP (hall 6 (by omega))]at WD;have ECV:=jA WD;have EWV:=jA hWV;have OCA:=jA oCA;have OWA:=jA oWA;have Ov:=jA hb;have nm:w.cell? ⟨WV,0,none⟩=some (.slice none 0 0):=jM w WV 0 _ _ _ hWV;have zm:w.frozen? ⟨WV,0,none⟩=false:=jc w WV 0 _ _ hWV;clear h0 h2 h1 h3 DK h4 h5 h45 h6 hall WD hWV oCA oWA hb;simp only [jF,jH];go_wp2_with fail;have ho:yG WV w (w.setCell ⟨WV,0,none⟩ (.slice (some ⟨WA,0,none⟩) n n)):=yC 0 _;exact HQ.u _ _ CV WV CA WA _ ⟨DO,BC,mCV,mWV,(ho.block _ DO).trans ECV.u,(jd w WV 0 _ _ _ EWV.u).trans rfl,zw OCA.u (xk ho) (fun x hx=>by injection hx with hx;subst hx;exact⟨_,_,EWV.u⟩) (by decide),zw OWA.u (xk ho) (fun x hx=>by injection hx with hx;subst hx;exact⟨_,_,EWV.u⟩) (by decide),xl Ov.u ho mWV⟩
end Go.Proofs.YtnohcdpnnhmpfaaGreatDoor.TR
