/- Chapter 13, the reference's Transfer: some are elected. -/
import Derived.Test.YtnohcdpnnhmpfaaGreatDoorE43
set_option linter.all false
set_option maxRecDepth 100000
set_option maxHeartbeats 8000000
namespace Go.Proofs.YtnohcdpnnhmpfaaGreatDoor.TR
open Go.RowKit Tryz ML FRP AU CT FM
variable{m:Nat}{u0 u1 P0 a9 i9 m9 o9 s9 A9 C9 D9 E9 ta Ob ua Aa Ba Mh Nh Oh Sb Tb Ub Wb C7 dc ec ic mc pc sc tc uc Ac Bc Cc Dc Ec Fc Gc Hc Ic Lc Mc Nc Oc Pc Rc Sc Tc Uc Wc pd sd Ca Da Ea Eh Fh Gh td ud Ad Bd Cd Dh Dd Ed Fd Gd Hd Ld Fa Ha Ia La c7 Ma Na Oa Pa Ra Sa Ta gf mf nf pf rf tf uf Af Bf Cf Df Ef Gf L1 Hf If Mf Nf Of Pf Rf Sf Tf Uf u2 i4 bg eg fg gg ig lg mg ng pg sg A4 tg ug wg Ag Bg Cg Dg Eg Fg Gg Rb Hg Ig Lg Mg Ng Og Pg Rg Sg Tg i7 Ug Wg ah ch dh eh fh gh lh mh I4 nh oh ph rh sh th uh Ua Wa bb L4 ib rb ub Ab Bb Cb Eb Fb Gb Lb ff Mb Nb Md Nd Od Pd Sd N1 Td Ud Wd ae be de ee fe ie me N4 pe Hh Ih Lh re te ue we Ae Be U1 Ce De Ee Fe Ge He Ie Le Me Oe u3 l7 Pe Re Se Te Ue We bf cf ef t7 A7 W7 R4 G2 P4 T4 g7 L2 u4 N2 i3 A3 D3 G3 I3 L3 P3 A1 R0 u5 U0 a5 i5 l5 A5 C5 E5 I5 L5 a6 u6 i6 l6 m6 n6 t6 A6 C6 E6 I6 L6 u7 M6 a7 I7 I9 aa da ia L7 U7 a8 u8 g8 i8 l8 m8 p8 r8 s8 t8 A8 E8 u9 F8 G8 I8 L8 O8 U8 W8:n0}{w:m0}
theorem jez(K:RK)(q:Fr)(S:St)(G:RG)(R:List Rd)(vR:n0)(CS:List (A0))(oV:s0)(gw ow cw:Nat)(who:E0)(w:m0)(Q:Exit→Act→m0→Prop){E7 ma pa ra:n0}
 (hR:yX K q S G w) (hU:JG K q G w R vR CS) (hV:zH K w oV) (hn:K.c.op.length≤12) (EY:who.length≤12) (AA:S.el.length+who.length≤12) (hW:VS K G w who (.slice (some ⟨gw,ow,none⟩) who.length cw)) (ns: ∀i∈who,i<K.c.op.length)
 (hP: ∀(c:List PanicEntry) (a:Act) (d:L0) (v:n0) (w:m0),Q (.panic c) (a.put d v) w→Q (.panic c) a w)
 (hQ: ∀(En Fn Gn Hn In Ln Mn Nn Pn Rn Sn Tn Un Wn ao eo fo io:n0) (w':m0) (ev:n0),yX K q (S.elect who) ⟨G.ka,G.kb,G.wn,G.wd,G.rr,fun i=>G.wf i||decide (i∈who.take who.length),ev⟩ w'→JG K q ⟨G.ka,G.kb,G.wn,G.wd,G.rr,fun i=>G.wf i||decide (i∈who.take who.length),ev⟩ w' R vR CS→zH K w' oV→Q .normal ⟨#[u0,u1,u2,u3,u4,u5,u6,u7,u8,u9,P0,Ob,C7,.pointer (some ⟨K.OUT,0,none⟩),.pointer (some ⟨K.CV,0,none⟩),.pointer (some ⟨K.WV,0,none⟩),Dh,c7,E7,L1,i4,A4,Rb,i7,I4,L4,ff,N1,N4,U1,l7,t7,A7,W7,R4,G2,En,T4,g7,L2,N2,i3,A3,D3,G3,I3,L3,P3,A1,R0,U0,a5,i5,l5,A5,C5,E5,I5,L5,a6,i6,l6,m6,n6,t6,A6,C6,E6,I6,L6,M6,a7,I7,I9,aa,da,ia,L7,U7,a8,g8,i8,l8,m8,p8,r8,s8,t8,A8,E8,F8,ma,pa,ra,G8,I8,L8,O8,U8,W8,a9,i9,m9,o9,s9,A9,C9,D9,E9,ta,ua,Aa,Ba,Mh,Nh,Oh,Sb,Tb,Ub,Wb,dc,ec,ic,mc,pc,sc,tc,uc,Ac,Bc,Cc,Dc,Ec,Fc,Gc,Hc,Ic,Lc,Mc,Nc,Oc,Pc,Rc,Sc,Tc,Uc,Wc,pd,sd,Ca,Da,Ea,Eh,Fh,Gh,td,ud,Ad,Bd,Cd,Dd,Ed,Fd,Gd,Hd,Ld,Fa,Ha,Ia,La,Ma,Na,Oa,Pa,Ra,Sa,Ta,gf,mf,nf,pf,rf,tf,uf,Af,Bf,Cf,Df,Ef,Gf,Hf,If,Mf,Nf,Of,Pf,Rf,Sf,Tf,Uf,bg,eg,fg,gg,ig,lg,mg,ng,pg,sg,tg,ug,wg,Ag,Bg,Cg,Dg,Eg,Fg,Gg,Hg,Ig,Lg,Mg,Ng,Og,Pg,Rg,Sg,Tg,Ug,Wg,ah,ch,dh,eh,fh,gh,lh,mh,nh,oh,ph,rh,sh,th,uh,Ua,Wa,bb,ib,rb,ub,Ab,Bb,Cb,Eb,Fb,Gb,Lb,Mb,Nb,.slice (some ⟨gw,ow,none⟩) who.length cw,.int .i64 who.length,Fn,Gn,Hn,In,Ln,Mn,Nn,Pn,Rn,Sn,Tn,Un,Wn,ao,eo,fo,io,Hh,Ih,Lh,re,te,ue,we,Ae,Be,Ce,De,Ee,Fe,Ge,He,Ie,Le,Me,Oe,Pe,Re,Se,Te,Ue,We,bf,cf,ef],[]⟩ w'):
 Code.wp prog (jfZ 11) Q ⟨#[u0,u1,u2,u3,u4,u5,u6,u7,u8,u9,P0,Ob,C7,.pointer (some ⟨K.OUT,0,none⟩),.pointer (some ⟨K.CV,0,none⟩),.pointer (some ⟨K.WV,0,none⟩),Dh,c7,E7,L1,i4,A4,Rb,i7,I4,L4,ff,N1,N4,U1,l7,t7,A7,W7,R4,G2,P4,T4,g7,L2,N2,i3,A3,D3,G3,I3,L3,P3,A1,R0,U0,a5,i5,l5,A5,C5,E5,I5,L5,a6,i6,l6,m6,n6,t6,A6,C6,E6,I6,L6,M6,a7,I7,I9,aa,da,ia,L7,U7,a8,g8,i8,l8,m8,p8,r8,s8,t8,A8,E8,F8,ma,pa,ra,G8,I8,L8,O8,U8,W8,a9,i9,m9,o9,s9,A9,C9,D9,E9,ta,ua,Aa,Ba,Mh,Nh,Oh,Sb,Tb,Ub,Wb,dc,ec,ic,mc,pc,sc,tc,uc,Ac,Bc,Cc,Dc,Ec,Fc,Gc,Hc,Ic,Lc,Mc,Nc,Oc,Pc,Rc,Sc,Tc,Uc,Wc,pd,sd,Ca,Da,Ea,Eh,Fh,Gh,td,ud,Ad,Bd,Cd,Dd,Ed,Fd,Gd,Hd,Ld,Fa,Ha,Ia,La,Ma,Na,Oa,Pa,Ra,Sa,Ta,gf,mf,nf,pf,rf,tf,uf,Af,Bf,Cf,Df,Ef,Gf,Hf,If,Mf,Nf,Of,Pf,Rf,Sf,Tf,Uf,bg,eg,fg,gg,ig,lg,mg,ng,pg,sg,tg,ug,wg,Ag,Bg,Cg,Dg,Eg,Fg,Gg,Hg,Ig,Lg,Mg,Ng,Og,Pg,Rg,Sg,Tg,Ug,Wg,ah,ch,dh,eh,fh,gh,lh,mh,nh,oh,ph,rh,sh,th,uh,Ua,Wa,bb,ib,rb,ub,Ab,Bb,Cb,Eb,Fb,Gb,Lb,Mb,Nb,.slice (some ⟨gw,ow,none⟩) who.length cw,.int .i64 who.length,.int .i64 (0:Int),Md,Nd,Od,Pd,Sd,Td,Ud,Wd,ae,be,de,ee,fe,ie,me,pe,Hh,Ih,Lh,re,te,ue,we,Ae,Be,Ce,De,Ee,Fe,Ge,He,Ie,Le,Me,Oe,Pe,Re,Se,Te,Ue,We,bf,cf,ef],[]⟩ w:=by
 clear hP
 conv=>arg 2;whnf
 have HQ:=jA hQ;have bX:=jA ns
 have H0:=jA (show yX K q (S.elect (who.take 0)) ⟨G.ka,G.kb,G.wn,G.wd,G.rr,fun i=>G.wf i||decide (i∈who.take 0),G.ev⟩ w∧JG K q ⟨G.ka,G.kb,G.wn,G.wd,G.rr,fun i=>G.wf i||decide (i∈who.take 0),G.ev⟩ w R vR CS∧VS K ⟨G.ka,G.kb,G.wn,G.wd,G.rr,fun i=>G.wf i||decide (i∈who.take 0),G.ev⟩ w who (.slice (some ⟨gw,ow,none⟩) who.length cw)∧zH K w oV by
  have e1:S.elect (who.take 0)=S:=by unfold St.elect;simp
  have e2:(⟨G.ka,G.kb,G.wn,G.wd,G.rr,fun i=>G.wf i||decide (i∈who.take 0),G.ev⟩:RG)=G:=by simp
  rw [e1,e2];exact⟨hR,hU,hW,hV⟩)
 obtain⟨i0,hi,Is,Ts,Ns⟩:=info_parts KC;have JI:=jA hi;have SA:=jA Is;have OA:=jA Ts;have MA:=jA Ns;clear hQ hR hU hW hV ns hi Is Ts Ns;go_wp2_with fail;go_loopw [264] (fun v wr=> ∃(j:Nat) (ev:n0),v=.int .i64 j∧j≤who.length∧yX K q (S.elect (who.take j)) ⟨G.ka,G.kb,G.wn,G.wd,G.rr,fun i=>G.wf i||decide (i∈who.take j),ev⟩ wr∧JG K q ⟨G.ka,G.kb,G.wn,G.wd,G.rr,fun i=>G.wf i||decide (i∈who.take j),ev⟩ wr R vR CS∧VS K ⟨G.ka,G.kb,G.wn,G.wd,G.rr,fun i=>G.wf i||decide (i∈who.take j),ev⟩ wr who (.slice (some ⟨gw,ow,none⟩) who.length cw)∧zH K wr oV) (fun v _=>who.length-(intOf v).toNat);case atStart=>exact⟨0,G.ev,rfl,ja _,H0.u⟩
 case round=>
 clear H0;obtain⟨j,ev,rfl,hj,hr,hu,hw,hv⟩:=hrel;have HV:=jA hv;have HR:=jA hr;have HU:=jA hu;have HW:=jA hw;clear hr hu hw hv;by_cases uC:j<who.length;case neg=>
  obtain rfl:j=who.length:=by omega
  have dk:decide ((who.length:Int)<(who.length:Int))=false:=jS (by omega);have Ms:decide (who.length<who.length)=false:=jS (by omega);have IC:=jA (show yX K q (S.elect who) ⟨G.ka,G.kb,G.wn,G.wd,G.rr,fun i=>G.wf i||decide (i∈who.take who.length),ev⟩ wr by have:=HR.u;rw [show S.elect (who.take who.length)=S.elect who by rw [jr]]at this;exact this);go_wp2_with fail;exact HQ.u _ _ _ _ _ _ _ _ _ _ _ _ _ _ _ _ _ _ wr ev IC.u HU.u HV.u
 obtain⟨dk,Ms,Py⟩:=Go.yD uC
 obtain⟨g1,o1,c1,Ry,he,RJ,hcw,hnt,hwb⟩:=HW.u.ex;obtain⟨rfl,rfl,rfl⟩:gw=g1∧ow=o1∧cw=c1:=by
  injection he with h1 _ h3;injection h1 with h1;injection h1 with h1 h2;exact⟨h1,h2,h3⟩
 have HJ:=jA (hcw j uC);have Ou:=jA (jh uC);have bt:=bX.u _ (jb uC);have d1:wr.cell? ⟨gw,ow+j,none⟩=some (.int .i64 ((who[j]:Nat):Int)):=(jM wr gw (ow+j) _ _ _ RJ).trans HJ.u;clear he RJ hcw hnt hwb HJ;generalize who[j]=i at*;have dii:(i:Int)<(K.c.op.length:Int):=by omega
 have d2:wr.cell? ⟨K.CV,0,none⟩=some (.slice (some ⟨K.CA,0,none⟩) K.c.op.length K.c.op.length):=jM wr K.CV 0 _ _ _ HR.u.cv;have m1:=Vz HR.u.ca bt;have z1:wr.frozen? ⟨K.CA,i,none⟩=false:=jc wr K.CA i _ _ HR.u.ca;go_upto_region 65 with(fail);clear dk Ms Py d1 d2;have Mu: ∀x,decide (x∈who.take (j+1))=(decide (x∈who.take j)||decide (x=i)):=fun x=>by
  rw [Ou.u,Bool.eq_iff_iff];simp
 have Ot:=jA Mu;obtain⟨E,hE⟩: ∃E,E=S.el++who.take j:=⟨_,rfl⟩;have hEl:E.length<12:=by rw [hE,jZ,jf];omega
 have HEJ:=jA hE;have eK:(wr.setCell ⟨K.CA,i,none⟩ (.bool false)).heap[K.CA]?=some (.cells (zp K.c.op.length (S.elect (who.take (j+1))).cont).toArray 4 (0,0)):=by
  rw [VC false HR.u.ca bt];congr 2
  rw [XY (fun x hx=>show upd (S.elect (who.take j)).cont i false x=(S.elect (who.take (j+1))).cont x by
   show upd (fun x=>S.cont x&& !decide (x∈who.take j)) i false x=(S.cont x&& !decide (x∈who.take (j+1)));rw [Mu];by_cases e:x=i;·subst e;rw [xp];simp
   ·rw [xw _ _ _ _ e];simp [e])]
 have uJ:yG K.CA wr (wr.setCell ⟨K.CA,i,none⟩ (.bool false)):=yC i _;have r1:=HR.u.setCont (S.elect (who.take (j+1))).cont uJ eK
 have u1:=HU.u.turn (G':=⟨G.ka,G.kb,G.wn,G.wd,G.rr,fun i=>G.wf i||decide (i∈who.take j),ev⟩) (xk uJ) (fun x hx=>by
  injection hx with hx;subst hx;exact⟨_,_,_,HR.u.ca,by decide,by decide,by decide,.inr (by decide)⟩) rfl
 have w1:=HW.u.turn (G':=⟨G.ka,G.kb,G.wn,G.wd,G.rr,fun i=>G.wf i||decide (i∈who.take j),ev⟩) (xk uJ) (fun x hx=>by
  injection hx with hx;subst hx;exact .inr ⟨_,_,_,HR.u.ca,by decide⟩) (fun y hy=>.inl hy)
 refine xr (fun w2=>yX K q ⟨S.V,(S.elect (who.take (j+1))).cont,S.moved,S.kept,E⟩ ⟨G.ka,G.kb,G.wn,G.wd,G.rr,fun i=>G.wf i||decide (i∈who.take j),ev⟩ w2∧JG K q ⟨G.ka,G.kb,G.wn,G.wd,G.rr,fun i=>G.wf i||decide (i∈who.take j),ev⟩ w2 R vR CS∧VS K ⟨G.ka,G.kb,G.wn,G.wd,G.rr,fun i=>G.wf i||decide (i∈who.take j),ev⟩ w2 who (.slice (some ⟨gw,ow,none⟩) who.length cw)∧zH K w2 oV) ⟨by rw [hE];exact r1,u1,w1,HV.u.only (xk uJ) (fun x hx=>by injection hx with hx;subst hx;exact⟨_,_,_,HR.u.ca,by decide⟩)⟩ (fun w2 lu=>?_);have R2:=jA lu.1;have U2:=jA lu.2.1;have W2:=jA lu.2.2.1;have V2:=jA lu.2.2.2;clear lu eK uJ r1 u1 w1 HR HU HW HV m1 z1 hE;have d3:w2.cell? ⟨K.WV,0,none⟩=some (.slice (some ⟨K.WA,0,none⟩) K.c.op.length K.c.op.length):=jM w2 K.WV 0 _ _ _ R2.u.wv;have m2:=Vz R2.u.wa bt;have z2:w2.frozen? ⟨K.WA,i,none⟩=false:=jc w2 K.WA i _ _ R2.u.wa;clear Mu;go_upto_region 66 with(fail);clear d3;have eK:(w2.setCell ⟨K.WA,i,none⟩ (.bool true)).heap[K.WA]?=some (.cells (zp K.c.op.length (fun x=>G.wf x||decide (x∈who.take (j+1)))).toArray 4 (0,0)):=by
  rw [VC true R2.u.wa bt];congr 2
  rw [XY (fun x hx=>show upd (fun x=>G.wf x||decide (x∈who.take j)) i true x=(G.wf x||decide (x∈who.take (j+1)))by
   rw [Ot.u];by_cases e:x=i;·subst e;rw [xp];simp
   ·rw [xw _ _ _ _ e];simp [e])]
 have uJ:yG K.WA w2 (w2.setCell ⟨K.WA,i,none⟩ (.bool true)):=yC i _;have r1:=R2.u.setWait (fun x=>G.wf x||decide (x∈who.take (j+1))) uJ eK
 have u1:=U2.u.turn (G':=⟨G.ka,G.kb,G.wn,G.wd,G.rr,fun i=>G.wf i||decide (i∈who.take (j+1)),ev⟩) (xk uJ) (fun x hx=>by
  injection hx with hx;subst hx;exact⟨_,_,_,R2.u.wa,by decide,by decide,by decide,.inr (by decide)⟩) rfl
 have w1:=W2.u.turn (G':=⟨G.ka,G.kb,G.wn,G.wd,G.rr,fun i=>G.wf i||decide (i∈who.take (j+1)),ev⟩) (xk uJ) (fun x hx=>by
  injection hx with hx;subst hx;exact .inr ⟨_,_,_,R2.u.wa,by decide⟩) (fun y hy=>.inl hy)
 refine xr (fun w3=>yX K q ⟨S.V,(S.elect (who.take (j+1))).cont,S.moved,S.kept,E⟩ ⟨G.ka,G.kb,G.wn,G.wd,G.rr,fun i=>G.wf i||decide (i∈who.take (j+1)),ev⟩ w3∧JG K q ⟨G.ka,G.kb,G.wn,G.wd,G.rr,fun i=>G.wf i||decide (i∈who.take (j+1)),ev⟩ w3 R vR CS∧VS K ⟨G.ka,G.kb,G.wn,G.wd,G.rr,fun i=>G.wf i||decide (i∈who.take (j+1)),ev⟩ w3 who (.slice (some ⟨gw,ow,none⟩) who.length cw)∧zH K w3 oV) ⟨r1,u1,w1,V2.u.only (xk uJ) (fun x hx=>by injection hx with hx;subst hx;exact⟨_,_,_,R2.u.wa,by decide⟩)⟩ (fun w3 mw=>?_);have R3:=jA mw.1;have U3:=jA mw.2.1;have W3:=jA mw.2.2.1;have V3:=jA mw.2.2.2;clear mw eK uJ r1 u1 w1 R2 U2 W2 V2 m2 z2;have d4:w3.cell? ⟨K.OUT,3,none⟩=some ev:=jM w3 K.OUT 3 _ _ _ U3.u.u;have aw:=jA ((jN w3.heap.size w3).alloc (jO _) (.cells #[.int .i64 (i:Int)] 3));have RA:=jA (R3.u.below aw.u);have UA:=jA (U3.u.below aw.u);have WA':=jA (W3.u.turn (yt aw.u none) (fun x hx=>by cases hx) (fun y hy=>.inl hy):VS K ⟨G.ka,G.kb,G.wn,G.wd,G.rr,fun i=>G.wf i||decide (i∈who.take (j+1)),ev⟩ (w3.alloc (.cells #[.int .i64 (i:Int)] 3)) who (.slice (some ⟨gw,ow,none⟩) who.length cw));have Fv:=jA (show(w3.alloc (.cells #[.int .i64 (i:Int)] 3)).ownsRow K.w0.heap.size 3 1 ev E.length (xq (yK E))from RA.u.els);have hkw:K.w0.heap.size≤w3.heap.size+1:=by have:=R3.u.bel.size;omega
 go_wp2_with (at_builtin;refine yk (good:=fun _=>true) _ rfl (.tmp 275) (.tmp 277) 29 rfl K.w0.heap.size 3 i0 (.int .i64 0) 1 8 underlying29 JI.u SA.u OA.u MA.u rfl (by decide) (fun _ _=>rfl) ev E.length (xq (yK E)) rfl ⟨Fv.u,fun _ _ _ _ _ _ _ _=>rfl⟩ ⟨w3.heap.size,0,none⟩ 1 1 (xq (yK [i])) rfl rfl (zK (xh rfl)) (Kb _) (fun _ _=>rfl) (fun _=>by decide) (by unfold maxLen;omega) (by omega) (by simp;omega) _ rfl ?_;intro g9 c9 At own hg hf tz;have DT:ev.ownBlock≠some K.OUT:=Jl Fv.u UA.u.u (by decide);have OU:=jA ((hg.block K.OUT (xZ UA.u.u) (fun e=>DT e.symm)).trans UA.u.u);have n3:At.cell? ⟨K.OUT,3,none⟩=some ev:=jM At K.OUT 3 _ _ _ OU.u;have z3:At.frozen? ⟨K.OUT,3,none⟩=false:=jc At K.OUT 3 _ _ OU.u;have Oy:K.OUT<At.heap.size:=xZ OU.u);go_roundw;case rel=>
  have hv: ∀y,(Value.slice (some ⟨g9,0,none⟩) (E.length+1) c9).ownBlock=some y→ev.ownBlock=some y∨(w3.alloc (.cells #[.int .i64 (i:Int)] 3)).heap.size≤y:=fun y hy=>by
   have e:g9=y:=by simpa [Value.ownBlock] using hy
   subst e;rcases hf with h1|h1;·exact .inl h1
   ·exact .inr (by omega)
  have Nt:At.ownsRow K.w0.heap.size 3 1 (.slice (some ⟨g9,0,none⟩) (E.length+1) c9) (E++ [i]).length (xq (yK (E++ [i]))):=by
   have h1:=own.own;rw [show(E++ [i]).length=E.length+1 by simp,show xq (yK (E++ [i]))=xq (yK E)++xq (yK [i])by simp [xq,yK]];exact h1
  have r6:=RA.u.addEl i hg Nt hv
  have u6:=UA.u.addEl hg (fun y hy=>by
   rcases Fv.u.2 with⟨h0,_⟩|⟨g2,CF,BF,h0,_,Hu,_⟩;·rw [show ev=_ from h0]at hy;cases hy
   ·rw [show ev=_ from h0]at hy;have e:g2=y:=by simpa [Value.ownBlock] using hy
    subst e;exact⟨_,_,Hu⟩) hv
  have ho:yG K.OUT At (At.setCell ⟨K.OUT,3,none⟩ (.slice (some ⟨g9,0,none⟩) (E.length+1) c9)):=yC 3 _;have hnr: ∀u∈(#[.string ⟨(txt q).1.toArray⟩,.string ⟨(txt q).2.toArray⟩,vR,ev]:t0).toList,zE u=true:=fun u hu=>by
   simp only [jl,kD,kH]at hu;rcases hu with h|h|h|h;·rw [h];rfl
   ·rw [h];rfl
   ·obtain⟨o,c,e⟩:=Jx UA.u.rows;rw [h,e];rfl
   ·obtain⟨o,c,e⟩:=Jx Fv.u;rw [h,e];rfl
  have r7:=r6.turnR (xk ho) OU.u (by decide) UA.u.nr UA.u.ob (r6.off_noInt OU.u hnr);have w6:=WA'.u.turn (G':=⟨G.ka,G.kb,G.wn,G.wd,G.rr,fun i=>G.wf i||decide (i∈who.take (j+1)),(.slice (some ⟨g9,0,none⟩) (E.length+1) c9)⟩) hg (fun x hx=>.inl (.inr hx)) hv
  have w7:=w6.turn (G':=⟨G.ka,G.kb,G.wn,G.wd,G.rr,fun i=>G.wf i||decide (i∈who.take (j+1)),(.slice (some ⟨g9,0,none⟩) (E.length+1) c9)⟩) (xk ho) (fun x hx=>by
   injection hx with hx;subst hx;exact .inr ⟨_,_,_,OU.u,by decide⟩) (fun y hy=>.inl hy)
  have hEE:E++ [i]=S.el++who.take (j+1):=by rw [HEJ.u,Ou.u,kY]
  rw [hEE]at r7
  exact⟨j+1,_,by go_num,by omega,r7,u6,w7,((V3.u.below aw.u).only hg (fun x hx=>by
   rcases Fv.u.2 with⟨h0,_⟩|⟨g2,CF,BF,h0,_,Hu,_⟩;·rw [show ev=_ from h0]at hx;cases hx
   ·rw [show ev=_ from h0]at hx;have e:g2=x:=by simpa [Value.ownBlock] using hx
    subst e;exact⟨_,_,_,Hu,by decide⟩)).only (xk ho) (fun x hx=>by injection hx with hx;subst hx;exact⟨_,_,_,OU.u,by decide⟩)⟩
 case measure=>simp [intOf];omega
theorem joc:(prog.info? 75).map (fun i=>(i.zero,i.size,i.bytes))=some (some (.pointer none),1,8):=by kernel_rfl
theorem jiG(o oa ob:s0)(n c na ca nb cb:Nat):prog.built 77 [(0,.slice o n c),(3,.agg #[.slice oa na ca,.slice ob nb cb])]=some #[.slice o n c,.int .i64 0,.int .i64 0,.slice oa na ca,.slice ob nb cb]:=by kernel_rfl
theorem NrV.form{x:Fr}{a b:n0}(h:NrV w x a b): ∃oa na ca ob nb cb,a=.slice oa na ca∧b=.slice ob nb cb:=by
 obtain⟨oa,ca,ob,cb,h1,h2,_⟩:=h;exact⟨_,_,_,_,_,_,h1,h2⟩
def jeK(K K':RK)(k:Nat):Prop:= ∃vb ob cb L,K'={K with m:=k,vb:=vb,ob:=ob,cb:=cb,L:=L}
def Yk(G G':RG):Prop:=G'=⟨G.ka,G.kb,G'.wn,G'.wd,G'.rr,G.wf,G.ev⟩
def jbq(vb:Nat→Nat)(k:Nat):A0:=(List.range k).map fun j=>Value.pointer (some ⟨vb j,0,none⟩)
theorem jhX(vb:Nat→Nat)(k V:Nat):jbq (upd vb k V) (k+1)=jbq vb k++ [.pointer (some ⟨V,0,none⟩)]:=by
 unfold jbq;rw [qI,qk];congr 1;·exact qz fun j hj=>by rw [xw _ _ _ _ (by have:=jk.1 hj;omega)]
 ·simp [xp]
theorem jke(vb:Nat→Nat){k:Nat}(h:k<m):(jbq vb m)[k]?=some (.pointer (some ⟨vb k,0,none⟩)):=by simp [jbq,h]
theorem jeK.more {K K':RK}{k:Nat}(h:jeK K K' k)(V:Nat)(o:s0)(c:Nat)(L:C0):jeK K (K'.more V o c L) (k+1):=by
 obtain⟨vb,ob,cb,L',rfl⟩:=h;exact⟨_,_,_,_,rfl⟩
theorem jls {K:RK}{base:Nat}{tv:n0}(h:GRow zE w base 75 1 tv m (jbq K.vb m))(hm:K.m=m): ∃oV cV,tv=.slice oV m cV∧zH K w oV:=by
 rcases h.own.2 with⟨hv,h0⟩|⟨g,cap,Es,hv,hb,hg,h1,h2,h3,h4⟩
 ·subst h0;exact⟨none,0,hv,fun k hk=>by omega,fun a ha=>by cases ha⟩
 ·refine⟨some ⟨g,0,none⟩,cap,hv,fun k hk=>⟨_,rfl,xZ hg,?_⟩,fun a ha=>by injection ha with ha;subst ha;exact⟨_,_,hg⟩⟩;exact h.own.cells (g:=g) (by rw [hv];rfl) k _ (jke K.vb (by omega))
theorem jne(K:RK)(q:Fr)(G:RG)(Bs:List (n0×C0))(oo:s0)(co:Nat)(w:m0)(Q:Exit→Act→m0→Prop){G9 Ph Ah Bh Ch:n0}
 (hR:yX K q (S0 K.c.op.length (yT Bs) 0) G w) (NQ:K.m=0) (hP:Va K.w0 oo Bs) (Sw:1≤K.c.op.length) (hn:K.c.op.length≤12) (hm:Bs.length≤4096) (hRk: ∀p∈Bs,Rnk K.c.op.length p.2)
 (hP: ∀(c:List PanicEntry) (a:Act) (d:L0) (v:n0) (w:m0),Q (.panic c) (a.put d v) w→Q (.panic c) a w)
 (hQ: ∀(ei gi Wq ar br dr er ir lr mr ur Ar Br Cr Dr Er Gr Hr:n0) (w':m0) (K':RK) (G':RG) (oV:s0) (cV:Nat),jeK K K' Bs.length→Yk G G'→yX K' q (S0 K.c.op.length (yT Bs) Bs.length) G' w'→zH K' w' oV→O0 w.heap.size w w'→Q .normal ⟨#[u0,u1,u2,u3,u4,u5,u6,u7,u8,u9,P0,Ob,C7,G9,.pointer (some ⟨K.CV,0,none⟩),Ph,Dh,c7,.slice oV Bs.length cV,L1,ei,gi,Rb,i7,I4,L4,ff,N1,N4,U1,l7,t7,A7,W7,R4,G2,P4,T4,g7,L2,N2,i3,A3,D3,G3,I3,L3,P3,A1,R0,U0,a5,i5,l5,A5,C5,E5,I5,L5,a6,i6,l6,m6,n6,t6,A6,C6,E6,I6,L6,M6,a7,I7,I9,aa,da,ia,L7,U7,a8,g8,i8,l8,m8,p8,r8,s8,t8,A8,E8,F8,.slice oo Bs.length co,.int .i64 Bs.length,Wq,ar,br,dr,er,ir,lr,mr,ur,Ar,Br,Cr,Dr,Er,Gr,Hr,ta,ua,Aa,Ba,Mh,Nh,Oh,Sb,Tb,Ub,Wb,dc,ec,ic,mc,pc,sc,tc,uc,Ac,Bc,Cc,Dc,Ec,Fc,Gc,Hc,Ic,Lc,Mc,Nc,Oc,Pc,Rc,Sc,Tc,Uc,Wc,pd,sd,Ca,Da,Ea,Eh,Fh,Gh,td,ud,Ad,Bd,Cd,Dd,Ed,Fd,Gd,Hd,Ld,Fa,Ha,Ia,La,Ma,Na,Oa,Pa,Ra,Sa,Ta,gf,mf,nf,pf,rf,tf,uf,Af,Bf,Cf,Df,Ef,Gf,Hf,If,Mf,Nf,Of,Pf,Rf,Sf,Tf,Uf,bg,eg,fg,gg,ig,lg,mg,ng,pg,sg,tg,ug,wg,Ag,Bg,Cg,Dg,Eg,Fg,Gg,Hg,Ig,Lg,Mg,Ng,Og,Pg,Rg,Sg,Tg,Ug,Wg,ah,ch,dh,eh,fh,gh,lh,mh,nh,oh,ph,rh,sh,th,uh,Ua,Wa,bb,ib,rb,ub,Ab,Bb,Cb,Eb,Fb,Gb,Lb,Mb,Nb,Ah,Bh,Ch,Md,Nd,Od,Pd,Sd,Td,Ud,Wd,ae,be,de,ee,fe,ie,me,pe,Hh,Ih,Lh,re,te,ue,we,Ae,Be,Ce,De,Ee,Fe,Ge,He,Ie,Le,Me,Oe,Pe,Re,Se,Te,Ue,We,bf,cf,ef],[]⟩ w'):
 Code.wp prog (jfZ 2) Q ⟨#[u0,u1,u2,u3,u4,u5,u6,u7,u8,u9,P0,Ob,C7,G9,.pointer (some ⟨K.CV,0,none⟩),Ph,Dh,c7,.slice none 0 0,L1,i4,A4,Rb,i7,I4,L4,ff,N1,N4,U1,l7,t7,A7,W7,R4,G2,P4,T4,g7,L2,N2,i3,A3,D3,G3,I3,L3,P3,A1,R0,U0,a5,i5,l5,A5,C5,E5,I5,L5,a6,i6,l6,m6,n6,t6,A6,C6,E6,I6,L6,M6,a7,I7,I9,aa,da,ia,L7,U7,a8,g8,i8,l8,m8,p8,r8,s8,t8,A8,E8,F8,.slice oo Bs.length co,.int .i64 Bs.length,.int .i64 (0:Int),G8,I8,L8,O8,U8,W8,a9,i9,m9,o9,s9,A9,C9,D9,E9,ta,ua,Aa,Ba,Mh,Nh,Oh,Sb,Tb,Ub,Wb,dc,ec,ic,mc,pc,sc,tc,uc,Ac,Bc,Cc,Dc,Ec,Fc,Gc,Hc,Ic,Lc,Mc,Nc,Oc,Pc,Rc,Sc,Tc,Uc,Wc,pd,sd,Ca,Da,Ea,Eh,Fh,Gh,td,ud,Ad,Bd,Cd,Dd,Ed,Fd,Gd,Hd,Ld,Fa,Ha,Ia,La,Ma,Na,Oa,Pa,Ra,Sa,Ta,gf,mf,nf,pf,rf,tf,uf,Af,Bf,Cf,Df,Ef,Gf,Hf,If,Mf,Nf,Of,Pf,Rf,Sf,Tf,Uf,bg,eg,fg,gg,ig,lg,mg,ng,pg,sg,tg,ug,wg,Ag,Bg,Cg,Dg,Eg,Fg,Gg,Hg,Ig,Lg,Mg,Ng,Og,Pg,Rg,Sg,Tg,Ug,Wg,ah,ch,dh,eh,fh,gh,lh,mh,nh,oh,ph,rh,sh,th,uh,Ua,Wa,bb,ib,rb,ub,Ab,Bb,Cb,Eb,Fb,Gb,Lb,Mb,Nb,Ah,Bh,Ch,Md,Nd,Od,Pd,Sd,Td,Ud,Wd,ae,be,de,ee,fe,ie,me,pe,Hh,Ih,Lh,re,te,ue,we,Ae,Be,Ce,De,Ee,Fe,Ge,He,Ie,Le,Me,Oe,Pe,Re,Se,Te,Ue,We,bf,cf,ef],[]⟩ w:=by
 clear hP
 conv=>arg 2;whnf
 have HQ:=jA hQ;have HR:=jA hR;have wH:=jA NQ;have gz:=jA hP;have eS:=jA hRk;obtain⟨j0,eI,sD,fJ,oQ⟩:=info_parts joc;have J0:=jA eI;have SA:=jA sD;have OA:=jA fJ;have MA:=jA oQ;have HKW:=jA hR.bel.size;clear hQ hR NQ hP hRk eI sD fJ oQ;obtain⟨M,hM⟩: ∃M,M=w.heap.size:=⟨_,rfl⟩;have HM:=jA hM;rw [←hM]at HQ;clear hM;go_wp2_with fail;go_loopw [93,18] (fun v tv wr=> ∃(k:Nat) (K':RK) (G':RG) (tv':n0),v=.int .i64 k∧tv'=tv∧k≤Bs.length∧jeK K K' k∧Yk G G'∧yX K' q (S0 K.c.op.length (yT Bs) k) G' wr∧GRow zE wr M 75 1 tv' k (jbq K'.vb k)∧O0 M w wr) (fun v _ _=>Bs.length-(intOf v).toNat);case atStart=>exact⟨0,K,G,_,rfl,rfl,ja _,⟨K.vb,K.ob,K.cb,K.L,by rw [←wH.u]⟩,rfl,HR.u,GRow.nil,jN _ _⟩
 case round=>
 clear HR;obtain⟨k,K',G',tv,rfl,rfl,hk,mG,BA,hr,Tx,cD⟩:=hrel;have BK:=jA mG;have BG:=jA BA;have HR:=jA hr;have RW:=jA Tx;have BB:=jA cD;have gH:M≤wr.heap.size:=by have:=cD.size;have:=HM.u;omega
 clear mG BA hr Tx cD;by_cases ns:k<Bs.length;case neg=>
  obtain rfl:k=Bs.length:=by omega
  have dk:decide ((Bs.length:Int)<(Bs.length:Int))=false:=jS (by omega);have Ms:decide (Bs.length<Bs.length)=false:=jS (by omega);obtain⟨oV,cV,rfl,WL⟩:=jls RW.u (by obtain⟨_,_,_,_,e⟩:=BK.u;rw [e]);have VA:=jA WL;clear WL;go_wp2_with fail;exact HQ.u _ _ _ _ _ _ _ _ _ _ _ _ _ _ _ _ _ _ wr K' G' oV cV BK.u BG.u HR.u VA.u BB.u
 obtain⟨dk,Ms,Py⟩:=Go.yD ns
 obtain⟨a,Us,eu,Ft⟩:=gz.u.cells k ns;obtain⟨vb,ob,cb,Lf,rfl⟩:=BK.u;have it:O0 K.w0.heap.size K.w0 wr:=HR.u.bel;have Bu:wr.cell? (a.add k)=some Bs[k].1:=(it.cell (by rw [yo];exact eu)).trans Ft;obtain⟨bo,bc,bv,hbI,Ox⟩:=gz.u.rows Bs[k] (jb ns);rw [bv]at Bu;have HL:=jA hbI;have sH:=jA (eS.u Bs[k] (jb ns));have HRS:=jA (show(yT Bs).getD k []=Jb Bs[k].2 by unfold yT;simp [jV,ns]);have rS:=jA (show yW wr bo Bs[k].2 from hbI.below it);generalize Bs[k].2=L at*;clear bv Ft hbI it;subst Us;have QW:=jA (YA 1 wr (by omega));have GT:L.length≤12:=by rw [sH.u.len];exact hn
 go_upto_region 22 with(first
  |(go_at_call 33;refine QW.u.mono ?_;rintro e w3 ⟨a1,b1,rfl,f1,b3,li⟩;have F1:=jA f1;have B3:=jA b3;have LI:=jA li;obtain⟨dQ,AY,EZ,uY,wY,DZ,rfl,rfl⟩:=f1.form;clear f1 b3 li)
  |(with_reducible refine wpList_build rfl 77 _ rfl [(0,.slice bo L.length bc),(3,.agg #[.slice dQ AY EZ,.slice uY wY DZ])] (by first|(simp;done)|(simp [Act.eval];done)) _ (jiG _ _ _ _ _ _ _ _ _) ?_))
 refine xr (fun w4=>O0 w3.heap.size w3 w4∧w4.heap[w3.heap.size]?=some (.cells #[.slice bo L.length bc,.int .i64 (0:Int),.int .i64 ((0:Nat):Int),.slice dQ AY EZ,.slice uY wY DZ] 77 (0,0))) ⟨(jN _ _).alloc (jO _) _,xh rfl⟩ (fun w4 Gu=>?_);have TV:=Gu.1;have VB:=jA Gu.2;have b4:O0 wr.heap.size wr w4:=B3.u.trans (TV.mono B3.u.size);have F4:=jA (F1.u.below TV);have rE:=jA (F1.u.off_new (jO w3.heap.size));have hV3:wr.heap.size≤w3.heap.size:=B3.u.size;have B4:=jA b4;have HIB4:=jA (rS.u.below b4);have CV4:w4.heap[K.CV]?=some (.cells #[.slice (some ⟨K.CA,0,none⟩) K.c.op.length K.c.op.length] 39 (0,0)):=xe b4 (xZ HR.u.cv) HR.u.cv;have CA4:w4.heap[K.CA]?=some (.cells (zp K.c.op.length (c0 K.c.op.length)).toArray 4 (0,0)):=xe b4 (xZ HR.u.ca) HR.u.ca;have hcal:K.CA<wr.heap.size:=xZ HR.u.ca;clear Gu TV b4 QW;generalize w3.heap.size=V at*;have d2:w4.cell? ⟨K.CV,0,none⟩=some (.slice (some ⟨K.CA,0,none⟩) K.c.op.length K.c.op.length):=jM w4 K.CV 0 _ _ _ CV4
 have QF:=jA (jcF (c0 K.c.op.length) K.c.op.length L V K.CA K.c.op.length bo bc 0 0 (.slice dQ AY EZ) (.slice uY wY DZ) w4 sH.u hn HIB4.u (fun a ha=>by
  obtain⟨a',h1,h2,_⟩:=rS.u.cells 0 (by rw [sH.u.len];omega);rw [ha]at h1;injection h1 with h1;subst h1;omega) (by omega) CA4 VB.u (ja _))
 clear CV4 CA4;go_upto_region 23 with(go_at_call 35;refine QF.u.mono ?_;rintro e w5 ⟨rfl,o5,r5,h5,p5⟩;have O5:=jA o5;have V5:=jA h5;have P5:=jA p5;clear o5 h5 p5);have b5:O0 wr.heap.size wr w5:=xl B4.u O5.u hV3;have N5:NrV w5 one (.slice dQ AY EZ) (.slice uY wY DZ):=F4.u.turn (xk O5.u) (fun y hy=>by injection hy with hy;subst hy;exact rE.u)
 have nT:=HR.u.more (V:=V) (o:=bo) (c:=bc) (L:=L) (x:=(start (Jb L)).go (c0 K.c.op.length)) (a:=.slice dQ AY EZ) (b:=.slice uY wY DZ) (r:=r5) b5 hV3 V5.u N5 LI.u rE.u rfl (by
  have:=jeU (c0 K.c.op.length) (Jb L) 0;rw [Vk]at this;rw [jv]at this;exact this) P5.u HL.u sH.u
 have DG:zF (S0 K.c.op.length (yT Bs) k) k ((start (Jb L)).go (c0 K.c.op.length))=S0 K.c.op.length (yT Bs) (k+1):=by
  rw [←jjt,Kv,HRS.u]
 have hr5':yX _ q (S0 K.c.op.length (yT Bs) (k+1)) _ w5:=DG▸nT;have R5:=jA hr5';have mG:=jeK.more (K:=K) (K':={K with m:=k,vb:=vb,ob:=ob,cb:=cb,L:=Lf}) (k:=k) ⟨vb,ob,cb,Lf,rfl⟩ V bo bc L;have BK5:=jA mG;have W5:=jA (RW.u.below b5);have B5:=jA (BB.u.trans (b5.mono gH));have h5M:M≤w5.heap.size:=jU gH b5.size;have BG5:=jA (show Yk G ⟨G'.ka,G'.kb,upd G'.wn k (.slice dQ AY EZ),upd G'.wd k (.slice uY wY DZ),upd G'.rr k r5,G'.wf,G'.ev⟩by have:=BG.u;unfold Yk at this ⊢;rw [this]);have hKM:K.w0.heap.size≤M:=by rw [HM.u];exact HKW.u
 clear b5 N5 nT DG hr5' mG d2 QF dk Ms Py V5 O5 P5 HR RW BB F4 rE B4 HIB4;have aw:=jA ((jN w5.heap.size w5).alloc (jO _) (.cells #[.pointer (some ⟨V,0,none⟩)] 75));have Hv:=jA (W5.u.below aw.u);go_wp2_with (at_builtin;refine yk (good:=zE) _ rfl (.tmp 104) (.tmp 106) 74 rfl M 75 j0 (.pointer none) 1 8 underlying74 J0.u SA.u OA.u MA.u rfl (by decide) (fun u hu=>by simp [Value.cells]at hu;subst hu;rfl) tv k (jbq vb k) rfl Hv.u ⟨w5.heap.size,0,none⟩ 1 1 [.pointer (some ⟨V,0,none⟩)] rfl rfl (zK (xh rfl)) (fun u hu=>by simp at hu;subst hu;rfl) (fun u hu=>by simp at hu;subst hu;rfl) (fun _=>by decide) (by unfold maxLen;omega) (by omega) (by simp;omega) _ rfl ?_;intro g9 c9 At own hg hf tz);go_roundw;case rel=>
  refine⟨k+1,_,_,_,by go_num,rfl,by omega,BK5.u,BG5.u,(R5.u.below aw.u).turnO hg (fun x hx=>?_),by rw [←jhX]at own;exact own,(B5.u.alloc h5M _).grown hg (by simp;omega) (fun y hy=>(Hv.u.own.lt y hy).1)⟩;rcases Hv.u.own.2 with⟨hv,_⟩|⟨g,cap,Es,hv,hb,Hu,_⟩;·rw [hv]at hx;cases hx
  ·have e:g=x:=by rw [hv]at hx;simpa [Value.ownBlock] using hx
   subst e;exact⟨⟨Es,75,_,Hu,by decide,by decide⟩,jU hKM hb,(R5.u.below aw.u).off_noInt Hu (fun u hu=>Hv.u.all g Es _ _ (by rw [hv];rfl) Hu u hu)⟩
 case measure=>simp [intOf];omega
end Go.Proofs.YtnohcdpnnhmpfaaGreatDoor.TR
