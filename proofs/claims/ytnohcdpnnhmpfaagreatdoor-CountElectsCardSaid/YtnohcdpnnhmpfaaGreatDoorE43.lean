/- Chapter 13, the reference's Transfer: totals, vote by vote. -/
import Derived.Test.YtnohcdpnnhmpfaaGreatDoorE42
set_option linter.all false
set_option maxRecDepth 100000
set_option maxHeartbeats 8000000
namespace Go.Proofs.YtnohcdpnnhmpfaaGreatDoor.TR
open Go.RowKit Tryz ML FRP AU CT FM
theorem jnc(K:RK)(q:Fr)(S:St)(G:RG)(s:Nat)(O:E0)(oV:s0)(cV TT NN g cg:Nat)(za zb:n0)(wo w:m0)(Q:Exit→Act→m0→Prop){u0 u1 u2 u3 u4 u5 u6 u7 u8 u9 P0 Ob C7 G9 Th Ph Dh c7 E7 L1 i4 A4 I4 L4 ff N1 N4 U1 l7 t7 A7 W7 R4 G2 P4 T4 g7 L2 N2 i3 A3 D3 G3 I3 L3 P3 A1 R0 U0 a5 i5 l5 A5 C5 E5 I5 L5 a6 i6 l6 m6 n6 t6 A6 C6 E6 I6 L6 M6 a7 I7 I9 aa da ia L7 U7 a8 g8 i8 l8 m8 p8 r8 s8 t8 A8 E8 F8 ma pa ra G8 I8 L8 O8 U8 W8 a9 i9 m9 o9 s9 A9 C9 D9 E9 ta ua Aa Ba Sb Tb Ub Wb dc ec ic mc pc sc tc uc Ac Bc Cc Dc Ec Fc Gc Hc Ic Lc Mc Nc Oc Pc Rc Sc Tc Uc Wc pd sd Ca Da Ea Eh Fh Gh td ud Ad Bd Cd Dd Ed Fd Gd Hd Ld Fa Ha Ia La Ma Na Oa Pa Ra Sa Ta gf mf nf pf rf tf uf Af Bf Cf Df Ef Gf Hf If Mf Nf Of Pf Rf Sf Tf Uf bg eg fg gg ig lg mg ng pg sg tg ug wg Ag Bg Cg Dg Eg Fg Gg Hg Ig Lg Mg Ng Og Pg Rg Sg Tg Ug Wg ah ch dh eh fh gh lh mh nh oh ph rh sh th uh Ua Wa bb ib rb ub Ab Bb Cb Eb Fb Gb Lb Mb Nb Ah Bh Ch Md Nd Od Pd Sd Td Ud Wd ae be de ee fe ie me pe Hh Ih Lh re te ue we Ae Be Ce De Ee Fe Ge He Ie Le Me Oe Pe Re Se Te Ue We bf cf ef:n0}
 (hR:yX K q S G wo) (hV:zH K wo oV) (hI:Inv K.c.op.length s K.m q O S) (hn:K.c.op.length≤12) (hm:K.m≤4096) (hb:O0 wo.heap.size wo w) (rI:wo.heap.size≤TT) (mR:wo.heap.size≤NN) (hgN:g≠NN)
 (MD:w.heap[TT]?=some (.cells #[.slice (some ⟨g,0,none⟩) K.c.op.length cg] 73 (0,0))) (hT:Jo w wo.heap.size g cg K.c.op.length S.kept G.ka G.kb) (hN:w.heap[NN]?=some (.cells #[za,zb] 69 (0,0))) (hz:NrV w zero za zb)
 (hP: ∀(c:List PanicEntry) (a:Act) (d:L0) (v:n0) (w:m0),Q (.panic c) (a.put d v) w→Q (.panic c) a w)
 (hQ: ∀(Cl Dl El Fl Gl Hl Il Ll Ml Nl Rl Sl Tl Ul em fm gm pm rm tm um wm Am Bm Cm Dm Em Fm Gm Hm Im Lm Mm Nm Om:n0) (w':m0) (xa xb:Nat→n0) (na nb:n0),Jo w' wo.heap.size g cg K.c.op.length (S.tot K.m) xa xb→w'.heap[NN]?=some (.cells #[na,nb] 69 (0,0))→NrV w' (S.non K.m) na nb→w'.heap[TT]?=some (.cells #[.slice (some ⟨g,0,none⟩) K.c.op.length cg] 73 (0,0))→O0 wo.heap.size wo w'→Q .normal ⟨#[u0,u1,u2,u3,u4,u5,u6,u7,u8,u9,P0,Ob,C7,G9,Th,Ph,Dh,c7,E7,L1,i4,A4,.pointer (some ⟨TT,0,none⟩),.pointer (some ⟨NN,0,none⟩),I4,Cl,ff,N1,N4,U1,l7,t7,A7,W7,R4,G2,P4,T4,g7,L2,N2,i3,A3,D3,G3,I3,L3,P3,A1,R0,U0,a5,i5,l5,A5,C5,E5,I5,L5,a6,i6,l6,m6,n6,t6,A6,C6,E6,I6,L6,M6,a7,I7,I9,aa,da,ia,L7,U7,a8,g8,i8,l8,m8,p8,r8,s8,t8,A8,E8,F8,ma,pa,ra,G8,I8,L8,O8,U8,W8,a9,i9,m9,o9,s9,A9,C9,D9,E9,ta,ua,Aa,Ba,.slice oV K.m cV,.int .i64 K.m,Dl,El,Fl,Gl,Hl,Il,Ll,Ml,Nl,Rl,Sl,Tl,Ul,em,fm,gm,pm,rm,tm,um,wm,Am,Bm,Cm,Dm,Em,Fm,Gm,Hm,Im,Lm,Mm,Nm,Om,Ca,Da,Ea,Eh,Fh,Gh,td,ud,Ad,Bd,Cd,Dd,Ed,Fd,Gd,Hd,Ld,Fa,Ha,Ia,La,Ma,Na,Oa,Pa,Ra,Sa,Ta,gf,mf,nf,pf,rf,tf,uf,Af,Bf,Cf,Df,Ef,Gf,Hf,If,Mf,Nf,Of,Pf,Rf,Sf,Tf,Uf,bg,eg,fg,gg,ig,lg,mg,ng,pg,sg,tg,ug,wg,Ag,Bg,Cg,Dg,Eg,Fg,Gg,Hg,Ig,Lg,Mg,Ng,Og,Pg,Rg,Sg,Tg,Ug,Wg,ah,ch,dh,eh,fh,gh,lh,mh,nh,oh,ph,rh,sh,th,uh,Ua,Wa,bb,ib,rb,ub,Ab,Bb,Cb,Eb,Fb,Gb,Lb,Mb,Nb,Ah,Bh,Ch,Md,Nd,Od,Pd,Sd,Td,Ud,Wd,ae,be,de,ee,fe,ie,me,pe,Hh,Ih,Lh,re,te,ue,we,Ae,Be,Ce,De,Ee,Fe,Ge,He,Ie,Le,Me,Oe,Pe,Re,Se,Te,Ue,We,bf,cf,ef],[]⟩ w'):
 Code.wp prog (jfZ 6) Q ⟨#[u0,u1,u2,u3,u4,u5,u6,u7,u8,u9,P0,Ob,C7,G9,Th,Ph,Dh,c7,E7,L1,i4,A4,.pointer (some ⟨TT,0,none⟩),.pointer (some ⟨NN,0,none⟩),I4,L4,ff,N1,N4,U1,l7,t7,A7,W7,R4,G2,P4,T4,g7,L2,N2,i3,A3,D3,G3,I3,L3,P3,A1,R0,U0,a5,i5,l5,A5,C5,E5,I5,L5,a6,i6,l6,m6,n6,t6,A6,C6,E6,I6,L6,M6,a7,I7,I9,aa,da,ia,L7,U7,a8,g8,i8,l8,m8,p8,r8,s8,t8,A8,E8,F8,ma,pa,ra,G8,I8,L8,O8,U8,W8,a9,i9,m9,o9,s9,A9,C9,D9,E9,ta,ua,Aa,Ba,.slice oV K.m cV,.int .i64 K.m,.int .i64 (0:Int),Sb,Tb,Ub,Wb,dc,ec,ic,mc,pc,sc,tc,uc,Ac,Bc,Cc,Dc,Ec,Fc,Gc,Hc,Ic,Lc,Mc,Nc,Oc,Pc,Rc,Sc,Tc,Uc,Wc,pd,sd,Ca,Da,Ea,Eh,Fh,Gh,td,ud,Ad,Bd,Cd,Dd,Ed,Fd,Gd,Hd,Ld,Fa,Ha,Ia,La,Ma,Na,Oa,Pa,Ra,Sa,Ta,gf,mf,nf,pf,rf,tf,uf,Af,Bf,Cf,Df,Ef,Gf,Hf,If,Mf,Nf,Of,Pf,Rf,Sf,Tf,Uf,bg,eg,fg,gg,ig,lg,mg,ng,pg,sg,tg,ug,wg,Ag,Bg,Cg,Dg,Eg,Fg,Gg,Hg,Ig,Lg,Mg,Ng,Og,Pg,Rg,Sg,Tg,Ug,Wg,ah,ch,dh,eh,fh,gh,lh,mh,nh,oh,ph,rh,sh,th,uh,Ua,Wa,bb,ib,rb,ub,Ab,Bb,Cb,Eb,Fb,Gb,Lb,Mb,Nb,Ah,Bh,Ch,Md,Nd,Od,Pd,Sd,Td,Ud,Wd,ae,be,de,ee,fe,ie,me,pe,Hh,Ih,Lh,re,te,ue,we,Ae,Be,Ce,De,Ee,Fe,Ge,He,Ie,Le,Me,Oe,Pe,Re,Se,Te,Ue,We,bf,cf,ef],[]⟩ w:=by
 have HP:=jA hP;clear hP
 conv=>arg 2;whnf
 have HR:=jA hR;have HV:=jA hV;have HQ:=jA hQ;have HS:=jA zu;have PE:=jA (fun k (hk:k≤K.m) i (hi:i<K.c.op.length)=>hI.tot_sml hn hm hk hi);have aX:=jA (fun k (hk:k≤K.m)=>hI.non_sml hn hm hk);have uW:=jA (fun k (hk:k<K.m)=>hI.wt_sml hn hm hk);have HWI:=jA (fun k (hk:k<K.m) i (h:(S.V k).wi=some i)=>(hI.at_ k hk i h).1);have HB:=jA hb;have HT:=jA hT;have HN:=jA hN;have HZ:=jA hz;have fz:=jA MD;have LB:=jA (fun k (hk:k<K.m)=>xZ (hR.vs k hk));clear hR hV hQ hI hb hT hN hz MD;obtain⟨M,hM⟩: ∃M,M=wo.heap.size:=⟨_,rfl⟩;have HM:=jA hM;rw [←hM]at rI mR HB HT HQ;clear hM;go_wp2_with fail;go_loopw [115] (fun v wr=> ∃(k:Nat) (xa xb:Nat→n0) (na nb:n0),v=.int .i64 k∧k≤K.m∧Jo wr M g cg K.c.op.length (S.tot k) xa xb∧wr.heap[NN]?=some (.cells #[na,nb] 69 (0,0))∧NrV wr (S.non k) na nb∧wr.heap[TT]?=some (.cells #[.slice (some ⟨g,0,none⟩) K.c.op.length cg] 73 (0,0))∧O0 M wo wr) (fun v _=>K.m-(intOf v).toNat);case atStart=>exact⟨0,G.ka,G.kb,za,zb,rfl,ja _,HT.u.congr (fun i _=>jlA S i),HN.u,by rw [jmn];exact HZ.u,fz.u,HB.u⟩
 case round=>
 clear HB HT HN HZ fz;obtain⟨k,xa,xb,na,nb,rfl,hk,ht,Sw,Ts,bG,cD⟩:=hrel;have HT:=jA ht;have HN:=jA Sw;have HZ:=jA Ts;have fz:=jA bG;have HB:=jA cD;clear ht Sw Ts bG cD;by_cases Wu:k<K.m;case neg=>
  obtain rfl:k=K.m:=by omega
  have dk:decide ((K.m:Int)<(K.m:Int))=false:=jS (by omega);have Ms:decide (K.m<K.m)=false:=jS (by omega);go_wp2_with fail;exact HQ.u _ _ _ _ _ _ _ _ _ _ _ _ _ _ _ _ _ _ _ _ _ _ _ _ _ _ _ _ _ _ _ _ _ _ _ _ _ _ _ _ HT.u HN.u HZ.u fz.u HB.u
 obtain⟨dk,Ms,Py⟩:=Go.yD Wu
 obtain⟨a,Us,eu,Ft⟩:=HV.u.cells k Wu;have Bu:wr.cell? (a.add k)=some (.pointer (some ⟨K.vb k,0,none⟩)):=((HM.u.symm▸HB.u:O0 wo.heap.size wo wr).cell (by rw [yo];exact eu)).trans Ft;have hB0:=(HM.u▸HB.u:O0 wo.heap.size wo wr);have VB:=jA (xe hB0 (LB.u k Wu) (HR.u.vs k Wu));have VF:=jA ((HR.u.vfr k Wu).below hB0);have eJ:K.vb k<wr.heap.size:=xZ VB.u;have oG:NN<wr.heap.size:=xZ HN.u;have fD:TT<wr.heap.size:=xZ fz.u;have gH:M≤wr.heap.size:=by have:=hB0.size;have:=HM.u;omega
 have HVM:=jA (fun w' (Tt: ∃z:xj wr.heap.size wr,w'=z.w)=>(show ∀j u,([G.wn k,G.wd k]:A0)[j]?=some u→w'.cell? ((⟨K.vb k,3,none⟩:Addr).add j)=some u by
  obtain⟨z,rfl⟩:=Tt;intro j u hu;have h1:=xe z.2 eJ VB.u
  match j with
  |0=>exact(jM _ _ 3 _ _ _ h1).trans hu
  |1=>exact(jM _ _ 4 _ _ _ h1).trans hu
  |_+2=>cases hu))
 have k1:wr.cell? ⟨K.vb k,1,none⟩=some (.int .i64 (wiI (S.V k).wi)):=jM wr (K.vb k) 1 _ _ _ VB.u;subst Us;clear Ft hB0;rcases Hy:(S.V k).wi with _|i
 ·rw [Hy]at k1;have k1':wr.cell? ⟨K.vb k,1,none⟩=some (.int .i64 (-1)):=k1;have Iw:=jA (joS (S:=S) Hy);have UR:=jA (fun i=>jiS (S:=S) (k:=k) (i:=i) (by rw [Hy];exact fun h=>by cases h));clear k1 Hy;go_upto_region 31 with(fail);have QP:=jA (jiZ wr.drew (HZ.u.below (jN _ _).drew) (VF.u.below (jN _ _).drew) (aX.u k hk).ok (uW.u k Wu).ok (aX.u k hk).lens (uW.u k Wu).lens);refine Seg.xf (fun w'=> ∃z:xj wr.heap.size wr,w'=z.w) [] [0,1,2,3,4] 5 (by kernel_rfl) (by kernel_rfl) (fun c a d v w h=>HP.u c a d v w h) (⟨⟨_,(jN _ _).drew⟩,rfl⟩) ?_;simp only [jK,Seg.opAt,Seg.xu];refine yY rfl 69 _ rfl NN #[na,nb] _ _ _ rfl HN oG underlying69 rfl HS.u ?_;iterate 3 first|go_big_quiet_step (fail)|quiet_step (fail)
  refine xx rfl 69 _ rfl ⟨K.vb k,3,none⟩ [G.wn k,G.wd k] _ rfl HVM.u underlying69 rfl HS.u ?_;refine jR ?_;go_wp2_with (first
   |(go_at_call 36;refine QP.u.mono ?_;rintro e w3 ⟨a3,b3,rfl,f3,bw,li⟩;have F3:=jA f3;have B3:=jA (yq bw);clear f3 bw li;have N3:=jA (xe B3.u oG HN.u))
   |(refine xg rfl rfl 69 _ _ rfl NN #[na,nb] #[a3,b3] 69 rfl rfl N3.u rfl HS.u (zd _ _ F3.u.one.1 F3.u.one.2) ?_;intro w4 ho hp))
  go_roundw;case rel=>
   have mx:(#[na,nb]:t0).all zE=true:=by
    have h1:=HZ.u.slices;simp [h1.1,h1.2]
   refine⟨k+1,xa,xb,a3,b3,by go_num,by omega,((HT.u.below B3.u).only ho N3.u mx hgN).congr (fun i _=>UR.u i),hp,?_,?_,xl (HB.u.trans (B3.u.mono gH)) ho mR⟩;·rw [Iw.u];exact F3.u.spare ho N3.u mx
   ·exact(ho.block TT (zD fz.u HN.u (by decide))).trans (xe B3.u fD fz.u)
  case measure=>simp [intOf];omega
 ·rw [Hy]at k1;have bt:=HWI.u k Wu i Hy;have k1':wr.cell? ⟨K.vb k,1,none⟩=some (.int .i64 (i:Int)):=k1;have dn:decide ((i:Int)<0)=false:=jS (by omega);have Iw:=jA (jnS (S:=S) (k:=k) (by rw [Hy];exact fun h=>by cases h))
  have UR:=jA (fun j (hj:j<K.c.op.length)=>(show S.tot (k+1) j=upd (S.tot k) i ((S.tot k i).add (S.V k).wt) j by
   by_cases e:j=i;·subst e;rw [xp];exact joG Hy
   ·rw [xw _ _ _ _ e];exact jiS (by rw [Hy];exact fun h=>e (by injection h with h;exact h.symm))))
  have HK1:=jA k1';clear k1 Hy;go_upto_region 32 with(fail);clear dn k1' dk Ms Py;have hii:(i:Int)<(K.c.op.length:Int):=by omega
  have dT: ∀z:xj wr.heap.size wr,z.w.cell? ⟨TT,0,none⟩=some (.slice (some ⟨g,0,none⟩) K.c.op.length cg):=fun z=>jM _ TT 0 _ _ _ (xe z.2 fD fz.u);have dV: ∀z:xj wr.heap.size wr,z.w.cell? ⟨K.vb k,1,none⟩=some (.int .i64 (i:Int)):=fun z=>(z.2.cell (p:=⟨K.vb k,1,none⟩) eJ).trans HK1.u
  have AW:=jA (fun w' (Tt: ∃z:xj wr.heap.size wr,w'=z.w)=>(show ∀j u,([xa i,xb i]:A0)[j]?=some u→w'.cell? ((⟨g,i*2,none⟩:Addr).add j)=some u by
   obtain⟨z,rfl⟩:=Tt;exact(HT.u.below z.2).tot.mid bt))
  have QP:=jA (fun w2 (h:O0 wr.heap.size wr w2)=>jiZ w2 ((HT.u.frs i bt).below h) (VF.u.below h) (PE.u k hk i bt).ok (uW.u k Wu).ok (PE.u k hk i bt).lens (uW.u k Wu).lens);refine Seg.xf (fun w'=> ∃z:xj wr.heap.size wr,w'=z.w) [([0,1,2,3,4,5,6,7,8,9,10,11,12,13,14,15],16)] [] 17 (by kernel_rfl) (by kernel_rfl) (fun c a d v w h=>HP.u c a d v w h) (⟨⟨_,(jN _ _).drew⟩,rfl⟩) ?_;simp only [jK,Seg.opAt,Seg.xu];iterate 11 first|go_big_quiet_step (fail)|quiet_step (fail)
  refine xx rfl 69 _ rfl ⟨g,i*2,none⟩ [xa i,xb i] _ rfl AW.u underlying69 rfl HS.u ?_;iterate 3 first|go_big_quiet_step (fail)|quiet_step (fail)
  refine xx rfl 69 _ rfl ⟨K.vb k,3,none⟩ [G.wn k,G.wd k] _ rfl HVM.u underlying69 rfl HS.u ?_;refine jR ?_;intro Kc hK;simp only [Region.wanted,jY];go_wp2_with (go_at_call 36;refine(QP.u wr.drew (jN _ _).drew).mono ?_;rintro e w3 ⟨a3,b3,rfl,f3,bw,li⟩);have F3:=jA f3;have B3:=jA (yq bw);have N3:=jA (xe B3.u oG HN.u);have T3:=jA (HT.u.below B3.u);refine hK _ _ ⟨⟨w3,B3.u⟩,rfl⟩ ?_;clear hK Kc f3 bw li QP dT dV;repeat (any_goals (first|go_big_quiet_step (fail)|quiet_step (fail)))
  refine jR ?_;have TH:=T3.u.there bt;go_wp2_with (refine qm rfl 69 _ _ rfl g (i*2) #[a3,b3] rfl rfl TH HS.u (zd _ _ F3.u.one.1 F3.u.one.2) ?_);go_roundw;case rel=>
   have ho:yG g w3 (w3.setCells g (i*2) [a3,b3]):=zf g [a3,b3] (i*2) w3;obtain⟨Es,hg,EO⟩:=T3.u.blk;obtain⟨BF,gI,_⟩:=HT.u.blk;have hMg:M≤g:=by have:=T3.u.row.own.lt g rfl;exact this.1
   refine⟨k+1,upd xa i a3,upd xb i b3,na,nb,by go_num,by omega,(T3.u.put bt F3.u).congr (fun j hj=>UR.u j hj),(ho.block NN hgN.symm).trans N3.u,?_,?_,xl (HB.u.trans (B3.u.mono gH)) ho hMg⟩;·rw [Iw.u];exact(HZ.u.below B3.u).spare ho hg EO
   ·exact(ho.block TT (zD fz.u gI (by decide))).trans (xe B3.u fD fz.u)
  case measure=>simp [intOf];omega
def RK.more(K:RK)(V:Nat)(o:s0)(c:Nat)(L:C0):RK:={K with m:=K.m+1,vb:=upd K.vb K.m V,ob:=upd K.ob K.m o,cb:=upd K.cb K.m c,L:=upd K.L K.m L}
theorem VC {w:m0}{B n i:Nat}{f:Nat→Bool}{T:o0}(b:Bool)(h:w.heap[B]?=some (.cells (zp n f).toArray T (0,0)))(hi:i<n):(w.setCell ⟨B,i,none⟩ (.bool b)).heap[B]?=some (.cells (zp n (upd f i b)).toArray T (0,0)):=by
 rw [jd w B i _ _ _ h];congr 2;apply Array.ext_getElem?;intro j;have hl: ∀f:Nat→Bool,(zp n f).length=n:=fun f=>by simp [zp]
 simp only [Array.getElem?_setIfInBounds,jE,xI,hl];by_cases hj:j<n
 ·rw [Qc n _ j hj,Qc n _ j hj];by_cases e:i=j;·subst e;rw [jP rfl,jP hj,xp]
  ·rw [jQ e,xw _ _ _ _ (fun e2=>e e2.symm)]
 ·by_cases e:i=j;·subst e;omega
  ·rw [jQ e,kR (by rw [hl];omega),kR (by rw [hl];omega)]
theorem Vz {w:m0}{B n i:Nat}{f:Nat→Bool}{T:o0}(h:w.heap[B]?=some (.cells (zp n f).toArray T (0,0)))(hi:i<n):w.cell? ⟨B,i,none⟩=some (.bool (f i)):=by
 rw [jM w B i _ _ _ h,jE];exact Qc n f i hi
theorem XY {n:Nat}{f g:Nat→Bool}(h: ∀i,i<n→f i=g i):zp n f=zp n g:=qz fun i hi=>by rw [h i (jk.1 hi)]
theorem jdt {w:m0}{B o k:Nat}{cs:t0}{T:o0}(h:w.heap[B]?=some (.cells cs T (0,0)))(hk:o+k≤cs.size):w.there B o k:=fun j hj=>by
 rw [jM w B (o+j) _ _ _ h];exact⟨by simp;omega,jc w B (o+j) _ _ h⟩
theorem jbB {w:m0}{B n i:Nat}{xa xb:Nat→n0}{T:o0}(h:w.heap[B]?=some (.cells (yy n xa xb).toArray T (0,0)))(hi:i<n):w.there B (i*2) 2:=
 jdt h (by rw [xI,JU];omega)
theorem Jl {w:m0}{base:Nat}{e:o0}{size n:Nat}{v:n0}{xs:A0}(hr:w.ownsRow base e size v n xs){X:Nat}{cs:t0}{t:o0}{f:Nat×Nat}(hX:w.heap[X]?=some (.cells cs t f))(he:e≠t):v.ownBlock≠some X:=fun hv=>by
 rcases hr.2 with⟨h0,_⟩|⟨g2,CF,BF,h0,_,Hu,_⟩;·rw [h0]at hv;cases hv
 ·rw [h0]at hv;have e2:g2=X:=by simpa [Value.ownBlock] using hv
  subst e2;rw [hX]at Hu;injection Hu with Hu;injection Hu with _ h2;exact he h2.symm
theorem jlL {w:m0}{B:Nat}{cs:t0}{T:o0}(h:w.heap[B]?=some (.cells cs T (0,0))){j:Nat}{u:n0}(hj:cs[j]?=some u):w.cell? ((⟨B,0,none⟩:Addr).add j)=some u:=by
 unfold Addr.add;split;·rename_i h0;subst h0;exact(jM w B 0 _ _ _ h).trans hj
 ·show w.cell? ⟨B,0+j,none⟩=some u;rw [jv];exact(jM w B j _ _ _ h).trans hj
theorem jkW {w:m0}{n:Nat}{xa xb:Nat→n0}{T:Nat→Fr}(h: ∀i,i<n→NrV w (T i) (xa i) (xb i)): ∀u∈yy n xa xb,u.oneCell'=true:=fun u hu=>by
 unfold yy at hu;obtain⟨i,hi,hu⟩:=qj.1 hu;have h1:=(h i (jk.1 hi)).one;simp only [jl,kD,kH]at hu;rcases hu with rfl|rfl;·exact h1.1
 ·exact h1.2
structure Two(X Y:Nat)(w w':m0):Prop where
 os:w'.os=w.os
 tape:w'.tape=w.tape
 output:w'.output=w.output
 size:w.heap.size≤w'.heap.size
 block: ∀k,k<w.heap.size→k≠X→k≠Y→w'.heap[k]?=w.heap[k]?
theorem Two.refl(X Y:Nat)(w:m0):Two X Y w w:=⟨rfl,rfl,rfl,jO _,fun _ _ _ _=>rfl⟩
theorem Two.grown {X Y:Nat}{w w1 w2:m0}{x:L0}(h:Two X Y w w1)(hg:w1.grownBy w2 x)(hx: ∀y,x=some y→y=X∨y=Y∨w.heap.size≤y):Two X Y w w2:=
 ⟨hg.os.trans h.os,hg.tape.trans h.tape,hg.output.trans h.output,jU h.size hg.size,fun k hk h1 h2=>(hg.block k (jW hk h.size) (fun e=>by
  rcases hx k e.symm with h3|h3|h3;·exact h1 h3
  ·exact h2 h3
  ·omega)).trans (h.block k hk h1 h2)⟩
theorem Two.below {X Y B:Nat}{w0 w w':m0}(h:Two X Y w w')(hb:O0 B w0 w)(hX:B≤X)(hY:B≤Y)(hs:B≤w.heap.size):O0 B w0 w':=
 hb.trans ⟨h.os,h.tape,h.output,h.size,fun k hk=>h.block k (jW hk hs) (by omega) (by omega)⟩
section
variable {K:RK} {q:Fr} {S:St} {G:RG} {w w':m0}
theorem yX.turns_lt(h:yX K q S G w){y:Nat}(hy:Jh K G y):y<w.heap.size:=by
 rcases hy with⟨k,hk,rfl⟩|hy;·exact xZ (h.vs k hk)
 ·exact(h.els.lt y hy).2
theorem yX.more(h:yX K q S G w){V:Nat}{o:s0}{c:Nat}{L:C0}{x:Vo}{a b:n0}{r:Nat}(hw:O0 w.heap.size w w')(hV:w.heap.size≤V)
 (hp:w'.heap[V]?=some (.cells #[.slice o L.length c,.int .i64 (wiI x.wi),.int .i64 (r:Int),a,b] 77 (0,0)))
 (hN:NrV w' x.wt a b) (hl:jaa (fun z=>w.heap.size≤z) a b) (ho:Off x.wt a b V) (Pu:x.rk=Jb L) (WH:x.nx≤JK L) (hr:x.wi≠none→r=x.nx) (hI:yW K.w0 o L) (hR:Rnk K.c.op.length L):
 yX (K.more V o c L) q (zF S K.m x) ⟨G.ka,G.kb,upd G.wn K.m a,upd G.wd K.m b,upd G.rr K.m r,G.wf,G.ev⟩ w':=by
 have h':=h.below hw;have ns: ∀{j},j<K.m+1→j≠K.m→j<K.m:=fun hj he=>by omega
 have tT: ∀{y},Jh (K.more V o c L) ⟨G.ka,G.kb,upd G.wn K.m a,upd G.wd K.m b,upd G.rr K.m r,G.wf,G.ev⟩ y→y=V∨Jh K G y:=by
  rintro y (⟨k,hk,rfl⟩|hy)
  ·by_cases e:k=K.m;·subst e;exact .inl (xp _ _ _)
   ·exact .inr (.inl ⟨k,ns hk e,xw _ _ _ _ e⟩)
  ·exact .inr (.inr hy)
 have of: ∀{y:Nat} {z:Fr} {d e:n0},(y=V∨Jh K G y)→NrV w z d e→(∀y,Jh K G y→Off z d e y)→Off z d e y:=fun hy hz hf=>by
  rcases hy with rfl|hy;·exact hz.off_new hV
  ·exact hf _ hy
 exact {
  bel:=h'.bel
  ctb:=h'.ctb
  res:=h'.res
  ordc:=h'.ordc
  nc:=h'.nc
  qc:=h'.qc
  cv:=h'.cv
  wv:=h'.wv
  ca:=h'.ca
  wa:=h'.wa
  cw:=h'.cw
  kar:=h'.kar
  kq:=h'.kq
  vs:=fun j hj=>by
   by_cases e:j=K.m
   ·subst e;show w'.heap[upd K.vb K.m V K.m]?=_;rw [xp,hp];unfold jah zF RK.more;simp only [xp]
   ·show w'.heap[upd K.vb K.m V j]?=_;rw [xw _ _ _ _ e,h'.vs j (ns hj e)];unfold jah zF RK.more;simp only [xw _ _ _ _ e]
  vinj:=fun i j hi hj he=>by
   have WG:upd K.vb K.m V i=upd K.vb K.m V j:=he;by_cases e1:i=K.m
   ·by_cases e2:j=K.m;·omega
    ·subst e1;rw [xp,xw _ _ _ _ e2]at WG;have:=xZ (h.vs j (ns hj e2));omega
   ·by_cases e2:j=K.m
    ·subst e2;rw [xp,xw _ _ _ _ e1]at WG;have:=xZ (h.vs i (ns hi e1));omega
    ·rw [xw _ _ _ _ e1,xw _ _ _ _ e2]at WG;exact h.vinj i j (ns hi e1) (ns hj e2) WG
  quo:=h'.quo
  kfr:=h'.kfr
  vfr:=fun j hj=>by
   by_cases e:j=K.m;·subst e;simp only [zF,xp];exact hN
   ·simp only [zF,xw _ _ _ _ e];exact h'.vfr j (ns hj e)
  vrk:=fun j hj=>by
   by_cases e:j=K.m;·subst e;simp only [zF,RK.more,xp];exact⟨Pu,WH,hr⟩
   ·simp only [zF,RK.more,xw _ _ _ _ e];exact h'.vrk j (ns hj e)
  bal:=fun j hj=>by
   by_cases e:j=K.m;·subst e;simp only [RK.more,xp];exact⟨hI,hR⟩
   ·simp only [RK.more,xw _ _ _ _ e];exact h'.bal j (ns hj e)
  ord:=h'.ord
  els:=h'.els
  bases:=⟨h'.bases.1,h'.bases.2.1,h'.bases.2.2.1,fun j hj=>by
   by_cases e:j=K.m;·subst e;simp only [RK.more,xp];exact jU h.bel.size hV
   ·simp only [RK.more,xw _ _ _ _ e];exact h'.bases.2.2.2 j (ns hj e)⟩
  oq:=fun y hy=>of (tT hy) h.quo h.oq
  ok:=fun y hy i hi=>of (tT hy) (h.kfr i hi) (fun y hy=>h.ok y hy i hi)
  ov:=fun y hy j hj=>by
   by_cases e:j=K.m
   ·subst e;simp only [zF,xp];rcases tT hy with rfl|hy;·exact ho
    ·exact YD hl (h.turns_lt hy)
   ·simp only [zF,xw _ _ _ _ e];exact of (tT hy) (h.vfr j (ns hj e)) (fun y hy=>h.ov y hy j (ns hj e))
  en:=h'.en}
structure Ko(K:RK)(q:Fr)(S:St)(G:RG)(y:Nat):Prop where
 q:Off q K.qa K.qb y
 k: ∀i,i<K.c.op.length→Off (S.kept i) (G.ka i) (G.kb i) y
 v: ∀k,k<K.m→Off (S.V k).wt (G.wn k) (G.wd k) y
theorem yX.off_new(h:yX K q S G w){y:Nat}(hy:w.heap.size≤y):Ko K q S G y:=⟨h.quo.off_new hy,fun i hi=>(h.kfr i hi).off_new hy,fun k hk=>(h.vfr k hk).off_new hy⟩
theorem NrV.off_noInt {x:Fr}{a b:n0}(h:NrV w x a b){X:Nat}{cs:t0}{T:o0}{f:Nat×Nat}(hX:w.heap[X]?=some (.cells cs T f))(hn: ∀u∈cs.toList,zE u=true):Off x a b X:=by
 have Rv: ∀(oa:s0) (L:E0) (k c:Nat),IntsAt w oa L→L≠ []→(Value.slice oa k c).ownBlock≠some X:=by
  intro oa L k c hI hL e;have pu:0<L.length:=qh.2 hL;obtain⟨a,h1,h2,h3⟩:=hI.cells 0 pu;rw [h1]at e;have e2:a.block=X:=by simpa [Value.ownBlock] using e
  unfold World.cell? at h3;rw [yo,e2,hX]at h3;simp only at h3;split at h3;·cases h3
  ·have Mu:=xL h3;have:=hn _ (by simpa using Mu);cases this
 obtain⟨oa,ca,ob,cb,rfl,rfl,hf⟩:=h;exact⟨fun h0=>Rv _ _ _ _ hf.1 (jbc h0),fun h0=>Rv _ _ _ _ hf.2 (jbc h0)⟩
theorem yX.off_noInt(h:yX K q S G w){X:Nat}{cs:t0}{T:o0}{f:Nat×Nat}(hX:w.heap[X]?=some (.cells cs T f))(hn: ∀u∈cs.toList,zE u=true):Ko K q S G X:=
 ⟨h.quo.off_noInt hX hn,fun i hi=>(h.kfr i hi).off_noInt hX hn,fun k hk=>(h.vfr k hk).off_noInt hX hn⟩
def jiV:List o0:= [24,29,3,69,39,4,77]
theorem yX.turnR(h:yX K q S G w){X:Nat}(hg:w.grownBy w' (some X)){cs:t0}{T:o0}{f:Nat×Nat}(hX:w.heap[X]?=some (.cells cs T f))(hT:T∉jiV)(hXR:X≠K.RB)(hb:K.w0.heap.size≤X)(ho:Ko K q S G X):yX K q S G w':=by
 have kp: ∀{b:Nat} {cs:t0} {T':o0},w.heap[b]?=some (.cells cs T' (0,0))→T'∈jiV→w'.heap[b]?=some (.cells cs T' (0,0)):=fun {b cs T'} hb hT'=>by
  rw [hg.block b (xZ hb) (fun e=>by injection e with e;exact zD hX hb (fun e2=>hT (e2▸hT')) e.symm)];exact hb
 have tn: ∀{y:Fr} {c d:n0},NrV w y c d→Off y c d X→NrV w' y c d:=fun hy hf=>hy.turn hg fun z hz=>by injection hz with hz;subst hz;exact hf
 exact {h with
  bel:=h.bel.grown hg h.bel.size (fun y hy=>by injection hy with hy;subst hy;exact hb)
  ctb:=kp h.ctb (by decide)
  res:=by rw [hg.block K.RB (xZ h.res) (fun e=>by injection e with e;exact hXR e.symm)];exact h.res
  ordc:=kp h.ordc (by decide)
  nc:=kp h.nc (by decide)
  qc:=kp h.qc (by decide)
  cv:=kp h.cv (by decide)
  wv:=kp h.wv (by decide)
  ca:=kp h.ca (by decide)
  wa:=kp h.wa (by decide)
  kar:=kp h.kar (by decide)
  vs:=fun j hj=>kp (h.vs j hj) (by decide)
  quo:=tn h.quo ho.q
  kfr:=fun j hj=>tn (h.kfr j hj) (ho.k j hj)
  vfr:=fun j hj=>tn (h.vfr j hj) (ho.v j hj)
  els:=h.els.kept hg (by
   rcases h.els.2 with⟨hv,_⟩|⟨g,cap,Es,hv,_,Hu,_⟩;·exact .inl (by rw [hv];rfl)
   ·refine .inr (fun e=>?_);rw [hv]at e;have e2:g=X:=by simpa [Value.ownBlock] using e
    exact zD hX Hu (fun e3=>hT (by rw [e3];decide)) e2.symm)}
theorem yX.turn(h:yX K q S G w){X:Nat}(hg:w.grownBy w' (some X)){cs:t0}{T:o0}{f:Nat×Nat}(hX:w.heap[X]?=some (.cells cs T f))(hT:T∉jiV)(hTR:T≠31)(hb:K.w0.heap.size≤X)(ho:Ko K q S G X):yX K q S G w':=
 h.turnR hg hX hT (zD hX h.res hTR) hb ho
theorem yX.turnO(h:yX K q S G w){X:L0}(hg:w.grownBy w' X)(hX: ∀x,X=some x→(∃cs T f,w.heap[x]?=some (.cells cs T f)∧T∉jiV∧T≠31)∧K.w0.heap.size≤x∧Ko K q S G x):yX K q S G w':=by
 cases X with
 |none=>exact h.below ((jN _ _).grown hg (jO _) (fun y hy=>by cases hy))
 |
  some x=>
  obtain⟨⟨cs,T,f,h1,h2,h5⟩,h3,h4⟩:=hX x rfl;exact h.turn hg h1 h2 h5 h3 h4
end
end Go.Proofs.YtnohcdpnnhmpfaaGreatDoor.TR
