/- Chapter 13, Transfer: count.transfer. -/
import Derived.Test.YtnohcdpnnhmpfaaGreatDoorE24
set_option linter.all false
set_option maxRecDepth 100000
set_option maxHeartbeats 16000000
namespace Go.Proofs.YtnohcdpnnhmpfaaGreatDoor.TR
open Go.RowKit Tryz ML FRP AU CT FM
theorem YQ:(prog.info? 31).map (·.size)=some 4:=by kernel_rfl
theorem YR:(prog.info? 44).map (·.size)=some 5:=by kernel_rfl
theorem jhm(a b:ByteArray):prog.built 31 [(0,.agg #[.string a,.string b])]=some #[.string a,.string b,.slice none 0 0,.slice none 0 0]:=by kernel_rfl
theorem jbE(a b:ByteArray):prog.built 44 [(1,.agg #[.string a,.string b])]=some #[.slice none 0 0,.string a,.string b,.int .i64 0,.slice none 0 0]:=by kernel_rfl
theorem YJ(a b:ByteArray)(x y:n0)(hx:x.oneCell'=true)(hy:y.oneCell'=true):(#[Value.string a,Value.string b,x,y]:t0).all (·.oneCell')=true:=by
 have h1:(Value.string a).oneCell'=true:=rfl;have h2:(Value.string b).oneCell'=true:=rfl;simp [h1,h2,hx,hy]
theorem jgU(a b:ByteArray)(x y z:n0)(hx:x.oneCell'=true)(hy:y.oneCell'=true)(hz:z.oneCell'=true):(#[x,Value.string a,Value.string b,y,z]:t0).all (·.oneCell')=true:=by
 have h1:(Value.string a).oneCell'=true:=rfl;have h2:(Value.string b).oneCell'=true:=rfl;simp [h1,h2,hx,hy,hz]
theorem jjU {K:HK}{s:Nat}{q:Fr}{S:St}{G:HG}{w w':m0}{e:Ending}(h:jhw K s q S G w e w'): ∃(d nv:Nat) (ov:s0) (cv:Nat) (more:Bool),e=.returned (.tuple #[.int .i64 (d:Int),.slice ov nv cv,.bool more])∧ ∃(G':HG) (S':St),yB K q S' G' w'∧yj K G w G' w'∧
 ((more=false∧End K.m s q K.On S∧S'=S∧G'=G)∨
  (more=true∧ ∃(who:E0),who.length=nv∧Dec K.m s q K.On S d who∧w'.ownsRow w.heap.size 3 1 (.slice ov nv cv) who.length (xq (yK who))∧(∀x,(Value.slice ov nv cv).ownBlock=some x→ ¬zI K G' x)∧S'=S.next K.m q d who∧jab K S' G')):=by
 rcases h with⟨h1,rfl,h2,h3⟩|⟨d,who,ob,cb,G',h1,rfl,h2,h3,h4,h5,h6⟩;·exact⟨0,0,none,0,false,rfl,G,S,h2,h3,.inl ⟨rfl,h1,rfl,rfl⟩⟩
 ·exact⟨d,_,_,_,true,rfl,G',_,h4,h5,.inr ⟨rfl,who,rfl,h1,h2,h3,rfl,h6⟩⟩
theorem jcA:(prog.info? 44).map (fun i=>(i.zero,i.size,i.bytes))=some (some (.agg #[.slice none 0 0,.string ⟨#[]⟩,.string ⟨#[]⟩,.int .i64 0,.slice none 0 0]),5,88):=by kernel_rfl
theorem jaY(a b:ByteArray)(o1 o2:s0)(n1 n2 c1 c2:Nat)(d:Int):(∀u∈ [Value.slice o1 n1 c1,.string a,.string b,.int .i64 d,.slice o2 n2 c2],u.oneCell'=true)∧(∀u∈ [Value.slice o1 n1 c1,.string a,.string b,.int .i64 d,.slice o2 n2 c2],noLimb u=true):=by
 constructor<;>
 ·intro u hu;simp only [jl,kD,kH]at hu;rcases hu with rfl|rfl|rfl|rfl|rfl<;>rfl
theorem jbI: ∀u∈(Value.agg #[.slice none 0 0,.string ⟨#[]⟩,.string ⟨#[]⟩,.int .i64 0,.slice none 0 0]).cells.toList,noLimb u=true:=by
 intro u hu;have h:u∈ [Value.slice none 0 0,.string ⟨#[]⟩,.string ⟨#[]⟩,.int .i64 0,.slice none 0 0]:=by simpa [Value.cells] using hu
 exact(jaY _ _ _ _ _ _ _ _ _).2 u h
theorem jej:(prog.info? 27).map (fun i=>(i.zero,i.size,i.bytes))=some (some (.agg #[.string ⟨#[]⟩,.string ⟨#[]⟩]),2,32):=by kernel_rfl
theorem jfC(F:List (Bytes×Bytes)): ∀v∈JF F,noLimb v=true:=by
 intro v hv;unfold JF at hv;obtain⟨p,_,hp⟩:=qj.1 hv;simp only [Yi,jl,kD,kH]at hp;rcases hp with rfl|rfl<;>rfl
theorem jcD(F:List (Bytes×Bytes))(j:Nat)(h:j<F.length):JF (F.take j)++JF [F[j]]=JF (F.take (j+1)):=by
 rw [jfD,List.take_append_getElem]
theorem jeR(c:yH)(oa:s0)(cap:Nat)(oO:s0)(cO:Nat)(oP:s0)(cP:Nat)(O P:C0)(Bs:List (n0×C0))(ob:s0)(cb:Nat)(w:m0)
 (rJ:yW w oO O) (oJ:yW w oP P) (hP:Va w ob Bs) (Sw:1≤c.op.length) (Ws:c.op.length≤12) (hm:Bs.length≤4096) (hR: ∀p∈Bs,Rnk c.op.length p.2) (cG:1≤c.se∧c.se≤c.op.length)
 (Ux:O.length=c.op.length) (Cw:P.length=c.op.length) (Mu: ∀x,x∈O↔0≤x∧x<(c.op.length:Int)) (wD: ∀k (hk:k<O.length),P[O[k].toNat]?=some (k:Int)) (tJ:O.Nodup):
 Calls prog 30 #[.agg #[.string ⟨c.nm.toArray⟩,.slice oa c.op.length cap,.int .i64 c.rl,.int .i64 c.se,.int .i64 c.mo,.slice oO O.length cO,.slice oP P.length cP],.slice ob Bs.length cb] w (jno c.op.length Bs.length c.se.toNat (zW Bs.length c.se.toNat) (O.map Int.toNat) (S0 c.op.length (yT Bs) Bs.length) w):=by
 have QN:=jA (fun w1 h1 h2 h3=>jgC c oa cap oO cO oP cP O P Bs ob cb w1 h1 h2 h3 Sw Ws hm hR cG Ux Cw Mu wD tJ);have lL:=jA rJ;have iL:=jA oJ;have gz:=jA hP;have HR:=jA hR
 have HOT:=jA (show ∀i,i∈O.map Int.toNat↔i<c.op.length from fun i=>by
  rw [jo];constructor
  ·rintro⟨x,hx,rfl⟩;have:=(Mu x).1 hx;omega
  ·intro hi;exact⟨(i:Int),(Mu _).2 ⟨by omega,by omega⟩,by simp⟩)
 clear rJ oJ hP hR Ux Cw wD;go_enter Tryz.func30,Tryz.ntmps30;go_upto_region 1 with(fail);have Bv:O0 w.heap.size w ((w.alloc (.cells #[.string ⟨c.nm.toArray⟩,.slice oa c.op.length cap,.int .i64 c.rl,.int .i64 c.se,.int .i64 c.mo,.slice oO O.length cO,.slice oP P.length cP] 62)).alloc (.cells #[.string ⟨#[]⟩,.string ⟨#[]⟩,.slice none 0 0,.slice none 0 0] 31)):=((jN _ _).alloc (jO _) _).alloc (by simp) _;have uu:((w.alloc (.cells #[.string ⟨c.nm.toArray⟩,.slice oa c.op.length cap,.int .i64 c.rl,.int .i64 c.se,.int .i64 c.mo,.slice oO O.length cO,.slice oP P.length cP] 62)).alloc (.cells #[.string ⟨#[]⟩,.string ⟨#[]⟩,.slice none 0 0,.slice none 0 0] 31)).heap[w.heap.size]?=some (.cells #[.string ⟨c.nm.toArray⟩,.slice oa c.op.length cap,.int .i64 c.rl,.int .i64 c.se,.int .i64 c.mo,.slice oO O.length cO,.slice oP P.length cP] 62 (0,0)):=yM (xh rfl);have Tv:((w.alloc (.cells #[.string ⟨c.nm.toArray⟩,.slice oa c.op.length cap,.int .i64 c.rl,.int .i64 c.se,.int .i64 c.mo,.slice oO O.length cO,.slice oP P.length cP] 62)).alloc (.cells #[.string ⟨#[]⟩,.string ⟨#[]⟩,.slice none 0 0,.slice none 0 0] 31)).heap[w.heap.size+1]?=some (.cells #[.string ⟨#[]⟩,.string ⟨#[]⟩,.slice none 0 0,.slice none 0 0] 31 (0,0)):=xh (by simp);generalize hB:w.heap.size=B at*;refine xr (fun w1=>O0 B w w1∧w1.heap[B]?=some (.cells #[.string ⟨c.nm.toArray⟩,.slice oa c.op.length cap,.int .i64 c.rl,.int .i64 c.se,.int .i64 c.mo,.slice oO O.length cO,.slice oP P.length cP] 62 (0,0))∧w1.heap[B+1]?=some (.cells #[.string ⟨#[]⟩,.string ⟨#[]⟩,.slice none 0 0,.slice none 0 0] 31 (0,0))) ⟨Bv,uu,Tv⟩ (fun w1 ts=>?_);have HB:=jA hB;have B1:=jA ts.1;have X1:=jA ts.2.1;have Y1:=jA ts.2.2;have Uw:O0 w.heap.size w w1:=by rw [hB];exact ts.1
 have Q1:=jA (QN.u w1 (lL.u.below Uw) (iL.u.below Uw) (gz.u.below Uw));have hY1:B+1<w1.heap.size:=xZ ts.2.2;clear Bv uu Tv hB ts Uw;go_upto_region 2 with(first
  |(go_at_call 71;refine Q1.u.mono ?_;rintro e w2 ⟨K,G,rfl,hKc,hKm,hKO,sI,hKK,hH,hF⟩)
  |((with_reducible refine yE 62 ?_);refine xi ?_ 62 (.tmp 2) ?_ B _ _ _ _ ?_ X1.u underlying62 ?_ zQ ?_;rfl;rfl;rfl;rfl))
 have hX1l:B<w1.heap.size:=xZ X1.u;have it:=hH.bel;rw [sI]at it;have Y2:=jA (xe it hY1 Y1.u);have B2:=jA (B1.u.trans (it.mono (jX hX1l)));have hO2:K.On=O.map Int.toNat:=by unfold HK.On;rw [hKO]
 have sE:=jA (show Inv c.op.length c.se.toNat Bs.length (zW Bs.length c.se.toNat) K.On (S0 c.op.length (yT Bs) Bs.length)by
  have h1:=jeg (n:=c.op.length) (s:=c.se.toNat) (O:=K.On) (Rs:=yT Bs) (by omega) Ws hKK.ond (fun i=>by rw [hKK.omem,hKc]) (fun rk Pu i hi=>by
   unfold yT at Pu;obtain⟨p,hp,rfl⟩:=jo.1 Pu;exact(HR.u p hp).lt i hi)
  have e:(yT Bs).length=Bs.length:=by unfold yT;rw [kS]
  rw [e]at h1;exact h1)
 have HH:=jA hH;have HF:=jA hF;have UB:=jA hKK;have OF:=jA hKm;have BK:=jA (show O0 B w K.w0 by rw [sI];exact B1.u);have hKB:B+1<K.w0.heap.size:=by rw [sI];exact hY1
 have HOE:=jA hO2;clear it hO2 hH hF hKK hKm hKO sI Q1 QN X1 Y1 B1 lL iL gz HR HOT hX1l Mu tJ;subst hKc;obtain⟨s,hs⟩: ∃s:Nat,K.c.se=s:=⟨K.c.se.toNat,by omega⟩;have rC:K.c.se.toNat=s:=by omega
 rw [rC]at sE HH;have gA:=jA hs;obtain⟨q,hq⟩: ∃q,q=zW Bs.length s:=⟨_,rfl⟩;rw [←hq]at sE HH;have HQD:=jA hq;have HQS:=jA (sE.u.q_sml Ws hm);clear hq rC hs;have Px:=jA JJ;have q7:w2.cell? ⟨K.hb,7,none⟩=some K.qn:=jM w2 K.hb 7 _ _ _ HH.u.hall;have q8:w2.cell? ⟨K.hb,8,none⟩=some K.qd:=jM w2 K.hb 8 _ _ _ HH.u.hall;go_upto_region 3 with(first
  |(go_at_call 72;refine(jhE w2 HH.u.quo HQS.u.lens).mono ?_;rintro e w3 ⟨rfl,b3⟩;have B3:=jA b3;clear b3)
  |(refine xg rfl rfl 31 _ _ rfl w3.heap.size #[.string ⟨#[]⟩,.string ⟨#[]⟩,.slice none 0 0,.slice none 0 0] #[.string ⟨(txt q).1.toArray⟩,.string ⟨(txt q).2.toArray⟩,.slice none 0 0,.slice none 0 0] 31 rfl rfl (xh rfl) rfl YQ (YJ _ _ _ _ rfl rfl) ?_;intro w4 ho hp)
  |(with_reducible refine wpList_build rfl 31 _ rfl [(0,.agg #[.string ⟨(txt q).1.toArray⟩,.string ⟨(txt q).2.toArray⟩])] (by first|(simp;done)|(simp [Act.eval];done)) _ (jhm _ _) ?_))
 have Fz:O0 w3.heap.size w3 w4:=xl ((jN _ _).alloc (jO _) _) ho (jO _);have LO:O0 w2.heap.size w2 w4:=B3.u.trans (Fz.mono B3.u.size);have hYl:B+1<w2.heap.size:=xZ Y2.u;rw [←OF.u]at sE HH HF HQD;obtain⟨OB,GM⟩: ∃OB,OB=w3.heap.size:=⟨_,rfl⟩;rw [←GM]at hp ⊢;have HT4:=jA (show Xl K q (S0 K.c.op.length (yT Bs) K.m) G w4 OB (B+1) [] (.slice none 0 0) []from⟨HH.u.below LO,hp,xe LO hYl Y2.u,(by have:=B3.u.size;omega),GRow.nil,rfl,fun i hi=>(by simp at hi)⟩);have B4:=jA (B2.u.trans (LO.mono (by have:=B2.u.size;rw [←HB.u];exact this)));have hOBl:K.w0.heap.size≤OB:=by have h1:=HH.u.bel.size;have h2:=B3.u.size;omega
 obtain⟨T0,sU⟩: ∃T0:St,T0=S0 K.c.op.length (yT Bs) K.m:=⟨_,rfl⟩;rw [←sU]at HT4 sE HF;have HT0:=jA sU;have hmu:T0.mu K.On≤36:=by
  have h1:=Zv (l:=K.On) T0.cont;have h2:=UB.u.olen;have h3:(T0.wait K.On).length≤K.On.length:=qJ _ _;show 2* (K.On.filter T0.cont).length+(T0.wait K.On).length≤36;omega
 have mt:B≤w4.heap.size:=by have:=B4.u.size;rw [HB.u]at this;exact this
 have Ay:K.m≤4096:=UB.u.m4;clear ho hp Fz LO hYl GM sU q7 q8 HH Y2 B2 B3
 as_aux_lemma=>
 go_wp2_with fail;go_loopg [] (T0.mu K.On) (fun N wr=> ∃(S:St) (R:List Rd) (G:HG) (vR:n0) (CS:List (A0)),N=S.mu K.On∧XF K.c.op.length K.m s q K.On T0 R S∧jab K S G∧Xl K q S G wr OB (B+1) R vR CS∧O0 B w wr);case atStart=>exact⟨T0,[],G,_,[],rfl,.nil,HF.u,HT4.u,B4.u⟩
 case round=>
 clear HF HT4 B4;obtain⟨S,R,G,vR,CS,rfl,UC,pM,aF,Uw⟩:=hrel;have RU:=jA UC;have FU:=jA pM;have TA:=jA aF;have BW:=jA Uw;obtain⟨hI,Ds⟩:=UC.inv sE.u Ay;have HI:=jA hI;have Ny:R.length≤36:=by omega
 clear UC pM aF Uw Ds;have hww:w.heap.size≤wr.heap.size:=BW.u.size;have QT:=jA (jhC K q S G wr TA.u.hall Ws Ay (S.tot K.m) (fun i hi j hj=>hI.sum_sml Ws Ay (L:=(G.PL (some i)).take j) ((TA.u.hall.pls (some i)).1.sublist (List.take_sublist _ _)) (fun k hk=>((TA.u.hall.pls _).2 k (qR hk)).1)) (fun k hk=>hI.wt_sml Ws Ay hk) (fun i hi=>⟨joF K.m S i (hI.kok i) hI.wok (jdS (TA.u.hall.pls _).1 (jcE TA.u.hall FU.u i)),hI.t_sml Ws Ay hi,hI.k_sml Ws Ay hi⟩));go_upto_region 4 with(go_at_call 73;refine QT.u.mono ?_;rintro e w5 ⟨tv,xa,xb,rfl,ht5,b5⟩);have T5:=jA ht5;have B5:=jA b5;have H5:=jA (TA.u.hall.below b5);obtain⟨on,cn,eM,_,WL⟩:=Yp H5.u.nones.own;have k10:w5.cell? ⟨K.hb,10,none⟩=some (.slice on (G.PL none).length cn):=by rw [←eM];exact jM w5 K.hb 10 _ _ _ H5.u.hall
 have QWe:=jA (jca K q S G w5 H5.u (G.PL none) (fun k hk=>((H5.u.pls _).2 k hk).1) on cn WL (jU (H5.u.plen none) Ay) (fun j hj=>hI.sum_sml Ws Ay (L:=(G.PL none).take j) ((H5.u.pls none).1.sublist (List.take_sublist _ _)) (fun k hk=>((H5.u.pls _).2 k (qR hk)).1)) (fun k hk=>hI.wt_sml Ws Ay ((H5.u.pls _).2 k hk).1));have hnon:Qy zero ((G.PL none).map fun k=>(S.V k).wt)=S.non K.m:=joR K.m S hI.wok (jdS (H5.u.pls none).1 (fun k=>⟨fun h1=>(H5.u.pls _).2 k h1,fun h1=>by have:=FU.u k h1.1;rwa [h1.2]at this⟩));rw [hnon]at QWe;have aX:=jA (hI.n_sml Ws Ay);clear QT ht5 b5 eM WL hnon hI;obtain⟨g,cg,rfl,AO,RJ,hcg⟩:=T5.u.form Sw;go_upto_region 6 with(first
  |(go_at_call 74;refine QWe.u.mono ?_;rintro e w6 ⟨na,nb,rfl,f6,b6⟩;have F6:=jA f6;have B6:=jA b6;clear f6 b6)
  |(go_at_call 72;refine(jhE w6 F6.u aX.u.lens).mono ?_;rintro e w7 ⟨rfl,b7⟩;have B7:=jA b7;clear b7)
  |(refine xg rfl rfl 44 _ _ rfl w7.heap.size #[.slice none 0 0,.string ⟨#[]⟩,.string ⟨#[]⟩,.int .i64 0,.slice none 0 0] #[.slice none 0 0,.string ⟨(txt (S.non K.m)).1.toArray⟩,.string ⟨(txt (S.non K.m)).2.toArray⟩,.int .i64 0,.slice none 0 0] 44 rfl rfl (xh rfl) rfl YR (jgU _ _ _ _ _ rfl rfl rfl) ?_;intro w8 ho hp)
  |(with_reducible refine wpList_build rfl 44 _ rfl [(1,.agg #[.string ⟨(txt (S.non K.m)).1.toArray⟩,.string ⟨(txt (S.non K.m)).2.toArray⟩])] (by first|(simp;done)|(simp [Act.eval];done)) _ (jbE _ _) ?_))
 obtain⟨C8,hC8⟩: ∃C8,C8=w7.heap.size:=⟨_,rfl⟩;rw [←hC8]at hp ho ⊢;obtain⟨NP,hNP⟩: ∃NP,NP=txt (S.non K.m):=⟨_,rfl⟩;rw [←hNP]at hp ⊢;have HNP:=jA hNP;clear hNP;generalize wr=wo at*;have b57:O0 w5.heap.size w5 w7:=B6.u.trans (B7.u.mono B6.u.size);have b58:O0 w5.heap.size w5 w8:=xl (b57.alloc b57.size _) ho (by have:=b57.size;omega);have nT:wo.heap.size≤w5.heap.size:=B5.u.size;have hC8r:wo.heap.size≤C8:=by have:=b57.size;omega
 have T8:=jA (T5.u.below b58);have B8:=jA (B5.u.trans (b58.mono nT));have P8:=jA hp;obtain⟨TX,oI⟩: ∃TX,TX=((List.range K.c.op.length).map (S.tot K.m)).map txt:=⟨_,rfl⟩;have UR:=jA oI;have PN:TX.length=K.c.op.length:=by rw [oI];simp
 have htj: ∀j (h:j<TX.length),TX[j]=txt (S.tot K.m j):=fun j h=>by subst oI;simp
 have eA:=jA PN;have HTJ:=jA htj;have PE:=jA (fun j hj=>HI.u.t_sml Ws Ay (i:=j) hj);obtain⟨f0,uA,Uv,WF,bJ⟩:=info_parts jej;have F0:=jA uA;have fY:=jA Uv;have eY:=jA WF;have dY:=jA bJ;clear hp ho hC8 b57 b58 T5 B6 B7 F6 QWe aX oI PN htj uA Uv WF bJ k10 H5;go_loopw [32] (fun v wi=> ∃(j:Nat) (tv:n0),v=.int .i64 j∧j≤K.c.op.length∧wi.heap[C8]?=some (.cells #[tv,.string ⟨NP.1.toArray⟩,.string ⟨NP.2.toArray⟩,.int .i64 0,.slice none 0 0] 44 (0,0))∧GRow noLimb wi wo.heap.size 27 2 tv j (JF (TX.take j))∧KG wi wo.heap.size K.c.op.length (S.tot K.m) (.slice (some ⟨g,0,none⟩) K.c.op.length cg) xa xb∧O0 wo.heap.size wo wi) (fun v _=>K.c.op.length-(intOf v).toNat);case atStart=>exact⟨0,_,rfl,ja _,P8.u,GRow.nil,T8.u,B8.u⟩
 case round=>
 clear P8 T8 B8;obtain⟨j,UF,rfl,hj,tM,hrw,bG,cD⟩:=hrel;have P8:=jA tM;have R8:=jA hrw;have T8:=jA bG;have B8:=jA cD;clear tM hrw bG cD
 rename m0=>wi0
 by_cases ns:j<K.c.op.length;case neg=>
  obtain⟨dk,Ms⟩:=Go.yg ns;obtain rfl:j=K.c.op.length:=by omega
  have hgn: ¬zI K G g:=fun hm=>by have:=VX TA.u.hall hm;omega
  have TAi:=jA (TA.u.below B8.u);have QR:=jA (jjV K s q S G wi0 TAi.u.hall UB.u HI.u FU.u gA.u wo.heap.size g cg xa xb T8.u hgn);have etx:TX.take K.c.op.length=TX:=by rw [←eA.u];exact jr
  rw [etx]at R8;have hK8:K.w0.heap.size≤wo.heap.size:=TA.u.hall.bel.size;have n8: ¬zI K G C8:=fun hm=>by have:=VX TA.u.hall hm;omega
  have nR8: ∀x,UF.ownBlock=some x→ ¬zI K G x:=fun x hx hm=>by
   have h1:=(GRow.typed R8.u x hx).1;have:=VX TA.u.hall hm;omega
  clear T8 etx f0 F0 fY eY dY FU;go_upto_region 12 with(go_at_call 75;refine QR.u.mono ?_;rintro e w9 wO;obtain⟨d,nv,ov,cv,more,rfl,G',S',h9,st,eR⟩:=jjU wO;have H9:=jA h9;have ST:=jA st;have HC:=jA eR;clear wO eR h9 st;have P9:=jA (ST.u.keep P8.u n8);have TA9:=jA (TAi.u.step ST.u H9.u);have R9:=jA (ST.u.row R8.u nR8);have h8w:C8<w9.heap.size:=xZ P9.u;have m3:w9.cell? ⟨C8,3,none⟩=some (.int .i64 0):=jM w9 C8 3 _ _ _ P9.u;have z3:w9.frozen? ⟨C8,3,none⟩=false:=jc w9 C8 3 _ _ P9.u;have m4:w9.cell? ⟨C8,4,none⟩=some (.slice none 0 0):=jM w9 C8 4 _ _ _ P9.u;have z4:w9.frozen? ⟨C8,4,none⟩=false:=jc w9 C8 4 _ _ P9.u);have hC8o:vR.ownBlock≠some C8:=fun e=>by have:=jfq TA.u.rows.own e;omega
  have tRn:Trn 44 K.w0.heap.size (some C8) w9 ((w9.setCell ⟨C8,3,none⟩ (.int .i64 (d:Int))).setCell ⟨C8,4,none⟩ (.slice ov nv cv)):=Trn.of_only ((yC 3 _).trans (yC 4 _)) P9.u (by omega) (fun u hu=>by
   simp only [jl,kD,kH]at hu;rcases hu with rfl|rfl|rfl|rfl|rfl;·rcases R9.u.own.2 with⟨hv,_⟩|⟨_,_,_,hv,_⟩<;>rw [hv]<;>rfl
   all_goals rfl)
  have hP9:((w9.setCell ⟨C8,3,none⟩ (.int .i64 (d:Int))).setCell ⟨C8,4,none⟩ (.slice ov nv cv)).heap[C8]?=some (.cells #[UF,.string ⟨NP.1.toArray⟩,.string ⟨NP.2.toArray⟩,.int .i64 (d:Int),.slice ov nv cv] 44 (0,0)):=jd _ C8 4 _ _ _ (jd w9 C8 3 _ _ _ P9.u);refine xr (fun wt=>Xl K q S' G' wt OB (B+1) R vR CS∧wt.heap[C8]?=some (.cells #[UF,.string ⟨NP.1.toArray⟩,.string ⟨NP.2.toArray⟩,.int .i64 (d:Int),.slice ov nv cv] 44 (0,0))∧GRow noLimb wt wo.heap.size 27 2 UF K.c.op.length (JF TX)∧Trn 44 K.w0.heap.size (some C8) w9 wt) ⟨TA9.u.turn tRn hC8o,hP9,tRn.rowT R9.u (by decide),tRn⟩ (fun wt ix=>?_);have sG:=jA ix.1;have Pt:=jA ix.2.1;have Rt:=jA ix.2.2.1;have tt:=jA ix.2.2.2;have nR9: ∀x,UF.ownBlock=some x→ ¬zI K G' x:=fun x hx=>ST.u.not_mine (jfq R8.u.own hx) (nR8 x hx);have hKt:K.w0.heap.size≤wt.heap.size:=ix.1.hall.bel.size;have hKo:K.w0.heap.size≤wo.heap.size:=TA.u.hall.bel.size;have hKi:K.w0.heap.size≤wi0.heap.size:=TAi.u.hall.bel.size;clear ix hP9 tRn hC8o TA9 P9 R9 m3 z3 m4 z4 h8w TAi P8 R8 TA QR;obtain⟨oR,cR,rfl⟩:=Jx sG.u.rows.own;obtain⟨ot,ct,rfl⟩:=Jx Rt.u.own;have Oy:OB<wt.heap.size:=xZ sG.u.u;rcases HC.u with⟨rfl,wA,rfl,rfl⟩|⟨rfl,who,hwn,CO,BQ,aI,rfl,ED⟩
  ·obtain⟨oe,ce,Nx⟩:=Jx sG.u.hall.els.own;have wG:=jA Nx;have n14:wt.cell? ⟨K.hb,14,none⟩=some (.slice oe S'.el.length ce):=by
    rw [←Nx];exact jM wt K.hb 14 _ _ _ sG.u.hall.hall
   have n3:wt.cell? ⟨OB,3,none⟩=some (.slice none 0 0):=jM wt OB 3 _ _ _ sG.u.u;have z3:wt.frozen? ⟨OB,3,none⟩=false:=jc wt OB 3 _ _ sG.u.u;clear Nx;go_upto_region 14 with(fail);have IY:=sG.u.u;have hou:(wt.setCell ⟨OB,3,none⟩ (.slice oe S'.el.length ce)).heap[OB]?=some (.cells #[.string ⟨(txt q).1.toArray⟩,.string ⟨(txt q).2.toArray⟩,.slice oR R.length cR,.slice oe S'.el.length ce] 31 (0,0)):=jd wt OB 3 _ _ _ IY
   have tO:Trn 31 K.w0.heap.size (some OB) wt (wt.setCell ⟨OB,3,none⟩ (.slice oe S'.el.length ce)):=Trn.of_only (yC 3 _) IY hOBl (fun u hu=>by
    simp only [jl,kD,kH]at hu;rcases hu with rfl|rfl|rfl|rfl<;>rfl)
   have UC:=tO.keepX sG.u.res (fun e=>sG.u.ne (by injection e));have CE:=sG.u.rds.trn tO;have gR:O0 B w (wt.setCell ⟨OB,3,none⟩ (.slice oe S'.el.length ce)):=xl (BK.u.trans (sG.u.hall.bel.mono (by omega))) (yC 3 _) (by omega);refine xr (fun wu=>wu.heap[OB]?=some (.cells #[.string ⟨(txt q).1.toArray⟩,.string ⟨(txt q).2.toArray⟩,.slice oR R.length cR,.slice oe S'.el.length ce] 31 (0,0))∧wu.heap[B+1]?=some (.cells #[.string ⟨#[]⟩,.string ⟨#[]⟩,.slice none 0 0,.slice none 0 0] 31 (0,0))∧jcY K G' wu (.slice oR R.length cR) R CS G'.ev S'.el∧O0 B w wu) ⟨hou,UC,CE,gR⟩ (fun wu hwu=>?_);have HOU:=jA hwu.1;have HRU:=jA hwu.2.1;have HRD:=jA hwu.2.2.1;have HBU:=jA hwu.2.2.2;clear hwu hou tO UC CE gR IY n14 n3 z3;have HEN:=jA wA;go_wp2_with (first
    |(refine xg rfl rfl 31 _ _ rfl (B+1) #[.string ⟨#[]⟩,.string ⟨#[]⟩,.slice none 0 0,.slice none 0 0] #[.string ⟨(txt q).1.toArray⟩,.string ⟨(txt q).2.toArray⟩,.slice oR R.length cR,.slice oe S'.el.length ce] 31 rfl rfl HRU.u rfl YQ (YJ _ _ _ _ rfl rfl) ?_;intro wv ho hp)
    |((with_reducible refine yE 31 ?_);refine xi ?_ 31 (.tmp 6) ?_ OB _ _ _ _ ?_ HOU.u underlying31 ?_ YQ ?_;rfl;rfl;rfl;rfl))
   refine jq (kB rfl _ wv (B+1) _ _ _ _ rfl hp underlying31 rfl YQ) rfl ?_;have e1:K.c.se.toNat=s:=by have:=gA.u;omega
   rw [←OF.u,e1,←HQD.u,←HOE.u,←HT0.u]
   have tV:Trn 31 (B+1) (some (B+1)) wu wv:=Trn.of_only ho HRU.u (jO _) (fun u hu=>by
    simp only [jl,kD,kH]at hu;rcases hu with rfl|rfl|rfl|rfl<;>rfl)
   exact⟨K,G',R,S',_,_,CS,RU.u,HEN.u,rfl,by rw [←wG.u];exact HRD.u.trn tV,by rw [HB.u];exact xl HBU.u ho (by omega)⟩
  ·have HW:=jA (And.intro hwn (And.intro CO (And.intro BQ (And.intro aI ED))));have n2:wt.cell? ⟨OB,2,none⟩=some (.slice oR R.length cR):=jM wt OB 2 _ _ _ sG.u.u;clear hwn CO BQ aI ED;obtain⟨j0,eI,sD,fJ,oQ⟩:=info_parts jcA;have J0:=jA eI;have SA:=jA sD;have OA:=jA fJ;have MA:=jA oQ;clear eI sD fJ oQ
   have RW:=jA (show RdV K G' wt (S.rd K.c.op.length K.m d who) [.slice ot K.c.op.length ct,.string ⟨NP.1.toArray⟩,.string ⟨NP.2.toArray⟩,.int .i64 (d:Int),.slice ov nv cv]from⟨_,_,(by rw [HNP.u];rfl),by
    have h1:=JM Rt.u.own hKo;rw [UR.u]at h1;have e2:(S.rd K.c.op.length K.m d who).tots.length=K.c.op.length:=by simp [St.rd]
    rw [e2];exact h1,by
    have h1:=jfp tt.u (by decide) (JM HW.u.2.2.1 hKi);exact h1,nR9,HW.u.2.2.2.1⟩)
   have aw:=jA ((jN wt.heap.size wt).alloc (jO _) (.cells #[.slice ot K.c.op.length ct,.string ⟨NP.1.toArray⟩,.string ⟨NP.2.toArray⟩,.int .i64 (d:Int),.slice ov nv cv] 44));have Hv:=jA (sG.u.rows.below aw.u);go_wp2_with (first
    |((with_reducible refine yE 44 ?_);refine xi ?_ 44 (.tmp 8) ?_ C8 _ _ _ _ ?_ Pt.u underlying44 ?_ YR ?_;rfl;rfl;rfl;rfl)
    |(at_builtin;refine yk (good:=noLimb) _ rfl (.tmp 62) (.tmp 64) 28 rfl K.w0.heap.size 44 j0 (.agg #[.slice none 0 0,.string ⟨#[]⟩,.string ⟨#[]⟩,.int .i64 0,.slice none 0 0]) 5 88 underlying28 J0.u SA.u OA.u MA.u rfl (by decide) jbI (.slice oR R.length cR) R.length CS.flatten rfl Hv.u ⟨wt.heap.size,0,none⟩ 1 1 [.slice ot K.c.op.length ct,.string ⟨NP.1.toArray⟩,.string ⟨NP.2.toArray⟩,.int .i64 (d:Int),.slice ov nv cv] rfl rfl (zK (xh rfl)) (jaY _ _ _ _ _ _ _ _ _).1 (jaY _ _ _ _ _ _ _ _ _).2 (fun _=>by decide) (by unfold maxLen;omega) (by omega) (by simp;omega) _ rfl ?_;intro g9 c9 wx own hg hf tz;have PA:=jA (jlU sG.u aw.u hg rfl own RW.u hOBl);have n2:wx.cell? ⟨OB,2,none⟩=some (.slice oR R.length cR):=PA.u.1;have z2:wx.frozen? ⟨OB,2,none⟩=false:=PA.u.2.1;have hOx:OB<wx.heap.size:=PA.u.2.2.1;clear aw Hv hg own hf tz))
   have ut:=RU.u.snoc HW.u.2.1;have hTN:=PA.u.2.2.2
   go_roundg ((S.next K.m q d who).mu K.On)
   case rel=>exact⟨_,_,G',_,_,rfl,ut,HW.u.2.2.2.2,hTN,BK.u.trans (hTN.hall.bel.mono (by omega))⟩
   case measure=>exact(HI.u.next Ay HW.u.2.1).2
 obtain⟨dk,Ms,Py⟩:=Go.yD ns
 have FJ:=jA (T8.u.frs j ns);go_upto_region 8 with(first
  |(refine Yo rfl 90 _ rfl ⟨g,j*2,none⟩ rfl [xa j,xb j] _ (T8.u.mid ns) underlying90 rfl Px.u ?_)
  |(refine xg rfl rfl 90 _ _ rfl wi0.heap.size #[.slice none 0 0,.slice none 0 0] #[xa j,xb j] 90 rfl rfl (xh rfl) rfl Px.u (zd _ _ FJ.u.noLimb.2.2.1 FJ.u.noLimb.2.2.2) ?_;intro w9 ho hp))
 have bz:O0 wi0.heap.size wi0 w9:=xl ((jN _ _).alloc (jO _) _) ho (jO _);have LG:wo.heap.size≤wi0.heap.size:=B8.u.size;have P9:=jA (xe bz (xZ P8.u) P8.u);have R9:=jA (R8.u.below bz);have T9:=jA (T8.u.below bz);have B9:=jA (B8.u.trans (bz.mono LG));have F9:=jA (FJ.u.below bz);have X9:=jA hp;have hD:wi0.heap.size<w9.heap.size:=xZ hp;generalize wi0.heap.size=D at*;have gV:C8<w9.heap.size:=xZ P9.u;have d8: ∀x:xj w9.heap.size w9,x.w.cell? ⟨C8,0,none⟩=some UF:=fun x=>jM _ C8 0 _ _ _ (xe x.2 gV P9.u);clear bz ho hp P8 R8 T8 B8 FJ;refine Seg.xf (fun w'=> ∃x:xj w9.heap.size w9,w'=x.w) [([0,1,2],3),([],4)] [] 5 (by kernel_rfl) (by kernel_rfl) (fun _ _ d _ _ h=>by cases d<;>exact h) (⟨⟨_,(jN _ _).drew⟩,rfl⟩) ?_;simp only [jK,Seg.opAt,Seg.xu];iterate 2 first|go_big_quiet_step (fail)|quiet_step (fail)
 refine yY rfl 90 _ rfl D #[xa j,xb j] _ _ _ rfl X9.u hD underlying90 rfl Px.u ?_;refine jR ?_;intro Kc hK;simp only [Region.wanted,jY];have QL:=jA (jhE w9.drew (F9.u.below (jN _ _).drew) (PE.u j ns).lens);have Dw:j<TX.length:=by rw [eA.u];exact ns
 have pS:=jA (HTJ.u j Dw);obtain⟨XP,hXP⟩: ∃XP,XP=txt (S.tot K.m j):=⟨_,rfl⟩;rw [←hXP]at QL pS;clear hXP;go_wp2_with (go_at_call 72;refine QL.u.mono ?_;rintro e wb ⟨rfl,IB⟩);have rB:=jA (yq IB);refine hK _ _ ⟨⟨wb,rB.u⟩,rfl⟩ ?_;clear hK Kc IB d8 QL;repeat (any_goals (first|go_big_quiet_step (fail)|quiet_step (fail)))
 refine jR ?_;intro Kc hK;first|go_simp|skip
 go_wp2_with fail;have bh:O0 wb.heap.size wb (wb.alloc (.cells #[.string ⟨XP.1.toArray⟩,.string ⟨XP.2.toArray⟩] 27)):=(jN _ _).alloc (jO _) _;have ed:(wb.alloc (.cells #[.string ⟨XP.1.toArray⟩,.string ⟨XP.2.toArray⟩] 27)).heap[wb.heap.size]?=some (.cells #[.string ⟨XP.1.toArray⟩,.string ⟨XP.2.toArray⟩] 27 (0,0)):=xh rfl;have tE:=jA (rB.u.trans (bh.mono rB.u.size));refine hK _ _ ⟨⟨_,tE.u⟩,rfl⟩ ?_;clear hK Kc bh rB;generalize (wb.alloc (.cells #[.string ⟨XP.1.toArray⟩,.string ⟨XP.2.toArray⟩] 27))=ew at*;generalize wb.heap.size=C at*;have WM:=jA (xe tE.u gV P9.u);have UM:=jA (R9.u.below tE.u);have NR:=jA (T9.u.below tE.u);have uT:wo.heap.size≤w9.heap.size:=B9.u.size;have D11:=jA (B9.u.trans (tE.u.mono uT));have EQ:wo.heap.size≤ew.heap.size:=D11.u.size;clear P9 R9 T9 B9 F9 X9 hD gV tE;repeat (any_goals (first|go_big_quiet_step (fail)|quiet_step (fail)))
 refine jR ?_;go_wp2_with (at_builtin;refine yk (good:=noLimb) _ rfl (.tmp 37) (.tmp 40) 42 rfl wo.heap.size 27 f0 (.agg #[.string ⟨#[]⟩,.string ⟨#[]⟩]) 2 32 underlying42 F0.u fY.u eY.u dY.u rfl (by decide) (fun u hu=>by simp [Value.cells]at hu;subst hu;rfl) UF j (JF (TX.take j)) rfl UM.u ⟨C,0,none⟩ 1 1 (JF [XP]) rfl rfl (zK ed) (jem _) (jfC _) (fun _=>by decide) (by unfold maxLen;omega) (by omega) (by omega) _ rfl ?_;intro g9 c9 At own hg hf tz;have BS:Trn 27 wo.heap.size UF.ownBlock ew At:=⟨hg,GRow.typed UM.u⟩;have NE:=jA (BS.keep WM.u (by decide));have n12:At.cell? ⟨C8,0,none⟩=some UF:=jM At C8 0 _ _ _ NE.u;have z12:At.frozen? ⟨C8,0,none⟩=false:=jc At C8 0 _ _ NE.u;have lE:=jA (show KG At wo.heap.size K.c.op.length (S.tot K.m) (.slice (some ⟨g,0,none⟩) K.c.op.length cg) xa xb from⟨BS.rowT NR.u.row (by decide),fun i hi=>BS.fr (NR.u.frs i hi)⟩);have D12:=jA (BS.below D11.u);have h8w:C8<At.heap.size:=xZ NE.u);go_roundw;case rel=>
  have t13:Trn 44 wo.heap.size (some C8) At (At.setCell ⟨C8,0,none⟩ (.slice (some ⟨g9,0,none⟩) (j+1) c9)):=Trn.of_only (yC 0 _) NE.u hC8r (fun u hu=>by
   simp only [jl,kD,kH]at hu;rcases hu with rfl|rfl|rfl|rfl|rfl;·rcases UM.u.own.2 with⟨hv,_⟩|⟨_,_,_,hv,_⟩<;>rw [hv]<;>rfl
   all_goals rfl)
  refine⟨j+1,_,by go_num,by omega,jd At C8 0 _ _ _ NE.u,?_,⟨t13.rowT lE.u.row (by decide),fun i hi=>t13.fr (lE.u.frs i hi)⟩,t13.below D12.u⟩;rw [←jcD TX j Dw,pS.u];exact t13.rowT own (by decide)
 case measure=>simp [intOf];omega
end Go.Proofs.YtnohcdpnnhmpfaaGreatDoor.TR
