/-
  Chapter 13, Transfer: count.transfer. Printed by tools/gentrans.py.
-/
import Derived.Test.YtnohcdpnnhmpfaaGreatDoorQ27
set_option linter.unusedVariables false
set_option linter.unusedSimpArgs false
set_option maxRecDepth 100000
set_option maxHeartbeats 16000000
namespace Go.Proofs.YtnohcdpnnhmpfaaGreatDoor.TR
open Go.RowKit Tryz ML FRP AU CT FM
theorem XV:(prog.info? 31).map (·.size)=some 4:=by kernel_rfl
theorem JX:(prog.info? 44).map (·.size)=some 5:=by kernel_rfl
theorem jfw(a b:ByteArray):prog.built 31 [(0,.agg #[.string a,.string b])]=some #[.string a,.string b,.slice none 0 0,.slice none 0 0]:=by kernel_rfl
theorem jaz(a b:ByteArray):prog.built 44 [(1,.agg #[.string a,.string b])]=some #[.slice none 0 0,.string a,.string b,.int .i64 0,.slice none 0 0]:=by kernel_rfl
theorem JR(a b:ByteArray)(x y:Value)(hx:x.oneCell'=true)(hy:y.oneCell'=true):(#[Value.string a,Value.string b,x,y]:Array Value).all (·.oneCell')=true:=by
 have h1:(Value.string a).oneCell'=true:=rfl;have h2:(Value.string b).oneCell'=true:=rfl;simp [h1,h2,hx,hy]
theorem ZW(a b:ByteArray)(x y z:Value)(hx:x.oneCell'=true)(hy:y.oneCell'=true)(hz:z.oneCell'=true):(#[x,Value.string a,Value.string b,y,z]:Array Value).all (·.oneCell')=true:=by
 have h1:(Value.string a).oneCell'=true:=rfl;have h2:(Value.string b).oneCell'=true:=rfl;simp [h1,h2,hx,hy,hz]
theorem jhV {K:HK}{s:Nat}{q:Fr}{S:St}{G:HG}{w w':World}{e:Ending}(h:jfD K s q S G w e w'): ∃(d nv:Nat) (ov:Option Addr) (cv:Nat) (more:Bool),e=.returned (.tuple #[.int .i64 (d:Int),.slice ov nv cv,.bool more])∧ ∃(G':HG) (S':St),xZ K q S' G' w'∧yQ K G w G' w'∧
 ((more=false∧End K.m s q K.On S∧S'=S∧G'=G)∨
  (more=true∧ ∃(who:List Nat),who.length=nv∧Dec K.m s q K.On S d who∧w'.ownsRow w.heap.size 3 1 (.slice ov nv cv) who.length (xU (xq who))∧(∀x,(Value.slice ov nv cv).ownBlock=some x→ ¬yq K G' x)∧S'=S.next K.m q d who∧Yz K S' G')):=by
 rcases h with⟨h1,rfl,h2,h3⟩|⟨d,who,ob,cb,G',h1,rfl,h2,h3,h4,h5,h6⟩;·exact⟨0,0,none,0,false,rfl,G,S,h2,h3,.inl ⟨rfl,h1,rfl,rfl⟩⟩
 ·exact⟨d,_,_,_,true,rfl,G',_,h4,h5,.inr ⟨rfl,who,rfl,h1,h2,h3,rfl,h6⟩⟩
theorem jbn:(prog.info? 44).map (fun i=>(i.zero,i.size,i.bytes))=some (some (.agg #[.slice none 0 0,.string ⟨#[]⟩,.string ⟨#[]⟩,.int .i64 0,.slice none 0 0]),5,88):=by kernel_rfl
theorem Zu(a b:ByteArray)(o1 o2:Option Addr)(n1 n2 c1 c2:Nat)(d:Int):(∀u∈ [Value.slice o1 n1 c1,.string a,.string b,.int .i64 d,.slice o2 n2 c2],u.oneCell'=true)∧(∀u∈ [Value.slice o1 n1 c1,.string a,.string b,.int .i64 d,.slice o2 n2 c2],noLimb u=true):=by
 constructor<;>
 ·intro u hu;simp only [jg,jv,jx]at hu;rcases hu with rfl|rfl|rfl|rfl|rfl<;>rfl
theorem jaB: ∀u∈(Value.agg #[.slice none 0 0,.string ⟨#[]⟩,.string ⟨#[]⟩,.int .i64 0,.slice none 0 0]).cells.toList,noLimb u=true:=by
 intro u hu;have h:u∈ [Value.slice none 0 0,.string ⟨#[]⟩,.string ⟨#[]⟩,.int .i64 0,.slice none 0 0]:=by simpa [Value.cells] using hu
 exact(Zu _ _ _ _ _ _ _ _ _).2 u h
theorem jcK:(prog.info? 27).map (fun i=>(i.zero,i.size,i.bytes))=some (some (.agg #[.string ⟨#[]⟩,.string ⟨#[]⟩]),2,32):=by kernel_rfl
theorem jdT(F:List (Bytes×Bytes)): ∀v∈zh F,noLimb v=true:=by
 intro v hv;unfold zh at hv;obtain⟨p,_,hp⟩:=qs.1 hv;simp only [Xq,jg,jv,jx]at hp;rcases hp with rfl|rfl<;>rfl
theorem jbp(F:List (Bytes×Bytes))(j:Nat)(h:j<F.length):zh (F.take j)++zh [F[j]]=zh (F.take (j+1)):=by
 rw [jdU,List.take_append_getElem]
theorem jdm(c:yE)(oa:Option Addr)(cap:Nat)(oO:Option Addr)(cO:Nat)(oP:Option Addr)(cP:Nat)(O P:List Int)(Bs:List (Value×List Int))(ob:Option Addr)(cb:Nat)(w:World)
 (hord:yj w oO O) (hplc:yj w oP P) (hP:Yw w ob Bs) (hn1:1≤c.op.length) (hn12:c.op.length≤12) (hm:Bs.length≤4096) (hR: ∀p∈Bs,Rnk c.op.length p.2) (hse:1≤c.se∧c.se≤c.op.length)
 (hol:O.length=c.op.length) (hpl:P.length=c.op.length) (hmem: ∀x,x∈O↔0≤x∧x<(c.op.length:Int)) (hplc2: ∀k (hk:k<O.length),P[O[k].toNat]?=some (k:Int)) (hond:O.Nodup):
 Calls prog 30 #[.agg #[.string ⟨c.nm.toArray⟩,.slice oa c.op.length cap,.int .i64 c.rl,.int .i64 c.se,.int .i64 c.mo,.slice oO O.length cO,.slice oP P.length cP],.slice ob Bs.length cb] w (jfC c.op.length Bs.length c.se.toNat (zN Bs.length c.se.toNat) (O.map Int.toNat) (S0 c.op.length (yB Bs) Bs.length) w):=by
 have QN:=jA (fun w1 h1 h2 h3=>jeS c oa cap oO cO oP cP O P Bs ob cb w1 h1 h2 h3 hn1 hn12 hm hR hse hol hpl hmem hplc2 hond);have HORD:=jA hord;have HPLC:=jA hplc;have HPS:=jA hP;have HR:=jA hR
 have HOT:=jA (show ∀i,i∈O.map Int.toNat↔i<c.op.length from fun i=>by
  rw [jl];constructor
  ·rintro⟨x,hx,rfl⟩;have:=(hmem x).1 hx;omega
  ·intro hi;exact⟨(i:Int),(hmem _).2 ⟨by omega,by omega⟩,by simp⟩)
 clear hord hplc hP hR hol hpl hplc2;go_enter Tryz.func30,Tryz.ntmps30;go_upto_region 1 with(fail);have hbA:Below w.heap.size w ((w.alloc (.cells #[.string ⟨c.nm.toArray⟩,.slice oa c.op.length cap,.int .i64 c.rl,.int .i64 c.se,.int .i64 c.mo,.slice oO O.length cO,.slice oP P.length cP] 62)).alloc (.cells #[.string ⟨#[]⟩,.string ⟨#[]⟩,.slice none 0 0,.slice none 0 0] 31)):=((jN _ _).alloc (jO _) _).alloc (by simp) _;have hc1:((w.alloc (.cells #[.string ⟨c.nm.toArray⟩,.slice oa c.op.length cap,.int .i64 c.rl,.int .i64 c.se,.int .i64 c.mo,.slice oO O.length cO,.slice oP P.length cP] 62)).alloc (.cells #[.string ⟨#[]⟩,.string ⟨#[]⟩,.slice none 0 0,.slice none 0 0] 31)).heap[w.heap.size]?=some (.cells #[.string ⟨c.nm.toArray⟩,.slice oa c.op.length cap,.int .i64 c.rl,.int .i64 c.se,.int .i64 c.mo,.slice oO O.length cO,.slice oP P.length cP] 62 (0,0)):=xx (xN rfl);have hc2:((w.alloc (.cells #[.string ⟨c.nm.toArray⟩,.slice oa c.op.length cap,.int .i64 c.rl,.int .i64 c.se,.int .i64 c.mo,.slice oO O.length cO,.slice oP P.length cP] 62)).alloc (.cells #[.string ⟨#[]⟩,.string ⟨#[]⟩,.slice none 0 0,.slice none 0 0] 31)).heap[w.heap.size+1]?=some (.cells #[.string ⟨#[]⟩,.string ⟨#[]⟩,.slice none 0 0,.slice none 0 0] 31 (0,0)):=xN (by simp);generalize hB:w.heap.size=B at*;refine xP (fun w1=>Below B w w1∧w1.heap[B]?=some (.cells #[.string ⟨c.nm.toArray⟩,.slice oa c.op.length cap,.int .i64 c.rl,.int .i64 c.se,.int .i64 c.mo,.slice oO O.length cO,.slice oP P.length cP] 62 (0,0))∧w1.heap[B+1]?=some (.cells #[.string ⟨#[]⟩,.string ⟨#[]⟩,.slice none 0 0,.slice none 0 0] 31 (0,0))) ⟨hbA,hc1,hc2⟩ (fun w1 hw1=>?_);have HB:=jA hB;have B1:=jA hw1.1;have X1:=jA hw1.2.1;have Y1:=jA hw1.2.2;have hbw:Below w.heap.size w w1:=by rw [hB];exact hw1.1
 have Q1:=jA (QN.u w1 (HORD.u.below hbw) (HPLC.u.below hbw) (HPS.u.below hbw));have hY1:B+1<w1.heap.size:=lt_of_heap hw1.2.2;clear hbA hc1 hc2 hB hw1 hbw;go_upto_region 2 with(first
  |(go_at_call 71;refine Q1.u.mono ?_;rintro e w2 ⟨K,G,rfl,hKc,hKm,hKO,hK0,hKK,hH,hF⟩)
  |((with_reducible refine xl 62 ?_);refine xO ?_ 62 (.tmp 2) ?_ B _ _ _ _ ?_ X1.u underlying62 ?_ zS ?_;rfl;rfl;rfl;rfl))
 have hX1l:B<w1.heap.size:=lt_of_heap X1.u;have hbel:=hH.bel;rw [hK0]at hbel;have Y2:=jA (xK hbel hY1 Y1.u);have B2:=jA (B1.u.trans (hbel.mono (jZ hX1l)));have hO2:K.On=O.map Int.toNat:=by unfold HK.On;rw [hKO]
 have HINV:=jA (show Inv c.op.length c.se.toNat Bs.length (zN Bs.length c.se.toNat) K.On (S0 c.op.length (yB Bs) Bs.length)by
  have h1:=Zp (n:=c.op.length) (s:=c.se.toNat) (O:=K.On) (Rs:=yB Bs) (by omega) hn12 hKK.ond (fun i=>by rw [hKK.omem,hKc]) (fun rk hrk i hi=>by
   unfold yB at hrk;obtain⟨p,hp,rfl⟩:=jl.1 hrk;exact(HR.u p hp).lt i hi)
  have e:(yB Bs).length=Bs.length:=by unfold yB;rw [jz]
  rw [e]at h1;exact h1)
 have HH:=jA hH;have HF:=jA hF;have HKK:=jA hKK;have HKM:=jA hKm;have HK0:=jA hK0;have BK:=jA (show Below B w K.w0 by rw [hK0];exact B1.u);have hKB:B+1<K.w0.heap.size:=by rw [hK0];exact hY1
 have HOE:=jA hO2;clear hbel hO2 hH hF hKK hKm hKO hK0 Q1 QN X1 Y1 B1 HORD HPLC HPS HR HOT hX1l hmem hond;subst hKc;obtain⟨s,hs⟩: ∃s:Nat,K.c.se=s:=⟨K.c.se.toNat,by omega⟩;have hs2:K.c.se.toNat=s:=by omega
 rw [hs2]at HINV HH;have HSE:=jA hs;obtain⟨q,hq⟩: ∃q,q=zN Bs.length s:=⟨_,rfl⟩;rw [←hq]at HINV HH;have HQD:=jA hq;have HQS:=jA (HINV.u.q_sml hn12 hm);clear hq hs2 hs;have HSZ:=jA zn;have q7:w2.cell? ⟨K.hb,7,none⟩=some K.qn:=jM w2 K.hb 7 _ _ _ HH.u.hall;have q8:w2.cell? ⟨K.hb,8,none⟩=some K.qd:=jM w2 K.hb 8 _ _ _ HH.u.hall;go_upto_region 3 with(first
  |(go_at_call 72;refine(jfL w2 HH.u.quo HQS.u.lens).mono ?_;rintro e w3 ⟨rfl,b3⟩;have B3:=jA b3;clear b3)
  |(refine xM rfl rfl 31 _ _ rfl w3.heap.size #[.string ⟨#[]⟩,.string ⟨#[]⟩,.slice none 0 0,.slice none 0 0] #[.string ⟨(txt q).1.toArray⟩,.string ⟨(txt q).2.toArray⟩,.slice none 0 0,.slice none 0 0] 31 rfl rfl (xN rfl) rfl XV (JR _ _ _ _ rfl rfl) ?_;intro w4 ho hp)
  |(with_reducible refine wpList_build rfl 31 _ rfl [(0,.agg #[.string ⟨(txt q).1.toArray⟩,.string ⟨(txt q).2.toArray⟩])] (by first|(simp;done)|(simp [Act.eval];done)) _ (jfw _ _) ?_))
 have hb4:Below w3.heap.size w3 w4:=xQ ((jN _ _).alloc (jO _) _) ho (jO _);have hb24:Below w2.heap.size w2 w4:=B3.u.trans (hb4.mono B3.u.size);have hYl:B+1<w2.heap.size:=lt_of_heap Y2.u;rw [←HKM.u]at HINV HH HF HQD;obtain⟨OB,hOB⟩: ∃OB,OB=w3.heap.size:=⟨_,rfl⟩;rw [←hOB]at hp ⊢;have HT4:=jA (show Vs K q (S0 K.c.op.length (yB Bs) K.m) G w4 OB (B+1) [] (.slice none 0 0) []from⟨HH.u.below hb24,hp,xK hb24 hYl Y2.u,(by have:=B3.u.size;omega),GRow.nil,rfl,fun i hi=>(by simp at hi)⟩);have B4:=jA (B2.u.trans (hb24.mono (by have:=B2.u.size;rw [←HB.u];exact this)));have hOBl:K.w0.heap.size≤OB:=by have h1:=HH.u.bel.size;have h2:=B3.u.size;omega
 obtain⟨T0,hT0⟩: ∃T0:St,T0=S0 K.c.op.length (yB Bs) K.m:=⟨_,rfl⟩;rw [←hT0]at HT4 HINV HF;have HT0:=jA hT0;have hmu:T0.mu K.On≤36:=by
  have h1:=Xi (l:=K.On) T0.cont;have h2:=HKK.u.olen;have h3:(T0.wait K.On).length≤K.On.length:=kt _ _;show 2* (K.On.filter T0.cont).length+(T0.wait K.On).length≤36;omega
 have hBs:B≤w4.heap.size:=by have:=B4.u.size;rw [HB.u]at this;exact this
 have hm4:K.m≤4096:=HKK.u.m4;clear ho hp hb4 hb24 hYl hOB hT0 q7 q8 HH Y2 B2 B3
 as_aux_lemma=>
 go_wp2_with fail;go_loopg [] (T0.mu K.On) (fun N wr=> ∃(S:St) (R:List Rd) (G:HG) (vR:Value) (CS:List (List Value)),N=S.mu K.On∧Vu K.c.op.length K.m s q K.On T0 R S∧Yz K S G∧Vs K q S G wr OB (B+1) R vR CS∧Below B w wr);case atStart=>exact⟨T0,[],G,_,[],rfl,.nil,HF.u,HT4.u,B4.u⟩
 case round=>
 clear HF HT4 B4;obtain⟨S,R,G,vR,CS,rfl,hru,hfu,htr,hbw⟩:=hrel;have RU:=jA hru;have FU:=jA hfu;have TA:=jA htr;have BW:=jA hbw;obtain⟨hI,hlen⟩:=hru.inv HINV.u hm4;have HI:=jA hI;have hRl:R.length≤36:=by omega
 clear hru hfu htr hbw hlen;have hww:w.heap.size≤wr.heap.size:=BW.u.size;have QT:=jA (jfK K q S G wr TA.u.hall hn12 hm4 (S.tot K.m) (fun i hi j hj=>hI.sum_sml hn12 hm4 (L:=(G.PL (some i)).take j) ((TA.u.hall.pls (some i)).1.sublist (List.take_sublist _ _)) (fun k hk=>((TA.u.hall.pls _).2 k (qU hk)).1)) (fun k hk=>hI.wt_sml hn12 hm4 hk) (fun i hi=>⟨jlK K.m S i (hI.kok i) hI.wok (jcv (TA.u.hall.pls _).1 (jbq TA.u.hall FU.u i)),hI.t_sml hn12 hm4 hi,hI.k_sml hn12 hm4 hi⟩));go_upto_region 4 with(go_at_call 73;refine QT.u.mono ?_;rintro e w5 ⟨tv,xa,xb,rfl,ht5,b5⟩);have T5:=jA ht5;have B5:=jA b5;have H5:=jA (TA.u.hall.below b5);obtain⟨on,cn,hnv,_,hva⟩:=Xx H5.u.nones.own;have k10:w5.cell? ⟨K.hb,10,none⟩=some (.slice on (G.PL none).length cn):=by rw [←hnv];exact jM w5 K.hb 10 _ _ _ H5.u.hall
 have QWe:=jA (jaS K q S G w5 H5.u (G.PL none) (fun k hk=>((H5.u.pls _).2 k hk).1) on cn hva (jU (H5.u.plen none) hm4) (fun j hj=>hI.sum_sml hn12 hm4 (L:=(G.PL none).take j) ((H5.u.pls none).1.sublist (List.take_sublist _ _)) (fun k hk=>((H5.u.pls _).2 k (qU hk)).1)) (fun k hk=>hI.wt_sml hn12 hm4 ((H5.u.pls _).2 k hk).1));have hnon:QH zero ((G.PL none).map fun k=>(S.V k).wt)=S.non K.m:=jlS K.m S hI.wok (jcv (H5.u.pls none).1 (fun k=>⟨fun h1=>(H5.u.pls _).2 k h1,fun h1=>by have:=FU.u k h1.1;rwa [h1.2]at this⟩));rw [hnon]at QWe;have HNS:=jA (hI.n_sml hn12 hm4);clear QT ht5 b5 hnv hva hnon hI;obtain⟨g,cg,rfl,hg0,hg1,hcg⟩:=T5.u.form hn1;go_upto_region 6 with(first
  |(go_at_call 74;refine QWe.u.mono ?_;rintro e w6 ⟨na,nb,rfl,f6,b6⟩;have F6:=jA f6;have B6:=jA b6;clear f6 b6)
  |(go_at_call 72;refine(jfL w6 F6.u HNS.u.lens).mono ?_;rintro e w7 ⟨rfl,b7⟩;have B7:=jA b7;clear b7)
  |(refine xM rfl rfl 44 _ _ rfl w7.heap.size #[.slice none 0 0,.string ⟨#[]⟩,.string ⟨#[]⟩,.int .i64 0,.slice none 0 0] #[.slice none 0 0,.string ⟨(txt (S.non K.m)).1.toArray⟩,.string ⟨(txt (S.non K.m)).2.toArray⟩,.int .i64 0,.slice none 0 0] 44 rfl rfl (xN rfl) rfl JX (ZW _ _ _ _ _ rfl rfl rfl) ?_;intro w8 ho hp)
  |(with_reducible refine wpList_build rfl 44 _ rfl [(1,.agg #[.string ⟨(txt (S.non K.m)).1.toArray⟩,.string ⟨(txt (S.non K.m)).2.toArray⟩])] (by first|(simp;done)|(simp [Act.eval];done)) _ (jaz _ _) ?_))
 obtain⟨C8,hC8⟩: ∃C8,C8=w7.heap.size:=⟨_,rfl⟩;rw [←hC8]at hp ho ⊢;obtain⟨NP,hNP⟩: ∃NP,NP=txt (S.non K.m):=⟨_,rfl⟩;rw [←hNP]at hp ⊢;have HNP:=jA hNP;clear hNP;generalize wr=wo at*;have b57:Below w5.heap.size w5 w7:=B6.u.trans (B7.u.mono B6.u.size);have b58:Below w5.heap.size w5 w8:=xQ (b57.alloc b57.size _) ho (by have:=b57.size;omega);have hr5:wo.heap.size≤w5.heap.size:=B5.u.size;have hC8r:wo.heap.size≤C8:=by have:=b57.size;omega
 have T8:=jA (T5.u.below b58);have B8:=jA (B5.u.trans (b58.mono hr5));have P8:=jA hp;obtain⟨TX,hTX⟩: ∃TX,TX=((List.range K.c.op.length).map (S.tot K.m)).map txt:=⟨_,rfl⟩;have HTX:=jA hTX;have htl:TX.length=K.c.op.length:=by rw [hTX];simp
 have htj: ∀j (h:j<TX.length),TX[j]=txt (S.tot K.m j):=fun j h=>by subst hTX;simp
 have HTL:=jA htl;have HTJ:=jA htj;have HTS:=jA (fun j hj=>HI.u.t_sml hn12 hm4 (i:=j) hj);obtain⟨f0,hf0,hy0,hy1,hy2⟩:=info_parts jcK;have F0:=jA hf0;have FZ0:=jA hy0;have FZ1:=jA hy1;have FZ2:=jA hy2;clear hp ho hC8 b57 b58 T5 B6 B7 F6 QWe HNS hTX htl htj hf0 hy0 hy1 hy2 k10 H5;go_loopw [32] (fun v wi=> ∃(j:Nat) (tv:Value),v=.int .i64 j∧j≤K.c.op.length∧wi.heap[C8]?=some (.cells #[tv,.string ⟨NP.1.toArray⟩,.string ⟨NP.2.toArray⟩,.int .i64 0,.slice none 0 0] 44 (0,0))∧GRow noLimb wi wo.heap.size 27 2 tv j (zh (TX.take j))∧Je wi wo.heap.size K.c.op.length (S.tot K.m) (.slice (some ⟨g,0,none⟩) K.c.op.length cg) xa xb∧Below wo.heap.size wo wi) (fun v _=>K.c.op.length-(intOf v).toNat);case atStart=>exact⟨0,_,rfl,ji _,P8.u,GRow.nil,T8.u,B8.u⟩
 case round=>
 clear P8 T8 B8;obtain⟨j,tvv,rfl,hj,hc8,hrw,htt,hbb⟩:=hrel;have P8:=jA hc8;have R8:=jA hrw;have T8:=jA htt;have B8:=jA hbb;clear hc8 hrw htt hbb
 rename World=>wi0
 by_cases hlt:j<K.c.op.length;case neg=>
  have dk:decide ((j:Int)<(K.c.op.length:Int))=false:=jS (by omega);have dk2:decide (j<K.c.op.length)=false:=jS hlt;obtain rfl:j=K.c.op.length:=by omega
  have hgn: ¬yq K G g:=fun hm=>by have:=Qn TA.u.hall hm;omega
  have TAi:=jA (TA.u.below B8.u);have QR:=jA (jhW K s q S G wi0 TAi.u.hall HKK.u HI.u FU.u HSE.u wo.heap.size g cg xa xb T8.u hgn);have etx:TX.take K.c.op.length=TX:=by rw [←HTL.u];exact kG
  rw [etx]at R8;have hK8:K.w0.heap.size≤wo.heap.size:=TA.u.hall.bel.size;have n8: ¬yq K G C8:=fun hm=>by have:=Qn TA.u.hall hm;omega
  have nR8: ∀x,tvv.ownBlock=some x→ ¬yq K G x:=fun x hx hm=>by
   have h1:=(GRow.typed R8.u x hx).1;have:=Qn TA.u.hall hm;omega
  clear T8 etx f0 F0 FZ0 FZ1 FZ2 FU;go_upto_region 12 with(go_at_call 75;refine QR.u.mono ?_;rintro e w9 hgot;obtain⟨d,nv,ov,cv,more,rfl,G',S',h9,st,hcase⟩:=jhV hgot;have H9:=jA h9;have ST:=jA st;have HC:=jA hcase;clear hgot hcase h9 st;have P9:=jA (ST.u.keep P8.u n8);have TA9:=jA (TAi.u.step ST.u H9.u);have R9:=jA (ST.u.row R8.u nR8);have h8w:C8<w9.heap.size:=lt_of_heap P9.u;have m3:w9.cell? ⟨C8,3,none⟩=some (.int .i64 0):=jM w9 C8 3 _ _ _ P9.u;have z3:w9.frozen? ⟨C8,3,none⟩=false:=jb w9 C8 3 _ _ P9.u;have m4:w9.cell? ⟨C8,4,none⟩=some (.slice none 0 0):=jM w9 C8 4 _ _ _ P9.u;have z4:w9.frozen? ⟨C8,4,none⟩=false:=jb w9 C8 4 _ _ P9.u);have hC8o:vR.ownBlock≠some C8:=fun e=>by have:=jdH TA.u.rows.own e;omega
  have tRn:Trn 44 K.w0.heap.size (some C8) w9 ((w9.setCell ⟨C8,3,none⟩ (.int .i64 (d:Int))).setCell ⟨C8,4,none⟩ (.slice ov nv cv)):=Trn.of_only ((xh 3 _).trans (xh 4 _)) P9.u (by omega) (fun u hu=>by
   simp only [jg,jv,jx]at hu;rcases hu with rfl|rfl|rfl|rfl|rfl;·rcases R9.u.own.2 with⟨hv,_⟩|⟨_,_,_,hv,_⟩<;>rw [hv]<;>rfl
   all_goals rfl)
  have hP9:((w9.setCell ⟨C8,3,none⟩ (.int .i64 (d:Int))).setCell ⟨C8,4,none⟩ (.slice ov nv cv)).heap[C8]?=some (.cells #[tvv,.string ⟨NP.1.toArray⟩,.string ⟨NP.2.toArray⟩,.int .i64 (d:Int),.slice ov nv cv] 44 (0,0)):=jd _ C8 4 _ _ _ (jd w9 C8 3 _ _ _ P9.u);refine xP (fun wt=>Vs K q S' G' wt OB (B+1) R vR CS∧wt.heap[C8]?=some (.cells #[tvv,.string ⟨NP.1.toArray⟩,.string ⟨NP.2.toArray⟩,.int .i64 (d:Int),.slice ov nv cv] 44 (0,0))∧GRow noLimb wt wo.heap.size 27 2 tvv K.c.op.length (zh TX)∧Trn 44 K.w0.heap.size (some C8) w9 wt) ⟨TA9.u.turn tRn hC8o,hP9,tRn.rowT R9.u (by decide),tRn⟩ (fun wt hwt=>?_);have TAt:=jA hwt.1;have Pt:=jA hwt.2.1;have Rt:=jA hwt.2.2.1;have tt:=jA hwt.2.2.2;have nR9: ∀x,tvv.ownBlock=some x→ ¬yq K G' x:=fun x hx=>ST.u.not_mine (jdH R8.u.own hx) (nR8 x hx);have hKt:K.w0.heap.size≤wt.heap.size:=hwt.1.hall.bel.size;have hKo:K.w0.heap.size≤wo.heap.size:=TA.u.hall.bel.size;have hKi:K.w0.heap.size≤wi0.heap.size:=TAi.u.hall.bel.size;clear hwt hP9 tRn hC8o TA9 P9 R9 m3 z3 m4 z4 h8w TAi P8 R8 TA QR;obtain⟨oR,cR,rfl⟩:=JZ TAt.u.rows.own;obtain⟨ot,ct,rfl⟩:=JZ Rt.u.own;have hOl:OB<wt.heap.size:=lt_of_heap TAt.u.u;rcases HC.u with⟨rfl,hend,rfl,rfl⟩|⟨rfl,who,hwn,hdec,how,hnm,rfl,hfull⟩
  ·obtain⟨oe,ce,hev⟩:=JZ TAt.u.hall.els.own;have HEV:=jA hev;have n14:wt.cell? ⟨K.hb,14,none⟩=some (.slice oe S'.el.length ce):=by
    rw [←hev];exact jM wt K.hb 14 _ _ _ TAt.u.hall.hall
   have n3:wt.cell? ⟨OB,3,none⟩=some (.slice none 0 0):=jM wt OB 3 _ _ _ TAt.u.u;have z3:wt.frozen? ⟨OB,3,none⟩=false:=jb wt OB 3 _ _ TAt.u.u;clear hev;go_upto_region 14 with(fail);have hto:=TAt.u.u;have hou:(wt.setCell ⟨OB,3,none⟩ (.slice oe S'.el.length ce)).heap[OB]?=some (.cells #[.string ⟨(txt q).1.toArray⟩,.string ⟨(txt q).2.toArray⟩,.slice oR R.length cR,.slice oe S'.el.length ce] 31 (0,0)):=jd wt OB 3 _ _ _ hto
   have tO:Trn 31 K.w0.heap.size (some OB) wt (wt.setCell ⟨OB,3,none⟩ (.slice oe S'.el.length ce)):=Trn.of_only (xh 3 _) hto hOBl (fun u hu=>by
    simp only [jg,jv,jx]at hu;rcases hu with rfl|rfl|rfl|rfl<;>rfl)
   have hru:=tO.keepX TAt.u.res (fun e=>TAt.u.ne (by injection e));have hrd:=TAt.u.rds.trn tO;have hbt:Below B w (wt.setCell ⟨OB,3,none⟩ (.slice oe S'.el.length ce)):=xQ (BK.u.trans (TAt.u.hall.bel.mono (by omega))) (xh 3 _) (by omega);refine xP (fun wu=>wu.heap[OB]?=some (.cells #[.string ⟨(txt q).1.toArray⟩,.string ⟨(txt q).2.toArray⟩,.slice oR R.length cR,.slice oe S'.el.length ce] 31 (0,0))∧wu.heap[B+1]?=some (.cells #[.string ⟨#[]⟩,.string ⟨#[]⟩,.slice none 0 0,.slice none 0 0] 31 (0,0))∧jbD K G' wu (.slice oR R.length cR) R CS G'.ev S'.el∧Below B w wu) ⟨hou,hru,hrd,hbt⟩ (fun wu hwu=>?_);have HOU:=jA hwu.1;have HRU:=jA hwu.2.1;have HRD:=jA hwu.2.2.1;have HBU:=jA hwu.2.2.2;clear hwu hou tO hru hrd hbt hto n14 n3 z3;have HEN:=jA hend;go_wp2_with (first
    |(refine xM rfl rfl 31 _ _ rfl (B+1) #[.string ⟨#[]⟩,.string ⟨#[]⟩,.slice none 0 0,.slice none 0 0] #[.string ⟨(txt q).1.toArray⟩,.string ⟨(txt q).2.toArray⟩,.slice oR R.length cR,.slice oe S'.el.length ce] 31 rfl rfl HRU.u rfl XV (JR _ _ _ _ rfl rfl) ?_;intro wv ho hp)
    |((with_reducible refine xl 31 ?_);refine xO ?_ 31 (.tmp 6) ?_ OB _ _ _ _ ?_ HOU.u underlying31 ?_ XV ?_;rfl;rfl;rfl;rfl))
   refine jm (jw rfl _ wv (B+1) _ _ _ _ rfl hp underlying31 rfl XV) rfl ?_;have e1:K.c.se.toNat=s:=by have:=HSE.u;omega
   rw [←HKM.u,e1,←HQD.u,←HOE.u,←HT0.u]
   have tV:Trn 31 (B+1) (some (B+1)) wu wv:=Trn.of_only ho HRU.u (jO _) (fun u hu=>by
    simp only [jg,jv,jx]at hu;rcases hu with rfl|rfl|rfl|rfl<;>rfl)
   exact⟨K,G',R,S',_,_,CS,RU.u,HEN.u,rfl,by rw [←HEV.u];exact HRD.u.trn tV,by rw [HB.u];exact xQ HBU.u ho (by omega)⟩
  ·have HW:=jA (And.intro hwn (And.intro hdec (And.intro how (And.intro hnm hfull))));have n2:wt.cell? ⟨OB,2,none⟩=some (.slice oR R.length cR):=jM wt OB 2 _ _ _ TAt.u.u;clear hwn hdec how hnm hfull;obtain⟨j0,hj0,hv0,hv1,hv2⟩:=info_parts jbn;have J0:=jA hj0;have JZ0:=jA hv0;have JZ1:=jA hv1;have JZ2:=jA hv2;clear hj0 hv0 hv1 hv2
   have RW:=jA (show RdV K G' wt (S.rd K.c.op.length K.m d who) [.slice ot K.c.op.length ct,.string ⟨NP.1.toArray⟩,.string ⟨NP.2.toArray⟩,.int .i64 (d:Int),.slice ov nv cv]from⟨_,_,(by rw [HNP.u];rfl),by
    have h1:=zq Rt.u.own hKo;rw [HTX.u]at h1;have e2:(S.rd K.c.op.length K.m d who).tots.length=K.c.op.length:=by simp [St.rd]
    rw [e2];exact h1,by
    have h1:=jdG tt.u (by decide) (zq HW.u.2.2.1 hKi);exact h1,nR9,HW.u.2.2.2.1⟩)
   have HA1:=jA ((jN wt.heap.size wt).alloc (jO _) (.cells #[.slice ot K.c.op.length ct,.string ⟨NP.1.toArray⟩,.string ⟨NP.2.toArray⟩,.int .i64 (d:Int),.slice ov nv cv] 44));have HA2:=jA (TAt.u.rows.below HA1.u);go_wp2_with (first
    |((with_reducible refine xl 44 ?_);refine xO ?_ 44 (.tmp 8) ?_ C8 _ _ _ _ ?_ Pt.u underlying44 ?_ JX ?_;rfl;rfl;rfl;rfl)
    |(at_builtin;refine yS (good:=noLimb) _ rfl (.tmp 62) (.tmp 64) 28 rfl K.w0.heap.size 44 j0 (.agg #[.slice none 0 0,.string ⟨#[]⟩,.string ⟨#[]⟩,.int .i64 0,.slice none 0 0]) 5 88 underlying28 J0.u JZ0.u JZ1.u JZ2.u rfl (by decide) jaB (.slice oR R.length cR) R.length CS.flatten rfl HA2.u ⟨wt.heap.size,0,none⟩ 1 1 [.slice ot K.c.op.length ct,.string ⟨NP.1.toArray⟩,.string ⟨NP.2.toArray⟩,.int .i64 (d:Int),.slice ov nv cv] rfl rfl (zG (xN rfl)) (Zu _ _ _ _ _ _ _ _ _).1 (Zu _ _ _ _ _ _ _ _ _).2 (fun _=>by decide) (by unfold maxLen;omega) (by omega) (by simp;omega) _ rfl ?_;intro g9 c9 wx own hg hf hlt9;have PA:=jA (jjF TAt.u HA1.u hg rfl own RW.u hOBl);have n2:wx.cell? ⟨OB,2,none⟩=some (.slice oR R.length cR):=PA.u.1;have z2:wx.frozen? ⟨OB,2,none⟩=false:=PA.u.2.1;have hOx:OB<wx.heap.size:=PA.u.2.2.1;clear HA1 HA2 hg own hf hlt9))
   have hnext:=RU.u.snoc HW.u.2.1;have hTN:=PA.u.2.2.2
   go_roundg ((S.next K.m q d who).mu K.On)
   case rel=>exact⟨_,_,G',_,_,rfl,hnext,HW.u.2.2.2.2,hTN,BK.u.trans (hTN.hall.bel.mono (by omega))⟩
   case measure=>exact(HI.u.next hm4 HW.u.2.1).2
 have dk:decide ((j:Int)<(K.c.op.length:Int))=true:=jQ (by omega);have dk2:decide (j<K.c.op.length)=true:=jQ hlt;have dki:(j:Int)<(K.c.op.length:Int):=by omega
 have FJ:=jA (T8.u.frs j hlt);go_upto_region 8 with(first
  |(refine JF rfl 90 _ rfl ⟨g,j*2,none⟩ rfl [xa j,xb j] _ (T8.u.mid hlt) underlying90 rfl HSZ.u ?_)
  |(refine xM rfl rfl 90 _ _ rfl wi0.heap.size #[.slice none 0 0,.slice none 0 0] #[xa j,xb j] 90 rfl rfl (xN rfl) rfl HSZ.u (zF _ _ FJ.u.noLimb.2.2.1 FJ.u.noLimb.2.2.2) ?_;intro w9 ho hp))
 have bz:Below wi0.heap.size wi0 w9:=xQ ((jN _ _).alloc (jO _) _) ho (jO _);have hoi:wo.heap.size≤wi0.heap.size:=B8.u.size;have P9:=jA (xK bz (lt_of_heap P8.u) P8.u);have R9:=jA (R8.u.below bz);have T9:=jA (T8.u.below bz);have B9:=jA (B8.u.trans (bz.mono hoi));have F9:=jA (FJ.u.below bz);have X9:=jA hp;have hD:wi0.heap.size<w9.heap.size:=lt_of_heap hp;generalize wi0.heap.size=D at*;have h8l:C8<w9.heap.size:=lt_of_heap P9.u;have d8: ∀x:xS w9.heap.size w9,x.w.cell? ⟨C8,0,none⟩=some tvv:=fun x=>jM _ C8 0 _ _ _ (xK x.2 h8l P9.u);clear bz ho hp P8 R8 T8 B8 FJ;refine Seg.xL (fun w'=> ∃x:xS w9.heap.size w9,w'=x.w) [([0,1,2],3),([],4)] [] 5 (by kernel_rfl) (by kernel_rfl) (fun _ _ d _ _ h=>by cases d<;>exact h) (⟨⟨_,(jN _ _).drew⟩,rfl⟩) ?_;simp only [jK,Seg.opAt,Seg.xW];first|go_big_quiet_step (fail)|quiet_step (fail)
 first|go_big_quiet_step (fail)|quiet_step (fail)
 refine yR rfl 90 _ rfl D #[xa j,xb j] _ _ _ rfl X9.u hD underlying90 rfl HSZ.u ?_;refine jP ?_;intro Kc hK;simp only [Region.wanted,jY];have QL:=jA (jfL w9.drew (F9.u.below (jN _ _).drew) (HTS.u j hlt).lens);have hjt:j<TX.length:=by rw [HTL.u];exact hlt
 have HJT:=jA (HTJ.u j hjt);obtain⟨XP,hXP⟩: ∃XP,XP=txt (S.tot K.m j):=⟨_,rfl⟩;rw [←hXP]at QL HJT;clear hXP;go_wp2_with (go_at_call 72;refine QL.u.mono ?_;rintro e wb ⟨rfl,b10⟩);have B10:=jA (yV b10);refine hK _ _ ⟨⟨wb,B10.u⟩,rfl⟩ ?_;clear hK Kc b10 d8 QL;repeat (any_goals (first|go_big_quiet_step (fail)|quiet_step (fail)))
 refine jP ?_;intro Kc hK;first|go_simp|skip
 go_wp2_with fail;have bh:Below wb.heap.size wb (wb.alloc (.cells #[.string ⟨XP.1.toArray⟩,.string ⟨XP.2.toArray⟩] 27)):=(jN _ _).alloc (jO _) _;have ed:(wb.alloc (.cells #[.string ⟨XP.1.toArray⟩,.string ⟨XP.2.toArray⟩] 27)).heap[wb.heap.size]?=some (.cells #[.string ⟨XP.1.toArray⟩,.string ⟨XP.2.toArray⟩] 27 (0,0)):=xN rfl;have B11:=jA (B10.u.trans (bh.mono B10.u.size));refine hK _ _ ⟨⟨_,B11.u⟩,rfl⟩ ?_;clear hK Kc bh B10;generalize (wb.alloc (.cells #[.string ⟨XP.1.toArray⟩,.string ⟨XP.2.toArray⟩] 27))=w11 at*;generalize wb.heap.size=C at*;have P11:=jA (xK B11.u h8l P9.u);have R11:=jA (R9.u.below B11.u);have T11:=jA (T9.u.below B11.u);have hoi9:wo.heap.size≤w9.heap.size:=B9.u.size;have D11:=jA (B9.u.trans (B11.u.mono hoi9));have hoi11:wo.heap.size≤w11.heap.size:=D11.u.size;clear P9 R9 T9 B9 F9 X9 hD h8l B11;repeat (any_goals (first|go_big_quiet_step (fail)|quiet_step (fail)))
 refine jP ?_;go_wp2_with (at_builtin;refine yS (good:=noLimb) _ rfl (.tmp 37) (.tmp 40) 42 rfl wo.heap.size 27 f0 (.agg #[.string ⟨#[]⟩,.string ⟨#[]⟩]) 2 32 underlying42 F0.u FZ0.u FZ1.u FZ2.u rfl (by decide) (fun u hu=>by simp [Value.cells]at hu;subst hu;rfl) tvv j (zh (TX.take j)) rfl R11.u ⟨C,0,none⟩ 1 1 (zh [XP]) rfl rfl (zG ed) (jcO _) (jdT _) (fun _=>by decide) (by unfold maxLen;omega) (by omega) (by omega) _ rfl ?_;intro g9 c9 w12 own hg hf hlt9;have t12:Trn 27 wo.heap.size tvv.ownBlock w11 w12:=⟨hg,GRow.typed R11.u⟩;have P12:=jA (t12.keep P11.u (by decide));have n12:w12.cell? ⟨C8,0,none⟩=some tvv:=jM w12 C8 0 _ _ _ P12.u;have z12:w12.frozen? ⟨C8,0,none⟩=false:=jb w12 C8 0 _ _ P12.u;have T12:=jA (show Je w12 wo.heap.size K.c.op.length (S.tot K.m) (.slice (some ⟨g,0,none⟩) K.c.op.length cg) xa xb from⟨t12.rowT T11.u.row (by decide),fun i hi=>t12.fr (T11.u.frs i hi)⟩);have D12:=jA (t12.below D11.u);have h8w:C8<w12.heap.size:=lt_of_heap P12.u);go_roundw;case rel=>
  have t13:Trn 44 wo.heap.size (some C8) w12 (w12.setCell ⟨C8,0,none⟩ (.slice (some ⟨g9,0,none⟩) (j+1) c9)):=Trn.of_only (xh 0 _) P12.u hC8r (fun u hu=>by
   simp only [jg,jv,jx]at hu;rcases hu with rfl|rfl|rfl|rfl|rfl;·rcases R11.u.own.2 with⟨hv,_⟩|⟨_,_,_,hv,_⟩<;>rw [hv]<;>rfl
   all_goals rfl)
  refine⟨j+1,_,by go_num,by omega,jd w12 C8 0 _ _ _ P12.u,?_,⟨t13.rowT T12.u.row (by decide),fun i hi=>t13.fr (T12.u.frs i hi)⟩,t13.below D12.u⟩;rw [←jbp TX j hjt,HJT.u];exact t13.rowT own (by decide)
 case measure=>simp [intOf];omega
end Go.Proofs.YtnohcdpnnhmpfaaGreatDoor.TR
