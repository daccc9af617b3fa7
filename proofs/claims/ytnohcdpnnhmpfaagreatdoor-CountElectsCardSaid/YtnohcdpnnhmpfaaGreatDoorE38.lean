/- The reference's Gcd. -/
import Derived.Test.YtnohcdpnnhmpfaaGreatDoorE37
set_option linter.all false
set_option maxRecDepth 100000
set_option maxHeartbeats 4000000
namespace Go.Proofs.YtnohcdpnnhmpfaaGreatDoor
open Go.RowKit Tryz ML ND
variable{L:E0}{w:m0}
theorem jkI(h:IntsAt w none L):L= []:=by
 cases hq:L with
 |nil=>rfl
 |
  cons x r=>
  obtain⟨a,h1,_⟩:=h.cells 0 (by rw [hq];simp);cases h1
def jjh(w:m0)(v:n0):Nat:=match v with
 | .slice (some a) n _=>val ((List.range n).map fun i=>match w.cell? (a.add i)with|some v=>(intOf v).toNat|none=>0)
 |_=>0
theorem jgL{oc:s0}(h:IntsAt w oc L)(cc:Nat):jjh w (.slice oc L.length cc)=val L:=by
 cases oc with
 |none=>rw [jkI h];rfl
 |
  some a=>
  have e:((List.range L.length).map fun i=>match w.cell? (a.add i)with|some v=>(intOf v).toNat|none=>0)=L:=by
   refine vM (by rw [kS,ku]) (fun i h1 h2=>?_);obtain⟨a',he,_,hc⟩:=h.cells i h2;cases he;rw [List.getElem_map,List.getElem_range,hc];simp [intOf]
  show val ((List.range L.length).map fun i=>match w.cell? (a.add i)with|some v=>(intOf v).toNat|none=>0)=val L;rw [e]
theorem jhR(x y:Nat)(oa ob:s0)(ca cb:Nat)(w:m0)(ha:IntsAt w oa (dig x))(hb:IntsAt w ob (dig y))(hx:(dig x).length<1099511627775)(hy:(dig y).length<1099511627775):
 Calls prog 133 #[.slice oa (dig x).length ca,.slice ob (dig y).length cb] w fun e w'=> ∃oc cc,e=.returned (.slice oc (dig (Nat.gcd x y)).length cc)∧IntsAt w' oc (dig (Nat.gcd x y))∧O0 w.heap.size w w':=by
 have HA:=jA ha;have Eu:=jA hb;clear ha hb;go_enter Tryz.func133,Tryz.ntmps133;go_upto_region 1 with(fail);go_loopw [0,1] (fun va vb wr=> ∃(X Y:Nat) (oX oY:s0) (cX cY:Nat),va=.slice oX (dig X).length cX∧vb=.slice oY (dig Y).length cY∧Nat.gcd X Y=Nat.gcd x y∧(dig X).length<1099511627775∧(dig Y).length<1099511627775∧IntsAt wr oX (dig X)∧IntsAt wr oY (dig Y)∧O0 w.heap.size w wr) (fun _ vb wr=>jjh wr vb);case atStart=>exact⟨x,y,oa,ob,ca,cb,rfl,rfl,rfl,hx,hy,HA.u,Eu.u,jN _ _⟩
 case round=>
 obtain⟨X,Y,oX,oY,cX,cY,rfl,rfl,hg,hX,hY,TO,rK,bel⟩:=hrel;clear HA Eu hx hy;have HG:=jA hg;have HM:=jA (jgL rK cY);rw [yR]at HM;by_cases h0:Y=0
 ·subst h0;have iX:=jA TO;rw [yi];rw [Nat.gcd_zero_right]at HG;clear hg TO rK HM;go_wp2_with fail;go_ret;rw [←HG.u];exact⟨oX,cX,rfl,iX.u,bel⟩
 ·have AM:0<Y:=by omega
  have hlz:0<(dig Y).length:=by
   rcases vP (dig Y).length with h1|h1
   ·have:=xz Y;rw [h1]at this;omega
   ·exact h1
  have hlz2:decide ((0:Int)<((dig Y).length:Int))=true:=by simp;omega
  have QD:=jA (jhS X Y oX oY cX cY wr AM TO rK (by omega) hY);have HIY:=jA rK;have HML:=jA (qL X AM);have HL:=jA (show(dig (X%Y)).length≤(dig Y).length from yO _ _ (Nat.lt_trans (qL X AM) (xz Y)));have hG2:=jA (show Nat.gcd Y (X%Y)=Nat.gcd x y by rw [Nat.gcd_comm,←Nat.gcd_rec,Nat.gcd_comm];exact hg);clear hg TO rK h0;go_wp2_with (go_at_call 134;refine QD.u.mono ?_;rintro e w2 ⟨oq,cq,or,cr,rfl,hq,hr,us⟩;have HR:=jA hr;clear hq hr);have hm2:=jA (jgL HR.u cr);go_roundw;case rel=>exact⟨Y,X%Y,oY,or,cY,cr,rfl,rfl,hG2.u,hY,by have:=HL.u;omega,HIY.u.below us,HR.u,bel.trans (us.mono bel.size)⟩
  case measure=>
   have e:=hm2.u;rw [yR]at e;show jjh w2 (.slice or (dig (X%Y)).length cr)<jjh _ (.slice oY (dig Y).length cY);rw [e,HM.u];exact HML.u
theorem jgn(n:Nat)(w:m0)(hn:n<9223372036854775808):
 Calls prog 80 #[.int .i64 (n:Int)] w fun e w'=> ∃oa cap,e=.returned (.slice oa (dig n).length cap)∧IntsAt w' oa (dig n)∧O0 w.heap.size w w'∧(∀a,oa=some a→w.heap.size≤a.block):=by
 obtain⟨i0,hi,Is,Ts,Ns⟩:=info_parts YH;have HI:=jA hi;have Dt:=jA Is;have Ct:=jA Ts;have Bt:=jA Ns;clear hi Is Ts Ns;go_enter Tryz.func80,Tryz.ntmps80;go_wp2_with fail;generalize hB:w.heap.size=B at*;have HB:=jA hB;clear hB;go_loopw [0,3] (fun z v wr=> ∃(L:E0) (k:Nat),z=.int .i64 k∧k≤n∧L++dig k=dig n∧L.length+k≤n∧O0 B w wr∧wr.ownsRow B 3 1 v L.length (ym L)) (fun z _ _=>(intOf z).toNat);case atStart=>exact⟨[],n,rfl,jO _,rfl,by simp,jN _ _,kg _ _ _ _⟩
 case round=>
 obtain⟨L,k,rfl,hk,hL,hl,bel,own⟩:=hrel;by_cases h0:0<k
 ·have hd:decide ((0:Int)<(k:Int))=true:=by simp;omega
  have wK:B≤wr.heap.size:=by have:=bel.size;rw [HB.u]at this;exact this
  have hl19:L.length≤19:=by
   have h1:=yO n 19 (by omega);rw [←hL,jZ]at h1;omega
  have Sz:=jA (show(L++ [k%10])++dig (k/10)=dig n by rw [kY,List.singleton_append,←JQ h0];exact hL);go_upto_region 4 with(at_builtin;refine kV _ rfl (.tmp 6) (.tmp 9) 67 rfl B 3 i0 (.int .i64 0) 1 8 underlying67 HI.u Dt.u Ct.u Bt.u rfl (by decide) u3 L.length (ym L) rfl (own.alloc _) ⟨wr.heap.size,0,none⟩ 1 1 (ym [k%10]) rfl rfl ?c1 ?c2 ?c3 ?c4 ?c5 ?_);case c1=>exact Kz wr [k%10] _ _ rfl
  case c2=>exact Ve _
  case c3=>unfold maxLen;omega
  case c4=>omega
  case c5=>simp;omega
  intro v5 w5 Hs ru _;have Gs:O0 B w w5:=(bel.alloc wK _).grown ru (by simp;omega) (fun q hq=>(own.lt q hq).1);rw [KI]at Hs;have iu:w5.ownsRow B 3 1 v5 (L++ [k%10]).length (ym (L++ [k%10])):=by rw [jZ];exact Hs
  clear Hs own ru bel hL;go_wp2_with fail;go_roundw;case rel=>exact⟨L++ [k%10],k/10,by go_num,by omega,Sz.u,by rw [jZ,kM];omega,Gs,iu⟩
  case measure=>simp [intOf];omega
 ·have hd:decide ((0:Int)<(k:Int))=false:=by simp;omega
  obtain rfl:k=0:=by omega
  rw [yi,qG]at hL;obtain⟨oa,cap,rfl,_,_,hI⟩:=Vw own;have HF:=jA (show ∀a,oa=some a→w.heap.size≤a.block from fun a ha=>by subst ha;rw [HB.u];exact(own.lt a.block rfl).1);rw [hL]at hI;have HLn:=jA hL;clear hL own;go_wp2_with fail;go_ret;exact⟨oa,cap,by rw [HLn.u];rfl,hI,by rw [HB.u];exact bel,HF.u⟩
theorem jdG(x y:Nat)(oa ob:s0)(ca cb:Nat)(w:m0)(Uv:0<y)(ha:IntsAt w oa (dig x))(hb:IntsAt w ob (dig y))(hx:(dig x).length<1099511627776)(hy:(dig y).length<1099511627775):
 Calls prog 134 #[.slice oa (dig x).length ca,.slice ob (dig y).length cb] w fun e w'=> ∃oq cq or cr,e=.returned (.tuple #[.slice oq (dig (x/y)).length cq,.slice or (dig (x%y)).length cr])∧IntsAt w' oq (dig (x/y))∧IntsAt w' or (dig (x%y))∧O0 w.heap.size w w'∧(∀a,oq=some a→w.heap.size≤a.block):=by
 obtain⟨i0,hi,Is,Ts,Ns⟩:=info_parts YH;have HI:=jA hi;have Dt:=jA Is;have Ct:=jA Ts;have Bt:=jA Ns;have HA:=jA ha;have Eu:=jA hb;clear hi Is Ts Ns ha hb;have S0:=KM.init x y Uv;go_enter Tryz.func134,Tryz.ntmps134;go_upto_region 2 with(refine wpList_make_row _ rfl _ _ 67 rfl 3 i0 (.int .i64 0) underlying67 HI.u Dt.u Ct.u rfl .i64 .i64 (dig x).length rfl rfl (by rw [Bt.u];omega) (by omega) ?_);rw [Zq];generalize hB:w.heap.size=d at*;refine xr (fun w1=>O0 d w w1∧w1.heap[d]?=some (.cells (ym (List.replicate (dig x).length 0)).toArray 3 (0,0))) ⟨by rw [←hB];exact(jN _ _).alloc (jO _) _,by rw [←hB];exact xh rfl⟩ (fun w1 ts=>?_);obtain⟨et,h1⟩:=ts;have HB:=jA hB;clear hB;go_upto_region 4 with(fail);go_loopw [7,8] (fun v i wr=> ∃(k r:Nat) (z:Int) (oc:s0) (cc:Nat) (Q:E0),k≤(dig x).length∧z=(k:Int)-1∧i=.int .i64 z∧v=.slice oc (dig r).length cc∧KM x y k Q r∧IntsAt wr oc (dig r)∧O0 d w wr∧wr.heap[d]?=some (.cells (ym Q).toArray 3 (0,0))) (fun _ i _=>(intOf i+1).toNat);case atStart=>exact⟨(dig x).length,0,(dig x).length-1,none,0,_,jO _,rfl,by go_num,by rw [yi];rfl,S0,by rw [yi];exact IntsAt.nil,et,h1⟩
 case round=>
 obtain⟨k,r,z,oc,cc,Q,hk,hz,rfl,rfl,S,hr,bel,hQ⟩:=hrel;clear et h1 S0;by_cases h0:k=0
 ·subst h0;obtain rfl:z= -1:=by omega
  have hd:=jA S.done;have hl:=S.len;have QT:=jA (KY (some ⟨d,0,none⟩) Q (dig x).length wr (Ya hQ rfl) (by omega) (by omega) S.all);rw [hd.u.1,hl]at QT;have HR:=jA hr;clear S hQ hr hz;go_wp2_with (go_at_call 135;refine QT.u.mono ?_;rintro e w3 ⟨rfl,UD,rfl⟩)
  go_ret2
  have IC:=HR.u;rw [hd.u.2]at IC;rw [hd.u.2];exact⟨_,_,oc,cc,rfl,UD,IC,by rw [HB.u];exact bel,fun a ha=>by injection ha with ha;subst ha;exact kh HB.u⟩
 obtain⟨i,rfl⟩: ∃i,k=i+1:=⟨k-1,by omega⟩;obtain rfl:z=(i:Int):=by omega
 have ns:i<(dig x).length:=by omega
 have rA:(0:Int)≤i:=by omega
 have iZ:(i:Int)<((dig x).length:Int):=by omega
 obtain⟨a0,Us,Ft⟩:=HA.u.get i ns;have Cv:a0.block<d:=by
  obtain⟨a1,h2,h3,_⟩:=HA.u.cells i ns;rw [Us]at h2;cases h2;rw [HB.u]at h3;exact h3
 have Ww:wr.cell? (a0.add i)=some (.int .i64 ((dAt (dig x) i:Nat):Int)):=by rw [bel.cell (p:=a0.add i) (by rw [yI];exact Cv)];exact Ft
 have D0:=S.digit ns;have hai:dAt (dig x) i<10:=yP (yN x) i;have D1:YN x y i Q (dAt (dig x) i+10*r):=D0;have Tz:(dig r).length≤(dig y).length:=yO _ _ (Nat.lt_trans S.lt (xz y));subst Us;clear D0 S Ft hz h0;generalize dAt (dig x) i=a at*;have hdw:d≤wr.heap.size:=by have:=xZ hQ;omega
 obtain⟨w0,rfl⟩: ∃w0,w0=wr:=⟨_,rfl⟩;obtain⟨B2,hB2⟩: ∃B2,B2=w0.heap.size:=⟨_,rfl⟩;go_upto_region 7 with(fail);refine xr (fun w4=>O0 B2 w0 w4∧w4.heap[B2]?=some (.cells #[.int .i64 (a:Int)] 3 (0,0))) ⟨by rw [hB2];exact(jN _ _).alloc (jO _) _,by rw [hB2];exact xh rfl⟩ (fun w4 Gu=>?_);obtain⟨Fs,h4⟩:=Gu;rw [←hB2];have Rx:=jgw (jO B2) h4;have iv:=jA hB2;have HR:=jA hr;have HQ:=jA hQ;have GX:=jA D1;have Fx:=jA bel;clear h4 hB2 hr hQ D1 bel Ww;go_upto_region 8 with(fail);go_loopw [9,29] (fun v j wi=> ∃k:Nat,k≤(dig r).length∧j=.int .i64 k∧O0 B2 w0 wi∧wi.ownsRow B2 3 1 v (k+1) (ym (a::(dig r).take k))) (fun _ j _=>(dig r).length-(intOf j).toNat);case atStart=>exact⟨0,by omega,rfl,Fs,by rw [qu];exact Rx⟩
 case round=>
 obtain⟨j,hj,rfl,ax,own⟩:=hrel;clear Fs Rx;by_cases Lx:j<(dig r).length
 ·have hdj:decide ((j:Int)<((dig r).length:Int))=true:=by simp;omega
  have EU:IntsAt wr oc (dig r):=HR.u.below (iv.u▸ax);obtain⟨r0,wB,FG⟩:=EU.get j Lx;have lT:wr.cell? (r0.add j)=some (.int .i64 ((dAt (dig r) j:Nat):Int)):=FG;have By:(j:Int)<((dig r).length:Int):=by omega
  have eI:(0:Int)≤j:=by omega
  have Uw:B2≤wr.heap.size:=by have:=ax.size;rw [←iv.u]at this;exact this
  have gJ:(dig r).take (j+1)=(dig r).take j++ [dAt (dig r) j]:=by
   rw [jh Lx];simp [dAt,jV,Lx]
  have Ou:=jA gJ;subst wB;clear EU FG gJ;generalize dAt (dig r) j=e0 at*;go_upto_region 11 with(at_builtin;refine kV _ rfl (.tmp 33) (.tmp 35) 67 rfl B2 3 i0 (.int .i64 0) 1 8 underlying67 HI.u Dt.u Ct.u Bt.u rfl (by decide) u9 (j+1) _ rfl (own.alloc _) ⟨wr.heap.size,0,none⟩ 1 1 (ym [e0]) rfl rfl ?c1 ?c2 ?c3 ?c4 ?c5 ?_);case c1=>exact Kz wr [e0] _ _ rfl
  case c2=>exact Ve _
  case c3=>unfold maxLen;omega
  case c4=>omega
  case c5=>first|omega|(simp;omega)
  intro v5 w5 Hs ru _;have Gs:O0 B2 w0 w5:=(ax.alloc Uw _).grown ru (by simp;omega) (fun q hq=>(own.lt q hq).1);rw [KI,vx,←Ou.u]at Hs;have iu:=jA Hs;clear Hs own ru ax lT;go_wp2_with fail;go_roundw;case rel=>exact⟨j+1,by omega,by go_num,Gs,iu.u⟩
  case measure=>simp [intOf];omega
 ·have hdj:decide ((j:Int)<((dig r).length:Int))=false:=by simp;omega
  obtain rfl:j=(dig r).length:=by omega
  rw [je (jO _)]at own;have ey:(a::dig r).length=(dig r).length+1:=rfl;obtain⟨on,cn,rfl,EO,TG,hIn⟩:=Vw (L:=a::dig r) own;obtain⟨LE,aF⟩:=jdr a r hai;have QT:=jA (KY on (a::dig r) cn wr hIn (by rw [ey];omega) EO LE);rw [aF]at QT;have hQ2:=xe ax (xZ HQ.u |> fun h=>by rw [iv.u];exact h) HQ.u;have us:O0 d w wr:=Fx.u.trans (ax.mono (by rw [iv.u];exact hdw));have hdB:d<B2:=by rw [iv.u];exact xZ HQ.u
  obtain⟨R,hR⟩: ∃R,R=a+10*r:=⟨_,rfl⟩;rw [←hR]at QT GX;clear hIn own HQ Fx HR ax LE aF hR;go_upto_region 13 with(go_at_call 135;refine QT.u.mono ?_;rintro e w6 ⟨rfl,pR,rfl⟩);have iI: ∀a,on=some a→d<a.block:=fun a h=>jW hdB (TG a h);go_loopw [7] (fun v wi=> ∃(R:Nat) (oc:s0) (cc:Nat) (Q:E0),v=.slice oc (dig R).length cc∧YN x y i Q R∧IntsAt wi oc (dig R)∧(∀a,oc=some a→d<a.block)∧O0 d w wi∧wi.heap[d]?=some (.cells (ym Q).toArray 3 (0,0))) (fun _ wi=>10-cellN wi d i);case atStart=>exact⟨R,on,cn,Q,rfl,GX.u,pR,iI,us,hQ2⟩
  case round=>
  clear pR us hQ2 GX QT iI TG EO ey Lx hdj hj;obtain⟨R1,oc,cc,Q1,rfl,S,hI,iI,bel,hQ⟩:=hrel;have Ny:(dig R1).length≤(dig y).length+1:=by
   refine yO _ _ ?_;have h1:=S.lt;have h2:=xz y;rw [js];omega
  have QC:=jA (Vm R1 y oc ob cc cb wr hI (Eu.u.below (by rw [HB.u];exact bel)) (by omega) (by omega));have Tw:d<wr.heap.size:=xZ hQ;have nG:=S.len;have HM:=jA (jaE hQ i (by omega));by_cases bD:y≤R1
  ·have gy:=jjs bD;have SN:=jA (S.next ns bD);have QS:=jA (fun w7 h1 h2=>Zn R1 y oc ob cc cb w7 bD h1 h2 (by omega) (by omega));clear S bD;generalize Ja R1 y=c1 at*;have hdc:decide ((0:Int)≤c1)=true:=by simp;exact gy
   go_upto_region 15 with(first
    |(go_at_call 83;refine QC.u.mono ?_;rintro e w7 ⟨rfl,Hw⟩;have WO:=hI.below Hw;have uI:=Eu.u.below (Below.trans (by rw [HB.u];exact bel) (Hw.mono (by rw [HB.u];omega))))
    |(go_at_call 84;refine(QS.u w7 WO uI).mono ?_;rintro e w8 ⟨oc8,cc8,rfl,IU,Ly,hf8⟩))
   have dU:d<w7.heap.size:=jW Tw Hw.size;have PO:=xe Ly dU (xe Hw Tw hQ);have UK:O0 d w w8:=(bel.trans (Hw.mono (jX Tw))).trans (Ly.mono (jX dU));have tM:=Vy PO i (by omega);have nM:=jc w8 d i _ _ PO;have UJ: ∀a,oc8=some a→d<a.block:=fun a h=>jW dU (hf8 a h);have FC:Hid (YN x y i (Q1.set i (dAt Q1 i+1)) (R1-y)∧dAt Q1 i+1<10):=SN;have hq10:dAt Q1 i+1<10:=SN.u.2;have BD:dAt (Q1.set i (dAt Q1 i+1)) i=dAt Q1 i+1:=by
    have:i<Q1.length:=by omega
    simp [dAt,jV,this]
   have HMS:=jA BD;clear SN QS QC hI iI bel hQ Hw WO uI Ly hf8 BD;have nC:=jA (fun q=>ZP PO i q);have rX:=jA IU;have hls:i<(Q1.set i (dAt Q1 i+1)).length:=by rw [kE];omega
   clear IU PO;generalize hq:dAt Q1 i=q at*;have hQ9:(w8.setCell ⟨d,i,none⟩ (.int .i64 ((q:Int)+1))).heap[d]?=some (.cells (ym (Q1.set i (q+1))).toArray 3 (0,0)):=by
    have:=nC.u (q+1);push_cast at this;exact this
   have HQ9:=jA hQ9;clear hQ9 nC;go_wp2_with fail;go_roundw;case rel=>exact⟨R1-y,oc8,cc8,_,rfl,FC.u.1,rX.u.set (fun a h=>Nat.ne_of_lt (UJ a h)),UJ,xl UK ((yG.refl d w8).setCell _ _) (jO _),HQ9.u⟩
   case measure=>
    rw [HM.u,jaE HQ9.u i hls,HMS.u];omega
  ·have gy:=jhi (show R1<y by omega);have SD:=jA (S.done (by omega));clear S;generalize Ja R1 y=c1 at*;have hdc:decide ((0:Int)≤c1)=false:=by simp;omega
   go_wp2_with (go_at_call 83;refine QC.u.mono ?_;rintro e w7 ⟨rfl,Hw⟩);have WO:=hI.below Hw;have oH:=bel.trans (Hw.mono (jX Tw));have hQ7:=xe Hw Tw hQ;clear QC hI bel hQ HM Hw;go_roundw;case rel=>exact⟨i,R1,(i:Int)-1,oc,cc,Q1,by omega,rfl,by go_num,rfl,SD.u,WO,oH,hQ7⟩
   case measure=>simp [intOf]
end Go.Proofs.YtnohcdpnnhmpfaaGreatDoor
namespace Go.Proofs.YtnohcdpnnhmpfaaGreatDoor
open Go.RowKit Tryz ML FM ND
variable{w w1:m0}
structure NFr(w:m0)(n d:Nat)(on od:s0):Prop where
 num:IntsAt w on (dig n)
 den:IntsAt w od (dig d)
theorem NFr.below{n d:Nat}{on od:s0}(h:NFr w n d on od)(hb:O0 w.heap.size w w1):NFr w1 n d on od:=⟨h.num.below hb,h.den.below hb⟩
theorem Xz:(prog.info? 69).map (·.size)=some 2:=by kernel_rfl
theorem IntsAt.spared{oc:s0}{L:E0}{B:Nat}{cs:t0}{t:o0}{fr:Nat×Nat}(h:IntsAt w oc L)(hb:w.heap[B]?=some (.cells cs t fr))(hn:cs.all zE=true)(ho:yG B w w1):IntsAt w1 oc L:=⟨fun i hi=>by
 obtain⟨a,h1,h2,h3⟩:=h.cells i hi;have Cs:(a.add i).block≠B:=by
  intro he;unfold World.cell? at h3;rw [he,hb]at h3;simp only at h3;split at h3;·cases h3
  ·obtain⟨ns,hv⟩:=vt.1 h3;rw [Array.all_eq_true]at hn;have:=hn _ ns;rw [hv]at this;cases this
 refine⟨a,h1,by rw [ho.size];exact h2,?_⟩;rw [vA (w:=w) (ho.block _ Cs)];exact h3⟩
theorem Qj(n d:Nat)(oa ob:s0)(ca cb:Nat)(w:m0)(Dy:0<d)(ha:IntsAt w oa (dig n))(hb:IntsAt w ob (dig d))(hx:(dig n).length<1099511627775)(hy:(dig d).length<1099511627775):
 Calls prog 78 #[.slice oa (dig n).length ca,.slice ob (dig d).length cb] w fun e w'=> ∃on od cn cd,e=.returned (.agg #[.slice on (dig (n/Nat.gcd n d)).length cn,.slice od (dig (d/Nat.gcd n d)).length cd])∧NFr w' (n/Nat.gcd n d) (d/Nat.gcd n d) on od∧O0 w.heap.size w w'∧(∀a,on=some a→w.heap.size≤a.block)∧(∀a,od=some a→w.heap.size≤a.block):=by
 have AO:0<Nat.gcd n d:=Nat.gcd_pos_of_pos_right n Dy;have HA:=jA ha;have Eu:=jA hb;have hl:(dig (Nat.gcd n d)).length≤(dig d).length:=yO _ _ (qK (Nat.le_of_dvd Dy (Nat.gcd_dvd_right n d)) (xz d));have QG:=jA (fun w h1 h2=>jhR n d oa ob ca cb w h1 h2 hx hy);have HS:=jA Xz;clear ha hb;generalize hgg:Nat.gcd n d=g at*;have QD1:=jA (fun og cg w h1 h2=>jdG n g oa og ca cg w AO h1 h2 (by omega) (by omega));have QD2:=jA (fun og cg w h1 h2=>jdG d g ob og cb cg w AO h1 h2 (by omega) (by omega));clear hgg AO Dy;go_enter Tryz.func78,Tryz.ntmps78;go_upto_region 1 with(fail);generalize hB:w.heap.size=B at*;have HB:=jA hB;refine Go.bxE hB ?_;intro w1 ts;have dA:=jA ts;clear ts hB;go_upto_region 2 with(go_at_call 133;refine(QG.u w1 (HA.u.below (HB.u▸dA.u.1)) (Eu.u.below (HB.u▸dA.u.1))).mono ?_;rintro e w2 ⟨og,cg,rfl,hIg,us⟩;have pX:=jA hIg;clear hIg);have S4:=jA (show w.heap.size≤w2.heap.size from jU dA.u.1.size us.size);have B4:=jA (dA.u.1.trans (us.mono (HB.u▸dA.u.1.size)));have pN:=jA (xe us (xZ dA.u.2) dA.u.2);have QD3:=jA (QD1.u og cg w2 (HA.u.below (HB.u▸B4.u)) pX.u);clear us dA QG QD1;go_upto_region 3 with(go_at_call 134;refine QD3.u.mono ?_;rintro e w5 ⟨oq,cq,or,cr,rfl,hq, -,Gs,fq⟩;have HQ:=jA hq;have FQ:=jA fq;clear hq fq);have MX:=jA (xe Gs (xZ pN.u) pN.u);have S5:=jA (show w.heap.size≤w5.heap.size from jU S4.u Gs.size);have B5:=jA (B4.u.trans (Gs.mono (HB.u▸B4.u.size)));have QD4:=jA (QD2.u og cg w5 (Eu.u.below (HB.u▸B5.u)) (pX.u.below Gs));clear QD3 QD2 pX Gs pN B4;go_upto_region 4 with(go_at_call 134;refine QD4.u.mono ?_;rintro e w6 ⟨oq2,cq2,or2,MK,rfl,TY, -,Et,fq2⟩;have HQ2:=jA TY;have FQ2:=jA fq2;clear TY fq2);have LX:=jA (xe Et (xZ MX.u) MX.u);have B6:=jA (B5.u.trans (Et.mono (HB.u▸B5.u.size)));have HQ6:=jA (HQ.u.below Et);clear MX B5 HQ Et QD4;go_wp2_with (refine xg rfl rfl 69 _ _ rfl B #[.slice none 0 0,.slice none 0 0] #[.slice oq (dig (n/g)).length cq,.slice oq2 (dig (d/g)).length cq2] 69 rfl rfl LX.u rfl HS.u (ze _ _ _ _ _ _) ?_;intro w7 ho hp);refine jq (kB rfl _ w7 B _ _ _ _ rfl hp underlying69 rfl HS.u) rfl ⟨oq,oq2,cq,cq2,rfl,⟨HQ6.u.spared LX.u yf ho,HQ2.u.spared LX.u yf ho⟩,by rw [HB.u];exact xl B6.u ho (jO _),fun a ha=>jU S4.u (FQ.u a ha),fun a ha=>jU S5.u (FQ2.u a ha)⟩
theorem jeZ(n:Nat)(w:m0)(hn:n<9223372036854775808):
 Calls prog 33 #[.int .i64 (n:Int)] w fun e w'=> ∃on od cn cd,e=.returned (.agg #[.slice on (dig n).length cn,.slice od (dig 1).length cd])∧NFr w' n 1 on od∧O0 w.heap.size w w'∧(∀a,on=some a→w.heap.size≤a.block)∧(∀a,od=some a→w.heap.size≤a.block):=by
 have QO:=jA (fun w=>jgn n w hn);have QO1:=jA (fun w=>jgn 1 w (by decide));have HS:=jA Xz;have AD:=jA (show dig 1= [1]by rw [JQ (by decide)];simp [yi]);rw [AD.u]at QO1 ⊢;clear hn;go_enter Tryz.func33,Tryz.ntmps33;go_upto_region 1 with(fail);generalize hB:w.heap.size=B at*;have HB:=jA hB;refine Go.bxE hB ?_;intro w1 ts;have B1:=jA ts.1;have oD:=jA ts.2;clear ts hB;go_wp2_with (first
  |(go_at_call 80;(with_reducible refine(QO.u w1).mono ?_);rintro e w2 ⟨oa,ca,rfl,h2,us,f2⟩;have H2:=jA h2;have F2:=jA (fun a ha=>jU B1.u.size (f2 a ha));clear f2;have B2:=jA (B1.u.trans (us.mono (HB.u▸B1.u.size)));have GH:=jA (xe us (xZ oD.u) oD.u);clear h2 us)
  |(go_at_call 80;refine(QO1.u w2).mono ?_;rintro e w3 ⟨ob,cb,rfl,h3,ws,f3⟩;have H3:=jA h3;have F3:=jA (fun a ha=>jU B2.u.size (f3 a ha));clear f3;have B3:=jA (B2.u.trans (ws.mono (HB.u▸B2.u.size)));have OX:=jA (xe ws (xZ GH.u) GH.u);have H23:=jA (H2.u.below ws);clear h3 ws)
  |(refine xg rfl rfl 69 _ _ rfl B #[.slice none 0 0,.slice none 0 0] #[.slice oa (dig n).length ca,.slice ob 1 cb] 69 rfl rfl OX.u rfl HS.u (ze _ _ _ _ _ _) ?_;intro w7 ho hp))
 refine jq (kB rfl _ w7 B _ _ _ _ rfl hp underlying69 rfl HS.u) rfl ⟨oa,ob,ca,cb,rfl,⟨H23.u.spared OX.u yf ho,by rw [AD.u];exact H3.u.spared OX.u yf ho⟩,by rw [HB.u];exact xl B3.u ho (jO _),F2.u,F3.u⟩
end Go.Proofs.YtnohcdpnnhmpfaaGreatDoor
