/-
  The reference's Gcd.
  The reference's Of and Div: what comes out lies in new memory (turned by tools/mkref13.py).
  The reference's fractions: Lowest, Whole; the law's read.
-/
import Derived.Test.YtnohcdpnnhmpfaaGreatDoorQ04
import Derived.Test.YtnohcdpnnhmpfaaGreatDoorQ03
set_option linter.unusedVariables false
set_option linter.unusedSimpArgs false
set_option maxRecDepth 100000
set_option maxHeartbeats 4000000
namespace Go.Proofs.YtnohcdpnnhmpfaaGreatDoor
open Go.RowKit Tryz ML ND
theorem jiA {w:World}{L:List Nat}(h:IntsAt w none L):L= []:=by
 cases hq:L with
 |nil=>rfl
 |
  cons x r=>
  obtain⟨a,h1,_⟩:=h.cells 0 (by rw [hq];simp);cases h1
def jhk(w:World)(v:Value):Nat:=match v with
 | .slice (some a) n _=>val ((List.range n).map fun i=>match w.cell? (a.add i)with|some v=>(intOf v).toNat|none=>0)
 |_=>0
theorem jfa {w:World}{oc:Option Addr}{L:List Nat}(h:IntsAt w oc L)(cc:Nat):jhk w (.slice oc L.length cc)=val L:=by
 cases oc with
 |none=>rw [jiA h];rfl
 |
  some a=>
  have e:((List.range L.length).map fun i=>match w.cell? (a.add i)with|some v=>(intOf v).toNat|none=>0)=L:=by
   refine vI (by rw [jz,kZ]) (fun i h1 h2=>?_);obtain⟨a',he,_,hc⟩:=h.cells i h2;cases he;rw [List.getElem_map,List.getElem_range,hc];simp [intOf]
  show val ((List.range L.length).map fun i=>match w.cell? (a.add i)with|some v=>(intOf v).toNat|none=>0)=val L;rw [e]
theorem jfZ(x y:Nat)(oa ob:Option Addr)(ca cb:Nat)(w:World)(ha:IntsAt w oa (dig x))(hb:IntsAt w ob (dig y))(hx:(dig x).length<1099511627775)(hy:(dig y).length<1099511627775):
 Calls prog 133 #[.slice oa (dig x).length ca,.slice ob (dig y).length cb] w fun e w'=> ∃oc cc,e=.returned (.slice oc (dig (Nat.gcd x y)).length cc)∧IntsAt w' oc (dig (Nat.gcd x y))∧Below w.heap.size w w':=by
 have HA:=jA ha;have HBB:=jA hb;clear ha hb;go_enter Tryz.func133,Tryz.ntmps133;go_upto_region 1 with(fail);go_loopw [0,1] (fun va vb wr=> ∃(X Y:Nat) (oX oY:Option Addr) (cX cY:Nat),va=.slice oX (dig X).length cX∧vb=.slice oY (dig Y).length cY∧Nat.gcd X Y=Nat.gcd x y∧(dig X).length<1099511627775∧(dig Y).length<1099511627775∧IntsAt wr oX (dig X)∧IntsAt wr oY (dig Y)∧Below w.heap.size w wr) (fun _ vb wr=>jhk wr vb);case atStart=>exact⟨x,y,oa,ob,ca,cb,rfl,rfl,rfl,hx,hy,HA.u,HBB.u,jN _ _⟩
 case round=>
 obtain⟨X,Y,oX,oY,cX,cY,rfl,rfl,hg,hX,hY,hIX,hIY,bel⟩:=hrel;clear HA HBB hx hy;have HG:=jA hg;have HM:=jA (jfa hIY cY);rw [yD]at HM;by_cases h0:Y=0
 ·subst h0;have HIX:=jA hIX;rw [yP];rw [Nat.gcd_zero_right]at HG;clear hg hIX hIY HM;go_wp2_with fail;go_ret;rw [←HG.u];exact⟨oX,cX,rfl,HIX.u,bel⟩
 ·have hY0:0<Y:=by omega
  have hlz:0<(dig Y).length:=by
   rcases qz (dig Y).length with h1|h1
   ·have:=xY Y;rw [h1]at this;omega
   ·exact h1
  have hlz2:decide ((0:Int)<((dig Y).length:Int))=true:=by simp;omega
  have QD:=jA (jga X Y oX oY cX cY wr hY0 hIX hIY (by omega) hY);have HIY:=jA hIY;have HML:=jA (qC X hY0);have HL:=jA (show(dig (X%Y)).length≤(dig Y).length from xw _ _ (Nat.lt_trans (qC X hY0) (xY Y)));have hG2:=jA (show Nat.gcd Y (X%Y)=Nat.gcd x y by rw [Nat.gcd_comm,←Nat.gcd_rec,Nat.gcd_comm];exact hg);clear hg hIX hIY h0;go_wp2_with (go_at_call 134;refine QD.u.mono ?_;rintro e w2 ⟨oq,cq,or,cr,rfl,hq,hr,bel2⟩;have HR:=jA hr;clear hq hr);have hm2:=jA (jfa HR.u cr);go_roundw;case rel=>exact⟨Y,X%Y,oY,or,cY,cr,rfl,rfl,hG2.u,hY,by have:=HL.u;omega,HIY.u.below bel2,HR.u,bel.trans (bel2.mono bel.size)⟩
  case measure=>
   have e:=hm2.u;rw [yD]at e;show jhk w2 (.slice or (dig (X%Y)).length cr)<jhk _ (.slice oY (dig Y).length cY);rw [e,HM.u];exact HML.u
theorem jeF(n:Nat)(w:World)(hn:n<9223372036854775808):
 Calls prog 80 #[.int .i64 (n:Int)] w fun e w'=> ∃oa cap,e=.returned (.slice oa (dig n).length cap)∧IntsAt w' oa (dig n)∧Below w.heap.size w w'∧(∀a,oa=some a→w.heap.size≤a.block):=by
 obtain⟨i0,hi,hz0,hz1,hz2⟩:=info_parts XL;have HI:=jA hi;have HZ0:=jA hz0;have HZ1:=jA hz1;have HZ2:=jA hz2;clear hi hz0 hz1 hz2;go_enter Tryz.func80,Tryz.ntmps80;go_wp2_with fail;generalize hB:w.heap.size=B at*;have HB:=jA hB;clear hB;go_loopw [0,3] (fun z v wr=> ∃(L:List Nat) (k:Nat),z=.int .i64 k∧k≤n∧L++dig k=dig n∧L.length+k≤n∧Below B w wr∧wr.ownsRow B 3 1 v L.length (yT L)) (fun z _ _=>(intOf z).toNat);case atStart=>exact⟨[],n,rfl,jO _,rfl,by simp,jN _ _,qA _ _ _ _⟩
 case round=>
 obtain⟨L,k,rfl,hk,hL,hl,bel,own⟩:=hrel;by_cases h0:0<k
 ·have hd:decide ((0:Int)<(k:Int))=true:=by simp;omega
  have hBw:B≤wr.heap.size:=by have:=bel.size;rw [HB.u]at this;exact this
  have hl19:L.length≤19:=by
   have h1:=xw n 19 (by omega);rw [←hL,ja]at h1;omega
  have hst:=jA (show(L++ [k%10])++dig (k/10)=dig n by rw [kS,List.singleton_append,←zt h0];exact hL);go_upto_region 4 with(at_builtin;refine kQ _ rfl (.tmp 6) (.tmp 9) 67 rfl B 3 i0 (.int .i64 0) 1 8 underlying67 HI.u HZ0.u HZ1.u HZ2.u rfl (by decide) u3 L.length (yT L) rfl (own.alloc _) ⟨wr.heap.size,0,none⟩ 1 1 (yT [k%10]) rfl rfl ?c1 ?c2 ?c3 ?c4 ?c5 ?_);case c1=>exact KZ wr [k%10] _ _ rfl
  case c2=>exact Qt _
  case c3=>unfold maxLen;omega
  case c4=>omega
  case c5=>simp;omega
  intro v5 w5 own5 hg5 _;have bel5:Below B w w5:=(bel.alloc hBw _).grown hg5 (by simp;omega) (fun q hq=>(own.lt q hq).1);rw [Jg]at own5;have OWN5:w5.ownsRow B 3 1 v5 (L++ [k%10]).length (yT (L++ [k%10])):=by rw [ja];exact own5
  clear own5 own hg5 bel hL;go_wp2_with fail;go_roundw;case rel=>exact⟨L++ [k%10],k/10,by go_num,by omega,hst.u,by rw [ja,kL];omega,bel5,OWN5⟩
  case measure=>simp [intOf];omega
 ·have hd:decide ((0:Int)<(k:Int))=false:=by simp;omega
  obtain rfl:k=0:=by omega
  rw [yP,qD]at hL;obtain⟨oa,cap,rfl,_,_,hI⟩:=VL own;have HF:=jA (show ∀a,oa=some a→w.heap.size≤a.block from fun a ha=>by subst ha;rw [HB.u];exact(own.lt a.block rfl).1);rw [hL]at hI;have HLn:=jA hL;clear hL own;go_wp2_with fail;go_ret;exact⟨oa,cap,by rw [HLn.u];rfl,hI,by rw [HB.u];exact bel,HF.u⟩
theorem jcj(x y:Nat)(oa ob:Option Addr)(ca cb:Nat)(w:World)(hy0:0<y)(ha:IntsAt w oa (dig x))(hb:IntsAt w ob (dig y))(hx:(dig x).length<1099511627776)(hy:(dig y).length<1099511627775):
 Calls prog 134 #[.slice oa (dig x).length ca,.slice ob (dig y).length cb] w fun e w'=> ∃oq cq or cr,e=.returned (.tuple #[.slice oq (dig (x/y)).length cq,.slice or (dig (x%y)).length cr])∧IntsAt w' oq (dig (x/y))∧IntsAt w' or (dig (x%y))∧Below w.heap.size w w'∧(∀a,oq=some a→w.heap.size≤a.block):=by
 obtain⟨i0,hi,hz0,hz1,hz2⟩:=info_parts XL;have HI:=jA hi;have HZ0:=jA hz0;have HZ1:=jA hz1;have HZ2:=jA hz2;have HA:=jA ha;have HBB:=jA hb;clear hi hz0 hz1 hz2 ha hb;have S0:=Ji.init x y hy0;go_enter Tryz.func134,Tryz.ntmps134;go_upto_region 2 with(refine wpList_make_row _ rfl _ _ 67 rfl 3 i0 (.int .i64 0) underlying67 HI.u HZ0.u HZ1.u rfl .i64 .i64 (dig x).length rfl rfl (by rw [HZ2.u];omega) (by omega) ?_);rw [Yp];generalize hB:w.heap.size=d at*;refine xP (fun w1=>Below d w w1∧w1.heap[d]?=some (.cells (yT (List.replicate (dig x).length 0)).toArray 3 (0,0))) ⟨by rw [←hB];exact(jN _ _).alloc (jO _) _,by rw [←hB];exact xN rfl⟩ (fun w1 hw1=>?_);obtain⟨bel1,h1⟩:=hw1;have HB:=jA hB;clear hB;go_upto_region 4 with(fail);go_loopw [7,8] (fun v i wr=> ∃(k r:Nat) (z:Int) (oc:Option Addr) (cc:Nat) (Q:List Nat),k≤(dig x).length∧z=(k:Int)-1∧i=.int .i64 z∧v=.slice oc (dig r).length cc∧Ji x y k Q r∧IntsAt wr oc (dig r)∧Below d w wr∧wr.heap[d]?=some (.cells (yT Q).toArray 3 (0,0))) (fun _ i _=>(intOf i+1).toNat);case atStart=>exact⟨(dig x).length,0,(dig x).length-1,none,0,_,jO _,rfl,by go_num,by rw [yP];rfl,S0,by rw [yP];exact IntsAt.nil,bel1,h1⟩
 case round=>
 obtain⟨k,r,z,oc,cc,Q,hk,hz,rfl,rfl,S,hr,bel,hQ⟩:=hrel;clear bel1 h1 S0;by_cases h0:k=0
 ·subst h0;obtain rfl:z= -1:=by omega
  have hd:=jA S.done;have hl:=S.len;have QT:=jA (Js (some ⟨d,0,none⟩) Q (dig x).length wr (Xg hQ rfl) (by omega) (by omega) S.all);rw [hd.u.1,hl]at QT;have HR:=jA hr;clear S hQ hr hz;go_wp2_with (go_at_call 135;refine QT.u.mono ?_;rintro e w3 ⟨rfl,hI3,rfl⟩)
  go_ret2
  have HR2:=HR.u;rw [hd.u.2]at HR2;rw [hd.u.2];exact⟨_,_,oc,cc,rfl,hI3,HR2,by rw [HB.u];exact bel,fun a ha=>by injection ha with ha;subst ha;exact kg HB.u⟩
 obtain⟨i,rfl⟩: ∃i,k=i+1:=⟨k-1,by omega⟩;obtain rfl:z=(i:Int):=by omega
 have hlt:i<(dig x).length:=by omega
 have hi0:(0:Int)≤i:=by omega
 have hix:(i:Int)<((dig x).length:Int):=by omega
 obtain⟨a0,hoa,hac⟩:=HA.u.get i hlt;have hablk:a0.block<d:=by
  obtain⟨a1,h2,h3,_⟩:=HA.u.cells i hlt;rw [hoa]at h2;cases h2;rw [HB.u]at h3;exact h3
 have hac3:wr.cell? (a0.add i)=some (.int .i64 ((dAt (dig x) i:Nat):Int)):=by rw [bel.cell (p:=a0.add i) (by rw [xy];exact hablk)];exact hac
 have D0:=S.digit hlt;have hai:dAt (dig x) i<10:=xz (xu x) i;have D1:XS x y i Q (dAt (dig x) i+10*r):=D0;have hrl:(dig r).length≤(dig y).length:=xw _ _ (Nat.lt_trans S.lt (xY y));subst hoa;clear D0 S hac hz h0;generalize dAt (dig x) i=a at*;have hdw:d≤wr.heap.size:=by have:=lt_of_heap hQ;omega
 obtain⟨w0,rfl⟩: ∃w0,w0=wr:=⟨_,rfl⟩;obtain⟨B2,hB2⟩: ∃B2,B2=w0.heap.size:=⟨_,rfl⟩;go_upto_region 7 with(fail);refine xP (fun w4=>Below B2 w0 w4∧w4.heap[B2]?=some (.cells #[.int .i64 (a:Int)] 3 (0,0))) ⟨by rw [hB2];exact(jN _ _).alloc (jO _) _,by rw [hB2];exact xN rfl⟩ (fun w4 hw4=>?_);obtain⟨bel4,h4⟩:=hw4;rw [←hB2];have own4:=jeP (jO B2) h4;have HB2:=jA hB2;have HR:=jA hr;have HQ:=jA hQ;have HD1:=jA D1;have HBEL:=jA bel;clear h4 hB2 hr hQ D1 bel hac3;go_upto_region 8 with(fail);go_loopw [9,29] (fun v j wi=> ∃k:Nat,k≤(dig r).length∧j=.int .i64 k∧Below B2 w0 wi∧wi.ownsRow B2 3 1 v (k+1) (yT (a::(dig r).take k))) (fun _ j _=>(dig r).length-(intOf j).toNat);case atStart=>exact⟨0,by omega,rfl,bel4,by rw [qe];exact own4⟩
 case round=>
 obtain⟨j,hj,rfl,beli,own⟩:=hrel;clear bel4 own4;by_cases hjr:j<(dig r).length
 ·have hdj:decide ((j:Int)<((dig r).length:Int))=true:=by simp;omega
  have hIr:IntsAt wr oc (dig r):=HR.u.below (HB2.u▸beli);obtain⟨r0,hor,hrc⟩:=hIr.get j hjr;have hrc2:wr.cell? (r0.add j)=some (.int .i64 ((dAt (dig r) j:Nat):Int)):=hrc;have hjl:(j:Int)<((dig r).length:Int):=by omega
  have hj0:(0:Int)≤j:=by omega
  have hbw:B2≤wr.heap.size:=by have:=beli.size;rw [←HB2.u]at this;exact this
  have htk:(dig r).take (j+1)=(dig r).take j++ [dAt (dig r) j]:=by
   rw [jk hjr];simp [dAt,jW,hjr]
  have HTK:=jA htk;subst hor;clear hIr hrc htk;generalize dAt (dig r) j=e0 at*;go_upto_region 11 with(at_builtin;refine kQ _ rfl (.tmp 33) (.tmp 35) 67 rfl B2 3 i0 (.int .i64 0) 1 8 underlying67 HI.u HZ0.u HZ1.u HZ2.u rfl (by decide) u9 (j+1) _ rfl (own.alloc _) ⟨wr.heap.size,0,none⟩ 1 1 (yT [e0]) rfl rfl ?c1 ?c2 ?c3 ?c4 ?c5 ?_);case c1=>exact KZ wr [e0] _ _ rfl
  case c2=>exact Qt _
  case c3=>unfold maxLen;omega
  case c4=>omega
  case c5=>first|omega|(simp;omega)
  intro v5 w5 own5 hg5 _;have bel5:Below B2 w0 w5:=(beli.alloc hbw _).grown hg5 (by simp;omega) (fun q hq=>(own.lt q hq).1);rw [Jg,vU,←HTK.u]at own5;have OWN5:=jA own5;clear own5 own hg5 beli hrc2;go_wp2_with fail;go_roundw;case rel=>exact⟨j+1,by omega,by go_num,bel5,OWN5.u⟩
  case measure=>simp [intOf];omega
 ·have hdj:decide ((j:Int)<((dig r).length:Int))=false:=by simp;omega
  obtain rfl:j=(dig r).length:=by omega
  rw [jc (jO _)]at own;have hcl:(a::dig r).length=(dig r).length+1:=rfl;obtain⟨on,cn,rfl,hcn,hfn,hIn⟩:=VL (L:=a::dig r) own;obtain⟨hAl,htr⟩:=jbU a r hai;have QT:=jA (Js on (a::dig r) cn wr hIn (by rw [hcl];omega) hcn hAl);rw [htr]at QT;have hQ2:=xK beli (lt_of_heap HQ.u |> fun h=>by rw [HB2.u];exact h) HQ.u;have bel2:Below d w wr:=HBEL.u.trans (beli.mono (by rw [HB2.u];exact hdw));have hdB:d<B2:=by rw [HB2.u];exact lt_of_heap HQ.u
  obtain⟨R,hR⟩: ∃R,R=a+10*r:=⟨_,rfl⟩;rw [←hR]at QT HD1;clear hIn own HQ HBEL HR beli hAl htr hR;go_upto_region 13 with(go_at_call 135;refine QT.u.mono ?_;rintro e w6 ⟨rfl,hI6,rfl⟩);have hfd: ∀a,on=some a→d<a.block:=fun a h=>jV hdB (hfn a h);go_loopw [7] (fun v wi=> ∃(R:Nat) (oc:Option Addr) (cc:Nat) (Q:List Nat),v=.slice oc (dig R).length cc∧XS x y i Q R∧IntsAt wi oc (dig R)∧(∀a,oc=some a→d<a.block)∧Below d w wi∧wi.heap[d]?=some (.cells (yT Q).toArray 3 (0,0))) (fun _ wi=>10-cellN wi d i);case atStart=>exact⟨R,on,cn,Q,rfl,HD1.u,hI6,hfd,bel2,hQ2⟩
  case round=>
  clear hI6 bel2 hQ2 HD1 QT hfd hfn hcn hcl hjr hdj hj;obtain⟨R1,oc,cc,Q1,rfl,S,hI,hfd,bel,hQ⟩:=hrel;have hRl:(dig R1).length≤(dig y).length+1:=by
   refine xw _ _ ?_;have h1:=S.lt;have h2:=xY y;rw [jr];omega
  have QC:=jA (VE R1 y oc ob cc cb wr hI (HBB.u.below (by rw [HB.u];exact bel)) (by omega) (by omega));have hdl:d<wr.heap.size:=lt_of_heap hQ;have hQl:=S.len;have HM:=jA (Za hQ i (by omega));by_cases hge:y≤R1
  ·have hc0:=jhu hge;have SN:=jA (S.next hlt hge);have QS:=jA (fun w7 h1 h2=>Ym R1 y oc ob cc cb w7 hge h1 h2 (by omega) (by omega));have HGE:=jA hge;clear S hge;generalize Jd R1 y=c1 at*;have hdc:decide ((0:Int)≤c1)=true:=by simp;exact hc0
   go_upto_region 15 with(first
    |(go_at_call 83;refine QC.u.mono ?_;rintro e w7 ⟨rfl,hb7⟩;have hI7:=hI.below hb7;have hB7:=HBB.u.below (Below.trans (by rw [HB.u];exact bel) (hb7.mono (by rw [HB.u];omega))))
    |(go_at_call 84;refine(QS.u w7 hI7 hB7).mono ?_;rintro e w8 ⟨oc8,cc8,rfl,hI8,hb8,hf8⟩))
   have hd7:d<w7.heap.size:=jV hdl hb7.size;have hQ8:=xK hb8 hd7 (xK hb7 hdl hQ);have bel8:Below d w w8:=(bel.trans (hb7.mono (jZ hdl))).trans (hb8.mono (jZ hd7));have hc8:=VN hQ8 i (by omega);have hfz:=jb w8 d i _ _ hQ8;have hf8d: ∀a,oc8=some a→d<a.block:=fun a h=>jV hd7 (hf8 a h);have SN2:Hid (XS x y i (Q1.set i (dAt Q1 i+1)) (R1-y)∧dAt Q1 i+1<10):=SN;have hq10:dAt Q1 i+1<10:=SN.u.2;have hmeas:dAt (Q1.set i (dAt Q1 i+1)) i=dAt Q1 i+1:=by
    have:i<Q1.length:=by omega
    simp [dAt,jW,this]
   have HMS:=jA hmeas;clear SN QS QC hI hfd bel hQ hb7 hI7 hB7 hb8 hf8 hmeas;have hset:=jA (fun q=>YS hQ8 i q);have HI8:=jA hI8;have hls:i<(Q1.set i (dAt Q1 i+1)).length:=by rw [kD];omega
   clear hI8 hQ8;generalize hq:dAt Q1 i=q at*;have hQ9:(w8.setCell ⟨d,i,none⟩ (.int .i64 ((q:Int)+1))).heap[d]?=some (.cells (yT (Q1.set i (q+1))).toArray 3 (0,0)):=by
    have:=hset.u (q+1);push_cast at this;exact this
   have HQ9:=jA hQ9;clear hQ9 hset;go_wp2_with fail;go_roundw;case rel=>exact⟨R1-y,oc8,cc8,_,rfl,SN2.u.1,HI8.u.set (fun a h=>Nat.ne_of_lt (hf8d a h)),hf8d,xQ bel8 ((xp.refl d w8).setCell _ _) (jO _),HQ9.u⟩
   case measure=>
    rw [HM.u,Za HQ9.u i hls,HMS.u];omega
  ·have hc0:=jft (show R1<y by omega);have SD:=jA (S.done (by omega));clear S;generalize Jd R1 y=c1 at*;have hdc:decide ((0:Int)≤c1)=false:=by simp;omega
   go_wp2_with (go_at_call 83;refine QC.u.mono ?_;rintro e w7 ⟨rfl,hb7⟩);have hI7:=hI.below hb7;have bel7:=bel.trans (hb7.mono (jZ hdl));have hQ7:=xK hb7 hdl hQ;clear QC hI bel hQ HM hb7;go_roundw;case rel=>exact⟨i,R1,(i:Int)-1,oc,cc,Q1,by omega,rfl,by go_num,rfl,SD.u,hI7,bel7,hQ7⟩
   case measure=>simp [intOf]
end Go.Proofs.YtnohcdpnnhmpfaaGreatDoor
namespace Go.Proofs.YtnohcdpnnhmpfaaGreatDoor
open Go.RowKit Tryz ML FM ND
structure NFr(w:World)(n d:Nat)(on od:Option Addr):Prop where
 num:IntsAt w on (dig n)
 den:IntsAt w od (dig d)
theorem NFr.below {w w1:World}{n d:Nat}{on od:Option Addr}(h:NFr w n d on od)(hb:Below w.heap.size w w1):NFr w1 n d on od:=⟨h.num.below hb,h.den.below hb⟩
theorem XE:(prog.info? 69).map (·.size)=some 2:=by kernel_rfl
theorem IntsAt.spared {w w1:World}{oc:Option Addr}{L:List Nat}{B:Nat}{cs:Array Value}{t:TypeId}{fr:Nat×Nat}(h:IntsAt w oc L)(hb:w.heap[B]?=some (.cells cs t fr))(hn:cs.all ym=true)(ho:xp B w w1):IntsAt w1 oc L:=⟨fun i hi=>by
 obtain⟨a,h1,h2,h3⟩:=h.cells i hi;have hne:(a.add i).block≠B:=by
  intro he;unfold World.cell? at h3;rw [he,hb]at h3;simp only at h3;split at h3;·cases h3
  ·obtain⟨hlt,hv⟩:=vP.1 h3;rw [Array.all_eq_true]at hn;have:=hn _ hlt;rw [hv]at this;cases this
 refine⟨a,h1,by rw [ho.size];exact h2,?_⟩;rw [qh (w:=w) (ho.block _ hne)];exact h3⟩
theorem Kp(n d:Nat)(oa ob:Option Addr)(ca cb:Nat)(w:World)(hd0:0<d)(ha:IntsAt w oa (dig n))(hb:IntsAt w ob (dig d))(hx:(dig n).length<1099511627775)(hy:(dig d).length<1099511627775):
 Calls prog 78 #[.slice oa (dig n).length ca,.slice ob (dig d).length cb] w fun e w'=> ∃on od cn cd,e=.returned (.agg #[.slice on (dig (n/Nat.gcd n d)).length cn,.slice od (dig (d/Nat.gcd n d)).length cd])∧NFr w' (n/Nat.gcd n d) (d/Nat.gcd n d) on od∧Below w.heap.size w w'∧(∀a,on=some a→w.heap.size≤a.block)∧(∀a,od=some a→w.heap.size≤a.block):=by
 have hg0:0<Nat.gcd n d:=Nat.gcd_pos_of_pos_right n hd0;have HA:=jA ha;have HBB:=jA hb;have hl:(dig (Nat.gcd n d)).length≤(dig d).length:=xw _ _ (qB (Nat.le_of_dvd hd0 (Nat.gcd_dvd_right n d)) (xY d));have QG:=jA (fun w h1 h2=>jfZ n d oa ob ca cb w h1 h2 hx hy);have HS:=jA XE;have HG0:=jA hg0;clear ha hb;generalize hgg:Nat.gcd n d=g at*;have QD1:=jA (fun og cg w h1 h2=>jcj n g oa og ca cg w hg0 h1 h2 (by omega) (by omega));have QD2:=jA (fun og cg w h1 h2=>jcj d g ob og cb cg w hg0 h1 h2 (by omega) (by omega));have HGG:=jA hgg;clear hgg hg0 hd0;go_enter Tryz.func78,Tryz.ntmps78;go_upto_region 1 with(fail);generalize hB:w.heap.size=B at*;have HB:=jA hB;refine xP (fun w1=>Below B w w1∧w1.heap[B]?=some (.cells #[.slice none 0 0,.slice none 0 0] 69 (0,0))) ⟨by rw [←hB];exact(jN _ _).alloc (jO _) _,by rw [←hB];exact xN rfl⟩ (fun w1 hw1=>?_);have HW1:=jA hw1;clear hw1 hB;go_upto_region 2 with(go_at_call 133;refine(QG.u w1 (HA.u.below (HB.u▸HW1.u.1)) (HBB.u.below (HB.u▸HW1.u.1))).mono ?_;rintro e w2 ⟨og,cg,rfl,hIg,bel2⟩;have HIG:=jA hIg;clear hIg);have S4:=jA (show w.heap.size≤w2.heap.size from jU HW1.u.1.size bel2.size);have B4:=jA (HW1.u.1.trans (bel2.mono (HB.u▸HW1.u.1.size)));have HC4:=jA (xK bel2 (lt_of_heap HW1.u.2) HW1.u.2);have QD3:=jA (QD1.u og cg w2 (HA.u.below (HB.u▸B4.u)) HIG.u);clear bel2 HW1 QG QD1;go_upto_region 3 with(go_at_call 134;refine QD3.u.mono ?_;rintro e w5 ⟨oq,cq,or,cr,rfl,hq, -,bel5,fq⟩;have HQ:=jA hq;have FQ:=jA fq;clear hq fq);have HC5:=jA (xK bel5 (lt_of_heap HC4.u) HC4.u);have S5:=jA (show w.heap.size≤w5.heap.size from jU S4.u bel5.size);have B5:=jA (B4.u.trans (bel5.mono (HB.u▸B4.u.size)));have QD4:=jA (QD2.u og cg w5 (HBB.u.below (HB.u▸B5.u)) (HIG.u.below bel5));clear QD3 QD2 HIG bel5 HC4 B4;go_upto_region 4 with(go_at_call 134;refine QD4.u.mono ?_;rintro e w6 ⟨oq2,cq2,or2,cr2,rfl,hq2, -,bel6,fq2⟩;have HQ2:=jA hq2;have FQ2:=jA fq2;clear hq2 fq2);have HC6:=jA (xK bel6 (lt_of_heap HC5.u) HC5.u);have B6:=jA (B5.u.trans (bel6.mono (HB.u▸B5.u.size)));have HQ6:=jA (HQ.u.below bel6);clear HC5 B5 HQ bel6 QD4;go_wp2_with (refine xM rfl rfl 69 _ _ rfl B #[.slice none 0 0,.slice none 0 0] #[.slice oq (dig (n/g)).length cq,.slice oq2 (dig (d/g)).length cq2] 69 rfl rfl HC6.u rfl HS.u (zH _ _ _ _ _ _) ?_;intro w7 ho hp);refine jm (jw rfl _ w7 B _ _ _ _ rfl hp underlying69 rfl HS.u) rfl ⟨oq,oq2,cq,cq2,rfl,⟨HQ6.u.spared HC6.u yL ho,HQ2.u.spared HC6.u yL ho⟩,by rw [HB.u];exact xQ B6.u ho (jO _),fun a ha=>jU S4.u (FQ.u a ha),fun a ha=>jU S5.u (FQ2.u a ha)⟩
theorem jdt(n:Nat)(w:World)(hn:n<9223372036854775808):
 Calls prog 33 #[.int .i64 (n:Int)] w fun e w'=> ∃on od cn cd,e=.returned (.agg #[.slice on (dig n).length cn,.slice od (dig 1).length cd])∧NFr w' n 1 on od∧Below w.heap.size w w'∧(∀a,on=some a→w.heap.size≤a.block)∧(∀a,od=some a→w.heap.size≤a.block):=by
 have QO:=jA (fun w=>jeF n w hn);have QO1:=jA (fun w=>jeF 1 w (by decide));have HS:=jA XE;have hone:=jA (show dig 1= [1]by rw [zt (by decide)];simp [yP]);rw [hone.u]at QO1 ⊢;clear hn;go_enter Tryz.func33,Tryz.ntmps33;go_upto_region 1 with(fail);generalize hB:w.heap.size=B at*;have HB:=jA hB;refine xP (fun w1=>Below B w w1∧w1.heap[B]?=some (.cells #[.slice none 0 0,.slice none 0 0] 69 (0,0))) ⟨by rw [←hB];exact(jN _ _).alloc (jO _) _,by rw [←hB];exact xN rfl⟩ (fun w1 hw1=>?_);have B1:=jA hw1.1;have HC1:=jA hw1.2;clear hw1 hB;go_wp2_with (first
  |(go_at_call 80;(with_reducible refine(QO.u w1).mono ?_);rintro e w2 ⟨oa,ca,rfl,h2,bel2,f2⟩;have H2:=jA h2;have F2:=jA (fun a ha=>jU B1.u.size (f2 a ha));clear f2;have B2:=jA (B1.u.trans (bel2.mono (HB.u▸B1.u.size)));have HC2:=jA (xK bel2 (lt_of_heap HC1.u) HC1.u);clear h2 bel2)
  |(go_at_call 80;refine(QO1.u w2).mono ?_;rintro e w3 ⟨ob,cb,rfl,h3,bel3,f3⟩;have H3:=jA h3;have F3:=jA (fun a ha=>jU B2.u.size (f3 a ha));clear f3;have B3:=jA (B2.u.trans (bel3.mono (HB.u▸B2.u.size)));have HC3:=jA (xK bel3 (lt_of_heap HC2.u) HC2.u);have H23:=jA (H2.u.below bel3);clear h3 bel3)
  |(refine xM rfl rfl 69 _ _ rfl B #[.slice none 0 0,.slice none 0 0] #[.slice oa (dig n).length ca,.slice ob 1 cb] 69 rfl rfl HC3.u rfl HS.u (zH _ _ _ _ _ _) ?_;intro w7 ho hp))
 refine jm (jw rfl _ w7 B _ _ _ _ rfl hp underlying69 rfl HS.u) rfl ⟨oa,ob,ca,cb,rfl,⟨H23.u.spared HC3.u yL ho,by rw [hone.u];exact H3.u.spared HC3.u yL ho⟩,by rw [HB.u];exact xQ B3.u ho (jO _),F2.u,F3.u⟩
end Go.Proofs.YtnohcdpnnhmpfaaGreatDoor
