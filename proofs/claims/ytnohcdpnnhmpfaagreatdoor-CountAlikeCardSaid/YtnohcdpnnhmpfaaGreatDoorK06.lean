/-
  (exact.Nat).Div.
  (exact.Nat).Div: the long way.
  (exact.Nat).Div in all cases, exact.Gcd.
-/
import Derived.Test.YtnohcdpnnhmpfaaGreatDoorK05
import Derived.Deep.QuietTactic
import Derived.BigQuiet
set_option linter.unusedVariables false
set_option linter.unusedSimpArgs false
set_option maxRecDepth 100000
set_option maxHeartbeats 8000000
namespace Go.Proofs.YtnohcdpnnhmpfaaGreatDoor
open Go.RowKit ML NL
theorem limbs_ownsRow {w:World}{base:Nat}{e:TypeId}{oc:Option Addr}{n cc:Nat}{L:List Nat}(h:w.ownsRow base e 1 (.slice oc n cc) n (uvals L)):L.length=n∧LimbsAt w oc L∧(∀a,oc=some a→base≤a.block∧a.block<w.heap.size)∧n≤cc:=by
 have hl:L.length=n:=by have:=h.1;rw [length_uvals]at this;omega
 subst hl;obtain⟨oc2,cc2,he,hcc,hb,hI⟩:=limbsAt_own h;simp only [Value.slice.injEq]at he;obtain⟨rfl,_,rfl⟩:=he;refine⟨rfl,hI,fun a ha=>⟨hb a ha,?_⟩,hcc⟩;rcases h.2 with⟨hv,_⟩|⟨g,cap,cur,hv,_,hg,_⟩;·rw [ha]at hv;simp at hv
 ·rw [ha]at hv;simp only [Value.slice.injEq,Option.some.injEq]at hv;rw [hv.1];exact lt_of_heap hg
theorem own_cells {w:World}{base:Nat}{e:TypeId}{v:Value}{L:List Nat}(h:w.ownsRow base e 1 v L.length (uvals L))(h0:L≠ []): ∃g cc cs,v=.slice (some ⟨g,0,none⟩) L.length cc∧base≤g∧w.heap[g]?=some (.cells cs e (0,0))∧RowIs cs 0 L∧L.length≤cc∧cs.size=cc:=by
 rcases h.2 with⟨hv,h1⟩|⟨g,cap,cur,hv,hb,hg,hnc,hm,hc,ht⟩;·exact absurd (List.length_eq_zero_iff.1 h1) h0
 ·rw [Nat.mul_one]at ht hc;exact⟨g,cap,cur,hv,hb,hg,rowIs_own ht,hnc,hc⟩
theorem rowIs_drop {cs:Array Value}{R:List Nat}{i k:Nat}(h:RowIs cs 0 R)(hi:i+k≤R.length):RowIs cs i ((R.drop i).take k):=by
 intro j hj;rw [List.length_take,List.length_drop]at hj;have:=h (i+j) (by omega);rw [Nat.zero_add]at this;rw [this];have hjk:j<k:=by omega
 simp [lAt,List.getD_eq_getElem?_getD,List.getElem?_drop,hjk]
theorem rowIs_put {w w':World}{g i k:Nat}{T:TypeId}{cs cs':Array Value}{R W:List Nat}(h:RowIs cs 0 R)(hU:Turned w w' g i T cs cs' k)(hW:RowIs cs' i W)(hl:W.length=k)(hi:i+k≤R.length):RowIs cs' 0 (putL R W i):=by
 intro j hj;rw [length_putL (by omega)]at hj;rw [Nat.zero_add];have e1:(R.take i).length=i:=by rw [List.length_take];omega
 rcases Nat.lt_or_ge j i with h1|h1
 ·rw [hU.out j (.inl h1)];have:=h j hj;rw [Nat.zero_add]at this;rw [this];simp [lAt,putL,List.getD_eq_getElem?_getD,List.getElem?_append,e1,h1,hj]
 ·rcases Nat.lt_or_ge j (i+k)with h2|h2
  ·have:=hW (j-i) (by omega);rw [show i+(j-i)=j by omega]at this;rw [this];have h3:j-i<W.length:=by omega
   have h4: ¬j<i:=by omega
   simp [lAt,putL,List.getD_eq_getElem?_getD,List.getElem?_append,e1,h3,h4]
  ·rw [hU.out j (.inr h2)];have:=h j hj;rw [Nat.zero_add]at this;rw [this];have h3: ¬j-i<W.length:=by omega
   have h4: ¬j<i:=by omega
   have h5:i+W.length+(j-i-W.length)=j:=by omega
   simp [lAt,putL,List.getD_eq_getElem?_getD,List.getElem?_append,e1,h3,h4,List.getElem?_drop,h5]
theorem lAt_part(R:List Nat)(i k j:Nat)(hj:j<k):lAt ((R.drop i).take k) j=lAt R (i+j):=by
 simp [lAt,List.getD_eq_getElem?_getD,List.getElem?_drop,hj]
structure DivW(B0:Nat)(w wr:World)(g gq:Nat)(od:Option Addr)(v:Nat)(R Q:List Nat):Prop where
 bel:Below B0 w wr
 div:LimbsAt wr od (dig v)
 dlt: ∀a,od=some a→a.block<g
 rest: ∃cs:Array Value,wr.heap[g]?=some (.cells cs 180 (0,0))∧RowIs cs 0 R
 quot:wr.heap[gq]?=some (.cells (uvals Q).toArray 180 (0,0))
 ne:g<gq
 base:B0≤g
theorem DivW.below {B0 g gq v:Nat}{w wr w2:World}{od:Option Addr}{R Q:List Nat}(H:DivW B0 w wr g gq od v R Q)(hb:Below wr.heap.size wr w2):DivW B0 w w2 g gq od v R Q:=by
 obtain⟨cs,h1,h2⟩:=H.rest;have:=lt_of_heap h1;have:=H.base;exact⟨H.bel.trans (hb.mono (by omega)),H.div.below hb,H.dlt,⟨cs,bel_keep hb (lt_of_heap h1) h1,h2⟩,bel_keep hb (lt_of_heap H.quot) H.quot,H.ne,H.base⟩
theorem Turned.trans {w w1 w2:World}{d o n:Nat}{T:TypeId}{cs cs1 cs2:Array Value}(h:Turned w w1 d o T cs cs1 n)(k:Turned w1 w2 d o T cs1 cs2 n):Turned w w2 d o T cs cs2 n:=
 ⟨h.only.trans k.only,k.heap,k.size.trans h.size,fun j hj=>(k.out j hj).trans (h.out j hj)⟩
theorem DivW.turned {B0 g gq v i k:Nat}{w wr w2:World}{od:Option Addr}{R Q W:List Nat}{cs cs':Array Value}(H:DivW B0 w wr g gq od v R Q)(hr:RowIs cs 0 R)
 (U:Turned wr w2 g i 180 cs cs' k) (hW:RowIs cs' i W) (hl:W.length=k) (hi:i+k≤R.length):DivW B0 w w2 g gq od v (putL R W i) Q:=
 ⟨bel_only H.bel U.only H.base,H.div.only U.only (fun a h=>Nat.ne_of_lt (H.dlt a h)),H.dlt,⟨cs',U.heap,rowIs_put hr U hW hl hi⟩,U.only.keep (Nat.ne_of_gt H.ne) H.quot,H.ne,H.base⟩
theorem DivW.limb {B0 g gq v:Nat}{w wr:World}{od:Option Addr}{R Q:List Nat}(H:DivW B0 w wr g gq od v R Q)(i q:Nat):DivW B0 w (wr.setCell ⟨gq,i,none⟩ (.int .u32 (q:Int))) g gq od v R (Q.set i q):=by
 have O:=(Only.refl gq wr).setCell i (.int .u32 (q:Int));obtain⟨cs,h1,h2⟩:=H.rest;have:=H.ne;exact⟨bel_only H.bel O (by have:=H.base;omega),H.div.only O (fun a h=>by have:=H.dlt a h;omega),H.dlt,⟨cs,O.keep (by omega) h1,h2⟩,set_uvals H.quot i q,H.ne,H.base⟩
theorem exDiv_small(x y:Nat)(oa ob:Option Addr)(ca cb:Nat)(w:World)(hxy:x<y)(ha:LimbsAt w oa (dig x))(hb:LimbsAt w ob (dig y))(hx:(dig x).length<1099511627775)(hy:(dig y).length<1099511627775):
 Calls Tryz.prog 137 #[.slice oa (dig x).length ca,.slice ob (dig y).length cb] w fun e w'=> ∃oq cq or cr,e=.returned (.tuple #[.slice oq (dig (x/y)).length cq,.slice or (dig (x%y)).length cr])∧LimbsAt w' oq (dig (x/y))∧LimbsAt w' or (dig (x%y))∧Below w.heap.size w w':=by
 have QC:=Lib.hid (exCmp_any x y oa ob ca cb w ha hb (by omega) (by omega));rw [cmpI_lt hxy]at QC;have QL:=Lib.hid (fun w h=>exClone_any (dig x) oa ca w h (by omega));have HA:=Lib.hid ha;have e1:=Lib.hid (Nat.div_eq_of_lt hxy);have e2:=Lib.hid (Nat.mod_eq_of_lt hxy);clear hxy ha hb;go_enter Tryz.func137,Tryz.ntmps137;go_upto_region 2 with(go_at_call 95;refine QC.out.mono ?_;rintro e w1 ⟨rfl,bel1⟩);go_wp2_with (go_at_call 175;refine(QL.out w1 (HA.out.below bel1)).mono ?_;rintro e w2 ⟨v,rfl,hv⟩)
 go_ret2
 rw [e1.out,e2.out,dig_zero];rcases hv with⟨_,hL,rfl,rfl⟩|⟨g,cc,cs,rfl,hg,hh,hr,hcc,bel⟩
 ·rw [hL];exact⟨none,0,none,0,rfl,LimbsAt.nil,LimbsAt.nil,bel1⟩
 ·exact⟨none,0,_,_,rfl,LimbsAt.nil,rowIs_limbs hh hr,bel1.trans (bel.mono bel1.size)⟩
theorem one_limb {y:Nat}(h:(dig y).length=1):lAt (dig y) 0=y∧0<y∧y<1000000000:=by
 have e:=val_take_succ (dig y) 0;rw [List.take_of_length_le (by omega),val_dig]at e;simp [val]at e;have h1:=getD_lt (all_dig y) 0;have h2:=dig_ge (n:=y) (by intro h0;rw [h0]at h;simp at h);rw [h]at h2;refine⟨?_,Nat.lt_of_lt_of_le (by decide) h2,?_⟩;·unfold lAt;rw [List.getD_eq_getElem?_getD];exact e.symm
 ·rw [e];rw [List.getD_eq_getElem?_getD]at h1;exact h1
theorem exDiv_limb(x y:Nat)(oa ob:Option Addr)(ca cb:Nat)(w:World)(hxy:y≤x)(h1:(dig y).length=1)(ha:LimbsAt w oa (dig x))(hb:LimbsAt w ob (dig y))(hx:(dig x).length<1099511627775)(hy:(dig y).length<1099511627775):
 Calls Tryz.prog 137 #[.slice oa (dig x).length ca,.slice ob (dig y).length cb] w fun e w'=> ∃oq cq or cr,e=.returned (.tuple #[.slice oq (dig (x/y)).length cq,.slice or (dig (x%y)).length cr])∧LimbsAt w' oq (dig (x/y))∧LimbsAt w' or (dig (x%y))∧Below w.heap.size w w':=by
 have QC:=Lib.hid (exCmp_any x y oa ob ca cb w ha hb (by omega) (by omega));have hc0: ¬cmpI x y<0:=by
  unfold cmpI;rw [if_neg (by omega)];split<;>omega
 obtain⟨hy1,hy0,hy9⟩:=one_limb h1;obtain⟨b0,hob,hbc⟩:=hb.get 0 (by omega);have hbc2:w.cell? (b0.add 0)=some (.int .u32 ((lAt (dig y) 0:Nat):Int)):=hbc;rw [hy1]at hbc2;have hblk:b0.block<w.heap.size:=by
  obtain⟨a1,h2,h3,_⟩:=hb.cells 0 (by omega);rw [hob]at h2;cases h2;exact h3
 have QB:=Lib.hid (fun w h=>exBy_any x y oa ca w h (by omega) hy0 hy9);have QO:=Lib.hid (fun n (hn:n<1000000000) w=>exOf_any n w (by omega));have HA:=Lib.hid ha;have hm9:=Lib.hid (show x%y<1000000000 by have:=Nat.mod_lt x hy0;omega);subst hob;clear hxy ha hb hbc hy1;generalize cmpI x y=c at*;rw [h1]at QC ⊢;have H1:=Lib.hid h1;clear h1;go_enter Tryz.func137,Tryz.ntmps137;go_upto_region 3 with(go_at_call 95;refine QC.out.mono ?_;rintro e w1 ⟨rfl,bel1⟩);have hbc3:w1.cell? (b0.add 0)=some (.int .u32 (y:Int)):=by rw [bel1.cell (p:=b0.add 0) (by rw [addr_block'];exact hblk)];exact hbc2
 rw [show b0.add 0=b0 by unfold Addr.add;exact if_pos rfl]at hbc3;clear hbc2 QC;go_upto_region 5 with(go_at_call 176;refine(QB.out w1 (HA.out.below bel1)).mono ?_;rintro e w2 ⟨oq,cq,m,rfl,hm,hI2, -,bel2⟩;have HM:=Lib.hid hm;clear hm);have hm8:m<1000000000:=by rw [HM.out];exact hm9.out
 clear QB;go_wp2_with (go_at_call 96;refine(QO.out m hm8 w2).mono ?_;rintro e w3 ⟨or,cr,rfl,hI3, -,bel3⟩)
 go_ret2
 rw [←HM.out];exact⟨oq,cq,or,cr,rfl,hI2.below bel3,hI3,bel1.trans ((bel2.trans (bel3.mono bel2.size)).mono bel1.size)⟩
theorem uvals_zeros(L:List Nat)(j:Nat):uvals (L++List.replicate j 0)++uvals [0]=uvals (L++List.replicate (j+1) 0):=by
 rw [uvals_append,List.append_assoc,List.replicate_succ']
theorem ediv9(t:Nat):(1000000000:Int)/((t:Int)+1)=((1000000000/(t+1):Nat):Int):=(Int.natCast_ediv 1000000000 (t+1)).symm
theorem add_succ'(a:Addr)(n:Nat):a.add (n+1)=⟨a.block,a.off+(n+1),none⟩:=by unfold Addr.add;exact if_neg (by omega)
theorem bel_drewL(B:Nat)(w:World)(n:Nat):Below B w (w.drewN n):=⟨rfl,rfl,rfl,Nat.le_refl _,fun _ _=>rfl⟩
theorem exDiv_long(x y k:Nat)(oa ob:Option Addr)(ca cb:Nat)(w:World)(hxy:y≤x)(hk:(dig y).length=k+2)(ha:LimbsAt w oa (dig x))(hb:LimbsAt w ob (dig y))(hx:(dig x).length<1099511627775)(hy:(dig y).length<1099511627775):
 Calls Tryz.prog 137 #[.slice oa (dig x).length ca,.slice ob (dig y).length cb] w fun e w'=> ∃oq cq or cr,e=.returned (.tuple #[.slice oq (dig (x/y)).length cq,.slice or (dig (x%y)).length cr])∧LimbsAt w' oq (dig (x/y))∧LimbsAt w' or (dig (x%y))∧Below w.heap.size w w':=by
 obtain⟨i0,hi,hz0,hz1,hz2⟩:=info_parts info_limb;have HI:=Lib.hid hi;have HZ0:=Lib.hid hz0;have HZ1:=Lib.hid hz1;have HZ2:=Lib.hid hz2;clear hi hz0 hz1 hz2;have QC:=Lib.hid (exCmp_any x y oa ob ca cb w ha hb (by omega) (by omega));have hc0: ¬cmpI x y<0:=by
  unfold cmpI;rw [if_neg (by omega)];split<;>omega
 obtain⟨u,hu,hu1,hu9,hvl,half⟩:=great_of y k hk;obtain⟨b0,hob,hbc⟩:=hb.get (k+1) (by omega);have hblk:b0.block<w.heap.size:=by
  obtain⟨a1,h2,h3,_⟩:=hb.cells 0 (by omega);rw [hob]at h2;cases h2;exact h3
 have hlyx:(dig y).length≤(dig x).length:=by
  rcases Nat.lt_or_ge (dig x).length (dig y).length with h|h;·have:=lt_of_length_lt h;omega
  ·exact h
 have hXl:(dig (x*u)).length≤(dig x).length+1:=by
  refine length_dig_le _ _ ?_;rw [Nat.pow_succ];have h1:=lt_pow_length x;exact Nat.mul_lt_mul'' h1 hu9
 have hbc2:w.cell? (b0.add (k+1))=some (.int .u32 ((lAt (dig y) (k+1):Nat):Int)):=hbc;have ht9:lAt (dig y) (k+1)<1000000000:=getD_lt (all_dig y) _;have hui:(1000000000:Int)/((lAt (dig y) (k+1):Int)+1)=(u:Int):=by
  have:u=1000000000/(lAt (dig y) (k+1)+1):=hu;rw [this];exact ediv9 _
 have QY:=Lib.hid (fun w h=>exTimes_any y u ob cb w h (by omega) hu9);have QX:=Lib.hid (fun w h=>exTimes_any x u oa ca w h (by omega) hu9);have HA:=Lib.hid ha;have HBB:=Lib.hid hb;have HK:=Lib.hid hk;have HVL:=Lib.hid hvl;have HALF:=Lib.hid half;have HXY:=Lib.hid hxy;subst hob;clear hxy ha hb hbc hu half hvl;generalize cmpI x y=c at*;generalize lAt (dig y) (k+1)=t at*;rw [hk]at QC hy hlyx;rw [hk];clear hk;go_enter Tryz.func137,Tryz.ntmps137;go_upto_region 6 with(go_at_call 95;refine QC.out.mono ?_;rintro e w1 ⟨rfl,bel1⟩);have hbc3:w1.cell? (b0.add (k+1))=some (.int .u32 (t:Int)):=by rw [bel1.cell (p:=b0.add (k+1)) (by rw [addr_block'];exact hblk)];exact hbc2
 rw [add_succ']at hbc3;clear hbc2 QC;go_upto_region 7 with(fail);clear hbc3;have hY:=QY.out w1 (HBB.out.below bel1);rw [HK.out,HVL.out]at hY;have HY:=Lib.hid hY;clear QY hY hui;go_upto_region 8 with(go_at_call 177;refine HY.out.mono ?_;rintro e w2 ⟨od,cd,rfl,own2,bel2⟩);clear HY;have bel12:=bel1.trans (bel2.mono bel1.size);obtain⟨-,hI2,hfd,hcd⟩:=limbs_ownsRow own2;have QX2:=Lib.hid (QX.out w2 (HA.out.below bel12));have HI2:=Lib.hid hI2;have HFD:=Lib.hid hfd;clear QX bel1 bel2 own2 hI2 hfd;go_upto_region 9 with(first
  |(go_at_call 177;refine QX2.out.mono ?_;rintro e w3 ⟨oe,ce,rfl,own3,bel3⟩;have bsz3:=bel3.size)
  |(at_builtin;refine wpList_append_own _ rfl (.tmp 53) (.tmp 54) 88 rfl w2.heap.size 180 i0 (.int .u32 0) 1 4 Tryz.underlying88 HI.out HZ0.out HZ1.out HZ2.out rfl (by decide) (.slice oe (dig (x*u)).length ce) (dig (x*u)).length (uvals (dig (x*u))) rfl (own3.alloc _) ⟨w3.heap.size,0,none⟩ 1 1 (uvals [0]) rfl rfl ?c1 ?c2 ?c3 ?c4 ?c5 ?_))
 case c1=>exact news_uvals w3 [0] _ _ rfl
 case c2=>exact uvals_one _
 case c3=>unfold maxLen;omega
 case c4=>omega
 case c5=>first|omega|(simp;omega)
 intro v5 w5 own5 hg5 _;have bel5:Below w2.heap.size w2 w5:=(bel3.alloc bsz3 _).grown hg5 (by simp;omega) (fun q hq=>(own3.lt q hq).1);have e1:uvals (dig (x*u))++uvals [0]=uvals (dig (x*u)++List.replicate 1 0):=by rw [uvals_append];rfl
 rw [e1]at own5;have OWN5:=Lib.hid own5;have HXL:=Lib.hid hXl;clear own5 own3 hg5 bel3 bsz3 e1 QX2;generalize hX:dig (x*u)=DX at*;have HX:=Lib.hid hX;clear hX;go_upto_region 9 with(fail);go_loopw [5] (fun v wr=> ∃j:Nat,1≤j∧DX.length+j≤(dig x).length+2∧Below w2.heap.size w2 wr∧wr.ownsRow w2.heap.size 180 1 v (DX.length+j) (uvals (DX++List.replicate j 0))) (fun v _=>match v with| .slice _ n _=>(dig x).length+1-n|_=>0);case atStart=>exact⟨1,Nat.le_refl _,by have:=HXL.out;omega,bel5,OWN5.out⟩
 case round=>
 obtain⟨j,hj1,hjl,bel,own⟩:=hrel;clear bel5 OWN5;have hl0:(DX++List.replicate j 0).length=DX.length+j:=by simp
 obtain⟨g,cc,cs,rfl,hgb,hgc,hri,hcc,hcs⟩:=own_cells (L:=DX++List.replicate j 0) (by rw [hl0];exact own) (by intro h;rw [h]at hl0;simp at hl0;omega);rw [hl0]at hcc own ⊢;have bsz:=bel.size;by_cases hm:DX.length+j<(dig x).length+1
 ·have hdm:decide (((DX.length+j:Nat):Int)<((dig x).length:Int)+1)=true:=by simp;omega
  have hdm2:decide ((DX.length:Int)+(j:Int)<((dig x).length:Int)+1)=true:=by simp;omega
  have HOWN:=Lib.hid own;clear own hri hgc;go_upto_region 99 with(at_builtin;refine wpList_append_own _ rfl (.tmp 62) (.tmp 63) 88 rfl w2.heap.size 180 i0 (.int .u32 0) 1 4 Tryz.underlying88 HI.out HZ0.out HZ1.out HZ2.out rfl (by decide) (.slice (some ⟨g,0,none⟩) (DX.length+j) cc) (DX.length+j) (uvals (DX++List.replicate j 0)) rfl (HOWN.out.alloc _) ⟨wr.heap.size,0,none⟩ 1 1 (uvals [0]) rfl rfl ?c1 ?c2 ?c3 ?c4 ?c5 ?_);case c1=>exact news_uvals wr [0] _ _ rfl
  case c2=>exact uvals_one _
  case c3=>unfold maxLen;have:=HXL.out;omega
  case c4=>omega
  case c5=>first|omega|(simp;omega)
  intro v5 w5 own5 hg5 _;have bel5:Below w2.heap.size w2 w5:=(bel.alloc bsz _).grown hg5 (by simp;omega) (fun q hq=>(HOWN.out.lt q hq).1);rw [uvals_zeros]at own5;have OWN5:w5.ownsRow w2.heap.size 180 1 v5 (DX.length+(j+1)) (uvals (DX++List.replicate (j+1) 0)):=own5;have hv5: ∃o c,v5=.slice o (DX.length+(j+1)) c:=by
   rcases own5.2 with⟨hv,h1⟩|⟨g,cap,cur,hv,_⟩;·omega
   ·exact⟨_,_,hv⟩
  obtain⟨o5,c5,rfl⟩:=hv5;clear own5 hg5 bel HOWN;go_wp2_with fail;go_roundw;case rel=>exact⟨j+1,by omega,by omega,bel5,OWN5⟩
  case measure=>simp;omega
 ·have hdm:decide (((DX.length+j:Nat):Int)<((dig x).length:Int)+1)=false:=by simp;omega
  have hdm2:decide ((DX.length:Int)+(j:Int)<((dig x).length:Int)+1)=false:=by simp;omega
  obtain⟨s,hs⟩: ∃s,s+(k+2)=DX.length+j:=⟨DX.length+j-(k+2),by omega⟩;have hsi:(DX.length:Int)+(j:Int)-((k:Int)+2)=(s:Int):=by omega
  have hv0:1000000000^(k+1)≤y*u:=by
   have h1:=dig_ge (n:=y*u) (by intro h;have:=HVL.out;rw [h]at this;simp at this);rw [HVL.out]at h1;exact h1
  have S0:LongSt (x*u) (y*u) (k+2) s (DX++List.replicate j 0) (List.replicate s 0):=by
   refine LongSt.init (by rw [hl0];omega) ?_ ?_ hv0 (by omega) ?_
   ·rw [←HX.out];intro d hd;rcases List.mem_append.1 hd with h|h;·exact all_dig _ d h
    ·exact all_zeros j d h
   ·rw [val_append,val_zeros,←HX.out,val_dig,Nat.mul_zero,Nat.add_zero]
   ·rw [hs,List.getD_eq_getElem?_getD,List.getElem?_append_right (by omega),List.getElem?_replicate];split<;>rfl
  have HS0:=Lib.hid S0;have HV0:=Lib.hid hv0;have HRI:=Lib.hid hri;have HGC:=Lib.hid hgc;have HL0:=Lib.hid hl0;clear own hri hgc S0 hv0 hl0;go_upto_region 12 with(refine wpList_make_row _ rfl _ _ 88 rfl 180 i0 (.int .u32 0) Tryz.underlying88 HI.out HZ0.out HZ1.out rfl .i64 .i64 s rfl rfl (by rw [HZ2.out];omega) (by omega) ?_);rw [made_uvals];have belr:=bel12.trans (bel.mono bel12.size);have hBw:w.heap.size≤wr.heap.size:=belr.size;have hgw:g<wr.heap.size:=lt_of_heap HGC.out;have D0:DivW w.heap.size w (wr.alloc (.cells (uvals (List.replicate s 0)).toArray 180)) g wr.heap.size od (y*u) (DX++List.replicate j 0) (List.replicate s 0):=
   ⟨belr.alloc hBw _,HI2.out.below ((bel.alloc bsz _)),fun a h=>Nat.lt_of_lt_of_le (HFD.out a h).2 hgb,⟨cs,heap_lt HGC.out,HRI.out⟩,heap_at rfl,hgw,Nat.le_trans bel12.size hgb⟩
  generalize hB:wr.heap.size=gq at*;refine wp_abs (fun w6=>DivW w.heap.size w w6 g gq od (y*u) (DX++List.replicate j 0) (List.replicate s 0)) D0 (fun w6 D6=>?_);have D6H:=Lib.hid D6;clear D0 belr hBw hgw bel HGC HRI HI2 HFD hB bel12 bsz HXL;obtain⟨d0,hod,hd1⟩:=D6.div.get (k+1) (by rw [HVL.out];omega);obtain⟨d0',hod',hd2⟩:=D6.div.get k (by rw [HVL.out];omega);obtain rfl:d0'=d0:=by rw [hod]at hod';cases hod';rfl
  have hT:w6.cell? (d0'.add (k+1))=some (.int .u32 ((lAt (dig (y*u)) (k+1):Nat):Int)):=hd1;have hN:w6.cell? (d0'.add k)=some (.int .u32 ((lAt (dig (y*u)) k:Nat):Int)):=hd2;have hT9:lAt (dig (y*u)) (k+1)<1000000000:=getD_lt (all_dig _) _;have hN9:lAt (dig (y*u)) k<1000000000:=getD_lt (all_dig _) _;have hT5:1000000000≤2*lAt (dig (y*u)) (k+1):=HALF.out;rw [add_succ']at hT;subst hod;clear hod' hd1 hd2 D6;obtain⟨T,hTe⟩: ∃T,T=lAt (dig (y*u)) (k+1):=⟨_,rfl⟩;obtain⟨M,hMe⟩: ∃M,M=lAt (dig (y*u)) k:=⟨_,rfl⟩;rw [←hTe]at hT hT9 hT5;rw [←hMe]at hN hN9;have HTE:=Lib.hid hTe;have HME:=Lib.hid hMe;clear hTe hMe
  go_quiet (fail)
  clear hT hN;go_upto_region 14 with(fail);refine wp_abs (fun w7=>DivW w.heap.size w w7 g gq (some d0') (y*u) (DX++List.replicate j 0) (List.replicate s 0)) (D6H.out.below (bel_drewL _ _ _)) (fun w7 D7=>?_);clear D6H;go_loopw [12] (fun i wr=> ∃(m:Nat) (z:Int) (R Q:List Nat),m≤s∧z=(m:Int)-1∧i=.int .i64 z∧Q.length=s∧LongSt (x*u) (y*u) (k+2) m R Q∧DivW w.heap.size w wr g gq (some d0') (y*u) R Q) (fun i _=>(intOf i+1).toNat);case atStart=>exact⟨s,_,_,_,Nat.le_refl _,rfl,by go_num,by simp,HS0.out,D7⟩
  case round=>
  clear HS0 D7;obtain⟨m,z,R,Q,hms,hz,rfl,hQl,S,D⟩:=hrel;have hRl:R.length=DX.length+j:=by have:=S.len;omega
  obtain⟨cs2,hg2,hr2⟩:=D.rest;have hgl:=lt_of_heap hg2;have hbase:=D.base;by_cases h0:m=0
  ·subst h0;obtain rfl:z= -1:=by omega
   have hd:=S.done;rw [up_div x y u (by omega)]at hd;have QR:=Lib.hid (exTrim_any (some ⟨g,0,none⟩) R cc wr (rowIs_limbs hg2 hr2) (by omega) (by omega) S.allR);have QQ:=Lib.hid (fun w h=>exTrim_any (some ⟨gq,0,none⟩) Q s w h (by omega) (by omega) S.allQ);rw [hd.2,hRl]at QR;rw [hd.1,hQl]at QQ;have hXl2:(dig (x*u%(y*u))).length≤(dig x).length+1:=by
    refine length_dig_le _ _ ?_;refine Nat.lt_of_le_of_lt (Nat.mod_le _ _) ?_;rw [Nat.pow_succ];exact Nat.mul_lt_mul'' (lt_pow_length x) hu9
   have QB:=Lib.hid (fun w h=>exBy_any (x*u%(y*u)) u (some ⟨g,0,none⟩) cc w h (by omega) (by omega) hu9);rw [up_mod x y u (by omega)]at QB;have HD:=Lib.hid D;have HRL:=Lib.hid hRl;have HQL:=Lib.hid hQl;clear S D hg2 hr2 hd hRl hQl hz hbase;go_upto_region 28 with(first
    |(go_at_call 138;refine QR.out.mono ?_;rintro e w8 ⟨rfl,hI8,rfl⟩)
    |(go_at_call 176;refine(QB.out w8 hI8).mono ?_;rintro e w9 ⟨oc,cr,r9,rfl,hr9,hI9, -,bel9⟩;have HR9:=Lib.hid hr9;clear hr9))
   have hq9:=limbsAt_block (bel_keep bel9 (lt_of_heap HD.out.quot) HD.out.quot) rfl;have QQ2:=Lib.hid (QQ.out w9 hq9);clear QQ hq9;go_wp2_with (go_at_call 138;refine QQ2.out.mono ?_;rintro e w10 ⟨rfl,hI10,rfl⟩)
   go_ret2
   exact⟨_,_,_,_,rfl,hI10,hI9,HD.out.bel.trans (bel9.mono HD.out.bel.size)⟩
  ·obtain⟨i,rfl⟩: ∃i,m=i+1:=⟨m-1,by omega⟩;obtain rfl:z=(i:Int):=by omega
   have hvB:y*u<1000000000^(k+2):=by
    have:=lt_pow_length (y*u);rw [HVL.out]at this;exact this
   obtain⟨p1,p2,p3,p4⟩:=S.part (by omega) hvB;have P:=part_of _ p1 (y*u) k p2 HVL.out HALF.out p4;have c2:=hr2 (i+(k+2)) (by omega);have c1:=hr2 (i+(k+1)) (by omega);have c0:=hr2 (i+k) (by omega);rw [Nat.zero_add]at c2 c1 c0;have hc2:=cell_of_row wr g (i+(k+2)) _ _ _ hg2;have hc1:=cell_of_row wr g (i+(k+1)) _ _ _ hg2;have hc0':=cell_of_row wr g (i+k) _ _ _ hg2;rw [c2]at hc2;rw [c1]at hc1;rw [c0]at hc0';have ha2:lAt R (i+(k+2))<1000000000:=getD_lt S.allR _;have ha1:lAt R (i+(k+1))<1000000000:=getD_lt S.allR _;have ha0:lAt R (i+k)<1000000000:=getD_lt S.allR _;have e2:(((R.drop i).take (k+3)).getD (k+2) 0)=lAt R (i+(k+2)):=lAt_part R i (k+3) (k+2) (by omega);have e1:(((R.drop i).take (k+3)).getD (k+1) 0)=lAt R (i+(k+1)):=lAt_part R i (k+3) (k+1) (by omega);have e0:(((R.drop i).take (k+3)).getD k 0)=lAt R (i+k):=lAt_part R i (k+3) k (by omega);rw [show k+2+1=k+3 from rfl]at P;rw [e2,e1,e0]at P;have P2:NL.Part (val ((R.drop i).take (k+3))) (y*u) (1000000000^k) (val (((R.drop i).take (k+3)).take k)) (val ((dig (y*u)).take k)) (lAt R (i+(k+2))*1000000000+lAt R (i+(k+1))) (lAt R (i+k)) T M:=by rw [HTE.out,HME.out];exact P
   have HP:=Lib.hid P2;have HSS:=Lib.hid S;have HD:=Lib.hid D;have HRL:=Lib.hid hRl;have HQL:=Lib.hid hQl;have hHd:=P2.headlt;clear P P2 S D p1 p2 p3 p4 c2 c1 c0 e2 e1 e0 hg2 hr2 hvB hz h0;generalize lAt R (i+(k+2))=a2 at*;generalize lAt R (i+(k+1))=a1 at*;generalize lAt R (i+k)=a0 at*;have hi0:(0:Int)≤i:=by omega
   have hk0:(0:Int)≤k:=by omega
   have hik:(i:Int)+((k:Int)+2)<(DX.length:Int)+(j:Int):=by omega
   go_upto_region 16 with(fail);have hTz:((T:Int)==0)=false:=by rw [beq_eq_false_iff_ne];omega
   go_quiet (fail)
   obtain⟨H,hH⟩: ∃H:Nat,H=a2*1000000000+a1:=⟨_,rfl⟩;have hHi:(a2:Int)*1000000000+(a1:Int)=(H:Int):=by omega
   have hHb:H<1000000000000000000:=by omega
   rw [←hH]at HP hHd;rw [hHi];clear hH hHi hc1 hc2 ha2 ha1;go_upto_region 17 with(fail);have hqi:(H:Int)/(T:Int)=((H/T:Nat):Int):=(Int.natCast_ediv H T).symm;have hri:(H:Int)%(T:Int)=((H%T:Nat):Int):=(Int.natCast_emod H T).symm;have G0:=HP.out.init;have hl9:H%T<1000000000:=by have:=Nat.mod_lt H (show T>0 by omega);omega
   generalize H/T=g0 at*;generalize H%T=l0 at*;have hg9:=G0.small HP.out;have HG0:=Lib.hid G0;clear G0
   go_quiet (fail)
   rw [hri];have HRI:=Lib.hid hri;have hXv:NL.Guess (val ((R.drop i).take (k+3))) (y*u) H T g0 l0:=HG0.out;generalize hXX:val ((R.drop i).take (k+3))=XX at*;have HXX:=Lib.hid hXX;have HG:=Lib.hid hXv;clear hXX hXv HG0 hqi hri hTz HRI;go_upto_block 4 with(fail);refine wp_abs (fun w8=>w8.cell? ⟨g,i+k,none⟩=some (.int .u32 (a0:Int))∧DivW w.heap.size w w8 g gq (some d0') (y*u) R Q) ⟨hc0',(HD.out.below ((bel_drewL _ wr _).trans (bel_drewL _ _ _)))⟩ (fun w8 hw8=>?_);obtain⟨hc8',D8⟩:=hw8;have hc8:w8.cell? ⟨g,i+(k+2)-2,none⟩=some (.int .u32 (a0:Int)):=hc8';clear hc8';have HD8:=Lib.hid D8;clear D8 hc0' HD hgl;go_cut [14] (fun v w'=> ∃G:Nat,v=.int .u64 (G:Int)∧G<1000000000∧(G=XX/(y*u)∨G=XX/(y*u)+1)∧w'=w8);case first=>
    go_upto_region 18 with(fail);go_loopw [14,15] (fun vg vl wi=> ∃G l:Nat,vg=.int .u64 (G:Int)∧vl=.int .u64 (l:Int)∧G≤1000000001∧l<1000000000∧NL.Guess XX (y*u) H T G l∧wi=w8) (fun vg _ _=>(intOf vg).toNat);case atStart=>exact⟨g0,l0,rfl,rfl,hg9,hl9,HG.out,rfl⟩
    case round=>
    clear HG hg9 hl9;obtain⟨G,l,rfl,rfl,hg9,hl9,hGS,hw0⟩:=hrel;replace hw0:=hw0.symm;subst hw0;have HGS:=Lib.hid hGS;clear hGS;by_cases hcond:1000000000≤G∨l*1000000000+a0<G*M
    ·obtain⟨hg1,hGN⟩:=HGS.out.next HP.out hcond;have HGN:=Lib.hid hGN;clear hGN;by_cases hB:1000000000≤G
     ·have dB:decide ((1000000000:Int)≤(G:Int))=true:=by simp;omega
      clear hcond;by_cases hL:1000000000≤l+T
      ·obtain⟨hq9,hqs⟩:=HGN.out.brk HP.out hL;have HN:=Lib.hid (HGN.out.near HP.out hq9 hqs);have dL:decide ((1000000000:Int)≤(l:Int)+(T:Int))=true:=by simp;omega
       clear hqs;go_wp2_with fail;go_meet;exact⟨G-1,by go_num,hq9,HN.out,rfl⟩
      ·have dL:decide ((1000000000:Int)≤(l:Int)+(T:Int))=false:=by simp;omega
       go_wp2_with fail;go_roundw;case rel=>exact⟨G-1,l+T,by go_num,by go_num,by omega,by omega,HGN.out,trivial⟩
       case measure=>simp [intOf];omega
     ·have dB:decide ((1000000000:Int)≤(G:Int))=false:=by simp;omega
      have hc2:l*1000000000+a0<G*M:=by omega
      obtain⟨m,hm⟩: ∃m,m=G*M:=⟨_,rfl⟩;have hmi:(G:Int)* (M:Int)=(m:Int):=by rw [hm];exact(Int.natCast_mul G M).symm
      have hmb:m≤999999999*999999999:=by rw [hm];exact Nat.mul_le_mul (by omega) (by omega)
      rw [←hm]at hc2;rw [show 999999999*999999999=999999998000000001 by decide]at hmb;have dC:decide ((l:Int)*1000000000+(a0:Int)<(m:Int))=true:=by simp;omega
      clear hm hcond;by_cases hL:1000000000≤l+T
      ·obtain⟨hq9,hqs⟩:=HGN.out.brk HP.out hL;have HN:=Lib.hid (HGN.out.near HP.out hq9 hqs);have dL:decide ((1000000000:Int)≤(l:Int)+(T:Int))=true:=by simp;omega
       clear hqs;go_wp2_with fail;go_meet;exact⟨G-1,by go_num,hq9,HN.out,rfl⟩
      ·have dL:decide ((1000000000:Int)≤(l:Int)+(T:Int))=false:=by simp;omega
       go_wp2_with fail;go_roundw;case rel=>exact⟨G-1,l+T,by go_num,by go_num,by omega,by omega,HGN.out,trivial⟩
       case measure=>simp [intOf];omega
    ·have hB: ¬1000000000≤G:=fun h=>hcond (.inl h);have hC:G*M≤l*1000000000+a0:=by
      rcases Nat.lt_or_ge (l*1000000000+a0) (G*M)with h|h;·exact absurd (.inr h) hcond
      ·exact h
     have HN:=Lib.hid (HGS.out.near HP.out (by omega) (HGS.out.stop hC));have dB:decide ((1000000000:Int)≤(G:Int))=false:=by simp;omega
     obtain⟨m,hm⟩: ∃m,m=G*M:=⟨_,rfl⟩;have hmi:(G:Int)* (M:Int)=(m:Int):=by rw [hm];exact(Int.natCast_mul G M).symm
     have hmb:m≤999999999*999999999:=by rw [hm];exact Nat.mul_le_mul (by omega) (by omega)
     rw [←hm]at hC;rw [show 999999999*999999999=999999998000000001 by decide]at hmb;have dC:decide ((l:Int)*1000000000+(a0:Int)<(m:Int))=false:=by simp;omega
     clear hm hcond;go_wp2_with fail;go_meet;exact⟨G,rfl,by omega,HN.out,rfl⟩
   case rest=>
   obtain⟨G,rfl,hG9,hGq,hw0⟩:=hcut;replace hw0:=hw0.symm;subst hw0;have HGQ:=Lib.hid hGq;clear hGq hc8 hg9 hl9 HG hHb hHd ha0 hN9 hik;have hlen:((R.drop i).take (k+3)).length=k+3:=by rw [List.length_take,List.length_drop,HRL.out];omega
   have hAL:AllD ((R.drop i).take (k+3)):=all_take (fun d hd=>HSS.out.allR d (List.mem_of_mem_drop hd)) _;obtain⟨cs9,hg9,hr9⟩:=HD8.out.rest;have hgl:=lt_of_heap hg9;have hgl2:=lt_of_heap HD8.out.quot;have QT:=exTimes_any (y*u) G (some d0') cd w8 HD8.out.div (by rw [HVL.out];omega) hG9;rw [HVL.out]at QT;have HQT:=Lib.hid QT;clear QT;go_upto_region 23 with(fail);rw [show i+(k+2)+1-i=k+3 by omega];have QL:=Lib.hid (fun ob cb w9 hg hr (hb:LimbsAt w9 ob (dig (y*u*G))) hne hlM=>exLess_any ((R.drop i).take (k+3)) (dig (y*u*G)) g i (cc-i) 180 cs9 ob cb w9 hAL (all_dig _) hg hr hb (fun _=>hne) (by omega) hlM);rw [hlen]at QL;have hvp:=HP.out.vpos;have hdl9:(dig (y*u*G)).length≤k+3:=by
    refine length_dig_le _ _ ?_;have h1:=lt_pow_length (y*u);rw [HVL.out]at h1;rw [show k+3=k+2+1 from rfl,Nat.pow_succ];exact Nat.mul_lt_mul'' h1 hG9
   have HG9:=Lib.hid hg9;have HR9:=Lib.hid hr9;have HPP:=Lib.hid (rowIs_drop hr9 (k:=k+3) (i:=i) (by rw [HRL.out];omega));clear hg9 hr9
   go_upto_if 157 with(first
    |(go_at_call 177;refine HQT.out.mono ?_;rintro e w9 ⟨ob,cb,rfl,own9,bel9⟩;have L9:=Lib.hid (limbs_ownsRow own9);clear own9;have QL2:=Lib.hid (QL.out ob cb w9 (bel_keep bel9 hgl HG9.out) HPP.out L9.out.2.1 (fun a h=>Nat.ne_of_gt (Nat.lt_of_lt_of_le hgl (L9.out.2.2.1 a h).1)) (by omega));clear QL)
    |(go_at_call 178;refine QL2.out.mono ?_;rintro e w10 ⟨Wl,dn,rfl,hE,cs10,hr10,hT10⟩;have HE:=Lib.hid hE;have HR10:=Lib.hid hr10;have HT10:=Lib.hid hT10;clear hE hr10 hT10))
   have HD9:=Lib.hid (HD8.out.below bel9);have HLEN:=Lib.hid hlen;have hdl9':(dig (y*u*G)).length≤((R.drop i).take (k+3)).length:=by rw [hlen];exact hdl9
   have HEQ:Hid ((G=XX/(y*u)→dn=0∧val Wl=XX%(y*u))∧(G=XX/(y*u)+1→dn=1∧val Wl+y*u=XX%(y*u)+1000000000^(k+3))):=Lib.hid (by
    have a1:=less_exact HE.out hdl9' hvp;have a2:=less_over HE.out hdl9' hvp;rw [HXX.out,hlen]at a2;rw [HXX.out]at a1;exact⟨a1,a2⟩)
   have hWl:Wl.length=k+3:=by rw [HE.out.len,hlen]
   have HWA:=Lib.hid HE.out.all;have hT11:Turned w9 w10 g i 180 cs9 cs10 (k+3):=HT10.out;have HT11:=Lib.hid hT11;have QM:=exMore_any Wl (dig (y*u)) g i (cc-i) 180 cs10 (some d0') cd w10 HWA.out (all_dig _) hT11.heap HR10.out (HD9.out.div.only hT11.only (fun a h=>Nat.ne_of_lt (HD9.out.dlt a h))) (fun a h=>Nat.ne_of_lt (HD9.out.dlt a h)) (by omega) (by rw [HVL.out];omega);rw [hWl,HVL.out]at QM;have HQM:=Lib.hid QM;have HWL:=Lib.hid hWl;obtain⟨q,hq⟩: ∃q,q=XX/(y*u):=⟨_,rfl⟩;have HQ:=Lib.hid hq;clear HT10 hT11 QM QL2 HQT HPP HE hlen hdl9' hWl hdl9 hAL hq L9 bel9;go_cut [14] (fun v w'=> ∃(Wf:List Nat) (cs11:Array Value),v=.int .u64 (q:Int)∧Wf.length=k+3∧AllD Wf∧val Wf=XX%(y*u)∧RowIs cs11 i Wf∧Turned w9 w' g i 180 cs9 cs11 (k+3));case first=>
    rcases HGQ.out with hG|hG
    ·obtain⟨rfl,hv⟩:=HEQ.out.1 hG;rw [←HQ.out]at hG;subst hG;have HV:=Lib.hid hv;clear hv;go_wp2_with fail;go_meet;exact⟨Wl,cs10,rfl,HWL.out,HWA.out,HV.out,HR10.out,HT11.out⟩
    ·obtain⟨rfl,hv⟩:=HEQ.out.2 hG;rw [←HQ.out]at hG;subst hG;have HV:=Lib.hid hv;clear hv;go_wp2_with (go_at_call 179;refine HQM.out.mono ?_;rintro e w11 ⟨rfl,W2,u2,cs11,hM,hr11,hT12⟩;have HM2:=Lib.hid hM;have HR11:=Lib.hid hr11;have HT12:=Lib.hid hT12;clear hM hr11 hT12);go_meet;refine⟨W2,cs11,by go_num,by rw [HM2.out.len];exact HWL.out,HM2.out.all,?_,HR11.out,HT11.out.trans HT12.out⟩;have hb:=more_back (L:=(R.drop i).take (k+3)) (by rw [HWL.out,HLEN.out]) (by rw [HXX.out,HLEN.out];exact HV.out) (by rw [HWL.out];exact HM2.out) (by rw [HVL.out,HWL.out];omega);rw [HXX.out]at hb;exact hb
   case rest=>
   obtain⟨Wf,cs11,rfl,hWf,hWA,hWv,hr11,hT12⟩:=hcut;have hvB:y*u<1000000000^(k+2):=by
    have:=lt_pow_length (y*u);rw [HVL.out]at this;exact this
   have hSN:=HSS.out.next (by rw [HQL.out];omega) hvp hvB hWf hWA (by rw [show k+2+1=k+3 from rfl,HXX.out];exact hWv) q (by rw [show k+2+1=k+3 from rfl,HXX.out];exact HQ.out);have HSN:=Lib.hid hSN.1;have hq9:=hSN.2;have HD12:=Lib.hid (HD9.out.turned HR9.out hT12 hr11 hWf (by rw [HRL.out];omega));have hc12:=cell_uvals HD12.out.quot i (by rw [HQL.out];omega);have hf12:=frozen_of_row _ gq i _ _ HD12.out.quot;have HDL:=Lib.hid (HD12.out.limb i q);clear hSN hWf hWA hWv hr11 hT12 hvB HQM HEQ HGQ HT11 HR10 HWA HWL;generalize lAt Q i=ql at*;have his:(i:Int)<(s:Int):=by omega
   go_upto_region 15 with(fail);refine wp_abs (fun w13=>DivW w.heap.size w w13 g gq (some d0') (y*u) (putL R Wf i) (Q.set i q)) HDL.out (fun w13 D13=>?_);clear hc12 hf12 HDL;go_wp2_with fail;go_roundw;case rel=>
    repeat apply Exists.intro
    refine⟨⟨i,(i:Int)-1,_,_,by omega,rfl,?_,?_,HSN.out,D13⟩,?_⟩;rotate_left 2;·rfl
    ·rfl
    ·rw [List.length_set];exact HQL.out
   case measure=>simp [intOf]
theorem exDiv_any(x y:Nat)(oa ob:Option Addr)(ca cb:Nat)(w:World)(hy0:0<y)(ha:LimbsAt w oa (dig x))(hb:LimbsAt w ob (dig y))(hx:(dig x).length<1099511627775)(hy:(dig y).length<1099511627775):
 Calls Tryz.prog 137 #[.slice oa (dig x).length ca,.slice ob (dig y).length cb] w fun e w'=> ∃oq cq or cr,e=.returned (.tuple #[.slice oq (dig (x/y)).length cq,.slice or (dig (x%y)).length cr])∧LimbsAt w' oq (dig (x/y))∧LimbsAt w' or (dig (x%y))∧Below w.heap.size w w':=by
 rcases Nat.lt_or_ge x y with h|h;·exact exDiv_small x y oa ob ca cb w h ha hb hx hy
 ·
   have hl:0<(dig y).length:=by
    rcases Nat.eq_zero_or_pos (dig y).length with h0|h0;·have:=lt_pow_length y;rw [h0]at this;omega
    ·exact h0
   by_cases h1:(dig y).length=1;·exact exDiv_limb x y oa ob ca cb w h h1 ha hb hx hy
   ·exact exDiv_long x y ((dig y).length-2) oa ob ca cb w h (by omega) ha hb hx hy
def limbsN(w:World)(v:Value):Nat:=match v with
 | .slice (some a) n _=>val ((List.range n).map fun i=>match w.cell? (a.add i)with|some v=>(intOf v).toNat|none=>0)
 |_=>0
theorem limbsN_at {w:World}{oc:Option Addr}{L:List Nat}(h:LimbsAt w oc L)(cc:Nat):limbsN w (.slice oc L.length cc)=val L:=by
 cases oc with
 |none=>rw [limbs_none h];rfl
 |
  some a=>
  have e:((List.range L.length).map fun i=>match w.cell? (a.add i)with|some v=>(intOf v).toNat|none=>0)=L:=by
   refine List.ext_getElem (by rw [List.length_map,List.length_range]) (fun i h1 h2=>?_);obtain⟨a',he,_,hc⟩:=h.cells i h2;cases he;rw [List.getElem_map,List.getElem_range,hc];simp [intOf]
  show val ((List.range L.length).map fun i=>match w.cell? (a.add i)with|some v=>(intOf v).toNat|none=>0)=val L;rw [e]
theorem exGcd_any(x y:Nat)(oa ob:Option Addr)(ca cb:Nat)(w:World)(ha:LimbsAt w oa (dig x))(hb:LimbsAt w ob (dig y))(hx:(dig x).length<1099511627775)(hy:(dig y).length<1099511627775):
 Calls Tryz.prog 94 #[.slice oa (dig x).length ca,.slice ob (dig y).length cb] w fun e w'=> ∃oc cc,e=.returned (.slice oc (dig (Nat.gcd x y)).length cc)∧LimbsAt w' oc (dig (Nat.gcd x y))∧Below w.heap.size w w':=by
 have HA:=Lib.hid ha;have HBB:=Lib.hid hb;clear ha hb;go_enter Tryz.func94,Tryz.ntmps94;go_upto_region 1 with(fail);go_loopw [0,1] (fun va vb wr=> ∃(X Y:Nat) (oX oY:Option Addr) (cX cY:Nat),va=.slice oX (dig X).length cX∧vb=.slice oY (dig Y).length cY∧Nat.gcd X Y=Nat.gcd x y∧(dig X).length<1099511627775∧(dig Y).length<1099511627775∧LimbsAt wr oX (dig X)∧LimbsAt wr oY (dig Y)∧Below w.heap.size w wr) (fun _ vb wr=>limbsN wr vb);case atStart=>exact⟨x,y,oa,ob,ca,cb,rfl,rfl,rfl,hx,hy,HA.out,HBB.out,Below.refl _ _⟩
 case round=>
 obtain⟨X,Y,oX,oY,cX,cY,rfl,rfl,hg,hX,hY,hIX,hIY,bel⟩:=hrel;clear HA HBB hx hy;have HG:=Lib.hid hg;have HM:=Lib.hid (limbsN_at hIY cY);rw [val_dig]at HM;have QZ:=Lib.hid (exZero_any oY (dig Y).length cY wr);by_cases h0:Y=0
 ·subst h0;have HIX:=Lib.hid hIX;rw [dig_zero]at QZ ⊢;rw [Nat.gcd_zero_right]at HG;clear hg hIX hIY HM;go_wp2_with (go_at_call 93;refine QZ.out.mono ?_;rintro e w1 ⟨rfl,rfl⟩);go_ret;rw [←HG.out];exact⟨oX,cX,rfl,HIX.out,bel⟩
 ·have hY0:0<Y:=by omega
  have hlz:(((dig Y).length:Int)==0)=false:=by
   rw [beq_eq_false_iff_ne];intro h;have h1:(dig Y).length=0:=by omega
   have:=lt_pow_length Y;rw [h1]at this;omega
  have QD:=Lib.hid (exDiv_any X Y oX oY cX cY wr hY0 hIX hIY hX hY);have HIY:=Lib.hid hIY;have HML:=Lib.hid (Nat.mod_lt X hY0);have HL:=Lib.hid (show(dig (X%Y)).length≤(dig Y).length from length_dig_le _ _ (Nat.lt_trans (Nat.mod_lt X hY0) (lt_pow_length Y)));have hG2:=Lib.hid (show Nat.gcd Y (X%Y)=Nat.gcd x y by rw [Nat.gcd_comm,←Nat.gcd_rec,Nat.gcd_comm];exact hg);rw [hlz]at QZ;clear hg hIX hIY h0 hlz;go_wp2_with (first
   |(go_at_call 93;refine QZ.out.mono ?_;rintro e w1 ⟨rfl,rfl⟩)
   |(go_at_call 137;refine QD.out.mono ?_;rintro e w2 ⟨oq,cq,or,cr,rfl,hq,hr,bel2⟩;have HR:=Lib.hid hr;clear hq hr))
  have hm2:=Lib.hid (limbsN_at HR.out cr);go_roundw;case rel=>exact⟨Y,X%Y,oY,or,cY,cr,rfl,rfl,hG2.out,hY,by have:=HL.out;omega,HIY.out.below bel2,HR.out,bel.trans (bel2.mono bel.size)⟩
  case measure=>
   have e:=hm2.out;rw [val_dig]at e;show limbsN w2 (.slice or (dig (X%Y)).length cr)<limbsN _ (.slice oY (dig Y).length cY);rw [e,HM.out];exact HML.out
end Go.Proofs.YtnohcdpnnhmpfaaGreatDoor
