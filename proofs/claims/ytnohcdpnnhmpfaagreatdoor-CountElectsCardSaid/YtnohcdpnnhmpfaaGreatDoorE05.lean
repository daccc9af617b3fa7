/- exact.trim: rows of limbs. -/
import Derived.Test.YtnohcdpnnhmpfaaGreatDoorE04
import Derived.OwnWalk
import Derived.Deep.CutBlock
import Derived.Deep.DeepCutAuto
import Derived.Deep.RegionWith
import Derived.Deep.OwnRows
set_option linter.all false
set_option maxRecDepth 100000
set_option maxHeartbeats 4000000
namespace Go.Proofs.YtnohcdpnnhmpfaaGreatDoor
open Go.RowKit Tryz ML NL
variable{L W:E0}{T:o0}{a b d n o:Nat}{cs:t0}{w:m0}
theorem QJ:(prog.info? 180).map (fun i=>(i.zero,i.size,i.bytes))=some (some (.int .u32 0),1,4):=by kernel_rfl
theorem KW(w:m0)(dt:E0)(t:o0)(n:Nat)(hn:w.heap.size=n): ∀j u,(yQ dt)[j]?=some u→(w.alloc (.cells (yQ dt).toArray t)).cell? ((⟨n,0,none⟩:Addr).add j)=some u:=Yv w (yQ dt) t n hn
theorem KE(oa:s0)(L:E0)(cap:Nat)(w:m0)(h:LimbsAt w oa L)(hl:L.length<9223372036854775808)(fK:L.length≤cap)(hA:yx L):
 Calls prog 138 #[.slice oa L.length cap] w fun e w'=>e=.returned (.slice oa (zO L).length cap)∧LimbsAt w oa (zO L)∧w'=w:=by
 have H:=jA h;have HA:=jA hA;clear h hA;go_enter Tryz.func138,Tryz.ntmps138;go_wp2_with fail;go_loopw [0] (fun v wr=> ∃k:Nat,k≤L.length∧v=.slice oa k cap∧(∀i,k≤i→L.getD i 0=0)∧wr=w) (fun v _=>match v with| .slice _ n _=>n|_=>0);case atStart=>exact⟨L.length,jO _,rfl,fun i hi=>by simp [jV,kR hi],rfl⟩
 case round=>
 obtain⟨k,hk,rfl,hz,rfl⟩:=hrel;have HZ:=jA hz;clear hz;by_cases h0:k=0
 ·subst h0;have ht:=Ku L 0 HA.u (by omega) HZ.u (.inl rfl);rw [qu]at ht;have HT:=jA ht;clear ht;go_wp2_with fail;go_ret;rw [←HT.u];exact⟨rfl,⟨fun i hi=>by simp at hi⟩,rfl⟩
 obtain⟨j,rfl⟩: ∃j,k=j+1:=⟨k-1,by omega⟩;obtain⟨a,rfl,hc⟩:=H.u.get j (by omega);have hk63:(j:Int)+1<9223372036854775808:=by omega
 have hjc:(j:Int)≤cap:=by omega
 by_cases Dy:L.getD j 0=0
 ·
   have Ns:=jA (show ∀i,j≤i→L.getD i 0=0 from fun i hi=>by
    by_cases he:i=j;·rw [he];exact Dy
    ·exact HZ.u i (by omega))
   rw [Dy]at hc;clear Dy;go_wp2_with fail;go_roundw;case rel=>exact⟨j,by omega,by go_num,Ns.u,trivial⟩
   case measure=>simp
 ·have ht:=Ku L (j+1) HA.u hk HZ.u (.inr (by simpa using Dy));have BJ:(zO L).length=j+1:=by rw [←ht,jf];omega
  have hI:=H.u.take (j+1);rw [ht]at hI;have HI:=jA hI;have HL2:=jA BJ;clear ht BJ hI;have hdf:(((L.getD j 0:Nat):Int)==0)=false:=by rw [jt];intro h;apply Dy;omega
  clear Dy h0;generalize L.getD j 0=d at*;go_wp2_with fail;go_ret;rw [HL2.u];exact⟨rfl,HI.u,rfl⟩
def Yl(a b:Int):Int:=if a<b then -1 else if b<a then 1 else 0
theorem jiE(a b:Int)(w:m0):
 Calls prog 101 #[.int .i64 a,.int .i64 b] w fun e w'=>e=.returned (.int .i64 (Yl a b))∧w'=w:=by
 go_enter Tryz.func101,Tryz.ntmps101;by_cases h1:a<b
 ·have hc:=jA (show Yl a b= -1 from jP h1);go_wp2;go_ret;exact⟨by rw [hc.u];rfl,rfl⟩
 by_cases h2:b<a
 ·have hc:=jA (show Yl a b=1 by unfold Yl;rw [jQ h1,jP h2]);go_wp2;go_ret;exact⟨by rw [hc.u];rfl,rfl⟩
 ·have hc:=jA (show Yl a b=0 by unfold Yl;rw [jQ h1,jQ h2]);go_wp2;go_ret;exact⟨by rw [hc.u];rfl,rfl⟩
theorem jhh(a b:Int)(w:m0):
 Calls prog 139 #[.int .u32 a,.int .u32 b] w fun e w'=>e=.returned (.int .i64 (Yl a b))∧w'=w:=by
 go_enter Tryz.func139,Tryz.ntmps139;by_cases h1:a<b
 ·have hc:=jA (show Yl a b= -1 from jP h1);go_wp2;go_ret;exact⟨by rw [hc.u];rfl,rfl⟩
 by_cases h2:b<a
 ·have hc:=jA (show Yl a b=1 by unfold Yl;rw [jQ h1,jP h2]);go_wp2;go_ret;exact⟨by rw [hc.u];rfl,rfl⟩
 ·have hc:=jA (show Yl a b=0 by unfold Yl;rw [jQ h1,jQ h2]);go_wp2;go_ret;exact⟨by rw [hc.u];rfl,rfl⟩
theorem jjp(h:a<b):Yl (a:Int) (b:Int)= -1:=jP (by omega)
theorem jjq(h:b<a):Yl (a:Int) (b:Int)=1:=by unfold Yl;rw [jQ (by omega),jP (by omega)]
theorem jjr(h:a=b):Yl (a:Int) (b:Int)=0:=by unfold Yl;rw [jQ (by omega),jQ (by omega)]
theorem YL(x y:Nat)(oa ob:s0)(ca cb:Nat)(w:m0)(ha:LimbsAt w oa (dig x))(hb:LimbsAt w ob (dig y))(hx:(dig x).length<1099511627776)(hy:(dig y).length<1099511627776):
 Calls prog 95 #[.slice oa (dig x).length ca,.slice ob (dig y).length cb] w fun e w'=>e=.returned (.int .i64 (Ja x y))∧O0 w.heap.size w w':=by
 have HA:=jA ha;have Eu:=jA hb;have QI:=jA jiE;clear ha hb;go_enter Tryz.func95,Tryz.ntmps95;by_cases hl:(dig x).length<(dig y).length
 ·have hc:=jA (XV (JT hl));have hz:=jjp hl;clear hl;go_wp2_with (go_at_call 101;refine(QI.u _ _ _).mono ?_;rintro e w1 ⟨rfl,rfl⟩);go_ret;exact⟨by rw [hc.u];rfl,jN _ _⟩
 by_cases hg:(dig y).length<(dig x).length
 ·have hc:=jA (XW (JT hg));have hz:=jjq hg;clear hg hl;go_wp2_with (go_at_call 101;refine(QI.u _ _ _).mono ?_;rintro e w1 ⟨rfl,rfl⟩);go_ret;exact⟨by rw [hc.u];rfl,jN _ _⟩
 have WC:(dig x).length=(dig y).length:=by omega
 have hz:=jjr WC;have NF:=jA WC;clear WC hl hg;go_upto_region 5 with(go_at_call 101;refine(QI.u _ _ _).mono ?_;rintro e w1 ⟨rfl,rfl⟩);clear hz QI;go_loopw [6] (fun i wr=> ∃(k:Nat) (z:Int),k≤(dig x).length∧z=(k:Int)-1∧i=.int .i64 z∧(dig x).drop k=(dig y).drop k∧O0 w1.heap.size w1 wr) (fun i _=>(intOf i+1).toNat);case atStart=>exact⟨(dig x).length,(dig x).length-1,jO _,rfl,by go_num,by rw [qX (jO _),qX (by have:=NF.u;omega)],jN _ _⟩
 case round=>
 obtain⟨k,z,hk,hz,rfl,cy,bel⟩:=hrel;by_cases h0:k=0
 ·subst h0;obtain rfl:z= -1:=by omega
  have Uu:=jba (by simpa using cy);have hc:=jA (show Ja x y=0 by rw [Uu];exact ZW y);clear hz cy Uu;go_wp2_with fail;go_ret;exact⟨by rw [hc.u];rfl,bel⟩
 obtain⟨j,rfl⟩: ∃j,k=j+1:=⟨k-1,by omega⟩;obtain rfl:z=(j:Int):=by omega
 have WC:=NF.u;have rO:j<(dig x).length:=by omega
 have pO:j<(dig y).length:=by omega
 obtain⟨a0,Us,Ft⟩:=(HA.u.below bel).get j rO;obtain⟨b0,Mw,Iy⟩:=(Eu.u.below bel).get j pO;have ns:=jA (fun h=>XV (Qt rO pO cy h));have hgt:=jA (fun h=>XW (Qt pO rO cy.symm h));have cU:=jA (fun h=>jbb rO pO cy h);have eI:(0:Int)≤j:=by omega
 have hjlx:(j:Int)<((dig x).length:Int):=by omega
 have NT:(j:Int)<((dig y).length:Int):=by omega
 subst Us;subst Mw;clear hz cy h0 WC hk;generalize (dig x).getD j 0=a at*;generalize (dig y).getD j 0=b at*;obtain⟨cz,hcz⟩: ∃cz,cz=Yl (a:Int) (b:Int):=⟨_,rfl⟩;have BC:(cz≠0→Ja x y=cz)∧(cz=0→a=b):=by
  rcases vf a b with h|h|h;·rw [hcz,jjp h];exact⟨fun _=>ns.u h,fun h=>by omega⟩
  ·rw [hcz,jjr h];exact⟨fun h=>absurd rfl h,fun _=>h⟩
  ·rw [hcz,jjq h];exact⟨fun _=>hgt.u h,fun h=>by omega⟩
 have HCA:=jA BC;have sP:=jA (fun w=>jhh (a:Int) (b:Int) w);rw [←hcz]at sP;clear hcz BC ns hgt;go_upto_region 7 with(fail);refine Seg.xf (fun w'=> ∃n,w'=wr.drewN n) [] [0,1,2,3,4,5,6,7] 8 (by kernel_rfl) (by kernel_rfl) (fun _ _ d _ _ h=>by cases d<;>exact h) (⟨1,rfl⟩) ?_;simp only [jK,Seg.opAt,Seg.xu];repeat (any_goals (first|go_big_quiet_step (fail)|quiet_step (fail)))
 refine jR ?_;by_cases gy:cz=0
 ·subst gy;have he:=jA (cU.u (HCA.u.2 rfl));go_wp2_with (go_at_call 139;refine(sP.u _).mono ?_;rintro e w3 ⟨rfl,rfl⟩);go_roundw;case rel=>exact⟨j,(j:Int)-1,by omega,rfl,by go_num,he.u,bel.drew⟩
  case measure=>simp [intOf]
 ·have hc:=jA (HCA.u.1 gy);have eK:(cz !=0)=true:=by simpa using gy
  go_wp2_with (go_at_call 139;refine(sP.u _).mono ?_;rintro e w3 ⟨rfl,rfl⟩);go_ret;exact⟨by rw [hc.u];rfl,bel.drew⟩
theorem jlo {x y u:Nat}{O:E0}(S:Jq x y O u)(h1:(dig x).length≤O.length)(h2:(dig y).length≤O.length):yx (O++ [u])∧zO (O++ [u])=dig (x+y):=by
 have hu:=S.up;have e:=S.eq;rw [je h1,je h2,yR,yR]at e;refine⟨XA S.all (by omega),?_⟩;unfold zO;rw [Vj,e]
theorem jla(x y:Nat)(oa ob:s0)(ca cb:Nat)(w:m0)(ha:LimbsAt w oa (dig x))(hb:LimbsAt w ob (dig y))(hx:(dig x).length<1099511627776)(hy:(dig y).length<1099511627776):
 Calls prog 91 #[.slice oa (dig x).length ca,.slice ob (dig y).length cb] w fun e w'=> ∃oc cc,e=.returned (.slice oc (dig (x+y)).length cc)∧LimbsAt w' oc (dig (x+y))∧O0 w.heap.size w w':=by
 obtain⟨i0,hi,Is,Ts,Ns⟩:=info_parts QJ;have HI:=jA hi;have Dt:=jA Is;have Ct:=jA Ts;have Bt:=jA Ns;have HA:=jA ha;have Eu:=jA hb;clear hi Is Ts Ns ha hb;go_enter Tryz.func91,Tryz.ntmps91
 go_upto_if 13 with(fail)
 go_cut [0,1] (fun v0 v1 w'=> ∃(X Y:Nat) (oA oB:s0) (cA cB:Nat),v0=.slice oA (dig X).length cA∧v1=.slice oB (dig Y).length cB∧X+Y=x+y∧(dig Y).length≤(dig X).length∧(dig X).length<1099511627776∧LimbsAt w oA (dig X)∧LimbsAt w oB (dig Y)∧w'=w);case first=>
  by_cases hl:(dig x).length<(dig y).length
  ·have hd:decide (((dig x).length:Int)<((dig y).length:Int))=true:=by simp;omega
   go_wp2_with fail;go_meet;exact⟨y,x,ob,oa,cb,ca,rfl,rfl,Nat.add_comm _ _,by omega,hy,Eu.u,HA.u,rfl⟩
  ·have hd:decide (((dig x).length:Int)<((dig y).length:Int))=false:=by simp;omega
   go_wp2_with fail;go_meet;exact⟨x,y,oa,ob,ca,cb,rfl,rfl,rfl,by omega,hx,HA.u,Eu.u,rfl⟩
 case rest=>
 clear HA Eu;obtain⟨X,Y,oA,oB,cA,cB,rfl,rfl,hXY,hYX,hXl,hA,hBb,ou⟩:=hcut;replace ou:=ou.symm;subst ou;have HA:=jA hA;have Eu:=jA hBb;have HXY:=jA hXY;clear hA hBb hXY hx hy;have hC:((dig X).length:Int)+1=(((dig X).length+1:Nat):Int):=by omega
 have HC:=jA hC;clear hC;go_upto_region 4 with(refine wpList_make_own _ rfl _ _ 88 rfl w.heap.size 180 i0 (.int .u32 0) 1 underlying88 HI.u Dt.u Ct.u .i64 .i64 (((dig X).length:Int)+1) ((dig X).length+1) rfl rfl HC.u (by rw [Bt.u];omega) (by unfold maxLen;omega) (jO _) ?_);intro w1 own1 RJ;have et:O0 w.heap.size w w1:=(jN _ _).grown RJ (jO _) (by simp);have S0:=Jq.init X Y;clear RJ;go_upto_region 6 with(fail);go_loopw [5,6,22] (fun v z i wr=> ∃(O:E0) (u:Nat),z=.int .u32 u∧i=.int .i64 O.length∧O.length≤(dig X).length∧Jq X Y O u∧O0 w.heap.size w wr∧wr.ownsRow w.heap.size 180 1 v O.length (yQ O)) (fun _ _ i _=>(dig X).length-(intOf i).toNat);case atStart=>exact⟨[],0,rfl,rfl,by simp,S0,et,own1⟩
 case round=>
 obtain⟨O,u,rfl,rfl,Oy,S,bel,own⟩:=hrel;clear S0 et own1;have ON:=S.up;by_cases hm:O.length<(dig X).length
 ·have SN:=jA (S.next (.inl hm));have FC:Hid (Jq X Y (O++ [(lAt (dig X) O.length+lAt (dig Y) O.length+u)%1000000000]) ((lAt (dig X) O.length+lAt (dig Y) O.length+u)/1000000000)):=SN;have h1:lAt (dig X) O.length<1000000000:=yP (yN X) O.length;have h2:lAt (dig Y) O.length<1000000000:=yP (yN Y) O.length;obtain⟨a0,Us,Ft⟩:=(HA.u.below bel).get O.length hm;have Bu:wr.cell? (a0.add O.length)=some (.int .u32 ((lAt (dig X) O.length:Nat):Int)):=Ft;have GJ:(O.length:Int)<((dig X).length:Int):=by omega
  have rA:(0:Int)≤O.length:=by omega
  have hbY:=jA (fun(h:O.length<(dig Y).length)=>(Eu.u.below bel).get O.length h);have AM:=jA (fun(h: ¬O.length<(dig Y).length)=>(show lAt (dig Y) O.length=0 by unfold lAt;rw [jV,kR (by omega)];rfl));have EF:=bel.size;clear S SN Ft;subst Us;obtain⟨b,Ez⟩: ∃b,b=lAt (dig Y) O.length:=⟨_,rfl⟩;rw [←Ez]at FC h2;generalize lAt (dig X) O.length=a at*
  go_upto_if 33 with(fail)
  go_cut [8] (fun v w'=>v=.int .u32 ((a:Int)+(u:Int)+(b:Int))∧w'=wr);case first=>
   by_cases hY:O.length<(dig Y).length
   ·have hd:decide ((O.length:Int)<((dig Y).length:Int))=true:=by simp;omega
    obtain⟨b0,Mw,Iy⟩:=hbY.u hY;have CC:wr.cell? (b0.add O.length)=some (.int .u32 (b:Int)):=by rw [Ez];exact Iy
    have By:(O.length:Int)<((dig Y).length:Int):=by omega
    subst Mw;clear Iy Ez;go_wp2_with fail;go_meet;exact⟨by go_num,rfl⟩
   ·have hd:decide ((O.length:Int)<((dig Y).length:Int))=false:=by simp;omega
    have Gz:b=0:=by rw [Ez];exact AM.u hY
    subst Gz;clear Ez;go_wp2_with fail;go_meet;exact⟨by go_num,rfl⟩
  case rest=>
  obtain⟨rfl,ou⟩:=hcut;replace ou:=ou.symm;subst ou;rw [show a+b+u=a+u+b by omega]at FC;clear hbY AM Ez Bu;go_upto_region 13 with(at_builtin;refine kV _ rfl (.tmp 42) (.tmp 45) 88 rfl w.heap.size 180 i0 (.int .u32 0) 1 4 underlying88 HI.u Dt.u Ct.u Bt.u rfl (by decide) u5 O.length (yQ O) rfl (own.alloc _) ⟨wr.heap.size,0,none⟩ 1 1 (yQ [(a+u+b)%1000000000]) rfl rfl ?c1 ?c2 ?c3 ?c4 ?c5 ?_);case c1=>exact KW wr [(a+u+b)%1000000000] _ _ rfl
  case c2=>exact KX _
  case c3=>unfold maxLen;omega
  case c4=>omega
  case c5=>first|omega|(simp;omega)
  intro v5 w5 Hs ru _;have Gs:O0 w.heap.size w w5:=(bel.alloc EF _).grown ru (by simp;omega) (fun q hq=>(own.lt q hq).1);rw [Jj]at Hs;have iu:w5.ownsRow w.heap.size 180 1 v5 (O++ [(a+u+b)%1000000000]).length (yQ (O++ [(a+u+b)%1000000000])):=by rw [jZ];exact Hs
  clear Hs own ru bel;go_wp2_with fail;go_roundw;case rel=>exact⟨O++ [(a+u+b)%1000000000],(a+u+b)/1000000000,by go_num,by rw [jZ,kM];go_num,by rw [jZ,kM];omega,FC.u,Gs,iu⟩
  case measure=>simp [intOf];omega
 ·have hd:decide ((O.length:Int)<((dig X).length:Int))=false:=by simp;omega
  have EM:O.length=(dig X).length:=by omega
  obtain⟨LE,aF⟩:=jlo S (by omega) (by omega);rw [HXY.u]at aF;have HAl:=jA LE;have HTR:=jA aF;have EF:=bel.size;clear S LE aF EM;go_upto_region 15 with(first
   |(at_builtin;refine kV _ rfl (.tmp 48) (.tmp 50) 88 rfl w.heap.size 180 i0 (.int .u32 0) 1 4 underlying88 HI.u Dt.u Ct.u Bt.u rfl (by decide) u5 O.length (yQ O) rfl (own.alloc _) ⟨wr.heap.size,0,none⟩ 1 1 (yQ [u]) rfl rfl ?c1 ?c2 ?c3 ?c4 ?c5 ?_))
  case c1=>exact KW wr [u] _ _ rfl
  case c2=>exact KX _
  case c3=>unfold maxLen;omega
  case c4=>omega
  case c5=>first|omega|(simp;omega)
  intro v5 w5 Hs ru _;have Gs:O0 w.heap.size w w5:=(bel.alloc EF _).grown ru (by simp;omega) (fun q hq=>(own.lt q hq).1);rw [Jj]at Hs;have Ux:(O++ [u]).length=O.length+1:=by simp
  obtain⟨oc,cc,rfl,EB,_,hI⟩:=XQ (L:=O++ [u]) Hs;have QT:=jA (KE oc (O++ [u]) cc w5 hI (by omega) EB HAl.u);rw [HTR.u,Ux]at QT;clear Hs own ru bel hI Ux;go_wp2_with (go_at_call 138;refine QT.u.mono ?_;rintro e w6 ⟨rfl,pR,rfl⟩);go_ret;exact⟨oc,cc,rfl,pR,Gs⟩
theorem Zp(n:Nat):madeCells #[Value.int .u32 0] n=(yQ (List.replicate n 0)).toArray:=by
 unfold madeCells yQ;apply Array.ext;·simp
 ·intro i h1 h2;simp [Nat.mod_one]
theorem Yf(h:w.heap[b]?=some (.cells (yQ L).toArray T (0,0)))(i:Nat)(hi:i<L.length):w.cell? ⟨b,i,none⟩=some (.int .u32 ((lAt L i:Nat):Int)):=by
 rw [jM w b i _ _ _ h];simp [yQ,lAt,jV,hi]
theorem ZO(h:w.heap[b]?=some (.cells (yQ L).toArray T (0,0)))(i d:Nat):(w.setCell ⟨b,i,none⟩ (.int .u32 (d:Int))).heap[b]?=some (.cells (yQ (L.set i d)).toArray T (0,0)):=by
 rw [jd w b i _ _ _ h];congr 2;simp [yQ,vC]
theorem Jr(x y:Nat)(oa ob:s0)(ca cb:Nat)(w:m0)(ha:LimbsAt w oa (dig x))(hb:LimbsAt w ob (dig y))(hx:(dig x).length<1099511627776)(hy:(dig y).length<1099511627776):
 Calls prog 90 #[.slice oa (dig x).length ca,.slice ob (dig y).length cb] w fun e w'=> ∃oc cc,e=.returned (.slice oc (dig (x*y)).length cc)∧LimbsAt w' oc (dig (x*y))∧O0 w.heap.size w w':=by
 obtain⟨i0,hi,Is,Ts,Ns⟩:=info_parts QJ;have HI:=jA hi;have Dt:=jA Is;have Ct:=jA Ts;have Bt:=jA Ns;have HA:=jA ha;have Eu:=jA hb;clear hi Is Ts Ns ha hb;obtain⟨n,hn⟩: ∃n,n=(dig x).length+(dig y).length:=⟨_,rfl⟩;have AJ:((dig x).length:Int)+((dig y).length:Int)=(n:Int):=by omega
 have hnb:n<2199023255552:=by omega
 have mL:=jA hn;clear hn;go_enter Tryz.func90,Tryz.ntmps90;go_upto_region 2 with(refine wpList_make_row _ rfl _ _ 88 rfl 180 i0 (.int .u32 0) underlying88 HI.u Dt.u Ct.u rfl .i64 .i64 n rfl rfl (by rw [Bt.u];omega) (by omega) ?_);rw [Zp];generalize hB:w.heap.size=d at*;refine xr (fun w1=>O0 d w w1∧w1.heap[d]?=some (.cells (yQ (List.replicate n 0)).toArray 180 (0,0))) ⟨by rw [←hB];exact(jN _ _).alloc (jO _) _,by rw [←hB];exact xh rfl⟩ (fun w1 ts=>?_);obtain⟨et,h1⟩:=ts;have S0:=Kp.init x y;rw [←mL.u]at S0;have HB:=jA hB;clear hB;go_upto_region 3 with(fail);go_loopw [19] (fun i wr=> ∃(k:Nat) (W:E0),k≤(dig x).length∧i=.int .i64 k∧Kp x y k W∧O0 d w wr∧wr.heap[d]?=some (.cells (yQ W).toArray 180 (0,0))) (fun i _=>(dig x).length-(intOf i).toNat);case atStart=>exact⟨0,_,by omega,rfl,S0,et,h1⟩
 case round=>
 obtain⟨i,W,hk,rfl,S,bel,hW⟩:=hrel;clear et h1 S0;by_cases ns:i<(dig x).length
 ·have lF:decide ((i:Int)<((dig x).length:Int))=true:=by simp;omega
  have hi00:(0:Int)≤i:=by omega
  have OT:(i:Int)<((dig x).length:Int):=by omega
  obtain⟨a0,Us,Ft⟩:=HA.u.get i ns;have Cv:a0.block<d:=by
   obtain⟨a1,h2,h3,_⟩:=HA.u.cells i ns;rw [Us]at h2;cases h2;rw [HB.u]at h3;exact h3
  have Bu:w.cell? (a0.add i)=some (.int .u32 ((lAt (dig x) i:Nat):Int)):=Ft;have Ww:wr.cell? (a0.add i)=some (.int .u32 ((lAt (dig x) i:Nat):Int)):=by rw [bel.cell (p:=a0.add i) (by rw [yo];exact Cv)];exact Bu
  have h1:lAt (dig x) i<1000000000:=yP (yN x) i;subst Us;clear Ft;obtain⟨a,hae⟩: ∃a,a=lAt (dig x) i:=⟨_,rfl⟩;rw [←hae]at Ww h1;have HAE:=jA hae;clear hae Bu;go_upto_region 7 with(fail);clear Ww;go_loopw [8,26] (fun u j wi=> ∃(k uN:Nat) (W:E0),k≤(dig y).length∧j=.int .i64 k∧u=.int .u64 uN∧VE x y i k W uN∧O0 d w wi∧wi.heap[d]?=some (.cells (yQ W).toArray 180 (0,0))) (fun _ j _=>(dig y).length-(intOf j).toNat);case atStart=>exact⟨0,0,W,by omega,rfl,rfl,S.row,bel,hW⟩
  case round=>
  obtain⟨j,u,W2,hj,rfl,rfl,R,us,Hz⟩:=hrel;clear S bel hW;by_cases Dw:j<(dig y).length
  ·have mI:decide ((j:Int)<((dig y).length:Int))=true:=by simp;omega
   obtain⟨b0,Mw,Iy⟩:=Eu.u.get j Dw;have iK:b0.block<d:=by
    obtain⟨b1,h2,h3,_⟩:=Eu.u.cells j Dw;rw [Mw]at h2;cases h2;rw [HB.u]at h3;exact h3
   have LD:wr.cell? (b0.add j)=some (.int .u32 ((lAt (dig y) j:Nat):Int)):=by rw [us.cell (p:=b0.add j) (by rw [yo];exact iK)];exact Iy
   have mx:=mL.u;have hijn:i+j<n:=by omega
   have Ey:=Yf Hz (i+j) (by rw [R.len];omega);have BO:=jc wr d (i+j) _ _ Hz;have RN:=jA (R.next ns Dw);have ON:=R.up;have h2:lAt (dig y) j<1000000000:=yP (yN y) j;have h3:lAt W2 (i+j)<1000000000:=yP R.all (i+j);have RN2:Hid (VE x y i (j+1) (W2.set (i+j) ((lAt W2 (i+j)+a*lAt (dig y) j+u)%1000000000)) ((lAt W2 (i+j)+a*lAt (dig y) j+u)/1000000000)):=by rw [HAE.u];exact RN
   have fL:=jA Hz;have Fx:=jA us;subst Mw;clear RN R Iy Hz us mx;generalize lAt (dig y) j=b at*;generalize lAt W2 (i+j)=c at*;have eu:a*b≤999999999*999999999:=qV (by omega) (by omega);rw [show 999999999*999999999=999999998000000001 by decide]at eu;obtain⟨m,hm⟩: ∃m,m=a*b:=⟨_,rfl⟩;have NG:(a:Int)* (b:Int)=(m:Int):=by rw [hm];exact(vY a b).symm
   rw [←hm]at RN2 eu;have hm81:m≤999999998000000001:=eu;have rA:(0:Int)≤(i:Int)+(j:Int):=by omega
   have GJ:(i:Int)+(j:Int)<(n:Int):=by omega
   have OT:(i:Int)<((dig x).length:Int):=by omega
   have NT:(j:Int)<((dig y).length:Int):=by omega
   clear hm eu;go_upto_region 11 with(fail);refine xr (fun w4=>O0 d w w4∧w4.heap[d]?=some (.cells (yQ (W2.set (i+j) ((c+m+u)%1000000000))).toArray 180 (0,0))) ?_ (fun w4 Gu=>?_)
   ·have e:=ZO fL.u (i+j) ((c+m+u)%1000000000);have hv:(((c+m+u)%1000000000:Nat):Int)=((u:Int)+((m:Int)+(c:Int)))%1000000000:=by omega
    rw [hv]at e;exact⟨(xl Fx.u ((yG.refl d wr).setCell _ _) (jO _)),e⟩
   obtain⟨Fs,dH⟩:=Gu;clear LD Ey BO fL Fx;go_wp2_with fail;go_roundw;case rel=>exact⟨j+1,(c+m+u)/1000000000,_,by omega,by go_num,by go_num,RN2.u,Fs,dH⟩
   case measure=>simp [intOf];omega
  ·have mI:decide ((j:Int)<((dig y).length:Int))=false:=by simp;omega
   obtain rfl:j=(dig y).length:=by omega
   have mx:=mL.u;have GJ:(i:Int)+((dig y).length:Int)<(n:Int):=by omega
   have rA:(0:Int)≤(i:Int)+((dig y).length:Int):=by omega
   have Ey:=Yf Hz (i+(dig y).length) (by rw [R.len];omega);have BO:=jc wr d (i+(dig y).length) _ _ Hz;have RD:=jA (R.done ns);have ON:=R.up;have fL:=jA Hz;clear R Hz mx;go_upto_region 14 with(fail);refine xr (fun w4=>O0 d w w4∧w4.heap[d]?=some (.cells (yQ (W2.set (i+(dig y).length) u)).toArray 180 (0,0))) ⟨xl us ((yG.refl d wr).setCell _ _) (jO _),ZO fL.u (i+(dig y).length) u⟩ (fun w4 Gu=>?_);obtain⟨Fs,dH⟩:=Gu;clear Ey BO fL us;go_wp2_with fail;go_roundw;case rel=>exact⟨i+1,_,by omega,by go_num,RD.u,Fs,dH⟩
   case measure=>simp [intOf];omega
 ·have lF:decide ((i:Int)<((dig x).length:Int))=false:=by simp;omega
  obtain rfl:i=(dig x).length:=by omega
  have hO:=jA S.done;have hl:W.length=n:=by rw [S.len,mL.u]
  have QT:=jA (KE (some ⟨d,0,none⟩) W n wr (Xj hW rfl) (by omega) (by omega) S.all);rw [hO.u,hl]at QT;clear S hO hW;go_wp2_with (go_at_call 138;refine QT.u.mono ?_;rintro e w3 ⟨rfl,UD,rfl⟩);go_ret;exact⟨_,_,rfl,UD,by rw [HB.u];exact bel⟩
def KL(cs:t0)(o:Nat)(W:E0):Prop:= ∀i,i<W.length→cs[o+i]?=some (.int .u32 ((lAt W i:Nat):Int))
theorem KL.set(h:KL cs o W)(k s:Nat)(hk:k<W.length):KL (cs.setIfInBounds (o+k) (.int .u32 (s:Int))) o (W.set k s):=by
 intro i hi;rw [kE]at hi;have hx:=h i hi;have hy:=h k hk;have hl:o+k<cs.size:=by
  rcases jw (o+k) cs.size with h1|h1;·exact h1
  ·rw [xM h1]at hy;cases hy
 by_cases he:k=i
 ·subst he;rw [xN hl];simp [lAt,jV,hk]
 ·rw [vU (by omega),hx];simp [lAt,jV,vv he]
structure JR(w w':m0)(d o:Nat)(T:o0)(cs gv:t0)(n:Nat):Prop where
 only:yG d w w'
 heap:w'.heap[d]?=some (.cells gv T (0,0))
 size:gv.size=cs.size
 u: ∀j,j<o∨o+n≤j→gv[j]?=cs[j]?
theorem JR.refl(h:w.heap[d]?=some (.cells cs T (0,0))):JR w w d o T cs cs n:=⟨yG.refl _ _,h,rfl,fun _ _=>rfl⟩
theorem JR.set {w':m0}{gv:t0}(S:JR w w' d o T cs gv n)(k:Nat)(v:n0)(hk:k<n):JR w (w'.setCell ⟨d,o+k,none⟩ v) d o T cs (gv.setIfInBounds (o+k) v) n:=
 ⟨S.only.setCell _ _,jd _ _ _ _ _ _ S.heap,by rw [Array.size_setIfInBounds];exact S.size,fun j hj=>by rw [vU (by omega)];exact S.u j hj⟩
theorem LimbsAt.only {w1:m0}{oa:s0}(h:LimbsAt w oa L)(hb:yG d w w1)(Cs: ∀a,oa=some a→a.block≠d):LimbsAt w1 oa L:=⟨fun i hi=>by
 obtain⟨a,h1,h2,h3⟩:=h.cells i hi;refine⟨a,h1,by rw [hb.size];exact h2,?_⟩;rw [←h3];unfold World.cell?;have:=hb.block (a.add i).block (by rw [yo];exact Cs a h1);rw [this]⟩
theorem jcI(L M:E0)(d o cap:Nat)(T:o0)(cs:t0)(ob:s0)(cb:Nat)(w:m0)(hL:yx L)(hM:yx M)(hd:w.heap[d]?=some (.cells cs T (0,0)))(hr:KL cs o L)(hb:LimbsAt w ob M)(Cs:M≠ []→ ∀a,ob=some a→a.block≠d)(hlL:L.length<4398046511104)(hlM:M.length<4398046511104):
 Calls prog 178 #[.slice (some ⟨d,o,none⟩) L.length cap,.slice ob M.length cb] w fun e w'=> ∃W dn,e=.returned (.bool (decide (0<dn)))∧Xb L M W dn∧ ∃gv,KL gv o W∧JR w w' d o T cs gv L.length:=by
 have HR:=jA hr;have HD:=jA hd;have HB:=jA hb;have iA:=jA Cs;have HL:=jA hL;have HM:=jA hM;clear hr hd hb Cs hL hM;go_enter Tryz.func178,Tryz.ntmps178;go_upto_region 3 with(fail);go_loopw [5,10] (fun v i wr=> ∃(W:E0) (dn k:Nat) (gv:t0),k≤L.length∧v=.int .u32 dn∧i=.int .i64 k∧Kq L M k W dn∧KL gv o W∧JR w wr d o T cs gv L.length) (fun _ i _=>L.length-(intOf i).toNat);case atStart=>exact⟨L,0,0,cs,by omega,rfl,rfl,Kq.init M HL.u,HR.u,JR.refl HD.u⟩
 case round=>
 obtain⟨W,dn,k,gv,hk,rfl,rfl,S,R,U⟩:=hrel;have hdn:=S.down;by_cases hm:k<L.length
 ·have d1:decide ((k:Int)<(L.length:Int))=true:=by simp;omega
  have SN:=jA (fun s d' hs hd he=>S.next hm s d' hs hd he);have MT:k<W.length:=by rw [S.len];exact hm
  have su:wr.cell? ⟨d,o+k,none⟩=some (.int .u32 ((lAt W k:Nat):Int)):=by
   rw [jM wr d (o+k) _ _ _ U.heap];exact R k MT
  have SG:=jc wr d (o+k) _ _ U.heap;have h1:lAt W k<1000000000:=yP S.all k;have h2:lAt M k<1000000000:=yP HM.u k;have FC:Hid (∀s d',s<1000000000→d'≤1→lAt W k+1000000000*d'=s+lAt M k+dn→Kq L M (k+1) (W.set k s) d'):=SN;have RN:=jA (fun s=>R.set k s MT);have UN:=jA (fun v=>U.set k v hm);have ho0:(0:Int)≤k:=by omega
  have TQ:(k:Int)<(L.length:Int):=by omega
  have pZ:=jA (fun(h:k<M.length)=>(HB.u.only U.only (iA.u (by intro h0;rw [h0]at h;simp at h))).get k h);have DC:=jA (fun(h: ¬k<M.length)=>(show lAt M k=0 by unfold lAt;rw [jV,kR (by omega)];rfl));have hJ:=jA (fun(h: ¬k<M.length) (h0:dn=0)=>(show Xb L M W 0 from Kq.stop (h0▸S) (by omega) (by omega)));have HU:=jA U;have sH:=jA R;clear S SN R U MT;obtain⟨b,Ez⟩: ∃b,b=lAt M k:=⟨_,rfl⟩;rw [←Ez]at FC h2;generalize lAt W k=a at*;by_cases hq: ¬k<M.length∧dn=0
  ·obtain⟨hq1,rfl⟩:=hq;have d2:decide ((k:Int)<(M.length:Int))=false:=by simp;omega
   have hE:=jA (hJ.u hq1 rfl);have d3: ¬((k:Int)<(M.length:Int)):=by omega
   clear su SG hJ pZ DC FC RN UN;go_wp2_with fail;go_ret;exact⟨W,0,rfl,hE.u,gv,sH.u,HU.u⟩
  ·go_upto_if 17 with(fail)
   go_cut [7] (fun v w'=>v=.int .u32 ((dn:Int)+(b:Int))∧w'=wr);case first=>
    by_cases hM:k<M.length
    ·have d2:decide ((k:Int)<(M.length:Int))=true:=by simp;omega
     obtain⟨b0,Mw,Iy⟩:=pZ.u hM;have CC:wr.cell? (b0.add k)=some (.int .u32 (b:Int)):=by rw [Ez];exact Iy
     have By:(k:Int)<(M.length:Int):=by omega
     subst Mw;clear Iy Ez su SG;go_wp2_with fail;go_meet;exact⟨by go_num,rfl⟩
    ·have d2:decide ((k:Int)<(M.length:Int))=false:=by simp;omega
     have d3: ¬((k:Int)<(M.length:Int)):=by omega
     obtain rfl:dn=1:=by omega
     have Gz:b=0:=by rw [Ez];exact DC.u hM
     subst Gz;clear Ez su SG;go_wp2_with fail;go_meet;exact⟨by go_num,rfl⟩
   case rest=>
   obtain⟨rfl,ou⟩:=hcut;replace ou:=ou.symm;subst ou;clear pZ DC Ez hJ sH HU;obtain⟨D,hD⟩: ∃D:Nat,D=dn+b:=⟨_,rfl⟩;have tK:(dn:Int)+(b:Int)=(D:Int):=by omega
   have SN3:Hid (∀s d',s<1000000000→d'≤1→a+1000000000*d'=s+D→Kq L M (k+1) (W.set k s) d'):=jA (fun s d' x1 x2 x3=>FC.u s d' x1 x2 (show a+1000000000*d'=s+b+dn by omega));have hDb:D≤1000000000:=by omega
   rw [tK];clear tK FC hD hq h2;by_cases bD:D≤a
   ·have d4:(D:Int)≤(a:Int):=by omega
    have d5:decide ((D:Int)≤(a:Int))=true:=by simp;omega
    obtain⟨s,hs⟩: ∃s:Nat,(a:Int)-(D:Int)=(s:Int):=⟨a-D,by omega⟩;have S2:=jA (SN3.u s 0 (by omega) (by omega) (by omega));have R2:=jA (RN.u s);have U2:=jA (UN.u (.int .u32 s));have hs9:s<1000000000:=by omega
    clear SN3 RN UN;go_upto_region 12 with(fail);refine xr (fun w4=>JR w w4 d o T cs (gv.setIfInBounds (o+k) (.int .u32 s)) L.length) U2.u (fun w4 U4=>?_);clear su SG U2 hs d4 d5 bD;go_wp2_with fail;go_roundw;case rel=>exact⟨W.set k s,0,k+1,_,by omega,rfl,by go_num,S2.u,R2.u,U4⟩
    case measure=>simp [intOf];omega
   ·have d4: ¬(D:Int)≤(a:Int):=by omega
    have d5:decide ((D:Int)≤(a:Int))=false:=by simp;omega
    obtain⟨s,hs⟩: ∃s:Nat,(a:Int)+1000000000-(D:Int)=(s:Int):=⟨a+1000000000-D,by omega⟩;have S2:=jA (SN3.u s 1 (by omega) (by omega) (by omega));have R2:=jA (RN.u s);have U2:=jA (UN.u (.int .u32 s));have hs9:s<1000000000:=by omega
    clear SN3 RN UN;go_upto_region 12 with(fail);refine xr (fun w4=>JR w w4 d o T cs (gv.setIfInBounds (o+k) (.int .u32 s)) L.length) U2.u (fun w4 U4=>?_);clear su SG U2 hs d4 d5 bD;go_wp2_with fail;go_roundw;case rel=>exact⟨W.set k s,1,k+1,_,by omega,rfl,by go_num,S2.u,R2.u,U4⟩
    case measure=>simp [intOf];omega
 ·have d1:decide ((k:Int)<(L.length:Int))=false:=by simp;omega
  obtain rfl:k=L.length:=by omega
  have hE:=jA S.done;clear S;by_cases h0:dn=0
  ·subst h0;go_wp2_with fail;go_ret;exact⟨W,0,rfl,hE.u,gv,R,U⟩
  ·obtain rfl:dn=1:=by omega
   go_wp2_with fail;go_ret;exact⟨W,1,rfl,hE.u,gv,R,U⟩
theorem jiy(ob:s0)(cap n cb:Nat)(w:m0)(hn:n<4398046511104):
 Calls prog 178 #[.slice none 0 cap,.slice ob n cb] w fun e w'=>e=.returned (.bool false)∧w'=w:=by
 go_enter Tryz.func178,Tryz.ntmps178;go_upto_region 3 with(fail);go_loopw [5,10] (fun v i wr=>v=.int .u32 0∧i=.int .i64 0∧wr=w) (fun _ i _=>0);case atStart=>exact⟨rfl,rfl,rfl⟩
 case round=>
 obtain⟨rfl,rfl,hw⟩:=hrel;replace hw:=hw.symm;subst hw;go_wp2_with fail;go_ret;exact⟨rfl,rfl⟩
theorem jdF(h:cs.toList.take L.length=yQ L):KL cs 0 L:=by
 intro i hi;have hx:(cs.toList.take L.length)[i]?=(yQ L)[i]?:=by rw [h]
 rw [List.getElem?_take_of_lt hi]at hx;rw [jv,←Array.getElem?_toList,hx];simp [yQ,lAt,jV,hi]
theorem jbD(L:E0)(oa:s0)(ca:Nat)(w:m0)(h:LimbsAt w oa L)(hl:L.length<4398046511104):
 Calls prog 175 #[.slice oa L.length ca] w fun e w'=> ∃v,e=.returned v∧((oa=none∧L= []∧v=.slice none 0 0∧w'=w)∨(∃g cc cs,v=.slice (some ⟨g,0,none⟩) L.length cc∧w.heap.size≤g∧w'.heap[g]?=some (.cells cs 180 (0,0))∧KL cs 0 L∧L.length≤cc∧O0 w.heap.size w w')):=by
 obtain⟨i0,hi,Is,Ts,Ns⟩:=info_parts QJ;have HI:=jA hi;have Dt:=jA Is;have Ct:=jA Ts;have Bt:=jA Ns;have HA:=jA h;clear hi Is Ts Ns h;have qT: ∀(w:m0) (a:s0) (n c:Nat),(binOp .eql 88 (.slice a n c) (.slice none 0 0)).run prog w=.ok (.bool a.isNone) w:=fun w a n c=>Lib.run_eql_slice_nil w _ _ a n c 0 0 underlying88;go_enter Tryz.func175,Tryz.ntmps175;cases oa with
 |
  none=>
  have hL:=jA (show L= []by
   cases hq:L with
   |nil=>rfl
   |
    cons x r=>
    obtain⟨a,h1,_⟩:=HA.u.cells 0 (by rw [hq];simp);cases h1)
  go_wp2_with fail;go_ret;exact⟨_,rfl,.inl ⟨hL.u,rfl,rfl⟩⟩
 |
  some ad=>
  have Nw: ∀j u,(yQ L)[j]?=some u→(w.alloc (.cells #[] 180)).cell? (ad.add j)=some u:=by
   intro j u hju;have hj:j<L.length:=by
    rcases jw j L.length with h1|h1;·exact h1
    ·rw [kR (by rw [Kj];exact h1)]at hju;cases hju
   obtain⟨a,h1,h2,h3⟩:=HA.u.cells j hj;cases h1;have hb:O0 w.heap.size w (w.alloc (.cells #[] 180)):=(jN _ _).alloc (jO _) _;rw [hb.cell (by rw [yo];exact h2),h3];simp [yQ,hj]at hju;exact qO some hju
  have own0:(w.alloc (.cells #[] 180)).ownsRow w.heap.size 180 1 (.slice (some ⟨w.heap.size,0,none⟩) 0 0) 0 (yQ []):=⟨rfl,.inr ⟨w.heap.size,0, #[],rfl,jO _,xh rfl,jO _,by unfold maxLen;omega,rfl,rfl⟩⟩;have HN:=jA Nw;have HO:=jA own0;clear Nw own0;go_upto_region 3 with(fail);go_upto_region 99 with(at_builtin;refine kV _ rfl (.tmp 5) (.tmp 6) 88 rfl w.heap.size 180 i0 (.int .u32 0) 1 4 underlying88 HI.u Dt.u Ct.u Bt.u rfl (by decide) (.slice (some ⟨w.heap.size,0,none⟩) 0 0) 0 (yQ []) rfl HO.u ad L.length ca (yQ L) rfl ?c1 ?c2 ?c3 ?c4 ?c5 ?c6 ?_);case c1=>rw [Kj];omega
  case c2=>exact HN.u
  case c3=>exact KX _
  case c4=>unfold maxLen;omega
  case c5=>omega
  case c6=>simp
  intro v5 w5 Hs ru hne5;have Gs:O0 w.heap.size w w5:=((jN _ _).alloc (jO _) (.cells #[] 180)).grown ru (by simp) (fun q hq=>by simp [Value.ownBlock]at hq;omega);have hv5:=jA Hs;clear HO HN Hs ru;go_wp2_with fail;go_ret;refine⟨_,rfl,.inr ?_⟩;rcases hv5.u.2 with⟨hv,_⟩|⟨g,cap,Es,hv,hb,hg,px,_,_,ht⟩;·exact absurd hv hne5
  ·rw [qS]at ht;exact⟨g,cap,Es,hv,hb,hg,jdF ht,px,Gs⟩
theorem jik(h:LimbsAt w none L):L= []:=by
 cases hq:L with
 |nil=>rfl
 |
  cons x r=>
  obtain⟨a,h1,_⟩:=h.cells 0 (by rw [hq];simp);cases h1
theorem Yr(hd:w.heap[d]?=some (.cells cs T (0,0)))(h:KL cs o W):LimbsAt w (some ⟨d,o,none⟩) W:=⟨fun i hi=>by
 refine⟨_,rfl,xZ hd,?_⟩;rw [qD,jM w d (o+i) _ _ _ hd,h i hi];simp [lAt,jV,hi]⟩
theorem LimbsAt.ne{ob:s0}{M:E0}(h:LimbsAt w ob M)(hM:M≠ []): ∀a,ob=some a→a.block<w.heap.size:=by
 intro a ha;obtain⟨a',h1,h2,_⟩:=h.cells 0 (by cases M with|nil=>exact absurd rfl hM|cons x r=>simp);rw [ha]at h1;cases h1;exact h2
theorem jkY(x y:Nat)(oa ob:s0)(ca cb:Nat)(w:m0)(aJ:y≤x)(ha:LimbsAt w oa (dig x))(hb:LimbsAt w ob (dig y))(hx:(dig x).length<1099511627776)(hy:(dig y).length<1099511627776):
 Calls prog 174 #[.slice oa (dig x).length ca,.slice ob (dig y).length cb] w fun e w'=> ∃oc cc,e=.returned (.slice oc (dig (x-y)).length cc)∧LimbsAt w' oc (dig (x-y))∧O0 w.heap.size w w':=by
 have QC:=jA (jbD (dig x) oa ca w ha (by omega));have Eu:=jA hb;have TZ:=jA aJ;clear ha hb aJ;go_enter Tryz.func174,Tryz.ntmps174;go_upto_region 2 with(go_at_call 175;refine QC.u.mono ?_;rintro e w1 ⟨v,rfl,hv⟩);clear QC;rcases hv with⟨_,hL,rfl,rfl⟩|⟨g,cc,cs,rfl,hg,hh,hr,EB,bel⟩
 ·have nt:x=0:=by rw [←yR x,hL];rfl
  have Uv:y=0:=by have:=TZ.u;omega
  have QL:=jA (jiy ob 0 (dig y).length cb w1 (by omega));have QT:=jA (KE none [] 0 w1 LimbsAt.nil (by simp) (by simp) (fun d hd=>by cases hd));have e1:=jA (show dig (x-y)=zO []by rw [nt,Uv];unfold zO;rfl);clear Eu nt Uv hL TZ;go_upto_region 3 with(go_at_call 178;refine QL.u.mono ?_;rintro e w2 ⟨rfl,rfl⟩);go_wp2_with (go_at_call 138;refine QT.u.mono ?_;rintro e w3 ⟨rfl,UD,rfl⟩);go_ret;rw [e1.u];exact⟨_,_,rfl,UD,jN _ _⟩
 ·have QL:=jA (jcI (dig x) (dig y) g 0 cc 180 cs ob cb w1 (yN x) (yN y) hh hr (Eu.u.below bel) (fun hM a h=>by have:=Eu.u.ne hM a h;omega) (by omega) (by omega));have BEL:=jA bel;have hcc2:=EB;clear Eu bel hh hr;go_upto_region 3 with(go_at_call 178;refine QL.u.mono ?_;rintro e w2 ⟨W,dn,rfl,hE,cs2,DE,hT⟩);have cZ:W.length=(dig x).length:=hE.len;have QT:=jA (KE (some ⟨g,0,none⟩) W cc w2 (Yr hT.heap DE) (by omega) (by omega) hE.all);rw [hE.sub TZ.u,cZ]at QT;have us:O0 w.heap.size w w2:=xl BEL.u hT.only hg;clear QL BEL hE DE hT cZ TZ;go_wp2_with (go_at_call 138;refine QT.u.mono ?_;rintro e w3 ⟨rfl,UD,rfl⟩);go_ret;exact⟨_,_,rfl,UD,us⟩
theorem jix(L M:E0)(d o cap:Nat)(T:o0)(cs:t0)(ob:s0)(cb:Nat)(w:m0)(hL:yx L)(hM:yx M)(hd:w.heap[d]?=some (.cells cs T (0,0)))(hr:KL cs o L)(hb:LimbsAt w ob M)(Cs: ∀a,ob=some a→a.block≠d)(hlL:L.length<4398046511104)(hlM:M.length<4398046511104):
 Calls prog 179 #[.slice (some ⟨d,o,none⟩) L.length cap,.slice ob M.length cb] w fun e w'=>e=.returned (.tuple #[])∧ ∃W u gv,Xn L M L.length W u∧KL gv o W∧JR w w' d o T cs gv L.length:=by
 have HR:=jA hr;have HD:=jA hd;have HB:=jA hb;have iA:=jA Cs;have HL:=jA hL;have HM:=jA hM;clear hr hd hb Cs hL hM;go_enter Tryz.func179,Tryz.ntmps179;go_upto_region 2 with(fail);go_loopw [4,9] (fun v i wr=> ∃(W:E0) (u k:Nat) (gv:t0),k≤L.length∧v=.int .u32 u∧i=.int .i64 k∧Xn L M k W u∧KL gv o W∧JR w wr d o T cs gv L.length) (fun _ i _=>L.length-(intOf i).toNat);case atStart=>exact⟨L,0,0,cs,by omega,rfl,rfl,Xn.init M HL.u,HR.u,JR.refl HD.u⟩
 case round=>
 obtain⟨W,u,k,gv,hk,rfl,rfl,S,R,U⟩:=hrel;have ON:=S.up;by_cases hm:k<L.length
 ·have d1:decide ((k:Int)<(L.length:Int))=true:=by simp;omega
  have MT:k<W.length:=by rw [S.len];exact hm
  have SN:Hid (Xn L M (k+1) (W.set k ((lAt W k+u+lAt M k)%1000000000)) ((lAt W k+u+lAt M k)/1000000000)):=jA (S.next HM.u hm);have su:wr.cell? ⟨d,o+k,none⟩=some (.int .u32 ((lAt W k:Nat):Int)):=by
   rw [jM wr d (o+k) _ _ _ U.heap];exact R k MT
  have SG:=jc wr d (o+k) _ _ U.heap;have h1:lAt W k<1000000000:=yP S.all k;have h2:lAt M k<1000000000:=yP HM.u k;have RN:=jA (fun s=>R.set k s MT);have UN:=jA (fun v=>U.set k v hm);have ho0:(0:Int)≤k:=by omega
  have TQ:(k:Int)<(L.length:Int):=by omega
  have pZ:=jA (fun(h:k<M.length)=>(HB.u.only U.only iA.u).get k h);have DC:=jA (fun(h: ¬k<M.length)=>(show lAt M k=0 by unfold lAt;rw [jV,kR (by omega)];rfl));clear S R U MT;obtain⟨b,Ez⟩: ∃b,b=lAt M k:=⟨_,rfl⟩;rw [←Ez]at SN h2;generalize lAt W k=a at*
  go_upto_if 21 with(fail)
  go_cut [6] (fun v w'=>v=.int .u32 ((a:Int)+(u:Int)+(b:Int))∧w'=wr);case first=>
   by_cases hM:k<M.length
   ·have d2:decide ((k:Int)<(M.length:Int))=true:=by simp;omega
    obtain⟨b0,Mw,Iy⟩:=pZ.u hM;have CC:wr.cell? (b0.add k)=some (.int .u32 (b:Int)):=by rw [Ez];exact Iy
    have By:(k:Int)<(M.length:Int):=by omega
    subst Mw;clear Iy Ez su SG;go_wp2_with fail;go_meet;exact⟨by go_num,rfl⟩
   ·have d2:decide ((k:Int)<(M.length:Int))=false:=by simp;omega
    have d3: ¬((k:Int)<(M.length:Int)):=by omega
    have Gz:b=0:=by rw [Ez];exact DC.u hM
    subst Gz;clear Ez su SG;go_wp2_with fail;go_meet;exact⟨by go_num,rfl⟩
  case rest=>
  obtain⟨rfl,ou⟩:=hcut;replace ou:=ou.symm;subst ou;clear pZ DC Ez;obtain⟨D,hD⟩: ∃D:Nat,a+u+b=D:=⟨_,rfl⟩;have tK:(a:Int)+(u:Int)+(b:Int)=(D:Int):=by omega
  have hDb:D<4000000000:=by omega
  rw [hD]at SN;rw [tK];clear tK hD h1 h2;obtain⟨s,hs⟩: ∃s:Nat,D%1000000000=s:=⟨_,rfl⟩;have hsi:(D:Int)%1000000000=(s:Int):=by omega
  rw [hs]at SN;have R2:=jA (RN.u s);have U2:=jA (UN.u (.int .u32 s));clear RN UN;go_upto_region 8 with(fail);refine xr (fun w4=>JR w w4 d o T cs (gv.setIfInBounds (o+k) (.int .u32 s)) L.length) U2.u (fun w4 U4=>?_);clear su SG U2 hs hsi;go_wp2_with fail;go_roundw;case rel=>exact⟨W.set k s,D/1000000000,k+1,_,by omega,by go_num,by go_num,SN.u,R2.u,U4⟩
  case measure=>simp [intOf];omega
 ·have d1:decide ((k:Int)<(L.length:Int))=false:=by simp;omega
  obtain rfl:k=L.length:=by omega
  have hE:=jA S;clear S;go_wp2_with fail
  go_end0
  exact⟨rfl,W,u,gv,hE.u,R,U⟩
theorem jaB(n:Nat)(w:m0)(hn:n<18446744073709551616):
 Calls prog 96 #[.int .u64 (n:Int)] w fun e w'=> ∃oa cap,e=.returned (.slice oa (dig n).length cap)∧LimbsAt w' oa (dig n)∧(∀a,oa=some a→w.heap.size≤a.block∧a.block<w'.heap.size)∧O0 w.heap.size w w':=by
 obtain⟨i0,hi,Is,Ts,Ns⟩:=info_parts QJ;have HI:=jA hi;have Dt:=jA Is;have Ct:=jA Ts;have Bt:=jA Ns;clear hi Is Ts Ns;go_enter Tryz.func96,Tryz.ntmps96;go_wp2_with fail;generalize hB:w.heap.size=B at*;have HB:=jA hB;clear hB;go_loopw [0,3] (fun z v wr=> ∃(L:E0) (k:Nat),z=.int .u64 k∧k≤n∧L++dig k=dig n∧L.length+k≤n∧O0 B w wr∧wr.ownsRow B 180 1 v L.length (yQ L)) (fun z _ _=>(intOf z).toNat);case atStart=>exact⟨[],n,rfl,jO _,rfl,by simp,jN _ _,kg _ _ _ _⟩
 case round=>
 obtain⟨L,k,rfl,hk,hL,hl,bel,own⟩:=hrel;by_cases h0:0<k
 ·have hd:decide ((0:Int)<(k:Int))=true:=by simp;omega
  have wK:B≤wr.heap.size:=by have:=bel.size;rw [HB.u]at this;exact this
  have hl19:L.length≤19:=by
   have h1:=yO n 19 (jW hn (by decide));rw [←hL,jZ]at h1;omega
  have Sz:=jA (show(L++ [k%1000000000])++dig (k/1000000000)=dig n by rw [kY,List.singleton_append,←JQ h0];exact hL);go_upto_region 3 with(at_builtin;refine kV _ rfl (.tmp 8) (.tmp 12) 88 rfl B 180 i0 (.int .u32 0) 1 4 underlying88 HI.u Dt.u Ct.u Bt.u rfl (by decide) u3 L.length (yQ L) rfl (own.alloc _) ⟨wr.heap.size,0,none⟩ 1 1 (yQ [k%1000000000]) rfl rfl ?c1 ?c2 ?c3 ?c4 ?c5 ?_);case c1=>exact KW wr [k%1000000000] _ _ rfl
  case c2=>exact KX _
  case c3=>unfold maxLen;omega
  case c4=>omega
  case c5=>first|omega|(simp;omega)
  intro v5 w5 Hs ru _;have Gs:O0 B w w5:=(bel.alloc wK _).grown ru (by simp;omega) (fun q hq=>(own.lt q hq).1);rw [Jj]at Hs;have iu:w5.ownsRow B 180 1 v5 (L++ [k%1000000000]).length (yQ (L++ [k%1000000000])):=by rw [jZ];exact Hs
  clear Hs own ru bel hL;go_wp2_with fail;go_roundw;case rel=>exact⟨L++ [k%1000000000],k/1000000000,by go_num,by omega,Sz.u,by rw [jZ,kM];omega,Gs,iu⟩
  case measure=>simp [intOf];omega
 ·have hd:decide ((0:Int)<(k:Int))=false:=by simp;omega
  obtain rfl:k=0:=by omega
  rw [yi,qG]at hL;obtain⟨oa,cap,rfl,_,hfa,hI⟩:=XQ own;have ns: ∀a,oa=some a→a.block<wr.heap.size:=fun a ha=>(own.lt a.block (by rw [ha];rfl)).2;rw [hL]at hI;have HLn:=jA hL;clear hL own;go_wp2_with fail;go_ret;exact⟨oa,cap,by rw [HLn.u];rfl,hI,fun a ha=>⟨by rw [HB.u];exact hfa a ha,ns a ha⟩,by rw [HB.u];exact bel⟩
theorem jiw(oa:s0)(n ca:Nat)(w:m0):
 Calls prog 93 #[.slice oa n ca] w fun e w'=>e=.returned (.bool ((n:Int)==0))∧w'=w:=by
 go_enter Tryz.func93,Tryz.ntmps93;go_wp2_with fail;go_ret;exact⟨rfl,rfl⟩
theorem jmb{base:Nat}{e:o0}{v:n0}(h:w.ownsRow base e 1 v L.length (yQ L))(k:Nat)(hk:k≤L.length): ∃oc cc,v=.slice oc L.length cc∧L.length≤cc∧w.ownsRow base e 1 (.slice oc k cc) k (yQ (L.take k)):=by
 have hl:(yQ (L.take k)).length=k*1:=by rw [Kj,jf];omega
 rcases h.2 with⟨hv,h0⟩|⟨g,cap,Es,hv,hb,hg,px,hm,hc,ht⟩
 ·have iM:k=0:=by omega
  subst iM;exact⟨none,0,by rw [hv,h0],by omega,hl,.inl ⟨rfl,rfl⟩⟩
 ·refine⟨some ⟨g,0,none⟩,cap,hv,px,hl,.inr ⟨g,cap,Es,rfl,hb,hg,by omega,hm,hc,?_⟩⟩;have:(Es.toList.take (L.length*1)).take (k*1)=(yQ L).take (k*1):=by rw [ht]
  rw [List.take_take,kP (by omega)]at this;rw [this];simp [yQ]
theorem jjy(L:E0)(h:yx L): ∃k,k≤L.length∧(zO L).length=k∧L.take k=zO L:=by
 have H: ∀(n:Nat) (L:E0),L.length=n→yx L→ ∃k,k≤L.length∧L.take k=zO L:=by
  intro n
  induction n with
  |
   zero=>
   intro L hl _;have:L= []:=kt.1 hl;subst this;exact⟨0,by simp,by unfold zO;simp [val,yi]⟩
  |
   succ n ih=>
   intro L hl hA;by_cases h0:L.getD n 0=0
   ·obtain⟨k,hk,he⟩:=ih (L.take n) (by rw [jf];omega) (zz hA n);rw [jf]at hk;refine⟨k,by omega,?_⟩;rw [List.take_take,kP (by omega)]at he;rw [he];unfold zO;congr 1;refine Qi L n (fun i hi=>?_);rcases jw n i with h1|h1;·rw [jV,kR (by omega)];rfl
    ·have:i=n:=by omega
     rw [this];exact h0
   ·exact⟨n+1,by omega,Ku L (n+1) hA (by omega) (fun i hi=>by rw [jV,kR (by omega)];rfl) (.inr (by simpa using h0))⟩
 obtain⟨k,hk,he⟩:=H L.length L rfl h;exact⟨k,hk,by rw [←he,jf];omega,he⟩
theorem ZC(x b:Nat)(oa:s0)(ca:Nat)(w:m0)(ha:LimbsAt w oa (dig x))(hx:(dig x).length<1099511627776)(hb:b<1000000000):
 Calls prog 177 #[.slice oa (dig x).length ca,.int .u32 b] w fun e w'=> ∃oc cc,e=.returned (.slice oc (dig (x*b)).length cc)∧w'.ownsRow w.heap.size 180 1 (.slice oc (dig (x*b)).length cc) (dig (x*b)).length (yQ (dig (x*b)))∧O0 w.heap.size w w':=by
 obtain⟨i0,hi,Is,Ts,Ns⟩:=info_parts QJ;have HI:=jA hi;have Dt:=jA Is;have Ct:=jA Ts;have Bt:=jA Ns;have HA:=jA ha;clear hi Is Ts Ns ha;have hC:((dig x).length:Int)+1=(((dig x).length+1:Nat):Int):=by omega
 have HC:=jA hC;clear hC;go_enter Tryz.func177,Tryz.ntmps177;go_upto_region 2 with(refine wpList_make_own _ rfl _ _ 88 rfl w.heap.size 180 i0 (.int .u32 0) 1 underlying88 HI.u Dt.u Ct.u .i64 .i64 (((dig x).length:Int)+1) ((dig x).length+1) rfl rfl HC.u (by rw [Bt.u];omega) (by unfold maxLen;omega) (jO _) ?_);intro w1 own1 RJ;have et:O0 w.heap.size w w1:=(jN _ _).grown RJ (jO _) (by simp);have S0:=KU.init x b;clear RJ;go_upto_region 4 with(fail);go_loopw [5,6,15] (fun v z i wr=> ∃(O:E0) (u:Nat),z=.int .u64 u∧i=.int .i64 O.length∧O.length≤(dig x).length∧KU x b O u∧O0 w.heap.size w wr∧wr.ownsRow w.heap.size 180 1 v O.length (yQ O)) (fun _ _ i _=>(dig x).length-(intOf i).toNat);case atStart=>exact⟨[],0,rfl,rfl,by simp,S0,et,own1⟩
 case round=>
 obtain⟨O,u,rfl,rfl,Oy,S,bel,own⟩:=hrel;clear S0 et own1;have ON:=S.up;have EF:=bel.size;by_cases hm:O.length<(dig x).length
 ·have hdm:decide ((O.length:Int)<((dig x).length:Int))=true:=by simp;omega
  have FC:Hid (KU x b (O++ [(u+lAt (dig x) O.length*b)%1000000000]) ((u+lAt (dig x) O.length*b)/1000000000)):=jA (S.next hb hm);have h1:lAt (dig x) O.length<1000000000:=yP (yN x) O.length;have h2:=S.bound hb (lAt (dig x) O.length) h1;obtain⟨a0,Us,Ft⟩:=(HA.u.below bel).get O.length hm;have Bu:wr.cell? (a0.add O.length)=some (.int .u32 ((lAt (dig x) O.length:Nat):Int)):=Ft;have GJ:(O.length:Int)<((dig x).length:Int):=by omega
  have rA:(0:Int)≤O.length:=by omega
  clear S Ft;subst Us;generalize lAt (dig x) O.length=a at*;obtain⟨m,hmm⟩: ∃m,m=a*b:=⟨_,rfl⟩;have NG:(a:Int)* (b:Int)=(m:Int):=by rw [hmm];exact(vY a b).symm
  rw [←hmm]at FC h2;have eu:a*b≤999999999*999999999:=qV (by omega) (by omega);rw [←hmm,show 999999999*999999999=999999998000000001 by decide]at eu;clear hmm;go_upto_region 7 with(fail);obtain⟨D,hD⟩: ∃D:Nat,D=u+m:=⟨_,rfl⟩;have tK:(u:Int)+(m:Int)=(D:Int):=by omega
  rw [←hD]at FC h2;rw [tK];clear NG Bu hD tK eu;go_upto_region 8 with(at_builtin;refine kV _ rfl (.tmp 26) (.tmp 30) 88 rfl w.heap.size 180 i0 (.int .u32 0) 1 4 underlying88 HI.u Dt.u Ct.u Bt.u rfl (by decide) u5 O.length (yQ O) rfl (own.alloc _) ⟨wr.heap.size,0,none⟩ 1 1 (yQ [D%1000000000]) rfl rfl ?c1 ?c2 ?c3 ?c4 ?c5 ?_);case c1=>exact KW wr [D%1000000000] _ _ rfl
  case c2=>exact KX _
  case c3=>unfold maxLen;omega
  case c4=>omega
  case c5=>first|omega|(simp;omega)
  intro v5 w5 Hs ru _;have Gs:O0 w.heap.size w w5:=(bel.alloc EF _).grown ru (by simp;omega) (fun q hq=>(own.lt q hq).1);rw [Jj]at Hs;have iu:w5.ownsRow w.heap.size 180 1 v5 (O++ [D%1000000000]).length (yQ (O++ [D%1000000000])):=by rw [jZ];exact Hs
  clear Hs own ru bel;go_wp2_with fail;go_roundw;case rel=>exact⟨O++ [D%1000000000],D/1000000000,by go_num,by rw [jZ,kM];go_num,by rw [jZ,kM];omega,FC.u,Gs,iu⟩
  case measure=>simp [intOf];omega
 ·have hdm:decide ((O.length:Int)<((dig x).length:Int))=false:=by simp;omega
  obtain⟨LE,aF⟩:=S.done (by omega);have HAl:=jA LE;have HTR:=jA aF;clear S LE aF hb;go_upto_region 99 with(first
   |(at_builtin;refine kV _ rfl (.tmp 35) (.tmp 38) 88 rfl w.heap.size 180 i0 (.int .u32 0) 1 4 underlying88 HI.u Dt.u Ct.u Bt.u rfl (by decide) u5 O.length (yQ O) rfl (own.alloc _) ⟨wr.heap.size,0,none⟩ 1 1 (yQ [u]) rfl rfl ?c1 ?c2 ?c3 ?c4 ?c5 ?_))
  case c1=>exact KW wr [u] _ _ rfl
  case c2=>exact KX _
  case c3=>unfold maxLen;omega
  case c4=>omega
  case c5=>first|omega|(simp;omega)
  intro v5 w5 Hs ru _;have Gs:O0 w.heap.size w w5:=(bel.alloc EF _).grown ru (by simp;omega) (fun q hq=>(own.lt q hq).1);rw [Jj]at Hs;have Ux:(O++ [u]).length=O.length+1:=by simp
  obtain⟨oc,cc,rfl,EB,_,hI⟩:=XQ (L:=O++ [u]) Hs;have iw:w5.ownsRow w.heap.size 180 1 (.slice oc (O++ [u]).length cc) (O++ [u]).length (yQ (O++ [u])):=by rw [Ux]at Hs ⊢;exact Hs
  obtain⟨k,hk,gG,eZ⟩:=jjy _ HAl.u;obtain⟨oc2,cc2,he2,_,ES⟩:=jmb iw k hk;simp only [Value.slice.injEq]at he2;obtain⟨rfl,_,rfl⟩:=he2;rw [eZ,←gG,HTR.u]at ES;have OWNK:=jA ES;have QT:=jA (KE oc (O++ [u]) cc w5 hI (by omega) EB HAl.u);rw [HTR.u,Ux]at QT;clear Hs iw own ru bel hI Ux hk gG eZ ES;go_wp2_with (go_at_call 138;refine QT.u.mono ?_;rintro e w6 ⟨rfl,pR,rfl⟩);go_ret;exact⟨oc,cc,rfl,OWNK.u,Gs⟩
theorem jha(x b:Nat)(oa:s0)(ca:Nat)(w:m0)(ha:LimbsAt w oa (dig x))(hx:(dig x).length<1099511627776)(Gz:0<b)(hb:b<1000000000):
 Calls prog 176 #[.slice oa (dig x).length ca,.int .u32 b] w fun e w'=> ∃oc cc r,e=.returned (.tuple #[.slice oc (dig (x/b)).length cc,.int .u32 (r:Nat)])∧r=x%b∧LimbsAt w' oc (dig (x/b))∧(∀a,oc=some a→w.heap.size≤a.block)∧O0 w.heap.size w w':=by
 obtain⟨i0,hi,Is,Ts,Ns⟩:=info_parts QJ;have HI:=jA hi;have Dt:=jA Is;have Ct:=jA Ts;have Bt:=jA Ns;have HA:=jA ha;clear hi Is Ts Ns ha;have S0:=KM.init x b Gz;have oZ:((b:Int)==0)=false:=by rw [jt];omega
 go_enter Tryz.func176,Tryz.ntmps176;go_upto_region 2 with(refine wpList_make_row _ rfl _ _ 88 rfl 180 i0 (.int .u32 0) underlying88 HI.u Dt.u Ct.u rfl .i64 .i64 (dig x).length rfl rfl (by rw [Bt.u];omega) (by omega) ?_);rw [Zp];generalize hB:w.heap.size=d at*;refine xr (fun w1=>O0 d w w1∧w1.heap[d]?=some (.cells (yQ (List.replicate (dig x).length 0)).toArray 180 (0,0))) ⟨by rw [←hB];exact(jN _ _).alloc (jO _) _,by rw [←hB];exact xh rfl⟩ (fun w1 ts=>?_);obtain⟨et,h1⟩:=ts;have HB:=jA hB;clear hB;go_upto_region 4 with(fail);go_loopw [7,8] (fun v i wr=> ∃(k r:Nat) (z:Int) (Q:E0),k≤(dig x).length∧z=(k:Int)-1∧i=.int .i64 z∧v=.int .u64 r∧KM x b k Q r∧O0 d w wr∧wr.heap[d]?=some (.cells (yQ Q).toArray 180 (0,0))) (fun _ i _=>(intOf i+1).toNat);case atStart=>exact⟨(dig x).length,0,(dig x).length-1,_,jO _,rfl,by go_num,rfl,S0,et,h1⟩
 case round=>
 obtain⟨k,r,z,Q,hk,hz,rfl,rfl,S,bel,hQ⟩:=hrel;clear et h1 S0;have nJ:=S.lt;by_cases h0:k=0
 ·subst h0;obtain rfl:z= -1:=by omega
  have hd:=jA S.done;have hl:=S.len;have QT:=jA (KE (some ⟨d,0,none⟩) Q (dig x).length wr (Xj hQ rfl) (by omega) (by omega) S.all);rw [hd.u.1,hl]at QT;clear S hQ hz;go_wp2_with (go_at_call 138;refine QT.u.mono ?_;rintro e w3 ⟨rfl,UD,rfl⟩)
  go_ret2
  exact⟨_,_,r,rfl,hd.u.2,UD,fun a h=>by cases h;rw [HB.u];exact jO _,by rw [HB.u];exact bel⟩
 obtain⟨i,rfl⟩: ∃i,k=i+1:=⟨k-1,by omega⟩;obtain rfl:z=(i:Int):=by omega
 have ns:i<(dig x).length:=by omega
 have rA:(0:Int)≤i:=by omega
 have iZ:(i:Int)<((dig x).length:Int):=by omega
 obtain⟨a0,Us,Ft⟩:=HA.u.get i ns;have Cv:a0.block<d:=by
  obtain⟨a1,h2,h3,_⟩:=HA.u.cells i ns;rw [Us]at h2;cases h2;rw [HB.u]at h3;exact h3
 have Ww:wr.cell? (a0.add i)=some (.int .u32 ((lAt (dig x) i:Nat):Int)):=by rw [bel.cell (p:=a0.add i) (by rw [yo];exact Cv)];exact Ft
 have SN:Hid (KM x b i (Q.set i ((r*1000000000+lAt (dig x) i)/b)) ((r*1000000000+lAt (dig x) i)%b)∧(r*1000000000+lAt (dig x) i)/b<1000000000):=jA (S.step ns);have hai:lAt (dig x) i<1000000000:=yP (yN x) i;have nG:i<Q.length:=by rw [S.len];exact ns
 have Ey:=Yf hQ i nG;have BO:=jc wr d i _ _ hQ;have HSET:=jA (fun q=>ZO hQ i q);have Fx:=jA bel;subst Us;clear S Ft hz h0 hQ bel;generalize lAt (dig x) i=a at*;go_upto_region 7 with(fail);obtain⟨D,hD⟩: ∃D:Nat,D=r*1000000000+a:=⟨_,rfl⟩;have tK:(r:Int)*1000000000+(a:Int)=(D:Int):=by omega
 have hDb:D<1000000000000000000:=by omega
 rw [←hD]at SN;rw [tK];clear Ww hD tK;have hq:((D:Int)/(b:Int))=((D/b:Nat):Int):=(Int.natCast_ediv D b).symm;have hr:((D:Int)%(b:Int))=((D%b:Nat):Int):=(Int.natCast_emod D b).symm;have GG:=SN.u.2;generalize hqq:D/b=q at*;generalize hrr:D%b=r2 at*;clear hqq hrr;go_upto_region 8 with(fail);refine xr (fun w4=>O0 d w w4∧w4.heap[d]?=some (.cells (yQ (Q.set i q)).toArray 180 (0,0))) ⟨xl Fx.u ((yG.refl d wr).setCell _ _) (jO _),HSET.u q⟩ (fun w4 Gu=>?_);obtain⟨Fs,dH⟩:=Gu;clear Ey BO HSET Fx;go_wp2_with fail;go_roundw;case rel=>exact⟨i,r2,(i:Int)-1,_,by omega,rfl,by go_num,by go_num,SN.u.1,Fs,dH⟩
 case measure=>simp [intOf]
end Go.Proofs.YtnohcdpnnhmpfaaGreatDoor
