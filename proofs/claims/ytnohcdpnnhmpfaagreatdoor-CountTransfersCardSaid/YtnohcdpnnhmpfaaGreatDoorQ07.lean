/-
  exact.trim: rows of limbs.
  cmp.Compare of ints and of limbs; exact.Cmp.
  exact.Add.
  exact.Mul.
  (exact.Nat).less, in place.
  slices.Clone of limbs, (exact.Nat).Sub.
  (exact.Nat).more, in place.
  exact.Of, (exact.Nat).Zero.
  (exact.Nat).times, (exact.Nat).by, exact.Of.
-/
import Derived.Test.YtnohcdpnnhmpfaaGreatDoorQ03
import Derived.Test.YtnohcdpnnhmpfaaGreatDoorQ02
import Derived.Test.YtnohcdpnnhmpfaaGreatDoorChecked
import Derived.OwnWalk
import Derived.WalkKit
import Derived.Deep.CutBlock
import Derived.Deep.DeepCutAuto
import Derived.Lib.Hide
import Derived.Deep.RegionWith
import Derived.Deep.OwnRows
import Derived.Test.YtnohcdpnnhmpfaaGreatDoorQ01
import Derived.Lib.SliceRun
set_option linter.unusedVariables false
set_option linter.unusedSimpArgs false
set_option maxRecDepth 100000
set_option maxHeartbeats 4000000
namespace Go.Proofs.YtnohcdpnnhmpfaaGreatDoor
open Go.RowKit Tryz ML NL
theorem Kb:(prog.info? 180).map (fun i=>(i.zero,i.size,i.bytes))=some (some (.int .u32 0),1,4):=by kernel_rfl
theorem Jq(w:World)(news:List Nat)(t:TypeId)(n:Nat)(hn:w.heap.size=n): ∀j u,(yC news)[j]?=some u→(w.alloc (.cells (yC news).toArray t)).cell? ((⟨n,0,none⟩:Addr).add j)=some u:=YB w (yC news) t n hn
theorem Jc(oa:Option Addr)(L:List Nat)(cap:Nat)(w:World)(h:LimbsAt w oa L)(hl:L.length<9223372036854775808)(hcap:L.length≤cap)(hA:yf L):
 Calls prog 138 #[.slice oa L.length cap] w fun e w'=>e=.returned (.slice oa (yw L).length cap)∧LimbsAt w oa (yw L)∧w'=w:=by
 have H:=jA h;have HA:=jA hA;clear h hA;go_enter Tryz.func138,Tryz.ntmps138;go_wp2_with fail;go_loopw [0] (fun v wr=> ∃k:Nat,k≤L.length∧v=.slice oa k cap∧(∀i,k≤i→L.getD i 0=0)∧wr=w) (fun v _=>match v with| .slice _ n _=>n|_=>0);case atStart=>exact⟨L.length,jO _,rfl,fun i hi=>by simp [jW,kP hi],rfl⟩
 case round=>
 obtain⟨k,hk,rfl,hz,rfl⟩:=hrel;have HZ:=jA hz;clear hz;by_cases h0:k=0
 ·subst h0;have ht:=KT L 0 HA.u (by omega) HZ.u (.inl rfl);rw [qe]at ht;have HT:=jA ht;clear ht;go_wp2_with fail;go_ret;rw [←HT.u];exact⟨rfl,⟨fun i hi=>by simp at hi⟩,rfl⟩
 obtain⟨j,rfl⟩: ∃j,k=j+1:=⟨k-1,by omega⟩;obtain⟨a,rfl,hc⟩:=H.u.get j (by omega);have hk63:(j:Int)+1<9223372036854775808:=by omega
 have hjc:(j:Int)≤cap:=by omega
 by_cases hd0:L.getD j 0=0
 ·
   have hz2:=jA (show ∀i,j≤i→L.getD i 0=0 from fun i hi=>by
    by_cases he:i=j;·rw [he];exact hd0
    ·exact HZ.u i (by omega))
   rw [hd0]at hc;clear hd0;go_wp2_with fail;go_roundw;case rel=>exact⟨j,by omega,by go_num,hz2.u,trivial⟩
   case measure=>simp
 ·have ht:=KT L (j+1) HA.u hk HZ.u (.inr (by simpa using hd0));have hl2:(yw L).length=j+1:=by rw [←ht,jX];omega
  have hI:=H.u.take (j+1);rw [ht]at hI;have HI:=jA hI;have HL2:=jA hl2;clear ht hl2 hI;have hdf:(((L.getD j 0:Nat):Int)==0)=false:=by rw [kE];intro h;apply hd0;omega
  clear hd0 h0;generalize L.getD j 0=d at*;go_wp2_with fail;go_ret;rw [HL2.u];exact⟨rfl,HI.u,rfl⟩
def Xv(a b:Int):Int:=if a<b then -1 else if b<a then 1 else 0
theorem jgK(a b:Int)(w:World):
 Calls prog 101 #[.int .i64 a,.int .i64 b] w fun e w'=>e=.returned (.int .i64 (Xv a b))∧w'=w:=by
 go_enter Tryz.func101,Tryz.ntmps101;by_cases h1:a<b
 ·have hc:=jA (show Xv a b= -1 from jR h1);go_wp2;go_ret;exact⟨by rw [hc.u];rfl,rfl⟩
 by_cases h2:b<a
 ·have hc:=jA (show Xv a b=1 by unfold Xv;rw [jT h1,jR h2]);go_wp2;go_ret;exact⟨by rw [hc.u];rfl,rfl⟩
 ·have hc:=jA (show Xv a b=0 by unfold Xv;rw [jT h1,jT h2]);go_wp2;go_ret;exact⟨by rw [hc.u];rfl,rfl⟩
theorem jay(a b:Int)(w:World):
 Calls prog 139 #[.int .u32 a,.int .u32 b] w fun e w'=>e=.returned (.int .i64 (Xv a b))∧w'=w:=by
 go_enter Tryz.func139,Tryz.ntmps139;by_cases h1:a<b
 ·have hc:=jA (show Xv a b= -1 from jR h1);go_wp2;go_ret;exact⟨by rw [hc.u];rfl,rfl⟩
 by_cases h2:b<a
 ·have hc:=jA (show Xv a b=1 by unfold Xv;rw [jT h1,jR h2]);go_wp2;go_ret;exact⟨by rw [hc.u];rfl,rfl⟩
 ·have hc:=jA (show Xv a b=0 by unfold Xv;rw [jT h1,jT h2]);go_wp2;go_ret;exact⟨by rw [hc.u];rfl,rfl⟩
theorem jhr {a b:Nat}(h:a<b):Xv (a:Int) (b:Int)= -1:=jR (by omega)
theorem jhs {a b:Nat}(h:b<a):Xv (a:Int) (b:Int)=1:=by unfold Xv;rw [jT (by omega),jR (by omega)]
theorem jht {a b:Nat}(h:a=b):Xv (a:Int) (b:Int)=0:=by unfold Xv;rw [jT (by omega),jT (by omega)]
theorem XN(x y:Nat)(oa ob:Option Addr)(ca cb:Nat)(w:World)(ha:LimbsAt w oa (dig x))(hb:LimbsAt w ob (dig y))(hx:(dig x).length<1099511627776)(hy:(dig y).length<1099511627776):
 Calls prog 95 #[.slice oa (dig x).length ca,.slice ob (dig y).length cb] w fun e w'=>e=.returned (.int .i64 (Jd x y))∧Below w.heap.size w w':=by
 have HA:=jA ha;have HBB:=jA hb;have QI:=jA jgK;have QL:=jA jay;clear ha hb;go_enter Tryz.func95,Tryz.ntmps95;by_cases hl:(dig x).length<(dig y).length
 ·have hc:=jA (Ve (zv hl));have hz:=jhr hl;clear hl;go_wp2_with (go_at_call 101;refine(QI.u _ _ _).mono ?_;rintro e w1 ⟨rfl,rfl⟩);go_ret;exact⟨by rw [hc.u];rfl,jN _ _⟩
 by_cases hg:(dig y).length<(dig x).length
 ·have hc:=jA (Vf (zv hg));have hz:=jhs hg;clear hg hl;go_wp2_with (go_at_call 101;refine(QI.u _ _ _).mono ?_;rintro e w1 ⟨rfl,rfl⟩);go_ret;exact⟨by rw [hc.u];rfl,jN _ _⟩
 have hll:(dig x).length=(dig y).length:=by omega
 have hz:=jht hll;have HLL:=jA hll;clear hll hl hg;go_upto_region 5 with(go_at_call 101;refine(QI.u _ _ _).mono ?_;rintro e w1 ⟨rfl,rfl⟩);clear hz QI;go_loopw [6] (fun i wr=> ∃(k:Nat) (z:Int),k≤(dig x).length∧z=(k:Int)-1∧i=.int .i64 z∧(dig x).drop k=(dig y).drop k∧Below w1.heap.size w1 wr) (fun i _=>(intOf i+1).toNat);case atStart=>exact⟨(dig x).length,(dig x).length-1,jO _,rfl,by go_num,by rw [qI (jO _),qI (by have:=HLL.u;omega)],jN _ _⟩
 case round=>
 obtain⟨k,z,hk,hz,rfl,hdr,bel⟩:=hrel;by_cases h0:k=0
 ·subst h0;obtain rfl:z= -1:=by omega
  have hxy:=Zw (by simpa using hdr);have hc:=jA (show Jd x y=0 by rw [hxy];exact YX y);clear hz hdr hxy;go_wp2_with fail;go_ret;exact⟨by rw [hc.u];rfl,bel⟩
 obtain⟨j,rfl⟩: ∃j,k=j+1:=⟨k-1,by omega⟩;obtain rfl:z=(j:Int):=by omega
 have hll:=HLL.u;have hjx:j<(dig x).length:=by omega
 have hjy:j<(dig y).length:=by omega
 obtain⟨a0,hoa,hac⟩:=(HA.u.below bel).get j hjx;obtain⟨b0,hob,hbc⟩:=(HBB.u.below bel).get j hjy;have hlt:=jA (fun h=>Ve (Kw hjx hjy hdr h));have hgt:=jA (fun h=>Vf (Kw hjy hjx hdr.symm h));have heq:=jA (fun h=>Zx hjx hjy hdr h);have hj0:(0:Int)≤j:=by omega
 have hjlx:(j:Int)<((dig x).length:Int):=by omega
 have hjly:(j:Int)<((dig y).length:Int):=by omega
 subst hoa;subst hob;clear hz hdr h0 hll hk;generalize (dig x).getD j 0=a at*;generalize (dig y).getD j 0=b at*;obtain⟨cz,hcz⟩: ∃cz,cz=Xv (a:Int) (b:Int):=⟨_,rfl⟩;have hca:(cz≠0→Jd x y=cz)∧(cz=0→a=b):=by
  rcases Nat.lt_trichotomy a b with h|h|h;·rw [hcz,jhr h];exact⟨fun _=>hlt.u h,fun h=>by omega⟩
  ·rw [hcz,jht h];exact⟨fun h=>absurd rfl h,fun _=>h⟩
  ·rw [hcz,jhs h];exact⟨fun _=>hgt.u h,fun h=>by omega⟩
 have HCA:=jA hca;have QL2:=jA (fun w=>jay (a:Int) (b:Int) w);rw [←hcz]at QL2;clear hcz hca hlt hgt QL;go_upto_region 7 with(fail);refine Seg.xL (fun w'=> ∃n,w'=wr.drewN n) [] [0,1,2,3,4,5,6,7] 8 (by kernel_rfl) (by kernel_rfl) (fun _ _ d _ _ h=>by cases d<;>exact h) (⟨1,rfl⟩) ?_;simp only [jK,Seg.opAt,Seg.xW];repeat (any_goals (first|go_big_quiet_step (fail)|quiet_step (fail)))
 refine jP ?_;by_cases hc0:cz=0
 ·subst hc0;have he:=jA (heq.u (HCA.u.2 rfl));go_wp2_with (go_at_call 139;refine(QL2.u _).mono ?_;rintro e w3 ⟨rfl,rfl⟩);go_roundw;case rel=>exact⟨j,(j:Int)-1,by omega,rfl,by go_num,he.u,bel.drew⟩
  case measure=>simp [intOf]
 ·have hc:=jA (HCA.u.1 hc0);have hcb:(cz !=0)=true:=by simpa using hc0
  go_wp2_with (go_at_call 139;refine(QL2.u _).mono ?_;rintro e w3 ⟨rfl,rfl⟩);go_ret;exact⟨by rw [hc.u];rfl,bel.drew⟩
theorem jjg {x y u:Nat}{O:List Nat}(S:JT x y O u)(h1:(dig x).length≤O.length)(h2:(dig y).length≤O.length):yf (O++ [u])∧yw (O++ [u])=dig (x+y):=by
 have hu:=S.up;have e:=S.eq;rw [jc h1,jc h2,yD,yD]at e;refine⟨VP S.all (by omega),?_⟩;unfold yw;rw [VC,e]
theorem jiS(x y:Nat)(oa ob:Option Addr)(ca cb:Nat)(w:World)(ha:LimbsAt w oa (dig x))(hb:LimbsAt w ob (dig y))(hx:(dig x).length<1099511627776)(hy:(dig y).length<1099511627776):
 Calls prog 91 #[.slice oa (dig x).length ca,.slice ob (dig y).length cb] w fun e w'=> ∃oc cc,e=.returned (.slice oc (dig (x+y)).length cc)∧LimbsAt w' oc (dig (x+y))∧Below w.heap.size w w':=by
 obtain⟨i0,hi,hz0,hz1,hz2⟩:=info_parts Kb;have HI:=jA hi;have HZ0:=jA hz0;have HZ1:=jA hz1;have HZ2:=jA hz2;have HA:=jA ha;have HBB:=jA hb;clear hi hz0 hz1 hz2 ha hb;go_enter Tryz.func91,Tryz.ntmps91
 go_upto_if 13 with(fail)
 go_cut [0,1] (fun v0 v1 w'=> ∃(X Y:Nat) (oA oB:Option Addr) (cA cB:Nat),v0=.slice oA (dig X).length cA∧v1=.slice oB (dig Y).length cB∧X+Y=x+y∧(dig Y).length≤(dig X).length∧(dig X).length<1099511627776∧LimbsAt w oA (dig X)∧LimbsAt w oB (dig Y)∧w'=w);case first=>
  by_cases hl:(dig x).length<(dig y).length
  ·have hd:decide (((dig x).length:Int)<((dig y).length:Int))=true:=by simp;omega
   go_wp2_with fail;go_meet;exact⟨y,x,ob,oa,cb,ca,rfl,rfl,Nat.add_comm _ _,by omega,hy,HBB.u,HA.u,rfl⟩
  ·have hd:decide (((dig x).length:Int)<((dig y).length:Int))=false:=by simp;omega
   go_wp2_with fail;go_meet;exact⟨x,y,oa,ob,ca,cb,rfl,rfl,rfl,by omega,hx,HA.u,HBB.u,rfl⟩
 case rest=>
 clear HA HBB;obtain⟨X,Y,oA,oB,cA,cB,rfl,rfl,hXY,hYX,hXl,hA,hBb,hw0⟩:=hcut;replace hw0:=hw0.symm;subst hw0;have HA:=jA hA;have HBB:=jA hBb;have HXY:=jA hXY;clear hA hBb hXY hx hy;have hC:((dig X).length:Int)+1=(((dig X).length+1:Nat):Int):=by omega
 have HC:=jA hC;clear hC;go_upto_region 4 with(refine wpList_make_own _ rfl _ _ 88 rfl w.heap.size 180 i0 (.int .u32 0) 1 underlying88 HI.u HZ0.u HZ1.u .i64 .i64 (((dig X).length:Int)+1) ((dig X).length+1) rfl rfl HC.u (by rw [HZ2.u];omega) (by unfold maxLen;omega) (jO _) ?_);intro w1 own1 hg1;have bel1:Below w.heap.size w w1:=(jN _ _).grown hg1 (jO _) (by simp);have S0:=JT.init X Y;clear hg1;go_upto_region 6 with(fail);go_loopw [5,6,22] (fun v z i wr=> ∃(O:List Nat) (u:Nat),z=.int .u32 u∧i=.int .i64 O.length∧O.length≤(dig X).length∧JT X Y O u∧Below w.heap.size w wr∧wr.ownsRow w.heap.size 180 1 v O.length (yC O)) (fun _ _ i _=>(dig X).length-(intOf i).toNat);case atStart=>exact⟨[],0,rfl,rfl,by simp,S0,bel1,own1⟩
 case round=>
 obtain⟨O,u,rfl,rfl,hOl,S,bel,own⟩:=hrel;clear S0 bel1 own1;have hup:=S.up;by_cases hm:O.length<(dig X).length
 ·have SN:=jA (S.next (.inl hm));have SN2:Hid (JT X Y (O++ [(lAt (dig X) O.length+lAt (dig Y) O.length+u)%1000000000]) ((lAt (dig X) O.length+lAt (dig Y) O.length+u)/1000000000)):=SN;have h1:lAt (dig X) O.length<1000000000:=xz (xu X) O.length;have h2:lAt (dig Y) O.length<1000000000:=xz (xu Y) O.length;obtain⟨a0,hoa,hac⟩:=(HA.u.below bel).get O.length hm;have hac2:wr.cell? (a0.add O.length)=some (.int .u32 ((lAt (dig X) O.length:Nat):Int)):=hac;have hil:(O.length:Int)<((dig X).length:Int):=by omega
  have hi0:(0:Int)≤O.length:=by omega
  have hbY:=jA (fun(h:O.length<(dig Y).length)=>(HBB.u.below bel).get O.length h);have hY0:=jA (fun(h: ¬O.length<(dig Y).length)=>(show lAt (dig Y) O.length=0 by unfold lAt;rw [jW,kP (by omega)];rfl));have bsz:=bel.size;clear S SN hac;subst hoa;obtain⟨b,hbe⟩: ∃b,b=lAt (dig Y) O.length:=⟨_,rfl⟩;rw [←hbe]at SN2 h2;generalize lAt (dig X) O.length=a at*
  go_upto_if 33 with(fail)
  go_cut [8] (fun v w'=>v=.int .u32 ((a:Int)+(u:Int)+(b:Int))∧w'=wr);case first=>
   by_cases hY:O.length<(dig Y).length
   ·have hd:decide ((O.length:Int)<((dig Y).length:Int))=true:=by simp;omega
    obtain⟨b0,hob,hbc⟩:=hbY.u hY;have hbc2:wr.cell? (b0.add O.length)=some (.int .u32 (b:Int)):=by rw [hbe];exact hbc
    have hjl:(O.length:Int)<((dig Y).length:Int):=by omega
    subst hob;clear hbc hbe;go_wp2_with fail;go_meet;exact⟨by go_num,rfl⟩
   ·have hd:decide ((O.length:Int)<((dig Y).length:Int))=false:=by simp;omega
    have hb0:b=0:=by rw [hbe];exact hY0.u hY
    subst hb0;clear hbe;go_wp2_with fail;go_meet;exact⟨by go_num,rfl⟩
  case rest=>
  obtain⟨rfl,hw0⟩:=hcut;replace hw0:=hw0.symm;subst hw0;rw [show a+b+u=a+u+b by omega]at SN2;clear hbY hY0 hbe hac2;go_upto_region 13 with(at_builtin;refine kQ _ rfl (.tmp 42) (.tmp 45) 88 rfl w.heap.size 180 i0 (.int .u32 0) 1 4 underlying88 HI.u HZ0.u HZ1.u HZ2.u rfl (by decide) u5 O.length (yC O) rfl (own.alloc _) ⟨wr.heap.size,0,none⟩ 1 1 (yC [(a+u+b)%1000000000]) rfl rfl ?c1 ?c2 ?c3 ?c4 ?c5 ?_);case c1=>exact Jq wr [(a+u+b)%1000000000] _ _ rfl
  case c2=>exact Jr _
  case c3=>unfold maxLen;omega
  case c4=>omega
  case c5=>first|omega|(simp;omega)
  intro v5 w5 own5 hg5 _;have bel5:Below w.heap.size w w5:=(bel.alloc bsz _).grown hg5 (by simp;omega) (fun q hq=>(own.lt q hq).1);rw [JM]at own5;have OWN5:w5.ownsRow w.heap.size 180 1 v5 (O++ [(a+u+b)%1000000000]).length (yC (O++ [(a+u+b)%1000000000])):=by rw [ja];exact own5
  clear own5 own hg5 bel;go_wp2_with fail;go_roundw;case rel=>exact⟨O++ [(a+u+b)%1000000000],(a+u+b)/1000000000,by go_num,by rw [ja,kL];go_num,by rw [ja,kL];omega,SN2.u,bel5,OWN5⟩
  case measure=>simp [intOf];omega
 ·have hd:decide ((O.length:Int)<((dig X).length:Int))=false:=by simp;omega
  have hOX:O.length=(dig X).length:=by omega
  obtain⟨hAl,htr⟩:=jjg S (by omega) (by omega);rw [HXY.u]at htr;have HAl:=jA hAl;have HTR:=jA htr;have bsz:=bel.size;clear S hAl htr hOX;go_upto_region 15 with(first
   |(at_builtin;refine kQ _ rfl (.tmp 48) (.tmp 50) 88 rfl w.heap.size 180 i0 (.int .u32 0) 1 4 underlying88 HI.u HZ0.u HZ1.u HZ2.u rfl (by decide) u5 O.length (yC O) rfl (own.alloc _) ⟨wr.heap.size,0,none⟩ 1 1 (yC [u]) rfl rfl ?c1 ?c2 ?c3 ?c4 ?c5 ?_))
  case c1=>exact Jq wr [u] _ _ rfl
  case c2=>exact Jr _
  case c3=>unfold maxLen;omega
  case c4=>omega
  case c5=>first|omega|(simp;omega)
  intro v5 w5 own5 hg5 _;have bel5:Below w.heap.size w w5:=(bel.alloc bsz _).grown hg5 (by simp;omega) (fun q hq=>(own.lt q hq).1);rw [JM]at own5;have hol:(O++ [u]).length=O.length+1:=by simp
  obtain⟨oc,cc,rfl,hcc,_,hI⟩:=Vb (L:=O++ [u]) own5;have QT:=jA (Jc oc (O++ [u]) cc w5 hI (by omega) hcc HAl.u);rw [HTR.u,hol]at QT;have HOL:=jA hol;clear own5 own hg5 bel hI hol;go_wp2_with (go_at_call 138;refine QT.u.mono ?_;rintro e w6 ⟨rfl,hI6,rfl⟩);go_ret;exact⟨oc,cc,rfl,hI6,bel5⟩
theorem Yo(n:Nat):madeCells #[Value.int .u32 0] n=(yC (List.replicate n 0)).toArray:=by
 unfold madeCells yC;apply Array.ext;·simp
 ·intro i h1 h2;simp [Nat.mod_one]
theorem Xm {w:World}{b:Nat}{L:List Nat}{T:TypeId}(h:w.heap[b]?=some (.cells (yC L).toArray T (0,0)))(i:Nat)(hi:i<L.length):w.cell? ⟨b,i,none⟩=some (.int .u32 ((lAt L i:Nat):Int)):=by
 rw [jM w b i _ _ _ h];simp [yC,lAt,jW,hi]
theorem YR {w:World}{b:Nat}{L:List Nat}{T:TypeId}(h:w.heap[b]?=some (.cells (yC L).toArray T (0,0)))(i d:Nat):(w.setCell ⟨b,i,none⟩ (.int .u32 (d:Int))).heap[b]?=some (.cells (yC (L.set i d)).toArray T (0,0)):=by
 rw [jd w b i _ _ _ h];congr 2;simp [yC,List.map_set]
theorem JU(x y:Nat)(oa ob:Option Addr)(ca cb:Nat)(w:World)(ha:LimbsAt w oa (dig x))(hb:LimbsAt w ob (dig y))(hx:(dig x).length<1099511627776)(hy:(dig y).length<1099511627776):
 Calls prog 90 #[.slice oa (dig x).length ca,.slice ob (dig y).length cb] w fun e w'=> ∃oc cc,e=.returned (.slice oc (dig (x*y)).length cc)∧LimbsAt w' oc (dig (x*y))∧Below w.heap.size w w':=by
 obtain⟨i0,hi,hz0,hz1,hz2⟩:=info_parts Kb;have HI:=jA hi;have HZ0:=jA hz0;have HZ1:=jA hz1;have HZ2:=jA hz2;have HA:=jA ha;have HBB:=jA hb;clear hi hz0 hz1 hz2 ha hb;obtain⟨n,hn⟩: ∃n,n=(dig x).length+(dig y).length:=⟨_,rfl⟩;have hni:((dig x).length:Int)+((dig y).length:Int)=(n:Int):=by omega
 have hnb:n<2199023255552:=by omega
 have HNN:=jA hn;clear hn;go_enter Tryz.func90,Tryz.ntmps90;go_upto_region 2 with(refine wpList_make_row _ rfl _ _ 88 rfl 180 i0 (.int .u32 0) underlying88 HI.u HZ0.u HZ1.u rfl .i64 .i64 n rfl rfl (by rw [HZ2.u];omega) (by omega) ?_);rw [Yo];generalize hB:w.heap.size=d at*;refine xP (fun w1=>Below d w w1∧w1.heap[d]?=some (.cells (yC (List.replicate n 0)).toArray 180 (0,0))) ⟨by rw [←hB];exact(jN _ _).alloc (jO _) _,by rw [←hB];exact xN rfl⟩ (fun w1 hw1=>?_);obtain⟨bel1,h1⟩:=hw1;have S0:=KO.init x y;rw [←HNN.u]at S0;have HB:=jA hB;clear hB;go_upto_region 3 with(fail);go_loopw [19] (fun i wr=> ∃(k:Nat) (W:List Nat),k≤(dig x).length∧i=.int .i64 k∧KO x y k W∧Below d w wr∧wr.heap[d]?=some (.cells (yC W).toArray 180 (0,0))) (fun i _=>(dig x).length-(intOf i).toNat);case atStart=>exact⟨0,_,by omega,rfl,S0,bel1,h1⟩
 case round=>
 obtain⟨i,W,hk,rfl,S,bel,hW⟩:=hrel;clear bel1 h1 S0;by_cases hlt:i<(dig x).length
 ·have hd1:decide ((i:Int)<((dig x).length:Int))=true:=by simp;omega
  have hi00:(0:Int)≤i:=by omega
  have hilx:(i:Int)<((dig x).length:Int):=by omega
  obtain⟨a0,hoa,hac⟩:=HA.u.get i hlt;have hablk:a0.block<d:=by
   obtain⟨a1,h2,h3,_⟩:=HA.u.cells i hlt;rw [hoa]at h2;cases h2;rw [HB.u]at h3;exact h3
  have hac2:w.cell? (a0.add i)=some (.int .u32 ((lAt (dig x) i:Nat):Int)):=hac;have hac3:wr.cell? (a0.add i)=some (.int .u32 ((lAt (dig x) i:Nat):Int)):=by rw [bel.cell (p:=a0.add i) (by rw [yM];exact hablk)];exact hac2
  have h1:lAt (dig x) i<1000000000:=xz (xu x) i;subst hoa;clear hac;obtain⟨a,hae⟩: ∃a,a=lAt (dig x) i:=⟨_,rfl⟩;rw [←hae]at hac3 h1;have HAE:=jA hae;clear hae hac2;go_upto_region 7 with(fail);clear hac3;go_loopw [8,26] (fun u j wi=> ∃(k uN:Nat) (W:List Nat),k≤(dig y).length∧j=.int .i64 k∧u=.int .u64 uN∧Qa x y i k W uN∧Below d w wi∧wi.heap[d]?=some (.cells (yC W).toArray 180 (0,0))) (fun _ j _=>(dig y).length-(intOf j).toNat);case atStart=>exact⟨0,0,W,by omega,rfl,rfl,S.row,bel,hW⟩
  case round=>
  obtain⟨j,u,W2,hj,rfl,rfl,R,bel2,hW2⟩:=hrel;clear S bel hW;by_cases hjt:j<(dig y).length
  ·have hd2:decide ((j:Int)<((dig y).length:Int))=true:=by simp;omega
   obtain⟨b0,hob,hbc⟩:=HBB.u.get j hjt;have hbblk:b0.block<d:=by
    obtain⟨b1,h2,h3,_⟩:=HBB.u.cells j hjt;rw [hob]at h2;cases h2;rw [HB.u]at h3;exact h3
   have hbc3:wr.cell? (b0.add j)=some (.int .u32 ((lAt (dig y) j:Nat):Int)):=by rw [bel2.cell (p:=b0.add j) (by rw [yM];exact hbblk)];exact hbc
   have hnn:=HNN.u;have hijn:i+j<n:=by omega
   have hc3:=Xm hW2 (i+j) (by rw [R.len];omega);have hf3:=jb wr d (i+j) _ _ hW2;have RN:=jA (R.next hlt hjt);have hup:=R.up;have h2:lAt (dig y) j<1000000000:=xz (xu y) j;have h3:lAt W2 (i+j)<1000000000:=xz R.all (i+j);have RN2:Hid (Qa x y i (j+1) (W2.set (i+j) ((lAt W2 (i+j)+a*lAt (dig y) j+u)%1000000000)) ((lAt W2 (i+j)+a*lAt (dig y) j+u)/1000000000)):=by rw [HAE.u];exact RN
   have HW2:=jA hW2;have HBEL:=jA bel2;subst hob;clear RN R hbc hW2 bel2 hnn;generalize lAt (dig y) j=b at*;generalize lAt W2 (i+j)=c at*;have hab:a*b≤999999999*999999999:=qH (by omega) (by omega);rw [show 999999999*999999999=999999998000000001 by decide]at hab;obtain⟨m,hm⟩: ∃m,m=a*b:=⟨_,rfl⟩;have hmi:(a:Int)* (b:Int)=(m:Int):=by rw [hm];exact(vH a b).symm
   rw [←hm]at RN2 hab;have hm81:m≤999999998000000001:=hab;have hi0:(0:Int)≤(i:Int)+(j:Int):=by omega
   have hil:(i:Int)+(j:Int)<(n:Int):=by omega
   have hilx:(i:Int)<((dig x).length:Int):=by omega
   have hjly:(j:Int)<((dig y).length:Int):=by omega
   clear hm hab;go_upto_region 11 with(fail);refine xP (fun w4=>Below d w w4∧w4.heap[d]?=some (.cells (yC (W2.set (i+j) ((c+m+u)%1000000000))).toArray 180 (0,0))) ?_ (fun w4 hw4=>?_)
   ·have e:=YR HW2.u (i+j) ((c+m+u)%1000000000);have hv:(((c+m+u)%1000000000:Nat):Int)=((u:Int)+((m:Int)+(c:Int)))%1000000000:=by omega
    rw [hv]at e;exact⟨(xQ HBEL.u ((xp.refl d wr).setCell _ _) (jO _)),e⟩
   obtain⟨bel4,hW4⟩:=hw4;clear hbc3 hc3 hf3 HW2 HBEL;go_wp2_with fail;go_roundw;case rel=>exact⟨j+1,(c+m+u)/1000000000,_,by omega,by go_num,by go_num,RN2.u,bel4,hW4⟩
   case measure=>simp [intOf];omega
  ·have hd2:decide ((j:Int)<((dig y).length:Int))=false:=by simp;omega
   obtain rfl:j=(dig y).length:=by omega
   have hnn:=HNN.u;have hil:(i:Int)+((dig y).length:Int)<(n:Int):=by omega
   have hi0:(0:Int)≤(i:Int)+((dig y).length:Int):=by omega
   have hc3:=Xm hW2 (i+(dig y).length) (by rw [R.len];omega);have hf3:=jb wr d (i+(dig y).length) _ _ hW2;have RD:=jA (R.done hlt);have hup:=R.up;have HW2:=jA hW2;clear R hW2 hnn;go_upto_region 14 with(fail);refine xP (fun w4=>Below d w w4∧w4.heap[d]?=some (.cells (yC (W2.set (i+(dig y).length) u)).toArray 180 (0,0))) ⟨xQ bel2 ((xp.refl d wr).setCell _ _) (jO _),YR HW2.u (i+(dig y).length) u⟩ (fun w4 hw4=>?_);obtain⟨bel4,hW4⟩:=hw4;clear hc3 hf3 HW2 bel2;go_wp2_with fail;go_roundw;case rel=>exact⟨i+1,_,by omega,by go_num,RD.u,bel4,hW4⟩
   case measure=>simp [intOf];omega
 ·have hd1:decide ((i:Int)<((dig x).length:Int))=false:=by simp;omega
  obtain rfl:i=(dig x).length:=by omega
  have hO:=jA S.done;have hl:W.length=n:=by rw [S.len,HNN.u]
  have QT:=jA (Jc (some ⟨d,0,none⟩) W n wr (Vq hW rfl) (by omega) (by omega) S.all);rw [hO.u,hl]at QT;clear S hO hW;go_wp2_with (go_at_call 138;refine QT.u.mono ?_;rintro e w3 ⟨rfl,hI3,rfl⟩);go_ret;exact⟨_,_,rfl,hI3,by rw [HB.u];exact bel⟩
def Jh(cs:Array Value)(o:Nat)(W:List Nat):Prop:= ∀i,i<W.length→cs[o+i]?=some (.int .u32 ((lAt W i:Nat):Int))
theorem Jh.set {cs:Array Value}{o:Nat}{W:List Nat}(h:Jh cs o W)(k s:Nat)(hk:k<W.length):Jh (cs.setIfInBounds (o+k) (.int .u32 (s:Int))) o (W.set k s):=by
 intro i hi;rw [kD]at hi;have hx:=h i hi;have hy:=h k hk;have hl:o+k<cs.size:=by
  rcases jt (o+k) cs.size with h1|h1;·exact h1
  ·rw [vw h1]at hy;cases hy
 by_cases he:k=i
 ·subst he;rw [vx hl];simp [lAt,jW,hk]
 ·rw [vA (by omega),hx];simp [lAt,jW,vS he]
structure zu(w w':World)(d o:Nat)(T:TypeId)(cs cs':Array Value)(n:Nat):Prop where
 only:xp d w w'
 heap:w'.heap[d]?=some (.cells cs' T (0,0))
 size:cs'.size=cs.size
 u: ∀j,j<o∨o+n≤j→cs'[j]?=cs[j]?
theorem zu.refl {w:World}{d o n:Nat}{T:TypeId}{cs:Array Value}(h:w.heap[d]?=some (.cells cs T (0,0))):zu w w d o T cs cs n:=⟨xp.refl _ _,h,rfl,fun _ _=>rfl⟩
theorem zu.set {w w':World}{d o n:Nat}{T:TypeId}{cs cs':Array Value}(S:zu w w' d o T cs cs' n)(k:Nat)(v:Value)(hk:k<n):zu w (w'.setCell ⟨d,o+k,none⟩ v) d o T cs (cs'.setIfInBounds (o+k) v) n:=
 ⟨S.only.setCell _ _,jd _ _ _ _ _ _ S.heap,by rw [Array.size_setIfInBounds];exact S.size,fun j hj=>by rw [vA (by omega)];exact S.u j hj⟩
theorem LimbsAt.only {w w1:World}{oa:Option Addr}{L:List Nat}{d:Nat}(h:LimbsAt w oa L)(hb:xp d w w1)(hne: ∀a,oa=some a→a.block≠d):LimbsAt w1 oa L:=⟨fun i hi=>by
 obtain⟨a,h1,h2,h3⟩:=h.cells i hi;refine⟨a,h1,by rw [hb.size];exact h2,?_⟩;rw [←h3];unfold World.cell?;have:=hb.block (a.add i).block (by rw [yM];exact hne a h1);rw [this]⟩
theorem jbt(L M:List Nat)(d o cap:Nat)(T:TypeId)(cs:Array Value)(ob:Option Addr)(cb:Nat)(w:World)(hL:yf L)(hM:yf M)(hd:w.heap[d]?=some (.cells cs T (0,0)))(hr:Jh cs o L)(hb:LimbsAt w ob M)(hne:M≠ []→ ∀a,ob=some a→a.block≠d)(hlL:L.length<4398046511104)(hlM:M.length<4398046511104):
 Calls prog 178 #[.slice (some ⟨d,o,none⟩) L.length cap,.slice ob M.length cb] w fun e w'=> ∃W dn,e=.returned (.bool (decide (0<dn)))∧Vj L M W dn∧ ∃cs',Jh cs' o W∧zu w w' d o T cs cs' L.length:=by
 have HR:=jA hr;have HD:=jA hd;have HB:=jA hb;have HNE:=jA hne;have HL:=jA hL;have HM:=jA hM;clear hr hd hb hne hL hM;go_enter Tryz.func178,Tryz.ntmps178;go_upto_region 3 with(fail);go_loopw [5,10] (fun v i wr=> ∃(W:List Nat) (dn k:Nat) (cs':Array Value),k≤L.length∧v=.int .u32 dn∧i=.int .i64 k∧KP L M k W dn∧Jh cs' o W∧zu w wr d o T cs cs' L.length) (fun _ i _=>L.length-(intOf i).toNat);case atStart=>exact⟨L,0,0,cs,by omega,rfl,rfl,KP.init M HL.u,HR.u,zu.refl HD.u⟩
 case round=>
 obtain⟨W,dn,k,cs',hk,rfl,rfl,S,R,U⟩:=hrel;have hdn:=S.down;by_cases hm:k<L.length
 ·have d1:decide ((k:Int)<(L.length:Int))=true:=by simp;omega
  have SN:=jA (fun s d' hs hd he=>S.next hm s d' hs hd he);have hkW:k<W.length:=by rw [S.len];exact hm
  have hcell:wr.cell? ⟨d,o+k,none⟩=some (.int .u32 ((lAt W k:Nat):Int)):=by
   rw [jM wr d (o+k) _ _ _ U.heap];exact R k hkW
  have hfr:=jb wr d (o+k) _ _ U.heap;have h1:lAt W k<1000000000:=xz S.all k;have h2:lAt M k<1000000000:=xz HM.u k;have SN2:Hid (∀s d',s<1000000000→d'≤1→lAt W k+1000000000*d'=s+lAt M k+dn→KP L M (k+1) (W.set k s) d'):=SN;have RN:=jA (fun s=>R.set k s hkW);have UN:=jA (fun v=>U.set k v hm);have ho0:(0:Int)≤k:=by omega
  have hkL:(k:Int)<(L.length:Int):=by omega
  have hbM:=jA (fun(h:k<M.length)=>(HB.u.only U.only (HNE.u (by intro h0;rw [h0]at h;simp at h))).get k h);have hM0:=jA (fun(h: ¬k<M.length)=>(show lAt M k=0 by unfold lAt;rw [jW,kP (by omega)];rfl));have hstop:=jA (fun(h: ¬k<M.length) (h0:dn=0)=>(show Vj L M W 0 from KP.stop (h0▸S) (by omega) (by omega)));have HU:=jA U;have HRR:=jA R;clear S SN R U hkW;obtain⟨b,hbe⟩: ∃b,b=lAt M k:=⟨_,rfl⟩;rw [←hbe]at SN2 h2;generalize lAt W k=a at*;by_cases hq: ¬k<M.length∧dn=0
  ·obtain⟨hq1,rfl⟩:=hq;have d2:decide ((k:Int)<(M.length:Int))=false:=by simp;omega
   have hE:=jA (hstop.u hq1 rfl);have d3: ¬((k:Int)<(M.length:Int)):=by omega
   clear hcell hfr hstop hbM hM0 SN2 RN UN;go_wp2_with fail;go_ret;exact⟨W,0,rfl,hE.u,cs',HRR.u,HU.u⟩
  ·go_upto_if 17 with(fail)
   go_cut [7] (fun v w'=>v=.int .u32 ((dn:Int)+(b:Int))∧w'=wr);case first=>
    by_cases hM:k<M.length
    ·have d2:decide ((k:Int)<(M.length:Int))=true:=by simp;omega
     obtain⟨b0,hob,hbc⟩:=hbM.u hM;have hbc2:wr.cell? (b0.add k)=some (.int .u32 (b:Int)):=by rw [hbe];exact hbc
     have hjl:(k:Int)<(M.length:Int):=by omega
     subst hob;clear hbc hbe hcell hfr;go_wp2_with fail;go_meet;exact⟨by go_num,rfl⟩
    ·have d2:decide ((k:Int)<(M.length:Int))=false:=by simp;omega
     have d3: ¬((k:Int)<(M.length:Int)):=by omega
     obtain rfl:dn=1:=by omega
     have hb0:b=0:=by rw [hbe];exact hM0.u hM
     subst hb0;clear hbe hcell hfr;go_wp2_with fail;go_meet;exact⟨by go_num,rfl⟩
   case rest=>
   obtain⟨rfl,hw0⟩:=hcut;replace hw0:=hw0.symm;subst hw0;clear hbM hM0 hbe hstop HRR HU;obtain⟨D,hD⟩: ∃D:Nat,D=dn+b:=⟨_,rfl⟩;have hDi:(dn:Int)+(b:Int)=(D:Int):=by omega
   have SN3:Hid (∀s d',s<1000000000→d'≤1→a+1000000000*d'=s+D→KP L M (k+1) (W.set k s) d'):=jA (fun s d' x1 x2 x3=>SN2.u s d' x1 x2 (show a+1000000000*d'=s+b+dn by omega));have hDb:D≤1000000000:=by omega
   rw [hDi];clear hDi SN2 hD hq h2;by_cases hge:D≤a
   ·have d4:(D:Int)≤(a:Int):=by omega
    have d5:decide ((D:Int)≤(a:Int))=true:=by simp;omega
    obtain⟨s,hs⟩: ∃s:Nat,(a:Int)-(D:Int)=(s:Int):=⟨a-D,by omega⟩;have S2:=jA (SN3.u s 0 (by omega) (by omega) (by omega));have R2:=jA (RN.u s);have U2:=jA (UN.u (.int .u32 s));have hs9:s<1000000000:=by omega
    clear SN3 RN UN;go_upto_region 12 with(fail);refine xP (fun w4=>zu w w4 d o T cs (cs'.setIfInBounds (o+k) (.int .u32 s)) L.length) U2.u (fun w4 U4=>?_);clear hcell hfr U2 hs d4 d5 hge;go_wp2_with fail;go_roundw;case rel=>exact⟨W.set k s,0,k+1,_,by omega,rfl,by go_num,S2.u,R2.u,U4⟩
    case measure=>simp [intOf];omega
   ·have d4: ¬(D:Int)≤(a:Int):=by omega
    have d5:decide ((D:Int)≤(a:Int))=false:=by simp;omega
    obtain⟨s,hs⟩: ∃s:Nat,(a:Int)+1000000000-(D:Int)=(s:Int):=⟨a+1000000000-D,by omega⟩;have S2:=jA (SN3.u s 1 (by omega) (by omega) (by omega));have R2:=jA (RN.u s);have U2:=jA (UN.u (.int .u32 s));have hs9:s<1000000000:=by omega
    clear SN3 RN UN;go_upto_region 12 with(fail);refine xP (fun w4=>zu w w4 d o T cs (cs'.setIfInBounds (o+k) (.int .u32 s)) L.length) U2.u (fun w4 U4=>?_);clear hcell hfr U2 hs d4 d5 hge;go_wp2_with fail;go_roundw;case rel=>exact⟨W.set k s,1,k+1,_,by omega,rfl,by go_num,S2.u,R2.u,U4⟩
    case measure=>simp [intOf];omega
 ·have d1:decide ((k:Int)<(L.length:Int))=false:=by simp;omega
  obtain rfl:k=L.length:=by omega
  have hE:=jA S.done;clear S;by_cases h0:dn=0
  ·subst h0;go_wp2_with fail;go_ret;exact⟨W,0,rfl,hE.u,cs',R,U⟩
  ·obtain rfl:dn=1:=by omega
   go_wp2_with fail;go_ret;exact⟨W,1,rfl,hE.u,cs',R,U⟩
theorem jgF(ob:Option Addr)(cap n cb:Nat)(w:World)(hn:n<4398046511104):
 Calls prog 178 #[.slice none 0 cap,.slice ob n cb] w fun e w'=>e=.returned (.bool false)∧w'=w:=by
 go_enter Tryz.func178,Tryz.ntmps178;go_upto_region 3 with(fail);go_loopw [5,10] (fun v i wr=>v=.int .u32 0∧i=.int .i64 0∧wr=w) (fun _ i _=>0);case atStart=>exact⟨rfl,rfl,rfl⟩
 case round=>
 obtain⟨rfl,rfl,hw⟩:=hrel;replace hw:=hw.symm;subst hw;go_wp2_with fail;go_ret;exact⟨rfl,rfl⟩
theorem jch {cs:Array Value}{L:List Nat}(h:cs.toList.take L.length=yC L):Jh cs 0 L:=by
 intro i hi;have hx:(cs.toList.take L.length)[i]?=(yC L)[i]?:=by rw [h]
 rw [List.getElem?_take_of_lt hi]at hx;rw [js,←Array.getElem?_toList,hx];simp [yC,lAt,jW,hi]
theorem jax(L:List Nat)(oa:Option Addr)(ca:Nat)(w:World)(h:LimbsAt w oa L)(hl:L.length<4398046511104):
 Calls prog 175 #[.slice oa L.length ca] w fun e w'=> ∃v,e=.returned v∧((oa=none∧L= []∧v=.slice none 0 0∧w'=w)∨(∃g cc cs,v=.slice (some ⟨g,0,none⟩) L.length cc∧w.heap.size≤g∧w'.heap[g]?=some (.cells cs 180 (0,0))∧Jh cs 0 L∧L.length≤cc∧Below w.heap.size w w')):=by
 obtain⟨i0,hi,hz0,hz1,hz2⟩:=info_parts Kb;have HI:=jA hi;have HZ0:=jA hz0;have HZ1:=jA hz1;have HZ2:=jA hz2;have HA:=jA h;clear hi hz0 hz1 hz2 h;have qT: ∀(w:World) (a:Option Addr) (n c:Nat),(binOp .eql 88 (.slice a n c) (.slice none 0 0)).run prog w=.ok (.bool a.isNone) w:=fun w a n c=>Lib.run_eql_slice_nil w _ _ a n c 0 0 underlying88;go_enter Tryz.func175,Tryz.ntmps175;cases oa with
 |
  none=>
  have hL:=jA (show L= []by
   cases hq:L with
   |nil=>rfl
   |
    cons x r=>
    obtain⟨a,h1,_⟩:=HA.u.cells 0 (by rw [hq];simp);cases h1)
  go_wp2_with fail;go_ret;exact⟨_,rfl,.inl ⟨hL.u,rfl,rfl⟩⟩
 |
  some ad=>
  have hnews: ∀j u,(yC L)[j]?=some u→(w.alloc (.cells #[] 180)).cell? (ad.add j)=some u:=by
   intro j u hju;have hj:j<L.length:=by
    rcases jt j L.length with h1|h1;·exact h1
    ·rw [kP (by rw [KG];exact h1)]at hju;cases hju
   obtain⟨a,h1,h2,h3⟩:=HA.u.cells j hj;cases h1;have hb:Below w.heap.size w (w.alloc (.cells #[] 180)):=(jN _ _).alloc (jO _) _;rw [hb.cell (by rw [yM];exact h2),h3];simp [yC,hj]at hju;exact congrArg some hju
  have own0:(w.alloc (.cells #[] 180)).ownsRow w.heap.size 180 1 (.slice (some ⟨w.heap.size,0,none⟩) 0 0) 0 (yC []):=⟨rfl,.inr ⟨w.heap.size,0, #[],rfl,jO _,xN rfl,jO _,by unfold maxLen;omega,rfl,rfl⟩⟩;have HN:=jA hnews;have HO:=jA own0;clear hnews own0;go_upto_region 3 with(fail);go_upto_region 99 with(at_builtin;refine kQ _ rfl (.tmp 5) (.tmp 6) 88 rfl w.heap.size 180 i0 (.int .u32 0) 1 4 underlying88 HI.u HZ0.u HZ1.u HZ2.u rfl (by decide) (.slice (some ⟨w.heap.size,0,none⟩) 0 0) 0 (yC []) rfl HO.u ad L.length ca (yC L) rfl ?c1 ?c2 ?c3 ?c4 ?c5 ?c6 ?_);case c1=>rw [KG];omega
  case c2=>exact HN.u
  case c3=>exact Jr _
  case c4=>unfold maxLen;omega
  case c5=>omega
  case c6=>simp
  intro v5 w5 own5 hg5 hne5;have bel5:Below w.heap.size w w5:=((jN _ _).alloc (jO _) (.cells #[] 180)).grown hg5 (by simp) (fun q hq=>by simp [Value.ownBlock]at hq;omega);have hv5:=jA own5;clear HO HN own5 hg5;go_wp2_with fail;go_ret;refine⟨_,rfl,.inr ?_⟩;rcases hv5.u.2 with⟨hv,_⟩|⟨g,cap,cur,hv,hb,hg,hnc,_,_,ht⟩;·exact absurd hv hne5
  ·rw [qG]at ht;exact⟨g,cap,cur,hv,hb,hg,jch ht,hnc,bel5⟩
theorem jgs {w:World}{L:List Nat}(h:LimbsAt w none L):L= []:=by
 cases hq:L with
 |nil=>rfl
 |
  cons x r=>
  obtain⟨a,h1,_⟩:=h.cells 0 (by rw [hq];simp);cases h1
theorem Xy {w:World}{d o:Nat}{cs:Array Value}{T:TypeId}{W:List Nat}(hd:w.heap[d]?=some (.cells cs T (0,0)))(h:Jh cs o W):LimbsAt w (some ⟨d,o,none⟩) W:=⟨fun i hi=>by
 refine⟨_,rfl,lt_of_heap hd,?_⟩;rw [qZ,jM w d (o+i) _ _ _ hd,h i hi];simp [lAt,jW,hi]⟩
theorem LimbsAt.ne {w:World}{ob:Option Addr}{M:List Nat}(h:LimbsAt w ob M)(hM:M≠ []): ∀a,ob=some a→a.block<w.heap.size:=by
 intro a ha;obtain⟨a',h1,h2,_⟩:=h.cells 0 (by cases M with|nil=>exact absurd rfl hM|cons x r=>simp);rw [ha]at h1;cases h1;exact h2
theorem jiQ(x y:Nat)(oa ob:Option Addr)(ca cb:Nat)(w:World)(hyx:y≤x)(ha:LimbsAt w oa (dig x))(hb:LimbsAt w ob (dig y))(hx:(dig x).length<1099511627776)(hy:(dig y).length<1099511627776):
 Calls prog 174 #[.slice oa (dig x).length ca,.slice ob (dig y).length cb] w fun e w'=> ∃oc cc,e=.returned (.slice oc (dig (x-y)).length cc)∧LimbsAt w' oc (dig (x-y))∧Below w.heap.size w w':=by
 have QC:=jA (jax (dig x) oa ca w ha (by omega));have HBB:=jA hb;have HYX:=jA hyx;clear ha hb hyx;go_enter Tryz.func174,Tryz.ntmps174;go_upto_region 2 with(go_at_call 175;refine QC.u.mono ?_;rintro e w1 ⟨v,rfl,hv⟩);clear QC;rcases hv with⟨_,hL,rfl,rfl⟩|⟨g,cc,cs,rfl,hg,hh,hr,hcc,bel⟩
 ·have hx0:x=0:=by rw [←yD x,hL];rfl
  have hy0:y=0:=by have:=HYX.u;omega
  have QL:=jA (jgF ob 0 (dig y).length cb w1 (by omega));have QT:=jA (Jc none [] 0 w1 LimbsAt.nil (by simp) (by simp) (fun d hd=>by cases hd));have e1:=jA (show dig (x-y)=yw []by rw [hx0,hy0];unfold yw;rfl);clear HBB hx0 hy0 hL HYX;go_upto_region 3 with(go_at_call 178;refine QL.u.mono ?_;rintro e w2 ⟨rfl,rfl⟩);go_wp2_with (go_at_call 138;refine QT.u.mono ?_;rintro e w3 ⟨rfl,hI3,rfl⟩);go_ret;rw [e1.u];exact⟨_,_,rfl,hI3,jN _ _⟩
 ·have QL:=jA (jbt (dig x) (dig y) g 0 cc 180 cs ob cb w1 (xu x) (xu y) hh hr (HBB.u.below bel) (fun hM a h=>by have:=HBB.u.ne hM a h;omega) (by omega) (by omega));have BEL:=jA bel;have hcc2:=hcc;clear HBB bel hh hr;go_upto_region 3 with(go_at_call 178;refine QL.u.mono ?_;rintro e w2 ⟨W,dn,rfl,hE,cs2,hr2,hT⟩);have hlW:W.length=(dig x).length:=hE.len;have QT:=jA (Jc (some ⟨g,0,none⟩) W cc w2 (Xy hT.heap hr2) (by omega) (by omega) hE.all);rw [hE.sub HYX.u,hlW]at QT;have bel2:Below w.heap.size w w2:=xQ BEL.u hT.only hg;clear QL BEL hE hr2 hT hlW HYX;go_wp2_with (go_at_call 138;refine QT.u.mono ?_;rintro e w3 ⟨rfl,hI3,rfl⟩);go_ret;exact⟨_,_,rfl,hI3,bel2⟩
theorem jgE(L M:List Nat)(d o cap:Nat)(T:TypeId)(cs:Array Value)(ob:Option Addr)(cb:Nat)(w:World)(hL:yf L)(hM:yf M)(hd:w.heap[d]?=some (.cells cs T (0,0)))(hr:Jh cs o L)(hb:LimbsAt w ob M)(hne: ∀a,ob=some a→a.block≠d)(hlL:L.length<4398046511104)(hlM:M.length<4398046511104):
 Calls prog 179 #[.slice (some ⟨d,o,none⟩) L.length cap,.slice ob M.length cb] w fun e w'=>e=.returned (.tuple #[])∧ ∃W u cs',Vv L M L.length W u∧Jh cs' o W∧zu w w' d o T cs cs' L.length:=by
 have HR:=jA hr;have HD:=jA hd;have HB:=jA hb;have HNE:=jA hne;have HL:=jA hL;have HM:=jA hM;clear hr hd hb hne hL hM;go_enter Tryz.func179,Tryz.ntmps179;go_upto_region 2 with(fail);go_loopw [4,9] (fun v i wr=> ∃(W:List Nat) (u k:Nat) (cs':Array Value),k≤L.length∧v=.int .u32 u∧i=.int .i64 k∧Vv L M k W u∧Jh cs' o W∧zu w wr d o T cs cs' L.length) (fun _ i _=>L.length-(intOf i).toNat);case atStart=>exact⟨L,0,0,cs,by omega,rfl,rfl,Vv.init M HL.u,HR.u,zu.refl HD.u⟩
 case round=>
 obtain⟨W,u,k,cs',hk,rfl,rfl,S,R,U⟩:=hrel;have hup:=S.up;by_cases hm:k<L.length
 ·have d1:decide ((k:Int)<(L.length:Int))=true:=by simp;omega
  have hkW:k<W.length:=by rw [S.len];exact hm
  have SN:Hid (Vv L M (k+1) (W.set k ((lAt W k+u+lAt M k)%1000000000)) ((lAt W k+u+lAt M k)/1000000000)):=jA (S.next HM.u hm);have hcell:wr.cell? ⟨d,o+k,none⟩=some (.int .u32 ((lAt W k:Nat):Int)):=by
   rw [jM wr d (o+k) _ _ _ U.heap];exact R k hkW
  have hfr:=jb wr d (o+k) _ _ U.heap;have h1:lAt W k<1000000000:=xz S.all k;have h2:lAt M k<1000000000:=xz HM.u k;have RN:=jA (fun s=>R.set k s hkW);have UN:=jA (fun v=>U.set k v hm);have ho0:(0:Int)≤k:=by omega
  have hkL:(k:Int)<(L.length:Int):=by omega
  have hbM:=jA (fun(h:k<M.length)=>(HB.u.only U.only HNE.u).get k h);have hM0:=jA (fun(h: ¬k<M.length)=>(show lAt M k=0 by unfold lAt;rw [jW,kP (by omega)];rfl));clear S R U hkW;obtain⟨b,hbe⟩: ∃b,b=lAt M k:=⟨_,rfl⟩;rw [←hbe]at SN h2;generalize lAt W k=a at*
  go_upto_if 21 with(fail)
  go_cut [6] (fun v w'=>v=.int .u32 ((a:Int)+(u:Int)+(b:Int))∧w'=wr);case first=>
   by_cases hM:k<M.length
   ·have d2:decide ((k:Int)<(M.length:Int))=true:=by simp;omega
    obtain⟨b0,hob,hbc⟩:=hbM.u hM;have hbc2:wr.cell? (b0.add k)=some (.int .u32 (b:Int)):=by rw [hbe];exact hbc
    have hjl:(k:Int)<(M.length:Int):=by omega
    subst hob;clear hbc hbe hcell hfr;go_wp2_with fail;go_meet;exact⟨by go_num,rfl⟩
   ·have d2:decide ((k:Int)<(M.length:Int))=false:=by simp;omega
    have d3: ¬((k:Int)<(M.length:Int)):=by omega
    have hb0:b=0:=by rw [hbe];exact hM0.u hM
    subst hb0;clear hbe hcell hfr;go_wp2_with fail;go_meet;exact⟨by go_num,rfl⟩
  case rest=>
  obtain⟨rfl,hw0⟩:=hcut;replace hw0:=hw0.symm;subst hw0;clear hbM hM0 hbe;obtain⟨D,hD⟩: ∃D:Nat,a+u+b=D:=⟨_,rfl⟩;have hDi:(a:Int)+(u:Int)+(b:Int)=(D:Int):=by omega
  have hDb:D<4000000000:=by omega
  rw [hD]at SN;rw [hDi];clear hDi hD h1 h2;obtain⟨s,hs⟩: ∃s:Nat,D%1000000000=s:=⟨_,rfl⟩;have hsi:(D:Int)%1000000000=(s:Int):=by omega
  rw [hs]at SN;have R2:=jA (RN.u s);have U2:=jA (UN.u (.int .u32 s));clear RN UN;go_upto_region 8 with(fail);refine xP (fun w4=>zu w w4 d o T cs (cs'.setIfInBounds (o+k) (.int .u32 s)) L.length) U2.u (fun w4 U4=>?_);clear hcell hfr U2 hs hsi;go_wp2_with fail;go_roundw;case rel=>exact⟨W.set k s,D/1000000000,k+1,_,by omega,by go_num,by go_num,SN.u,R2.u,U4⟩
  case measure=>simp [intOf];omega
 ·have d1:decide ((k:Int)<(L.length:Int))=false:=by simp;omega
  obtain rfl:k=L.length:=by omega
  have hE:=jA S;clear S;go_wp2_with fail
  go_end0
  exact⟨rfl,W,u,cs',hE.u,R,U⟩
theorem ZY(n:Nat)(w:World)(hn:n<18446744073709551616):
 Calls prog 96 #[.int .u64 (n:Int)] w fun e w'=> ∃oa cap,e=.returned (.slice oa (dig n).length cap)∧LimbsAt w' oa (dig n)∧(∀a,oa=some a→w.heap.size≤a.block∧a.block<w'.heap.size)∧Below w.heap.size w w':=by
 obtain⟨i0,hi,hz0,hz1,hz2⟩:=info_parts Kb;have HI:=jA hi;have HZ0:=jA hz0;have HZ1:=jA hz1;have HZ2:=jA hz2;clear hi hz0 hz1 hz2;go_enter Tryz.func96,Tryz.ntmps96;go_wp2_with fail;generalize hB:w.heap.size=B at*;have HB:=jA hB;clear hB;go_loopw [0,3] (fun z v wr=> ∃(L:List Nat) (k:Nat),z=.int .u64 k∧k≤n∧L++dig k=dig n∧L.length+k≤n∧Below B w wr∧wr.ownsRow B 180 1 v L.length (yC L)) (fun z _ _=>(intOf z).toNat);case atStart=>exact⟨[],n,rfl,jO _,rfl,by simp,jN _ _,qA _ _ _ _⟩
 case round=>
 obtain⟨L,k,rfl,hk,hL,hl,bel,own⟩:=hrel;by_cases h0:0<k
 ·have hd:decide ((0:Int)<(k:Int))=true:=by simp;omega
  have hBw:B≤wr.heap.size:=by have:=bel.size;rw [HB.u]at this;exact this
  have hl19:L.length≤19:=by
   have h1:=xw n 19 (jV hn (by decide));rw [←hL,ja]at h1;omega
  have hst:=jA (show(L++ [k%1000000000])++dig (k/1000000000)=dig n by rw [kS,List.singleton_append,←zt h0];exact hL);go_upto_region 3 with(at_builtin;refine kQ _ rfl (.tmp 8) (.tmp 12) 88 rfl B 180 i0 (.int .u32 0) 1 4 underlying88 HI.u HZ0.u HZ1.u HZ2.u rfl (by decide) u3 L.length (yC L) rfl (own.alloc _) ⟨wr.heap.size,0,none⟩ 1 1 (yC [k%1000000000]) rfl rfl ?c1 ?c2 ?c3 ?c4 ?c5 ?_);case c1=>exact Jq wr [k%1000000000] _ _ rfl
  case c2=>exact Jr _
  case c3=>unfold maxLen;omega
  case c4=>omega
  case c5=>first|omega|(simp;omega)
  intro v5 w5 own5 hg5 _;have bel5:Below B w w5:=(bel.alloc hBw _).grown hg5 (by simp;omega) (fun q hq=>(own.lt q hq).1);rw [JM]at own5;have OWN5:w5.ownsRow B 180 1 v5 (L++ [k%1000000000]).length (yC (L++ [k%1000000000])):=by rw [ja];exact own5
  clear own5 own hg5 bel hL;go_wp2_with fail;go_roundw;case rel=>exact⟨L++ [k%1000000000],k/1000000000,by go_num,by omega,hst.u,by rw [ja,kL];omega,bel5,OWN5⟩
  case measure=>simp [intOf];omega
 ·have hd:decide ((0:Int)<(k:Int))=false:=by simp;omega
  obtain rfl:k=0:=by omega
  rw [yP,qD]at hL;obtain⟨oa,cap,rfl,_,hfa,hI⟩:=Vb own;have hlt: ∀a,oa=some a→a.block<wr.heap.size:=fun a ha=>(own.lt a.block (by rw [ha];rfl)).2;rw [hL]at hI;have HLn:=jA hL;clear hL own;go_wp2_with fail;go_ret;exact⟨oa,cap,by rw [HLn.u];rfl,hI,fun a ha=>⟨by rw [HB.u];exact hfa a ha,hlt a ha⟩,by rw [HB.u];exact bel⟩
theorem jgD(oa:Option Addr)(n ca:Nat)(w:World):
 Calls prog 93 #[.slice oa n ca] w fun e w'=>e=.returned (.bool ((n:Int)==0))∧w'=w:=by
 go_enter Tryz.func93,Tryz.ntmps93;go_wp2_with fail;go_ret;exact⟨rfl,rfl⟩
theorem jjL {w:World}{base:Nat}{e:TypeId}{v:Value}{L:List Nat}(h:w.ownsRow base e 1 v L.length (yC L))(k:Nat)(hk:k≤L.length): ∃oc cc,v=.slice oc L.length cc∧L.length≤cc∧w.ownsRow base e 1 (.slice oc k cc) k (yC (L.take k)):=by
 have hl:(yC (L.take k)).length=k*1:=by rw [KG,jX];omega
 rcases h.2 with⟨hv,h0⟩|⟨g,cap,cur,hv,hb,hg,hnc,hm,hc,ht⟩
 ·have hk0:k=0:=by omega
  subst hk0;exact⟨none,0,by rw [hv,h0],by omega,hl,.inl ⟨rfl,rfl⟩⟩
 ·refine⟨some ⟨g,0,none⟩,cap,hv,hnc,hl,.inr ⟨g,cap,cur,rfl,hb,hg,by omega,hm,hc,?_⟩⟩;have:(cur.toList.take (L.length*1)).take (k*1)=(yC L).take (k*1):=by rw [ht]
  rw [List.take_take,kM (by omega)]at this;rw [this];simp [yC]
theorem jhA(L:List Nat)(h:yf L): ∃k,k≤L.length∧(yw L).length=k∧L.take k=yw L:=by
 have H: ∀(n:Nat) (L:List Nat),L.length=n→yf L→ ∃k,k≤L.length∧L.take k=yw L:=by
  intro n
  induction n with
  |
   zero=>
   intro L hl _;have:L= []:=kY.1 hl;subst this;exact⟨0,by simp,by unfold yw;simp [val,yP]⟩
  |
   succ n ih=>
   intro L hl hA;by_cases h0:L.getD n 0=0
   ·obtain⟨k,hk,he⟩:=ih (L.take n) (by rw [jX];omega) (zZ hA n);rw [jX]at hk;refine⟨k,by omega,?_⟩;rw [List.take_take,kM (by omega)]at he;rw [he];unfold yw;congr 1;refine Ko L n (fun i hi=>?_);rcases jt n i with h1|h1;·rw [jW,kP (by omega)];rfl
    ·have:i=n:=by omega
     rw [this];exact h0
   ·exact⟨n+1,by omega,KT L (n+1) hA (by omega) (fun i hi=>by rw [jW,kP (by omega)];rfl) (.inr (by simpa using h0))⟩
 obtain⟨k,hk,he⟩:=H L.length L rfl h;exact⟨k,hk,by rw [←he,jX];omega,he⟩
theorem YI(x b:Nat)(oa:Option Addr)(ca:Nat)(w:World)(ha:LimbsAt w oa (dig x))(hx:(dig x).length<1099511627776)(hb:b<1000000000):
 Calls prog 177 #[.slice oa (dig x).length ca,.int .u32 b] w fun e w'=> ∃oc cc,e=.returned (.slice oc (dig (x*b)).length cc)∧w'.ownsRow w.heap.size 180 1 (.slice oc (dig (x*b)).length cc) (dig (x*b)).length (yC (dig (x*b)))∧Below w.heap.size w w':=by
 obtain⟨i0,hi,hz0,hz1,hz2⟩:=info_parts Kb;have HI:=jA hi;have HZ0:=jA hz0;have HZ1:=jA hz1;have HZ2:=jA hz2;have HA:=jA ha;clear hi hz0 hz1 hz2 ha;have hC:((dig x).length:Int)+1=(((dig x).length+1:Nat):Int):=by omega
 have HC:=jA hC;clear hC;go_enter Tryz.func177,Tryz.ntmps177;go_upto_region 2 with(refine wpList_make_own _ rfl _ _ 88 rfl w.heap.size 180 i0 (.int .u32 0) 1 underlying88 HI.u HZ0.u HZ1.u .i64 .i64 (((dig x).length:Int)+1) ((dig x).length+1) rfl rfl HC.u (by rw [HZ2.u];omega) (by unfold maxLen;omega) (jO _) ?_);intro w1 own1 hg1;have bel1:Below w.heap.size w w1:=(jN _ _).grown hg1 (jO _) (by simp);have S0:=Jo.init x b;clear hg1;go_upto_region 4 with(fail);go_loopw [5,6,15] (fun v z i wr=> ∃(O:List Nat) (u:Nat),z=.int .u64 u∧i=.int .i64 O.length∧O.length≤(dig x).length∧Jo x b O u∧Below w.heap.size w wr∧wr.ownsRow w.heap.size 180 1 v O.length (yC O)) (fun _ _ i _=>(dig x).length-(intOf i).toNat);case atStart=>exact⟨[],0,rfl,rfl,by simp,S0,bel1,own1⟩
 case round=>
 obtain⟨O,u,rfl,rfl,hOl,S,bel,own⟩:=hrel;clear S0 bel1 own1;have hup:=S.up;have bsz:=bel.size;by_cases hm:O.length<(dig x).length
 ·have hdm:decide ((O.length:Int)<((dig x).length:Int))=true:=by simp;omega
  have SN2:Hid (Jo x b (O++ [(u+lAt (dig x) O.length*b)%1000000000]) ((u+lAt (dig x) O.length*b)/1000000000)):=jA (S.next hb hm);have h1:lAt (dig x) O.length<1000000000:=xz (xu x) O.length;have h2:=S.bound hb (lAt (dig x) O.length) h1;obtain⟨a0,hoa,hac⟩:=(HA.u.below bel).get O.length hm;have hac2:wr.cell? (a0.add O.length)=some (.int .u32 ((lAt (dig x) O.length:Nat):Int)):=hac;have hil:(O.length:Int)<((dig x).length:Int):=by omega
  have hi0:(0:Int)≤O.length:=by omega
  clear S hac;subst hoa;generalize lAt (dig x) O.length=a at*;obtain⟨m,hmm⟩: ∃m,m=a*b:=⟨_,rfl⟩;have hmi:(a:Int)* (b:Int)=(m:Int):=by rw [hmm];exact(vH a b).symm
  rw [←hmm]at SN2 h2;have hab:a*b≤999999999*999999999:=qH (by omega) (by omega);rw [←hmm,show 999999999*999999999=999999998000000001 by decide]at hab;clear hmm;go_upto_region 7 with(fail);obtain⟨D,hD⟩: ∃D:Nat,D=u+m:=⟨_,rfl⟩;have hDi:(u:Int)+(m:Int)=(D:Int):=by omega
  rw [←hD]at SN2 h2;rw [hDi];clear hmi hac2 hD hDi hab;go_upto_region 8 with(at_builtin;refine kQ _ rfl (.tmp 26) (.tmp 30) 88 rfl w.heap.size 180 i0 (.int .u32 0) 1 4 underlying88 HI.u HZ0.u HZ1.u HZ2.u rfl (by decide) u5 O.length (yC O) rfl (own.alloc _) ⟨wr.heap.size,0,none⟩ 1 1 (yC [D%1000000000]) rfl rfl ?c1 ?c2 ?c3 ?c4 ?c5 ?_);case c1=>exact Jq wr [D%1000000000] _ _ rfl
  case c2=>exact Jr _
  case c3=>unfold maxLen;omega
  case c4=>omega
  case c5=>first|omega|(simp;omega)
  intro v5 w5 own5 hg5 _;have bel5:Below w.heap.size w w5:=(bel.alloc bsz _).grown hg5 (by simp;omega) (fun q hq=>(own.lt q hq).1);rw [JM]at own5;have OWN5:w5.ownsRow w.heap.size 180 1 v5 (O++ [D%1000000000]).length (yC (O++ [D%1000000000])):=by rw [ja];exact own5
  clear own5 own hg5 bel;go_wp2_with fail;go_roundw;case rel=>exact⟨O++ [D%1000000000],D/1000000000,by go_num,by rw [ja,kL];go_num,by rw [ja,kL];omega,SN2.u,bel5,OWN5⟩
  case measure=>simp [intOf];omega
 ·have hdm:decide ((O.length:Int)<((dig x).length:Int))=false:=by simp;omega
  obtain⟨hAl,htr⟩:=S.done (by omega);have HAl:=jA hAl;have HTR:=jA htr;clear S hAl htr hb;go_upto_region 99 with(first
   |(at_builtin;refine kQ _ rfl (.tmp 35) (.tmp 38) 88 rfl w.heap.size 180 i0 (.int .u32 0) 1 4 underlying88 HI.u HZ0.u HZ1.u HZ2.u rfl (by decide) u5 O.length (yC O) rfl (own.alloc _) ⟨wr.heap.size,0,none⟩ 1 1 (yC [u]) rfl rfl ?c1 ?c2 ?c3 ?c4 ?c5 ?_))
  case c1=>exact Jq wr [u] _ _ rfl
  case c2=>exact Jr _
  case c3=>unfold maxLen;omega
  case c4=>omega
  case c5=>first|omega|(simp;omega)
  intro v5 w5 own5 hg5 _;have bel5:Below w.heap.size w w5:=(bel.alloc bsz _).grown hg5 (by simp;omega) (fun q hq=>(own.lt q hq).1);rw [JM]at own5;have hol:(O++ [u]).length=O.length+1:=by simp
  obtain⟨oc,cc,rfl,hcc,_,hI⟩:=Vb (L:=O++ [u]) own5;have own6:w5.ownsRow w.heap.size 180 1 (.slice oc (O++ [u]).length cc) (O++ [u]).length (yC (O++ [u])):=by rw [hol]at own5 ⊢;exact own5
  obtain⟨k,hk,hk2,hk3⟩:=jhA _ HAl.u;obtain⟨oc2,cc2,he2,_,ownk⟩:=jjL own6 k hk;simp only [Value.slice.injEq]at he2;obtain⟨rfl,_,rfl⟩:=he2;rw [hk3,←hk2,HTR.u]at ownk;have OWNK:=jA ownk;have QT:=jA (Jc oc (O++ [u]) cc w5 hI (by omega) hcc HAl.u);rw [HTR.u,hol]at QT;have HOL:=jA hol;clear own5 own6 own hg5 bel hI hol hk hk2 hk3 ownk;go_wp2_with (go_at_call 138;refine QT.u.mono ?_;rintro e w6 ⟨rfl,hI6,rfl⟩);go_ret;exact⟨oc,cc,rfl,OWNK.u,bel5⟩
theorem jfo(x b:Nat)(oa:Option Addr)(ca:Nat)(w:World)(ha:LimbsAt w oa (dig x))(hx:(dig x).length<1099511627776)(hb0:0<b)(hb:b<1000000000):
 Calls prog 176 #[.slice oa (dig x).length ca,.int .u32 b] w fun e w'=> ∃oc cc r,e=.returned (.tuple #[.slice oc (dig (x/b)).length cc,.int .u32 (r:Nat)])∧r=x%b∧LimbsAt w' oc (dig (x/b))∧(∀a,oc=some a→w.heap.size≤a.block)∧Below w.heap.size w w':=by
 obtain⟨i0,hi,hz0,hz1,hz2⟩:=info_parts Kb;have HI:=jA hi;have HZ0:=jA hz0;have HZ1:=jA hz1;have HZ2:=jA hz2;have HA:=jA ha;clear hi hz0 hz1 hz2 ha;have S0:=Ji.init x b hb0;have hbz:((b:Int)==0)=false:=by rw [kE];omega
 go_enter Tryz.func176,Tryz.ntmps176;go_upto_region 2 with(refine wpList_make_row _ rfl _ _ 88 rfl 180 i0 (.int .u32 0) underlying88 HI.u HZ0.u HZ1.u rfl .i64 .i64 (dig x).length rfl rfl (by rw [HZ2.u];omega) (by omega) ?_);rw [Yo];generalize hB:w.heap.size=d at*;refine xP (fun w1=>Below d w w1∧w1.heap[d]?=some (.cells (yC (List.replicate (dig x).length 0)).toArray 180 (0,0))) ⟨by rw [←hB];exact(jN _ _).alloc (jO _) _,by rw [←hB];exact xN rfl⟩ (fun w1 hw1=>?_);obtain⟨bel1,h1⟩:=hw1;have HB:=jA hB;clear hB;go_upto_region 4 with(fail);go_loopw [7,8] (fun v i wr=> ∃(k r:Nat) (z:Int) (Q:List Nat),k≤(dig x).length∧z=(k:Int)-1∧i=.int .i64 z∧v=.int .u64 r∧Ji x b k Q r∧Below d w wr∧wr.heap[d]?=some (.cells (yC Q).toArray 180 (0,0))) (fun _ i _=>(intOf i+1).toNat);case atStart=>exact⟨(dig x).length,0,(dig x).length-1,_,jO _,rfl,by go_num,rfl,S0,bel1,h1⟩
 case round=>
 obtain⟨k,r,z,Q,hk,hz,rfl,rfl,S,bel,hQ⟩:=hrel;clear bel1 h1 S0;have hrb:=S.lt;by_cases h0:k=0
 ·subst h0;obtain rfl:z= -1:=by omega
  have hd:=jA S.done;have hl:=S.len;have QT:=jA (Jc (some ⟨d,0,none⟩) Q (dig x).length wr (Vq hQ rfl) (by omega) (by omega) S.all);rw [hd.u.1,hl]at QT;clear S hQ hz;go_wp2_with (go_at_call 138;refine QT.u.mono ?_;rintro e w3 ⟨rfl,hI3,rfl⟩)
  go_ret2
  exact⟨_,_,r,rfl,hd.u.2,hI3,fun a h=>by cases h;rw [HB.u];exact jO _,by rw [HB.u];exact bel⟩
 obtain⟨i,rfl⟩: ∃i,k=i+1:=⟨k-1,by omega⟩;obtain rfl:z=(i:Int):=by omega
 have hlt:i<(dig x).length:=by omega
 have hi0:(0:Int)≤i:=by omega
 have hix:(i:Int)<((dig x).length:Int):=by omega
 obtain⟨a0,hoa,hac⟩:=HA.u.get i hlt;have hablk:a0.block<d:=by
  obtain⟨a1,h2,h3,_⟩:=HA.u.cells i hlt;rw [hoa]at h2;cases h2;rw [HB.u]at h3;exact h3
 have hac3:wr.cell? (a0.add i)=some (.int .u32 ((lAt (dig x) i:Nat):Int)):=by rw [bel.cell (p:=a0.add i) (by rw [yM];exact hablk)];exact hac
 have SN:Hid (Ji x b i (Q.set i ((r*1000000000+lAt (dig x) i)/b)) ((r*1000000000+lAt (dig x) i)%b)∧(r*1000000000+lAt (dig x) i)/b<1000000000):=jA (S.step hlt);have hai:lAt (dig x) i<1000000000:=xz (xu x) i;have hQl:i<Q.length:=by rw [S.len];exact hlt
 have hc3:=Xm hQ i hQl;have hf3:=jb wr d i _ _ hQ;have HSET:=jA (fun q=>YR hQ i q);have HBEL:=jA bel;subst hoa;clear S hac hz h0 hQ bel;generalize lAt (dig x) i=a at*;go_upto_region 7 with(fail);obtain⟨D,hD⟩: ∃D:Nat,D=r*1000000000+a:=⟨_,rfl⟩;have hDi:(r:Int)*1000000000+(a:Int)=(D:Int):=by omega
 have hDb:D<1000000000000000000:=by omega
 rw [←hD]at SN;rw [hDi];clear hac3 hD hDi;have hq:((D:Int)/(b:Int))=((D/b:Nat):Int):=(Int.natCast_ediv D b).symm;have hr:((D:Int)%(b:Int))=((D%b:Nat):Int):=(Int.natCast_emod D b).symm;have hq9:=SN.u.2;generalize hqq:D/b=q at*;generalize hrr:D%b=r2 at*;have HQQ:=jA hqq;have HRR:=jA hrr;clear hqq hrr;go_upto_region 8 with(fail);refine xP (fun w4=>Below d w w4∧w4.heap[d]?=some (.cells (yC (Q.set i q)).toArray 180 (0,0))) ⟨xQ HBEL.u ((xp.refl d wr).setCell _ _) (jO _),HSET.u q⟩ (fun w4 hw4=>?_);obtain⟨bel4,hW4⟩:=hw4;clear hc3 hf3 HSET HBEL;go_wp2_with fail;go_roundw;case rel=>exact⟨i,r2,(i:Int)-1,_,by omega,rfl,by go_num,by go_num,SN.u.1,bel4,hW4⟩
 case measure=>simp [intOf]
end Go.Proofs.YtnohcdpnnhmpfaaGreatDoor
