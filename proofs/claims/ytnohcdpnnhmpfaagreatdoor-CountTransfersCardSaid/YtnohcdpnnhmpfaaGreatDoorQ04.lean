/-
  The reference's Of, trim, at: rows of digits.
  The reference's Add, Sub, Compare.
  The reference's Sub and Compare.
  The reference's Mul.
  The reference's Div.
  The reference's Text: a number's digits as a text.
-/
import Derived.Test.YtnohcdpnnhmpfaaGreatDoorQ03
import Derived.Test.YtnohcdpnnhmpfaaGreatDoorChecked
import Derived.OwnWalk
import Derived.WalkKit
import Derived.Deep.CutBlock
import Derived.Deep.DeepCutAuto
import Derived.Lib.Hide
import Derived.Deep.RegionWith
import Derived.Test.YtnohcdpnnhmpfaaGreatDoorQ02
import Derived.Test.YtnohcdpnnhmpfaaGreatDoorQ01
import Derived.Deep.OwnRows
set_option linter.unusedVariables false
set_option linter.unusedSimpArgs false
set_option maxRecDepth 100000
set_option maxHeartbeats 4000000
namespace Go.Proofs.YtnohcdpnnhmpfaaGreatDoor
open Go.RowKit Tryz ML ND
theorem XL:(prog.info? 3).map (fun i=>(i.zero,i.size,i.bytes))=some (some (.int .i64 0),1,8):=by kernel_rfl
theorem KZ(w:World)(news:List Nat)(t:TypeId)(n:Nat)(hn:w.heap.size=n): ∀j u,(yT news)[j]?=some u→(w.alloc (.cells (yT news).toArray t)).cell? ((⟨n,0,none⟩:Addr).add j)=some u:=YB w (yT news) t n hn
theorem jck(oa:Option Addr)(L:List Nat)(cap i:Nat)(w:World)(h:IntsAt w oa L)(hl:L.length<9223372036854775808)(hi:i<9223372036854775808):
 Calls prog 136 #[.slice oa L.length cap,.int .i64 (i:Int)] w fun e w'=>e=.returned (.int .i64 ((dAt L i:Nat):Int))∧w'=w:=by
 unfold dAt;have H:=jA h;clear h;go_enter Tryz.func136,Tryz.ntmps136;by_cases hlt:i<L.length
 ·obtain⟨a,rfl,hc⟩:=H.u.get i hlt;have hd:decide ((i:Int)<(L.length:Int))=true:=by simp;omega
  generalize L.getD i 0=d at*;go_wp2_with fail;go_ret;exact⟨rfl,rfl⟩
 ·have hd:decide ((i:Int)<(L.length:Int))=false:=by simp;omega
  have h0:L.getD i 0=0:=by rw [jW,kP (by omega)];rfl
  rw [h0];go_wp2_with fail;go_ret;exact⟨rfl,rfl⟩
theorem Js(oa:Option Addr)(L:List Nat)(cap:Nat)(w:World)(h:IntsAt w oa L)(hl:L.length<9223372036854775808)(hcap:L.length≤cap)(hA:yf L):
 Calls prog 135 #[.slice oa L.length cap] w fun e w'=>e=.returned (.slice oa (yw L).length cap)∧IntsAt w oa (yw L)∧w'=w:=by
 have H:=jA h;have HA:=jA hA;clear h hA;go_enter Tryz.func135,Tryz.ntmps135;go_wp2_with fail;go_loopw [0] (fun v wr=> ∃k:Nat,k≤L.length∧v=.slice oa k cap∧(∀i,k≤i→L.getD i 0=0)∧wr=w) (fun v _=>match v with| .slice _ n _=>n|_=>0);case atStart=>exact⟨L.length,jO _,rfl,fun i hi=>by simp [jW,kP hi],rfl⟩
 case round=>
 obtain⟨k,hk,rfl,hz,rfl⟩:=hrel;have HZ:=jA hz;clear hz;by_cases h0:k=0
 ·subst h0;have ht:=KT L 0 HA.u (by omega) HZ.u (.inl rfl);rw [qe]at ht;have HT:=jA ht;clear ht;go_wp2_with fail;go_ret;rw [←HT.u];exact⟨rfl,⟨fun i hi=>by simp at hi⟩,rfl⟩
 obtain⟨j,rfl⟩: ∃j,k=j+1:=⟨k-1,by omega⟩;obtain⟨a,rfl,hc⟩:=H.u.get j (by omega);have hk63:(j:Int)+1<9223372036854775808:=by omega
 have hjc:(j:Int)≤cap:=by omega
 by_cases hd0:L.getD j 0=0
 ·
   have hz2:=jA (show ∀i,j≤i→L.getD i 0=0 from fun i hi=>by
    by_cases he:i=j;·rw [he];exact hd0
    ·exact HZ.u i (by omega))
   rw [hd0]at hc;clear hd0;go_wp2_with fail;go_roundw;case rel=>exact⟨j,by omega,by go_num,hz2.u,trivial⟩
   case measure=>simp
 ·have ht:=KT L (j+1) HA.u hk HZ.u (.inr (by simpa using hd0));have hl2:(yw L).length=j+1:=by rw [←ht,jX];omega
  have hI:=H.u.take (j+1);rw [ht]at hI;have HI:=jA hI;have HL2:=jA hl2;clear ht hl2 hI;have hdf:(((L.getD j 0:Nat):Int)==0)=false:=by rw [kE];intro h;apply hd0;omega
  clear hd0 h0;generalize L.getD j 0=d at*;go_wp2_with fail;go_ret;rw [HL2.u];exact⟨rfl,HI.u,rfl⟩
theorem jgb(x y:Nat)(oa ob:Option Addr)(ca cb:Nat)(w:World)(ha:IntsAt w oa (dig x))(hb:IntsAt w ob (dig y))(hx:(dig x).length<1099511627776)(hy:(dig y).length<1099511627776):
 Calls prog 82 #[.slice oa (dig x).length ca,.slice ob (dig y).length cb] w fun e w'=> ∃oc cc,e=.returned (.slice oc (dig (x+y)).length cc)∧IntsAt w' oc (dig (x+y))∧Below w.heap.size w w':=by
 obtain⟨i0,hi,hz0,hz1,hz2⟩:=info_parts XL;have HI:=jA hi;have HZ0:=jA hz0;have HZ1:=jA hz1;have HZ2:=jA hz2;have HA:=jA ha;have HBB:=jA hb;clear hi hz0 hz1 hz2 ha hb;go_enter Tryz.func82,Tryz.ntmps82;go_upto_region 4 with(fail);go_loopw [5,6,7] (fun v z i wr=> ∃(O:List Nat) (u:Nat),z=.int .i64 u∧i=.int .i64 O.length∧O.length≤(dig x).length+(dig y).length+1∧JT x y O u∧Below w.heap.size w wr∧wr.ownsRow w.heap.size 3 1 v O.length (yT O)) (fun _ _ i _=>(dig x).length+(dig y).length+1-(intOf i).toNat);case atStart=>exact⟨[],0,rfl,rfl,by simp,JT.init x y,jN _ _,qA _ _ _ _⟩
 case round=>
 obtain⟨O,u,rfl,rfl,hOl,S,bel,own⟩:=hrel;by_cases hm:O.length<(dig x).length∨O.length<(dig y).length∨0<u
 ·have hsh:=S.short hm;have SN:=jA (S.next hm);have hup:=S.up
  have QA:=jA (fun(oz:Option Addr) (L:List Nat) (cz:Nat) (h:(oz=oa∧L=dig x)∨(oz=ob∧L=dig y))=>jck oz L cz O.length wr (by
   rcases h with⟨rfl,rfl⟩|⟨rfl,rfl⟩;·exact HA.u.below bel
   ·exact HBB.u.below bel) (by rcases h with⟨rfl,rfl⟩|⟨rfl,rfl⟩<;>omega) (by omega))
  have h1:dAt (dig x) O.length<10:=xz (xu x) O.length;have h2:dAt (dig y) O.length<10:=xz (xu y) O.length;clear S;have hd:((O.length:Int)<((dig x).length:Int))∨(¬(O.length:Int)<((dig x).length:Int)∧(O.length:Int)<((dig y).length:Int))∨
   (¬(O.length:Int)<((dig x).length:Int)∧ ¬(O.length:Int)<((dig y).length:Int)∧(0:Int)<(u:Int)):=by omega
  have bsz:=bel.size;clear hm;rcases hd with d1|⟨d1,d2⟩|⟨d1,d2,d3⟩
  all_goals (
   go_upto_region 8 with(first
    |(go_at_call 136;refine(QA.u _ _ _ ?ih).mono ?_;(case ih=>first|exact .inl ⟨rfl,rfl⟩|exact .inr ⟨rfl,rfl⟩);rintro e w3 ⟨rfl,rfl⟩)
    |(at_builtin;refine kQ _ rfl (.tmp 34) (.tmp 37) 67 rfl w.heap.size 3 i0 (.int .i64 0) 1 8 underlying67 HI.u HZ0.u HZ1.u HZ2.u rfl (by decide) u5 O.length (yT O) rfl (own.alloc _) ⟨w3.heap.size,0,none⟩ 1 1 (yT [(dAt (dig x) O.length+dAt (dig y) O.length+u)%10]) rfl rfl ?c1 ?c2 ?c3 ?c4 ?c5 ?_))
   case c1=>exact KZ w3 [(dAt (dig x) O.length+dAt (dig y) O.length+u)%10] _ _ rfl
   case c2=>exact Qt _
   case c3=>unfold maxLen;omega
   case c4=>omega
   case c5=>simp;omega
   intro v5 w5 own5 hg5 _;have bel5:Below w.heap.size w w5:=(bel.alloc bsz _).grown hg5 (by simp;omega) (fun q hq=>(own.lt q hq).1);rw [Jg]at own5;have OWN5:w5.ownsRow w.heap.size 3 1 v5 (O++ [(dAt (dig x) O.length+dAt (dig y) O.length+u)%10]).length (yT (O++ [(dAt (dig x) O.length+dAt (dig y) O.length+u)%10])):=by rw [ja];exact own5
   clear own5 own hg5 bel QA;go_wp2_with fail;go_roundw;case rel=>exact⟨O++ [(dAt (dig x) O.length+dAt (dig y) O.length+u)%10],(dAt (dig x) O.length+dAt (dig y) O.length+u)/10,by go_num,by rw [ja,kL];go_num,by rw [ja,kL];omega,SN.u,bel5,OWN5⟩
   case measure=>simp [intOf];omega)
 ·have h3: ¬0<u:=fun h=>hm (.inr (.inr h));obtain rfl:u=0:=by omega
  have h1: ¬O.length<(dig x).length:=fun h=>hm (.inl h);have h2: ¬O.length<(dig y).length:=fun h=>hm (.inr (.inl h));have hO:=jA (S.done h1 h2);obtain⟨oc,cc,rfl,_,_,hI⟩:=VL own;have HII:=jA hI;have d1:decide ((O.length:Int)<((dig x).length:Int))=false:=by simp;omega
  have d2:decide ((O.length:Int)<((dig y).length:Int))=false:=by simp;omega
  clear hI own S hm h3;go_wp2_with fail;go_ret;rw [←hO.u];exact⟨oc,cc,rfl,HII.u,bel⟩
theorem Ym(x y:Nat)(oa ob:Option Addr)(ca cb:Nat)(w:World)(hyx:y≤x)(ha:IntsAt w oa (dig x))(hb:IntsAt w ob (dig y))(hx:(dig x).length<1099511627776)(hy:(dig y).length<1099511627776):
 Calls prog 84 #[.slice oa (dig x).length ca,.slice ob (dig y).length cb] w fun e w'=> ∃oc cc,e=.returned (.slice oc (dig (x-y)).length cc)∧IntsAt w' oc (dig (x-y))∧Below w.heap.size w w'∧(∀a,oc=some a→w.heap.size≤a.block):=by
 obtain⟨i0,hi,hz0,hz1,hz2⟩:=info_parts XL;have HI:=jA hi;have HZ0:=jA hz0;have HZ1:=jA hz1;have HZ2:=jA hz2;have HA:=jA ha;have HBB:=jA hb;have HYX:=jA hyx;clear hi hz0 hz1 hz2 ha hb hyx;go_enter Tryz.func84,Tryz.ntmps84;go_upto_region 4 with(fail);go_loopw [5,6,7] (fun v z i wr=> ∃(O:List Nat) (u:Nat),z=.int .i64 u∧i=.int .i64 O.length∧O.length≤(dig x).length∧YL x y O u∧Below w.heap.size w wr∧wr.ownsRow w.heap.size 3 1 v O.length (yT O)) (fun _ _ i _=>(dig x).length-(intOf i).toNat);case atStart=>exact⟨[],0,rfl,rfl,by simp,YL.init x y,jN _ _,qA _ _ _ _⟩
 case round=>
 obtain⟨O,u,rfl,rfl,hOl,S,bel,own⟩:=hrel;by_cases hm:O.length<(dig x).length
 ·have d1:decide ((O.length:Int)<((dig x).length:Int))=true:=by simp;omega
  have hup:=S.down;obtain⟨a0,hoa,hac⟩:=(HA.u.below bel).get O.length hm;have hac2:wr.cell? (a0.add O.length)=some (.int .i64 ((dAt (dig x) O.length:Nat):Int)):=hac;have QA:=jA (jck ob (dig y) cb O.length wr.drew ((HBB.u.below bel).drew) (by omega) (by omega));have h1:dAt (dig x) O.length<10:=xz (xu x) O.length;have h2:dAt (dig y) O.length<10:=xz (xu y) O.length;have SN:=jA (fun s d' hs hd he=>S.next s d' hs hd he);have bsz:=bel.size;clear S hac;subst hoa;have SN2:Hid (∀s d',s<10→d'≤1→dAt (dig x) O.length+10*d'=s+dAt (dig y) O.length+u→YL x y (O++ [s]) d'):=SN;clear SN;generalize dAt (dig x) O.length=a at*;generalize dAt (dig y) O.length=b at*;go_upto_region 6 with(fail);refine Seg.xL (fun w'=> ∃n,w'=wr.drewN n) [([0,1,2,3,4,5,8],6)] [7] 9 (by kernel_rfl) (by kernel_rfl) (fun _ _ d _ _ h=>by cases d<;>exact h) (⟨1,rfl⟩) ?_;simp only [jK,Seg.opAt,Seg.xW];repeat (any_goals (first|go_big_quiet_step (fail)|quiet_step (fail)))
  refine jP ?_;intro K hK;simp only [Region.wanted,jY];go_wp2_with fail;refine QA.u.mono ?_;rintro e w5 ⟨rfl,rfl⟩;refine hK _ _ ⟨1,rfl⟩ ?_;clear hK K QA;obtain⟨z,hz⟩: ∃z:Int,(a:Int)-b-u=z:=⟨_,rfl⟩;repeat (any_goals (first|go_big_quiet_step (fail)|quiet_step (fail)))
  refine jP ?_;by_cases hneg:z<0
  ·obtain⟨sN,hsN⟩: ∃sN:Nat,z+10=(sN:Int):=⟨(z+10).toNat,by omega⟩;have S2:=jA (SN2.u sN 1 (by omega) (by omega) (by omega));go_upto_region 5 with(at_builtin;refine kQ _ rfl (.tmp 29) (.tmp 31) 67 rfl w.heap.size 3 i0 (.int .i64 0) 1 8 underlying67 HI.u HZ0.u HZ1.u HZ2.u rfl (by decide) u5 O.length (yT O) rfl ((own.alloc _).drew) ⟨wr.heap.size,0,none⟩ 1 1 (yT [sN]) rfl rfl ?c1 ?c2 ?c3 ?c4 ?c5 ?_);case c1=>first|exact KZ wr [sN] _ _ rfl|exact fun _ _ h=>h
   case c2=>exact Qt _
   case c3=>unfold maxLen;omega
   case c4=>omega
   case c5=>first|omega|(simp;omega)
   intro v5 w5 own5 hg5 _;have bel5:Below w.heap.size w w5:=((bel.alloc bsz _).drew).grown hg5 (by simp;omega) (fun q hq=>(own.lt q hq).1);rw [Jg]at own5;have OWN5:w5.ownsRow w.heap.size 3 1 v5 (O++ [sN]).length (yT (O++ [sN])):=by rw [ja];exact own5
   clear own5 own hg5 bel hac2;go_wp2_with fail;go_roundw;case rel=>exact⟨O++ [sN],1,rfl,by rw [ja,kL];go_num,by rw [ja,kL];omega,S2.u,bel5,OWN5⟩
   case measure=>simp [intOf];omega
  ·obtain⟨sN,hsN⟩: ∃sN:Nat,z=(sN:Int):=⟨z.toNat,by omega⟩;have S2:=jA (SN2.u sN 0 (by omega) (by omega) (by omega));subst hsN;go_upto_region 5 with(at_builtin;refine kQ _ rfl (.tmp 29) (.tmp 31) 67 rfl w.heap.size 3 i0 (.int .i64 0) 1 8 underlying67 HI.u HZ0.u HZ1.u HZ2.u rfl (by decide) u5 O.length (yT O) rfl ((own.alloc _).drew) ⟨wr.heap.size,0,none⟩ 1 1 (yT [sN]) rfl rfl ?c1 ?c2 ?c3 ?c4 ?c5 ?_);case c1=>first|exact KZ wr [sN] _ _ rfl|exact fun _ _ h=>h
   case c2=>exact Qt _
   case c3=>unfold maxLen;omega
   case c4=>omega
   case c5=>first|omega|(simp;omega)
   intro v5 w5 own5 hg5 _;have bel5:Below w.heap.size w w5:=((bel.alloc bsz _).drew).grown hg5 (by simp;omega) (fun q hq=>(own.lt q hq).1);rw [Jg]at own5;have OWN5:w5.ownsRow w.heap.size 3 1 v5 (O++ [sN]).length (yT (O++ [sN])):=by rw [ja];exact own5
   clear own5 own hg5 bel hac2;go_wp2_with fail;go_roundw;case rel=>exact⟨O++ [sN],0,rfl,by rw [ja,kL];go_num,by rw [ja,kL];omega,S2.u,bel5,OWN5⟩
   case measure=>simp [intOf];omega
 ·have d1:decide ((O.length:Int)<((dig x).length:Int))=false:=by simp;omega
  have hO:=jA (S.done (by omega) HYX.u);obtain⟨oc,cc,rfl,hcc,hfr,hI⟩:=VL own;have QT:=jA (Js oc O cc wr hI (by omega) hcc S.all);rw [hO.u]at QT;clear hI own S hO;go_wp2_with (go_at_call 135;refine QT.u.mono ?_;rintro e w3 ⟨rfl,hI3,rfl⟩);go_ret;exact⟨oc,cc,rfl,hI3,bel,hfr⟩
theorem VE(x y:Nat)(oa ob:Option Addr)(ca cb:Nat)(w:World)(ha:IntsAt w oa (dig x))(hb:IntsAt w ob (dig y))(hx:(dig x).length<1099511627776)(hy:(dig y).length<1099511627776):
 Calls prog 83 #[.slice oa (dig x).length ca,.slice ob (dig y).length cb] w fun e w'=>e=.returned (.int .i64 (Jd x y))∧Below w.heap.size w w':=by
 have HA:=jA ha;have HBB:=jA hb;clear ha hb;go_enter Tryz.func83,Tryz.ntmps83;by_cases hl:(dig x).length<(dig y).length
 ·have hc:=jA (Ve (zv hl));have g1: ¬((dig x).length:Int)=((dig y).length:Int):=by omega
  have g2:decide (((dig x).length:Int)<((dig y).length:Int))=true:=by simp;omega
  go_wp2_with fail;go_ret;exact⟨by rw [hc.u];rfl,jN _ _⟩
 by_cases hg:(dig y).length<(dig x).length
 ·have hc:=jA (Vf (zv hg));have g1: ¬((dig x).length:Int)=((dig y).length:Int):=by omega
  have g2:decide (((dig x).length:Int)<((dig y).length:Int))=false:=by simp;omega
  go_wp2_with fail;go_ret;exact⟨by rw [hc.u];rfl,jN _ _⟩
 have hll:(dig x).length=(dig y).length:=by omega
 go_upto_region 6 with(fail);go_loopw [5] (fun i wr=> ∃(k:Nat) (z:Int),k≤(dig x).length∧z=(k:Int)-1∧i=.int .i64 z∧(dig x).drop k=(dig y).drop k∧Below w.heap.size w wr) (fun i _=>(intOf i+1).toNat);case atStart=>exact⟨(dig x).length,(dig x).length-1,jO _,rfl,by go_num,by rw [qI (jO _),qI (by omega)],jN _ _⟩
 case round=>
 obtain⟨k,z,hk,hz,rfl,hdr,bel⟩:=hrel;by_cases h0:k=0
 ·subst h0;obtain rfl:z= -1:=by omega
  have hxy:=Zw (by simpa using hdr);have hc:=jA (show Jd x y=0 by rw [hxy];exact YX y);clear hz;go_wp2_with fail;go_ret;exact⟨by rw [hc.u];rfl,bel⟩
 obtain⟨j,rfl⟩: ∃j,k=j+1:=⟨k-1,by omega⟩;obtain rfl:z=(j:Int):=by omega
 have hjx:j<(dig x).length:=by omega
 have hjy:j<(dig y).length:=by omega
 obtain⟨a0,hoa,hac⟩:=(HA.u.below bel).get j hjx;obtain⟨b0,hob,hbc⟩:=(HBB.u.below bel).get j hjy;have hlt:=jA (fun h=>Ve (Kw hjx hjy hdr h));have hgt:=jA (fun h=>Vf (Kw hjy hjx hdr.symm h));have heq:=jA (fun h=>Zx hjx hjy hdr h);have hj0:(0:Int)≤j:=by omega
 have hjlx:(j:Int)<((dig x).length:Int):=by omega
 have hjly:(j:Int)<((dig y).length:Int):=by omega
 have HLL:=jA hll;have HK:=jA hk;subst hoa;subst hob;clear hz hdr h0 hll hk hl hg;generalize (dig x).getD j 0=a at*;generalize (dig y).getD j 0=b at*;go_upto_region 8 with(fail);refine Seg.xL (fun w'=> ∃n,w'=wr.drewN n) [] [0,1,2,3,4,5,6,7] 8 (by kernel_rfl) (by kernel_rfl) (fun _ _ d _ _ h=>by cases d<;>exact h) (⟨1,rfl⟩) ?_;simp only [jK,Seg.opAt,Seg.xW];repeat (any_goals (first|go_big_quiet_step (fail)|quiet_step (fail)))
 refine jP ?_;by_cases hab:a<b
 ·have dl:decide ((a:Int)<(b:Int))=true:=by simp;omega
  have hc:=jA (hlt.u hab);go_wp2_with fail;go_ret;exact⟨by rw [hc.u];rfl,bel.drew⟩
 have dl:decide ((a:Int)<(b:Int))=false:=by simp;omega
 go_upto_region 10 with(fail);refine Seg.xL (fun w'=> ∃n,w'=wr.drewN n) [] [0,1,2,3,4,5,6,7] 8 (by kernel_rfl) (by kernel_rfl) (fun _ _ d _ _ h=>by cases d<;>exact h) (⟨2,rfl⟩) ?_;simp only [jK,Seg.opAt,Seg.xW];repeat (any_goals (first|go_big_quiet_step (fail)|quiet_step (fail)))
 refine jP ?_;by_cases hba:b<a
 ·have dg:decide ((b:Int)<(a:Int))=true:=by simp;omega
  have hc:=jA (hgt.u hba);go_wp2_with fail;go_ret;exact⟨by rw [hc.u];rfl,bel.drew.drew⟩
 ·have dg:decide ((b:Int)<(a:Int))=false:=by simp;omega
  have he:=jA (heq.u (by omega));go_wp2_with fail;go_roundw;case rel=>exact⟨j,(j:Int)-1,by omega,rfl,by go_num,he.u,bel.drew.drew⟩
  case measure=>simp [intOf]
theorem Yp(n:Nat):madeCells #[Value.int .i64 0] n=(yT (List.replicate n 0)).toArray:=by
 unfold madeCells yT;apply Array.ext;·simp
 ·intro i h1 h2;simp [Nat.mod_one]
theorem VN {w:World}{b:Nat}{L:List Nat}{T:TypeId}(h:w.heap[b]?=some (.cells (yT L).toArray T (0,0)))(i:Nat)(hi:i<L.length):w.cell? ⟨b,i,none⟩=some (.int .i64 ((dAt L i:Nat):Int)):=by
 rw [jM w b i _ _ _ h];simp [yT,dAt,jW,hi]
theorem YS {w:World}{b:Nat}{L:List Nat}{T:TypeId}(h:w.heap[b]?=some (.cells (yT L).toArray T (0,0)))(i d:Nat):(w.setCell ⟨b,i,none⟩ (.int .i64 (d:Int))).heap[b]?=some (.cells (yT (L.set i d)).toArray T (0,0)):=by
 rw [jd w b i _ _ _ h];congr 2;simp [yT,List.map_set]
theorem zT(x y:Nat)(oa ob:Option Addr)(ca cb:Nat)(w:World)(ha:IntsAt w oa (dig x))(hb:IntsAt w ob (dig y))(hx:(dig x).length<1099511627776)(hy:(dig y).length<1099511627776):
 Calls prog 79 #[.slice oa (dig x).length ca,.slice ob (dig y).length cb] w fun e w'=> ∃oc cc,e=.returned (.slice oc (dig (x*y)).length cc)∧IntsAt w' oc (dig (x*y))∧Below w.heap.size w w':=by
 obtain⟨i0,hi,hz0,hz1,hz2⟩:=info_parts XL;have HI:=jA hi;have HZ0:=jA hz0;have HZ1:=jA hz1;have HZ2:=jA hz2;have HA:=jA ha;have HBB:=jA hb;clear hi hz0 hz1 hz2 ha hb;obtain⟨n,hn⟩: ∃n,n=(dig x).length+(dig y).length:=⟨_,rfl⟩;have hni:((dig x).length:Int)+((dig y).length:Int)=(n:Int):=by omega
 have hnb:n<2199023255552:=by omega
 have HNN:=jA hn;clear hn;go_enter Tryz.func79,Tryz.ntmps79;go_upto_region 2 with(refine wpList_make_row _ rfl _ _ 67 rfl 3 i0 (.int .i64 0) underlying67 HI.u HZ0.u HZ1.u rfl .i64 .i64 n rfl rfl (by rw [HZ2.u];omega) (by omega) ?_);rw [Yp];generalize hB:w.heap.size=d at*;refine xP (fun w1=>Below d w w1∧w1.heap[d]?=some (.cells (yT (List.replicate n 0)).toArray 3 (0,0))) ⟨by rw [←hB];exact(jN _ _).alloc (jO _) _,by rw [←hB];exact xN rfl⟩ (fun w1 hw1=>?_);obtain⟨bel1,h1⟩:=hw1;have S0:=KO.init x y;rw [←HNN.u]at S0;have HB:=jA hB;clear hB;go_upto_region 3 with(fail);go_loopw [6] (fun i wr=> ∃(k:Nat) (W:List Nat),k≤(dig x).length∧i=.int .i64 k∧KO x y k W∧Below d w wr∧wr.heap[d]?=some (.cells (yT W).toArray 3 (0,0))) (fun i _=>(dig x).length-(intOf i).toNat);case atStart=>exact⟨0,_,by omega,rfl,S0,bel1,h1⟩
 case round=>
 obtain⟨i,W,hk,rfl,S,bel,hW⟩:=hrel;clear bel1 h1 S0;by_cases hlt:i<(dig x).length
 ·have hd1:decide ((i:Int)<((dig x).length:Int))=true:=by simp;omega
  obtain⟨a0,hoa,hac⟩:=HA.u.get i hlt;have hablk:a0.block<d:=by
   obtain⟨a1,h2,h3,_⟩:=HA.u.cells i hlt;rw [hoa]at h2;cases h2;rw [HB.u]at h3;exact h3
  have hac2:w.cell? (a0.add i)=some (.int .i64 ((dAt (dig x) i:Nat):Int)):=hac;subst hoa;clear hac;go_upto_region 7 with(fail);go_loopw [7,8] (fun u j wi=> ∃(k uN:Nat) (W:List Nat),k≤(dig y).length∧j=.int .i64 k∧u=.int .i64 uN∧Qa x y i k W uN∧Below d w wi∧wi.heap[d]?=some (.cells (yT W).toArray 3 (0,0))) (fun _ j _=>(dig y).length-(intOf j).toNat);case atStart=>exact⟨0,0,W,by omega,rfl,rfl,S.row,bel,hW⟩
  case round=>
  obtain⟨j,u,W2,hj,rfl,rfl,R,bel2,hW2⟩:=hrel;clear S bel hW;by_cases hjt:j<(dig y).length
  ·have hd2:decide ((j:Int)<((dig y).length:Int))=true:=by simp;omega
   obtain⟨b0,hob,hbc⟩:=HBB.u.get j hjt;have hbblk:b0.block<d:=by
    obtain⟨b1,h2,h3,_⟩:=HBB.u.cells j hjt;rw [hob]at h2;cases h2;rw [HB.u]at h3;exact h3
   have hac3:wr.cell? (a0.add i)=some (.int .i64 ((dAt (dig x) i:Nat):Int)):=by rw [bel2.cell (p:=a0.add i) (by rw [xy];exact hablk)];exact hac2
   have hbc3:wr.cell? (b0.add j)=some (.int .i64 ((dAt (dig y) j:Nat):Int)):=by rw [bel2.cell (p:=b0.add j) (by rw [xy];exact hbblk)];exact hbc
   have hnn:=HNN.u;have hijn:i+j<n:=by omega
   have hc3:=VN hW2 (i+j) (by rw [R.len];omega);have hf3:=jb wr d (i+j) _ _ hW2;have RN:=jA (R.next hlt hjt);have hup:=R.up;have h1:dAt (dig x) i<10:=xz (xu x) i;have h2:dAt (dig y) j<10:=xz (xu y) j;have h3:dAt W2 (i+j)<10:=xz R.all (i+j);have RN2:Hid (Qa x y i (j+1) (W2.set (i+j) ((dAt W2 (i+j)+dAt (dig x) i*dAt (dig y) j+u)%10)) ((dAt W2 (i+j)+dAt (dig x) i*dAt (dig y) j+u)/10)):=RN;have HW2:=jA hW2;have HBEL:=jA bel2;subst hob;clear RN R hbc hW2 bel2 hnn;generalize dAt (dig x) i=a at*;generalize dAt (dig y) j=b at*;generalize dAt W2 (i+j)=c at*;have hab:a*b≤9*9:=qH (by omega) (by omega);obtain⟨m,hm⟩: ∃m,m=a*b:=⟨_,rfl⟩;have hmi:(a:Int)* (b:Int)=(m:Int):=by rw [hm];exact(vH a b).symm
   rw [←hm]at RN2 hab;have hm81:m≤81:=hab;have hi0:(0:Int)≤(i:Int)+(j:Int):=by omega
   have hil:(i:Int)+(j:Int)<(n:Int):=by omega
   have hilx:(i:Int)<((dig x).length:Int):=by omega
   have hjly:(j:Int)<((dig y).length:Int):=by omega
   clear hm hab hac2;go_upto_region 9 with(fail);refine Seg.xL (fun w'=> ∃n,w'=wr.drewN n) [] [0,1,2,3,4,5,6,7,8,9,10,11,12,13,14,15,16] 17 (by kernel_rfl) (by kernel_rfl) (fun _ _ d _ _ h=>by cases d<;>exact h) (⟨1,rfl⟩) ?_;simp only [jK,Seg.opAt,Seg.xW];repeat (any_goals (first|go_big_quiet_step (fail)|quiet_step (fail)))
   refine jP ?_;go_upto_region 11 with(fail);refine xP (fun w4=>Below d w w4∧w4.heap[d]?=some (.cells (yT (W2.set (i+j) ((c+m+u)%10))).toArray 3 (0,0))) ?_ (fun w4 hw4=>?_)
   ·have e:=YS HW2.u (i+j) ((c+m+u)%10);have hv:(((c+m+u)%10:Nat):Int)=((c:Int)+(m:Int)+(u:Int))%10:=by omega
    rw [hv]at e;exact⟨(xQ HBEL.u ((xp.refl d wr).setCell _ _) (jO _)).drew,e⟩
   obtain⟨bel4,hW4⟩:=hw4;clear hac3 hbc3 hc3 hf3 HW2 HBEL;go_wp2_with fail;go_roundw;case rel=>exact⟨j+1,(c+m+u)/10,_,by omega,by go_num,by go_num,RN2.u,bel4,hW4⟩
   case measure=>simp [intOf];omega
  ·have hd2:decide ((j:Int)<((dig y).length:Int))=false:=by simp;omega
   obtain rfl:j=(dig y).length:=by omega
   have hnn:=HNN.u;have hil:(i:Int)+((dig y).length:Int)<(n:Int):=by omega
   have hi0:(0:Int)≤(i:Int)+((dig y).length:Int):=by omega
   have hc3:=VN hW2 (i+(dig y).length) (by rw [R.len];omega);have hf3:=jb wr d (i+(dig y).length) _ _ hW2;have RD:=jA (R.done hlt);have HW2:=jA hW2;clear R hW2 hnn hac2;go_upto_region 4 with(fail);refine xP (fun w4=>Below d w w4∧w4.heap[d]?=some (.cells (yT (W2.set (i+(dig y).length) u)).toArray 3 (0,0))) ⟨xQ bel2 ((xp.refl d wr).setCell _ _) (jO _),YS HW2.u (i+(dig y).length) u⟩ (fun w4 hw4=>?_);obtain⟨bel4,hW4⟩:=hw4;clear hc3 hf3 HW2 bel2;go_wp2_with fail;go_roundw;case rel=>exact⟨i+1,_,by omega,by go_num,RD.u,bel4,hW4⟩
   case measure=>simp [intOf];omega
 ·have hd1:decide ((i:Int)<((dig x).length:Int))=false:=by simp;omega
  obtain rfl:i=(dig x).length:=by omega
  have hO:=jA S.done;have hl:W.length=n:=by rw [S.len,HNN.u]
  have QT:=jA (Js (some ⟨d,0,none⟩) W n wr (Xg hW rfl) (by omega) (by omega) S.all);rw [hO.u,hl]at QT;clear S hO hW;go_wp2_with (go_at_call 135;refine QT.u.mono ?_;rintro e w3 ⟨rfl,hI3,rfl⟩);go_ret;exact⟨_,_,rfl,hI3,by rw [HB.u];exact bel⟩
theorem jhu {x y:Nat}(h:y≤x):(0:Int)≤Jd x y:=by
 rcases jt y x with h1|h1;·rw [Vf h1];decide
 ·have:x=y:=by omega
  rw [this,YX];decide
theorem jft {x y:Nat}(h:x<y): ¬(0:Int)≤Jd x y:=by rw [Ve h];decide
theorem jeP {w:World}{base g:Nat}{e:TypeId}{d:Nat}(hb:base≤g)(h:w.heap[g]?=some (.cells #[.int .i64 (d:Int)] e (0,0))):w.ownsRow base e 1 (.slice (some ⟨g,0,none⟩) 1 1) 1 (yT [d]):=
 ⟨rfl,.inr ⟨g,1,_,rfl,hb,h,jO _,by decide,rfl,rfl⟩⟩
theorem IntsAt.set {w:World}{oa:Option Addr}{L:List Nat}{d i:Nat}{v:Value}(h:IntsAt w oa L)(hne: ∀a,oa=some a→d≠a.block):IntsAt (w.setCell ⟨d,i,none⟩ v) oa L:=⟨fun j hj=>by
 obtain⟨a,h1,h2,h3⟩:=h.cells j hj;have hb:=(xp.refl d w).setCell i v;refine⟨a,h1,by rw [hb.size];exact h2,?_⟩;have hblk:(a.add j).block≠d:=by rw [xy];exact fun e=>hne a h1 e.symm
 rw [qh (w:=w) (hb.block _ hblk)];exact h3⟩
def cellN(w:World)(b i:Nat):Nat:=match w.cell? ⟨b,i,none⟩with|some v=>(intOf v).toNat|none=>0
theorem Za {w:World}{b:Nat}{L:List Nat}{T:TypeId}(h:w.heap[b]?=some (.cells (yT L).toArray T (0,0)))(i:Nat)(hi:i<L.length):cellN w b i=dAt L i:=by
 unfold cellN;rw [VN h i hi];simp [intOf]
theorem jga(x y:Nat)(oa ob:Option Addr)(ca cb:Nat)(w:World)(hy0:0<y)(ha:IntsAt w oa (dig x))(hb:IntsAt w ob (dig y))(hx:(dig x).length<1099511627776)(hy:(dig y).length<1099511627775):
 Calls prog 134 #[.slice oa (dig x).length ca,.slice ob (dig y).length cb] w fun e w'=> ∃oq cq or cr,e=.returned (.tuple #[.slice oq (dig (x/y)).length cq,.slice or (dig (x%y)).length cr])∧IntsAt w' oq (dig (x/y))∧IntsAt w' or (dig (x%y))∧Below w.heap.size w w':=by
 obtain⟨i0,hi,hz0,hz1,hz2⟩:=info_parts XL;have HI:=jA hi;have HZ0:=jA hz0;have HZ1:=jA hz1;have HZ2:=jA hz2;have HA:=jA ha;have HBB:=jA hb;clear hi hz0 hz1 hz2 ha hb;have S0:=Ji.init x y hy0;go_enter Tryz.func134,Tryz.ntmps134;go_upto_region 2 with(refine wpList_make_row _ rfl _ _ 67 rfl 3 i0 (.int .i64 0) underlying67 HI.u HZ0.u HZ1.u rfl .i64 .i64 (dig x).length rfl rfl (by rw [HZ2.u];omega) (by omega) ?_);rw [Yp];generalize hB:w.heap.size=d at*;refine xP (fun w1=>Below d w w1∧w1.heap[d]?=some (.cells (yT (List.replicate (dig x).length 0)).toArray 3 (0,0))) ⟨by rw [←hB];exact(jN _ _).alloc (jO _) _,by rw [←hB];exact xN rfl⟩ (fun w1 hw1=>?_);obtain⟨bel1,h1⟩:=hw1;have HB:=jA hB;clear hB;go_upto_region 4 with(fail);go_loopw [7,8] (fun v i wr=> ∃(k r:Nat) (z:Int) (oc:Option Addr) (cc:Nat) (Q:List Nat),k≤(dig x).length∧z=(k:Int)-1∧i=.int .i64 z∧v=.slice oc (dig r).length cc∧Ji x y k Q r∧IntsAt wr oc (dig r)∧Below d w wr∧wr.heap[d]?=some (.cells (yT Q).toArray 3 (0,0))) (fun _ i _=>(intOf i+1).toNat);case atStart=>exact⟨(dig x).length,0,(dig x).length-1,none,0,_,jO _,rfl,by go_num,by rw [yP];rfl,S0,by rw [yP];exact IntsAt.nil,bel1,h1⟩
 case round=>
 obtain⟨k,r,z,oc,cc,Q,hk,hz,rfl,rfl,S,hr,bel,hQ⟩:=hrel;clear bel1 h1 S0;by_cases h0:k=0
 ·subst h0;obtain rfl:z= -1:=by omega
  have hd:=jA S.done;have hl:=S.len;have QT:=jA (Js (some ⟨d,0,none⟩) Q (dig x).length wr (Xg hQ rfl) (by omega) (by omega) S.all);rw [hd.u.1,hl]at QT;have HR:=jA hr;clear S hQ hr hz;go_wp2_with (go_at_call 135;refine QT.u.mono ?_;rintro e w3 ⟨rfl,hI3,rfl⟩)
  go_ret2
  have HR2:=HR.u;rw [hd.u.2]at HR2;rw [hd.u.2];exact⟨_,_,oc,cc,rfl,hI3,HR2,by rw [HB.u];exact bel⟩
 obtain⟨i,rfl⟩: ∃i,k=i+1:=⟨k-1,by omega⟩;obtain rfl:z=(i:Int):=by omega
 have hlt:i<(dig x).length:=by omega
 have hi0:(0:Int)≤i:=by omega
 have hix:(i:Int)<((dig x).length:Int):=by omega
 obtain⟨a0,hoa,hac⟩:=HA.u.get i hlt;have hablk:a0.block<d:=by
  obtain⟨a1,h2,h3,_⟩:=HA.u.cells i hlt;rw [hoa]at h2;cases h2;rw [HB.u]at h3;exact h3
 have hac3:wr.cell? (a0.add i)=some (.int .i64 ((dAt (dig x) i:Nat):Int)):=by rw [bel.cell (p:=a0.add i) (by rw [xy];exact hablk)];exact hac
 have D0:=S.digit hlt;have hai:dAt (dig x) i<10:=xz (xu x) i;have D1:XS x y i Q (dAt (dig x) i+10*r):=D0;have hrl:(dig r).length≤(dig y).length:=xw _ _ (Nat.lt_trans S.lt (xY y));subst hoa;clear D0 S hac hz h0;generalize dAt (dig x) i=a at*;have hdw:d≤wr.heap.size:=by have:=lt_of_heap hQ;omega
 obtain⟨w0,rfl⟩: ∃w0,w0=wr:=⟨_,rfl⟩;obtain⟨B2,hB2⟩: ∃B2,B2=w0.heap.size:=⟨_,rfl⟩;go_upto_region 7 with(fail);refine xP (fun w4=>Below B2 w0 w4∧w4.heap[B2]?=some (.cells #[.int .i64 (a:Int)] 3 (0,0))) ⟨by rw [hB2];exact(jN _ _).alloc (jO _) _,by rw [hB2];exact xN rfl⟩ (fun w4 hw4=>?_);obtain⟨bel4,h4⟩:=hw4;rw [←hB2];have own4:=jeP (jO B2) h4;have HB2:=jA hB2;have HR:=jA hr;have HQ:=jA hQ;have HD1:=jA D1;have HBEL:=jA bel;clear h4 hB2 hr hQ D1 bel hac3;go_upto_region 8 with(fail);go_loopw [9,29] (fun v j wi=> ∃k:Nat,k≤(dig r).length∧j=.int .i64 k∧Below B2 w0 wi∧wi.ownsRow B2 3 1 v (k+1) (yT (a::(dig r).take k))) (fun _ j _=>(dig r).length-(intOf j).toNat);case atStart=>exact⟨0,by omega,rfl,bel4,by rw [qe];exact own4⟩
 case round=>
 obtain⟨j,hj,rfl,beli,own⟩:=hrel;clear bel4 own4;by_cases hjr:j<(dig r).length
 ·have hdj:decide ((j:Int)<((dig r).length:Int))=true:=by simp;omega
  have hIr:IntsAt wr oc (dig r):=HR.u.below (HB2.u▸beli);obtain⟨r0,hor,hrc⟩:=hIr.get j hjr;have hrc2:wr.cell? (r0.add j)=some (.int .i64 ((dAt (dig r) j:Nat):Int)):=hrc;have hjl:(j:Int)<((dig r).length:Int):=by omega
  have hj0:(0:Int)≤j:=by omega
  have hbw:B2≤wr.heap.size:=by have:=beli.size;rw [←HB2.u]at this;exact this
  have htk:(dig r).take (j+1)=(dig r).take j++ [dAt (dig r) j]:=by
   rw [jk hjr];simp [dAt,jW,hjr]
  have HTK:=jA htk;subst hor;clear hIr hrc htk;generalize dAt (dig r) j=e0 at*;go_upto_region 11 with(at_builtin;refine kQ _ rfl (.tmp 33) (.tmp 35) 67 rfl B2 3 i0 (.int .i64 0) 1 8 underlying67 HI.u HZ0.u HZ1.u HZ2.u rfl (by decide) u9 (j+1) _ rfl (own.alloc _) ⟨wr.heap.size,0,none⟩ 1 1 (yT [e0]) rfl rfl ?c1 ?c2 ?c3 ?c4 ?c5 ?_);case c1=>exact KZ wr [e0] _ _ rfl
  case c2=>exact Qt _
  case c3=>unfold maxLen;omega
  case c4=>omega
  case c5=>first|omega|(simp;omega)
  intro v5 w5 own5 hg5 _;have bel5:Below B2 w0 w5:=(beli.alloc hbw _).grown hg5 (by simp;omega) (fun q hq=>(own.lt q hq).1);rw [Jg,vU,←HTK.u]at own5;have OWN5:=jA own5;clear own5 own hg5 beli hrc2;go_wp2_with fail;go_roundw;case rel=>exact⟨j+1,by omega,by go_num,bel5,OWN5.u⟩
  case measure=>simp [intOf];omega
 ·have hdj:decide ((j:Int)<((dig r).length:Int))=false:=by simp;omega
  obtain rfl:j=(dig r).length:=by omega
  rw [jc (jO _)]at own;have hcl:(a::dig r).length=(dig r).length+1:=rfl;obtain⟨on,cn,rfl,hcn,hfn,hIn⟩:=VL (L:=a::dig r) own;obtain⟨hAl,htr⟩:=jbU a r hai;have QT:=jA (Js on (a::dig r) cn wr hIn (by rw [hcl];omega) hcn hAl);rw [htr]at QT;have hQ2:=xK beli (lt_of_heap HQ.u |> fun h=>by rw [HB2.u];exact h) HQ.u;have bel2:Below d w wr:=HBEL.u.trans (beli.mono (by rw [HB2.u];exact hdw));have hdB:d<B2:=by rw [HB2.u];exact lt_of_heap HQ.u
  obtain⟨R,hR⟩: ∃R,R=a+10*r:=⟨_,rfl⟩;rw [←hR]at QT HD1;clear hIn own HQ HBEL HR beli hAl htr hR;go_upto_region 13 with(go_at_call 135;refine QT.u.mono ?_;rintro e w6 ⟨rfl,hI6,rfl⟩);have hfd: ∀a,on=some a→d<a.block:=fun a h=>jV hdB (hfn a h);go_loopw [7] (fun v wi=> ∃(R:Nat) (oc:Option Addr) (cc:Nat) (Q:List Nat),v=.slice oc (dig R).length cc∧XS x y i Q R∧IntsAt wi oc (dig R)∧(∀a,oc=some a→d<a.block)∧Below d w wi∧wi.heap[d]?=some (.cells (yT Q).toArray 3 (0,0))) (fun _ wi=>10-cellN wi d i);case atStart=>exact⟨R,on,cn,Q,rfl,HD1.u,hI6,hfd,bel2,hQ2⟩
  case round=>
  clear hI6 bel2 hQ2 HD1 QT hfd hfn hcn hcl hjr hdj hj;obtain⟨R1,oc,cc,Q1,rfl,S,hI,hfd,bel,hQ⟩:=hrel;have hRl:(dig R1).length≤(dig y).length+1:=by
   refine xw _ _ ?_;have h1:=S.lt;have h2:=xY y;rw [jr];omega
  have QC:=jA (VE R1 y oc ob cc cb wr hI (HBB.u.below (by rw [HB.u];exact bel)) (by omega) (by omega));have hdl:d<wr.heap.size:=lt_of_heap hQ;have hQl:=S.len;have HM:=jA (Za hQ i (by omega));by_cases hge:y≤R1
  ·have hc0:=jhu hge;have SN:=jA (S.next hlt hge);have QS:=jA (fun w7 h1 h2=>Ym R1 y oc ob cc cb w7 hge h1 h2 (by omega) (by omega));have HGE:=jA hge;clear S hge;generalize Jd R1 y=c1 at*;have hdc:decide ((0:Int)≤c1)=true:=by simp;exact hc0
   go_upto_region 15 with(first
    |(go_at_call 83;refine QC.u.mono ?_;rintro e w7 ⟨rfl,hb7⟩;have hI7:=hI.below hb7;have hB7:=HBB.u.below (Below.trans (by rw [HB.u];exact bel) (hb7.mono (by rw [HB.u];omega))))
    |(go_at_call 84;refine(QS.u w7 hI7 hB7).mono ?_;rintro e w8 ⟨oc8,cc8,rfl,hI8,hb8,hf8⟩))
   have hd7:d<w7.heap.size:=jV hdl hb7.size;have hQ8:=xK hb8 hd7 (xK hb7 hdl hQ);have bel8:Below d w w8:=(bel.trans (hb7.mono (jZ hdl))).trans (hb8.mono (jZ hd7));have hc8:=VN hQ8 i (by omega);have hfz:=jb w8 d i _ _ hQ8;have hf8d: ∀a,oc8=some a→d<a.block:=fun a h=>jV hd7 (hf8 a h);have SN2:Hid (XS x y i (Q1.set i (dAt Q1 i+1)) (R1-y)∧dAt Q1 i+1<10):=SN;have hq10:dAt Q1 i+1<10:=SN.u.2;have hmeas:dAt (Q1.set i (dAt Q1 i+1)) i=dAt Q1 i+1:=by
    have:i<Q1.length:=by omega
    simp [dAt,jW,this]
   have HMS:=jA hmeas;clear SN QS QC hI hfd bel hQ hb7 hI7 hB7 hb8 hf8 hmeas;have hset:=jA (fun q=>YS hQ8 i q);have HI8:=jA hI8;have hls:i<(Q1.set i (dAt Q1 i+1)).length:=by rw [kD];omega
   clear hI8 hQ8;generalize hq:dAt Q1 i=q at*;have hQ9:(w8.setCell ⟨d,i,none⟩ (.int .i64 ((q:Int)+1))).heap[d]?=some (.cells (yT (Q1.set i (q+1))).toArray 3 (0,0)):=by
    have:=hset.u (q+1);push_cast at this;exact this
   have HQ9:=jA hQ9;clear hQ9 hset;go_wp2_with fail;go_roundw;case rel=>exact⟨R1-y,oc8,cc8,_,rfl,SN2.u.1,HI8.u.set (fun a h=>Nat.ne_of_lt (hf8d a h)),hf8d,xQ bel8 ((xp.refl d w8).setCell _ _) (jO _),HQ9.u⟩
   case measure=>
    rw [HM.u,Za HQ9.u i hls,HMS.u];omega
  ·have hc0:=jft (show R1<y by omega);have SD:=jA (S.done (by omega));clear S;generalize Jd R1 y=c1 at*;have hdc:decide ((0:Int)≤c1)=false:=by simp;omega
   go_wp2_with (go_at_call 83;refine QC.u.mono ?_;rintro e w7 ⟨rfl,hb7⟩);have hI7:=hI.below hb7;have bel7:=bel.trans (hb7.mono (jZ hdl));have hQ7:=xK hb7 hdl hQ;clear QC hI bel hQ HM hb7;go_roundw;case rel=>exact⟨i,R1,(i:Int)-1,oc,cc,Q1,by omega,rfl,by go_num,rfl,SD.u,hI7,bel7,hQ7⟩
   case measure=>simp [intOf]
end Go.Proofs.YtnohcdpnnhmpfaaGreatDoor
namespace Go.Proofs.YtnohcdpnnhmpfaaGreatDoor
open Go.RowKit Tryz ML ND FM
theorem jai(n:Nat)(oa:Option Addr)(ca:Nat)(w:World)(ha:IntsAt w oa (dig n))(hx:(dig n).length<1099511627776):
 Calls prog 81 #[.slice oa (dig n).length ca] w fun e w'=>e=.returned (.string ⟨(Qj n).toArray⟩)∧Below w.heap.size w w':=by
 obtain⟨i0,hi,hz0,hz1,hz2⟩:=info_parts YU;have HI:=jA hi;have HZ0:=jA hz0;have HZ1:=jA hz1;have HZ2:=jA hz2;have HA:=jA ha;clear hi hz0 hz1 hz2 ha;go_enter Tryz.func81,Tryz.ntmps81;by_cases hn0:n=0
 ·subst hn0;have hs:=jA (show Qj 0= [48]from rfl);have hl:(dig 0).length=0:=by rw [yP];rfl
  rw [hl];go_wp2_with fail;go_ret;rw [hs.u];exact⟨rfl,jN _ _⟩
 have hs:=jA (show Qj n=jea n from jT hn0);have hpos:0<(dig n).length:=by rw [zt (by omega)];simp
 have hnz:(((dig n).length:Int)==0)=false:=by rw [kE];omega
 have HFL:=jA (jaq n)
 have hdg:=jA (fun(j:Nat) (hj:j<(dig n).length)=>(show(jea n)[(dig n).length-1-j]'(by rw [jaq];omega)=UInt8.ofNat (dAt (dig n) j+48)by
  simp [jea,dAt,jW,hj];congr 2;congr 1;omega))
 obtain⟨F,hF⟩: ∃F,F=jea n:=⟨_,rfl⟩;go_upto_region 4 with(refine wpList_make_row _ rfl _ _ 91 rfl 5 i0 (.int .u8 0) underlying91 HI.u HZ0.u HZ1.u rfl .i64 .i64 (dig n).length rfl rfl (by rw [HZ2.u];omega) (by omega) ?_);rw [jbi];generalize hB:w.heap.size=d at*;obtain⟨l,hl⟩: ∃l,l=(dig n).length:=⟨_,rfl⟩;have hFl:F.length=l:=by rw [hF,HFL.u,hl]
 refine xP (fun w1=>Below d w w1∧w1.heap[d]?=some (.cells (Lib.byteCells (zQ F (dig n).length)).toArray 5 (0,0))) ⟨by rw [←hB];exact(jN _ _).alloc (jO _) _,by
  rw [←hB];have e:zQ F (dig n).length=List.replicate (dig n).length 0:=by unfold zQ;rw [qI (by omega)];simp
  rw [e];exact xN rfl⟩ (fun w1 hw1=>?_)
 obtain⟨bel1,h1⟩:=hw1;have HB:=jA hB;have HF:=jA hF;have HL:=jA hl;have HFl:=jA hFl;clear hB hF hl hFl;go_upto_region 5 with(fail);go_loopw [4] (fun i wr=> ∃k:Nat,k≤(dig n).length∧i=.int .i64 k∧Below d w wr∧wr.heap[d]?=some (.cells (Lib.byteCells (zQ F ((dig n).length-k))).toArray 5 (0,0))) (fun i _=>(dig n).length-(intOf i).toNat);case atStart=>exact⟨0,by omega,rfl,bel1,h1⟩
 case round=>
 obtain⟨k,hk,rfl,bel,hW⟩:=hrel;clear bel1 h1;by_cases hlt:k<(dig n).length
 ·have hd1:decide ((k:Int)<((dig n).length:Int))=true:=by simp;omega
  obtain⟨m,hm⟩: ∃m,(dig n).length-k=m+1:=⟨(dig n).length-k-1,by omega⟩;rw [hm]at hW;obtain⟨a0,hoa,hac⟩:=HA.u.get k hlt;have hablk:a0.block<d:=by
   obtain⟨a1,h2,h3,_⟩:=HA.u.cells k hlt;rw [hoa]at h2;cases h2;rw [HB.u]at h3;exact h3
  have hac3:wr.cell? (a0.add k)=some (.int .i64 ((dAt (dig n) k:Nat):Int)):=by rw [bel.cell (p:=a0.add k) (by rw [xy];exact hablk)];exact hac
  have hmF:m<F.length:=by rw [HFl.u,HL.u];omega
  have hFm:=jA (show F[m]=UInt8.ofNat (dAt (dig n) k+48)by
   have h:=hdg.u k hlt;have e:(dig n).length-1-k=m:=by omega
   simp only [e]at h;have h2: ∀(A B:Bytes) (hAB:A=B) (hA:m<A.length) (hB:m<B.length),A[m]=B[m]:=by intro A B hAB hA hB;subst hAB;rfl
   exact(h2 F (jea n) HF.u hmF (by rw [←HF.u];exact hmF)).trans h)
  have hdl:dAt (dig n) k<10:=xz (xu n) k;obtain⟨cv,hcv⟩:=jbx hW m (by rw [YC F (m+1) (by omega)];omega);have hfz:=jb wr d m _ _ hW;have hmi:((dig n).length:Int)-1-(k:Int)=(m:Int):=by omega
  have hml:(m:Int)<((dig n).length:Int):=by omega
  have hts:=jA (jag F m hmF);have HW:=jA hW;have hkn:(dig n).length-(k+1)=m:=by omega
  have HKN:=jA hkn;subst hoa;clear hac hW hm hkn;generalize dAt (dig n) k=a at*;go_upto_region 6 with(fail);refine xP (fun w4=>Below d w w4∧w4.heap[d]?=some (.cells (Lib.byteCells (zQ F m)).toArray 5 (0,0))) ?_ (fun w4 hw4=>?_)
  ·have e:=jca HW.u m F[m];have hv:((F[m]).toNat:Int)=(a:Int)+48:=by
    rw [hFm.u];have:(UInt8.ofNat (a+48)).toNat=a+48:=by simp;omega
    rw [this];omega
   rw [hts.u,hv]at e;exact⟨xQ bel ((xp.refl d wr).setCell _ _) (jO _),e⟩
  obtain⟨bel4,hW4⟩:=hw4;clear hac3 hcv hfz HW bel hts hFm;go_wp2_with fail;go_roundw;case rel=>exact⟨k+1,by omega,by go_num,bel4,by rw [HKN.u];exact hW4⟩
  case measure=>simp [intOf];omega
 ·have hd1:decide ((k:Int)<((dig n).length:Int))=false:=by simp;omega
  obtain rfl:k=(dig n).length:=by omega
  have e:zQ F ((dig n).length-(dig n).length)=F:=by rw [Nat.sub_self];simp [zQ]
  rw [e]at hW;have hFn:(dig n).length=F.length:=by rw [HFl.u,HL.u]
  have hrange:wr.rangeAt d 0 (Lib.byteCells F):=fun j v hv=>by
   rw [js,jM wr d j _ _ _ hW];simpa using hv
  have HR:=jA hrange;have HFN:=jA hFn;clear hrange hW hFn e;go_upto_region 8 with(fail);go_wp2_with (refine zP rfl _ 91 9 5 rfl underlying91 underlying5 underlying9 d (dig n).length (dig n).length F HFN.u rfl HR.u ?_);go_ret;rw [hs.u,←HF.u,HB.u];exact⟨rfl,bel⟩
end Go.Proofs.YtnohcdpnnhmpfaaGreatDoor
