/-
  exact.trim: rows of limbs.
  cmp.Compare of ints and of limbs; exact.Cmp.
  exact.Add.
  exact.Mul.
  (exact.Nat).less, in place.
  slices.Clone of limbs, (exact.Nat).Sub.
  (exact.Nat).more, in place.
  exact.Of, (exact.Nat).Zero.
  (exact.Nat).times, (exact.Nat).by, exact.Of.
-/
import Derived.Test.YtnohcdpnnhmpfaaGreatDoorK04
import Derived.Test.YtnohcdpnnhmpfaaGreatDoorK02
import Derived.Test.YtnohcdpnnhmpfaaGreatDoorChecked
import Derived.OwnWalk
import Derived.WalkKit
import Derived.Deep.CutBlock
import Derived.Deep.DeepCutAuto
import Derived.Lib.Hide
import Derived.Deep.RegionWith
import Derived.Deep.OwnRows
import Derived.Test.YtnohcdpnnhmpfaaGreatDoorK01
import Derived.Lib.SliceRun
set_option linter.unusedVariables false
set_option linter.unusedSimpArgs false
set_option maxRecDepth 100000
set_option maxHeartbeats 4000000
namespace Go.Proofs.YtnohcdpnnhmpfaaGreatDoor
open Go.RowKit ML NL
theorem info_limb:(Tryz.prog.info? 180).map (fun i=>(i.zero,i.size,i.bytes))=some (some (.int .u32 0),1,4):=by kernel_rfl
theorem news_uvals(w:World)(news:List Nat)(t:TypeId)(n:Nat)(hn:w.heap.size=n): ∀j u,(uvals news)[j]?=some u→(w.alloc (.cells (uvals news).toArray t)).cell? ((⟨n,0,none⟩:Addr).add j)=some u:=news_new w (uvals news) t n hn
theorem exTrim_any(oa:Option Addr)(L:List Nat)(cap:Nat)(w:World)(h:LimbsAt w oa L)(hl:L.length<9223372036854775808)(hcap:L.length≤cap)(hA:AllD L):
 Calls Tryz.prog 138 #[.slice oa L.length cap] w fun e w'=>e=.returned (.slice oa (trimL L).length cap)∧LimbsAt w oa (trimL L)∧w'=w:=by
 have H:=Lib.hid h;have HA:=Lib.hid hA;clear h hA;go_enter Tryz.func138,Tryz.ntmps138;go_wp2_with fail;go_loopw [0] (fun v wr=> ∃k:Nat,k≤L.length∧v=.slice oa k cap∧(∀i,k≤i→L.getD i 0=0)∧wr=w) (fun v _=>match v with| .slice _ n _=>n|_=>0);case atStart=>exact⟨L.length,Nat.le_refl _,rfl,fun i hi=>by simp [List.getD_eq_getElem?_getD,List.getElem?_eq_none hi],rfl⟩
 case round=>
 obtain⟨k,hk,rfl,hz,rfl⟩:=hrel;have HZ:=Lib.hid hz;clear hz;by_cases h0:k=0
 ·subst h0;have ht:=take_trim L 0 HA.out (by omega) HZ.out (.inl rfl);rw [List.take_zero]at ht;have HT:=Lib.hid ht;clear ht;go_wp2_with fail;go_ret;rw [←HT.out];exact⟨rfl,⟨fun i hi=>by simp at hi⟩,rfl⟩
 obtain⟨j,rfl⟩: ∃j,k=j+1:=⟨k-1,by omega⟩;obtain⟨a,rfl,hc⟩:=H.out.get j (by omega);have hk63:(j:Int)+1<9223372036854775808:=by omega
 have hjc:(j:Int)≤cap:=by omega
 by_cases hd0:L.getD j 0=0
 ·
   have hz2:=Lib.hid (show ∀i,j≤i→L.getD i 0=0 from fun i hi=>by
    by_cases he:i=j;·rw [he];exact hd0
    ·exact HZ.out i (by omega))
   rw [hd0]at hc;clear hd0;go_wp2_with fail;go_roundw;case rel=>exact⟨j,by omega,by go_num,hz2.out,trivial⟩
   case measure=>simp
 ·have ht:=take_trim L (j+1) HA.out hk HZ.out (.inr (by simpa using hd0));have hl2:(trimL L).length=j+1:=by rw [←ht,List.length_take];omega
  have hI:=H.out.take (j+1);rw [ht]at hI;have HI:=Lib.hid hI;have HL2:=Lib.hid hl2;clear ht hl2 hI;have hdf:(((L.getD j 0:Nat):Int)==0)=false:=by rw [beq_eq_false_iff_ne];intro h;apply hd0;omega
  clear hd0 h0;generalize L.getD j 0=d at*;go_wp2_with fail;go_ret;rw [HL2.out];exact⟨rfl,HI.out,rfl⟩
def cmpZ(a b:Int):Int:=if a<b then -1 else if b<a then 1 else 0
theorem cmpInt_any(a b:Int)(w:World):
 Calls Tryz.prog 101 #[.int .i64 a,.int .i64 b] w fun e w'=>e=.returned (.int .i64 (cmpZ a b))∧w'=w:=by
 go_enter Tryz.func101,Tryz.ntmps101;by_cases h1:a<b
 ·have hc:=Lib.hid (show cmpZ a b= -1 from if_pos h1);go_wp2;go_ret;exact⟨by rw [hc.out];rfl,rfl⟩
 by_cases h2:b<a
 ·have hc:=Lib.hid (show cmpZ a b=1 by unfold cmpZ;rw [if_neg h1,if_pos h2]);go_wp2;go_ret;exact⟨by rw [hc.out];rfl,rfl⟩
 ·have hc:=Lib.hid (show cmpZ a b=0 by unfold cmpZ;rw [if_neg h1,if_neg h2]);go_wp2;go_ret;exact⟨by rw [hc.out];rfl,rfl⟩
theorem cmpLimb_any(a b:Int)(w:World):
 Calls Tryz.prog 139 #[.int .u32 a,.int .u32 b] w fun e w'=>e=.returned (.int .i64 (cmpZ a b))∧w'=w:=by
 go_enter Tryz.func139,Tryz.ntmps139;by_cases h1:a<b
 ·have hc:=Lib.hid (show cmpZ a b= -1 from if_pos h1);go_wp2;go_ret;exact⟨by rw [hc.out];rfl,rfl⟩
 by_cases h2:b<a
 ·have hc:=Lib.hid (show cmpZ a b=1 by unfold cmpZ;rw [if_neg h1,if_pos h2]);go_wp2;go_ret;exact⟨by rw [hc.out];rfl,rfl⟩
 ·have hc:=Lib.hid (show cmpZ a b=0 by unfold cmpZ;rw [if_neg h1,if_neg h2]);go_wp2;go_ret;exact⟨by rw [hc.out];rfl,rfl⟩
theorem cmpZ_lt {a b:Nat}(h:a<b):cmpZ (a:Int) (b:Int)= -1:=if_pos (by omega)
theorem cmpZ_gt {a b:Nat}(h:b<a):cmpZ (a:Int) (b:Int)=1:=by unfold cmpZ;rw [if_neg (by omega),if_pos (by omega)]
theorem cmpZ_eq {a b:Nat}(h:a=b):cmpZ (a:Int) (b:Int)=0:=by unfold cmpZ;rw [if_neg (by omega),if_neg (by omega)]
theorem exCmp_any(x y:Nat)(oa ob:Option Addr)(ca cb:Nat)(w:World)(ha:LimbsAt w oa (dig x))(hb:LimbsAt w ob (dig y))(hx:(dig x).length<1099511627776)(hy:(dig y).length<1099511627776):
 Calls Tryz.prog 95 #[.slice oa (dig x).length ca,.slice ob (dig y).length cb] w fun e w'=>e=.returned (.int .i64 (cmpI x y))∧Below w.heap.size w w':=by
 have HA:=Lib.hid ha;have HBB:=Lib.hid hb;have QI:=Lib.hid cmpInt_any;have QL:=Lib.hid cmpLimb_any;clear ha hb;go_enter Tryz.func95,Tryz.ntmps95;by_cases hl:(dig x).length<(dig y).length
 ·have hc:=Lib.hid (cmpI_lt (lt_of_length_lt hl));have hz:=cmpZ_lt hl;clear hl;go_wp2_with (go_at_call 101;refine(QI.out _ _ _).mono ?_;rintro e w1 ⟨rfl,rfl⟩);go_ret;exact⟨by rw [hc.out];rfl,Below.refl _ _⟩
 by_cases hg:(dig y).length<(dig x).length
 ·have hc:=Lib.hid (cmpI_gt (lt_of_length_lt hg));have hz:=cmpZ_gt hg;clear hg hl;go_wp2_with (go_at_call 101;refine(QI.out _ _ _).mono ?_;rintro e w1 ⟨rfl,rfl⟩);go_ret;exact⟨by rw [hc.out];rfl,Below.refl _ _⟩
 have hll:(dig x).length=(dig y).length:=by omega
 have hz:=cmpZ_eq hll;have HLL:=Lib.hid hll;clear hll hl hg;go_upto_region 5 with(go_at_call 101;refine(QI.out _ _ _).mono ?_;rintro e w1 ⟨rfl,rfl⟩);clear hz QI;go_loopw [6] (fun i wr=> ∃(k:Nat) (z:Int),k≤(dig x).length∧z=(k:Int)-1∧i=.int .i64 z∧(dig x).drop k=(dig y).drop k∧Below w1.heap.size w1 wr) (fun i _=>(intOf i+1).toNat);case atStart=>exact⟨(dig x).length,(dig x).length-1,Nat.le_refl _,rfl,by go_num,by rw [List.drop_of_length_le (Nat.le_refl _),List.drop_of_length_le (by have:=HLL.out;omega)],Below.refl _ _⟩
 case round=>
 obtain⟨k,z,hk,hz,rfl,hdr,bel⟩:=hrel;by_cases h0:k=0
 ·subst h0;obtain rfl:z= -1:=by omega
  have hxy:=eq_of_dig (by simpa using hdr);have hc:=Lib.hid (show cmpI x y=0 by rw [hxy];exact cmpI_eq y);clear hz hdr hxy;go_wp2_with fail;go_ret;exact⟨by rw [hc.out];rfl,bel⟩
 obtain⟨j,rfl⟩: ∃j,k=j+1:=⟨k-1,by omega⟩;obtain rfl:z=(j:Int):=by omega
 have hll:=HLL.out;have hjx:j<(dig x).length:=by omega
 have hjy:j<(dig y).length:=by omega
 obtain⟨a0,hoa,hac⟩:=(HA.out.below bel).get j hjx;obtain⟨b0,hob,hbc⟩:=(HBB.out.below bel).get j hjy;have hlt:=Lib.hid (fun h=>cmpI_lt (lt_of_digit hjx hjy hdr h));have hgt:=Lib.hid (fun h=>cmpI_gt (lt_of_digit hjy hjx hdr.symm h));have heq:=Lib.hid (fun h=>drop_same hjx hjy hdr h);have hj0:(0:Int)≤j:=by omega
 have hjlx:(j:Int)<((dig x).length:Int):=by omega
 have hjly:(j:Int)<((dig y).length:Int):=by omega
 subst hoa;subst hob;clear hz hdr h0 hll hk;generalize (dig x).getD j 0=a at*;generalize (dig y).getD j 0=b at*;obtain⟨cz,hcz⟩: ∃cz,cz=cmpZ (a:Int) (b:Int):=⟨_,rfl⟩;have hca:(cz≠0→cmpI x y=cz)∧(cz=0→a=b):=by
  rcases Nat.lt_trichotomy a b with h|h|h;·rw [hcz,cmpZ_lt h];exact⟨fun _=>hlt.out h,fun h=>by omega⟩
  ·rw [hcz,cmpZ_eq h];exact⟨fun h=>absurd rfl h,fun _=>h⟩
  ·rw [hcz,cmpZ_gt h];exact⟨fun _=>hgt.out h,fun h=>by omega⟩
 have HCA:=Lib.hid hca;have QL2:=Lib.hid (fun w=>cmpLimb_any (a:Int) (b:Int) w);rw [←hcz]at QL2;clear hcz hca hlt hgt QL;go_upto_region 7 with(fail);refine Seg.wp_region_segs (fun w'=> ∃n,w'=wr.drewN n) [] [0,1,2,3,4,5,6,7] 8 (by kernel_rfl) (by kernel_rfl) (fun _ _ d _ _ h=>by cases d<;>exact h) (⟨1,rfl⟩) ?_;simp only [List.map_cons,List.map_nil,Seg.opAt,List.drop_succ_cons,List.drop_zero,Seg.wpSegs,Array.getD_eq_getD_getElem?,List.getElem?_toArray,List.getElem?_cons_succ,List.getElem?_cons_zero,Option.getD_some];repeat (any_goals (first|go_big_quiet_step (fail)|quiet_step (fail)))
 refine wpQuiet_nil ?_;by_cases hc0:cz=0
 ·subst hc0;have he:=Lib.hid (heq.out (HCA.out.2 rfl));go_wp2_with (go_at_call 139;refine(QL2.out _).mono ?_;rintro e w3 ⟨rfl,rfl⟩);go_roundw;case rel=>exact⟨j,(j:Int)-1,by omega,rfl,by go_num,he.out,bel.drew⟩
  case measure=>simp [intOf]
 ·have hc:=Lib.hid (HCA.out.1 hc0);have hcb:(cz !=0)=true:=by simpa using hc0
  go_wp2_with (go_at_call 139;refine(QL2.out _).mono ?_;rintro e w3 ⟨rfl,rfl⟩);go_ret;exact⟨by rw [hc.out];rfl,bel.drew⟩
theorem AddSt_fin {x y u:Nat}{O:List Nat}(S:AddSt x y O u)(h1:(dig x).length≤O.length)(h2:(dig y).length≤O.length):AllD (O++ [u])∧trimL (O++ [u])=dig (x+y):=by
 have hu:=S.up;have e:=S.eq;rw [List.take_of_length_le h1,List.take_of_length_le h2,val_dig,val_dig]at e;refine⟨all_snoc S.all (by omega),?_⟩;unfold trimL;rw [val_snoc,e]
theorem exAdd_any(x y:Nat)(oa ob:Option Addr)(ca cb:Nat)(w:World)(ha:LimbsAt w oa (dig x))(hb:LimbsAt w ob (dig y))(hx:(dig x).length<1099511627776)(hy:(dig y).length<1099511627776):
 Calls Tryz.prog 91 #[.slice oa (dig x).length ca,.slice ob (dig y).length cb] w fun e w'=> ∃oc cc,e=.returned (.slice oc (dig (x+y)).length cc)∧LimbsAt w' oc (dig (x+y))∧Below w.heap.size w w':=by
 obtain⟨i0,hi,hz0,hz1,hz2⟩:=info_parts info_limb;have HI:=Lib.hid hi;have HZ0:=Lib.hid hz0;have HZ1:=Lib.hid hz1;have HZ2:=Lib.hid hz2;have HA:=Lib.hid ha;have HBB:=Lib.hid hb;clear hi hz0 hz1 hz2 ha hb;go_enter Tryz.func91,Tryz.ntmps91
 go_upto_if 13 with(fail)
 go_cut [0,1] (fun v0 v1 w'=> ∃(X Y:Nat) (oA oB:Option Addr) (cA cB:Nat),v0=.slice oA (dig X).length cA∧v1=.slice oB (dig Y).length cB∧X+Y=x+y∧(dig Y).length≤(dig X).length∧(dig X).length<1099511627776∧LimbsAt w oA (dig X)∧LimbsAt w oB (dig Y)∧w'=w);case first=>
  by_cases hl:(dig x).length<(dig y).length
  ·have hd:decide (((dig x).length:Int)<((dig y).length:Int))=true:=by simp;omega
   go_wp2_with fail;go_meet;exact⟨y,x,ob,oa,cb,ca,rfl,rfl,Nat.add_comm _ _,by omega,hy,HBB.out,HA.out,rfl⟩
  ·have hd:decide (((dig x).length:Int)<((dig y).length:Int))=false:=by simp;omega
   go_wp2_with fail;go_meet;exact⟨x,y,oa,ob,ca,cb,rfl,rfl,rfl,by omega,hx,HA.out,HBB.out,rfl⟩
 case rest=>
 clear HA HBB;obtain⟨X,Y,oA,oB,cA,cB,rfl,rfl,hXY,hYX,hXl,hA,hBb,hw0⟩:=hcut;replace hw0:=hw0.symm;subst hw0;have HA:=Lib.hid hA;have HBB:=Lib.hid hBb;have HXY:=Lib.hid hXY;clear hA hBb hXY hx hy;have hC:((dig X).length:Int)+1=(((dig X).length+1:Nat):Int):=by omega
 have HC:=Lib.hid hC;clear hC;go_upto_region 4 with(refine wpList_make_own _ rfl _ _ 88 rfl w.heap.size 180 i0 (.int .u32 0) 1 Tryz.underlying88 HI.out HZ0.out HZ1.out .i64 .i64 (((dig X).length:Int)+1) ((dig X).length+1) rfl rfl HC.out (by rw [HZ2.out];omega) (by unfold maxLen;omega) (Nat.le_refl _) ?_);intro w1 own1 hg1;have bel1:Below w.heap.size w w1:=(Below.refl _ _).grown hg1 (Nat.le_refl _) (by simp);have S0:=AddSt.init X Y;clear hg1;go_upto_region 6 with(fail);go_loopw [5,6,22] (fun v z i wr=> ∃(O:List Nat) (u:Nat),z=.int .u32 u∧i=.int .i64 O.length∧O.length≤(dig X).length∧AddSt X Y O u∧Below w.heap.size w wr∧wr.ownsRow w.heap.size 180 1 v O.length (uvals O)) (fun _ _ i _=>(dig X).length-(intOf i).toNat);case atStart=>exact⟨[],0,rfl,rfl,by simp,S0,bel1,own1⟩
 case round=>
 obtain⟨O,u,rfl,rfl,hOl,S,bel,own⟩:=hrel;clear S0 bel1 own1;have hup:=S.up;by_cases hm:O.length<(dig X).length
 ·have SN:=Lib.hid (S.next (.inl hm));have SN2:Hid (AddSt X Y (O++ [(lAt (dig X) O.length+lAt (dig Y) O.length+u)%1000000000]) ((lAt (dig X) O.length+lAt (dig Y) O.length+u)/1000000000)):=SN;have h1:lAt (dig X) O.length<1000000000:=getD_lt (all_dig X) O.length;have h2:lAt (dig Y) O.length<1000000000:=getD_lt (all_dig Y) O.length;obtain⟨a0,hoa,hac⟩:=(HA.out.below bel).get O.length hm;have hac2:wr.cell? (a0.add O.length)=some (.int .u32 ((lAt (dig X) O.length:Nat):Int)):=hac;have hil:(O.length:Int)<((dig X).length:Int):=by omega
  have hi0:(0:Int)≤O.length:=by omega
  have hbY:=Lib.hid (fun(h:O.length<(dig Y).length)=>(HBB.out.below bel).get O.length h);have hY0:=Lib.hid (fun(h: ¬O.length<(dig Y).length)=>(show lAt (dig Y) O.length=0 by unfold lAt;rw [List.getD_eq_getElem?_getD,List.getElem?_eq_none (by omega)];rfl));have bsz:=bel.size;clear S SN hac;subst hoa;obtain⟨b,hbe⟩: ∃b,b=lAt (dig Y) O.length:=⟨_,rfl⟩;rw [←hbe]at SN2 h2;generalize lAt (dig X) O.length=a at*
  go_upto_if 33 with(fail)
  go_cut [8] (fun v w'=>v=.int .u32 ((a:Int)+(u:Int)+(b:Int))∧w'=wr);case first=>
   by_cases hY:O.length<(dig Y).length
   ·have hd:decide ((O.length:Int)<((dig Y).length:Int))=true:=by simp;omega
    obtain⟨b0,hob,hbc⟩:=hbY.out hY;have hbc2:wr.cell? (b0.add O.length)=some (.int .u32 (b:Int)):=by rw [hbe];exact hbc
    have hjl:(O.length:Int)<((dig Y).length:Int):=by omega
    subst hob;clear hbc hbe;go_wp2_with fail;go_meet;exact⟨by go_num,rfl⟩
   ·have hd:decide ((O.length:Int)<((dig Y).length:Int))=false:=by simp;omega
    have hb0:b=0:=by rw [hbe];exact hY0.out hY
    subst hb0;clear hbe;go_wp2_with fail;go_meet;exact⟨by go_num,rfl⟩
  case rest=>
  obtain⟨rfl,hw0⟩:=hcut;replace hw0:=hw0.symm;subst hw0;rw [show a+b+u=a+u+b by omega]at SN2;clear hbY hY0 hbe hac2;go_upto_region 13 with(at_builtin;refine wpList_append_own _ rfl (.tmp 42) (.tmp 45) 88 rfl w.heap.size 180 i0 (.int .u32 0) 1 4 Tryz.underlying88 HI.out HZ0.out HZ1.out HZ2.out rfl (by decide) u5 O.length (uvals O) rfl (own.alloc _) ⟨wr.heap.size,0,none⟩ 1 1 (uvals [(a+u+b)%1000000000]) rfl rfl ?c1 ?c2 ?c3 ?c4 ?c5 ?_);case c1=>exact news_uvals wr [(a+u+b)%1000000000] _ _ rfl
  case c2=>exact uvals_one _
  case c3=>unfold maxLen;omega
  case c4=>omega
  case c5=>first|omega|(simp;omega)
  intro v5 w5 own5 hg5 _;have bel5:Below w.heap.size w w5:=(bel.alloc bsz _).grown hg5 (by simp;omega) (fun q hq=>(own.lt q hq).1);rw [uvals_append]at own5;have OWN5:w5.ownsRow w.heap.size 180 1 v5 (O++ [(a+u+b)%1000000000]).length (uvals (O++ [(a+u+b)%1000000000])):=by rw [List.length_append];exact own5
  clear own5 own hg5 bel;go_wp2_with fail;go_roundw;case rel=>exact⟨O++ [(a+u+b)%1000000000],(a+u+b)/1000000000,by go_num,by rw [List.length_append,List.length_singleton];go_num,by rw [List.length_append,List.length_singleton];omega,SN2.out,bel5,OWN5⟩
  case measure=>simp [intOf];omega
 ·have hd:decide ((O.length:Int)<((dig X).length:Int))=false:=by simp;omega
  have hOX:O.length=(dig X).length:=by omega
  obtain⟨hAl,htr⟩:=AddSt_fin S (by omega) (by omega);rw [HXY.out]at htr;have HAl:=Lib.hid hAl;have HTR:=Lib.hid htr;have bsz:=bel.size;clear S hAl htr hOX;go_upto_region 15 with(first
   |(at_builtin;refine wpList_append_own _ rfl (.tmp 48) (.tmp 50) 88 rfl w.heap.size 180 i0 (.int .u32 0) 1 4 Tryz.underlying88 HI.out HZ0.out HZ1.out HZ2.out rfl (by decide) u5 O.length (uvals O) rfl (own.alloc _) ⟨wr.heap.size,0,none⟩ 1 1 (uvals [u]) rfl rfl ?c1 ?c2 ?c3 ?c4 ?c5 ?_))
  case c1=>exact news_uvals wr [u] _ _ rfl
  case c2=>exact uvals_one _
  case c3=>unfold maxLen;omega
  case c4=>omega
  case c5=>first|omega|(simp;omega)
  intro v5 w5 own5 hg5 _;have bel5:Below w.heap.size w w5:=(bel.alloc bsz _).grown hg5 (by simp;omega) (fun q hq=>(own.lt q hq).1);rw [uvals_append]at own5;have hol:(O++ [u]).length=O.length+1:=by simp
  obtain⟨oc,cc,rfl,hcc,_,hI⟩:=limbsAt_own (L:=O++ [u]) own5;have QT:=Lib.hid (exTrim_any oc (O++ [u]) cc w5 hI (by omega) hcc HAl.out);rw [HTR.out,hol]at QT;have HOL:=Lib.hid hol;clear own5 own hg5 bel hI hol;go_wp2_with (go_at_call 138;refine QT.out.mono ?_;rintro e w6 ⟨rfl,hI6,rfl⟩);go_ret;exact⟨oc,cc,rfl,hI6,bel5⟩
theorem made_uvals(n:Nat):madeCells #[Value.int .u32 0] n=(uvals (List.replicate n 0)).toArray:=by
 unfold madeCells uvals;apply Array.ext;·simp
 ·intro i h1 h2;simp [Nat.mod_one]
theorem cell_uvals {w:World}{b:Nat}{L:List Nat}{T:TypeId}(h:w.heap[b]?=some (.cells (uvals L).toArray T (0,0)))(i:Nat)(hi:i<L.length):w.cell? ⟨b,i,none⟩=some (.int .u32 ((lAt L i:Nat):Int)):=by
 rw [cell_of_row w b i _ _ _ h];simp [uvals,lAt,List.getD_eq_getElem?_getD,hi]
theorem set_uvals {w:World}{b:Nat}{L:List Nat}{T:TypeId}(h:w.heap[b]?=some (.cells (uvals L).toArray T (0,0)))(i d:Nat):(w.setCell ⟨b,i,none⟩ (.int .u32 (d:Int))).heap[b]?=some (.cells (uvals (L.set i d)).toArray T (0,0)):=by
 rw [heap_setCell_same w b i _ _ _ h];congr 2;simp [uvals,List.map_set]
theorem exMul_any(x y:Nat)(oa ob:Option Addr)(ca cb:Nat)(w:World)(ha:LimbsAt w oa (dig x))(hb:LimbsAt w ob (dig y))(hx:(dig x).length<1099511627776)(hy:(dig y).length<1099511627776):
 Calls Tryz.prog 90 #[.slice oa (dig x).length ca,.slice ob (dig y).length cb] w fun e w'=> ∃oc cc,e=.returned (.slice oc (dig (x*y)).length cc)∧LimbsAt w' oc (dig (x*y))∧Below w.heap.size w w':=by
 obtain⟨i0,hi,hz0,hz1,hz2⟩:=info_parts info_limb;have HI:=Lib.hid hi;have HZ0:=Lib.hid hz0;have HZ1:=Lib.hid hz1;have HZ2:=Lib.hid hz2;have HA:=Lib.hid ha;have HBB:=Lib.hid hb;clear hi hz0 hz1 hz2 ha hb;obtain⟨n,hn⟩: ∃n,n=(dig x).length+(dig y).length:=⟨_,rfl⟩;have hni:((dig x).length:Int)+((dig y).length:Int)=(n:Int):=by omega
 have hnb:n<2199023255552:=by omega
 have HNN:=Lib.hid hn;clear hn;go_enter Tryz.func90,Tryz.ntmps90;go_upto_region 2 with(refine wpList_make_row _ rfl _ _ 88 rfl 180 i0 (.int .u32 0) Tryz.underlying88 HI.out HZ0.out HZ1.out rfl .i64 .i64 n rfl rfl (by rw [HZ2.out];omega) (by omega) ?_);rw [made_uvals];generalize hB:w.heap.size=d at*;refine wp_abs (fun w1=>Below d w w1∧w1.heap[d]?=some (.cells (uvals (List.replicate n 0)).toArray 180 (0,0))) ⟨by rw [←hB];exact(Below.refl _ _).alloc (Nat.le_refl _) _,by rw [←hB];exact heap_at rfl⟩ (fun w1 hw1=>?_);obtain⟨bel1,h1⟩:=hw1;have S0:=MulSt.init x y;rw [←HNN.out]at S0;have HB:=Lib.hid hB;clear hB;go_upto_region 3 with(fail);go_loopw [19] (fun i wr=> ∃(k:Nat) (W:List Nat),k≤(dig x).length∧i=.int .i64 k∧MulSt x y k W∧Below d w wr∧wr.heap[d]?=some (.cells (uvals W).toArray 180 (0,0))) (fun i _=>(dig x).length-(intOf i).toNat);case atStart=>exact⟨0,_,by omega,rfl,S0,bel1,h1⟩
 case round=>
 obtain⟨i,W,hk,rfl,S,bel,hW⟩:=hrel;clear bel1 h1 S0;by_cases hlt:i<(dig x).length
 ·have hd1:decide ((i:Int)<((dig x).length:Int))=true:=by simp;omega
  have hi00:(0:Int)≤i:=by omega
  have hilx:(i:Int)<((dig x).length:Int):=by omega
  obtain⟨a0,hoa,hac⟩:=HA.out.get i hlt;have hablk:a0.block<d:=by
   obtain⟨a1,h2,h3,_⟩:=HA.out.cells i hlt;rw [hoa]at h2;cases h2;rw [HB.out]at h3;exact h3
  have hac2:w.cell? (a0.add i)=some (.int .u32 ((lAt (dig x) i:Nat):Int)):=hac;have hac3:wr.cell? (a0.add i)=some (.int .u32 ((lAt (dig x) i:Nat):Int)):=by rw [bel.cell (p:=a0.add i) (by rw [addr_block'];exact hablk)];exact hac2
  have h1:lAt (dig x) i<1000000000:=getD_lt (all_dig x) i;subst hoa;clear hac;obtain⟨a,hae⟩: ∃a,a=lAt (dig x) i:=⟨_,rfl⟩;rw [←hae]at hac3 h1;have HAE:=Lib.hid hae;clear hae hac2;go_upto_region 7 with(fail);clear hac3;go_loopw [8,26] (fun u j wi=> ∃(k uN:Nat) (W:List Nat),k≤(dig y).length∧j=.int .i64 k∧u=.int .u64 uN∧RowSt x y i k W uN∧Below d w wi∧wi.heap[d]?=some (.cells (uvals W).toArray 180 (0,0))) (fun _ j _=>(dig y).length-(intOf j).toNat);case atStart=>exact⟨0,0,W,by omega,rfl,rfl,S.row,bel,hW⟩
  case round=>
  obtain⟨j,u,W2,hj,rfl,rfl,R,bel2,hW2⟩:=hrel;clear S bel hW;by_cases hjt:j<(dig y).length
  ·have hd2:decide ((j:Int)<((dig y).length:Int))=true:=by simp;omega
   obtain⟨b0,hob,hbc⟩:=HBB.out.get j hjt;have hbblk:b0.block<d:=by
    obtain⟨b1,h2,h3,_⟩:=HBB.out.cells j hjt;rw [hob]at h2;cases h2;rw [HB.out]at h3;exact h3
   have hbc3:wr.cell? (b0.add j)=some (.int .u32 ((lAt (dig y) j:Nat):Int)):=by rw [bel2.cell (p:=b0.add j) (by rw [addr_block'];exact hbblk)];exact hbc
   have hnn:=HNN.out;have hijn:i+j<n:=by omega
   have hc3:=cell_uvals hW2 (i+j) (by rw [R.len];omega);have hf3:=frozen_of_row wr d (i+j) _ _ hW2;have RN:=Lib.hid (R.next hlt hjt);have hup:=R.up;have h2:lAt (dig y) j<1000000000:=getD_lt (all_dig y) j;have h3:lAt W2 (i+j)<1000000000:=getD_lt R.all (i+j);have RN2:Hid (RowSt x y i (j+1) (W2.set (i+j) ((lAt W2 (i+j)+a*lAt (dig y) j+u)%1000000000)) ((lAt W2 (i+j)+a*lAt (dig y) j+u)/1000000000)):=by rw [HAE.out];exact RN
   have HW2:=Lib.hid hW2;have HBEL:=Lib.hid bel2;subst hob;clear RN R hbc hW2 bel2 hnn;generalize lAt (dig y) j=b at*;generalize lAt W2 (i+j)=c at*;have hab:a*b≤999999999*999999999:=Nat.mul_le_mul (by omega) (by omega);rw [show 999999999*999999999=999999998000000001 by decide]at hab;obtain⟨m,hm⟩: ∃m,m=a*b:=⟨_,rfl⟩;have hmi:(a:Int)* (b:Int)=(m:Int):=by rw [hm];exact(Int.natCast_mul a b).symm
   rw [←hm]at RN2 hab;have hm81:m≤999999998000000001:=hab;have hi0:(0:Int)≤(i:Int)+(j:Int):=by omega
   have hil:(i:Int)+(j:Int)<(n:Int):=by omega
   have hilx:(i:Int)<((dig x).length:Int):=by omega
   have hjly:(j:Int)<((dig y).length:Int):=by omega
   clear hm hab;go_upto_region 11 with(fail);refine wp_abs (fun w4=>Below d w w4∧w4.heap[d]?=some (.cells (uvals (W2.set (i+j) ((c+m+u)%1000000000))).toArray 180 (0,0))) ?_ (fun w4 hw4=>?_)
   ·have e:=set_uvals HW2.out (i+j) ((c+m+u)%1000000000);have hv:(((c+m+u)%1000000000:Nat):Int)=((u:Int)+((m:Int)+(c:Int)))%1000000000:=by omega
    rw [hv]at e;exact⟨(bel_only HBEL.out ((Only.refl d wr).setCell _ _) (Nat.le_refl _)),e⟩
   obtain⟨bel4,hW4⟩:=hw4;clear hbc3 hc3 hf3 HW2 HBEL;go_wp2_with fail;go_roundw;case rel=>exact⟨j+1,(c+m+u)/1000000000,_,by omega,by go_num,by go_num,RN2.out,bel4,hW4⟩
   case measure=>simp [intOf];omega
  ·have hd2:decide ((j:Int)<((dig y).length:Int))=false:=by simp;omega
   obtain rfl:j=(dig y).length:=by omega
   have hnn:=HNN.out;have hil:(i:Int)+((dig y).length:Int)<(n:Int):=by omega
   have hi0:(0:Int)≤(i:Int)+((dig y).length:Int):=by omega
   have hc3:=cell_uvals hW2 (i+(dig y).length) (by rw [R.len];omega);have hf3:=frozen_of_row wr d (i+(dig y).length) _ _ hW2;have RD:=Lib.hid (R.done hlt);have hup:=R.up;have HW2:=Lib.hid hW2;clear R hW2 hnn;go_upto_region 14 with(fail);refine wp_abs (fun w4=>Below d w w4∧w4.heap[d]?=some (.cells (uvals (W2.set (i+(dig y).length) u)).toArray 180 (0,0))) ⟨bel_only bel2 ((Only.refl d wr).setCell _ _) (Nat.le_refl _),set_uvals HW2.out (i+(dig y).length) u⟩ (fun w4 hw4=>?_);obtain⟨bel4,hW4⟩:=hw4;clear hc3 hf3 HW2 bel2;go_wp2_with fail;go_roundw;case rel=>exact⟨i+1,_,by omega,by go_num,RD.out,bel4,hW4⟩
   case measure=>simp [intOf];omega
 ·have hd1:decide ((i:Int)<((dig x).length:Int))=false:=by simp;omega
  obtain rfl:i=(dig x).length:=by omega
  have hO:=Lib.hid S.done;have hl:W.length=n:=by rw [S.len,HNN.out]
  have QT:=Lib.hid (exTrim_any (some ⟨d,0,none⟩) W n wr (limbsAt_block hW rfl) (by omega) (by omega) S.all);rw [hO.out,hl]at QT;clear S hO hW;go_wp2_with (go_at_call 138;refine QT.out.mono ?_;rintro e w3 ⟨rfl,hI3,rfl⟩);go_ret;exact⟨_,_,rfl,hI3,by rw [HB.out];exact bel⟩
def RowIs(cs:Array Value)(o:Nat)(W:List Nat):Prop:= ∀i,i<W.length→cs[o+i]?=some (.int .u32 ((lAt W i:Nat):Int))
theorem RowIs.set {cs:Array Value}{o:Nat}{W:List Nat}(h:RowIs cs o W)(k s:Nat)(hk:k<W.length):RowIs (cs.setIfInBounds (o+k) (.int .u32 (s:Int))) o (W.set k s):=by
 intro i hi;rw [List.length_set]at hi;have hx:=h i hi;have hy:=h k hk;have hl:o+k<cs.size:=by
  rcases Nat.lt_or_ge (o+k) cs.size with h1|h1;·exact h1
  ·rw [Array.getElem?_eq_none h1]at hy;cases hy
 by_cases he:k=i
 ·subst he;rw [Array.getElem?_setIfInBounds_self_of_lt hl];simp [lAt,List.getD_eq_getElem?_getD,hk]
 ·rw [Array.getElem?_setIfInBounds_ne (by omega),hx];simp [lAt,List.getD_eq_getElem?_getD,List.getElem?_set_ne he]
structure Turned(w w':World)(d o:Nat)(T:TypeId)(cs cs':Array Value)(n:Nat):Prop where
 only:Only d w w'
 heap:w'.heap[d]?=some (.cells cs' T (0,0))
 size:cs'.size=cs.size
 out: ∀j,j<o∨o+n≤j→cs'[j]?=cs[j]?
theorem Turned.refl {w:World}{d o n:Nat}{T:TypeId}{cs:Array Value}(h:w.heap[d]?=some (.cells cs T (0,0))):Turned w w d o T cs cs n:=⟨Only.refl _ _,h,rfl,fun _ _=>rfl⟩
theorem Turned.set {w w':World}{d o n:Nat}{T:TypeId}{cs cs':Array Value}(S:Turned w w' d o T cs cs' n)(k:Nat)(v:Value)(hk:k<n):Turned w (w'.setCell ⟨d,o+k,none⟩ v) d o T cs (cs'.setIfInBounds (o+k) v) n:=
 ⟨S.only.setCell _ _,heap_setCell_same _ _ _ _ _ _ S.heap,by rw [Array.size_setIfInBounds];exact S.size,fun j hj=>by rw [Array.getElem?_setIfInBounds_ne (by omega)];exact S.out j hj⟩
theorem LimbsAt.only {w w1:World}{oa:Option Addr}{L:List Nat}{d:Nat}(h:LimbsAt w oa L)(hb:Only d w w1)(hne: ∀a,oa=some a→a.block≠d):LimbsAt w1 oa L:=⟨fun i hi=>by
 obtain⟨a,h1,h2,h3⟩:=h.cells i hi;refine⟨a,h1,by rw [hb.size];exact h2,?_⟩;rw [←h3];unfold World.cell?;have:=hb.block (a.add i).block (by rw [addr_block'];exact hne a h1);rw [this]⟩
theorem exLess_any(L M:List Nat)(d o cap:Nat)(T:TypeId)(cs:Array Value)(ob:Option Addr)(cb:Nat)(w:World)(hL:AllD L)(hM:AllD M)(hd:w.heap[d]?=some (.cells cs T (0,0)))(hr:RowIs cs o L)(hb:LimbsAt w ob M)(hne:M≠ []→ ∀a,ob=some a→a.block≠d)(hlL:L.length<4398046511104)(hlM:M.length<4398046511104):
 Calls Tryz.prog 178 #[.slice (some ⟨d,o,none⟩) L.length cap,.slice ob M.length cb] w fun e w'=> ∃W dn,e=.returned (.bool (decide (0<dn)))∧LessEnd L M W dn∧ ∃cs',RowIs cs' o W∧Turned w w' d o T cs cs' L.length:=by
 have HR:=Lib.hid hr;have HD:=Lib.hid hd;have HB:=Lib.hid hb;have HNE:=Lib.hid hne;have HL:=Lib.hid hL;have HM:=Lib.hid hM;clear hr hd hb hne hL hM;go_enter Tryz.func178,Tryz.ntmps178;go_upto_region 3 with(fail);go_loopw [5,10] (fun v i wr=> ∃(W:List Nat) (dn k:Nat) (cs':Array Value),k≤L.length∧v=.int .u32 dn∧i=.int .i64 k∧LessSt L M k W dn∧RowIs cs' o W∧Turned w wr d o T cs cs' L.length) (fun _ i _=>L.length-(intOf i).toNat);case atStart=>exact⟨L,0,0,cs,by omega,rfl,rfl,LessSt.init M HL.out,HR.out,Turned.refl HD.out⟩
 case round=>
 obtain⟨W,dn,k,cs',hk,rfl,rfl,S,R,U⟩:=hrel;have hdn:=S.down;by_cases hm:k<L.length
 ·have d1:decide ((k:Int)<(L.length:Int))=true:=by simp;omega
  have SN:=Lib.hid (fun s d' hs hd he=>S.next hm s d' hs hd he);have hkW:k<W.length:=by rw [S.len];exact hm
  have hcell:wr.cell? ⟨d,o+k,none⟩=some (.int .u32 ((lAt W k:Nat):Int)):=by
   rw [cell_of_row wr d (o+k) _ _ _ U.heap];exact R k hkW
  have hfr:=frozen_of_row wr d (o+k) _ _ U.heap;have h1:lAt W k<1000000000:=getD_lt S.all k;have h2:lAt M k<1000000000:=getD_lt HM.out k;have SN2:Hid (∀s d',s<1000000000→d'≤1→lAt W k+1000000000*d'=s+lAt M k+dn→LessSt L M (k+1) (W.set k s) d'):=SN;have RN:=Lib.hid (fun s=>R.set k s hkW);have UN:=Lib.hid (fun v=>U.set k v hm);have ho0:(0:Int)≤k:=by omega
  have hkL:(k:Int)<(L.length:Int):=by omega
  have hbM:=Lib.hid (fun(h:k<M.length)=>(HB.out.only U.only (HNE.out (by intro h0;rw [h0]at h;simp at h))).get k h);have hM0:=Lib.hid (fun(h: ¬k<M.length)=>(show lAt M k=0 by unfold lAt;rw [List.getD_eq_getElem?_getD,List.getElem?_eq_none (by omega)];rfl));have hstop:=Lib.hid (fun(h: ¬k<M.length) (h0:dn=0)=>(show LessEnd L M W 0 from LessSt.stop (h0▸S) (by omega) (by omega)));have HU:=Lib.hid U;have HRR:=Lib.hid R;clear S SN R U hkW;obtain⟨b,hbe⟩: ∃b,b=lAt M k:=⟨_,rfl⟩;rw [←hbe]at SN2 h2;generalize lAt W k=a at*;by_cases hq: ¬k<M.length∧dn=0
  ·obtain⟨hq1,rfl⟩:=hq;have d2:decide ((k:Int)<(M.length:Int))=false:=by simp;omega
   have hE:=Lib.hid (hstop.out hq1 rfl);have d3: ¬((k:Int)<(M.length:Int)):=by omega
   clear hcell hfr hstop hbM hM0 SN2 RN UN;go_wp2_with fail;go_ret;exact⟨W,0,rfl,hE.out,cs',HRR.out,HU.out⟩
  ·go_upto_if 17 with(fail)
   go_cut [7] (fun v w'=>v=.int .u32 ((dn:Int)+(b:Int))∧w'=wr);case first=>
    by_cases hM:k<M.length
    ·have d2:decide ((k:Int)<(M.length:Int))=true:=by simp;omega
     obtain⟨b0,hob,hbc⟩:=hbM.out hM;have hbc2:wr.cell? (b0.add k)=some (.int .u32 (b:Int)):=by rw [hbe];exact hbc
     have hjl:(k:Int)<(M.length:Int):=by omega
     subst hob;clear hbc hbe hcell hfr;go_wp2_with fail;go_meet;exact⟨by go_num,rfl⟩
    ·have d2:decide ((k:Int)<(M.length:Int))=false:=by simp;omega
     have d3: ¬((k:Int)<(M.length:Int)):=by omega
     obtain rfl:dn=1:=by omega
     have hb0:b=0:=by rw [hbe];exact hM0.out hM
     subst hb0;clear hbe hcell hfr;go_wp2_with fail;go_meet;exact⟨by go_num,rfl⟩
   case rest=>
   obtain⟨rfl,hw0⟩:=hcut;replace hw0:=hw0.symm;subst hw0;clear hbM hM0 hbe hstop HRR HU;obtain⟨D,hD⟩: ∃D:Nat,D=dn+b:=⟨_,rfl⟩;have hDi:(dn:Int)+(b:Int)=(D:Int):=by omega
   have SN3:Hid (∀s d',s<1000000000→d'≤1→a+1000000000*d'=s+D→LessSt L M (k+1) (W.set k s) d'):=Lib.hid (fun s d' x1 x2 x3=>SN2.out s d' x1 x2 (show a+1000000000*d'=s+b+dn by omega));have hDb:D≤1000000000:=by omega
   rw [hDi];clear hDi SN2 hD hq h2;by_cases hge:D≤a
   ·have d4:(D:Int)≤(a:Int):=by omega
    have d5:decide ((D:Int)≤(a:Int))=true:=by simp;omega
    obtain⟨s,hs⟩: ∃s:Nat,(a:Int)-(D:Int)=(s:Int):=⟨a-D,by omega⟩;have S2:=Lib.hid (SN3.out s 0 (by omega) (by omega) (by omega));have R2:=Lib.hid (RN.out s);have U2:=Lib.hid (UN.out (.int .u32 s));have hs9:s<1000000000:=by omega
    clear SN3 RN UN;go_upto_region 12 with(fail);refine wp_abs (fun w4=>Turned w w4 d o T cs (cs'.setIfInBounds (o+k) (.int .u32 s)) L.length) U2.out (fun w4 U4=>?_);clear hcell hfr U2 hs d4 d5 hge;go_wp2_with fail;go_roundw;case rel=>exact⟨W.set k s,0,k+1,_,by omega,rfl,by go_num,S2.out,R2.out,U4⟩
    case measure=>simp [intOf];omega
   ·have d4: ¬(D:Int)≤(a:Int):=by omega
    have d5:decide ((D:Int)≤(a:Int))=false:=by simp;omega
    obtain⟨s,hs⟩: ∃s:Nat,(a:Int)+1000000000-(D:Int)=(s:Int):=⟨a+1000000000-D,by omega⟩;have S2:=Lib.hid (SN3.out s 1 (by omega) (by omega) (by omega));have R2:=Lib.hid (RN.out s);have U2:=Lib.hid (UN.out (.int .u32 s));have hs9:s<1000000000:=by omega
    clear SN3 RN UN;go_upto_region 12 with(fail);refine wp_abs (fun w4=>Turned w w4 d o T cs (cs'.setIfInBounds (o+k) (.int .u32 s)) L.length) U2.out (fun w4 U4=>?_);clear hcell hfr U2 hs d4 d5 hge;go_wp2_with fail;go_roundw;case rel=>exact⟨W.set k s,1,k+1,_,by omega,rfl,by go_num,S2.out,R2.out,U4⟩
    case measure=>simp [intOf];omega
 ·have d1:decide ((k:Int)<(L.length:Int))=false:=by simp;omega
  obtain rfl:k=L.length:=by omega
  have hE:=Lib.hid S.done;clear S;by_cases h0:dn=0
  ·subst h0;go_wp2_with fail;go_ret;exact⟨W,0,rfl,hE.out,cs',R,U⟩
  ·obtain rfl:dn=1:=by omega
   go_wp2_with fail;go_ret;exact⟨W,1,rfl,hE.out,cs',R,U⟩
theorem exLess_nil(ob:Option Addr)(cap n cb:Nat)(w:World)(hn:n<4398046511104):
 Calls Tryz.prog 178 #[.slice none 0 cap,.slice ob n cb] w fun e w'=>e=.returned (.bool false)∧w'=w:=by
 go_enter Tryz.func178,Tryz.ntmps178;go_upto_region 3 with(fail);go_loopw [5,10] (fun v i wr=>v=.int .u32 0∧i=.int .i64 0∧wr=w) (fun _ i _=>0);case atStart=>exact⟨rfl,rfl,rfl⟩
 case round=>
 obtain⟨rfl,rfl,hw⟩:=hrel;replace hw:=hw.symm;subst hw;go_wp2_with fail;go_ret;exact⟨rfl,rfl⟩
theorem rowIs_own {cs:Array Value}{L:List Nat}(h:cs.toList.take L.length=uvals L):RowIs cs 0 L:=by
 intro i hi;have hx:(cs.toList.take L.length)[i]?=(uvals L)[i]?:=by rw [h]
 rw [List.getElem?_take_of_lt hi]at hx;rw [Nat.zero_add,←Array.getElem?_toList,hx];simp [uvals,lAt,List.getD_eq_getElem?_getD,hi]
theorem exClone_any(L:List Nat)(oa:Option Addr)(ca:Nat)(w:World)(h:LimbsAt w oa L)(hl:L.length<4398046511104):
 Calls Tryz.prog 175 #[.slice oa L.length ca] w fun e w'=> ∃v,e=.returned v∧((oa=none∧L= []∧v=.slice none 0 0∧w'=w)∨(∃g cc cs,v=.slice (some ⟨g,0,none⟩) L.length cc∧w.heap.size≤g∧w'.heap[g]?=some (.cells cs 180 (0,0))∧RowIs cs 0 L∧L.length≤cc∧Below w.heap.size w w')):=by
 obtain⟨i0,hi,hz0,hz1,hz2⟩:=info_parts info_limb;have HI:=Lib.hid hi;have HZ0:=Lib.hid hz0;have HZ1:=Lib.hid hz1;have HZ2:=Lib.hid hz2;have HA:=Lib.hid h;clear hi hz0 hz1 hz2 h;have qT: ∀(w:World) (a:Option Addr) (n c:Nat),(binOp .eql 88 (.slice a n c) (.slice none 0 0)).run Tryz.prog w=.ok (.bool a.isNone) w:=fun w a n c=>Lib.run_eql_slice_nil w _ _ a n c 0 0 Tryz.underlying88;go_enter Tryz.func175,Tryz.ntmps175;cases oa with
 |
  none=>
  have hL:=Lib.hid (show L= []by
   cases hq:L with
   |nil=>rfl
   |
    cons x r=>
    obtain⟨a,h1,_⟩:=HA.out.cells 0 (by rw [hq];simp);cases h1)
  go_wp2_with fail;go_ret;exact⟨_,rfl,.inl ⟨hL.out,rfl,rfl⟩⟩
 |
  some ad=>
  have hnews: ∀j u,(uvals L)[j]?=some u→(w.alloc (.cells #[] 180)).cell? (ad.add j)=some u:=by
   intro j u hju;have hj:j<L.length:=by
    rcases Nat.lt_or_ge j L.length with h1|h1;·exact h1
    ·rw [List.getElem?_eq_none (by rw [length_uvals];exact h1)]at hju;cases hju
   obtain⟨a,h1,h2,h3⟩:=HA.out.cells j hj;cases h1;have hb:Below w.heap.size w (w.alloc (.cells #[] 180)):=(Below.refl _ _).alloc (Nat.le_refl _) _;rw [hb.cell (by rw [addr_block'];exact h2),h3];simp [uvals,hj]at hju;exact congrArg some hju
  have own0:(w.alloc (.cells #[] 180)).ownsRow w.heap.size 180 1 (.slice (some ⟨w.heap.size,0,none⟩) 0 0) 0 (uvals []):=⟨rfl,.inr ⟨w.heap.size,0, #[],rfl,Nat.le_refl _,heap_at rfl,Nat.le_refl _,by unfold maxLen;omega,rfl,rfl⟩⟩;have HN:=Lib.hid hnews;have HO:=Lib.hid own0;clear hnews own0;go_upto_region 3 with(fail);go_upto_region 99 with(at_builtin;refine wpList_append_own _ rfl (.tmp 5) (.tmp 6) 88 rfl w.heap.size 180 i0 (.int .u32 0) 1 4 Tryz.underlying88 HI.out HZ0.out HZ1.out HZ2.out rfl (by decide) (.slice (some ⟨w.heap.size,0,none⟩) 0 0) 0 (uvals []) rfl HO.out ad L.length ca (uvals L) rfl ?c1 ?c2 ?c3 ?c4 ?c5 ?c6 ?_);case c1=>rw [length_uvals];omega
  case c2=>exact HN.out
  case c3=>exact uvals_one _
  case c4=>unfold maxLen;omega
  case c5=>omega
  case c6=>simp
  intro v5 w5 own5 hg5 hne5;have bel5:Below w.heap.size w w5:=((Below.refl _ _).alloc (Nat.le_refl _) (.cells #[] 180)).grown hg5 (by simp) (fun q hq=>by simp [Value.ownBlock]at hq;omega);have hv5:=Lib.hid own5;clear HO HN own5 hg5;go_wp2_with fail;go_ret;refine⟨_,rfl,.inr ?_⟩;rcases hv5.out.2 with⟨hv,_⟩|⟨g,cap,cur,hv,hb,hg,hnc,_,_,ht⟩;·exact absurd hv hne5
  ·rw [Nat.mul_one]at ht;exact⟨g,cap,cur,hv,hb,hg,rowIs_own ht,hnc,bel5⟩
theorem limbs_none {w:World}{L:List Nat}(h:LimbsAt w none L):L= []:=by
 cases hq:L with
 |nil=>rfl
 |
  cons x r=>
  obtain⟨a,h1,_⟩:=h.cells 0 (by rw [hq];simp);cases h1
theorem rowIs_limbs {w:World}{d o:Nat}{cs:Array Value}{T:TypeId}{W:List Nat}(hd:w.heap[d]?=some (.cells cs T (0,0)))(h:RowIs cs o W):LimbsAt w (some ⟨d,o,none⟩) W:=⟨fun i hi=>by
 refine⟨_,rfl,lt_of_heap hd,?_⟩;rw [Addr.add_mid,cell_of_row w d (o+i) _ _ _ hd,h i hi];simp [lAt,List.getD_eq_getElem?_getD,hi]⟩
theorem LimbsAt.ne {w:World}{ob:Option Addr}{M:List Nat}(h:LimbsAt w ob M)(hM:M≠ []): ∀a,ob=some a→a.block<w.heap.size:=by
 intro a ha;obtain⟨a',h1,h2,_⟩:=h.cells 0 (by cases M with|nil=>exact absurd rfl hM|cons x r=>simp);rw [ha]at h1;cases h1;exact h2
theorem exSub_any(x y:Nat)(oa ob:Option Addr)(ca cb:Nat)(w:World)(hyx:y≤x)(ha:LimbsAt w oa (dig x))(hb:LimbsAt w ob (dig y))(hx:(dig x).length<1099511627776)(hy:(dig y).length<1099511627776):
 Calls Tryz.prog 174 #[.slice oa (dig x).length ca,.slice ob (dig y).length cb] w fun e w'=> ∃oc cc,e=.returned (.slice oc (dig (x-y)).length cc)∧LimbsAt w' oc (dig (x-y))∧Below w.heap.size w w':=by
 have QC:=Lib.hid (exClone_any (dig x) oa ca w ha (by omega));have HBB:=Lib.hid hb;have HYX:=Lib.hid hyx;clear ha hb hyx;go_enter Tryz.func174,Tryz.ntmps174;go_upto_region 2 with(go_at_call 175;refine QC.out.mono ?_;rintro e w1 ⟨v,rfl,hv⟩);clear QC;rcases hv with⟨_,hL,rfl,rfl⟩|⟨g,cc,cs,rfl,hg,hh,hr,hcc,bel⟩
 ·have hx0:x=0:=by rw [←val_dig x,hL];rfl
  have hy0:y=0:=by have:=HYX.out;omega
  have QL:=Lib.hid (exLess_nil ob 0 (dig y).length cb w1 (by omega));have QT:=Lib.hid (exTrim_any none [] 0 w1 LimbsAt.nil (by simp) (by simp) (fun d hd=>by cases hd));have e1:=Lib.hid (show dig (x-y)=trimL []by rw [hx0,hy0];unfold trimL;rfl);clear HBB hx0 hy0 hL HYX;go_upto_region 3 with(go_at_call 178;refine QL.out.mono ?_;rintro e w2 ⟨rfl,rfl⟩);go_wp2_with (go_at_call 138;refine QT.out.mono ?_;rintro e w3 ⟨rfl,hI3,rfl⟩);go_ret;rw [e1.out];exact⟨_,_,rfl,hI3,Below.refl _ _⟩
 ·have QL:=Lib.hid (exLess_any (dig x) (dig y) g 0 cc 180 cs ob cb w1 (all_dig x) (all_dig y) hh hr (HBB.out.below bel) (fun hM a h=>by have:=HBB.out.ne hM a h;omega) (by omega) (by omega));have BEL:=Lib.hid bel;have hcc2:=hcc;clear HBB bel hh hr;go_upto_region 3 with(go_at_call 178;refine QL.out.mono ?_;rintro e w2 ⟨W,dn,rfl,hE,cs2,hr2,hT⟩);have hlW:W.length=(dig x).length:=hE.len;have QT:=Lib.hid (exTrim_any (some ⟨g,0,none⟩) W cc w2 (rowIs_limbs hT.heap hr2) (by omega) (by omega) hE.all);rw [hE.sub HYX.out,hlW]at QT;have bel2:Below w.heap.size w w2:=bel_only BEL.out hT.only hg;clear QL BEL hE hr2 hT hlW HYX;go_wp2_with (go_at_call 138;refine QT.out.mono ?_;rintro e w3 ⟨rfl,hI3,rfl⟩);go_ret;exact⟨_,_,rfl,hI3,bel2⟩
theorem exMore_any(L M:List Nat)(d o cap:Nat)(T:TypeId)(cs:Array Value)(ob:Option Addr)(cb:Nat)(w:World)(hL:AllD L)(hM:AllD M)(hd:w.heap[d]?=some (.cells cs T (0,0)))(hr:RowIs cs o L)(hb:LimbsAt w ob M)(hne: ∀a,ob=some a→a.block≠d)(hlL:L.length<4398046511104)(hlM:M.length<4398046511104):
 Calls Tryz.prog 179 #[.slice (some ⟨d,o,none⟩) L.length cap,.slice ob M.length cb] w fun e w'=>e=.returned (.tuple #[])∧ ∃W u cs',MoreSt L M L.length W u∧RowIs cs' o W∧Turned w w' d o T cs cs' L.length:=by
 have HR:=Lib.hid hr;have HD:=Lib.hid hd;have HB:=Lib.hid hb;have HNE:=Lib.hid hne;have HL:=Lib.hid hL;have HM:=Lib.hid hM;clear hr hd hb hne hL hM;go_enter Tryz.func179,Tryz.ntmps179;go_upto_region 2 with(fail);go_loopw [4,9] (fun v i wr=> ∃(W:List Nat) (u k:Nat) (cs':Array Value),k≤L.length∧v=.int .u32 u∧i=.int .i64 k∧MoreSt L M k W u∧RowIs cs' o W∧Turned w wr d o T cs cs' L.length) (fun _ i _=>L.length-(intOf i).toNat);case atStart=>exact⟨L,0,0,cs,by omega,rfl,rfl,MoreSt.init M HL.out,HR.out,Turned.refl HD.out⟩
 case round=>
 obtain⟨W,u,k,cs',hk,rfl,rfl,S,R,U⟩:=hrel;have hup:=S.up;by_cases hm:k<L.length
 ·have d1:decide ((k:Int)<(L.length:Int))=true:=by simp;omega
  have hkW:k<W.length:=by rw [S.len];exact hm
  have SN:Hid (MoreSt L M (k+1) (W.set k ((lAt W k+u+lAt M k)%1000000000)) ((lAt W k+u+lAt M k)/1000000000)):=Lib.hid (S.next HM.out hm);have hcell:wr.cell? ⟨d,o+k,none⟩=some (.int .u32 ((lAt W k:Nat):Int)):=by
   rw [cell_of_row wr d (o+k) _ _ _ U.heap];exact R k hkW
  have hfr:=frozen_of_row wr d (o+k) _ _ U.heap;have h1:lAt W k<1000000000:=getD_lt S.all k;have h2:lAt M k<1000000000:=getD_lt HM.out k;have RN:=Lib.hid (fun s=>R.set k s hkW);have UN:=Lib.hid (fun v=>U.set k v hm);have ho0:(0:Int)≤k:=by omega
  have hkL:(k:Int)<(L.length:Int):=by omega
  have hbM:=Lib.hid (fun(h:k<M.length)=>(HB.out.only U.only HNE.out).get k h);have hM0:=Lib.hid (fun(h: ¬k<M.length)=>(show lAt M k=0 by unfold lAt;rw [List.getD_eq_getElem?_getD,List.getElem?_eq_none (by omega)];rfl));clear S R U hkW;obtain⟨b,hbe⟩: ∃b,b=lAt M k:=⟨_,rfl⟩;rw [←hbe]at SN h2;generalize lAt W k=a at*
  go_upto_if 21 with(fail)
  go_cut [6] (fun v w'=>v=.int .u32 ((a:Int)+(u:Int)+(b:Int))∧w'=wr);case first=>
   by_cases hM:k<M.length
   ·have d2:decide ((k:Int)<(M.length:Int))=true:=by simp;omega
    obtain⟨b0,hob,hbc⟩:=hbM.out hM;have hbc2:wr.cell? (b0.add k)=some (.int .u32 (b:Int)):=by rw [hbe];exact hbc
    have hjl:(k:Int)<(M.length:Int):=by omega
    subst hob;clear hbc hbe hcell hfr;go_wp2_with fail;go_meet;exact⟨by go_num,rfl⟩
   ·have d2:decide ((k:Int)<(M.length:Int))=false:=by simp;omega
    have d3: ¬((k:Int)<(M.length:Int)):=by omega
    have hb0:b=0:=by rw [hbe];exact hM0.out hM
    subst hb0;clear hbe hcell hfr;go_wp2_with fail;go_meet;exact⟨by go_num,rfl⟩
  case rest=>
  obtain⟨rfl,hw0⟩:=hcut;replace hw0:=hw0.symm;subst hw0;clear hbM hM0 hbe;obtain⟨D,hD⟩: ∃D:Nat,a+u+b=D:=⟨_,rfl⟩;have hDi:(a:Int)+(u:Int)+(b:Int)=(D:Int):=by omega
  have hDb:D<4000000000:=by omega
  rw [hD]at SN;rw [hDi];clear hDi hD h1 h2;obtain⟨s,hs⟩: ∃s:Nat,D%1000000000=s:=⟨_,rfl⟩;have hsi:(D:Int)%1000000000=(s:Int):=by omega
  rw [hs]at SN;have R2:=Lib.hid (RN.out s);have U2:=Lib.hid (UN.out (.int .u32 s));clear RN UN;go_upto_region 8 with(fail);refine wp_abs (fun w4=>Turned w w4 d o T cs (cs'.setIfInBounds (o+k) (.int .u32 s)) L.length) U2.out (fun w4 U4=>?_);clear hcell hfr U2 hs hsi;go_wp2_with fail;go_roundw;case rel=>exact⟨W.set k s,D/1000000000,k+1,_,by omega,by go_num,by go_num,SN.out,R2.out,U4⟩
  case measure=>simp [intOf];omega
 ·have d1:decide ((k:Int)<(L.length:Int))=false:=by simp;omega
  obtain rfl:k=L.length:=by omega
  have hE:=Lib.hid S;clear S;go_wp2_with fail
  go_end0
  exact⟨rfl,W,u,cs',hE.out,R,U⟩
theorem exOf_any(n:Nat)(w:World)(hn:n<18446744073709551616):
 Calls Tryz.prog 96 #[.int .u64 (n:Int)] w fun e w'=> ∃oa cap,e=.returned (.slice oa (dig n).length cap)∧LimbsAt w' oa (dig n)∧(∀a,oa=some a→w.heap.size≤a.block∧a.block<w'.heap.size)∧Below w.heap.size w w':=by
 obtain⟨i0,hi,hz0,hz1,hz2⟩:=info_parts info_limb;have HI:=Lib.hid hi;have HZ0:=Lib.hid hz0;have HZ1:=Lib.hid hz1;have HZ2:=Lib.hid hz2;clear hi hz0 hz1 hz2;go_enter Tryz.func96,Tryz.ntmps96;go_wp2_with fail;generalize hB:w.heap.size=B at*;have HB:=Lib.hid hB;clear hB;go_loopw [0,3] (fun z v wr=> ∃(L:List Nat) (k:Nat),z=.int .u64 k∧k≤n∧L++dig k=dig n∧L.length+k≤n∧Below B w wr∧wr.ownsRow B 180 1 v L.length (uvals L)) (fun z _ _=>(intOf z).toNat);case atStart=>exact⟨[],n,rfl,Nat.le_refl _,rfl,by simp,Below.refl _ _,World.ownsRow_nil _ _ _ _⟩
 case round=>
 obtain⟨L,k,rfl,hk,hL,hl,bel,own⟩:=hrel;by_cases h0:0<k
 ·have hd:decide ((0:Int)<(k:Int))=true:=by simp;omega
  have hBw:B≤wr.heap.size:=by have:=bel.size;rw [HB.out]at this;exact this
  have hl19:L.length≤19:=by
   have h1:=length_dig_le n 19 (Nat.lt_of_lt_of_le hn (by decide));rw [←hL,List.length_append]at h1;omega
  have hst:=Lib.hid (show(L++ [k%1000000000])++dig (k/1000000000)=dig n by rw [List.append_assoc,List.singleton_append,←dig_pos h0];exact hL);go_upto_region 3 with(at_builtin;refine wpList_append_own _ rfl (.tmp 8) (.tmp 12) 88 rfl B 180 i0 (.int .u32 0) 1 4 Tryz.underlying88 HI.out HZ0.out HZ1.out HZ2.out rfl (by decide) u3 L.length (uvals L) rfl (own.alloc _) ⟨wr.heap.size,0,none⟩ 1 1 (uvals [k%1000000000]) rfl rfl ?c1 ?c2 ?c3 ?c4 ?c5 ?_);case c1=>exact news_uvals wr [k%1000000000] _ _ rfl
  case c2=>exact uvals_one _
  case c3=>unfold maxLen;omega
  case c4=>omega
  case c5=>first|omega|(simp;omega)
  intro v5 w5 own5 hg5 _;have bel5:Below B w w5:=(bel.alloc hBw _).grown hg5 (by simp;omega) (fun q hq=>(own.lt q hq).1);rw [uvals_append]at own5;have OWN5:w5.ownsRow B 180 1 v5 (L++ [k%1000000000]).length (uvals (L++ [k%1000000000])):=by rw [List.length_append];exact own5
  clear own5 own hg5 bel hL;go_wp2_with fail;go_roundw;case rel=>exact⟨L++ [k%1000000000],k/1000000000,by go_num,by omega,hst.out,by rw [List.length_append,List.length_singleton];omega,bel5,OWN5⟩
  case measure=>simp [intOf];omega
 ·have hd:decide ((0:Int)<(k:Int))=false:=by simp;omega
  obtain rfl:k=0:=by omega
  rw [dig_zero,List.append_nil]at hL;obtain⟨oa,cap,rfl,_,hfa,hI⟩:=limbsAt_own own;have hlt: ∀a,oa=some a→a.block<wr.heap.size:=fun a ha=>(own.lt a.block (by rw [ha];rfl)).2;rw [hL]at hI;have HLn:=Lib.hid hL;clear hL own;go_wp2_with fail;go_ret;exact⟨oa,cap,by rw [HLn.out];rfl,hI,fun a ha=>⟨by rw [HB.out];exact hfa a ha,hlt a ha⟩,by rw [HB.out];exact bel⟩
theorem exZero_any(oa:Option Addr)(n ca:Nat)(w:World):
 Calls Tryz.prog 93 #[.slice oa n ca] w fun e w'=>e=.returned (.bool ((n:Int)==0))∧w'=w:=by
 go_enter Tryz.func93,Tryz.ntmps93;go_wp2_with fail;go_ret;exact⟨rfl,rfl⟩
theorem own_take {w:World}{base:Nat}{e:TypeId}{v:Value}{L:List Nat}(h:w.ownsRow base e 1 v L.length (uvals L))(k:Nat)(hk:k≤L.length): ∃oc cc,v=.slice oc L.length cc∧L.length≤cc∧w.ownsRow base e 1 (.slice oc k cc) k (uvals (L.take k)):=by
 have hl:(uvals (L.take k)).length=k*1:=by rw [length_uvals,List.length_take];omega
 rcases h.2 with⟨hv,h0⟩|⟨g,cap,cur,hv,hb,hg,hnc,hm,hc,ht⟩
 ·have hk0:k=0:=by omega
  subst hk0;exact⟨none,0,by rw [hv,h0],by omega,hl,.inl ⟨rfl,rfl⟩⟩
 ·refine⟨some ⟨g,0,none⟩,cap,hv,hnc,hl,.inr ⟨g,cap,cur,rfl,hb,hg,by omega,hm,hc,?_⟩⟩;have:(cur.toList.take (L.length*1)).take (k*1)=(uvals L).take (k*1):=by rw [ht]
  rw [List.take_take,Nat.min_eq_left (by omega)]at this;rw [this];simp [uvals]
theorem trim_take(L:List Nat)(h:AllD L): ∃k,k≤L.length∧(trimL L).length=k∧L.take k=trimL L:=by
 have H: ∀(n:Nat) (L:List Nat),L.length=n→AllD L→ ∃k,k≤L.length∧L.take k=trimL L:=by
  intro n
  induction n with
  |
   zero=>
   intro L hl _;have:L= []:=List.length_eq_zero_iff.1 hl;subst this;exact⟨0,by simp,by unfold trimL;simp [val,dig_zero]⟩
  |
   succ n ih=>
   intro L hl hA;by_cases h0:L.getD n 0=0
   ·obtain⟨k,hk,he⟩:=ih (L.take n) (by rw [List.length_take];omega) (all_take hA n);rw [List.length_take]at hk;refine⟨k,by omega,?_⟩;rw [List.take_take,Nat.min_eq_left (by omega)]at he;rw [he];unfold trimL;congr 1;refine val_take_zero L n (fun i hi=>?_);rcases Nat.lt_or_ge n i with h1|h1;·rw [List.getD_eq_getElem?_getD,List.getElem?_eq_none (by omega)];rfl
    ·have:i=n:=by omega
     rw [this];exact h0
   ·exact⟨n+1,by omega,take_trim L (n+1) hA (by omega) (fun i hi=>by rw [List.getD_eq_getElem?_getD,List.getElem?_eq_none (by omega)];rfl) (.inr (by simpa using h0))⟩
 obtain⟨k,hk,he⟩:=H L.length L rfl h;exact⟨k,hk,by rw [←he,List.length_take];omega,he⟩
theorem exTimes_any(x b:Nat)(oa:Option Addr)(ca:Nat)(w:World)(ha:LimbsAt w oa (dig x))(hx:(dig x).length<1099511627776)(hb:b<1000000000):
 Calls Tryz.prog 177 #[.slice oa (dig x).length ca,.int .u32 b] w fun e w'=> ∃oc cc,e=.returned (.slice oc (dig (x*b)).length cc)∧w'.ownsRow w.heap.size 180 1 (.slice oc (dig (x*b)).length cc) (dig (x*b)).length (uvals (dig (x*b)))∧Below w.heap.size w w':=by
 obtain⟨i0,hi,hz0,hz1,hz2⟩:=info_parts info_limb;have HI:=Lib.hid hi;have HZ0:=Lib.hid hz0;have HZ1:=Lib.hid hz1;have HZ2:=Lib.hid hz2;have HA:=Lib.hid ha;clear hi hz0 hz1 hz2 ha;have hC:((dig x).length:Int)+1=(((dig x).length+1:Nat):Int):=by omega
 have HC:=Lib.hid hC;clear hC;go_enter Tryz.func177,Tryz.ntmps177;go_upto_region 2 with(refine wpList_make_own _ rfl _ _ 88 rfl w.heap.size 180 i0 (.int .u32 0) 1 Tryz.underlying88 HI.out HZ0.out HZ1.out .i64 .i64 (((dig x).length:Int)+1) ((dig x).length+1) rfl rfl HC.out (by rw [HZ2.out];omega) (by unfold maxLen;omega) (Nat.le_refl _) ?_);intro w1 own1 hg1;have bel1:Below w.heap.size w w1:=(Below.refl _ _).grown hg1 (Nat.le_refl _) (by simp);have S0:=TimesSt.init x b;clear hg1;go_upto_region 4 with(fail);go_loopw [5,6,15] (fun v z i wr=> ∃(O:List Nat) (u:Nat),z=.int .u64 u∧i=.int .i64 O.length∧O.length≤(dig x).length∧TimesSt x b O u∧Below w.heap.size w wr∧wr.ownsRow w.heap.size 180 1 v O.length (uvals O)) (fun _ _ i _=>(dig x).length-(intOf i).toNat);case atStart=>exact⟨[],0,rfl,rfl,by simp,S0,bel1,own1⟩
 case round=>
 obtain⟨O,u,rfl,rfl,hOl,S,bel,own⟩:=hrel;clear S0 bel1 own1;have hup:=S.up;have bsz:=bel.size;by_cases hm:O.length<(dig x).length
 ·have hdm:decide ((O.length:Int)<((dig x).length:Int))=true:=by simp;omega
  have SN2:Hid (TimesSt x b (O++ [(u+lAt (dig x) O.length*b)%1000000000]) ((u+lAt (dig x) O.length*b)/1000000000)):=Lib.hid (S.next hb hm);have h1:lAt (dig x) O.length<1000000000:=getD_lt (all_dig x) O.length;have h2:=S.bound hb (lAt (dig x) O.length) h1;obtain⟨a0,hoa,hac⟩:=(HA.out.below bel).get O.length hm;have hac2:wr.cell? (a0.add O.length)=some (.int .u32 ((lAt (dig x) O.length:Nat):Int)):=hac;have hil:(O.length:Int)<((dig x).length:Int):=by omega
  have hi0:(0:Int)≤O.length:=by omega
  clear S hac;subst hoa;generalize lAt (dig x) O.length=a at*;obtain⟨m,hmm⟩: ∃m,m=a*b:=⟨_,rfl⟩;have hmi:(a:Int)* (b:Int)=(m:Int):=by rw [hmm];exact(Int.natCast_mul a b).symm
  rw [←hmm]at SN2 h2;have hab:a*b≤999999999*999999999:=Nat.mul_le_mul (by omega) (by omega);rw [←hmm,show 999999999*999999999=999999998000000001 by decide]at hab;clear hmm;go_upto_region 7 with(fail);obtain⟨D,hD⟩: ∃D:Nat,D=u+m:=⟨_,rfl⟩;have hDi:(u:Int)+(m:Int)=(D:Int):=by omega
  rw [←hD]at SN2 h2;rw [hDi];clear hmi hac2 hD hDi hab;go_upto_region 8 with(at_builtin;refine wpList_append_own _ rfl (.tmp 26) (.tmp 30) 88 rfl w.heap.size 180 i0 (.int .u32 0) 1 4 Tryz.underlying88 HI.out HZ0.out HZ1.out HZ2.out rfl (by decide) u5 O.length (uvals O) rfl (own.alloc _) ⟨wr.heap.size,0,none⟩ 1 1 (uvals [D%1000000000]) rfl rfl ?c1 ?c2 ?c3 ?c4 ?c5 ?_);case c1=>exact news_uvals wr [D%1000000000] _ _ rfl
  case c2=>exact uvals_one _
  case c3=>unfold maxLen;omega
  case c4=>omega
  case c5=>first|omega|(simp;omega)
  intro v5 w5 own5 hg5 _;have bel5:Below w.heap.size w w5:=(bel.alloc bsz _).grown hg5 (by simp;omega) (fun q hq=>(own.lt q hq).1);rw [uvals_append]at own5;have OWN5:w5.ownsRow w.heap.size 180 1 v5 (O++ [D%1000000000]).length (uvals (O++ [D%1000000000])):=by rw [List.length_append];exact own5
  clear own5 own hg5 bel;go_wp2_with fail;go_roundw;case rel=>exact⟨O++ [D%1000000000],D/1000000000,by go_num,by rw [List.length_append,List.length_singleton];go_num,by rw [List.length_append,List.length_singleton];omega,SN2.out,bel5,OWN5⟩
  case measure=>simp [intOf];omega
 ·have hdm:decide ((O.length:Int)<((dig x).length:Int))=false:=by simp;omega
  obtain⟨hAl,htr⟩:=S.done (by omega);have HAl:=Lib.hid hAl;have HTR:=Lib.hid htr;clear S hAl htr hb;go_upto_region 99 with(first
   |(at_builtin;refine wpList_append_own _ rfl (.tmp 35) (.tmp 38) 88 rfl w.heap.size 180 i0 (.int .u32 0) 1 4 Tryz.underlying88 HI.out HZ0.out HZ1.out HZ2.out rfl (by decide) u5 O.length (uvals O) rfl (own.alloc _) ⟨wr.heap.size,0,none⟩ 1 1 (uvals [u]) rfl rfl ?c1 ?c2 ?c3 ?c4 ?c5 ?_))
  case c1=>exact news_uvals wr [u] _ _ rfl
  case c2=>exact uvals_one _
  case c3=>unfold maxLen;omega
  case c4=>omega
  case c5=>first|omega|(simp;omega)
  intro v5 w5 own5 hg5 _;have bel5:Below w.heap.size w w5:=(bel.alloc bsz _).grown hg5 (by simp;omega) (fun q hq=>(own.lt q hq).1);rw [uvals_append]at own5;have hol:(O++ [u]).length=O.length+1:=by simp
  obtain⟨oc,cc,rfl,hcc,_,hI⟩:=limbsAt_own (L:=O++ [u]) own5;have own6:w5.ownsRow w.heap.size 180 1 (.slice oc (O++ [u]).length cc) (O++ [u]).length (uvals (O++ [u])):=by rw [hol]at own5 ⊢;exact own5
  obtain⟨k,hk,hk2,hk3⟩:=trim_take _ HAl.out;obtain⟨oc2,cc2,he2,_,ownk⟩:=own_take own6 k hk;simp only [Value.slice.injEq]at he2;obtain⟨rfl,_,rfl⟩:=he2;rw [hk3,←hk2,HTR.out]at ownk;have OWNK:=Lib.hid ownk;have QT:=Lib.hid (exTrim_any oc (O++ [u]) cc w5 hI (by omega) hcc HAl.out);rw [HTR.out,hol]at QT;have HOL:=Lib.hid hol;clear own5 own6 own hg5 bel hI hol hk hk2 hk3 ownk;go_wp2_with (go_at_call 138;refine QT.out.mono ?_;rintro e w6 ⟨rfl,hI6,rfl⟩);go_ret;exact⟨oc,cc,rfl,OWNK.out,bel5⟩
theorem exBy_any(x b:Nat)(oa:Option Addr)(ca:Nat)(w:World)(ha:LimbsAt w oa (dig x))(hx:(dig x).length<1099511627776)(hb0:0<b)(hb:b<1000000000):
 Calls Tryz.prog 176 #[.slice oa (dig x).length ca,.int .u32 b] w fun e w'=> ∃oc cc r,e=.returned (.tuple #[.slice oc (dig (x/b)).length cc,.int .u32 (r:Nat)])∧r=x%b∧LimbsAt w' oc (dig (x/b))∧(∀a,oc=some a→w.heap.size≤a.block)∧Below w.heap.size w w':=by
 obtain⟨i0,hi,hz0,hz1,hz2⟩:=info_parts info_limb;have HI:=Lib.hid hi;have HZ0:=Lib.hid hz0;have HZ1:=Lib.hid hz1;have HZ2:=Lib.hid hz2;have HA:=Lib.hid ha;clear hi hz0 hz1 hz2 ha;have S0:=DivSt.init x b hb0;have hbz:((b:Int)==0)=false:=by rw [beq_eq_false_iff_ne];omega
 go_enter Tryz.func176,Tryz.ntmps176;go_upto_region 2 with(refine wpList_make_row _ rfl _ _ 88 rfl 180 i0 (.int .u32 0) Tryz.underlying88 HI.out HZ0.out HZ1.out rfl .i64 .i64 (dig x).length rfl rfl (by rw [HZ2.out];omega) (by omega) ?_);rw [made_uvals];generalize hB:w.heap.size=d at*;refine wp_abs (fun w1=>Below d w w1∧w1.heap[d]?=some (.cells (uvals (List.replicate (dig x).length 0)).toArray 180 (0,0))) ⟨by rw [←hB];exact(Below.refl _ _).alloc (Nat.le_refl _) _,by rw [←hB];exact heap_at rfl⟩ (fun w1 hw1=>?_);obtain⟨bel1,h1⟩:=hw1;have HB:=Lib.hid hB;clear hB;go_upto_region 4 with(fail);go_loopw [7,8] (fun v i wr=> ∃(k r:Nat) (z:Int) (Q:List Nat),k≤(dig x).length∧z=(k:Int)-1∧i=.int .i64 z∧v=.int .u64 r∧DivSt x b k Q r∧Below d w wr∧wr.heap[d]?=some (.cells (uvals Q).toArray 180 (0,0))) (fun _ i _=>(intOf i+1).toNat);case atStart=>exact⟨(dig x).length,0,(dig x).length-1,_,Nat.le_refl _,rfl,by go_num,rfl,S0,bel1,h1⟩
 case round=>
 obtain⟨k,r,z,Q,hk,hz,rfl,rfl,S,bel,hQ⟩:=hrel;clear bel1 h1 S0;have hrb:=S.lt;by_cases h0:k=0
 ·subst h0;obtain rfl:z= -1:=by omega
  have hd:=Lib.hid S.done;have hl:=S.len;have QT:=Lib.hid (exTrim_any (some ⟨d,0,none⟩) Q (dig x).length wr (limbsAt_block hQ rfl) (by omega) (by omega) S.all);rw [hd.out.1,hl]at QT;clear S hQ hz;go_wp2_with (go_at_call 138;refine QT.out.mono ?_;rintro e w3 ⟨rfl,hI3,rfl⟩)
  go_ret2
  exact⟨_,_,r,rfl,hd.out.2,hI3,fun a h=>by cases h;rw [HB.out];exact Nat.le_refl _,by rw [HB.out];exact bel⟩
 obtain⟨i,rfl⟩: ∃i,k=i+1:=⟨k-1,by omega⟩;obtain rfl:z=(i:Int):=by omega
 have hlt:i<(dig x).length:=by omega
 have hi0:(0:Int)≤i:=by omega
 have hix:(i:Int)<((dig x).length:Int):=by omega
 obtain⟨a0,hoa,hac⟩:=HA.out.get i hlt;have hablk:a0.block<d:=by
  obtain⟨a1,h2,h3,_⟩:=HA.out.cells i hlt;rw [hoa]at h2;cases h2;rw [HB.out]at h3;exact h3
 have hac3:wr.cell? (a0.add i)=some (.int .u32 ((lAt (dig x) i:Nat):Int)):=by rw [bel.cell (p:=a0.add i) (by rw [addr_block'];exact hablk)];exact hac
 have SN:Hid (DivSt x b i (Q.set i ((r*1000000000+lAt (dig x) i)/b)) ((r*1000000000+lAt (dig x) i)%b)∧(r*1000000000+lAt (dig x) i)/b<1000000000):=Lib.hid (S.step hlt);have hai:lAt (dig x) i<1000000000:=getD_lt (all_dig x) i;have hQl:i<Q.length:=by rw [S.len];exact hlt
 have hc3:=cell_uvals hQ i hQl;have hf3:=frozen_of_row wr d i _ _ hQ;have HSET:=Lib.hid (fun q=>set_uvals hQ i q);have HBEL:=Lib.hid bel;subst hoa;clear S hac hz h0 hQ bel;generalize lAt (dig x) i=a at*;go_upto_region 7 with(fail);obtain⟨D,hD⟩: ∃D:Nat,D=r*1000000000+a:=⟨_,rfl⟩;have hDi:(r:Int)*1000000000+(a:Int)=(D:Int):=by omega
 have hDb:D<1000000000000000000:=by omega
 rw [←hD]at SN;rw [hDi];clear hac3 hD hDi;have hq:((D:Int)/(b:Int))=((D/b:Nat):Int):=(Int.natCast_ediv D b).symm;have hr:((D:Int)%(b:Int))=((D%b:Nat):Int):=(Int.natCast_emod D b).symm;have hq9:=SN.out.2;generalize hqq:D/b=q at*;generalize hrr:D%b=r2 at*;have HQQ:=Lib.hid hqq;have HRR:=Lib.hid hrr;clear hqq hrr;go_upto_region 8 with(fail);refine wp_abs (fun w4=>Below d w w4∧w4.heap[d]?=some (.cells (uvals (Q.set i q)).toArray 180 (0,0))) ⟨bel_only HBEL.out ((Only.refl d wr).setCell _ _) (Nat.le_refl _),HSET.out q⟩ (fun w4 hw4=>?_);obtain⟨bel4,hW4⟩:=hw4;clear hc3 hf3 HSET HBEL;go_wp2_with fail;go_roundw;case rel=>exact⟨i,r2,(i:Int)-1,_,by omega,rfl,by go_num,by go_num,SN.out.1,bel4,hW4⟩
 case measure=>simp [intOf]
end Go.Proofs.YtnohcdpnnhmpfaaGreatDoor
