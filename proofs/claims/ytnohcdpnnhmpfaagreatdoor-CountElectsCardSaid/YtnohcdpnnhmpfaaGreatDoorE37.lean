/- The reference's Of, trim, at: rows of digits. -/
import Derived.Test.YtnohcdpnnhmpfaaGreatDoorE14
set_option linter.all false
set_option maxRecDepth 100000
set_option maxHeartbeats 4000000
namespace Go.Proofs.YtnohcdpnnhmpfaaGreatDoor
open Go.RowKit Tryz ML ND
variable{L:E0}{T:o0}{b d x y:Nat}{w:m0}
theorem YH:(prog.info? 3).map (fun i=>(i.zero,i.size,i.bytes))=some (some (.int .i64 0),1,8):=by kernel_rfl
theorem Kz(w:m0)(dt:E0)(t:o0)(n:Nat)(hn:w.heap.size=n): ∀j u,(ym dt)[j]?=some u→(w.alloc (.cells (ym dt).toArray t)).cell? ((⟨n,0,none⟩:Addr).add j)=some u:=Yv w (ym dt) t n hn
theorem jdH(oa:s0)(L:E0)(cap i:Nat)(w:m0)(h:IntsAt w oa L)(hl:L.length<9223372036854775808)(hi:i<9223372036854775808):
 Calls prog 136 #[.slice oa L.length cap,.int .i64 (i:Int)] w fun e w'=>e=.returned (.int .i64 ((dAt L i:Nat):Int))∧w'=w:=by
 unfold dAt;have H:=jA h;clear h;go_enter Tryz.func136,Tryz.ntmps136;by_cases ns:i<L.length
 ·obtain⟨a,rfl,hc⟩:=H.u.get i ns;have hd:decide ((i:Int)<(L.length:Int))=true:=by simp;omega
  generalize L.getD i 0=d at*;go_wp2_with fail;go_ret;exact⟨rfl,rfl⟩
 ·have hd:decide ((i:Int)<(L.length:Int))=false:=by simp;omega
  have h0:L.getD i 0=0:=by rw [jV,kR (by omega)];rfl
  rw [h0];go_wp2_with fail;go_ret;exact⟨rfl,rfl⟩
theorem KY(oa:s0)(L:E0)(cap:Nat)(w:m0)(h:IntsAt w oa L)(hl:L.length<9223372036854775808)(fK:L.length≤cap)(hA:yx L):
 Calls prog 135 #[.slice oa L.length cap] w fun e w'=>e=.returned (.slice oa (zO L).length cap)∧IntsAt w oa (zO L)∧w'=w:=by
 have H:=jA h;have HA:=jA hA;clear h hA;go_enter Tryz.func135,Tryz.ntmps135;go_wp2_with fail;go_loopw [0] (fun v wr=> ∃k:Nat,k≤L.length∧v=.slice oa k cap∧(∀i,k≤i→L.getD i 0=0)∧wr=w) (fun v _=>match v with| .slice _ n _=>n|_=>0);case atStart=>exact⟨L.length,jO _,rfl,fun i hi=>by simp [jV,kR hi],rfl⟩
 case round=>
 obtain⟨k,hk,rfl,hz,rfl⟩:=hrel;have HZ:=jA hz;clear hz;by_cases h0:k=0
 ·subst h0;have ht:=Ku L 0 HA.u (by omega) HZ.u (.inl rfl);rw [qu]at ht;have HT:=jA ht;clear ht;go_wp2_with fail;go_ret;rw [←HT.u];exact⟨rfl,⟨fun i hi=>by simp at hi⟩,rfl⟩
 obtain⟨j,rfl⟩: ∃j,k=j+1:=⟨k-1,by omega⟩;obtain⟨a,rfl,hc⟩:=H.u.get j (by omega);have hk63:(j:Int)+1<9223372036854775808:=by omega
 have hjc:(j:Int)≤cap:=by omega
 by_cases Dy:L.getD j 0=0
 ·
   have Ns:=jA (show ∀i,j≤i→L.getD i 0=0 from fun i hi=>by
    by_cases he:i=j;·rw [he];exact Dy
    ·exact HZ.u i (by omega))
   rw [Dy]at hc;clear Dy;go_wp2_with fail;go_roundw;case rel=>exact⟨j,by omega,by go_num,Ns.u,trivial⟩
   case measure=>simp
 ·have ht:=Ku L (j+1) HA.u hk HZ.u (.inr (by simpa using Dy));have BJ:(zO L).length=j+1:=by rw [←ht,jf];omega
  have hI:=H.u.take (j+1);rw [ht]at hI;have HI:=jA hI;have HL2:=jA BJ;clear ht BJ hI;have hdf:(((L.getD j 0:Nat):Int)==0)=false:=by rw [jt];intro h;apply Dy;omega
  clear Dy h0;generalize L.getD j 0=d at*;go_wp2_with fail;go_ret;rw [HL2.u];exact⟨rfl,HI.u,rfl⟩
theorem jhT(x y:Nat)(oa ob:s0)(ca cb:Nat)(w:m0)(ha:IntsAt w oa (dig x))(hb:IntsAt w ob (dig y))(hx:(dig x).length<1099511627776)(hy:(dig y).length<1099511627776):
 Calls prog 82 #[.slice oa (dig x).length ca,.slice ob (dig y).length cb] w fun e w'=> ∃oc cc,e=.returned (.slice oc (dig (x+y)).length cc)∧IntsAt w' oc (dig (x+y))∧O0 w.heap.size w w':=by
 obtain⟨i0,hi,Is,Ts,Ns⟩:=info_parts YH;have HI:=jA hi;have Dt:=jA Is;have Ct:=jA Ts;have Bt:=jA Ns;have HA:=jA ha;have Eu:=jA hb;clear hi Is Ts Ns ha hb;go_enter Tryz.func82,Tryz.ntmps82;go_upto_region 4 with(fail);go_loopw [5,6,7] (fun v z i wr=> ∃(O:E0) (u:Nat),z=.int .i64 u∧i=.int .i64 O.length∧O.length≤(dig x).length+(dig y).length+1∧Jq x y O u∧O0 w.heap.size w wr∧wr.ownsRow w.heap.size 3 1 v O.length (ym O)) (fun _ _ i _=>(dig x).length+(dig y).length+1-(intOf i).toNat);case atStart=>exact⟨[],0,rfl,rfl,by simp,Jq.init x y,jN _ _,kg _ _ _ _⟩
 case round=>
 obtain⟨O,u,rfl,rfl,Oy,S,bel,own⟩:=hrel;by_cases hm:O.length<(dig x).length∨O.length<(dig y).length∨0<u
 ·have hsh:=S.short hm;have SN:=jA (S.next hm);have ON:=S.up
  have QA:=jA (fun(oz:s0) (L:E0) (cz:Nat) (h:(oz=oa∧L=dig x)∨(oz=ob∧L=dig y))=>jdH oz L cz O.length wr (by
   rcases h with⟨rfl,rfl⟩|⟨rfl,rfl⟩;·exact HA.u.below bel
   ·exact Eu.u.below bel) (by rcases h with⟨rfl,rfl⟩|⟨rfl,rfl⟩<;>omega) (by omega))
  have h1:dAt (dig x) O.length<10:=yP (yN x) O.length;have h2:dAt (dig y) O.length<10:=yP (yN y) O.length;clear S;have hd:((O.length:Int)<((dig x).length:Int))∨(¬(O.length:Int)<((dig x).length:Int)∧(O.length:Int)<((dig y).length:Int))∨
   (¬(O.length:Int)<((dig x).length:Int)∧ ¬(O.length:Int)<((dig y).length:Int)∧(0:Int)<(u:Int)):=by omega
  have EF:=bel.size;clear hm;rcases hd with d1|⟨d1,d2⟩|⟨d1,d2,d3⟩
  all_goals (
   go_upto_region 8 with(first
    |(go_at_call 136;refine(QA.u _ _ _ ?ih).mono ?_;(case ih=>first|exact .inl ⟨rfl,rfl⟩|exact .inr ⟨rfl,rfl⟩);rintro e w3 ⟨rfl,rfl⟩)
    |(at_builtin;refine kV _ rfl (.tmp 34) (.tmp 37) 67 rfl w.heap.size 3 i0 (.int .i64 0) 1 8 underlying67 HI.u Dt.u Ct.u Bt.u rfl (by decide) u5 O.length (ym O) rfl (own.alloc _) ⟨w3.heap.size,0,none⟩ 1 1 (ym [(dAt (dig x) O.length+dAt (dig y) O.length+u)%10]) rfl rfl ?c1 ?c2 ?c3 ?c4 ?c5 ?_))
   case c1=>exact Kz w3 [(dAt (dig x) O.length+dAt (dig y) O.length+u)%10] _ _ rfl
   case c2=>exact Ve _
   case c3=>unfold maxLen;omega
   case c4=>omega
   case c5=>simp;omega
   intro v5 w5 Hs ru _;have Gs:O0 w.heap.size w w5:=(bel.alloc EF _).grown ru (by simp;omega) (fun q hq=>(own.lt q hq).1);rw [KI]at Hs;have iu:w5.ownsRow w.heap.size 3 1 v5 (O++ [(dAt (dig x) O.length+dAt (dig y) O.length+u)%10]).length (ym (O++ [(dAt (dig x) O.length+dAt (dig y) O.length+u)%10])):=by rw [jZ];exact Hs
   clear Hs own ru bel QA;go_wp2_with fail;go_roundw;case rel=>exact⟨O++ [(dAt (dig x) O.length+dAt (dig y) O.length+u)%10],(dAt (dig x) O.length+dAt (dig y) O.length+u)/10,by go_num,by rw [jZ,kM];go_num,by rw [jZ,kM];omega,SN.u,Gs,iu⟩
   case measure=>simp [intOf];omega)
 ·have h3: ¬0<u:=fun h=>hm (.inr (.inr h));obtain rfl:u=0:=by omega
  have h1: ¬O.length<(dig x).length:=fun h=>hm (.inl h);have h2: ¬O.length<(dig y).length:=fun h=>hm (.inr (.inl h));have hO:=jA (S.done h1 h2);obtain⟨oc,cc,rfl,_,_,hI⟩:=Vw own;have HII:=jA hI;have d1:decide ((O.length:Int)<((dig x).length:Int))=false:=by simp;omega
  have d2:decide ((O.length:Int)<((dig y).length:Int))=false:=by simp;omega
  clear hI own S hm h3;go_wp2_with fail;go_ret;rw [←hO.u];exact⟨oc,cc,rfl,HII.u,bel⟩
theorem Zn(x y:Nat)(oa ob:s0)(ca cb:Nat)(w:m0)(aJ:y≤x)(ha:IntsAt w oa (dig x))(hb:IntsAt w ob (dig y))(hx:(dig x).length<1099511627776)(hy:(dig y).length<1099511627776):
 Calls prog 84 #[.slice oa (dig x).length ca,.slice ob (dig y).length cb] w fun e w'=> ∃oc cc,e=.returned (.slice oc (dig (x-y)).length cc)∧IntsAt w' oc (dig (x-y))∧O0 w.heap.size w w'∧(∀a,oc=some a→w.heap.size≤a.block):=by
 obtain⟨i0,hi,Is,Ts,Ns⟩:=info_parts YH;have HI:=jA hi;have Dt:=jA Is;have Ct:=jA Ts;have Bt:=jA Ns;have HA:=jA ha;have Eu:=jA hb;have TZ:=jA aJ;clear hi Is Ts Ns ha hb aJ;go_enter Tryz.func84,Tryz.ntmps84;go_upto_region 4 with(fail);go_loopw [5,6,7] (fun v z i wr=> ∃(O:E0) (u:Nat),z=.int .i64 u∧i=.int .i64 O.length∧O.length≤(dig x).length∧ZH x y O u∧O0 w.heap.size w wr∧wr.ownsRow w.heap.size 3 1 v O.length (ym O)) (fun _ _ i _=>(dig x).length-(intOf i).toNat);case atStart=>exact⟨[],0,rfl,rfl,by simp,ZH.init x y,jN _ _,kg _ _ _ _⟩
 case round=>
 obtain⟨O,u,rfl,rfl,Oy,S,bel,own⟩:=hrel;by_cases hm:O.length<(dig x).length
 ·have d1:decide ((O.length:Int)<((dig x).length:Int))=true:=by simp;omega
  have ON:=S.down;obtain⟨a0,Us,Ft⟩:=(HA.u.below bel).get O.length hm;have Bu:wr.cell? (a0.add O.length)=some (.int .i64 ((dAt (dig x) O.length:Nat):Int)):=Ft;have QA:=jA (jdH ob (dig y) cb O.length wr.drew ((Eu.u.below bel).drew) (by omega) (by omega));have h1:dAt (dig x) O.length<10:=yP (yN x) O.length;have h2:dAt (dig y) O.length<10:=yP (yN y) O.length;have SN:=jA (fun s d' hs hd he=>S.next s d' hs hd he);have EF:=bel.size;clear S Ft;subst Us;have FC:Hid (∀s d',s<10→d'≤1→dAt (dig x) O.length+10*d'=s+dAt (dig y) O.length+u→ZH x y (O++ [s]) d'):=SN;clear SN;generalize dAt (dig x) O.length=a at*;generalize dAt (dig y) O.length=b at*;go_upto_region 6 with(fail);refine Seg.xf (fun w'=> ∃n,w'=wr.drewN n) [([0,1,2,3,4,5,8],6)] [7] 9 (by kernel_rfl) (by kernel_rfl) (fun _ _ d _ _ h=>by cases d<;>exact h) (⟨1,rfl⟩) ?_;simp only [jK,Seg.opAt,Seg.xu];repeat (any_goals (first|go_big_quiet_step (fail)|quiet_step (fail)))
  refine jR ?_;intro K hK;simp only [Region.wanted,jY];go_wp2_with fail;refine QA.u.mono ?_;rintro e w5 ⟨rfl,rfl⟩;refine hK _ _ ⟨1,rfl⟩ ?_;clear hK K QA;obtain⟨z,hz⟩: ∃z:Int,(a:Int)-b-u=z:=⟨_,rfl⟩;repeat (any_goals (first|go_big_quiet_step (fail)|quiet_step (fail)))
  refine jR ?_;by_cases Rw:z<0
  ·obtain⟨sN,hsN⟩: ∃sN:Nat,z+10=(sN:Int):=⟨(z+10).toNat,by omega⟩;have S2:=jA (FC.u sN 1 (by omega) (by omega) (by omega));go_upto_region 5 with(at_builtin;refine kV _ rfl (.tmp 29) (.tmp 31) 67 rfl w.heap.size 3 i0 (.int .i64 0) 1 8 underlying67 HI.u Dt.u Ct.u Bt.u rfl (by decide) u5 O.length (ym O) rfl ((own.alloc _).drew) ⟨wr.heap.size,0,none⟩ 1 1 (ym [sN]) rfl rfl ?c1 ?c2 ?c3 ?c4 ?c5 ?_);case c1=>first|exact Kz wr [sN] _ _ rfl|exact fun _ _ h=>h
   case c2=>exact Ve _
   case c3=>unfold maxLen;omega
   case c4=>omega
   case c5=>first|omega|(simp;omega)
   intro v5 w5 Hs ru _;have Gs:O0 w.heap.size w w5:=((bel.alloc EF _).drew).grown ru (by simp;omega) (fun q hq=>(own.lt q hq).1);rw [KI]at Hs;have iu:w5.ownsRow w.heap.size 3 1 v5 (O++ [sN]).length (ym (O++ [sN])):=by rw [jZ];exact Hs
   clear Hs own ru bel Bu;go_wp2_with fail;go_roundw;case rel=>exact⟨O++ [sN],1,rfl,by rw [jZ,kM];go_num,by rw [jZ,kM];omega,S2.u,Gs,iu⟩
   case measure=>simp [intOf];omega
  ·obtain⟨sN,hsN⟩: ∃sN:Nat,z=(sN:Int):=⟨z.toNat,by omega⟩;have S2:=jA (FC.u sN 0 (by omega) (by omega) (by omega));subst hsN;go_upto_region 5 with(at_builtin;refine kV _ rfl (.tmp 29) (.tmp 31) 67 rfl w.heap.size 3 i0 (.int .i64 0) 1 8 underlying67 HI.u Dt.u Ct.u Bt.u rfl (by decide) u5 O.length (ym O) rfl ((own.alloc _).drew) ⟨wr.heap.size,0,none⟩ 1 1 (ym [sN]) rfl rfl ?c1 ?c2 ?c3 ?c4 ?c5 ?_);case c1=>first|exact Kz wr [sN] _ _ rfl|exact fun _ _ h=>h
   case c2=>exact Ve _
   case c3=>unfold maxLen;omega
   case c4=>omega
   case c5=>first|omega|(simp;omega)
   intro v5 w5 Hs ru _;have Gs:O0 w.heap.size w w5:=((bel.alloc EF _).drew).grown ru (by simp;omega) (fun q hq=>(own.lt q hq).1);rw [KI]at Hs;have iu:w5.ownsRow w.heap.size 3 1 v5 (O++ [sN]).length (ym (O++ [sN])):=by rw [jZ];exact Hs
   clear Hs own ru bel Bu;go_wp2_with fail;go_roundw;case rel=>exact⟨O++ [sN],0,rfl,by rw [jZ,kM];go_num,by rw [jZ,kM];omega,S2.u,Gs,iu⟩
   case measure=>simp [intOf];omega
 ·have d1:decide ((O.length:Int)<((dig x).length:Int))=false:=by simp;omega
  have hO:=jA (S.done (by omega) TZ.u);obtain⟨oc,cc,rfl,EB,SG,hI⟩:=Vw own;have QT:=jA (KY oc O cc wr hI (by omega) EB S.all);rw [hO.u]at QT;clear hI own S hO;go_wp2_with (go_at_call 135;refine QT.u.mono ?_;rintro e w3 ⟨rfl,UD,rfl⟩);go_ret;exact⟨oc,cc,rfl,UD,bel,SG⟩
theorem Vm(x y:Nat)(oa ob:s0)(ca cb:Nat)(w:m0)(ha:IntsAt w oa (dig x))(hb:IntsAt w ob (dig y))(hx:(dig x).length<1099511627776)(hy:(dig y).length<1099511627776):
 Calls prog 83 #[.slice oa (dig x).length ca,.slice ob (dig y).length cb] w fun e w'=>e=.returned (.int .i64 (Ja x y))∧O0 w.heap.size w w':=by
 have HA:=jA ha;have Eu:=jA hb;clear ha hb;go_enter Tryz.func83,Tryz.ntmps83;by_cases hl:(dig x).length<(dig y).length
 ·have hc:=jA (XV (JT hl));have g1: ¬((dig x).length:Int)=((dig y).length:Int):=by omega
  have g2:decide (((dig x).length:Int)<((dig y).length:Int))=true:=by simp;omega
  go_wp2_with fail;go_ret;exact⟨by rw [hc.u];rfl,jN _ _⟩
 by_cases hg:(dig y).length<(dig x).length
 ·have hc:=jA (XW (JT hg));have g1: ¬((dig x).length:Int)=((dig y).length:Int):=by omega
  have g2:decide (((dig x).length:Int)<((dig y).length:Int))=false:=by simp;omega
  go_wp2_with fail;go_ret;exact⟨by rw [hc.u];rfl,jN _ _⟩
 have WC:(dig x).length=(dig y).length:=by omega
 go_upto_region 6 with(fail);go_loopw [5] (fun i wr=> ∃(k:Nat) (z:Int),k≤(dig x).length∧z=(k:Int)-1∧i=.int .i64 z∧(dig x).drop k=(dig y).drop k∧O0 w.heap.size w wr) (fun i _=>(intOf i+1).toNat);case atStart=>exact⟨(dig x).length,(dig x).length-1,jO _,rfl,by go_num,by rw [qX (jO _),qX (by omega)],jN _ _⟩
 case round=>
 obtain⟨k,z,hk,hz,rfl,cy,bel⟩:=hrel;by_cases h0:k=0
 ·subst h0;obtain rfl:z= -1:=by omega
  have Uu:=jba (by simpa using cy);have hc:=jA (show Ja x y=0 by rw [Uu];exact ZW y);clear hz;go_wp2_with fail;go_ret;exact⟨by rw [hc.u];rfl,bel⟩
 obtain⟨j,rfl⟩: ∃j,k=j+1:=⟨k-1,by omega⟩;obtain rfl:z=(j:Int):=by omega
 have rO:j<(dig x).length:=by omega
 have pO:j<(dig y).length:=by omega
 obtain⟨a0,Us,Ft⟩:=(HA.u.below bel).get j rO;obtain⟨b0,Mw,Iy⟩:=(Eu.u.below bel).get j pO;have ns:=jA (fun h=>XV (Qt rO pO cy h));have hgt:=jA (fun h=>XW (Qt pO rO cy.symm h));have cU:=jA (fun h=>jbb rO pO cy h);have eI:(0:Int)≤j:=by omega
 have hjlx:(j:Int)<((dig x).length:Int):=by omega
 have NT:(j:Int)<((dig y).length:Int):=by omega
 subst Us;subst Mw;clear hz cy h0 WC hk hl hg;generalize (dig x).getD j 0=a at*;generalize (dig y).getD j 0=b at*;go_upto_region 8 with(fail);refine Seg.xf (fun w'=> ∃n,w'=wr.drewN n) [] [0,1,2,3,4,5,6,7] 8 (by kernel_rfl) (by kernel_rfl) (fun _ _ d _ _ h=>by cases d<;>exact h) (⟨1,rfl⟩) ?_;simp only [jK,Seg.opAt,Seg.xu];repeat (any_goals (first|go_big_quiet_step (fail)|quiet_step (fail)))
 refine jR ?_;by_cases eu:a<b
 ·have dl:decide ((a:Int)<(b:Int))=true:=by simp;omega
  have hc:=jA (ns.u eu);go_wp2_with fail;go_ret;exact⟨by rw [hc.u];rfl,bel.drew⟩
 have dl:decide ((a:Int)<(b:Int))=false:=by simp;omega
 go_upto_region 10 with(fail);refine Seg.xf (fun w'=> ∃n,w'=wr.drewN n) [] [0,1,2,3,4,5,6,7] 8 (by kernel_rfl) (by kernel_rfl) (fun _ _ d _ _ h=>by cases d<;>exact h) (⟨2,rfl⟩) ?_;simp only [jK,Seg.opAt,Seg.xu];repeat (any_goals (first|go_big_quiet_step (fail)|quiet_step (fail)))
 refine jR ?_;by_cases nI:b<a
 ·have dg:decide ((b:Int)<(a:Int))=true:=by simp;omega
  have hc:=jA (hgt.u nI);go_wp2_with fail;go_ret;exact⟨by rw [hc.u];rfl,bel.drew.drew⟩
 ·have dg:decide ((b:Int)<(a:Int))=false:=by simp;omega
  have he:=jA (cU.u (by omega));go_wp2_with fail;go_roundw;case rel=>exact⟨j,(j:Int)-1,by omega,rfl,by go_num,he.u,bel.drew.drew⟩
  case measure=>simp [intOf]
theorem Zq(n:Nat):madeCells #[Value.int .i64 0] n=(ym (List.replicate n 0)).toArray:=by
 unfold madeCells ym;apply Array.ext;·simp
 ·intro i h1 h2;simp [Nat.mod_one]
theorem Vy(h:w.heap[b]?=some (.cells (ym L).toArray T (0,0)))(i:Nat)(hi:i<L.length):w.cell? ⟨b,i,none⟩=some (.int .i64 ((dAt L i:Nat):Int)):=by
 rw [jM w b i _ _ _ h];simp [ym,dAt,jV,hi]
theorem ZP(h:w.heap[b]?=some (.cells (ym L).toArray T (0,0)))(i d:Nat):(w.setCell ⟨b,i,none⟩ (.int .i64 (d:Int))).heap[b]?=some (.cells (ym (L.set i d)).toArray T (0,0)):=by
 rw [jd w b i _ _ _ h];congr 2;simp [ym,vC]
theorem zs(x y:Nat)(oa ob:s0)(ca cb:Nat)(w:m0)(ha:IntsAt w oa (dig x))(hb:IntsAt w ob (dig y))(hx:(dig x).length<1099511627776)(hy:(dig y).length<1099511627776):
 Calls prog 79 #[.slice oa (dig x).length ca,.slice ob (dig y).length cb] w fun e w'=> ∃oc cc,e=.returned (.slice oc (dig (x*y)).length cc)∧IntsAt w' oc (dig (x*y))∧O0 w.heap.size w w':=by
 obtain⟨i0,hi,Is,Ts,Ns⟩:=info_parts YH;have HI:=jA hi;have Dt:=jA Is;have Ct:=jA Ts;have Bt:=jA Ns;have HA:=jA ha;have Eu:=jA hb;clear hi Is Ts Ns ha hb;obtain⟨n,hn⟩: ∃n,n=(dig x).length+(dig y).length:=⟨_,rfl⟩;have AJ:((dig x).length:Int)+((dig y).length:Int)=(n:Int):=by omega
 have hnb:n<2199023255552:=by omega
 have mL:=jA hn;clear hn;go_enter Tryz.func79,Tryz.ntmps79;go_upto_region 2 with(refine wpList_make_row _ rfl _ _ 67 rfl 3 i0 (.int .i64 0) underlying67 HI.u Dt.u Ct.u rfl .i64 .i64 n rfl rfl (by rw [Bt.u];omega) (by omega) ?_);rw [Zq];generalize hB:w.heap.size=d at*;refine xr (fun w1=>O0 d w w1∧w1.heap[d]?=some (.cells (ym (List.replicate n 0)).toArray 3 (0,0))) ⟨by rw [←hB];exact(jN _ _).alloc (jO _) _,by rw [←hB];exact xh rfl⟩ (fun w1 ts=>?_);obtain⟨et,h1⟩:=ts;have S0:=Kp.init x y;rw [←mL.u]at S0;have HB:=jA hB;clear hB;go_upto_region 3 with(fail);go_loopw [6] (fun i wr=> ∃(k:Nat) (W:E0),k≤(dig x).length∧i=.int .i64 k∧Kp x y k W∧O0 d w wr∧wr.heap[d]?=some (.cells (ym W).toArray 3 (0,0))) (fun i _=>(dig x).length-(intOf i).toNat);case atStart=>exact⟨0,_,by omega,rfl,S0,et,h1⟩
 case round=>
 obtain⟨i,W,hk,rfl,S,bel,hW⟩:=hrel;clear et h1 S0;by_cases ns:i<(dig x).length
 ·have lF:decide ((i:Int)<((dig x).length:Int))=true:=by simp;omega
  obtain⟨a0,Us,Ft⟩:=HA.u.get i ns;have Cv:a0.block<d:=by
   obtain⟨a1,h2,h3,_⟩:=HA.u.cells i ns;rw [Us]at h2;cases h2;rw [HB.u]at h3;exact h3
  have Bu:w.cell? (a0.add i)=some (.int .i64 ((dAt (dig x) i:Nat):Int)):=Ft;subst Us;clear Ft;go_upto_region 7 with(fail);go_loopw [7,8] (fun u j wi=> ∃(k uN:Nat) (W:E0),k≤(dig y).length∧j=.int .i64 k∧u=.int .i64 uN∧VE x y i k W uN∧O0 d w wi∧wi.heap[d]?=some (.cells (ym W).toArray 3 (0,0))) (fun _ j _=>(dig y).length-(intOf j).toNat);case atStart=>exact⟨0,0,W,by omega,rfl,rfl,S.row,bel,hW⟩
  case round=>
  obtain⟨j,u,W2,hj,rfl,rfl,R,us,Hz⟩:=hrel;clear S bel hW;by_cases Dw:j<(dig y).length
  ·have mI:decide ((j:Int)<((dig y).length:Int))=true:=by simp;omega
   obtain⟨b0,Mw,Iy⟩:=Eu.u.get j Dw;have iK:b0.block<d:=by
    obtain⟨b1,h2,h3,_⟩:=Eu.u.cells j Dw;rw [Mw]at h2;cases h2;rw [HB.u]at h3;exact h3
   have Ww:wr.cell? (a0.add i)=some (.int .i64 ((dAt (dig x) i:Nat):Int)):=by rw [us.cell (p:=a0.add i) (by rw [yI];exact Cv)];exact Bu
   have LD:wr.cell? (b0.add j)=some (.int .i64 ((dAt (dig y) j:Nat):Int)):=by rw [us.cell (p:=b0.add j) (by rw [yI];exact iK)];exact Iy
   have mx:=mL.u;have hijn:i+j<n:=by omega
   have Ey:=Vy Hz (i+j) (by rw [R.len];omega);have BO:=jc wr d (i+j) _ _ Hz;have RN:=jA (R.next ns Dw);have ON:=R.up;have h1:dAt (dig x) i<10:=yP (yN x) i;have h2:dAt (dig y) j<10:=yP (yN y) j;have h3:dAt W2 (i+j)<10:=yP R.all (i+j);have RN2:Hid (VE x y i (j+1) (W2.set (i+j) ((dAt W2 (i+j)+dAt (dig x) i*dAt (dig y) j+u)%10)) ((dAt W2 (i+j)+dAt (dig x) i*dAt (dig y) j+u)/10)):=RN;have fL:=jA Hz;have Fx:=jA us;subst Mw;clear RN R Iy Hz us mx;generalize dAt (dig x) i=a at*;generalize dAt (dig y) j=b at*;generalize dAt W2 (i+j)=c at*;have eu:a*b≤9*9:=qV (by omega) (by omega);obtain⟨m,hm⟩: ∃m,m=a*b:=⟨_,rfl⟩;have NG:(a:Int)* (b:Int)=(m:Int):=by rw [hm];exact(vY a b).symm
   rw [←hm]at RN2 eu;have hm81:m≤81:=eu;have rA:(0:Int)≤(i:Int)+(j:Int):=by omega
   have GJ:(i:Int)+(j:Int)<(n:Int):=by omega
   have OT:(i:Int)<((dig x).length:Int):=by omega
   have NT:(j:Int)<((dig y).length:Int):=by omega
   clear hm eu Bu;go_upto_region 9 with(fail);refine Seg.xf (fun w'=> ∃n,w'=wr.drewN n) [] [0,1,2,3,4,5,6,7,8,9,10,11,12,13,14,15,16] 17 (by kernel_rfl) (by kernel_rfl) (fun _ _ d _ _ h=>by cases d<;>exact h) (⟨1,rfl⟩) ?_;simp only [jK,Seg.opAt,Seg.xu];repeat (any_goals (first|go_big_quiet_step (fail)|quiet_step (fail)))
   refine jR ?_;go_upto_region 11 with(fail);refine xr (fun w4=>O0 d w w4∧w4.heap[d]?=some (.cells (ym (W2.set (i+j) ((c+m+u)%10))).toArray 3 (0,0))) ?_ (fun w4 Gu=>?_)
   ·have e:=ZP fL.u (i+j) ((c+m+u)%10);have hv:(((c+m+u)%10:Nat):Int)=((c:Int)+(m:Int)+(u:Int))%10:=by omega
    rw [hv]at e;exact⟨(xl Fx.u ((yG.refl d wr).setCell _ _) (jO _)).drew,e⟩
   obtain⟨Fs,dH⟩:=Gu;clear Ww LD Ey BO fL Fx;go_wp2_with fail;go_roundw;case rel=>exact⟨j+1,(c+m+u)/10,_,by omega,by go_num,by go_num,RN2.u,Fs,dH⟩
   case measure=>simp [intOf];omega
  ·have mI:decide ((j:Int)<((dig y).length:Int))=false:=by simp;omega
   obtain rfl:j=(dig y).length:=by omega
   have mx:=mL.u;have GJ:(i:Int)+((dig y).length:Int)<(n:Int):=by omega
   have rA:(0:Int)≤(i:Int)+((dig y).length:Int):=by omega
   have Ey:=Vy Hz (i+(dig y).length) (by rw [R.len];omega);have BO:=jc wr d (i+(dig y).length) _ _ Hz;have RD:=jA (R.done ns);have fL:=jA Hz;clear R Hz mx Bu;go_upto_region 4 with(fail);refine xr (fun w4=>O0 d w w4∧w4.heap[d]?=some (.cells (ym (W2.set (i+(dig y).length) u)).toArray 3 (0,0))) ⟨xl us ((yG.refl d wr).setCell _ _) (jO _),ZP fL.u (i+(dig y).length) u⟩ (fun w4 Gu=>?_);obtain⟨Fs,dH⟩:=Gu;clear Ey BO fL us;go_wp2_with fail;go_roundw;case rel=>exact⟨i+1,_,by omega,by go_num,RD.u,Fs,dH⟩
   case measure=>simp [intOf];omega
 ·have lF:decide ((i:Int)<((dig x).length:Int))=false:=by simp;omega
  obtain rfl:i=(dig x).length:=by omega
  have hO:=jA S.done;have hl:W.length=n:=by rw [S.len,mL.u]
  have QT:=jA (KY (some ⟨d,0,none⟩) W n wr (Ya hW rfl) (by omega) (by omega) S.all);rw [hO.u,hl]at QT;clear S hO hW;go_wp2_with (go_at_call 135;refine QT.u.mono ?_;rintro e w3 ⟨rfl,UD,rfl⟩);go_ret;exact⟨_,_,rfl,UD,by rw [HB.u];exact bel⟩
theorem jjs(h:y≤x):(0:Int)≤Ja x y:=by
 rcases jw y x with h1|h1;·rw [XW h1];decide
 ·have:x=y:=by omega
  rw [this,ZW];decide
theorem jhi(h:x<y): ¬(0:Int)≤Ja x y:=by rw [XV h];decide
theorem jgw{base g:Nat}{e:o0}(hb:base≤g)(h:w.heap[g]?=some (.cells #[.int .i64 (d:Int)] e (0,0))):w.ownsRow base e 1 (.slice (some ⟨g,0,none⟩) 1 1) 1 (ym [d]):=
 ⟨rfl,.inr ⟨g,1,_,rfl,hb,h,jO _,by decide,rfl,rfl⟩⟩
theorem IntsAt.set{oa:s0}{i:Nat}{v:n0}(h:IntsAt w oa L)(Cs: ∀a,oa=some a→d≠a.block):IntsAt (w.setCell ⟨d,i,none⟩ v) oa L:=⟨fun j hj=>by
 obtain⟨a,h1,h2,h3⟩:=h.cells j hj;have hb:=(yG.refl d w).setCell i v;refine⟨a,h1,by rw [hb.size];exact h2,?_⟩;have my:(a.add j).block≠d:=by rw [yI];exact fun e=>Cs a h1 e.symm
 rw [vA (w:=w) (hb.block _ my)];exact h3⟩
def cellN(w:m0)(b i:Nat):Nat:=match w.cell? ⟨b,i,none⟩with|some v=>(intOf v).toNat|none=>0
theorem jaE(h:w.heap[b]?=some (.cells (ym L).toArray T (0,0)))(i:Nat)(hi:i<L.length):cellN w b i=dAt L i:=by
 unfold cellN;rw [Vy h i hi];simp [intOf]
theorem jhS(x y:Nat)(oa ob:s0)(ca cb:Nat)(w:m0)(Uv:0<y)(ha:IntsAt w oa (dig x))(hb:IntsAt w ob (dig y))(hx:(dig x).length<1099511627776)(hy:(dig y).length<1099511627775):
 Calls prog 134 #[.slice oa (dig x).length ca,.slice ob (dig y).length cb] w fun e w'=> ∃oq cq or cr,e=.returned (.tuple #[.slice oq (dig (x/y)).length cq,.slice or (dig (x%y)).length cr])∧IntsAt w' oq (dig (x/y))∧IntsAt w' or (dig (x%y))∧O0 w.heap.size w w':=by
 obtain⟨i0,hi,Is,Ts,Ns⟩:=info_parts YH;have HI:=jA hi;have Dt:=jA Is;have Ct:=jA Ts;have Bt:=jA Ns;have HA:=jA ha;have Eu:=jA hb;clear hi Is Ts Ns ha hb;have S0:=KM.init x y Uv;go_enter Tryz.func134,Tryz.ntmps134;go_upto_region 2 with(refine wpList_make_row _ rfl _ _ 67 rfl 3 i0 (.int .i64 0) underlying67 HI.u Dt.u Ct.u rfl .i64 .i64 (dig x).length rfl rfl (by rw [Bt.u];omega) (by omega) ?_);rw [Zq];generalize hB:w.heap.size=d at*;refine xr (fun w1=>O0 d w w1∧w1.heap[d]?=some (.cells (ym (List.replicate (dig x).length 0)).toArray 3 (0,0))) ⟨by rw [←hB];exact(jN _ _).alloc (jO _) _,by rw [←hB];exact xh rfl⟩ (fun w1 ts=>?_);obtain⟨et,h1⟩:=ts;have HB:=jA hB;clear hB;go_upto_region 4 with(fail);go_loopw [7,8] (fun v i wr=> ∃(k r:Nat) (z:Int) (oc:s0) (cc:Nat) (Q:E0),k≤(dig x).length∧z=(k:Int)-1∧i=.int .i64 z∧v=.slice oc (dig r).length cc∧KM x y k Q r∧IntsAt wr oc (dig r)∧O0 d w wr∧wr.heap[d]?=some (.cells (ym Q).toArray 3 (0,0))) (fun _ i _=>(intOf i+1).toNat);case atStart=>exact⟨(dig x).length,0,(dig x).length-1,none,0,_,jO _,rfl,by go_num,by rw [yi];rfl,S0,by rw [yi];exact IntsAt.nil,et,h1⟩
 case round=>
 obtain⟨k,r,z,oc,cc,Q,hk,hz,rfl,rfl,S,hr,bel,hQ⟩:=hrel;clear et h1 S0;by_cases h0:k=0
 ·subst h0;obtain rfl:z= -1:=by omega
  have hd:=jA S.done;have hl:=S.len;have QT:=jA (KY (some ⟨d,0,none⟩) Q (dig x).length wr (Ya hQ rfl) (by omega) (by omega) S.all);rw [hd.u.1,hl]at QT;have HR:=jA hr;clear S hQ hr hz;go_wp2_with (go_at_call 135;refine QT.u.mono ?_;rintro e w3 ⟨rfl,UD,rfl⟩)
  go_ret2
  have IC:=HR.u;rw [hd.u.2]at IC;rw [hd.u.2];exact⟨_,_,oc,cc,rfl,UD,IC,by rw [HB.u];exact bel⟩
 obtain⟨i,rfl⟩: ∃i,k=i+1:=⟨k-1,by omega⟩;obtain rfl:z=(i:Int):=by omega
 have ns:i<(dig x).length:=by omega
 have rA:(0:Int)≤i:=by omega
 have iZ:(i:Int)<((dig x).length:Int):=by omega
 obtain⟨a0,Us,Ft⟩:=HA.u.get i ns;have Cv:a0.block<d:=by
  obtain⟨a1,h2,h3,_⟩:=HA.u.cells i ns;rw [Us]at h2;cases h2;rw [HB.u]at h3;exact h3
 have Ww:wr.cell? (a0.add i)=some (.int .i64 ((dAt (dig x) i:Nat):Int)):=by rw [bel.cell (p:=a0.add i) (by rw [yI];exact Cv)];exact Ft
 have D0:=S.digit ns;have hai:dAt (dig x) i<10:=yP (yN x) i;have D1:YN x y i Q (dAt (dig x) i+10*r):=D0;have Tz:(dig r).length≤(dig y).length:=yO _ _ (Nat.lt_trans S.lt (xz y));subst Us;clear D0 S Ft hz h0;generalize dAt (dig x) i=a at*;have hdw:d≤wr.heap.size:=by have:=xZ hQ;omega
 obtain⟨w0,rfl⟩: ∃w0,w0=wr:=⟨_,rfl⟩;obtain⟨B2,hB2⟩: ∃B2,B2=w0.heap.size:=⟨_,rfl⟩;go_upto_region 7 with(fail);refine xr (fun w4=>O0 B2 w0 w4∧w4.heap[B2]?=some (.cells #[.int .i64 (a:Int)] 3 (0,0))) ⟨by rw [hB2];exact(jN _ _).alloc (jO _) _,by rw [hB2];exact xh rfl⟩ (fun w4 Gu=>?_);obtain⟨Fs,h4⟩:=Gu;rw [←hB2];have Rx:=jgw (jO B2) h4;have iv:=jA hB2;have HR:=jA hr;have HQ:=jA hQ;have GX:=jA D1;have Fx:=jA bel;clear h4 hB2 hr hQ D1 bel Ww;go_upto_region 8 with(fail);go_loopw [9,29] (fun v j wi=> ∃k:Nat,k≤(dig r).length∧j=.int .i64 k∧O0 B2 w0 wi∧wi.ownsRow B2 3 1 v (k+1) (ym (a::(dig r).take k))) (fun _ j _=>(dig r).length-(intOf j).toNat);case atStart=>exact⟨0,by omega,rfl,Fs,by rw [qu];exact Rx⟩
 case round=>
 obtain⟨j,hj,rfl,ax,own⟩:=hrel;clear Fs Rx;by_cases Lx:j<(dig r).length
 ·have hdj:decide ((j:Int)<((dig r).length:Int))=true:=by simp;omega
  have EU:IntsAt wr oc (dig r):=HR.u.below (iv.u▸ax);obtain⟨r0,wB,FG⟩:=EU.get j Lx;have lT:wr.cell? (r0.add j)=some (.int .i64 ((dAt (dig r) j:Nat):Int)):=FG;have By:(j:Int)<((dig r).length:Int):=by omega
  have eI:(0:Int)≤j:=by omega
  have Uw:B2≤wr.heap.size:=by have:=ax.size;rw [←iv.u]at this;exact this
  have gJ:(dig r).take (j+1)=(dig r).take j++ [dAt (dig r) j]:=by
   rw [jh Lx];simp [dAt,jV,Lx]
  have Ou:=jA gJ;subst wB;clear EU FG gJ;generalize dAt (dig r) j=e0 at*;go_upto_region 11 with(at_builtin;refine kV _ rfl (.tmp 33) (.tmp 35) 67 rfl B2 3 i0 (.int .i64 0) 1 8 underlying67 HI.u Dt.u Ct.u Bt.u rfl (by decide) u9 (j+1) _ rfl (own.alloc _) ⟨wr.heap.size,0,none⟩ 1 1 (ym [e0]) rfl rfl ?c1 ?c2 ?c3 ?c4 ?c5 ?_);case c1=>exact Kz wr [e0] _ _ rfl
  case c2=>exact Ve _
  case c3=>unfold maxLen;omega
  case c4=>omega
  case c5=>first|omega|(simp;omega)
  intro v5 w5 Hs ru _;have Gs:O0 B2 w0 w5:=(ax.alloc Uw _).grown ru (by simp;omega) (fun q hq=>(own.lt q hq).1);rw [KI,vx,←Ou.u]at Hs;have iu:=jA Hs;clear Hs own ru ax lT;go_wp2_with fail;go_roundw;case rel=>exact⟨j+1,by omega,by go_num,Gs,iu.u⟩
  case measure=>simp [intOf];omega
 ·have hdj:decide ((j:Int)<((dig r).length:Int))=false:=by simp;omega
  obtain rfl:j=(dig r).length:=by omega
  rw [je (jO _)]at own;have ey:(a::dig r).length=(dig r).length+1:=rfl;obtain⟨on,cn,rfl,EO,TG,hIn⟩:=Vw (L:=a::dig r) own;obtain⟨LE,aF⟩:=jdr a r hai;have QT:=jA (KY on (a::dig r) cn wr hIn (by rw [ey];omega) EO LE);rw [aF]at QT;have hQ2:=xe ax (xZ HQ.u |> fun h=>by rw [iv.u];exact h) HQ.u;have us:O0 d w wr:=Fx.u.trans (ax.mono (by rw [iv.u];exact hdw));have hdB:d<B2:=by rw [iv.u];exact xZ HQ.u
  obtain⟨R,hR⟩: ∃R,R=a+10*r:=⟨_,rfl⟩;rw [←hR]at QT GX;clear hIn own HQ Fx HR ax LE aF hR;go_upto_region 13 with(go_at_call 135;refine QT.u.mono ?_;rintro e w6 ⟨rfl,pR,rfl⟩);have iI: ∀a,on=some a→d<a.block:=fun a h=>jW hdB (TG a h);go_loopw [7] (fun v wi=> ∃(R:Nat) (oc:s0) (cc:Nat) (Q:E0),v=.slice oc (dig R).length cc∧YN x y i Q R∧IntsAt wi oc (dig R)∧(∀a,oc=some a→d<a.block)∧O0 d w wi∧wi.heap[d]?=some (.cells (ym Q).toArray 3 (0,0))) (fun _ wi=>10-cellN wi d i);case atStart=>exact⟨R,on,cn,Q,rfl,GX.u,pR,iI,us,hQ2⟩
  case round=>
  clear pR us hQ2 GX QT iI TG EO ey Lx hdj hj;obtain⟨R1,oc,cc,Q1,rfl,S,hI,iI,bel,hQ⟩:=hrel;have Ny:(dig R1).length≤(dig y).length+1:=by
   refine yO _ _ ?_;have h1:=S.lt;have h2:=xz y;rw [js];omega
  have QC:=jA (Vm R1 y oc ob cc cb wr hI (Eu.u.below (by rw [HB.u];exact bel)) (by omega) (by omega));have Tw:d<wr.heap.size:=xZ hQ;have nG:=S.len;have HM:=jA (jaE hQ i (by omega));by_cases bD:y≤R1
  ·have gy:=jjs bD;have SN:=jA (S.next ns bD);have QS:=jA (fun w7 h1 h2=>Zn R1 y oc ob cc cb w7 bD h1 h2 (by omega) (by omega));clear S bD;generalize Ja R1 y=c1 at*;have hdc:decide ((0:Int)≤c1)=true:=by simp;exact gy
   go_upto_region 15 with(first
    |(go_at_call 83;refine QC.u.mono ?_;rintro e w7 ⟨rfl,Hw⟩;have WO:=hI.below Hw;have uI:=Eu.u.below (Below.trans (by rw [HB.u];exact bel) (Hw.mono (by rw [HB.u];omega))))
    |(go_at_call 84;refine(QS.u w7 WO uI).mono ?_;rintro e w8 ⟨oc8,cc8,rfl,IU,Ly,hf8⟩))
   have dU:d<w7.heap.size:=jW Tw Hw.size;have PO:=xe Ly dU (xe Hw Tw hQ);have UK:O0 d w w8:=(bel.trans (Hw.mono (jX Tw))).trans (Ly.mono (jX dU));have tM:=Vy PO i (by omega);have nM:=jc w8 d i _ _ PO;have UJ: ∀a,oc8=some a→d<a.block:=fun a h=>jW dU (hf8 a h);have FC:Hid (YN x y i (Q1.set i (dAt Q1 i+1)) (R1-y)∧dAt Q1 i+1<10):=SN;have hq10:dAt Q1 i+1<10:=SN.u.2;have BD:dAt (Q1.set i (dAt Q1 i+1)) i=dAt Q1 i+1:=by
    have:i<Q1.length:=by omega
    simp [dAt,jV,this]
   have HMS:=jA BD;clear SN QS QC hI iI bel hQ Hw WO uI Ly hf8 BD;have nC:=jA (fun q=>ZP PO i q);have rX:=jA IU;have hls:i<(Q1.set i (dAt Q1 i+1)).length:=by rw [kE];omega
   clear IU PO;generalize hq:dAt Q1 i=q at*;have hQ9:(w8.setCell ⟨d,i,none⟩ (.int .i64 ((q:Int)+1))).heap[d]?=some (.cells (ym (Q1.set i (q+1))).toArray 3 (0,0)):=by
    have:=nC.u (q+1);push_cast at this;exact this
   have HQ9:=jA hQ9;clear hQ9 nC;go_wp2_with fail;go_roundw;case rel=>exact⟨R1-y,oc8,cc8,_,rfl,FC.u.1,rX.u.set (fun a h=>Nat.ne_of_lt (UJ a h)),UJ,xl UK ((yG.refl d w8).setCell _ _) (jO _),HQ9.u⟩
   case measure=>
    rw [HM.u,jaE HQ9.u i hls,HMS.u];omega
  ·have gy:=jhi (show R1<y by omega);have SD:=jA (S.done (by omega));clear S;generalize Ja R1 y=c1 at*;have hdc:decide ((0:Int)≤c1)=false:=by simp;omega
   go_wp2_with (go_at_call 83;refine QC.u.mono ?_;rintro e w7 ⟨rfl,Hw⟩);have WO:=hI.below Hw;have oH:=bel.trans (Hw.mono (jX Tw));have hQ7:=xe Hw Tw hQ;clear QC hI bel hQ HM Hw;go_roundw;case rel=>exact⟨i,R1,(i:Int)-1,oc,cc,Q1,by omega,rfl,by go_num,rfl,SD.u,WO,oH,hQ7⟩
   case measure=>simp [intOf]
end Go.Proofs.YtnohcdpnnhmpfaaGreatDoor
namespace Go.Proofs.YtnohcdpnnhmpfaaGreatDoor
open Go.RowKit Tryz ML ND FM
theorem jbo(n:Nat)(oa:s0)(ca:Nat)(w:m0)(ha:IntsAt w oa (dig n))(hx:(dig n).length<1099511627776):
 Calls prog 81 #[.slice oa (dig n).length ca] w fun e w'=>e=.returned (.string ⟨(VU n).toArray⟩)∧O0 w.heap.size w w':=by
 obtain⟨i0,hi,Is,Ts,Ns⟩:=info_parts ZT;have HI:=jA hi;have Dt:=jA Is;have Ct:=jA Ts;have Bt:=jA Ns;have HA:=jA ha;clear hi Is Ts Ns ha;go_enter Tryz.func81,Tryz.ntmps81;by_cases IQ:n=0
 ·subst IQ;have hs:=jA (show VU 0= [48]from rfl);have hl:(dig 0).length=0:=by rw [yi];rfl
  rw [hl];go_wp2_with fail;go_ret;rw [hs.u];exact⟨rfl,jN _ _⟩
 have hs:=jA (show VU n=jfI n from jQ IQ);have pu:0<(dig n).length:=by rw [JQ (by omega)];simp
 have hnz:(((dig n).length:Int)==0)=false:=by rw [jt];omega
 have HFL:=jA (jbw n)
 have hdg:=jA (fun(j:Nat) (hj:j<(dig n).length)=>(show(jfI n)[(dig n).length-1-j]'(by rw [jbw];omega)=UInt8.ofNat (dAt (dig n) j+48)by
  simp [jfI,dAt,jV,hj];congr 2;congr 1;omega))
 obtain⟨F,hF⟩: ∃F,F=jfI n:=⟨_,rfl⟩;go_upto_region 4 with(refine wpList_make_row _ rfl _ _ 91 rfl 5 i0 (.int .u8 0) underlying91 HI.u Dt.u Ct.u rfl .i64 .i64 (dig n).length rfl rfl (by rw [Bt.u];omega) (by omega) ?_);rw [jcu];generalize hB:w.heap.size=d at*;obtain⟨l,hl⟩: ∃l,l=(dig n).length:=⟨_,rfl⟩;have hFl:F.length=l:=by rw [hF,HFL.u,hl]
 refine xr (fun w1=>O0 d w w1∧w1.heap[d]?=some (.cells (Lib.byteCells (zr F (dig n).length)).toArray 5 (0,0))) ⟨by rw [←hB];exact(jN _ _).alloc (jO _) _,by
  rw [←hB];have e:zr F (dig n).length=List.replicate (dig n).length 0:=by unfold zr;rw [qX (by omega)];simp
  rw [e];exact xh rfl⟩ (fun w1 ts=>?_)
 obtain⟨et,h1⟩:=ts;have HB:=jA hB;have HF:=jA hF;have HL:=jA hl;have wX:=jA hFl;clear hB hF hl hFl;go_upto_region 5 with(fail);go_loopw [4] (fun i wr=> ∃k:Nat,k≤(dig n).length∧i=.int .i64 k∧O0 d w wr∧wr.heap[d]?=some (.cells (Lib.byteCells (zr F ((dig n).length-k))).toArray 5 (0,0))) (fun i _=>(dig n).length-(intOf i).toNat);case atStart=>exact⟨0,by omega,rfl,et,h1⟩
 case round=>
 obtain⟨k,hk,rfl,bel,hW⟩:=hrel;clear et h1;by_cases ns:k<(dig n).length
 ·have lF:decide ((k:Int)<((dig n).length:Int))=true:=by simp;omega
  obtain⟨m,hm⟩: ∃m,(dig n).length-k=m+1:=⟨(dig n).length-k-1,by omega⟩;rw [hm]at hW;obtain⟨a0,Us,Ft⟩:=HA.u.get k ns;have Cv:a0.block<d:=by
   obtain⟨a1,h2,h3,_⟩:=HA.u.cells k ns;rw [Us]at h2;cases h2;rw [HB.u]at h3;exact h3
  have Ww:wr.cell? (a0.add k)=some (.int .i64 ((dAt (dig n) k:Nat):Int)):=by rw [bel.cell (p:=a0.add k) (by rw [yI];exact Cv)];exact Ft
  have hmF:m<F.length:=by rw [wX.u,HL.u];omega
  have hFm:=jA (show F[m]=UInt8.ofNat (dAt (dig n) k+48)by
   have h:=hdg.u k ns;have e:(dig n).length-1-k=m:=by omega
   simp only [e]at h;have h2: ∀(A B:Bytes) (hAB:A=B) (hA:m<A.length) (hB:m<B.length),A[m]=B[m]:=by intro A B hAB hA hB;subst hAB;rfl
   exact(h2 F (jfI n) HF.u hmF (by rw [←HF.u];exact hmF)).trans h)
  have Tw:dAt (dig n) k<10:=yP (yN n) k;obtain⟨cv,DO⟩:=jcP hW m (by rw [Yw F (m+1) (by omega)];omega);have nM:=jc wr d m _ _ hW;have NG:((dig n).length:Int)-1-(k:Int)=(m:Int):=by omega
  have hml:(m:Int)<((dig n).length:Int):=by omega
  have hts:=jA (jbm F m hmF);have HW:=jA hW;have Bx:(dig n).length-(k+1)=m:=by omega
  have HKN:=jA Bx;subst Us;clear Ft hW hm Bx;generalize dAt (dig n) k=a at*;go_upto_region 6 with(fail);refine xr (fun w4=>O0 d w w4∧w4.heap[d]?=some (.cells (Lib.byteCells (zr F m)).toArray 5 (0,0))) ?_ (fun w4 Gu=>?_)
  ·have e:=jdy HW.u m F[m];have hv:((F[m]).toNat:Int)=(a:Int)+48:=by
    rw [hFm.u];have:(UInt8.ofNat (a+48)).toNat=a+48:=by simp;omega
    rw [this];omega
   rw [hts.u,hv]at e;exact⟨xl bel ((yG.refl d wr).setCell _ _) (jO _),e⟩
  obtain⟨Fs,dH⟩:=Gu;clear Ww DO nM HW bel hts hFm;go_wp2_with fail;go_roundw;case rel=>exact⟨k+1,by omega,by go_num,Fs,by rw [HKN.u];exact dH⟩
  case measure=>simp [intOf];omega
 ·have lF:decide ((k:Int)<((dig n).length:Int))=false:=by simp;omega
  obtain rfl:k=(dig n).length:=by omega
  have e:zr F ((dig n).length-(dig n).length)=F:=by rw [Nat.sub_self];simp [zr]
  rw [e]at hW;have hFn:(dig n).length=F.length:=by rw [wX.u,HL.u]
  have Lu:wr.rangeAt d 0 (Lib.byteCells F):=fun j v hv=>by
   rw [jv,jM wr d j _ _ _ hW];simpa using hv
  have HR:=jA Lu;have AX:=jA hFn;clear Lu hW hFn e;go_upto_region 8 with(fail);go_wp2_with (refine zq rfl _ 91 9 5 rfl underlying91 underlying5 underlying9 d (dig n).length (dig n).length F AX.u rfl HR.u ?_);go_ret;rw [hs.u,←HF.u,HB.u];exact⟨rfl,bel⟩
end Go.Proofs.YtnohcdpnnhmpfaaGreatDoor
