/-
  Chapter 13, for Pairs: slices.Concat, count.wrong, Paths, Pairs. Printed by tools/genwrong2.py.
  Chapter 13, for Pairs: count.Paths, count.Pairs. Printed by tools/genpp.py.
  Contracts of the shelf, laid at a seat in plain words (tools/laysh.py slices_Sort_int): the numbers are those of seat Ytnohcdpnnhmpfaa.ZD.
  Chapter 13, for Pairs: slices.Sort of ints, off the shelf.
  Chapter 13, for Pairs: slices.Contains, count.Smith. Printed by tools/gensmith.py.
  Chapter 13: plain law: who is not beaten by ways.
  Chapter 13: count.Elect where pairs are counted. Printed by tools/genel.py.
  Chapter 13: what Lots answers. Printed by tools/genmost.py.
-/
import Derived.Test.YtnohcdpnnhmpfaaGreatDoorK31
import Derived.Test.YtnohcdpnnhmpfaaGreatDoorK21
import Derived.Shelf.Sort.Plain
import Derived.Test.YtnohcdpnnhmpfaaGreatDoorProg
import Derived.Test.YtnohcdpnnhmpfaaGreatDoorK30
import Derived.Test.YtnohcdpnnhmpfaaGreatDoorK29
import Derived.Test.YtnohcdpnnhmpfaaGreatDoorK13
set_option linter.unusedVariables false
set_option linter.unusedSimpArgs false
set_option maxRecDepth 100000
set_option maxHeartbeats 2000000
namespace Go.Proofs.YtnohcdpnnhmpfaaGreatDoor
open Go.RowKit ML FM AU CT
def flatP(P:List (Value×List Int)):List Int:=P.flatMap Prod.snd
def ConcGot(P:List (Value×List Int))(w:World)(e:Ending)(w':World):Prop:= ∃oa cap,e=.returned (.slice oa (flatP P).length cap)∧IsAt w' oa (flatP P)∧Below w.heap.size w w'
def wrE(P:List (Value×List Int)):Int:=if P.length<1∨12<P.length∨ ¬allN P.length P then 2 else if(flatP P).any badI=true then 4 else 0
def PathsGot(P:List (Value×List Int))(w:World)(e:Ending)(w':World):Prop:=
 Below w.heap.size w w'∧if wrE P=0 then ∃F gs W,e=.returned (.tuple #[.slice (some ⟨F,0,none⟩) P.length P.length,.int .i64 0])∧MxO w.heap.size w' F P.length gs W∧Strong (edge (mxP P)) P.length W
 else e=.returned (.tuple #[.slice none 0 0,.int .i64 (wrE P)])
def prK(c:CTest)(P:List (Value×List Int)):List (Value×List Int):=P.filter (keepP (c.rule 4))
def PairsGot(c:CTest)(P:List (Value×List Int))(w:World)(e:Ending)(w':World):Prop:=
 Below w.heap.size w w'∧if prE c P=0 then ∃oo co Q,e=.returned (.tuple #[.slice oo Q.length co,.int .i64 0])∧PsAt w' oo Q∧Q.map Prod.snd=(List.range c.op.length).map (rowI c.op.length (pairM (prK c P)))
 else e=.returned (.tuple #[.slice none 0 0,.int .i64 (prE c P)])
end Go.Proofs.YtnohcdpnnhmpfaaGreatDoor
namespace Go.Proofs
open Go.Shelf
def Tryz.lays189_ren:Go.Shelf.Ren:=⟨fun|189=>64|125=>112|257=>111|128=>160|129=>161|294=>151|295=>152|296=>153|297=>154|298=>155|299=>156|216=>157|300=>158|301=>159|328=>185|329=>186|330=>187|331=>188|332=>189|215=>143|343=>211|n=>n,fun|28=>29|3=>3|46=>156|0=>0|51=>180|53=>140|4=>4|183=>196|182=>195|131=>201|5=>5|9=>9|218=>226|222=>230|228=>254|229=>255|n=>n,fun|n=>n⟩
end Go.Proofs
namespace Go.Proofs.YtnohcdpnnhmpfaaGreatDoor
open Go.RowKit ML FM AU CT
def sortI(L:List Int):List Int:=L.mergeSort fun x y=>decide (x≤y)
def natI(D:List Nat):List Int:=D.map fun k:Nat=>(k:Int)
def sortN(D:List Nat):List Nat:=D.mergeSort fun a b=>decide (a≤b)
def BestV(p:Mx)(n B:Nat)(w:World)(v:Value)(i:Nat):Prop:=(i=0∧v=.slice none 0 0)∨ ∃D,BestD p n i D∧w.ownsRow B 3 1 v D.length (ivals (natI D))
def SmithGot(P:List (Value×List Int))(w:World)(e:Ending)(w':World):Prop:=
 Below w.heap.size w w'∧if wrE P=0 then ∃oo co S,e=.returned (.tuple #[.slice oo (natI S).length co,.int .i64 0])∧IsAt w' oo (natI S)∧S.Pairwise (· < ·)∧Smallest (mxP P) P.length S
 else e=.returned (.tuple #[.slice none 0 0,.int .i64 (wrE P)])
end Go.Proofs.YtnohcdpnnhmpfaaGreatDoor
namespace Go.Proofs.YtnohcdpnnhmpfaaGreatDoor
namespace CT
theorem Strong.trans_gt {e:Mx}{n:Nat}{w:Mx}(h:Strong e n w){i j k:Nat}(hi:i<n)(hj:j<n)(hk:k<n)(h1:w j i<w i j)(h2:w k j<w j k):w k i<w i k:=by
 have hij:i≠j:=fun e=>by subst e;omega
 have hjk:j≠k:=fun e=>by subst e;omega
 have hik:i≠k:=fun e=>by subst e;omega
 have c:=h.closed;have c1:=c i k j hi hk hj hj hik;have c2:=c j i k hj hi hk hk (Ne.symm hij);have c3:=c k j i hk hj hi hi (Ne.symm hjk);have c4:=c k i j hk hi hj hj (Ne.symm hik);omega
def Top(n:Nat)(w:Mx)(i:Nat):Prop:=i<n∧ ∀j,j<n→ ¬w i j<w j i
theorem Strong.top_ex {e:Mx}{n:Nat}{w:Mx}(h:Strong e n w)(hn:0<n): ∃i,Top n w i:=by
 have key: ∀m,m≤n→0<m→ ∃i,i<m∧ ∀j,j<m→ ¬w i j<w j i:=by
  intro m
  induction m with
  |zero=>intro _ h0;omega
  |
   succ m ih=>
   intro hm _;by_cases h0:m=0
   ·subst h0;exact⟨0,by omega,fun j hj=>by
     obtain rfl:j=0:=by omega
     omega⟩
   ·obtain⟨i,hi,hb⟩:=ih (by omega) (by omega);by_cases hmi:w i m<w m i
    ·refine⟨m,by omega,fun j hj hlt=>?_⟩;by_cases e:j=m;·subst e;omega
     ·exact hb j (by omega) (h.trans_gt (by omega) (by omega) (by omega) hlt hmi)
    ·refine⟨i,by omega,fun j hj=>?_⟩;by_cases e:j=m;·subst e;exact hmi
     ·exact hb j (by omega)
 obtain⟨i,hi,hb⟩:=key n (Nat.le_refl _) hn;exact⟨i,hi,hb⟩
end CT
end Go.Proofs.YtnohcdpnnhmpfaaGreatDoor
namespace Go.Proofs.YtnohcdpnnhmpfaaGreatDoor
open Go.RowKit ML FM AU CT
def above(M:Mx)(i:Nat)(j:Int):Bool:=decide (M i j.toNat<M j.toNat i)
theorem elect1_any(n i j:Nat)(M:Mx)(q:Addr)(cb Pb Ib:Nat)(w:World)(hM:MxR w (some q) n M)(hn:n≤12)(hi:i<n)(hj:j<n)(hP:w.cell? ⟨Pb,0,none⟩=some (.slice (some q) n cb))(hI:w.cell? ⟨Ib,0,none⟩=some (.int .i64 i)):
 Calls Tryz.prog 55 #[.int .i64 j,.pointer (some ⟨Pb,0,none⟩),.pointer (some ⟨Ib,0,none⟩)] w fun e w'=>e=.returned (.bool (above M i j))∧ ∃m,w'=w.drewN m:=by
 obtain⟨a,ha,_,b,cbi,hbb,hci,hcx⟩:=hM.cells i hi;obtain rfl:q=a:=by injection ha
 obtain⟨a,ha,_,b',cbj,hbb',hcj,hcy⟩:=hM.cells j hj;obtain rfl:q=a:=by injection ha
 have kx:=hcx j hj;have ky:=hcy i hi;have e1:(i:Int)<(n:Int):=by omega
 have e2:(j:Int)<(n:Int):=by omega
 have HA:=Lib.hid (show above M i (j:Int)=decide (M i j<M j i)from rfl);clear hcx hcy ha hM;generalize M i j=x at*;generalize M j i=y at*;go_enter Tryz.func55,Tryz.ntmps55;go_wp2_with fail;refine Seg.wp_region_segs (fun w'=> ∃m,w'=w.drewN m) [] [0,1,2,3,4,5,6,7,8,9,10,11,12,13] 14 (by kernel_rfl) (by kernel_rfl) (fun _ _ d _ _ h=>by cases d<;>exact h) (⟨1,rfl⟩) ?_;simp only [List.map_cons,List.map_nil,Seg.opAt,List.drop_succ_cons,List.drop_zero,Seg.wpSegs,Array.getD_eq_getD_getElem?,List.getElem?_toArray,List.getElem?_cons_succ,List.getElem?_cons_zero,Option.getD_some];repeat (any_goals (first|go_big_quiet_step (fail)|quiet_step (fail)))
 refine wpQuiet_nil ?_;go_wp2_with fail;go_ret;exact⟨by rw [HA.out];rfl,_,rfl⟩
theorem indexAbove_any(n i:Nat)(M:Mx)(q:Addr)(cb Pb Ib:Nat)(oa:Option Addr)(L:List Int)(cap:Nat)(w:World)(hL:IsAt w oa L)(hlb: ∀x∈L,0≤x∧x<n)(hl:L.length≤12)(hM:MxR w (some q) n M)(hn:n≤12)(hi:i<n)(hP:w.cell? ⟨Pb,0,none⟩=some (.slice (some q) n cb))(hI:w.cell? ⟨Ib,0,none⟩=some (.int .i64 i)):
 Calls Tryz.prog 98 #[.slice oa L.length cap,(.func (.func 55) #[] #[.pointer (some ⟨Pb,0,none⟩),.pointer (some ⟨Ib,0,none⟩)])] w fun e w'=>(∃r:Int,e=.returned (.int .i64 r)∧decide (0≤r)=L.any (above M i))∧ ∃m,w'=w.drewN m:=by
 have H:=Lib.hid hL;have QB:=Lib.hid (fun(j d:Nat) hj=>elect1_any n i j M q cb Pb Ib (w.drewN d) (hM.below (bel_drewN (Below.refl _ _) d)) hn hi hj hP hI);have HLB:=Lib.hid hlb;clear hL hM hP hI hlb;go_enter Tryz.func98,Tryz.ntmps98;go_upto_region 2 with(fail);go_loopw [8] (fun v wr=> ∃k d:Nat,k≤L.length∧v=.int .i64 k∧(L.take k).any (above M i)=false∧wr=w.drewN d) (fun v _=>L.length-(intOf v).toNat);case atStart=>exact⟨0,0,by omega,rfl,rfl,rfl⟩
 case round=>
 obtain⟨k,d,hk,rfl,hpre,rfl⟩:=hrel;have HP:=Lib.hid hpre;clear hpre;by_cases hlt:k<L.length
 ·have dk:decide ((k:Int)<(L.length:Int))=true:=decide_eq_true (by omega);have dk2:decide (k<L.length)=true:=decide_eq_true hlt;have hki:(k:Int)<(L.length:Int):=by omega
  obtain⟨a,hoa,hab,hac⟩:=H.out.cells k hlt;have hsn:=Lib.hid (show(L.take (k+1)).any (above M i)=above M i L[k]by rw [List.take_succ_eq_append_getElem hlt,List.any_append,HP.out];simp);have hany:=Lib.hid (fun(hb:above M i L[k]=true)=>(show L.any (above M i)=true from List.any_eq_true.2 ⟨L[k],List.getElem_mem hlt,hb⟩));have hxb:=HLB.out _ (List.getElem_mem hlt);subst hoa;generalize L[k]=x at*;obtain⟨j,rfl⟩: ∃j:Nat,x=j:=⟨x.toNat,by omega⟩;have QBP:=Lib.hid (QB.out j d (by omega));clear hxb;cases hb:above M i (j:Int)with
  |
   true=>
   have h2:=Lib.hid (hany.out hb);rw [hb]at hsn QBP;clear hb hany;go_wp2_with (first|(go_at_call 55;refine(QBP.out).mono ?_;rintro e w1 ⟨rfl,m,rfl⟩));go_ret;exact⟨⟨_,rfl,by rw [h2.out];exact decide_eq_true (by omega)⟩,_,rfl⟩
  |
   false=>
   rw [hb]at hsn QBP;clear hb hany;go_wp2_with (first|(go_at_call 55;refine(QBP.out).mono ?_;rintro e w1 ⟨rfl,m,rfl⟩));go_roundw;case rel=>exact⟨k+1,_,by omega,by go_num,hsn.out,rfl⟩
   case measure=>simp [intOf];omega
 ·have dk:decide ((k:Int)<(L.length:Int))=false:=decide_eq_false (by omega);have dk2:decide (k<L.length)=false:=decide_eq_false hlt;obtain rfl:k=L.length:=by omega
  rw [List.take_length]at HP;go_wp2_with fail;go_ret;exact⟨⟨_,rfl,by rw [HP.out];decide⟩,_,rfl⟩
theorem containsAbove_any(n i:Nat)(M:Mx)(q:Addr)(cb Pb Ib:Nat)(oa:Option Addr)(L:List Int)(cap:Nat)(w:World)(hL:IsAt w oa L)(hlb: ∀x∈L,0≤x∧x<n)(hl:L.length≤12)(hM:MxR w (some q) n M)(hn:n≤12)(hi:i<n)(hP:w.cell? ⟨Pb,0,none⟩=some (.slice (some q) n cb))(hI:w.cell? ⟨Ib,0,none⟩=some (.int .i64 i)):
 Calls Tryz.prog 54 #[.slice oa L.length cap,(.func (.func 55) #[] #[.pointer (some ⟨Pb,0,none⟩),.pointer (some ⟨Ib,0,none⟩)])] w fun e w'=>e=.returned (.bool (L.any (above M i)))∧ ∃m,w'=w.drewN m:=by
 have Q:=Lib.hid (indexAbove_any n i M q cb Pb Ib oa L cap w hL hlb hl hM hn hi hP hI);clear hL hlb hl hM hP hI hn hi;generalize L.any (above M i)=b at*;go_enter Tryz.func54,Tryz.ntmps54;go_wp2_with (go_at_call 98;refine Q.out.mono ?_;rintro e w1 ⟨⟨r,rfl,hr⟩,m,rfl⟩);go_ret;exact⟨rfl,_,rfl⟩
def ElectGot(c:CTest)(P:List (Value×List Int))(w:World)(e:Ending)(w':World):Prop:=
 Below w.heap.size w w'∧if prE c P=0 then ∃(i:Nat) (W:Mx) (oo:Option Addr) (co:Nat),e=.returned (.tuple #[.slice oo 1 co,.int .i64 0])∧IsAt w' oo [(i:Int)]∧Strong (edge (pairM (prK c P))) c.op.length W∧Top c.op.length W i
 else e=.returned (.tuple #[.slice none 0 0,.int .i64 (prE c P)])
theorem isAt_lone {w:World}{F:Nat}{x:Int}{e:TypeId}(h:w.heap[F]?=some (.cells #[.int .i64 x] e (0,0))):IsAt w (some ⟨F,0,none⟩) [x]:=⟨fun i hi=>⟨_,rfl,lt_of_heap h,by
 have hi':i<1:=hi;obtain rfl:i=0:=by omega
 rw [Addr.add_mid];exact cell_of_row w F 0 _ _ _ h⟩⟩
theorem top_of_any {n i:Nat}{W:Mx}{O:List Int}(hi:i<n)(hO: ∀j,j<n→((j:Nat):Int)∈O)(h:O.any (above W i)=false):Top n W i:=⟨hi,fun j hj hlt=>by
 have h1:O.any (above W i)=true:=List.any_eq_true.2 ⟨(j:Int),hO j hj,by unfold above;rw [Int.toNat_natCast];exact decide_eq_true hlt⟩;rw [h]at h1;cases h1⟩
theorem above_top {n i:Nat}{W:Mx}{O:List Int}(hO: ∀x∈O,0≤x∧x<n)(h:Top n W i):O.any (above W i)=false:=by
 rw [←Bool.not_eq_true,List.any_eq_true];rintro⟨x,hx,ha⟩;have:=hO x hx;unfold above at ha;exact h.2 x.toNat (by omega) (of_decide_eq_true ha)
def LotsGot(c:CTest)(lots:Bytes)(w:World)(e:Ending)(w':World):Prop:=
 Below w.heap.size w w'∧if wrongC c=true then e=.returned (.tuple #[.slice none 0 0,.int .i64 2])
 else ∃O oO cO,Ord c.op.length (lotF c lots) O∧IsAt w' oO O∧e=.returned (.tuple #[.slice oO O.length cO,.int .i64 0])
end Go.Proofs.YtnohcdpnnhmpfaaGreatDoor
