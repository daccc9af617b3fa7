/-
  slices.IndexFunc and slices.DeleteFunc of ints, for any function value with one or two captured values. Printed by tools/gendel.py.
-/
import Derived.Test.YtnohcdpnnhmpfaaGreatDoorK17
import Derived.Test.YtnohcdpnnhmpfaaGreatDoorK16
import Derived.Test.YtnohcdpnnhmpfaaGreatDoorK11
set_option linter.unusedVariables false
set_option linter.unusedSimpArgs false
set_option maxRecDepth 100000
set_option maxHeartbeats 4000000
namespace Go.Proofs.YtnohcdpnnhmpfaaGreatDoor
open Go.RowKit ML FM AU CT
def Enters(N:FuncId):Prop:= ∀args w,(callFunc N args).run Tryz.prog w=.ok (.enter N args) w
theorem enters_of {N:FuncId}{fn:Func}{c:Code}(hf:Tryz.prog.funcs[N]?=some fn)(hn:(fn.name== "runtime.NumGoroutine")=false)(hb:fn.body=some c):Enters N:=fun args w=>by
 have h1:fn.name≠ "runtime.NumGoroutine" :=by simpa using hn
 simp [callFunc,hf,h1,hb]
theorem only_cells(b:Nat): ∀(vs:List Value) (o:Nat) (w:World),Only b w (w.setCells b o vs)
 | [],o,w=>Only.refl _ _
 |v::r,o,w=>(show Only b w (w.setCell ⟨b,o,none⟩ v)from⟨rfl,rfl,rfl,by simp [World.setCell],fun k hk=>heap_setCell_other w _ k v hk⟩).trans (only_cells b r (o+1) _)
theorem own_cellsX {base:Nat}{e:TypeId}{size n X cap:Nat}{xs:List Value}: ∀(vs:List Value) (o:Nat) (w:World),w.ownsRow base e size (.slice (some ⟨X,0,none⟩) n cap) n xs→xs.length≤o→(w.setCells X o vs).ownsRow base e size (.slice (some ⟨X,0,none⟩) n cap) n xs
 | [],o,w,h,_=>h
 |
  v::r,o,w,h,ho=>by
  have h1:=(World.ownsRow.stored h o v).1;rw [List.set_eq_of_length_le ho]at h1;exact own_cellsX r (o+1) _ h1 (by omega)
theorem own_short {w:World}{base:Nat}{e:TypeId}{n m X cap:Nat}{xs:List Value}(h:w.ownsRow base e 1 (.slice (some ⟨X,0,none⟩) n cap) n xs)(hm:m≤n):w.ownsRow base e 1 (.slice (some ⟨X,0,none⟩) m cap) m (xs.take m):=by
 obtain⟨hl,hv⟩:=h;refine⟨by rw [List.length_take,hl];omega,?_⟩;rcases hv with⟨hv,_⟩|⟨g,c,cur,hv,hb,hg,h1,h2,h3,h4⟩;·cases hv
 ·injection hv with e1 e2 e3;injection e1 with e1;injection e1 with e1;subst e1;subst e3;exact .inr ⟨X,cap,cur,rfl,hb,hg,by omega,h2,h3,by rw [←h4,List.take_take];congr 1;omega⟩
theorem own_there {w:World}{base:Nat}{e:TypeId}{n X cap:Nat}{xs:List Value}(h:w.ownsRow base e 1 (.slice (some ⟨X,0,none⟩) n cap) n xs)(o k:Nat)(hk:o+k≤n):w.there X o k:=fun j hj=>by
 rcases h.2 with⟨hv,_⟩|⟨g,c,cur,hv,hb,hg,h1,h2,h3,h4⟩;·cases hv
 ·injection hv with e1 e2 e3;injection e1 with e1;injection e1 with e1;subst e1;subst e3;have hlt:o+j<cur.size:=by rw [h3];omega
  refine⟨by rw [cell_of_row w X (o+j) _ _ _ hg];simp [hlt],frozen_of_row w X (o+j) _ _ hg⟩
theorem zero_int: ∀w,(zeroValue 3).run Tryz.prog w=.ok (.int .i64 0) w:=by
 obtain⟨i0,hi,hz0,hz1,hz2⟩:=info_parts info_i64;intro w;simp [zeroValue,typeInfo,hi,hz0,Sem.run_bind]
theorem grown_trans {w w1 w2:World}{X:Option Nat}(h:w.grownBy w1 X)(k:w1.grownBy w2 X):w.grownBy w2 X:=⟨k.os.trans h.os,k.tape.trans h.tape,k.output.trans h.output,Nat.le_trans h.size k.size,fun i hi hne=>(k.block i (Nat.lt_of_lt_of_le hi h.size) hne).trans (h.block i hi hne)⟩
theorem grown_bel {w w1:World}(h:Below w.heap.size w w1)(X:Option Nat):w.grownBy w1 X:=⟨h.os,h.tape,h.output,h.size,fun k hk _=>h.block k hk⟩
structure DelAt(p:Int→Bool)(L R:List Int)(i j:Nat):Prop where
 len:R.length=L.length
 lt:i<j
 le:j≤L.length
 head:R.take i=(L.take j).filter fun x=> !p x
 rest:R.drop j=L.drop j
theorem DelAt.skip {p:Int→Bool}{L R:List Int}{i j:Nat}(h:DelAt p L R i j)(hj:j<L.length)(hp:p L[j]=true):DelAt p L R i (j+1):=by
 refine⟨h.len,by have:=h.lt;omega,hj,?_,?_⟩;·rw [h.head,List.take_succ_eq_append_getElem hj,List.filter_append];simp [hp]
 ·have:=congrArg (List.drop 1) h.rest;simpa [List.drop_drop,Nat.add_comm] using this
theorem DelAt.keep {p:Int→Bool}{L R:List Int}{i j:Nat}(h:DelAt p L R i j)(hj:j<L.length)(hp:p L[j]=false):DelAt p L (R.set i L[j]) (i+1) (j+1):=by
 have hlt:=h.lt;have hi:i<R.length:=by rw [h.len];omega
 refine⟨by rw [List.length_set,h.len],by omega,hj,?_,?_⟩
 ·
   have h1:(R.set i L[j]).take (i+1)=R.take i++ [L[j]]:=by
    rw [List.take_succ_eq_append_getElem (by rw [List.length_set];exact hi)];simp [List.take_set_of_le]
   rw [h1,h.head,List.take_succ_eq_append_getElem hj,List.filter_append];simp [hp]
 ·have h1:(R.set i L[j]).drop (j+1)=R.drop (j+1):=by rw [List.drop_set_of_lt (by omega)]
  rw [h1];have:=congrArg (List.drop 1) h.rest;simpa [List.drop_drop,Nat.add_comm] using this
theorem DelAt.get {p:Int→Bool}{L R:List Int}{i j:Nat}(h:DelAt p L R i j)(hj:j<L.length):R[j]?=some L[j]:=by
 have h1:(R.drop j)[0]?=(L.drop j)[0]?:=by rw [h.rest]
 simpa [List.getElem?_drop,hj] using h1
theorem ivals_set(R:List Int)(i:Nat)(x:Int):(ivals R).set i (.int .i64 x)=ivals (R.set i x):=by simp [ivals,List.map_set]
theorem ivals_take(R:List Int)(i:Nat):(ivals R).take i=ivals (R.take i):=by simp [ivals,List.map_take]
def IdxIs(p:Int→Bool)(L:List Int)(r:Int):Prop:=(r= -1∧ ∀x∈L,p x=false)∨ ∃k:Nat,∃h:k<L.length,r=k∧p L[k]=true∧ ∀x∈L.take k,p x=false
theorem index1_any(N:FuncId)(qN:Enters N)(c1:Value)(p:Int→Bool)(oa:Option Addr)(L:List Int)(cap:Nat)(w:World)(h:IsAt w oa L)(hl:L.length≤12)
 (hf: ∀w1,Below w.heap.size w w1→ ∀x∈L,Calls Tryz.prog N #[.int .i64 x,c1] w1 fun e w2=>e=.returned (.bool (p x))∧Below w1.heap.size w1 w2):
 Calls Tryz.prog 98 #[.slice oa L.length cap,(.func (.func N) #[] #[c1])] w fun e w'=>(∃r:Int,e=.returned (.int .i64 r)∧IdxIs p L r)∧Below w.heap.size w w':=by
 unfold Enters at qN;have H:=Lib.hid h;have QF:=Lib.hid hf;clear h hf;generalize hB:w.heap.size=B at*;have HB:=Lib.hid hB;clear hB;go_enter Tryz.func98,Tryz.ntmps98;go_upto_region 2 with(fail);go_loopw [8] (fun v wr=> ∃k:Nat,k≤L.length∧v=.int .i64 k∧(∀x∈L.take k,p x=false)∧Below B w wr) (fun v _=>L.length-(intOf v).toNat);case atStart=>exact⟨0,by omega,rfl,(fun x hx=>by simp at hx),Below.refl _ _⟩
 case round=>
 obtain⟨k,hk,rfl,hpre,hb⟩:=hrel;have HP:=Lib.hid hpre;have BR:=Lib.hid hb;have hbs:B≤wr.heap.size:=by rw [←HB.out];exact(show Below w.heap.size w wr by rw [HB.out];exact hb).size
 clear hpre hb;by_cases hlt:k<L.length
 ·have dk:decide ((k:Int)<(L.length:Int))=true:=decide_eq_true (by omega);have dk2:decide (k<L.length)=true:=decide_eq_true hlt;have hki:(k:Int)<(L.length:Int):=by omega
  obtain⟨a,hoa,hab,hac⟩:=(H.out.below (HB.out.symm▸BR.out)).cells k hlt;have QC:=Lib.hid (QF.out wr BR.out L[k] (List.getElem_mem hlt));have hdone:=Lib.hid (show p L[k]=true→IdxIs p L k from fun hb=>.inr ⟨k,hlt,rfl,hb,HP.out⟩)
  have hnext:=Lib.hid (show p L[k]=false→ ∀x∈L.take (k+1),p x=false from fun hb x hx=>by
   rw [List.take_succ_eq_append_getElem hlt,List.mem_append]at hx;rcases hx with hx|hx;·exact HP.out x hx
   ·rw [List.mem_singleton.1 hx];exact hb)
  subst hoa;generalize L[k]=x at*;cases hb:p x with
  |
   true=>
   have h2:=Lib.hid (hdone.out hb);rw [hb]at QC;clear hb hdone hnext;go_wp2_with (with_reducible refine(QC.out).mono ?_;rintro e w1 ⟨rfl,b1⟩);go_ret;exact⟨⟨_,rfl,h2.out⟩,BR.out.trans (b1.mono hbs)⟩
  |
   false=>
   have h2:=Lib.hid (hnext.out hb);rw [hb]at QC;clear hb hdone hnext;go_wp2_with (with_reducible refine(QC.out).mono ?_;rintro e w1 ⟨rfl,b1⟩);go_roundw;case rel=>exact⟨k+1,by omega,by go_num,h2.out,BR.out.trans (b1.mono hbs)⟩
   case measure=>simp [intOf];omega
 ·have dk:decide ((k:Int)<(L.length:Int))=false:=decide_eq_false (by omega);have dk2:decide (k<L.length)=false:=decide_eq_false hlt;obtain rfl:k=L.length:=by omega
  rw [List.take_length]at HP;go_wp2_with fail;go_ret;exact⟨⟨_,rfl,.inl ⟨rfl,HP.out⟩⟩,BR.out⟩
theorem delete1_any(N:FuncId)(qN:Enters N)(c1:Value)(p:Int→Bool)(oa:Option Addr)(L:List Int)(cap base:Nat)(w:World)(h:w.ownsRow base 3 1 (.slice oa L.length cap) L.length (ivals L))(hl:L.length≤12)
 (hf: ∀w1,w.grownBy w1 (Value.ownBlock (.slice oa L.length cap))→ ∀x∈L,Calls Tryz.prog N #[.int .i64 x,c1] w1 fun e w2=>e=.returned (.bool (p x))∧Below w1.heap.size w1 w2):
 Calls Tryz.prog 125 #[.slice oa L.length cap,(.func (.func N) #[] #[c1])] w fun e w'=> ∃ob cb,e=.returned (.slice ob (L.filter fun x=> !p x).length cb)∧w'.ownsRow base 3 1 (.slice ob (L.filter fun x=> !p x).length cb) (L.filter fun x=> !p x).length (ivals (L.filter fun x=> !p x))∧w.grownBy w' (Value.ownBlock (.slice oa L.length cap)):=by
 have QI:=Lib.hid (index1_any N qN c1 p oa L cap w (isAt_own2 h) hl (fun w1 hb x hx=>hf w1 ⟨hb.os,hb.tape,hb.output,hb.size,fun k hk _=>hb.block k hk⟩ x hx));unfold Enters at qN;have HO:=Lib.hid h;have QF:=Lib.hid hf;clear h hf;go_enter Tryz.func125,Tryz.ntmps125;go_upto_region 2 with(go_at_call 98;refine QI.out.mono ?_;rintro e w1 ⟨⟨r,rfl,hr⟩,b1⟩);have B1:=Lib.hid b1;have HI:=Lib.hid hr;clear b1 hr QI;rcases HI.out with⟨hr,hall⟩|⟨k,hk,hr,hpk,hpre⟩
 ·subst hr;go_wp2_with fail;go_ret;have hfl:(L.filter fun x=> !p x)=L:=List.filter_eq_self.2 (fun x hx=>by rw [hall x hx];rfl);rw [hfl];exact⟨oa,cap,rfl,HO.out.kept (row:=none) ⟨B1.out.os,B1.out.tape,B1.out.output,B1.out.size,fun k hk _=>B1.out.block k hk⟩ (by cases Value.ownBlock _<;>simp),⟨B1.out.os,B1.out.tape,B1.out.output,B1.out.size,fun k hk _=>B1.out.block k hk⟩⟩
 ·
   obtain⟨X,hX⟩: ∃X,oa=some ⟨X,0,none⟩:=by
    rcases HO.out.2 with⟨hv,h0⟩|⟨g,c,cur,hv,_⟩;·omega
    ·injection hv with h1;exact⟨g,h1⟩
   subst hX;subst hr;have hne:((k:Int)== -1)=false:=by rw [beq_eq_false_iff_ne];omega
   have hD0:DelAt p L L k (k+1):=⟨rfl,by omega,by omega,by
    rw [List.take_succ_eq_append_getElem hk,List.filter_append];have h0:(L.take k).filter (fun x=> !p x)=L.take k:=List.filter_eq_self.2 (fun x hx=>by rw [hpre x hx];rfl);rw [h0];simp [hpk],rfl⟩
   have O1:=HO.out.kept (row:=none) (grown_bel B1.out none) (by cases Value.ownBlock _<;>simp);have HO1:=Lib.hid O1;have HG1:=Lib.hid (grown_bel B1.out (some X));have HD0:=Lib.hid hD0;have HZ:=Lib.hid zero_int;clear HI hpk hpre hD0 O1 B1 HO;go_upto_region 5 with(fail);clear hne;go_loopw [5,6] (fun vi vj wr=> ∃(i j:Nat) (R:List Int),vi=.int .i64 i∧vj=.int .i64 j∧DelAt p L R i j∧wr.ownsRow base 3 1 (.slice (some ⟨X,0,none⟩) L.length cap) L.length (ivals R)∧w.grownBy wr (some X)) (fun _ vj _=>L.length-(intOf vj).toNat);case atStart=>exact⟨k,k+1,L,by go_num,by go_num,HD0.out,HO1.out,HG1.out⟩
   case round=>
   obtain⟨i,j,R,rfl,rfl,hd,ho,hg⟩:=hrel;have HD:=Lib.hid hd;have HR:=Lib.hid ho;have HG:=Lib.hid hg;have hij:=hd.lt;have hjl:=hd.le;have hRl:=Lib.hid hd.len;clear hd ho hg HO1 HG1 HD0;by_cases hlt:j<L.length;case neg=>
    have dk:decide ((j:Int)<(L.length:Int))=false:=decide_eq_false (by omega);have dk2:decide (j<L.length)=false:=decide_eq_false hlt;obtain rfl:j=L.length:=by omega
    have hfl:R.take i=L.filter fun x=> !p x:=by have:=HD.out.head;rwa [List.take_length]at this
    have hfn:(L.filter fun x=> !p x).length=i:=by rw [←hfl,List.length_take,hRl.out];omega
    have HF:=Lib.hid hfl;have HFN:=Lib.hid hfn;have THR:=Lib.hid (own_there HR.out i (L.length-i) (by omega));have RO:=Lib.hid (own_cellsX (List.replicate (L.length-i) (.int .i64 0)) i wr (own_short HR.out (m:=i) (by omega)) (by simp [ivals];omega));have RG:=Lib.hid (grown_trans HG.out (grown_only (only_cells X (List.replicate (L.length-i) (.int .i64 0)) i wr)));clear hfl hfn;have e1:(i:Int)≤(L.length:Int):=by omega
    have hcap:L.length≤cap:=by
     rcases HR.out.2 with⟨hv,_⟩|⟨g,c,cur,hv,_,_,h1,_⟩;·cases hv
     ·injection hv with _ _ h3;omega
    go_wp2_with (refine wpList_clear rfl _ 29 3 rfl (.int .i64 0) Tryz.underlying29 HZ.out rfl rfl X i (L.length-i) (cap-i) rfl THR.out ?_);go_ret;refine⟨some ⟨X,0,none⟩,cap,by rw [HFN.out];rfl,?_,RG.out⟩;have h9:=RO.out;rw [ivals_take,HF.out]at h9;rw [HFN.out];exact h9
   have dk:decide ((j:Int)<(L.length:Int))=true:=decide_eq_true (by omega);have dk2:decide (j<L.length)=true:=decide_eq_true hlt;have dkj:(j:Int)<(L.length:Int):=by omega
   have dki:(i:Int)<(L.length:Int):=by omega
   have hget:wr.cell? ⟨X,j,none⟩=some (.int .i64 L[j]):=by
    have h1:=HR.out.cells (g:=X) rfl j (.int .i64 L[j]) (by simp [ivals];exact HD.out.get hlt);rw [add_cell']at h1;exact h1
   have QC:=Lib.hid (QF.out wr HG.out L[j] (List.getElem_mem hlt));have hskip:=Lib.hid (fun h=>HD.out.skip hlt h);have hkeep:=Lib.hid (fun h=>HD.out.keep hlt h);generalize L[j]=x at*;cases hb:p x with
   |
    true=>
    have HS:=Lib.hid (hskip.out hb);rw [hb]at QC;clear hb hskip hkeep;go_wp2_with (with_reducible refine(QC.out).mono ?_;rintro e w2 ⟨rfl,b2⟩);go_roundw;case rel=>exact⟨i,j+1,R,rfl,by go_num,HS.out,HR.out.kept (row:=none) (grown_bel b2 none) (by cases Value.ownBlock _<;>simp),grown_trans HG.out (grown_bel b2 _)⟩
    case measure=>simp [intOf];omega
   |
    false=>
    have HS:=Lib.hid (hkeep.out hb);rw [hb]at QC;clear hb hskip hkeep;have hlt':=Lib.hid hlt;go_upto_region 9 with(with_reducible refine(QC.out).mono ?_;rintro e w2 ⟨rfl,b2⟩);have HR2:=Lib.hid (HR.out.kept (row:=none) (grown_bel b2 none) (by cases Value.ownBlock _<;>simp));have HG2:=Lib.hid (grown_trans HG.out (grown_bel b2 _));have hci:=HR2.out.cells (g:=X) rfl i;have hcell: ∃u,w2.cell? ⟨X,i,none⟩=some u:=by
     have h1:=(own_there HR2.out i 1 (by omega)) 0 (by omega);exact Option.isSome_iff_exists.1 h1.1
    have hfz:w2.frozen? ⟨X,i,none⟩=false:=((own_there HR2.out i 1 (by omega)) 0 (by omega)).2;obtain⟨u0,hcell⟩:=hcell;clear b2 hci HR HG QC hget;have SR:=Lib.hid (World.ownsRow.stored HR2.out i (.int .i64 x));go_wp2_with fail;go_roundw;case rel=>
     refine⟨i+1,j+1,R.set i x,by go_num,by go_num,HS.out,?_,grown_trans HG2.out (grown_only ⟨rfl,rfl,rfl,by simp [World.setCell],fun k hk=>heap_setCell_other _ _ k _ hk⟩)⟩;have h9:=SR.out.1;rw [ivals_set]at h9;exact h9
    case measure=>simp [intOf];omega
theorem index2_any(N:FuncId)(qN:Enters N)(c1 c2:Value)(p:Int→Bool)(oa:Option Addr)(L:List Int)(cap:Nat)(w:World)(h:IsAt w oa L)(hl:L.length≤12)
 (hf: ∀w1,Below w.heap.size w w1→ ∀x∈L,Calls Tryz.prog N #[.int .i64 x,c1,c2] w1 fun e w2=>e=.returned (.bool (p x))∧Below w1.heap.size w1 w2):
 Calls Tryz.prog 98 #[.slice oa L.length cap,(.func (.func N) #[] #[c1,c2])] w fun e w'=>(∃r:Int,e=.returned (.int .i64 r)∧IdxIs p L r)∧Below w.heap.size w w':=by
 unfold Enters at qN;have H:=Lib.hid h;have QF:=Lib.hid hf;clear h hf;generalize hB:w.heap.size=B at*;have HB:=Lib.hid hB;clear hB;go_enter Tryz.func98,Tryz.ntmps98;go_upto_region 2 with(fail);go_loopw [8] (fun v wr=> ∃k:Nat,k≤L.length∧v=.int .i64 k∧(∀x∈L.take k,p x=false)∧Below B w wr) (fun v _=>L.length-(intOf v).toNat);case atStart=>exact⟨0,by omega,rfl,(fun x hx=>by simp at hx),Below.refl _ _⟩
 case round=>
 obtain⟨k,hk,rfl,hpre,hb⟩:=hrel;have HP:=Lib.hid hpre;have BR:=Lib.hid hb;have hbs:B≤wr.heap.size:=by rw [←HB.out];exact(show Below w.heap.size w wr by rw [HB.out];exact hb).size
 clear hpre hb;by_cases hlt:k<L.length
 ·have dk:decide ((k:Int)<(L.length:Int))=true:=decide_eq_true (by omega);have dk2:decide (k<L.length)=true:=decide_eq_true hlt;have hki:(k:Int)<(L.length:Int):=by omega
  obtain⟨a,hoa,hab,hac⟩:=(H.out.below (HB.out.symm▸BR.out)).cells k hlt;have QC:=Lib.hid (QF.out wr BR.out L[k] (List.getElem_mem hlt));have hdone:=Lib.hid (show p L[k]=true→IdxIs p L k from fun hb=>.inr ⟨k,hlt,rfl,hb,HP.out⟩)
  have hnext:=Lib.hid (show p L[k]=false→ ∀x∈L.take (k+1),p x=false from fun hb x hx=>by
   rw [List.take_succ_eq_append_getElem hlt,List.mem_append]at hx;rcases hx with hx|hx;·exact HP.out x hx
   ·rw [List.mem_singleton.1 hx];exact hb)
  subst hoa;generalize L[k]=x at*;cases hb:p x with
  |
   true=>
   have h2:=Lib.hid (hdone.out hb);rw [hb]at QC;clear hb hdone hnext;go_wp2_with (with_reducible refine(QC.out).mono ?_;rintro e w1 ⟨rfl,b1⟩);go_ret;exact⟨⟨_,rfl,h2.out⟩,BR.out.trans (b1.mono hbs)⟩
  |
   false=>
   have h2:=Lib.hid (hnext.out hb);rw [hb]at QC;clear hb hdone hnext;go_wp2_with (with_reducible refine(QC.out).mono ?_;rintro e w1 ⟨rfl,b1⟩);go_roundw;case rel=>exact⟨k+1,by omega,by go_num,h2.out,BR.out.trans (b1.mono hbs)⟩
   case measure=>simp [intOf];omega
 ·have dk:decide ((k:Int)<(L.length:Int))=false:=decide_eq_false (by omega);have dk2:decide (k<L.length)=false:=decide_eq_false hlt;obtain rfl:k=L.length:=by omega
  rw [List.take_length]at HP;go_wp2_with fail;go_ret;exact⟨⟨_,rfl,.inl ⟨rfl,HP.out⟩⟩,BR.out⟩
theorem delete2_any(N:FuncId)(qN:Enters N)(c1 c2:Value)(p:Int→Bool)(oa:Option Addr)(L:List Int)(cap base:Nat)(w:World)(h:w.ownsRow base 3 1 (.slice oa L.length cap) L.length (ivals L))(hl:L.length≤12)
 (hf: ∀w1,w.grownBy w1 (Value.ownBlock (.slice oa L.length cap))→ ∀x∈L,Calls Tryz.prog N #[.int .i64 x,c1,c2] w1 fun e w2=>e=.returned (.bool (p x))∧Below w1.heap.size w1 w2):
 Calls Tryz.prog 125 #[.slice oa L.length cap,(.func (.func N) #[] #[c1,c2])] w fun e w'=> ∃ob cb,e=.returned (.slice ob (L.filter fun x=> !p x).length cb)∧w'.ownsRow base 3 1 (.slice ob (L.filter fun x=> !p x).length cb) (L.filter fun x=> !p x).length (ivals (L.filter fun x=> !p x))∧w.grownBy w' (Value.ownBlock (.slice oa L.length cap)):=by
 have QI:=Lib.hid (index2_any N qN c1 c2 p oa L cap w (isAt_own2 h) hl (fun w1 hb x hx=>hf w1 ⟨hb.os,hb.tape,hb.output,hb.size,fun k hk _=>hb.block k hk⟩ x hx));unfold Enters at qN;have HO:=Lib.hid h;have QF:=Lib.hid hf;clear h hf;go_enter Tryz.func125,Tryz.ntmps125;go_upto_region 2 with(go_at_call 98;refine QI.out.mono ?_;rintro e w1 ⟨⟨r,rfl,hr⟩,b1⟩);have B1:=Lib.hid b1;have HI:=Lib.hid hr;clear b1 hr QI;rcases HI.out with⟨hr,hall⟩|⟨k,hk,hr,hpk,hpre⟩
 ·subst hr;go_wp2_with fail;go_ret;have hfl:(L.filter fun x=> !p x)=L:=List.filter_eq_self.2 (fun x hx=>by rw [hall x hx];rfl);rw [hfl];exact⟨oa,cap,rfl,HO.out.kept (row:=none) ⟨B1.out.os,B1.out.tape,B1.out.output,B1.out.size,fun k hk _=>B1.out.block k hk⟩ (by cases Value.ownBlock _<;>simp),⟨B1.out.os,B1.out.tape,B1.out.output,B1.out.size,fun k hk _=>B1.out.block k hk⟩⟩
 ·
   obtain⟨X,hX⟩: ∃X,oa=some ⟨X,0,none⟩:=by
    rcases HO.out.2 with⟨hv,h0⟩|⟨g,c,cur,hv,_⟩;·omega
    ·injection hv with h1;exact⟨g,h1⟩
   subst hX;subst hr;have hne:((k:Int)== -1)=false:=by rw [beq_eq_false_iff_ne];omega
   have hD0:DelAt p L L k (k+1):=⟨rfl,by omega,by omega,by
    rw [List.take_succ_eq_append_getElem hk,List.filter_append];have h0:(L.take k).filter (fun x=> !p x)=L.take k:=List.filter_eq_self.2 (fun x hx=>by rw [hpre x hx];rfl);rw [h0];simp [hpk],rfl⟩
   have O1:=HO.out.kept (row:=none) (grown_bel B1.out none) (by cases Value.ownBlock _<;>simp);have HO1:=Lib.hid O1;have HG1:=Lib.hid (grown_bel B1.out (some X));have HD0:=Lib.hid hD0;have HZ:=Lib.hid zero_int;clear HI hpk hpre hD0 O1 B1 HO;go_upto_region 5 with(fail);clear hne;go_loopw [5,6] (fun vi vj wr=> ∃(i j:Nat) (R:List Int),vi=.int .i64 i∧vj=.int .i64 j∧DelAt p L R i j∧wr.ownsRow base 3 1 (.slice (some ⟨X,0,none⟩) L.length cap) L.length (ivals R)∧w.grownBy wr (some X)) (fun _ vj _=>L.length-(intOf vj).toNat);case atStart=>exact⟨k,k+1,L,by go_num,by go_num,HD0.out,HO1.out,HG1.out⟩
   case round=>
   obtain⟨i,j,R,rfl,rfl,hd,ho,hg⟩:=hrel;have HD:=Lib.hid hd;have HR:=Lib.hid ho;have HG:=Lib.hid hg;have hij:=hd.lt;have hjl:=hd.le;have hRl:=Lib.hid hd.len;clear hd ho hg HO1 HG1 HD0;by_cases hlt:j<L.length;case neg=>
    have dk:decide ((j:Int)<(L.length:Int))=false:=decide_eq_false (by omega);have dk2:decide (j<L.length)=false:=decide_eq_false hlt;obtain rfl:j=L.length:=by omega
    have hfl:R.take i=L.filter fun x=> !p x:=by have:=HD.out.head;rwa [List.take_length]at this
    have hfn:(L.filter fun x=> !p x).length=i:=by rw [←hfl,List.length_take,hRl.out];omega
    have HF:=Lib.hid hfl;have HFN:=Lib.hid hfn;have THR:=Lib.hid (own_there HR.out i (L.length-i) (by omega));have RO:=Lib.hid (own_cellsX (List.replicate (L.length-i) (.int .i64 0)) i wr (own_short HR.out (m:=i) (by omega)) (by simp [ivals];omega));have RG:=Lib.hid (grown_trans HG.out (grown_only (only_cells X (List.replicate (L.length-i) (.int .i64 0)) i wr)));clear hfl hfn;have e1:(i:Int)≤(L.length:Int):=by omega
    have hcap:L.length≤cap:=by
     rcases HR.out.2 with⟨hv,_⟩|⟨g,c,cur,hv,_,_,h1,_⟩;·cases hv
     ·injection hv with _ _ h3;omega
    go_wp2_with (refine wpList_clear rfl _ 29 3 rfl (.int .i64 0) Tryz.underlying29 HZ.out rfl rfl X i (L.length-i) (cap-i) rfl THR.out ?_);go_ret;refine⟨some ⟨X,0,none⟩,cap,by rw [HFN.out];rfl,?_,RG.out⟩;have h9:=RO.out;rw [ivals_take,HF.out]at h9;rw [HFN.out];exact h9
   have dk:decide ((j:Int)<(L.length:Int))=true:=decide_eq_true (by omega);have dk2:decide (j<L.length)=true:=decide_eq_true hlt;have dkj:(j:Int)<(L.length:Int):=by omega
   have dki:(i:Int)<(L.length:Int):=by omega
   have hget:wr.cell? ⟨X,j,none⟩=some (.int .i64 L[j]):=by
    have h1:=HR.out.cells (g:=X) rfl j (.int .i64 L[j]) (by simp [ivals];exact HD.out.get hlt);rw [add_cell']at h1;exact h1
   have QC:=Lib.hid (QF.out wr HG.out L[j] (List.getElem_mem hlt));have hskip:=Lib.hid (fun h=>HD.out.skip hlt h);have hkeep:=Lib.hid (fun h=>HD.out.keep hlt h);generalize L[j]=x at*;cases hb:p x with
   |
    true=>
    have HS:=Lib.hid (hskip.out hb);rw [hb]at QC;clear hb hskip hkeep;go_wp2_with (with_reducible refine(QC.out).mono ?_;rintro e w2 ⟨rfl,b2⟩);go_roundw;case rel=>exact⟨i,j+1,R,rfl,by go_num,HS.out,HR.out.kept (row:=none) (grown_bel b2 none) (by cases Value.ownBlock _<;>simp),grown_trans HG.out (grown_bel b2 _)⟩
    case measure=>simp [intOf];omega
   |
    false=>
    have HS:=Lib.hid (hkeep.out hb);rw [hb]at QC;clear hb hskip hkeep;have hlt':=Lib.hid hlt;go_upto_region 9 with(with_reducible refine(QC.out).mono ?_;rintro e w2 ⟨rfl,b2⟩);have HR2:=Lib.hid (HR.out.kept (row:=none) (grown_bel b2 none) (by cases Value.ownBlock _<;>simp));have HG2:=Lib.hid (grown_trans HG.out (grown_bel b2 _));have hci:=HR2.out.cells (g:=X) rfl i;have hcell: ∃u,w2.cell? ⟨X,i,none⟩=some u:=by
     have h1:=(own_there HR2.out i 1 (by omega)) 0 (by omega);exact Option.isSome_iff_exists.1 h1.1
    have hfz:w2.frozen? ⟨X,i,none⟩=false:=((own_there HR2.out i 1 (by omega)) 0 (by omega)).2;obtain⟨u0,hcell⟩:=hcell;clear b2 hci HR HG QC hget;have SR:=Lib.hid (World.ownsRow.stored HR2.out i (.int .i64 x));go_wp2_with fail;go_roundw;case rel=>
     refine⟨i+1,j+1,R.set i x,by go_num,by go_num,HS.out,?_,grown_trans HG2.out (grown_only ⟨rfl,rfl,rfl,by simp [World.setCell],fun k hk=>heap_setCell_other _ _ k _ hk⟩)⟩;have h9:=SR.out.1;rw [ivals_set]at h9;exact h9
    case measure=>simp [intOf];omega
end Go.Proofs.YtnohcdpnnhmpfaaGreatDoor
