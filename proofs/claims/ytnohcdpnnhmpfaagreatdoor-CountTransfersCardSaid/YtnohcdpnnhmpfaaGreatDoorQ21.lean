/-
  slices.IndexFunc and slices.DeleteFunc of ints, for any function value with one or two captured values. Printed by tools/gendel.py.
  Chapter 13, for Pairs: the greatest of ints; the rule of a field.
  Chapter 13, for Pairs: the tops of fields; the reference's Ranks, Top, times.
-/
import Derived.Test.YtnohcdpnnhmpfaaGreatDoorQ20
import Derived.Test.YtnohcdpnnhmpfaaGreatDoorQ16
import Derived.Test.YtnohcdpnnhmpfaaGreatDoorQ18
set_option linter.unusedVariables false
set_option linter.unusedSimpArgs false
set_option maxRecDepth 100000
set_option maxHeartbeats 4000000
namespace Go.Proofs.YtnohcdpnnhmpfaaGreatDoor
open Go.RowKit Tryz ML FM AU CT
def zs(N:FuncId):Prop:= ∀args w,(callFunc N args).run prog w=.ok (.enter N args) w
theorem Kf {N:FuncId}{fn:Func}{c:Code}(hf:prog.funcs[N]?=some fn)(hn:(fn.name== "runtime.NumGoroutine")=false)(hb:fn.body=some c):zs N:=fun args w=>by
 have h1:fn.name≠ "runtime.NumGoroutine" :=by simpa using hn
 simp [callFunc,hf,h1,hb]
theorem zI(b:Nat): ∀(vs:List Value) (o:Nat) (w:World),xp b w (w.setCells b o vs)
 | [],o,w=>xp.refl _ _
 |v::r,o,w=>(show xp b w (w.setCell ⟨b,o,none⟩ v)from⟨rfl,rfl,rfl,by simp [World.setCell],fun k hk=>qm w _ k v hk⟩).trans (zI b r (o+1) _)
theorem Yn {base:Nat}{e:TypeId}{size n X cap:Nat}{xs:List Value}: ∀(vs:List Value) (o:Nat) (w:World),w.ownsRow base e size (.slice (some ⟨X,0,none⟩) n cap) n xs→xs.length≤o→(w.setCells X o vs).ownsRow base e size (.slice (some ⟨X,0,none⟩) n cap) n xs
 | [],o,w,h,_=>h
 |
  v::r,o,w,h,ho=>by
  have h1:=(World.ownsRow.stored h o v).1;rw [List.set_eq_of_length_le ho]at h1;exact Yn r (o+1) _ h1 (by omega)
theorem jcx {w:World}{base:Nat}{e:TypeId}{n m X cap:Nat}{xs:List Value}(h:w.ownsRow base e 1 (.slice (some ⟨X,0,none⟩) n cap) n xs)(hm:m≤n):w.ownsRow base e 1 (.slice (some ⟨X,0,none⟩) m cap) m (xs.take m):=by
 obtain⟨hl,hv⟩:=h;refine⟨by rw [jX,hl];omega,?_⟩;rcases hv with⟨hv,_⟩|⟨g,c,cur,hv,hb,hg,h1,h2,h3,h4⟩;·cases hv
 ·injection hv with e1 e2 e3;injection e1 with e1;injection e1 with e1;subst e1;subst e3;exact .inr ⟨X,cap,cur,rfl,hb,hg,by omega,h2,h3,by rw [←h4,List.take_take];congr 1;omega⟩
theorem Qs {w:World}{base:Nat}{e:TypeId}{n X cap:Nat}{xs:List Value}(h:w.ownsRow base e 1 (.slice (some ⟨X,0,none⟩) n cap) n xs)(o k:Nat)(hk:o+k≤n):w.there X o k:=fun j hj=>by
 rcases h.2 with⟨hv,_⟩|⟨g,c,cur,hv,hb,hg,h1,h2,h3,h4⟩;·cases hv
 ·injection hv with e1 e2 e3;injection e1 with e1;injection e1 with e1;subst e1;subst e3;have hlt:o+j<cur.size:=by rw [h3];omega
  refine⟨by rw [jM w X (o+j) _ _ _ hg];simp [hlt],jb w X (o+j) _ _ hg⟩
theorem jel: ∀w,(zeroValue 3).run prog w=.ok (.int .i64 0) w:=by
 obtain⟨i0,hi,hz0,hz1,hz2⟩:=info_parts KL;intro w;simp [zeroValue,typeInfo,hi,hz0,kJ]
theorem JB {w w1 w2:World}{X:Option Nat}(h:w.grownBy w1 X)(k:w1.grownBy w2 X):w.grownBy w2 X:=⟨k.os.trans h.os,k.tape.trans h.tape,k.output.trans h.output,jU h.size k.size,fun i hi hne=>(k.block i (jV hi h.size) hne).trans (h.block i hi hne)⟩
theorem yY {w w1:World}(h:Below w.heap.size w w1)(X:Option Nat):w.grownBy w1 X:=⟨h.os,h.tape,h.output,h.size,fun k hk _=>h.block k hk⟩
structure Xr(p:Int→Bool)(L R:List Int)(i j:Nat):Prop where
 len:R.length=L.length
 lt:i<j
 le:j≤L.length
 head:R.take i=(L.take j).filter fun x=> !p x
 rest:R.drop j=L.drop j
theorem Xr.skip {p:Int→Bool}{L R:List Int}{i j:Nat}(h:Xr p L R i j)(hj:j<L.length)(hp:p L[j]=true):Xr p L R i (j+1):=by
 refine⟨h.len,by have:=h.lt;omega,hj,?_,?_⟩;·rw [h.head,jk hj,qP];simp [hp]
 ·have:=congrArg (List.drop 1) h.rest;simpa [List.drop_drop,Nat.add_comm] using this
theorem Xr.keep {p:Int→Bool}{L R:List Int}{i j:Nat}(h:Xr p L R i j)(hj:j<L.length)(hp:p L[j]=false):Xr p L (R.set i L[j]) (i+1) (j+1):=by
 have hlt:=h.lt;have hi:i<R.length:=by rw [h.len];omega
 refine⟨by rw [kD,h.len],by omega,hj,?_,?_⟩
 ·
   have h1:(R.set i L[j]).take (i+1)=R.take i++ [L[j]]:=by
    rw [jk (by rw [kD];exact hi)];simp [List.take_set_of_le]
   rw [h1,h.head,jk hj,qP];simp [hp]
 ·have h1:(R.set i L[j]).drop (j+1)=R.drop (j+1):=by rw [List.drop_set_of_lt (by omega)]
  rw [h1];have:=congrArg (List.drop 1) h.rest;simpa [List.drop_drop,Nat.add_comm] using this
theorem Xr.get {p:Int→Bool}{L R:List Int}{i j:Nat}(h:Xr p L R i j)(hj:j<L.length):R[j]?=some L[j]:=by
 have h1:(R.drop j)[0]?=(L.drop j)[0]?:=by rw [h.rest]
 simpa [qr,hj] using h1
theorem jcH(R:List Int)(i:Nat)(x:Int):(xU R).set i (.int .i64 x)=xU (R.set i x):=by simp [xU,List.map_set]
theorem jbm(R:List Int)(i:Nat):(xU R).take i=xU (R.take i):=by simp [xU,List.map_take]
def jhx(p:Int→Bool)(L:List Int)(r:Int):Prop:=(r= -1∧ ∀x∈L,p x=false)∨ ∃k:Nat,∃h:k<L.length,r=k∧p L[k]=true∧ ∀x∈L.take k,p x=false
theorem jgy(N:FuncId)(qN:zs N)(c1:Value)(p:Int→Bool)(oa:Option Addr)(L:List Int)(cap:Nat)(w:World)(h:yj w oa L)(hl:L.length≤12)
 (hf: ∀w1,Below w.heap.size w w1→ ∀x∈L,Calls prog N #[.int .i64 x,c1] w1 fun e w2=>e=.returned (.bool (p x))∧Below w1.heap.size w1 w2):
 Calls prog 98 #[.slice oa L.length cap,(.func (.func N) #[] #[c1])] w fun e w'=>(∃r:Int,e=.returned (.int .i64 r)∧jhx p L r)∧Below w.heap.size w w':=by
 unfold zs at qN;have H:=jA h;have QF:=jA hf;clear h hf;generalize hB:w.heap.size=B at*;have HB:=jA hB;clear hB;go_enter Tryz.func98,Tryz.ntmps98;go_upto_region 2 with(fail);go_loopw [8] (fun v wr=> ∃k:Nat,k≤L.length∧v=.int .i64 k∧(∀x∈L.take k,p x=false)∧Below B w wr) (fun v _=>L.length-(intOf v).toNat);case atStart=>exact⟨0,by omega,rfl,(fun x hx=>by simp at hx),jN _ _⟩
 case round=>
 obtain⟨k,hk,rfl,hpre,hb⟩:=hrel;have HP:=jA hpre;have BR:=jA hb;have hbs:B≤wr.heap.size:=by rw [←HB.u];exact(show Below w.heap.size w wr by rw [HB.u];exact hb).size
 clear hpre hb;by_cases hlt:k<L.length
 ·have dk:decide ((k:Int)<(L.length:Int))=true:=jQ (by omega);have dk2:decide (k<L.length)=true:=jQ hlt;have hki:(k:Int)<(L.length:Int):=by omega
  obtain⟨a,hoa,hab,hac⟩:=(H.u.below (HB.u.symm▸BR.u)).cells k hlt;have QC:=jA (QF.u wr BR.u L[k] (jj hlt));have hdone:=jA (show p L[k]=true→jhx p L k from fun hb=>.inr ⟨k,hlt,rfl,hb,HP.u⟩)
  have hnext:=jA (show p L[k]=false→ ∀x∈L.take (k+1),p x=false from fun hb x hx=>by
   rw [jk hlt,jh]at hx;rcases hx with hx|hx;·exact HP.u x hx
   ·rw [jo.1 hx];exact hb)
  subst hoa;generalize L[k]=x at*;cases hb:p x with
  |
   true=>
   have h2:=jA (hdone.u hb);rw [hb]at QC;clear hb hdone hnext;go_wp2_with (with_reducible refine(QC.u).mono ?_;rintro e w1 ⟨rfl,b1⟩);go_ret;exact⟨⟨_,rfl,h2.u⟩,BR.u.trans (b1.mono hbs)⟩
  |
   false=>
   have h2:=jA (hnext.u hb);rw [hb]at QC;clear hb hdone hnext;go_wp2_with (with_reducible refine(QC.u).mono ?_;rintro e w1 ⟨rfl,b1⟩);go_roundw;case rel=>exact⟨k+1,by omega,by go_num,h2.u,BR.u.trans (b1.mono hbs)⟩
   case measure=>simp [intOf];omega
 ·have dk:decide ((k:Int)<(L.length:Int))=false:=jS (by omega);have dk2:decide (k<L.length)=false:=jS hlt;obtain rfl:k=L.length:=by omega
  rw [kG]at HP;go_wp2_with fail;go_ret;exact⟨⟨_,rfl,.inl ⟨rfl,HP.u⟩⟩,BR.u⟩
theorem jfr(N:FuncId)(qN:zs N)(c1:Value)(p:Int→Bool)(oa:Option Addr)(L:List Int)(cap base:Nat)(w:World)(h:w.ownsRow base 3 1 (.slice oa L.length cap) L.length (xU L))(hl:L.length≤12)
 (hf: ∀w1,w.grownBy w1 (Value.ownBlock (.slice oa L.length cap))→ ∀x∈L,Calls prog N #[.int .i64 x,c1] w1 fun e w2=>e=.returned (.bool (p x))∧Below w1.heap.size w1 w2):
 Calls prog 125 #[.slice oa L.length cap,(.func (.func N) #[] #[c1])] w fun e w'=> ∃ob cb,e=.returned (.slice ob (L.filter fun x=> !p x).length cb)∧w'.ownsRow base 3 1 (.slice ob (L.filter fun x=> !p x).length cb) (L.filter fun x=> !p x).length (xU (L.filter fun x=> !p x))∧w.grownBy w' (Value.ownBlock (.slice oa L.length cap)):=by
 have QI:=jA (jgy N qN c1 p oa L cap w (Ka h) hl (fun w1 hb x hx=>hf w1 ⟨hb.os,hb.tape,hb.output,hb.size,fun k hk _=>hb.block k hk⟩ x hx));unfold zs at qN;have HO:=jA h;have QF:=jA hf;clear h hf;go_enter Tryz.func125,Tryz.ntmps125;go_upto_region 2 with(go_at_call 98;refine QI.u.mono ?_;rintro e w1 ⟨⟨r,rfl,hr⟩,b1⟩);have B1:=jA b1;have HI:=jA hr;clear b1 hr QI;rcases HI.u with⟨hr,hall⟩|⟨k,hk,hr,hpk,hpre⟩
 ·subst hr;go_wp2_with fail;go_ret;have hfl:(L.filter fun x=> !p x)=L:=xD.2 (fun x hx=>by rw [hall x hx];rfl);rw [hfl];exact⟨oa,cap,rfl,HO.u.kept (row:=none) ⟨B1.u.os,B1.u.tape,B1.u.output,B1.u.size,fun k hk _=>B1.u.block k hk⟩ (by cases Value.ownBlock _<;>simp),⟨B1.u.os,B1.u.tape,B1.u.output,B1.u.size,fun k hk _=>B1.u.block k hk⟩⟩
 ·
   obtain⟨X,hX⟩: ∃X,oa=some ⟨X,0,none⟩:=by
    rcases HO.u.2 with⟨hv,h0⟩|⟨g,c,cur,hv,_⟩;·omega
    ·injection hv with h1;exact⟨g,h1⟩
   subst hX;subst hr;have hne:((k:Int)== -1)=false:=by rw [kE];omega
   have hD0:Xr p L L k (k+1):=⟨rfl,by omega,by omega,by
    rw [jk hk,qP];have h0:(L.take k).filter (fun x=> !p x)=L.take k:=xD.2 (fun x hx=>by rw [hpre x hx];rfl);rw [h0];simp [hpk],rfl⟩
   have O1:=HO.u.kept (row:=none) (yY B1.u none) (by cases Value.ownBlock _<;>simp);have HO1:=jA O1;have HG1:=jA (yY B1.u (some X));have HD0:=jA hD0;have HZ:=jA jel;clear HI hpk hpre hD0 O1 B1 HO;go_upto_region 5 with(fail);clear hne;go_loopw [5,6] (fun vi vj wr=> ∃(i j:Nat) (R:List Int),vi=.int .i64 i∧vj=.int .i64 j∧Xr p L R i j∧wr.ownsRow base 3 1 (.slice (some ⟨X,0,none⟩) L.length cap) L.length (xU R)∧w.grownBy wr (some X)) (fun _ vj _=>L.length-(intOf vj).toNat);case atStart=>exact⟨k,k+1,L,by go_num,by go_num,HD0.u,HO1.u,HG1.u⟩
   case round=>
   obtain⟨i,j,R,rfl,rfl,hd,ho,hg⟩:=hrel;have HD:=jA hd;have HR:=jA ho;have HG:=jA hg;have hij:=hd.lt;have hjl:=hd.le;have hRl:=jA hd.len;clear hd ho hg HO1 HG1 HD0;by_cases hlt:j<L.length;case neg=>
    have dk:decide ((j:Int)<(L.length:Int))=false:=jS (by omega);have dk2:decide (j<L.length)=false:=jS hlt;obtain rfl:j=L.length:=by omega
    have hfl:R.take i=L.filter fun x=> !p x:=by have:=HD.u.head;rwa [kG]at this
    have hfn:(L.filter fun x=> !p x).length=i:=by rw [←hfl,jX,hRl.u];omega
    have HF:=jA hfl;have HFN:=jA hfn;have THR:=jA (Qs HR.u i (L.length-i) (by omega));have RO:=jA (Yn (List.replicate (L.length-i) (.int .i64 0)) i wr (jcx HR.u (m:=i) (by omega)) (by simp [xU];omega));have RG:=jA (JB HG.u (xR (zI X (List.replicate (L.length-i) (.int .i64 0)) i wr)));clear hfl hfn;have e1:(i:Int)≤(L.length:Int):=by omega
    have hcap:L.length≤cap:=by
     rcases HR.u.2 with⟨hv,_⟩|⟨g,c,cur,hv,_,_,h1,_⟩;·cases hv
     ·injection hv with _ _ h3;omega
    go_wp2_with (refine XT rfl _ 29 3 rfl (.int .i64 0) underlying29 HZ.u rfl rfl X i (L.length-i) (cap-i) rfl THR.u ?_);go_ret;refine⟨some ⟨X,0,none⟩,cap,by rw [HFN.u];rfl,?_,RG.u⟩;have h9:=RO.u;rw [jbm,HF.u]at h9;rw [HFN.u];exact h9
   have dk:decide ((j:Int)<(L.length:Int))=true:=jQ (by omega);have dk2:decide (j<L.length)=true:=jQ hlt;have dkj:(j:Int)<(L.length:Int):=by omega
   have dki:(i:Int)<(L.length:Int):=by omega
   have hget:wr.cell? ⟨X,j,none⟩=some (.int .i64 L[j]):=by
    have h1:=HR.u.cells (g:=X) rfl j (.int .i64 L[j]) (by simp [xU];exact HD.u.get hlt);rw [Kl]at h1;exact h1
   have QC:=jA (QF.u wr HG.u L[j] (jj hlt));have hskip:=jA (fun h=>HD.u.skip hlt h);have hkeep:=jA (fun h=>HD.u.keep hlt h);generalize L[j]=x at*;cases hb:p x with
   |
    true=>
    have HS:=jA (hskip.u hb);rw [hb]at QC;clear hb hskip hkeep;go_wp2_with (with_reducible refine(QC.u).mono ?_;rintro e w2 ⟨rfl,b2⟩);go_roundw;case rel=>exact⟨i,j+1,R,rfl,by go_num,HS.u,HR.u.kept (row:=none) (yY b2 none) (by cases Value.ownBlock _<;>simp),JB HG.u (yY b2 _)⟩
    case measure=>simp [intOf];omega
   |
    false=>
    have HS:=jA (hkeep.u hb);rw [hb]at QC;clear hb hskip hkeep;have hlt':=jA hlt;go_upto_region 9 with(with_reducible refine(QC.u).mono ?_;rintro e w2 ⟨rfl,b2⟩);have HR2:=jA (HR.u.kept (row:=none) (yY b2 none) (by cases Value.ownBlock _<;>simp));have HG2:=jA (JB HG.u (yY b2 _));have hci:=HR2.u.cells (g:=X) rfl i;have hcell: ∃u,w2.cell? ⟨X,i,none⟩=some u:=by
     have h1:=(Qs HR2.u i 1 (by omega)) 0 (by omega);exact Option.isSome_iff_exists.1 h1.1
    have hfz:w2.frozen? ⟨X,i,none⟩=false:=((Qs HR2.u i 1 (by omega)) 0 (by omega)).2;obtain⟨u0,hcell⟩:=hcell;clear b2 hci HR HG QC hget;have SR:=jA (World.ownsRow.stored HR2.u i (.int .i64 x));go_wp2_with fail;go_roundw;case rel=>
     refine⟨i+1,j+1,R.set i x,by go_num,by go_num,HS.u,?_,JB HG2.u (xR ⟨rfl,rfl,rfl,by simp [World.setCell],fun k hk=>qm _ _ k _ hk⟩)⟩;have h9:=SR.u.1;rw [jcH]at h9;exact h9
    case measure=>simp [intOf];omega
theorem jgx(N:FuncId)(qN:zs N)(c1 c2:Value)(p:Int→Bool)(oa:Option Addr)(L:List Int)(cap:Nat)(w:World)(h:yj w oa L)(hl:L.length≤12)
 (hf: ∀w1,Below w.heap.size w w1→ ∀x∈L,Calls prog N #[.int .i64 x,c1,c2] w1 fun e w2=>e=.returned (.bool (p x))∧Below w1.heap.size w1 w2):
 Calls prog 98 #[.slice oa L.length cap,(.func (.func N) #[] #[c1,c2])] w fun e w'=>(∃r:Int,e=.returned (.int .i64 r)∧jhx p L r)∧Below w.heap.size w w':=by
 unfold zs at qN;have H:=jA h;have QF:=jA hf;clear h hf;generalize hB:w.heap.size=B at*;have HB:=jA hB;clear hB;go_enter Tryz.func98,Tryz.ntmps98;go_upto_region 2 with(fail);go_loopw [8] (fun v wr=> ∃k:Nat,k≤L.length∧v=.int .i64 k∧(∀x∈L.take k,p x=false)∧Below B w wr) (fun v _=>L.length-(intOf v).toNat);case atStart=>exact⟨0,by omega,rfl,(fun x hx=>by simp at hx),jN _ _⟩
 case round=>
 obtain⟨k,hk,rfl,hpre,hb⟩:=hrel;have HP:=jA hpre;have BR:=jA hb;have hbs:B≤wr.heap.size:=by rw [←HB.u];exact(show Below w.heap.size w wr by rw [HB.u];exact hb).size
 clear hpre hb;by_cases hlt:k<L.length
 ·have dk:decide ((k:Int)<(L.length:Int))=true:=jQ (by omega);have dk2:decide (k<L.length)=true:=jQ hlt;have hki:(k:Int)<(L.length:Int):=by omega
  obtain⟨a,hoa,hab,hac⟩:=(H.u.below (HB.u.symm▸BR.u)).cells k hlt;have QC:=jA (QF.u wr BR.u L[k] (jj hlt));have hdone:=jA (show p L[k]=true→jhx p L k from fun hb=>.inr ⟨k,hlt,rfl,hb,HP.u⟩)
  have hnext:=jA (show p L[k]=false→ ∀x∈L.take (k+1),p x=false from fun hb x hx=>by
   rw [jk hlt,jh]at hx;rcases hx with hx|hx;·exact HP.u x hx
   ·rw [jo.1 hx];exact hb)
  subst hoa;generalize L[k]=x at*;cases hb:p x with
  |
   true=>
   have h2:=jA (hdone.u hb);rw [hb]at QC;clear hb hdone hnext;go_wp2_with (with_reducible refine(QC.u).mono ?_;rintro e w1 ⟨rfl,b1⟩);go_ret;exact⟨⟨_,rfl,h2.u⟩,BR.u.trans (b1.mono hbs)⟩
  |
   false=>
   have h2:=jA (hnext.u hb);rw [hb]at QC;clear hb hdone hnext;go_wp2_with (with_reducible refine(QC.u).mono ?_;rintro e w1 ⟨rfl,b1⟩);go_roundw;case rel=>exact⟨k+1,by omega,by go_num,h2.u,BR.u.trans (b1.mono hbs)⟩
   case measure=>simp [intOf];omega
 ·have dk:decide ((k:Int)<(L.length:Int))=false:=jS (by omega);have dk2:decide (k<L.length)=false:=jS hlt;obtain rfl:k=L.length:=by omega
  rw [kG]at HP;go_wp2_with fail;go_ret;exact⟨⟨_,rfl,.inl ⟨rfl,HP.u⟩⟩,BR.u⟩
theorem jfq(N:FuncId)(qN:zs N)(c1 c2:Value)(p:Int→Bool)(oa:Option Addr)(L:List Int)(cap base:Nat)(w:World)(h:w.ownsRow base 3 1 (.slice oa L.length cap) L.length (xU L))(hl:L.length≤12)
 (hf: ∀w1,w.grownBy w1 (Value.ownBlock (.slice oa L.length cap))→ ∀x∈L,Calls prog N #[.int .i64 x,c1,c2] w1 fun e w2=>e=.returned (.bool (p x))∧Below w1.heap.size w1 w2):
 Calls prog 125 #[.slice oa L.length cap,(.func (.func N) #[] #[c1,c2])] w fun e w'=> ∃ob cb,e=.returned (.slice ob (L.filter fun x=> !p x).length cb)∧w'.ownsRow base 3 1 (.slice ob (L.filter fun x=> !p x).length cb) (L.filter fun x=> !p x).length (xU (L.filter fun x=> !p x))∧w.grownBy w' (Value.ownBlock (.slice oa L.length cap)):=by
 have QI:=jA (jgx N qN c1 c2 p oa L cap w (Ka h) hl (fun w1 hb x hx=>hf w1 ⟨hb.os,hb.tape,hb.output,hb.size,fun k hk _=>hb.block k hk⟩ x hx));unfold zs at qN;have HO:=jA h;have QF:=jA hf;clear h hf;go_enter Tryz.func125,Tryz.ntmps125;go_upto_region 2 with(go_at_call 98;refine QI.u.mono ?_;rintro e w1 ⟨⟨r,rfl,hr⟩,b1⟩);have B1:=jA b1;have HI:=jA hr;clear b1 hr QI;rcases HI.u with⟨hr,hall⟩|⟨k,hk,hr,hpk,hpre⟩
 ·subst hr;go_wp2_with fail;go_ret;have hfl:(L.filter fun x=> !p x)=L:=xD.2 (fun x hx=>by rw [hall x hx];rfl);rw [hfl];exact⟨oa,cap,rfl,HO.u.kept (row:=none) ⟨B1.u.os,B1.u.tape,B1.u.output,B1.u.size,fun k hk _=>B1.u.block k hk⟩ (by cases Value.ownBlock _<;>simp),⟨B1.u.os,B1.u.tape,B1.u.output,B1.u.size,fun k hk _=>B1.u.block k hk⟩⟩
 ·
   obtain⟨X,hX⟩: ∃X,oa=some ⟨X,0,none⟩:=by
    rcases HO.u.2 with⟨hv,h0⟩|⟨g,c,cur,hv,_⟩;·omega
    ·injection hv with h1;exact⟨g,h1⟩
   subst hX;subst hr;have hne:((k:Int)== -1)=false:=by rw [kE];omega
   have hD0:Xr p L L k (k+1):=⟨rfl,by omega,by omega,by
    rw [jk hk,qP];have h0:(L.take k).filter (fun x=> !p x)=L.take k:=xD.2 (fun x hx=>by rw [hpre x hx];rfl);rw [h0];simp [hpk],rfl⟩
   have O1:=HO.u.kept (row:=none) (yY B1.u none) (by cases Value.ownBlock _<;>simp);have HO1:=jA O1;have HG1:=jA (yY B1.u (some X));have HD0:=jA hD0;have HZ:=jA jel;clear HI hpk hpre hD0 O1 B1 HO;go_upto_region 5 with(fail);clear hne;go_loopw [5,6] (fun vi vj wr=> ∃(i j:Nat) (R:List Int),vi=.int .i64 i∧vj=.int .i64 j∧Xr p L R i j∧wr.ownsRow base 3 1 (.slice (some ⟨X,0,none⟩) L.length cap) L.length (xU R)∧w.grownBy wr (some X)) (fun _ vj _=>L.length-(intOf vj).toNat);case atStart=>exact⟨k,k+1,L,by go_num,by go_num,HD0.u,HO1.u,HG1.u⟩
   case round=>
   obtain⟨i,j,R,rfl,rfl,hd,ho,hg⟩:=hrel;have HD:=jA hd;have HR:=jA ho;have HG:=jA hg;have hij:=hd.lt;have hjl:=hd.le;have hRl:=jA hd.len;clear hd ho hg HO1 HG1 HD0;by_cases hlt:j<L.length;case neg=>
    have dk:decide ((j:Int)<(L.length:Int))=false:=jS (by omega);have dk2:decide (j<L.length)=false:=jS hlt;obtain rfl:j=L.length:=by omega
    have hfl:R.take i=L.filter fun x=> !p x:=by have:=HD.u.head;rwa [kG]at this
    have hfn:(L.filter fun x=> !p x).length=i:=by rw [←hfl,jX,hRl.u];omega
    have HF:=jA hfl;have HFN:=jA hfn;have THR:=jA (Qs HR.u i (L.length-i) (by omega));have RO:=jA (Yn (List.replicate (L.length-i) (.int .i64 0)) i wr (jcx HR.u (m:=i) (by omega)) (by simp [xU];omega));have RG:=jA (JB HG.u (xR (zI X (List.replicate (L.length-i) (.int .i64 0)) i wr)));clear hfl hfn;have e1:(i:Int)≤(L.length:Int):=by omega
    have hcap:L.length≤cap:=by
     rcases HR.u.2 with⟨hv,_⟩|⟨g,c,cur,hv,_,_,h1,_⟩;·cases hv
     ·injection hv with _ _ h3;omega
    go_wp2_with (refine XT rfl _ 29 3 rfl (.int .i64 0) underlying29 HZ.u rfl rfl X i (L.length-i) (cap-i) rfl THR.u ?_);go_ret;refine⟨some ⟨X,0,none⟩,cap,by rw [HFN.u];rfl,?_,RG.u⟩;have h9:=RO.u;rw [jbm,HF.u]at h9;rw [HFN.u];exact h9
   have dk:decide ((j:Int)<(L.length:Int))=true:=jQ (by omega);have dk2:decide (j<L.length)=true:=jQ hlt;have dkj:(j:Int)<(L.length:Int):=by omega
   have dki:(i:Int)<(L.length:Int):=by omega
   have hget:wr.cell? ⟨X,j,none⟩=some (.int .i64 L[j]):=by
    have h1:=HR.u.cells (g:=X) rfl j (.int .i64 L[j]) (by simp [xU];exact HD.u.get hlt);rw [Kl]at h1;exact h1
   have QC:=jA (QF.u wr HG.u L[j] (jj hlt));have hskip:=jA (fun h=>HD.u.skip hlt h);have hkeep:=jA (fun h=>HD.u.keep hlt h);generalize L[j]=x at*;cases hb:p x with
   |
    true=>
    have HS:=jA (hskip.u hb);rw [hb]at QC;clear hb hskip hkeep;go_wp2_with (with_reducible refine(QC.u).mono ?_;rintro e w2 ⟨rfl,b2⟩);go_roundw;case rel=>exact⟨i,j+1,R,rfl,by go_num,HS.u,HR.u.kept (row:=none) (yY b2 none) (by cases Value.ownBlock _<;>simp),JB HG.u (yY b2 _)⟩
    case measure=>simp [intOf];omega
   |
    false=>
    have HS:=jA (hkeep.u hb);rw [hb]at QC;clear hb hskip hkeep;have hlt':=jA hlt;go_upto_region 9 with(with_reducible refine(QC.u).mono ?_;rintro e w2 ⟨rfl,b2⟩);have HR2:=jA (HR.u.kept (row:=none) (yY b2 none) (by cases Value.ownBlock _<;>simp));have HG2:=jA (JB HG.u (yY b2 _));have hci:=HR2.u.cells (g:=X) rfl i;have hcell: ∃u,w2.cell? ⟨X,i,none⟩=some u:=by
     have h1:=(Qs HR2.u i 1 (by omega)) 0 (by omega);exact Option.isSome_iff_exists.1 h1.1
    have hfz:w2.frozen? ⟨X,i,none⟩=false:=((Qs HR2.u i 1 (by omega)) 0 (by omega)).2;obtain⟨u0,hcell⟩:=hcell;clear b2 hci HR HG QC hget;have SR:=jA (World.ownsRow.stored HR2.u i (.int .i64 x));go_wp2_with fail;go_roundw;case rel=>
     refine⟨i+1,j+1,R.set i x,by go_num,by go_num,HS.u,?_,JB HG2.u (xR ⟨rfl,rfl,rfl,by simp [World.setCell],fun k hk=>qm _ _ k _ hk⟩)⟩;have h9:=SR.u.1;rw [jcH]at h9;exact h9
    case measure=>simp [intOf];omega
structure jfF(L:List Int)(m:Int):Prop where
 mem:m∈L
 le: ∀x∈L,x≤m
theorem jfF.snoc {L:List Int}{m:Int}(h:jfF L m)(x:Int):jfF (L++ [x]) (if m<x then x else m):=by
 refine⟨?_,fun y hy=>?_⟩
 ·by_cases hx:m<x;·rw [jR hx];simp
  ·rw [jT hx];exact List.mem_append_left _ h.mem
 ·rcases jh.1 hy with h1|h1;·have:=h.le y h1;split<;>omega
  ·obtain rfl:y=x:=by simpa using h1
   split<;>omega
theorem jlf(oa:Option Addr)(L:List Int)(cap:Nat)(w:World)(h:yj w oa L)(h0:0<L.length)(hl:L.length<9223372036854775807):
 Calls prog 70 #[.slice oa L.length cap] w fun e w'=>(∃m,e=.returned (.int .i64 m)∧jfF L m)∧w=w':=by
 obtain⟨a,rfl,hab,hac⟩:=h.cells 0 h0;have H:=jA h;have d0:decide ((L.length:Int)<1)=false:=jS (by omega);have d1:decide (L.length<1)=false:=jS (by omega);have hz:(0:Int)<(L.length:Int):=by omega
 have hac2:w.cell? a=some (.int .i64 L[0]):=by have:=hac;rwa [show a.add 0=a from by simp [Addr.add]]at this
 clear h;have HS:=jA (show jfF (L.take 1) L[0]from⟨by rw [jk h0];simp,fun x hx=>by rw [jk h0]at hx;simp at hx;omega⟩);generalize L[0]=x0 at*;go_enter Tryz.func70,Tryz.ntmps70;go_wp2_with fail;clear hac hac2 d0 d1 hz
 go_loop [3,4] (fun v i=> ∃(k:Nat) (m:Int),1≤k∧k≤L.length∧i=.int .i64 k∧v=.int .i64 m∧jfF (L.take k) m) (fun _ i=>L.length-(intOf i).toNat)
 case atStart=>exact⟨1,x0,by omega,by omega,rfl,rfl,HS.u⟩
 case round=>
 obtain⟨k,m,hk1,hk,rfl,rfl,hm⟩:=hrel;have HM:=jA hm;clear hm;by_cases hlt:k<L.length
 ·have dk:decide ((k:Int)<(L.length:Int))=true:=jQ (by omega);have dk2:decide (k<L.length)=true:=jQ hlt;have hki:(k:Int)<(L.length:Int):=by omega
  obtain⟨b,hoa,hab2,hac2⟩:=H.u.cells k hlt;obtain rfl:a=b:=by injection hoa
  have HN:=jA (show jfF (L.take (k+1)) (if m<L[k]then L[k]else m)by rw [jk hlt];exact HM.u.snoc _);generalize L[k]=y at*;go_wp2_with fail
  go_round
  case rel=>exact⟨k+1,if m<y then y else m,by omega,by omega,by go_num,rfl,HN.u⟩
  case measure=>simp [intOf];omega
 ·have dk:decide ((k:Int)<(L.length:Int))=false:=jS (by omega);have dk2:decide (k<L.length)=false:=jS hlt;obtain rfl:k=L.length:=by omega
  rw [kG]at HM;go_wp2_with fail;go_ret;exact⟨⟨m,rfl,HM.u⟩,rfl⟩
def zD(rl:Int):Bool:=decide (rl=3∨rl=4)
theorem jcl(c:yE)(oa:Option Addr)(cap:Nat)(w:World):Calls prog 169 #[.agg #[.string ⟨c.nm.toArray⟩,.slice oa c.op.length cap,.int .i64 c.rl,.int .i64 c.se,.int .i64 c.mo,.int .i64 0]] w fun e w'=>e=.returned (.bool (zD c.rl))∧Below w.heap.size w w':=by
 have HR:=jA (show zD c.rl=decide (c.rl=3∨c.rl=4)from rfl);by_cases h3:c.rl=3
 ·have e3:(c.rl==3)=true:=by rw [h3];rfl
  have HE:=jA (HR.u.trans (jQ (.inl h3)));clear h3;go_enter Tryz.func169,Tryz.ntmps169;go_wp2_with fail;go_ret;exact⟨by rw [HE.u];rfl,(jN _ _).alloc (jO _) _⟩
 ·have e3:(c.rl==3)=false:=by rw [kE];exact h3
  by_cases h4:c.rl=4
  ·have e4:(c.rl==4)=true:=by rw [h4];rfl
   have HE:=jA (HR.u.trans (jQ (.inr h4)));clear h3 h4;go_enter Tryz.func169,Tryz.ntmps169;go_wp2_with fail;go_ret;exact⟨by rw [HE.u];rfl,(jN _ _).alloc (jO _) _⟩
  ·have e4:(c.rl==4)=false:=by rw [kE];exact h4
   have HE:=jA (HR.u.trans (jS (fun h=>h.elim h3 h4)));clear h3 h4;go_enter Tryz.func169,Tryz.ntmps169;go_wp2_with fail;go_ret;exact⟨by rw [HE.u];rfl,(jN _ _).alloc (jO _) _⟩
theorem xO {P:Program}{ops:Array Oper}{rest:List Oper}{o:Oper}{a:Act}{w:World}{Q:Exit→Act→World→Prop}(hw:Region.wanted o (yielded ops a.tmps)=true)(ty:TypeId)(x:Operand)(ho:o.op=.load ty x)(b:Nat)(cs:Array Value)(t:TypeId)(fr:Nat×Nat)(d:TypeDesc)
 (hx:a.eval x=.pointer (some ⟨b,0,none⟩)) (hb:w.heap[b]?=some (.cells cs t fr)) (hu:P.underlying ty=some d) (hd:(match d with| .struct _=>true| .array _ _=>true|_=>false)=true)
 (hi:(P.info? ty).map (·.size)=some cs.size) (h:wpList P ops Q rest (a.put o.dst (.agg cs)) w):wpList P ops Q (o::rest) a w:=
 wpList_step fun K hK=>by
  rw [jR hw];have hr:=run_loadVar_row (P:=P) w b t ty cs fr d hb hu (by cases d<;>first|rfl|exact hd) hi;unfold Oper.wp execOp;simp only [ho,hx,Instr.loadAt,Instr.sureAddr,kJ,qo,qF,hr];exact hK _ _ h
theorem xl(ty:TypeId){P:Program}{ops:Array Oper}{rest:List Oper}{dst:Option Tmp}{x:Operand}{t:TypeId}{pos:String}{af:Array Edge}{g:Option (Nat×Bool)}{a:Act}{w:World}{Q:Exit→Act→World→Prop}(h:wpList P ops Q (⟨dst,.load ty x,t,pos,af,g⟩::rest) a w):wpList P ops Q (⟨dst,.load ty x,t,pos,af,g⟩::rest) a w:=h
def XD(c:yE):Int:=if zD c.rl=true then(c.op.length:Int)else 1
theorem yW:(prog.info? 161).map (·.size)=some 6:=by kernel_rfl
theorem ZN(c:yE)(oa:Option Addr)(cap:Nat)(w:World):Calls prog 87 #[.agg #[.string ⟨c.nm.toArray⟩,.slice oa c.op.length cap,.int .i64 c.rl,.int .i64 c.se,.int .i64 c.mo]] w fun e w'=>e=.returned (.bool (zD c.rl))∧Below w.heap.size w w':=by
 have HR:=jA (show zD c.rl=decide (c.rl=3∨c.rl=4)from rfl);by_cases h3:c.rl=3
 ·have e3:(c.rl==3)=true:=by rw [h3];rfl
  have HE:=jA (HR.u.trans (jQ (.inl h3)));clear h3;go_enter Tryz.func87,Tryz.ntmps87;go_wp2_with fail;go_ret;exact⟨by rw [HE.u];rfl,(jN _ _).alloc (jO _) _⟩
 ·have e3:(c.rl==3)=false:=by rw [kE];exact h3
  by_cases h4:c.rl=4
  ·have e4:(c.rl==4)=true:=by rw [h4];rfl
   have HE:=jA (HR.u.trans (jQ (.inr h4)));clear h3 h4;go_enter Tryz.func87,Tryz.ntmps87;go_wp2_with fail;go_ret;exact⟨by rw [HE.u];rfl,(jN _ _).alloc (jO _) _⟩
  ·have e4:(c.rl==4)=false:=by rw [kE];exact h4
   have HE:=jA (HR.u.trans (jS (fun h=>h.elim h3 h4)));clear h3 h4;go_enter Tryz.func87,Tryz.ntmps87;go_wp2_with fail;go_ret;exact⟨by rw [HE.u];rfl,(jN _ _).alloc (jO _) _⟩
theorem jkQ(c:yE)(oa:Option Addr)(cap:Nat)(w:World):Calls prog 168 #[.agg #[.string ⟨c.nm.toArray⟩,.slice oa c.op.length cap,.int .i64 c.rl,.int .i64 c.se,.int .i64 c.mo,.int .i64 0]] w fun e w'=>e=.returned (.int .i64 (XD c))∧Below w.heap.size w w':=by
 have Q:=jA (fun w=>jcl c oa cap w);cases hr:zD c.rl with
 |
  true=>
  have HT:=jA (show XD c=(c.op.length:Int)from jR hr);rw [hr]at Q;clear hr;go_enter Tryz.func168,Tryz.ntmps168;go_upto_region 1 with(fail);generalize hB:w.heap.size=B at*;refine xP (fun w1=>Below B w w1∧w1.heap[B]?=some (.cells #[.string ⟨c.nm.toArray⟩,.slice oa c.op.length cap,.int .i64 c.rl,.int .i64 c.se,.int .i64 c.mo,.int .i64 0] 161 (0,0))) ⟨by rw [←hB];exact(jN _ _).alloc (jO _) _,by rw [←hB];exact xN rfl⟩ (fun w1 hw1=>?_);have HB:=jA hB;have B1:=jA hw1.1;have X1:=jA hw1.2;have hBs:B<w1.heap.size:=lt_of_heap hw1.2;clear hB hw1;go_wp2_with (first|(refine xi rfl 161 _ rfl B _ _ _ _ rfl X1.u underlying161 rfl yW ?_)|(go_at_call 169;refine(Q.u w1).mono ?_;rintro e w2 ⟨rfl,b2⟩;have k1:w2.cell? ⟨B,1,none⟩=some (.slice oa c.op.length cap):=jM w2 B 1 _ _ _ (xK b2 hBs X1.u)));go_ret;exact⟨by rw [HT.u];rfl,by rw [HB.u];exact B1.u.trans (b2.mono (jZ hBs))⟩
 |
  false=>
  have HT:=jA (show XD c=1 from jT (by rw [hr];decide));rw [hr]at Q;clear hr;go_enter Tryz.func168,Tryz.ntmps168;go_upto_region 1 with(fail);generalize hB:w.heap.size=B at*;refine xP (fun w1=>Below B w w1∧w1.heap[B]?=some (.cells #[.string ⟨c.nm.toArray⟩,.slice oa c.op.length cap,.int .i64 c.rl,.int .i64 c.se,.int .i64 c.mo,.int .i64 0] 161 (0,0))) ⟨by rw [←hB];exact(jN _ _).alloc (jO _) _,by rw [←hB];exact xN rfl⟩ (fun w1 hw1=>?_);have HB:=jA hB;have B1:=jA hw1.1;have X1:=jA hw1.2;have hBs:B<w1.heap.size:=lt_of_heap hw1.2;clear hB hw1;go_wp2_with (first|(refine xi rfl 161 _ rfl B _ _ _ _ rfl X1.u underlying161 rfl yW ?_)|(go_at_call 169;refine(Q.u w1).mono ?_;rintro e w2 ⟨rfl,b2⟩;have k1:w2.cell? ⟨B,1,none⟩=some (.slice oa c.op.length cap):=jM w2 B 1 _ _ _ (xK b2 hBs X1.u)));go_ret;exact⟨by rw [HT.u];rfl,by rw [HB.u];exact B1.u.trans (b2.mono (jZ hBs))⟩
theorem jfX(c:yE)(oa:Option Addr)(cap:Nat)(w:World):Calls prog 85 #[.agg #[.string ⟨c.nm.toArray⟩,.slice oa c.op.length cap,.int .i64 c.rl,.int .i64 c.se,.int .i64 c.mo]] w fun e w'=>e=.returned (.int .i64 (XD c))∧Below w.heap.size w w':=by
 have Q:=jA (fun w=>ZN c oa cap w);cases hr:zD c.rl with
 |
  true=>
  have HT:=jA (show XD c=(c.op.length:Int)from jR hr);rw [hr]at Q;clear hr;go_enter Tryz.func85,Tryz.ntmps85;go_upto_region 1 with(fail);generalize hB:w.heap.size=B at*;refine xP (fun w1=>Below B w w1∧w1.heap[B]?=some (.cells #[.string ⟨c.nm.toArray⟩,.slice oa c.op.length cap,.int .i64 c.rl,.int .i64 c.se,.int .i64 c.mo] 24 (0,0))) ⟨by rw [←hB];exact(jN _ _).alloc (jO _) _,by rw [←hB];exact xN rfl⟩ (fun w1 hw1=>?_);have HB:=jA hB;have B1:=jA hw1.1;have X1:=jA hw1.2;have hBs:B<w1.heap.size:=lt_of_heap hw1.2;clear hB hw1;go_wp2_with (first|(refine xi rfl 24 _ rfl B _ _ _ _ rfl X1.u underlying24 rfl xe ?_)|(go_at_call 87;refine(Q.u w1).mono ?_;rintro e w2 ⟨rfl,b2⟩;have k1:w2.cell? ⟨B,1,none⟩=some (.slice oa c.op.length cap):=jM w2 B 1 _ _ _ (xK b2 hBs X1.u)));go_ret;exact⟨by rw [HT.u];rfl,by rw [HB.u];exact B1.u.trans (b2.mono (jZ hBs))⟩
 |
  false=>
  have HT:=jA (show XD c=1 from jT (by rw [hr];decide));rw [hr]at Q;clear hr;go_enter Tryz.func85,Tryz.ntmps85;go_upto_region 1 with(fail);generalize hB:w.heap.size=B at*;refine xP (fun w1=>Below B w w1∧w1.heap[B]?=some (.cells #[.string ⟨c.nm.toArray⟩,.slice oa c.op.length cap,.int .i64 c.rl,.int .i64 c.se,.int .i64 c.mo] 24 (0,0))) ⟨by rw [←hB];exact(jN _ _).alloc (jO _) _,by rw [←hB];exact xN rfl⟩ (fun w1 hw1=>?_);have HB:=jA hB;have B1:=jA hw1.1;have X1:=jA hw1.2;have hBs:B<w1.heap.size:=lt_of_heap hw1.2;clear hB hw1;go_wp2_with (first|(refine xi rfl 24 _ rfl B _ _ _ _ rfl X1.u underlying24 rfl xe ?_)|(go_at_call 87;refine(Q.u w1).mono ?_;rintro e w2 ⟨rfl,b2⟩;have k1:w2.cell? ⟨B,1,none⟩=some (.slice oa c.op.length cap):=jM w2 B 1 _ _ _ (xK b2 hBs X1.u)));go_ret;exact⟨by rw [HT.u];rfl,by rw [HB.u];exact B1.u.trans (b2.mono (jZ hBs))⟩
def Kg(L:List Int)(n:Int):Nat:=(L.filter fun x=>x==n).length
theorem jiX(L:List Int)(x n:Int):Kg (L++ [x]) n=Kg L n+if x=n then 1 else 0:=by
 unfold Kg;rw [qP,ja];by_cases h:x=n<;>simp [h]
theorem jhB(oa:Option Addr)(L:List Int)(cap:Nat)(n:Int)(w:World)(h:yj w oa L)(hl:L.length<9223372036854775807):
 Calls prog 86 #[.slice oa L.length cap,.int .i64 n] w fun e w'=>e=.returned (.int .i64 (Kg L n))∧w=w':=by
 have H:=jA h;clear h;go_enter Tryz.func86,Tryz.ntmps86;go_wp2_with fail
 go_loop [10,5] (fun i v=> ∃k m:Nat,k≤L.length∧m≤k∧i=.int .i64 k∧v=.int .i64 m∧m=Kg (L.take k) n) (fun i _=>L.length-(intOf i).toNat)
 case atStart=>exact⟨0,0,by omega,by omega,rfl,rfl,rfl⟩
 case round=>
 obtain⟨k,m,hk,hmk,rfl,rfl,hm⟩:=hrel;have HM:=jA hm;clear hm;by_cases hlt:k<L.length
 ·have dk:decide ((k:Int)<(L.length:Int))=true:=jQ (by omega);have dk2:decide (k<L.length)=true:=jQ hlt;have hki:(k:Int)<(L.length:Int):=by omega
  obtain⟨b,hoa,hab2,hac2⟩:=H.u.cells k hlt;subst hoa;have HN:=jA (show Kg (L.take (k+1)) n=m+if L[k]=n then 1 else 0 by rw [jk hlt,jiX,←HM.u]);generalize L[k]=y at*;by_cases he:y=n
  ·have d1:(y==n)=true:=by rw [beq_iff_eq];exact he
   have HN2:=jA (show m+1=Kg (L.take (k+1)) n by rw [HN.u,jR he]);clear he HN;go_wp2_with fail
   go_round
   case rel=>exact⟨k+1,m+1,by omega,by omega,by go_num,by go_num,HN2.u⟩
   case measure=>simp [intOf];omega
  ·have d1:(y==n)=false:=by rw [kE];exact he
   have HN2:=jA (show m=Kg (L.take (k+1)) n by rw [HN.u,jT he];rfl);clear he HN;go_wp2_with fail
   go_round
   case rel=>exact⟨k+1,m,by omega,by omega,by go_num,rfl,HN2.u⟩
   case measure=>simp [intOf];omega
 ·have dk:decide ((k:Int)<(L.length:Int))=false:=jS (by omega);have dk2:decide (k<L.length)=false:=jS hlt;have HE:=jA (show m=Kg L n by rw [HM.u,jc (by omega)]);go_wp2_with fail;go_ret;exact⟨by rw [←HE.u];rfl,rfl⟩
end Go.Proofs.YtnohcdpnnhmpfaaGreatDoor
