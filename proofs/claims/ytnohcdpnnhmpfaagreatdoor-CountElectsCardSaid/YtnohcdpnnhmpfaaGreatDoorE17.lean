/- slices.IndexFunc and slices.DeleteFunc of ints, for any function value with one or two captured values. -/
import Derived.Test.YtnohcdpnnhmpfaaGreatDoorE15
set_option linter.all false
set_option maxRecDepth 100000
set_option maxHeartbeats 4000000
namespace Go.Proofs.YtnohcdpnnhmpfaaGreatDoor
open Go.RowKit Tryz ML FM AU CT
variable{L R:C0}{P:Program}{X base cap i j n:Nat}{a:Act}{e:o0}{w w1:m0}{xs:A0}
def zh(N:FuncId):Prop:= ∀args w,(callFunc N args).run prog w=.ok (.enter N args) w
theorem KJ {N:FuncId}{fn:Func}{c:Code}(hf:prog.funcs[N]?=some fn)(hn:(fn.name== "runtime.NumGoroutine")=false)(hb:fn.body=some c):zh N:=fun args w=>by
 have h1:fn.name≠ "runtime.NumGoroutine" :=by simpa using hn
 simp [callFunc,hf,h1,hb]
theorem zf(b:Nat): ∀(vs:A0) (o:Nat) (w:m0),yG b w (w.setCells b o vs)
 | [],o,w=>yG.refl _ _
 |v::r,o,w=>(show yG b w (w.setCell ⟨b,o,none⟩ v)from⟨rfl,rfl,rfl,by simp [World.setCell],fun k hk=>qf w _ k v hk⟩).trans (zf b r (o+1) _)
theorem Zo {base:Nat}{e:o0}{size n X cap:Nat}{xs:A0}: ∀(vs:A0) (o:Nat) (w:m0),w.ownsRow base e size (.slice (some ⟨X,0,none⟩) n cap) n xs→xs.length≤o→(w.setCells X o vs).ownsRow base e size (.slice (some ⟨X,0,none⟩) n cap) n xs
 | [],o,w,h,_=>h
 |
  v::r,o,w,h,ho=>by
  have h1:=(World.ownsRow.stored h o v).1;rw [List.set_eq_of_length_le ho]at h1;exact Zo r (o+1) _ h1 (by omega)
theorem jdU{m:Nat}(h:w.ownsRow base e 1 (.slice (some ⟨X,0,none⟩) n cap) n xs)(hm:m≤n):w.ownsRow base e 1 (.slice (some ⟨X,0,none⟩) m cap) m (xs.take m):=by
 obtain⟨hl,hv⟩:=h;refine⟨by rw [jf,hl];omega,?_⟩;rcases hv with⟨hv,_⟩|⟨g,c,Es,hv,hb,hg,h1,h2,h3,h4⟩;·cases hv
 ·injection hv with e1 e2 e3;injection e1 with e1;injection e1 with e1;subst e1;subst e3;exact .inr ⟨X,cap,Es,rfl,hb,hg,by omega,h2,h3,by rw [←h4,List.take_take];congr 1;omega⟩
theorem Vd(h:w.ownsRow base e 1 (.slice (some ⟨X,0,none⟩) n cap) n xs)(o k:Nat)(hk:o+k≤n):w.there X o k:=fun j hj=>by
 rcases h.2 with⟨hv,_⟩|⟨g,c,Es,hv,hb,hg,h1,h2,h3,h4⟩;·cases hv
 ·injection hv with e1 e2 e3;injection e1 with e1;injection e1 with e1;subst e1;subst e3;have ns:o+j<Es.size:=by rw [h3];omega
  refine⟨by rw [jM w X (o+j) _ _ _ hg];simp [ns],jc w X (o+j) _ _ hg⟩
theorem jfS: ∀w,(zeroValue 3).run prog w=.ok (.int .i64 0) w:=by
 obtain⟨i0,hi,Is,Ts,Ns⟩:=info_parts KC;intro w;simp [zeroValue,typeInfo,hi,Is,kU]
theorem JX {w2:m0}{X:L0}(h:w.grownBy w1 X)(k:w1.grownBy w2 X):w.grownBy w2 X:=⟨k.os.trans h.os,k.tape.trans h.tape,k.output.trans h.output,jU h.size k.size,fun i hi Cs=>(k.block i (jW hi h.size) Cs).trans (h.block i hi Cs)⟩
theorem yt(h:O0 w.heap.size w w1)(X:L0):w.grownBy w1 X:=⟨h.os,h.tape,h.output,h.size,fun k hk _=>h.block k hk⟩
structure Yj(p:Int→Bool)(L R:C0)(i j:Nat):Prop where
 len:R.length=L.length
 lt:i<j
 le:j≤L.length
 head:R.take i=(L.take j).filter fun x=> !p x
 rest:R.drop j=L.drop j
theorem Yj.skip {p:Int→Bool}(h:Yj p L R i j)(hj:j<L.length)(hp:p L[j]=true):Yj p L R i (j+1):=by
 refine⟨h.len,by have:=h.lt;omega,hj,?_,?_⟩;·rw [h.head,jh hj,qY];simp [hp]
 ·have:=qO (List.drop 1) h.rest;simpa [List.drop_drop,Nat.add_comm] using this
theorem Yj.keep {p:Int→Bool}(h:Yj p L R i j)(hj:j<L.length)(hp:p L[j]=false):Yj p L (R.set i L[j]) (i+1) (j+1):=by
 have ns:=h.lt;have hi:i<R.length:=by rw [h.len];omega
 refine⟨by rw [kE,h.len],by omega,hj,?_,?_⟩
 ·
   have h1:(R.set i L[j]).take (i+1)=R.take i++ [L[j]]:=by
    rw [jh (by rw [kE];exact hi)];simp [List.take_set_of_le]
   rw [h1,h.head,jh hj,qY];simp [hp]
 ·have h1:(R.set i L[j]).drop (j+1)=R.drop (j+1):=by rw [List.drop_set_of_lt (by omega)]
  rw [h1];have:=qO (List.drop 1) h.rest;simpa [List.drop_drop,Nat.add_comm] using this
theorem Yj.get {p:Int→Bool}(h:Yj p L R i j)(hj:j<L.length):R[j]?=some L[j]:=by
 have h1:(R.drop j)[0]?=(L.drop j)[0]?:=by rw [h.rest]
 simpa [vF,hj] using h1
theorem jee(R:C0)(i:Nat)(x:Int):(xq R).set i (.int .i64 x)=xq (R.set i x):=by simp [xq,vC]
theorem jcz(R:C0)(i:Nat):(xq R).take i=xq (R.take i):=by simp [xq,List.map_take]
def jjv(p:Int→Bool)(L:C0)(r:Int):Prop:=(r= -1∧ ∀x∈L,p x=false)∨ ∃k:Nat,∃h:k<L.length,r=k∧p L[k]=true∧ ∀x∈L.take k,p x=false
theorem jiq(N:FuncId)(qN:zh N)(c1:n0)(p:Int→Bool)(oa:s0)(L:C0)(cap:Nat)(w:m0)(h:yW w oa L)(hl:L.length≤12)
 (hf: ∀w1,O0 w.heap.size w w1→ ∀x∈L,Calls prog N #[.int .i64 x,c1] w1 fun e w2=>e=.returned (.bool (p x))∧O0 w1.heap.size w1 w2):
 Calls prog 98 #[.slice oa L.length cap,(.func (.func N) #[] #[c1])] w fun e w'=>(∃r:Int,e=.returned (.int .i64 r)∧jjv p L r)∧O0 w.heap.size w w':=by
 unfold zh at qN;have H:=jA h;have QF:=jA hf;clear h hf;generalize hB:w.heap.size=B at*;have HB:=jA hB;clear hB;go_enter Tryz.func98,Tryz.ntmps98;go_upto_region 2 with(fail);go_loopw [8] (fun v wr=> ∃k:Nat,k≤L.length∧v=.int .i64 k∧(∀x∈L.take k,p x=false)∧O0 B w wr) (fun v _=>L.length-(intOf v).toNat);case atStart=>exact⟨0,by omega,rfl,(fun x hx=>by simp at hx),jN _ _⟩
 case round=>
 obtain⟨k,hk,rfl,fu,hb⟩:=hrel;have HP:=jA fu;have BR:=jA hb;have hbs:B≤wr.heap.size:=by rw [←HB.u];exact(show O0 w.heap.size w wr by rw [HB.u];exact hb).size
 clear fu hb;by_cases ns:k<L.length
 ·obtain⟨dk,Ms,nu⟩:=Go.yD ns
  obtain⟨a,Us,eu,Ft⟩:=(H.u.below (HB.u.symm▸BR.u)).cells k ns;have QC:=jA (QF.u wr BR.u L[k] (jb ns));have Pv:=jA (show p L[k]=true→jjv p L k from fun hb=>.inr ⟨k,ns,rfl,hb,HP.u⟩)
  have ut:=jA (show p L[k]=false→ ∀x∈L.take (k+1),p x=false from fun hb x hx=>by
   rw [jh ns,jj]at hx;rcases hx with hx|hx;·exact HP.u x hx
   ·rw [jm.1 hx];exact hb)
  subst Us;generalize L[k]=x at*;cases hb:p x with
  |
   true=>
   have h2:=jA (Pv.u hb);rw [hb]at QC;clear hb Pv ut;go_wp2_with (with_reducible refine(QC.u).mono ?_;rintro e w1 ⟨rfl,b1⟩);go_ret;exact⟨⟨_,rfl,h2.u⟩,BR.u.trans (b1.mono hbs)⟩
  |
   false=>
   have h2:=jA (ut.u hb);rw [hb]at QC;clear hb Pv ut;go_wp2_with (with_reducible refine(QC.u).mono ?_;rintro e w1 ⟨rfl,b1⟩);go_roundw;case rel=>exact⟨k+1,by omega,by go_num,h2.u,BR.u.trans (b1.mono hbs)⟩
   case measure=>simp [intOf];omega
 ·obtain⟨dk,Ms⟩:=Go.yg ns;obtain rfl:k=L.length:=by omega
  rw [jr]at HP;go_wp2_with fail;go_ret;exact⟨⟨_,rfl,.inl ⟨rfl,HP.u⟩⟩,BR.u⟩
theorem jhf(N:FuncId)(qN:zh N)(c1:n0)(p:Int→Bool)(oa:s0)(L:C0)(cap base:Nat)(w:m0)(h:w.ownsRow base 3 1 (.slice oa L.length cap) L.length (xq L))(hl:L.length≤12)
 (hf: ∀w1,w.grownBy w1 (Value.ownBlock (.slice oa L.length cap))→ ∀x∈L,Calls prog N #[.int .i64 x,c1] w1 fun e w2=>e=.returned (.bool (p x))∧O0 w1.heap.size w1 w2):
 Calls prog 125 #[.slice oa L.length cap,(.func (.func N) #[] #[c1])] w fun e w'=> ∃ob cb,e=.returned (.slice ob (L.filter fun x=> !p x).length cb)∧w'.ownsRow base 3 1 (.slice ob (L.filter fun x=> !p x).length cb) (L.filter fun x=> !p x).length (xq (L.filter fun x=> !p x))∧w.grownBy w' (Value.ownBlock (.slice oa L.length cap)):=by
 have QI:=jA (jiq N qN c1 p oa L cap w (QH h) hl (fun w1 hb x hx=>hf w1 ⟨hb.os,hb.tape,hb.output,hb.size,fun k hk _=>hb.block k hk⟩ x hx));unfold zh at qN;have HO:=jA h;have QF:=jA hf;clear h hf;go_enter Tryz.func125,Tryz.ntmps125;go_upto_region 2 with(go_at_call 98;refine QI.u.mono ?_;rintro e w1 ⟨⟨r,rfl,hr⟩,b1⟩);have B1:=jA b1;have HI:=jA hr;clear b1 hr QI;rcases HI.u with⟨hr,hall⟩|⟨k,hk,hr,hpk,fu⟩
 ·subst hr;go_wp2_with fail;go_ret;have SJ:(L.filter fun x=> !p x)=L:=xS.2 (fun x hx=>by rw [hall x hx];rfl);rw [SJ];exact⟨oa,cap,rfl,HO.u.kept (row:=none) ⟨B1.u.os,B1.u.tape,B1.u.output,B1.u.size,fun k hk _=>B1.u.block k hk⟩ (by cases Value.ownBlock _<;>simp),⟨B1.u.os,B1.u.tape,B1.u.output,B1.u.size,fun k hk _=>B1.u.block k hk⟩⟩
 ·
   obtain⟨X,hX⟩: ∃X,oa=some ⟨X,0,none⟩:=by
    rcases HO.u.2 with⟨hv,h0⟩|⟨g,c,Es,hv,_⟩;·omega
    ·injection hv with h1;exact⟨g,h1⟩
   subst hX;subst hr;have Cs:((k:Int)== -1)=false:=by rw [jt];omega
   have hD0:Yj p L L k (k+1):=⟨rfl,by omega,by omega,by
    rw [jh hk,qY];have h0:(L.take k).filter (fun x=> !p x)=L.take k:=xS.2 (fun x hx=>by rw [fu x hx];rfl);rw [h0];simp [hpk],rfl⟩
   have O1:=HO.u.kept (row:=none) (yt B1.u none) (by cases Value.ownBlock _<;>simp);have HO1:=jA O1;have HG1:=jA (yt B1.u (some X));have HD0:=jA hD0;have HZ:=jA jfS;clear HI hpk fu hD0 O1 B1 HO;go_upto_region 5 with(fail);clear Cs;go_loopw [5,6] (fun vi vj wr=> ∃(i j:Nat) (R:C0),vi=.int .i64 i∧vj=.int .i64 j∧Yj p L R i j∧wr.ownsRow base 3 1 (.slice (some ⟨X,0,none⟩) L.length cap) L.length (xq R)∧w.grownBy wr (some X)) (fun _ vj _=>L.length-(intOf vj).toNat);case atStart=>exact⟨k,k+1,L,by go_num,by go_num,HD0.u,HO1.u,HG1.u⟩
   case round=>
   obtain⟨i,j,R,rfl,rfl,hd,ho,hg⟩:=hrel;have HD:=jA hd;have HR:=jA ho;have HG:=jA hg;have pt:=hd.lt;have By:=hd.le;have Ny:=jA hd.len;clear hd ho hg HO1 HG1 HD0;by_cases ns:j<L.length;case neg=>
    obtain⟨dk,Ms⟩:=Go.yg ns;obtain rfl:j=L.length:=by omega
    have SJ:R.take i=L.filter fun x=> !p x:=by have:=HD.u.head;rwa [jr]at this
    have TG:(L.filter fun x=> !p x).length=i:=by rw [←SJ,jf,Ny.u];omega
    have HF:=jA SJ;have AX:=jA TG;have wI:=jA (Vd HR.u i (L.length-i) (by omega));have RO:=jA (Zo (List.replicate (L.length-i) (.int .i64 0)) i wr (jdU HR.u (m:=i) (by omega)) (by simp [xq];omega));have RG:=jA (JX HG.u (xk (zf X (List.replicate (L.length-i) (.int .i64 0)) i wr)));clear SJ TG;have e1:(i:Int)≤(L.length:Int):=by omega
    have fK:L.length≤cap:=by
     rcases HR.u.2 with⟨hv,_⟩|⟨g,c,Es,hv,_,_,h1,_⟩;·cases hv
     ·injection hv with _ _ h3;omega
    go_wp2_with (refine YO rfl _ 29 3 rfl (.int .i64 0) underlying29 HZ.u rfl rfl X i (L.length-i) (cap-i) rfl wI.u ?_);go_ret;refine⟨some ⟨X,0,none⟩,cap,by rw [AX.u];rfl,?_,RG.u⟩;have h9:=RO.u;rw [jcz,HF.u]at h9;rw [AX.u];exact h9
   obtain⟨dk,Ms,dkj⟩:=Go.yD ns
   have Py:(i:Int)<(L.length:Int):=by omega
   have iF:wr.cell? ⟨X,j,none⟩=some (.int .i64 L[j]):=by
    have h1:=HR.u.cells (g:=X) rfl j (.int .i64 L[j]) (by simp [xq];exact HD.u.get ns);rw [Qf]at h1;exact h1
   have QC:=jA (QF.u wr HG.u L[j] (jb ns));have pz:=jA (fun h=>HD.u.skip ns h);have Bz:=jA (fun h=>HD.u.keep ns h);generalize L[j]=x at*;cases hb:p x with
   |
    true=>
    have HS:=jA (pz.u hb);rw [hb]at QC;clear hb pz Bz;go_wp2_with (with_reducible refine(QC.u).mono ?_;rintro e w2 ⟨rfl,b2⟩);go_roundw;case rel=>exact⟨i,j+1,R,rfl,by go_num,HS.u,HR.u.kept (row:=none) (yt b2 none) (by cases Value.ownBlock _<;>simp),JX HG.u (yt b2 _)⟩
    case measure=>simp [intOf];omega
   |
    false=>
    have HS:=jA (Bz.u hb);rw [hb]at QC;clear hb pz Bz;go_upto_region 9 with(with_reducible refine(QC.u).mono ?_;rintro e w2 ⟨rfl,b2⟩);have IC:=jA (HR.u.kept (row:=none) (yt b2 none) (by cases Value.ownBlock _<;>simp));have uX:=jA (JX HG.u (yt b2 _));have FE:=IC.u.cells (g:=X) rfl i;have su: ∃u,w2.cell? ⟨X,i,none⟩=some u:=by
     have h1:=(Vd IC.u i 1 (by omega)) 0 (by omega);exact Option.isSome_iff_exists.1 h1.1
    have nM:w2.frozen? ⟨X,i,none⟩=false:=((Vd IC.u i 1 (by omega)) 0 (by omega)).2;obtain⟨u0,su⟩:=su;clear b2 FE HR HG QC iF;have SR:=jA (World.ownsRow.stored IC.u i (.int .i64 x));go_wp2_with fail;go_roundw;case rel=>
     refine⟨i+1,j+1,R.set i x,by go_num,by go_num,HS.u,?_,JX uX.u (xk ⟨rfl,rfl,rfl,by simp [World.setCell],fun k hk=>qf _ _ k _ hk⟩)⟩;have h9:=SR.u.1;rw [jee]at h9;exact h9
    case measure=>simp [intOf];omega
theorem jip(N:FuncId)(qN:zh N)(c1 c2:n0)(p:Int→Bool)(oa:s0)(L:C0)(cap:Nat)(w:m0)(h:yW w oa L)(hl:L.length≤12)
 (hf: ∀w1,O0 w.heap.size w w1→ ∀x∈L,Calls prog N #[.int .i64 x,c1,c2] w1 fun e w2=>e=.returned (.bool (p x))∧O0 w1.heap.size w1 w2):
 Calls prog 98 #[.slice oa L.length cap,(.func (.func N) #[] #[c1,c2])] w fun e w'=>(∃r:Int,e=.returned (.int .i64 r)∧jjv p L r)∧O0 w.heap.size w w':=by
 unfold zh at qN;have H:=jA h;have QF:=jA hf;clear h hf;generalize hB:w.heap.size=B at*;have HB:=jA hB;clear hB;go_enter Tryz.func98,Tryz.ntmps98;go_upto_region 2 with(fail);go_loopw [8] (fun v wr=> ∃k:Nat,k≤L.length∧v=.int .i64 k∧(∀x∈L.take k,p x=false)∧O0 B w wr) (fun v _=>L.length-(intOf v).toNat);case atStart=>exact⟨0,by omega,rfl,(fun x hx=>by simp at hx),jN _ _⟩
 case round=>
 obtain⟨k,hk,rfl,fu,hb⟩:=hrel;have HP:=jA fu;have BR:=jA hb;have hbs:B≤wr.heap.size:=by rw [←HB.u];exact(show O0 w.heap.size w wr by rw [HB.u];exact hb).size
 clear fu hb;by_cases ns:k<L.length
 ·obtain⟨dk,Ms,nu⟩:=Go.yD ns
  obtain⟨a,Us,eu,Ft⟩:=(H.u.below (HB.u.symm▸BR.u)).cells k ns;have QC:=jA (QF.u wr BR.u L[k] (jb ns));have Pv:=jA (show p L[k]=true→jjv p L k from fun hb=>.inr ⟨k,ns,rfl,hb,HP.u⟩)
  have ut:=jA (show p L[k]=false→ ∀x∈L.take (k+1),p x=false from fun hb x hx=>by
   rw [jh ns,jj]at hx;rcases hx with hx|hx;·exact HP.u x hx
   ·rw [jm.1 hx];exact hb)
  subst Us;generalize L[k]=x at*;cases hb:p x with
  |
   true=>
   have h2:=jA (Pv.u hb);rw [hb]at QC;clear hb Pv ut;go_wp2_with (with_reducible refine(QC.u).mono ?_;rintro e w1 ⟨rfl,b1⟩);go_ret;exact⟨⟨_,rfl,h2.u⟩,BR.u.trans (b1.mono hbs)⟩
  |
   false=>
   have h2:=jA (ut.u hb);rw [hb]at QC;clear hb Pv ut;go_wp2_with (with_reducible refine(QC.u).mono ?_;rintro e w1 ⟨rfl,b1⟩);go_roundw;case rel=>exact⟨k+1,by omega,by go_num,h2.u,BR.u.trans (b1.mono hbs)⟩
   case measure=>simp [intOf];omega
 ·obtain⟨dk,Ms⟩:=Go.yg ns;obtain rfl:k=L.length:=by omega
  rw [jr]at HP;go_wp2_with fail;go_ret;exact⟨⟨_,rfl,.inl ⟨rfl,HP.u⟩⟩,BR.u⟩
theorem jhe(N:FuncId)(qN:zh N)(c1 c2:n0)(p:Int→Bool)(oa:s0)(L:C0)(cap base:Nat)(w:m0)(h:w.ownsRow base 3 1 (.slice oa L.length cap) L.length (xq L))(hl:L.length≤12)
 (hf: ∀w1,w.grownBy w1 (Value.ownBlock (.slice oa L.length cap))→ ∀x∈L,Calls prog N #[.int .i64 x,c1,c2] w1 fun e w2=>e=.returned (.bool (p x))∧O0 w1.heap.size w1 w2):
 Calls prog 125 #[.slice oa L.length cap,(.func (.func N) #[] #[c1,c2])] w fun e w'=> ∃ob cb,e=.returned (.slice ob (L.filter fun x=> !p x).length cb)∧w'.ownsRow base 3 1 (.slice ob (L.filter fun x=> !p x).length cb) (L.filter fun x=> !p x).length (xq (L.filter fun x=> !p x))∧w.grownBy w' (Value.ownBlock (.slice oa L.length cap)):=by
 have QI:=jA (jip N qN c1 c2 p oa L cap w (QH h) hl (fun w1 hb x hx=>hf w1 ⟨hb.os,hb.tape,hb.output,hb.size,fun k hk _=>hb.block k hk⟩ x hx));unfold zh at qN;have HO:=jA h;have QF:=jA hf;clear h hf;go_enter Tryz.func125,Tryz.ntmps125;go_upto_region 2 with(go_at_call 98;refine QI.u.mono ?_;rintro e w1 ⟨⟨r,rfl,hr⟩,b1⟩);have B1:=jA b1;have HI:=jA hr;clear b1 hr QI;rcases HI.u with⟨hr,hall⟩|⟨k,hk,hr,hpk,fu⟩
 ·subst hr;go_wp2_with fail;go_ret;have SJ:(L.filter fun x=> !p x)=L:=xS.2 (fun x hx=>by rw [hall x hx];rfl);rw [SJ];exact⟨oa,cap,rfl,HO.u.kept (row:=none) ⟨B1.u.os,B1.u.tape,B1.u.output,B1.u.size,fun k hk _=>B1.u.block k hk⟩ (by cases Value.ownBlock _<;>simp),⟨B1.u.os,B1.u.tape,B1.u.output,B1.u.size,fun k hk _=>B1.u.block k hk⟩⟩
 ·
   obtain⟨X,hX⟩: ∃X,oa=some ⟨X,0,none⟩:=by
    rcases HO.u.2 with⟨hv,h0⟩|⟨g,c,Es,hv,_⟩;·omega
    ·injection hv with h1;exact⟨g,h1⟩
   subst hX;subst hr;have Cs:((k:Int)== -1)=false:=by rw [jt];omega
   have hD0:Yj p L L k (k+1):=⟨rfl,by omega,by omega,by
    rw [jh hk,qY];have h0:(L.take k).filter (fun x=> !p x)=L.take k:=xS.2 (fun x hx=>by rw [fu x hx];rfl);rw [h0];simp [hpk],rfl⟩
   have O1:=HO.u.kept (row:=none) (yt B1.u none) (by cases Value.ownBlock _<;>simp);have HO1:=jA O1;have HG1:=jA (yt B1.u (some X));have HD0:=jA hD0;have HZ:=jA jfS;clear HI hpk fu hD0 O1 B1 HO;go_upto_region 5 with(fail);clear Cs;go_loopw [5,6] (fun vi vj wr=> ∃(i j:Nat) (R:C0),vi=.int .i64 i∧vj=.int .i64 j∧Yj p L R i j∧wr.ownsRow base 3 1 (.slice (some ⟨X,0,none⟩) L.length cap) L.length (xq R)∧w.grownBy wr (some X)) (fun _ vj _=>L.length-(intOf vj).toNat);case atStart=>exact⟨k,k+1,L,by go_num,by go_num,HD0.u,HO1.u,HG1.u⟩
   case round=>
   obtain⟨i,j,R,rfl,rfl,hd,ho,hg⟩:=hrel;have HD:=jA hd;have HR:=jA ho;have HG:=jA hg;have pt:=hd.lt;have By:=hd.le;have Ny:=jA hd.len;clear hd ho hg HO1 HG1 HD0;by_cases ns:j<L.length;case neg=>
    obtain⟨dk,Ms⟩:=Go.yg ns;obtain rfl:j=L.length:=by omega
    have SJ:R.take i=L.filter fun x=> !p x:=by have:=HD.u.head;rwa [jr]at this
    have TG:(L.filter fun x=> !p x).length=i:=by rw [←SJ,jf,Ny.u];omega
    have HF:=jA SJ;have AX:=jA TG;have wI:=jA (Vd HR.u i (L.length-i) (by omega));have RO:=jA (Zo (List.replicate (L.length-i) (.int .i64 0)) i wr (jdU HR.u (m:=i) (by omega)) (by simp [xq];omega));have RG:=jA (JX HG.u (xk (zf X (List.replicate (L.length-i) (.int .i64 0)) i wr)));clear SJ TG;have e1:(i:Int)≤(L.length:Int):=by omega
    have fK:L.length≤cap:=by
     rcases HR.u.2 with⟨hv,_⟩|⟨g,c,Es,hv,_,_,h1,_⟩;·cases hv
     ·injection hv with _ _ h3;omega
    go_wp2_with (refine YO rfl _ 29 3 rfl (.int .i64 0) underlying29 HZ.u rfl rfl X i (L.length-i) (cap-i) rfl wI.u ?_);go_ret;refine⟨some ⟨X,0,none⟩,cap,by rw [AX.u];rfl,?_,RG.u⟩;have h9:=RO.u;rw [jcz,HF.u]at h9;rw [AX.u];exact h9
   obtain⟨dk,Ms,dkj⟩:=Go.yD ns
   have Py:(i:Int)<(L.length:Int):=by omega
   have iF:wr.cell? ⟨X,j,none⟩=some (.int .i64 L[j]):=by
    have h1:=HR.u.cells (g:=X) rfl j (.int .i64 L[j]) (by simp [xq];exact HD.u.get ns);rw [Qf]at h1;exact h1
   have QC:=jA (QF.u wr HG.u L[j] (jb ns));have pz:=jA (fun h=>HD.u.skip ns h);have Bz:=jA (fun h=>HD.u.keep ns h);generalize L[j]=x at*;cases hb:p x with
   |
    true=>
    have HS:=jA (pz.u hb);rw [hb]at QC;clear hb pz Bz;go_wp2_with (with_reducible refine(QC.u).mono ?_;rintro e w2 ⟨rfl,b2⟩);go_roundw;case rel=>exact⟨i,j+1,R,rfl,by go_num,HS.u,HR.u.kept (row:=none) (yt b2 none) (by cases Value.ownBlock _<;>simp),JX HG.u (yt b2 _)⟩
    case measure=>simp [intOf];omega
   |
    false=>
    have HS:=jA (Bz.u hb);rw [hb]at QC;clear hb pz Bz;go_upto_region 9 with(with_reducible refine(QC.u).mono ?_;rintro e w2 ⟨rfl,b2⟩);have IC:=jA (HR.u.kept (row:=none) (yt b2 none) (by cases Value.ownBlock _<;>simp));have uX:=jA (JX HG.u (yt b2 _));have FE:=IC.u.cells (g:=X) rfl i;have su: ∃u,w2.cell? ⟨X,i,none⟩=some u:=by
     have h1:=(Vd IC.u i 1 (by omega)) 0 (by omega);exact Option.isSome_iff_exists.1 h1.1
    have nM:w2.frozen? ⟨X,i,none⟩=false:=((Vd IC.u i 1 (by omega)) 0 (by omega)).2;obtain⟨u0,su⟩:=su;clear b2 FE HR HG QC iF;have SR:=jA (World.ownsRow.stored IC.u i (.int .i64 x));go_wp2_with fail;go_roundw;case rel=>
     refine⟨i+1,j+1,R.set i x,by go_num,by go_num,HS.u,?_,JX uX.u (xk ⟨rfl,rfl,rfl,by simp [World.setCell],fun k hk=>qf _ _ k _ hk⟩)⟩;have h9:=SR.u.1;rw [jee]at h9;exact h9
    case measure=>simp [intOf];omega
structure jhx(L:C0)(m:Int):Prop where
 mem:m∈L
 le: ∀x∈L,x≤m
theorem jhx.snoc {L:C0}{m:Int}(h:jhx L m)(x:Int):jhx (L++ [x]) (if m<x then x else m):=by
 refine⟨?_,fun y hy=>?_⟩
 ·by_cases hx:m<x;·rw [jP hx];simp
  ·rw [jQ hx];exact List.mem_append_left _ h.mem
 ·rcases jj.1 hy with h1|h1;·have:=h.le y h1;split<;>omega
  ·obtain rfl:y=x:=by simpa using h1
   split<;>omega
theorem jnW(oa:s0)(L:C0)(cap:Nat)(w:m0)(h:yW w oa L)(h0:0<L.length)(hl:L.length<9223372036854775807):
 Calls prog 70 #[.slice oa L.length cap] w fun e w'=>(∃m,e=.returned (.int .i64 m)∧jhx L m)∧w=w':=by
 obtain⟨a,rfl,eu,Ft⟩:=h.cells 0 h0;have H:=jA h;have d0:decide ((L.length:Int)<1)=false:=jS (by omega);have d1:decide (L.length<1)=false:=jS (by omega);have hz:(0:Int)<(L.length:Int):=by omega
 have Bu:w.cell? a=some (.int .i64 L[0]):=by have:=Ft;rwa [show a.add 0=a from by simp [Addr.add]]at this
 clear h;have HS:=jA (show jhx (L.take 1) L[0]from⟨by rw [jh h0];simp,fun x hx=>by rw [jh h0]at hx;simp at hx;omega⟩);generalize L[0]=x0 at*;go_enter Tryz.func70,Tryz.ntmps70;go_wp2_with fail;clear Ft Bu d0 d1 hz
 go_loop [3,4] (fun v i=> ∃(k:Nat) (m:Int),1≤k∧k≤L.length∧i=.int .i64 k∧v=.int .i64 m∧jhx (L.take k) m) (fun _ i=>L.length-(intOf i).toNat)
 case atStart=>exact⟨1,x0,by omega,by omega,rfl,rfl,HS.u⟩
 case round=>
 obtain⟨k,m,fZ,hk,rfl,rfl,hm⟩:=hrel;have HM:=jA hm;clear hm;by_cases ns:k<L.length
 ·obtain⟨dk,Ms,nu⟩:=Go.yD ns
  obtain⟨b,Us,hab2,Bu⟩:=H.u.cells k ns;obtain rfl:a=b:=by injection Us
  have HN:=jA (show jhx (L.take (k+1)) (if m<L[k]then L[k]else m)by rw [jh ns];exact HM.u.snoc _);generalize L[k]=y at*;go_wp2_with fail
  go_round
  case rel=>exact⟨k+1,if m<y then y else m,by omega,by omega,by go_num,rfl,HN.u⟩
  case measure=>simp [intOf];omega
 ·obtain⟨dk,Ms⟩:=Go.yg ns;obtain rfl:k=L.length:=by omega
  rw [jr]at HM;go_wp2_with fail;go_ret;exact⟨⟨m,rfl,HM.u⟩,rfl⟩
def zV(rl:Int):Bool:=decide (rl=3∨rl=4)
theorem jdI(c:yH)(oa:s0)(cap:Nat)(w:m0):Calls prog 169 #[.agg #[.string ⟨c.nm.toArray⟩,.slice oa c.op.length cap,.int .i64 c.rl,.int .i64 c.se,.int .i64 c.mo,.int .i64 0]] w fun e w'=>e=.returned (.bool (zV c.rl))∧O0 w.heap.size w w':=by
 have HR:=jA (show zV c.rl=decide (c.rl=3∨c.rl=4)from rfl);by_cases h3:c.rl=3
 ·have e3:(c.rl==3)=true:=by rw [h3];rfl
  have HE:=jA (HR.u.trans (jT (.inl h3)));clear h3;go_enter Tryz.func169,Tryz.ntmps169;go_wp2_with fail;go_ret;exact⟨by rw [HE.u];rfl,(jN _ _).alloc (jO _) _⟩
 ·have e3:(c.rl==3)=false:=by rw [jt];exact h3
  by_cases h4:c.rl=4
  ·have e4:(c.rl==4)=true:=by rw [h4];rfl
   have HE:=jA (HR.u.trans (jT (.inr h4)));clear h3 h4;go_enter Tryz.func169,Tryz.ntmps169;go_wp2_with fail;go_ret;exact⟨by rw [HE.u];rfl,(jN _ _).alloc (jO _) _⟩
  ·have e4:(c.rl==4)=false:=by rw [jt];exact h4
   have HE:=jA (HR.u.trans (jS (fun h=>h.elim h3 h4)));clear h3 h4;go_enter Tryz.func169,Tryz.ntmps169;go_wp2_with fail;go_ret;exact⟨by rw [HE.u];rfl,(jN _ _).alloc (jO _) _⟩
theorem xi{ops:Array Oper}{rest:List Oper}{o:Oper}{Q:Exit→Act→m0→Prop}(hw:Region.wanted o (yielded ops a.tmps)=true)(ty:o0)(x:Operand)(ho:o.op=.load ty x)(b:Nat)(cs:t0)(t:o0)(fr:Nat×Nat)(d:TypeDesc)
 (hx:a.eval x=.pointer (some ⟨b,0,none⟩)) (hb:w.heap[b]?=some (.cells cs t fr)) (hu:P.underlying ty=some d) (hd:(match d with| .struct _=>true| .array _ _=>true|_=>false)=true)
 (hi:(P.info? ty).map (·.size)=some cs.size) (h:wpList P ops Q rest (a.put o.dst (.agg cs)) w):wpList P ops Q (o::rest) a w:=
 wpList_step fun K hK=>by
  rw [jP hw];have hr:=run_loadVar_row (P:=P) w b t ty cs fr d hb hu (by cases d<;>first|rfl|exact hd) hi;unfold Oper.wp execOp;simp only [ho,hx,Instr.loadAt,Instr.sureAddr,kU,Sem.run_pure,qQ,hr];exact hK _ _ h
theorem yE(ty:o0){ops:Array Oper}{rest:List Oper}{rV:Option Tmp}{x:Operand}{t:o0}{pos:String}{af:Array Edge}{g:Option (Nat×Bool)}{Q:Exit→Act→m0→Prop}(h:wpList P ops Q (⟨rV,.load ty x,t,pos,af,g⟩::rest) a w):wpList P ops Q (⟨rV,.load ty x,t,pos,af,g⟩::rest) a w:=h
def Xx(c:yH):Int:=if zV c.rl=true then(c.op.length:Int)else 1
theorem yr:(prog.info? 161).map (·.size)=some 6:=by kernel_rfl
theorem jas(c:yH)(oa:s0)(cap:Nat)(w:m0):Calls prog 87 #[.agg #[.string ⟨c.nm.toArray⟩,.slice oa c.op.length cap,.int .i64 c.rl,.int .i64 c.se,.int .i64 c.mo]] w fun e w'=>e=.returned (.bool (zV c.rl))∧O0 w.heap.size w w':=by
 have HR:=jA (show zV c.rl=decide (c.rl=3∨c.rl=4)from rfl);by_cases h3:c.rl=3
 ·have e3:(c.rl==3)=true:=by rw [h3];rfl
  have HE:=jA (HR.u.trans (jT (.inl h3)));clear h3;go_enter Tryz.func87,Tryz.ntmps87;go_wp2_with fail;go_ret;exact⟨by rw [HE.u];rfl,(jN _ _).alloc (jO _) _⟩
 ·have e3:(c.rl==3)=false:=by rw [jt];exact h3
  by_cases h4:c.rl=4
  ·have e4:(c.rl==4)=true:=by rw [h4];rfl
   have HE:=jA (HR.u.trans (jT (.inr h4)));clear h3 h4;go_enter Tryz.func87,Tryz.ntmps87;go_wp2_with fail;go_ret;exact⟨by rw [HE.u];rfl,(jN _ _).alloc (jO _) _⟩
  ·have e4:(c.rl==4)=false:=by rw [jt];exact h4
   have HE:=jA (HR.u.trans (jS (fun h=>h.elim h3 h4)));clear h3 h4;go_enter Tryz.func87,Tryz.ntmps87;go_wp2_with fail;go_ret;exact⟨by rw [HE.u];rfl,(jN _ _).alloc (jO _) _⟩
theorem jnt(c:yH)(oa:s0)(cap:Nat)(w:m0):Calls prog 168 #[.agg #[.string ⟨c.nm.toArray⟩,.slice oa c.op.length cap,.int .i64 c.rl,.int .i64 c.se,.int .i64 c.mo,.int .i64 0]] w fun e w'=>e=.returned (.int .i64 (Xx c))∧O0 w.heap.size w w':=by
 have Q:=jA (fun w=>jdI c oa cap w);cases hr:zV c.rl with
 |
  true=>
  have HT:=jA (show Xx c=(c.op.length:Int)from jP hr);rw [hr]at Q;clear hr;go_enter Tryz.func168,Tryz.ntmps168;go_upto_region 1 with(fail);generalize hB:w.heap.size=B at*;refine Go.bxE hB ?_;intro w1 ts;have HB:=jA hB;have B1:=jA ts.1;have X1:=jA ts.2;have mt:B<w1.heap.size:=xZ ts.2;clear hB ts;go_wp2_with (first|(refine xy rfl 161 _ rfl B _ _ _ _ rfl X1.u underlying161 rfl yr ?_)|(go_at_call 169;refine(Q.u w1).mono ?_;rintro e w2 ⟨rfl,b2⟩;have k1:w2.cell? ⟨B,1,none⟩=some (.slice oa c.op.length cap):=jM w2 B 1 _ _ _ (xe b2 mt X1.u)));go_ret;exact⟨by rw [HT.u];rfl,by rw [HB.u];exact B1.u.trans (b2.mono (jX mt))⟩
 |
  false=>
  have HT:=jA (show Xx c=1 from jQ (by rw [hr];decide));rw [hr]at Q;clear hr;go_enter Tryz.func168,Tryz.ntmps168;go_upto_region 1 with(fail);generalize hB:w.heap.size=B at*;refine Go.bxE hB ?_;intro w1 ts;have HB:=jA hB;have B1:=jA ts.1;have X1:=jA ts.2;have mt:B<w1.heap.size:=xZ ts.2;clear hB ts;go_wp2_with (first|(refine xy rfl 161 _ rfl B _ _ _ _ rfl X1.u underlying161 rfl yr ?_)|(go_at_call 169;refine(Q.u w1).mono ?_;rintro e w2 ⟨rfl,b2⟩;have k1:w2.cell? ⟨B,1,none⟩=some (.slice oa c.op.length cap):=jM w2 B 1 _ _ _ (xe b2 mt X1.u)));go_ret;exact⟨by rw [HT.u];rfl,by rw [HB.u];exact B1.u.trans (b2.mono (jX mt))⟩
theorem jhP(c:yH)(oa:s0)(cap:Nat)(w:m0):Calls prog 85 #[.agg #[.string ⟨c.nm.toArray⟩,.slice oa c.op.length cap,.int .i64 c.rl,.int .i64 c.se,.int .i64 c.mo]] w fun e w'=>e=.returned (.int .i64 (Xx c))∧O0 w.heap.size w w':=by
 have Q:=jA (fun w=>jas c oa cap w);cases hr:zV c.rl with
 |
  true=>
  have HT:=jA (show Xx c=(c.op.length:Int)from jP hr);rw [hr]at Q;clear hr;go_enter Tryz.func85,Tryz.ntmps85;go_upto_region 1 with(fail);generalize hB:w.heap.size=B at*;refine Go.bxE hB ?_;intro w1 ts;have HB:=jA hB;have B1:=jA ts.1;have X1:=jA ts.2;have mt:B<w1.heap.size:=xZ ts.2;clear hB ts;go_wp2_with (first|(refine xy rfl 24 _ rfl B _ _ _ _ rfl X1.u underlying24 rfl xt ?_)|(go_at_call 87;refine(Q.u w1).mono ?_;rintro e w2 ⟨rfl,b2⟩;have k1:w2.cell? ⟨B,1,none⟩=some (.slice oa c.op.length cap):=jM w2 B 1 _ _ _ (xe b2 mt X1.u)));go_ret;exact⟨by rw [HT.u];rfl,by rw [HB.u];exact B1.u.trans (b2.mono (jX mt))⟩
 |
  false=>
  have HT:=jA (show Xx c=1 from jQ (by rw [hr];decide));rw [hr]at Q;clear hr;go_enter Tryz.func85,Tryz.ntmps85;go_upto_region 1 with(fail);generalize hB:w.heap.size=B at*;refine Go.bxE hB ?_;intro w1 ts;have HB:=jA hB;have B1:=jA ts.1;have X1:=jA ts.2;have mt:B<w1.heap.size:=xZ ts.2;clear hB ts;go_wp2_with (first|(refine xy rfl 24 _ rfl B _ _ _ _ rfl X1.u underlying24 rfl xt ?_)|(go_at_call 87;refine(Q.u w1).mono ?_;rintro e w2 ⟨rfl,b2⟩;have k1:w2.cell? ⟨B,1,none⟩=some (.slice oa c.op.length cap):=jM w2 B 1 _ _ _ (xe b2 mt X1.u)));go_ret;exact⟨by rw [HT.u];rfl,by rw [HB.u];exact B1.u.trans (b2.mono (jX mt))⟩
def Qa(L:C0)(n:Int):Nat:=(L.filter fun x=>x==n).length
theorem jlg(L:C0)(x n:Int):Qa (L++ [x]) n=Qa L n+if x=n then 1 else 0:=by
 unfold Qa;rw [qY,jZ];by_cases h:x=n<;>simp [h]
theorem jjz(oa:s0)(L:C0)(cap:Nat)(n:Int)(w:m0)(h:yW w oa L)(hl:L.length<9223372036854775807):
 Calls prog 86 #[.slice oa L.length cap,.int .i64 n] w fun e w'=>e=.returned (.int .i64 (Qa L n))∧w=w':=by
 have H:=jA h;clear h;go_enter Tryz.func86,Tryz.ntmps86;go_wp2_with fail
 go_loop [10,5] (fun i v=> ∃k m:Nat,k≤L.length∧m≤k∧i=.int .i64 k∧v=.int .i64 m∧m=Qa (L.take k) n) (fun i _=>L.length-(intOf i).toNat)
 case atStart=>exact⟨0,0,by omega,by omega,rfl,rfl,rfl⟩
 case round=>
 obtain⟨k,m,hk,hmk,rfl,rfl,hm⟩:=hrel;have HM:=jA hm;clear hm;by_cases ns:k<L.length
 ·obtain⟨dk,Ms,nu⟩:=Go.yD ns
  obtain⟨b,Us,hab2,Bu⟩:=H.u.cells k ns;subst Us;have HN:=jA (show Qa (L.take (k+1)) n=m+if L[k]=n then 1 else 0 by rw [jh ns,jlg,←HM.u]);generalize L[k]=y at*;by_cases he:y=n
  ·have d1:(y==n)=true:=by rw [qH];exact he
   have LF:=jA (show m+1=Qa (L.take (k+1)) n by rw [HN.u,jP he]);clear he HN;go_wp2_with fail
   go_round
   case rel=>exact⟨k+1,m+1,by omega,by omega,by go_num,by go_num,LF.u⟩
   case measure=>simp [intOf];omega
  ·have d1:(y==n)=false:=by rw [jt];exact he
   have LF:=jA (show m=Qa (L.take (k+1)) n by rw [HN.u,jQ he];rfl);clear he HN;go_wp2_with fail
   go_round
   case rel=>exact⟨k+1,m,by omega,by omega,by go_num,rfl,LF.u⟩
   case measure=>simp [intOf];omega
 ·obtain⟨dk,Ms⟩:=Go.yg ns;have HE:=jA (show m=Qa L n by rw [HM.u,je (by omega)]);go_wp2_with fail;go_ret;exact⟨by rw [←HE.u];rfl,rfl⟩
end Go.Proofs.YtnohcdpnnhmpfaaGreatDoor
