/- Chapter 13, for Pairs: count.wrong. -/
import Derived.Test.YtnohcdpnnhmpfaaGreatDoorE25
import Derived.Lib.AppendZerosOnto
import Derived.Lib.Walk
import Derived.Shelf.Sort.Plain
set_option linter.all false
set_option maxRecDepth 100000
set_option maxHeartbeats 2000000
namespace Go.Proofs.YtnohcdpnnhmpfaaGreatDoor
open Go.RowKit Tryz ML FM AU CT
variable{w w':m0}
def badR(n:Nat)(p:n0×C0):Bool:=p.2.length !=n
def Za(x:Int):Bool:=decide (x<0)||decide (1099511627776<x)
def jpC(w:m0)(e:Ending)(w':m0):Prop:= ∃v,e=.returned v∧w'.ownsRow w.heap.size 3 1 v 0 []∧O0 w.heap.size w w'
def YK(P:List (n0×C0)):C0:=P.flatMap Prod.snd
theorem jis(P:List (n0×C0))(p:n0×C0):YK (P++ [p])=YK P++p.2:=by simp [YK]
def jpF(P:List (n0×C0))(w:m0)(e:Ending)(w':m0):Prop:= ∃oa cap,e=.returned (.slice oa (YK P).length cap)∧yW w' oa (YK P)∧O0 w.heap.size w w'
def wrE(P:List (n0×C0)):Int:=if P.length<1∨12<P.length∨ ¬XE P.length P then 2 else if(YK P).any Za=true then 4 else 0
theorem joB {P:List (n0×C0)}(h:wrE P=0):XE P.length P∧P.length≤12∧0<P.length∧ ∀i j,i<P.length→j<P.length→0≤mxP P i j∧mxP P i j≤1099511627776:=by
 unfold wrE at h;split at h;·cases h
 ·rename_i h1;have ha:XE P.length P:=Classical.byContradiction fun h3=>h1 (.inr (.inr h3));refine⟨ha,by omega,by omega,fun i j hi hj=>?_⟩;split at h;·cases h
  ·rename_i h2;have hl:=ha P[i] (jb hi);rw [jft P i j hi (by omega)];have hb:Za P[i].2[j]=false:=by
    rw [←Bool.not_eq_true];intro hb;exact h2 (vI.2 ⟨_,qj.2 ⟨P[i],jb hi,jb _⟩,hb⟩)
   unfold Za at hb;rw [Bool.or_eq_false_iff]at hb;have h3:=qr hb.1;have h4:=qr hb.2;omega
def KH(P:List (n0×C0))(w:m0)(e:Ending)(w':m0):Prop:=
 O0 w.heap.size w w'∧if wrE P=0 then ∃F gs W,e=.returned (.tuple #[.slice (some ⟨F,0,none⟩) P.length P.length,.int .i64 0])∧MxO w.heap.size w' F P.length gs W∧JS (Ks (mxP P)) P.length W
 else e=.returned (.tuple #[.slice none 0 0,.int .i64 (wrE P)])
theorem KH.bad {P:List (n0×C0)}(h0:wrE P≠0)(hb:O0 w.heap.size w w'):KH P w (.returned (.tuple #[.slice none 0 0,.int .i64 (wrE P)])) w':=by
 unfold KH;rw [jQ h0];exact⟨hb,rfl⟩
theorem KH.ok {P:List (n0×C0)}(h0:wrE P=0)(hb:O0 w.heap.size w w'){F:Nat}{gs:E0}{W:Mx}(hm:MxO w.heap.size w' F P.length gs W)(hs:JS (Ks (mxP P)) P.length W):KH P w (.returned (.tuple #[.slice (some ⟨F,0,none⟩) P.length P.length,.int .i64 0])) w':=by
 unfold KH;rw [jP h0];exact⟨hb,F,gs,W,rfl,hm,hs⟩
def prK(c:yH)(P:List (n0×C0)):List (n0×C0):=P.filter (zB (c.rule 4))
def Jp(c:yH)(P:List (n0×C0))(w:m0)(e:Ending)(w':m0):Prop:=
 O0 w.heap.size w w'∧if prE c P=0 then ∃oo co Q,e=.returned (.tuple #[.slice oo Q.length co,.int .i64 0])∧Va w' oo Q∧Q.map Prod.snd=(List.range c.op.length).map (KO c.op.length (zv (prK c P)))
 else e=.returned (.tuple #[.slice none 0 0,.int .i64 (prE c P)])
theorem Jp.bad {c:yH}{P:List (n0×C0)}{E:Int}(hE:prE c P=E)(h0:E≠0)(hb:O0 w.heap.size w w'):Jp c P w (.returned (.tuple #[.slice none 0 0,.int .i64 E])) w':=by
 unfold Jp;rw [hE,jQ h0];exact⟨hb,rfl⟩
theorem Jp.ok {c:yH}{P Q:List (n0×C0)}(h0:prE c P=0)(hb:O0 w.heap.size w w'){oo:s0}{co n:Nat}(hn:Q.length=n)(hm:Va w' oo Q)(hs:Q.map Prod.snd=(List.range c.op.length).map (KO c.op.length (zv (prK c P)))):Jp c P w (.returned (.tuple #[.slice oo n co,.int .i64 0])) w':=by
 unfold Jp;rw [jP h0];exact⟨hb,oo,co,Q,by rw [hn],hm,hs⟩
def sortI(L:C0):C0:=L.mergeSort fun x y=>decide (x≤y)
def joU(D:E0):C0:=D.map fun k:Nat=>(k:Int)
def sortN(D:E0):E0:=D.mergeSort fun a b=>decide (a≤b)
def BestV(p:Mx)(n B:Nat)(w:m0)(v:n0)(i:Nat):Prop:=(i=0∧v=.slice none 0 0)∨ ∃D,jpA p n i D∧w.ownsRow B 3 1 v D.length (xq (joU D))
def jpv(P:List (n0×C0))(w:m0)(e:Ending)(w':m0):Prop:=
 O0 w.heap.size w w'∧if wrE P=0 then ∃oo co S,e=.returned (.tuple #[.slice oo (joU S).length co,.int .i64 0])∧yW w' oo (joU S)∧S.Pairwise (· < ·)∧jnp (mxP P) P.length S
 else e=.returned (.tuple #[.slice none 0 0,.int .i64 (wrE P)])
end Go.Proofs.YtnohcdpnnhmpfaaGreatDoor
namespace Go.Proofs.YtnohcdpnnhmpfaaGreatDoor
namespace CT
variable{n:Nat}
theorem JS.trans_gt {e:Mx}{w:Mx}(h:JS e n w){i j k:Nat}(hi:i<n)(hj:j<n)(hk:k<n)(h1:w j i<w i j)(h2:w k j<w j k):w k i<w i k:=by
 have pt:i≠j:=fun e=>by subst e;omega
 have mM:j≠k:=fun e=>by subst e;omega
 have Cy:i≠k:=fun e=>by subst e;omega
 have c:=h.closed;have c1:=c i k j hi hk hj hj Cy;have c2:=c j i k hj hi hk hk (Ne.symm pt);have c3:=c k j i hk hj hi hi (Ne.symm mM);have c4:=c k i j hk hi hj hj (Ne.symm Cy);omega
def Top(n:Nat)(w:Mx)(i:Nat):Prop:=i<n∧ ∀j,j<n→ ¬w i j<w j i
theorem JS.top_ex {e:Mx}{w:Mx}(h:JS e n w)(hn:0<n): ∃i,Top n w i:=by
 have Rv: ∀m,m≤n→0<m→ ∃i,i<m∧ ∀j,j<m→ ¬w i j<w j i:=by
  intro m
  induction m with
  |zero=>intro _ h0;omega
  |
   succ m ih=>
   intro hm _;by_cases h0:m=0
   ·subst h0;exact⟨0,by omega,fun j hj=>by
     obtain rfl:j=0:=by omega
     omega⟩
   ·obtain⟨i,hi,hb⟩:=ih (by omega) (by omega);by_cases NG:w i m<w m i
    ·refine⟨m,by omega,fun j hj ns=>?_⟩;by_cases e:j=m;·subst e;omega
     ·exact hb j (by omega) (h.trans_gt (by omega) (by omega) (by omega) ns NG)
    ·refine⟨i,by omega,fun j hj=>?_⟩;by_cases e:j=m;·subst e;exact NG
     ·exact hb j (by omega)
 obtain⟨i,hi,hb⟩:=Rv n (jO _) hn;exact⟨i,hi,hb⟩
end CT
end Go.Proofs.YtnohcdpnnhmpfaaGreatDoor
namespace Go.Proofs.YtnohcdpnnhmpfaaGreatDoor
open Go.RowKit Tryz ML FM AU CT
variable{O:C0}{i n:Nat}
def Kf(M:Mx)(i:Nat)(j:Int):Bool:=decide (M i j.toNat<M j.toNat i)
theorem jiD(n i j:Nat)(M:Mx)(q:Addr)(cb Pb Ib:Nat)(w:m0)(hM:MxR w (some q) n M)(hn:n≤12)(hi:i<n)(hj:j<n)(hP:w.cell? ⟨Pb,0,none⟩=some (.slice (some q) n cb))(hI:w.cell? ⟨Ib,0,none⟩=some (.int .i64 i)):
 Calls prog 55 #[.int .i64 j,.pointer (some ⟨Pb,0,none⟩),.pointer (some ⟨Ib,0,none⟩)] w fun e w'=>e=.returned (.bool (Kf M i j))∧ ∃m,w'=w.drewN m:=by
 obtain⟨a,ha,_,b,cbi,cD,FE,lG⟩:=hM.cells i hi;obtain rfl:q=a:=by injection ha
 obtain⟨a,ha,_,b',cbj,hbb',nF,bK⟩:=hM.cells j hj;obtain rfl:q=a:=by injection ha
 have kx:=lG j hj;have ky:=bK i hi;have e1:(i:Int)<(n:Int):=by omega
 have e2:(j:Int)<(n:Int):=by omega
 have HA:=jA (show Kf M i (j:Int)=decide (M i j<M j i)from rfl);clear lG bK ha hM;generalize M i j=x at*;generalize M j i=y at*;go_enter Tryz.func55,Tryz.ntmps55;go_wp2_with fail;refine Seg.xf (fun w'=> ∃m,w'=w.drewN m) [] [0,1,2,3,4,5,6,7,8,9,10,11,12,13] 14 (by kernel_rfl) (by kernel_rfl) (fun _ _ d _ _ h=>by cases d<;>exact h) (⟨1,rfl⟩) ?_;simp only [jK,Seg.opAt,Seg.xu];repeat (any_goals (first|go_big_quiet_step (fail)|quiet_step (fail)))
 refine jR ?_;go_wp2_with fail;go_ret;exact⟨by rw [HA.u];rfl,_,rfl⟩
theorem jcC(n i:Nat)(M:Mx)(q:Addr)(cb Pb Ib:Nat)(oa:s0)(L:C0)(cap:Nat)(w:m0)(hL:yW w oa L)(bZ: ∀x∈L,0≤x∧x<n)(hl:L.length≤12)(hM:MxR w (some q) n M)(hn:n≤12)(hi:i<n)(hP:w.cell? ⟨Pb,0,none⟩=some (.slice (some q) n cb))(hI:w.cell? ⟨Ib,0,none⟩=some (.int .i64 i)):
 Calls prog 98 #[.slice oa L.length cap,(.func (.func 55) #[] #[.pointer (some ⟨Pb,0,none⟩),.pointer (some ⟨Ib,0,none⟩)])] w fun e w'=>(∃r:Int,e=.returned (.int .i64 r)∧decide (0≤r)=L.any (Kf M i))∧ ∃m,w'=w.drewN m:=by
 have H:=jA hL;have QB:=jA (fun(j d:Nat) hj=>jiD n i j M q cb Pb Ib (w.drewN d) (hM.below (ML.yl (jN _ _) d)) hn hi hj hP hI);have dX:=jA bZ;clear hL hM hP hI bZ;go_enter Tryz.func98,Tryz.ntmps98;go_upto_region 2 with(fail);go_loopw [8] (fun v wr=> ∃k d:Nat,k≤L.length∧v=.int .i64 k∧(L.take k).any (Kf M i)=false∧wr=w.drewN d) (fun v _=>L.length-(intOf v).toNat);case atStart=>exact⟨0,0,by omega,rfl,rfl,rfl⟩
 case round=>
 obtain⟨k,d,hk,rfl,fu,rfl⟩:=hrel;have HP:=jA fu;clear fu;by_cases ns:k<L.length
 ·obtain⟨dk,Ms,nu⟩:=Go.yD ns
  obtain⟨a,Us,eu,Ft⟩:=H.u.cells k ns;have Hx:=jA (show(L.take (k+1)).any (Kf M i)=Kf M i L[k]by rw [jh ns,List.any_append,HP.u];simp);have lU:=jA (fun(hb:Kf M i L[k]=true)=>(show L.any (Kf M i)=true from vI.2 ⟨L[k],jb ns,hb⟩));have hxb:=dX.u _ (jb ns);subst Us;generalize L[k]=x at*;obtain⟨j,rfl⟩: ∃j:Nat,x=j:=⟨x.toNat,by omega⟩;have QBP:=jA (QB.u j d (by omega));clear hxb;cases hb:Kf M i (j:Int)with
  |
   true=>
   have h2:=jA (lU.u hb);rw [hb]at Hx QBP;clear hb lU;go_wp2_with (first|(go_at_call 55;refine(QBP.u).mono ?_;rintro e w1 ⟨rfl,m,rfl⟩));go_ret;exact⟨⟨_,rfl,by rw [h2.u];exact jT (by omega)⟩,_,rfl⟩
  |
   false=>
   rw [hb]at Hx QBP;clear hb lU;go_wp2_with (first|(go_at_call 55;refine(QBP.u).mono ?_;rintro e w1 ⟨rfl,m,rfl⟩));go_roundw;case rel=>exact⟨k+1,_,by omega,by go_num,Hx.u,rfl⟩
   case measure=>simp [intOf];omega
 ·obtain⟨dk,Ms⟩:=Go.yg ns;obtain rfl:k=L.length:=by omega
  rw [jr]at HP;go_wp2_with fail;go_ret;exact⟨⟨_,rfl,by rw [HP.u];decide⟩,_,rfl⟩
theorem jaD(n i:Nat)(M:Mx)(q:Addr)(cb Pb Ib:Nat)(oa:s0)(L:C0)(cap:Nat)(w:m0)(hL:yW w oa L)(bZ: ∀x∈L,0≤x∧x<n)(hl:L.length≤12)(hM:MxR w (some q) n M)(hn:n≤12)(hi:i<n)(hP:w.cell? ⟨Pb,0,none⟩=some (.slice (some q) n cb))(hI:w.cell? ⟨Ib,0,none⟩=some (.int .i64 i)):
 Calls prog 54 #[.slice oa L.length cap,(.func (.func 55) #[] #[.pointer (some ⟨Pb,0,none⟩),.pointer (some ⟨Ib,0,none⟩)])] w fun e w'=>e=.returned (.bool (L.any (Kf M i)))∧ ∃m,w'=w.drewN m:=by
 have Q:=jA (jcC n i M q cb Pb Ib oa L cap w hL bZ hl hM hn hi hP hI);clear hL bZ hl hM hP hI hn hi;generalize L.any (Kf M i)=b at*;go_enter Tryz.func54,Tryz.ntmps54;go_wp2_with (go_at_call 98;refine Q.u.mono ?_;rintro e w1 ⟨⟨r,rfl,hr⟩,m,rfl⟩);go_ret;exact⟨rfl,_,rfl⟩
def jpz(c:yH)(P:List (n0×C0))(w:m0)(e:Ending)(w':m0):Prop:=
 O0 w.heap.size w w'∧if prE c P=0 then ∃(i:Nat) (W:Mx) (oo:s0) (co:Nat),e=.returned (.tuple #[.slice oo 1 co,.int .i64 0])∧yW w' oo [(i:Int)]∧JS (Ks (zv (prK c P))) c.op.length W∧Top c.op.length W i
 else e=.returned (.tuple #[.slice none 0 0,.int .i64 (prE c P)])
theorem jef {w:m0}{F:Nat}{x:Int}{e:o0}(h:w.heap[F]?=some (.cells #[.int .i64 x] e (0,0))):yW w (some ⟨F,0,none⟩) [x]:=⟨fun i hi=>⟨_,rfl,xZ h,by
 have Cx:i<1:=hi;obtain rfl:i=0:=by omega
 rw [qD];exact jM w F 0 _ _ _ h⟩⟩
theorem jhD{W:Mx}(hi:i<n)(hO: ∀j,j<n→((j:Nat):Int)∈O)(h:O.any (Kf W i)=false):Top n W i:=⟨hi,fun j hj ns=>by
 have h1:O.any (Kf W i)=true:=vI.2 ⟨(j:Int),hO j hj,by unfold Kf;rw [ke];exact jT ns⟩;rw [h]at h1;cases h1⟩
theorem jeF{W:Mx}(hO: ∀x∈O,0≤x∧x<n)(h:Top n W i):O.any (Kf W i)=false:=by
 rw [←Bool.not_eq_true,vI];rintro⟨x,hx,ha⟩;have:=hO x hx;unfold Kf at ha;exact h.2 x.toNat (by omega) (qP ha)
def ZY(c:yH)(lots:Bytes)(w:m0)(e:Ending)(w':m0):Prop:=
 O0 w.heap.size w w'∧if yz c=true then e=.returned (.tuple #[.slice none 0 0,.int .i64 2])
 else ∃O oO cO,Ord c.op.length (Kr c lots) O∧yW w' oO O∧e=.returned (.tuple #[.slice oO O.length cO,.int .i64 0])
end Go.Proofs.YtnohcdpnnhmpfaaGreatDoor
