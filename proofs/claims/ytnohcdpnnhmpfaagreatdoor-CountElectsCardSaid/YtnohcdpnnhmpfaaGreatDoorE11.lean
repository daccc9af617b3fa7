/- Chapter 13: BQ lots are compared; the stable sort of twelve options, or fewer. -/
import Derived.Test.YtnohcdpnnhmpfaaGreatDoorE08
import Derived.Test.YtnohcdpnnhmpfaaGreatDoorE10
set_option linter.all false
set_option maxRecDepth 100000
set_option maxHeartbeats 1000000
namespace Go.Proofs.YtnohcdpnnhmpfaaGreatDoor
open Go.RowKit Tryz ML FM AU CT
theorem jhd(i j:Nat)(Ls:List Bytes)(p:Nat)(oa:s0)(cap:Nat)(w:m0)(hp:w.heap[p]?=some (.cells #[.slice oa Ls.length cap] 22 (0,0)))(hs:zg w oa Ls)(hi:i<Ls.length)(hj:j<Ls.length)(hl:Ls.length<9223372036854775808):
 Calls prog 67 #[.int .i64 i,.int .i64 j,.pointer (some ⟨p,0,none⟩)] w fun e w'=>e=.returned (.int .i64 (jfK Ls[i] Ls[j]))∧O0 w.heap.size w w':=by
 obtain⟨q,Us,Wy,hq⟩:=hs.cells i hi;obtain⟨q2,hoa2,hqb2,TY⟩:=hs.cells j hj;subst Us;obtain rfl:q=q2:=by injection hoa2
 have c1:w.cell? ⟨p,0,none⟩=some (.slice (some q) Ls.length cap):=jM w p 0 _ _ _ hp;have Q:=jA (fun w=>jmW Ls[i] Ls[j] w);have z1:(i:Int)<(Ls.length:Int):=by omega
 have z2:(j:Int)<(Ls.length:Int):=by omega
 clear hs hp hoa2 Wy hqb2;generalize Ls[i]=x at*;generalize Ls[j]=y at*;generalize Ls.length=n at*;go_enter Tryz.func67,Tryz.ntmps67;go_wp2_with fail;refine Seg.xf (fun w'=> ∃m,w'=w.drewN m) [] [0,1,2,3,4,5,6,7] 8 (by kernel_rfl) (by kernel_rfl) (fun _ _ d _ _ h=>by cases d<;>exact h) (⟨1,rfl⟩) ?_;simp only [jK,Seg.opAt,Seg.xu];repeat (any_goals (first|go_big_quiet_step (fail)|quiet_step (fail)))
 refine jR ?_;go_wp2_with (go_at_call 68;refine(Q.u _).mono ?_;rintro e w1 ⟨rfl,rfl⟩);go_ret;exact⟨rfl,(jN _ _).drew⟩
theorem jhG(c:Int→Int→Int)(le:Int→Int→Prop)(tr: ∀a b c,le a b→le b c→le a c)(D:C0)(X cap base:Nat)(p:Nat)(w:m0)
 (HC: ∀(x y:Int) (w':m0),x∈D→y∈D→Kept X w w'→Calls prog 67 #[.int .i64 x,.int .i64 y,.pointer (some ⟨p,0,none⟩)] w' fun e Fu=>e=.returned (.int .i64 (c x y))∧O0 w'.heap.size w' Fu)
 (hc:D.Pairwise fun y x=>(c x y<0→le x y)∧(0≤c x y→le y x)) (hl:D.length≤12) (hD:w.ownsRow base 3 1 (.slice (some ⟨X,0,none⟩) D.length cap) D.length (xq D)):
 Calls prog 114 #[.slice (some ⟨X,0,none⟩) D.length cap,.int .i64 D.length,.func (.func 67) #[] #[.pointer (some ⟨p,0,none⟩)]] w fun e w'=>e=.returned (.tuple #[])∧Vh le D X cap base 3 w w':=by
 have Q:=jA (jfB c le tr D X cap base p w HC hc (by omega) hD);have d1:decide ((20:Int)≤(D.length:Int))=false:=jS (by omega);have d2:decide (20≤D.length)=false:=jS (by omega);have d3:decide ((20:Int)<(D.length:Int))=false:=jS (by omega);have d4:decide (20<D.length)=false:=jS (by omega);clear tr HC hc hD;generalize D.length=n at*;go_enter Tryz.func114,Tryz.ntmps114;go_wp2_with fail
 go_loop [7,8] (fun a b=>a=.int .i64 0∧b=.int .i64 20) (fun _ _=>0)
 case atStart=>exact⟨rfl,rfl⟩
 case round=>
 obtain⟨rfl,rfl⟩:=hrel;go_wp2_with (go_at_call 166;refine Q.u.mono ?_;rintro e w1 ⟨rfl,hs⟩;have HS:=jA hs;clear hs)
 go_loop [6] (fun a=>a=.int .i64 20) (fun _=>0)
 case atStart=>rfl
 case round=>
 subst hrel;go_wp2_with fail
 go_end0
 exact⟨rfl,HS.u⟩
theorem jcg(c:Int→Int→Int)(le:Int→Int→Prop)(tr: ∀a b c,le a b→le b c→le a c)(D:C0)(X cap base:Nat)(p:Nat)(w:m0)
 (HC: ∀(x y:Int) (w':m0),x∈D→y∈D→Kept X w w'→Calls prog 67 #[.int .i64 x,.int .i64 y,.pointer (some ⟨p,0,none⟩)] w' fun e Fu=>e=.returned (.int .i64 (c x y))∧O0 w'.heap.size w' Fu)
 (hc:D.Pairwise fun y x=>(c x y<0→le x y)∧(0≤c x y→le y x)) (hl:D.length≤12) (hD:w.ownsRow base 3 1 (.slice (some ⟨X,0,none⟩) D.length cap) D.length (xq D)):
 Calls prog 66 #[.slice (some ⟨X,0,none⟩) D.length cap,.func (.func 67) #[] #[.pointer (some ⟨p,0,none⟩)]] w fun e w'=>e=.returned (.tuple #[])∧Vh le D X cap base 3 w w':=by
 have Q:=jA (jhG c le tr D X cap base p w HC hc hl hD);clear tr HC hc hD;generalize D.length=n at*;go_enter Tryz.func66,Tryz.ntmps66;go_wp2_with (go_at_call 114;refine Q.u.mono ?_;rintro e w1 ⟨rfl,hs⟩;have HS:=jA hs;clear hs)
 go_end0
 exact⟨rfl,HS.u⟩
end Go.Proofs.YtnohcdpnnhmpfaaGreatDoor
namespace Go
namespace Seg
section
variable {P:Program} {ops:Array Oper} {Q:Exit→Act→m0→Prop} {md:Region.Mode} {S:m0→Prop}
inductive jcZ where
 |last (q:E0)
 |quiet (q:E0) (p:jcZ)
 |one (j:Nat) (p:jcZ)
 |alt (j:Nat) (p:jcZ) (r:jcZ)
def jcZ.isAlt:jcZ→Bool
 | .one _ _=>true
 | .alt _ _ _=>true
 |_=>false
def Xh(md:Region.Mode)(ops:Array Oper)(n:Nat):jcZ→Nat→Array Bool→E0→Bool
 | .last q,f,l,iD=>iD.isEmpty&&decide (f=q.length)&&(match jgg md ops n q l with|some l'=>Region.seqB md ops (ops.size-n) n l'|none=>false)
 | .quiet q p,f,l,iD=>iD.isEmpty&&decide (q.length≤f)&&(match jgg md ops n q l with|some l'=>Xh md ops n p (f-q.length) l' []|none=>false)
 | .one j p,f,l,iD=>decide (0<f)&&(Region.ready md ops l).contains j&&(Region.ready md ops l).all (fun i=>i==j||iD.contains i)&&decide (j<n)&&Xh md ops n p (f-1) (l.setIfInBounds j true) []
 | .alt j p r,f,l,iD=>decide (0<f)&&(Region.ready md ops l).contains j&&decide (j<n)&&Xh md ops n p (f-1) (l.setIfInBounds j true) []&&r.isAlt&&Xh md ops n r f l (j::iD)
def jot(ops:Array Oper)(n:Nat)(p:jcZ):Bool:=
 Region.noSelect ops&&decide (n≤ops.size)&&(decide (n=ops.size)||(Region.sinkB .any ops n&&Region.chainB .any ops n))&&
 Xh .any ops n p n (Array.replicate ops.size false) []
def JB(P:Program)(ops:Array Oper)(Q:Exit→Act→m0→Prop)(S:m0→Prop)(o:Oper)(N:Act→m0→Prop)(a:Act)(w:m0):Prop:=
 ∀K:Act→m0→Prop,(∀lD Fu,S Fu→N lD Fu→K lD Fu)→if Region.wanted o (yielded ops a.tmps)then o.wp P a w K Q else K (a.put o.dst undef) w
def yS(P:Program)(ops:Array Oper)(Q:Exit→Act→m0→Prop)(S:m0→Prop)(tail:List Oper):jcZ→Act→m0→Prop
 | .last q,a,w=>wpQuiet P ops S (fun a'=>wpList P ops Q tail a' w) (q.map (opAt ops)) a
 | .quiet q p,a,w=>wpQuiet P ops S (fun a'=>yS P ops Q S tail p a' w) (q.map (opAt ops)) a
 | .one j p,a,w=>JB P ops Q S (opAt ops j) (yS P ops Q S tail p) a w
 | .alt j p r,a,w=>JB P ops Q S (opAt ops j) (yS P ops Q S tail p) a w∧yS P ops Q S tail r a w
theorem Zl {j:Nat}{N:Act→m0→Prop}{a:Act}{w:m0}{G:Act→m0→Prop}(h0:ops[j]?=some (opAt ops j))(hG: ∀lD Fu,S Fu→N lD Fu→G lD Fu)(h:JB P ops Q S (opAt ops j) N a w):wpOp P ops Q j G a w:=by
 unfold wpOp;simp only [h0];have h':=h G hG;split;·rename_i hw;rw [jP hw]at h';exact .inl h'
 ·rename_i hw;rw [jQ hw]at h';exact h'
theorem jlI {n:Nat}{tail:List Oper}(nw:Region.noSelect ops=true)
 (hQ: ∀i c (a:Act) v w,Q (.panic c) (a.put (opAt ops i).dst v) w→Q (.panic c) a w) (ix:jcV md ops n):
 ∀(p:jcZ) (f:Nat) (ls:Array Bool) (iD:E0) (a:Act) (w:m0),HeadInv md ops n ls→Xh md ops n p f ls iD=true→S w→yS P ops Q S tail p a w→
  (iD= []→Zx P md ops Q S n (fun Ss a' w'=>Region.seqB md ops (ops.size-n) n Ss=true∧wpList P ops Q tail a' w') f ls a w)∧
  (p.isAlt=true→ ∃f',f=f'+1∧Region.ready md ops ls≠ []∧ ∀i∈Region.ready md ops ls,i∉iD→i<n∧
   wpOp P ops Q i (fun a' w'=>S w'∧Zx P md ops Q S n (fun Ss a' w'=>Region.seqB md ops (ops.size-n) n Ss=true∧wpList P ops Q tail a' w') f' (ls.setIfInBounds i true) a' w') a w):=by
 intro p
 induction p with
 |
  last q=>
  intro f ls iD a w inv gu hS h;refine⟨fun dK=>?_,fun hx=>by cases hx⟩;simp only [Xh,jy,kK]at gu;obtain⟨⟨_,hf⟩,gu⟩:=gu;subst hf;split at gu
  ·rename_i l' hr;have:=jan (E:=fun Ss a' w'=>Region.seqB md ops (ops.size-n) n Ss=true∧wpList P ops Q tail a' w') (f:=0) nw hQ ix
    (fun ls a w hE=>seqB_ready hE.1) hS q ls a inv hr (fun a' _ hL=>⟨gu,hL⟩) h
   simpa using this
  ·cases gu
 |
  quiet q p ih=>
  intro f ls iD a w inv gu hS h;refine⟨fun dK=>?_,fun hx=>by cases hx⟩;simp only [Xh,jy,kK]at gu;obtain⟨⟨_,hf⟩,gu⟩:=gu;split at gu
  ·rename_i l' hr;have:=jan (E:=fun Ss a' w'=>Region.seqB md ops (ops.size-n) n Ss=true∧wpList P ops Q tail a' w') (f:=f-q.length) nw hQ ix
    (fun ls a w hE=>seqB_ready hE.1) hS q ls a inv hr (fun a' LS hL=>(ih (f-q.length) l' [] a' w LS gu hS hL).1 rfl) h
   rwa [show q.length+(f-q.length)=f by omega]at this
  ·cases gu
 |
  one j p ih=>
  intro f ls iD a w inv gu hS h;simp only [Xh,jy,kK]at gu;obtain⟨⟨⟨⟨hf,CE⟩,hall⟩,hj⟩,gu⟩:=gu;have Lx:j∈Region.ready md ops ls:=by simpa using CE
  have Rv: ∃f',f=f'+1∧Region.ready md ops ls≠ []∧ ∀i∈Region.ready md ops ls,i∉iD→i<n∧
   wpOp P ops Q i (fun a' w'=>S w'∧Zx P md ops Q S n (fun Ss a' w'=>Region.seqB md ops (ops.size-n) n Ss=true∧wpList P ops Q tail a' w') f' (ls.setIfInBounds i true) a' w') a w:=by
   refine⟨f-1,by omega,(fun h0=>by rw [h0]at Lx;cases Lx),fun i hi UT=>?_⟩;have pt:i=j:=by
    have:=kw.1 hall i hi;simp only [qo,qH,List.contains_iff_mem]at this;rcases this with h1|h1;·exact h1
    ·exact absurd h1 UT
   subst pt;exact⟨hj,Zl (zl Lx) (fun lD Fu OD hN=>⟨OD,(ih (f-1) _ [] lD Fu (inv.set Lx hj) gu OD hN).1 rfl⟩) h⟩
  refine⟨fun dK=>?_,fun _=>Rv⟩;obtain⟨f',rfl,Cs,hk⟩:=Rv;refine⟨Cs,fun i hi=>?_⟩;exact hk i hi (by rw [dK];simp)
 |
  alt j p r ihp ihr=>
  intro f ls iD a w inv gu hS h;simp only [Xh,jy,kK]at gu;obtain⟨⟨⟨⟨⟨hf,CE⟩,hj⟩,hokp⟩,halt⟩,hokr⟩:=gu;have Lx:j∈Region.ready md ops ls:=by simpa using CE
  have Rv: ∃f',f=f'+1∧Region.ready md ops ls≠ []∧ ∀i∈Region.ready md ops ls,i∉iD→i<n∧
   wpOp P ops Q i (fun a' w'=>S w'∧Zx P md ops Q S n (fun Ss a' w'=>Region.seqB md ops (ops.size-n) n Ss=true∧wpList P ops Q tail a' w') f' (ls.setIfInBounds i true) a' w') a w:=by
   obtain⟨f',hf',Cs,hk⟩:=(ihr f ls (j::iD) a w inv hokr hS h.2).2 halt;subst hf';refine⟨f',rfl,Cs,fun i hi UT=>?_⟩;by_cases pt:i=j
   ·subst pt;exact⟨hj,Zl (zl Lx) (fun lD Fu OD hN=>⟨OD,(ihp f' _ [] lD Fu (inv.set Lx hj) (by simpa using hokp) OD hN).1 rfl⟩) h.1⟩
   ·exact hk i hi (by simp only [jl,not_or];exact⟨pt,UT⟩)
  refine⟨fun dK=>?_,fun _=>Rv⟩;obtain⟨f',rfl,Cs,hk⟩:=Rv;refine⟨Cs,fun i hi=>?_⟩;exact hk i hi (by rw [dK];simp)
theorem Ym {id:Nat}{a:Act}{w:m0}{l:List Oper}(S:m0→Prop)(p:jcZ)(n:Nat)
 (hm:P.follows .mixedOrders=true) (hB:jot l.toArray n p=true)
 (hQ: ∀c (a:Act) d v w,Q (.panic c) (a.put d v) w→Q (.panic c) a w) (hS:S w.drew)
 (h:yS P l.toArray Q S (l.drop n) p a w.drew):
 (Code.region id l.toArray true).wp P Q a w:=by
 simp only [jot,jy,qo,kK]at hB;obtain⟨⟨⟨nw,hn⟩,hw⟩,gu⟩:=hB;have hn':n≤l.length:=by simpa using hn
 have ix:jcV .any l.toArray n:=fun ns=>by
  rcases hw with hw|hw;·omega
  ·exact hw
 have IS:HeadInv .any l.toArray n (Array.replicate l.toArray.size false):=
  ⟨by simp,fun j oj _ hl=>(by rw [getD_replicate_false]at hl;cases hl),fun t _ ht=>getD_in (by simpa using ht) (getD_replicate_false _ _)⟩
 have H:=(jlI (tail:=l.drop n) (md:=.any) nw (fun i c a v w=>hQ c a _ v w) ix p n _ [] a _ IS gu hS h).1 rfl;refine wp_region_any hm ?_;have Tw:(l.drop n).length=l.toArray.size-n:=by simp
 have:=Qh (Q:=Q) (g:=l.toArray.size-n) (fun ls a' w' hE=>by
  have:=wpAny_of_seq (md:=.any) (Q':=Q) (l.drop n) n ls a' w' (fun j=>by simp [vF]) (by rw [Tw];exact hE.1) hE.2
  rwa [Tw]at this) _ _ _ _ H
 rw [show n+(l.toArray.size-n)=l.toArray.size by simp;omega]at this;exact this
end
end Seg
end Go
