/-
  Chapter 13: how lots are compared; the stable sort of twelve options, or fewer.
  A region that draws its order, walked by a plan: quiet operations; one of several that may come up next, each with the plan behind it; a forced tail.
  Conditions: the plan is checked by a Bool ('planB'); the class S holds of the world at the start and behind each operation that is not quiet.
-/
import Derived.Test.YtnohcdpnnhmpfaaGreatDoorK09
import Derived.Test.YtnohcdpnnhmpfaaGreatDoorK11
import Derived.Test.YtnohcdpnnhmpfaaGreatDoorK01
set_option linter.unusedVariables false
set_option linter.unusedSimpArgs false
set_option maxRecDepth 100000
set_option maxHeartbeats 1000000
namespace Go.Proofs.YtnohcdpnnhmpfaaGreatDoor
open Go.RowKit ML FM AU CT
theorem drawCmp_any(i j:Nat)(Ls:List Bytes)(p:Nat)(oa:Option Addr)(cap:Nat)(w:World)(hp:w.heap[p]?=some (.cells #[.slice oa Ls.length cap] 22 (0,0)))(hs:StrsAt w oa Ls)(hi:i<Ls.length)(hj:j<Ls.length)(hl:Ls.length<9223372036854775808):
 Calls Tryz.prog 67 #[.int .i64 i,.int .i64 j,.pointer (some ⟨p,0,none⟩)] w fun e w'=>e=.returned (.int .i64 (cmpB Ls[i] Ls[j]))∧Below w.heap.size w w':=by
 obtain⟨q,hoa,hqb,hq⟩:=hs.cells i hi;obtain⟨q2,hoa2,hqb2,hq2⟩:=hs.cells j hj;subst hoa;obtain rfl:q=q2:=by injection hoa2
 have c1:w.cell? ⟨p,0,none⟩=some (.slice (some q) Ls.length cap):=cell_of_row w p 0 _ _ _ hp;have Q:=Lib.hid (fun w=>cmpS_any Ls[i] Ls[j] w);have z1:(i:Int)<(Ls.length:Int):=by omega
 have z2:(j:Int)<(Ls.length:Int):=by omega
 clear hs hp hoa2 hqb hqb2;generalize Ls[i]=x at*;generalize Ls[j]=y at*;generalize Ls.length=n at*;go_enter Tryz.func67,Tryz.ntmps67;go_wp2_with fail;refine Seg.wp_region_segs (fun w'=> ∃m,w'=w.drewN m) [] [0,1,2,3,4,5,6,7] 8 (by kernel_rfl) (by kernel_rfl) (fun _ _ d _ _ h=>by cases d<;>exact h) (⟨1,rfl⟩) ?_;simp only [List.map_cons,List.map_nil,Seg.opAt,List.drop_succ_cons,List.drop_zero,Seg.wpSegs,Array.getD_eq_getD_getElem?,List.getElem?_toArray,List.getElem?_cons_succ,List.getElem?_cons_zero,Option.getD_some];repeat (any_goals (first|go_big_quiet_step (fail)|quiet_step (fail)))
 refine wpQuiet_nil ?_;go_wp2_with (go_at_call 68;refine(Q.out _).mono ?_;rintro e w1 ⟨rfl,rfl⟩);go_ret;exact⟨rfl,(Below.refl _ _).drew⟩
theorem stable_any(c:Int→Int→Int)(le:Int→Int→Prop)(tr: ∀a b c,le a b→le b c→le a c)(D:List Int)(X cap base:Nat)(p:Nat)(w:World)
 (HC: ∀(x y:Int) (w':World),x∈D→y∈D→Kept X w w'→Calls Tryz.prog 67 #[.int .i64 x,.int .i64 y,.pointer (some ⟨p,0,none⟩)] w' fun e w''=>e=.returned (.int .i64 (c x y))∧Below w'.heap.size w' w'')
 (hc:D.Pairwise fun y x=>(c x y<0→le x y)∧(0≤c x y→le y x)) (hl:D.length≤12) (hD:w.ownsRow base 3 1 (.slice (some ⟨X,0,none⟩) D.length cap) D.length (ivals D)):
 Calls Tryz.prog 114 #[.slice (some ⟨X,0,none⟩) D.length cap,.int .i64 D.length,.func (.func 67) #[] #[.pointer (some ⟨p,0,none⟩)]] w fun e w'=>e=.returned (.tuple #[])∧SortedRow le D X cap base 3 w w':=by
 have Q:=Lib.hid (insSortD_any c le tr D X cap base p w HC hc (by omega) hD);have d1:decide ((20:Int)≤(D.length:Int))=false:=decide_eq_false (by omega);have d2:decide (20≤D.length)=false:=decide_eq_false (by omega);have d3:decide ((20:Int)<(D.length:Int))=false:=decide_eq_false (by omega);have d4:decide (20<D.length)=false:=decide_eq_false (by omega);clear tr HC hc hD;generalize D.length=n at*;go_enter Tryz.func114,Tryz.ntmps114;go_wp2_with fail
 go_loop [7,8] (fun a b=>a=.int .i64 0∧b=.int .i64 20) (fun _ _=>0)
 case atStart=>exact⟨rfl,rfl⟩
 case round=>
 obtain⟨rfl,rfl⟩:=hrel;go_wp2_with (go_at_call 166;refine Q.out.mono ?_;rintro e w1 ⟨rfl,hs⟩;have HS:=Lib.hid hs;clear hs)
 go_loop [6] (fun a=>a=.int .i64 20) (fun _=>0)
 case atStart=>rfl
 case round=>
 subst hrel;go_wp2_with fail
 go_end0
 exact⟨rfl,HS.out⟩
theorem sortStable_any(c:Int→Int→Int)(le:Int→Int→Prop)(tr: ∀a b c,le a b→le b c→le a c)(D:List Int)(X cap base:Nat)(p:Nat)(w:World)
 (HC: ∀(x y:Int) (w':World),x∈D→y∈D→Kept X w w'→Calls Tryz.prog 67 #[.int .i64 x,.int .i64 y,.pointer (some ⟨p,0,none⟩)] w' fun e w''=>e=.returned (.int .i64 (c x y))∧Below w'.heap.size w' w'')
 (hc:D.Pairwise fun y x=>(c x y<0→le x y)∧(0≤c x y→le y x)) (hl:D.length≤12) (hD:w.ownsRow base 3 1 (.slice (some ⟨X,0,none⟩) D.length cap) D.length (ivals D)):
 Calls Tryz.prog 66 #[.slice (some ⟨X,0,none⟩) D.length cap,.func (.func 67) #[] #[.pointer (some ⟨p,0,none⟩)]] w fun e w'=>e=.returned (.tuple #[])∧SortedRow le D X cap base 3 w w':=by
 have Q:=Lib.hid (stable_any c le tr D X cap base p w HC hc hl hD);clear tr HC hc hD;generalize D.length=n at*;go_enter Tryz.func66,Tryz.ntmps66;go_wp2_with (go_at_call 114;refine Q.out.mono ?_;rintro e w1 ⟨rfl,hs⟩;have HS:=Lib.hid hs;clear hs)
 go_end0
 exact⟨rfl,HS.out⟩
end Go.Proofs.YtnohcdpnnhmpfaaGreatDoor
namespace Go
namespace Seg
section
variable {P:Program} {ops:Array Oper} {Q:Exit→Act→World→Prop} {md:Region.Mode} {S:World→Prop}
inductive Plan where
 |last (q:List Nat)
 |quiet (q:List Nat) (p:Plan)
 |one (j:Nat) (p:Plan)
 |alt (j:Nat) (p:Plan) (r:Plan)
def Plan.isAlt:Plan→Bool
 | .one _ _=>true
 | .alt _ _ _=>true
 |_=>false
def okPlan(md:Region.Mode)(ops:Array Oper)(n:Nat):Plan→Nat→Array Bool→List Nat→Bool
 | .last q,f,l,cov=>cov.isEmpty&&decide (f=q.length)&&(match runQ md ops n q l with|some l'=>Region.seqB md ops (ops.size-n) n l'|none=>false)
 | .quiet q p,f,l,cov=>cov.isEmpty&&decide (q.length≤f)&&(match runQ md ops n q l with|some l'=>okPlan md ops n p (f-q.length) l' []|none=>false)
 | .one j p,f,l,cov=>decide (0<f)&&(Region.ready md ops l).contains j&&(Region.ready md ops l).all (fun i=>i==j||cov.contains i)&&decide (j<n)&&okPlan md ops n p (f-1) (l.setIfInBounds j true) []
 | .alt j p r,f,l,cov=>decide (0<f)&&(Region.ready md ops l).contains j&&decide (j<n)&&okPlan md ops n p (f-1) (l.setIfInBounds j true) []&&r.isAlt&&okPlan md ops n r f l (j::cov)
def planB(ops:Array Oper)(n:Nat)(p:Plan):Bool:=
 Region.noSelect ops&&decide (n≤ops.size)&&(decide (n=ops.size)||(Region.sinkB .any ops n&&Region.chainB .any ops n))&&
 okPlan .any ops n p n (Array.replicate ops.size false) []
def wpUp(P:Program)(ops:Array Oper)(Q:Exit→Act→World→Prop)(S:World→Prop)(o:Oper)(N:Act→World→Prop)(a:Act)(w:World):Prop:=
 ∀K:Act→World→Prop,(∀a'' w'',S w''→N a'' w''→K a'' w'')→if Region.wanted o (yielded ops a.tmps)then o.wp P a w K Q else K (a.put o.dst undef) w
def wpPlan(P:Program)(ops:Array Oper)(Q:Exit→Act→World→Prop)(S:World→Prop)(tail:List Oper):Plan→Act→World→Prop
 | .last q,a,w=>wpQuiet P ops S (fun a'=>wpList P ops Q tail a' w) (q.map (opAt ops)) a
 | .quiet q p,a,w=>wpQuiet P ops S (fun a'=>wpPlan P ops Q S tail p a' w) (q.map (opAt ops)) a
 | .one j p,a,w=>wpUp P ops Q S (opAt ops j) (wpPlan P ops Q S tail p) a w
 | .alt j p r,a,w=>wpUp P ops Q S (opAt ops j) (wpPlan P ops Q S tail p) a w∧wpPlan P ops Q S tail r a w
theorem wpOp_of_up {j:Nat}{N:Act→World→Prop}{a:Act}{w:World}{G:Act→World→Prop}(h0:ops[j]?=some (opAt ops j))(hG: ∀a'' w'',S w''→N a'' w''→G a'' w'')(h:wpUp P ops Q S (opAt ops j) N a w):wpOp P ops Q j G a w:=by
 unfold wpOp;simp only [h0];have h':=h G hG;split;·rename_i hw;rw [if_pos hw]at h';exact .inl h'
 ·rename_i hw;rw [if_neg hw]at h';exact h'
theorem run_plan {n:Nat}{tail:List Oper}(hsel:Region.noSelect ops=true)
 (hQ: ∀i c (a:Act) v w,Q (.panic c) (a.put (opAt ops i).dst v) w→Q (.panic c) a w) (hwt:Waits md ops n):
 ∀(p:Plan) (f:Nat) (listed:Array Bool) (cov:List Nat) (a:Act) (w:World),HeadInv md ops n listed→okPlan md ops n p f listed cov=true→S w→wpPlan P ops Q S tail p a w→
  (cov= []→anyX P md ops Q S n (fun listed' a' w'=>Region.seqB md ops (ops.size-n) n listed'=true∧wpList P ops Q tail a' w') f listed a w)∧
  (p.isAlt=true→ ∃f',f=f'+1∧Region.ready md ops listed≠ []∧ ∀i∈Region.ready md ops listed,i∉cov→i<n∧
   wpOp P ops Q i (fun a' w'=>S w'∧anyX P md ops Q S n (fun listed' a' w'=>Region.seqB md ops (ops.size-n) n listed'=true∧wpList P ops Q tail a' w') f' (listed.setIfInBounds i true) a' w') a w):=by
 intro p
 induction p with
 |
  last q=>
  intro f listed cov a w inv hok hS h;refine⟨fun hcov=>?_,fun hx=>by cases hx⟩;simp only [okPlan,Bool.and_eq_true,decide_eq_true_eq]at hok;obtain⟨⟨_,hf⟩,hok⟩:=hok;subst hf;split at hok
  ·rename_i l' hr;have:=run_seg (E:=fun listed' a' w'=>Region.seqB md ops (ops.size-n) n listed'=true∧wpList P ops Q tail a' w') (f:=0) hsel hQ hwt
    (fun listed a w hE=>seqB_ready hE.1) hS q listed a inv hr (fun a' _ hL=>⟨hok,hL⟩) h
   simpa using this
  ·cases hok
 |
  quiet q p ih=>
  intro f listed cov a w inv hok hS h;refine⟨fun hcov=>?_,fun hx=>by cases hx⟩;simp only [okPlan,Bool.and_eq_true,decide_eq_true_eq]at hok;obtain⟨⟨_,hf⟩,hok⟩:=hok;split at hok
  ·rename_i l' hr;have:=run_seg (E:=fun listed' a' w'=>Region.seqB md ops (ops.size-n) n listed'=true∧wpList P ops Q tail a' w') (f:=f-q.length) hsel hQ hwt
    (fun listed a w hE=>seqB_ready hE.1) hS q listed a inv hr (fun a' inv' hL=>(ih (f-q.length) l' [] a' w inv' hok hS hL).1 rfl) h
   rwa [show q.length+(f-q.length)=f by omega]at this
  ·cases hok
 |
  one j p ih=>
  intro f listed cov a w inv hok hS h;simp only [okPlan,Bool.and_eq_true,decide_eq_true_eq]at hok;obtain⟨⟨⟨⟨hf,hrd⟩,hall⟩,hj⟩,hok⟩:=hok;have hjr:j∈Region.ready md ops listed:=by simpa using hrd
  have key: ∃f',f=f'+1∧Region.ready md ops listed≠ []∧ ∀i∈Region.ready md ops listed,i∉cov→i<n∧
   wpOp P ops Q i (fun a' w'=>S w'∧anyX P md ops Q S n (fun listed' a' w'=>Region.seqB md ops (ops.size-n) n listed'=true∧wpList P ops Q tail a' w') f' (listed.setIfInBounds i true) a' w') a w:=by
   refine⟨f-1,by omega,(fun h0=>by rw [h0]at hjr;cases hjr),fun i hi hic=>?_⟩;have hij:i=j:=by
    have:=List.all_eq_true.1 hall i hi;simp only [Bool.or_eq_true,beq_iff_eq,List.contains_iff_mem]at this;rcases this with h1|h1;·exact h1
    ·exact absurd h1 hic
   subst hij;exact⟨hj,wpOp_of_up (opAt_of_ready hjr) (fun a'' w'' hS'' hN=>⟨hS'',(ih (f-1) _ [] a'' w'' (inv.set hjr hj) hok hS'' hN).1 rfl⟩) h⟩
  refine⟨fun hcov=>?_,fun _=>key⟩;obtain⟨f',rfl,hne,hk⟩:=key;refine⟨hne,fun i hi=>?_⟩;exact hk i hi (by rw [hcov];simp)
 |
  alt j p r ihp ihr=>
  intro f listed cov a w inv hok hS h;simp only [okPlan,Bool.and_eq_true,decide_eq_true_eq]at hok;obtain⟨⟨⟨⟨⟨hf,hrd⟩,hj⟩,hokp⟩,halt⟩,hokr⟩:=hok;have hjr:j∈Region.ready md ops listed:=by simpa using hrd
  have key: ∃f',f=f'+1∧Region.ready md ops listed≠ []∧ ∀i∈Region.ready md ops listed,i∉cov→i<n∧
   wpOp P ops Q i (fun a' w'=>S w'∧anyX P md ops Q S n (fun listed' a' w'=>Region.seqB md ops (ops.size-n) n listed'=true∧wpList P ops Q tail a' w') f' (listed.setIfInBounds i true) a' w') a w:=by
   obtain⟨f',hf',hne,hk⟩:=(ihr f listed (j::cov) a w inv hokr hS h.2).2 halt;subst hf';refine⟨f',rfl,hne,fun i hi hic=>?_⟩;by_cases hij:i=j
   ·subst hij;exact⟨hj,wpOp_of_up (opAt_of_ready hjr) (fun a'' w'' hS'' hN=>⟨hS'',(ihp f' _ [] a'' w'' (inv.set hjr hj) (by simpa using hokp) hS'' hN).1 rfl⟩) h.1⟩
   ·exact hk i hi (by simp only [List.mem_cons,not_or];exact⟨hij,hic⟩)
  refine⟨fun hcov=>?_,fun _=>key⟩;obtain⟨f',rfl,hne,hk⟩:=key;refine⟨hne,fun i hi=>?_⟩;exact hk i hi (by rw [hcov];simp)
theorem wp_region_plan {id:Nat}{a:Act}{w:World}{l:List Oper}(S:World→Prop)(p:Plan)(n:Nat)
 (hm:P.follows .mixedOrders=true) (hB:planB l.toArray n p=true)
 (hQ: ∀c (a:Act) d v w,Q (.panic c) (a.put d v) w→Q (.panic c) a w) (hS:S w.drew)
 (h:wpPlan P l.toArray Q S (l.drop n) p a w.drew):
 (Code.region id l.toArray true).wp P Q a w:=by
 simp only [planB,Bool.and_eq_true,Bool.or_eq_true,decide_eq_true_eq]at hB;obtain⟨⟨⟨hsel,hn⟩,hw⟩,hok⟩:=hB;have hn':n≤l.length:=by simpa using hn
 have hwt:Waits .any l.toArray n:=fun hlt=>by
  rcases hw with hw|hw;·omega
  ·exact hw
 have inv0:HeadInv .any l.toArray n (Array.replicate l.toArray.size false):=
  ⟨by simp,fun j oj _ hl=>(by rw [getD_replicate_false]at hl;cases hl),fun t _ ht=>getD_in (by simpa using ht) (getD_replicate_false _ _)⟩
 have H:=(run_plan (tail:=l.drop n) (md:=.any) hsel (fun i c a v w=>hQ c a _ v w) hwt p n _ [] a _ inv0 hok hS h).1 rfl;refine wp_region_any hm ?_;have hdl:(l.drop n).length=l.toArray.size-n:=by simp
 have:=wpAny_of_anyX (Q:=Q) (g:=l.toArray.size-n) (fun listed a' w' hE=>by
  have:=wpAny_of_seq (md:=.any) (Q':=Q) (l.drop n) n listed a' w' (fun j=>by simp [List.getElem?_drop]) (by rw [hdl];exact hE.1) hE.2
  rwa [hdl]at this) _ _ _ _ H
 rw [show n+(l.toArray.size-n)=l.toArray.size by simp;omega]at this;exact this
end
end Seg
end Go
