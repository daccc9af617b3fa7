/-
  Chapter 13: count.Transfer. Printed by tools/gentf.py.
  Chapter 13: the law's own 'in'. Printed by tools/genli.py.
  Chapter 13, CountDroop: who have more than k quotas elect k: the plain law. No program in sight.
  Chapter 13, CountDroop: sets as bits, solid ballots: the plain law for the walk. No program in sight.
  Chapter 13: the law's small helpers: in, solid. Printed by tools/genli.py.
  Chapter 13: CountDroop walked. Printed by tools/gendroop.py.
  Chapter 13, the reference's Transfer: (*vote).follow. Printed by tools/genfol.py.
-/
import Derived.Test.YtnohcdpnnhmpfaaGreatDoorQ27
import Derived.Test.YtnohcdpnnhmpfaaGreatDoorQ28
import Derived.Test.YtnohcdpnnhmpfaaGreatDoorQ25
import Derived.Test.YtnohcdpnnhmpfaaGreatDoorQ20
set_option linter.unusedVariables false
set_option linter.unusedSimpArgs false
set_option maxRecDepth 100000
set_option maxHeartbeats 8000000
namespace Go.Proofs.YtnohcdpnnhmpfaaGreatDoor.TR
open Go.RowKit Tryz ML FRP AU CT FM
theorem yG:(prog.info? 31).map (·.size)=some 4:=by kernel_rfl
theorem Xn:prog.built 31 []=some #[.string ⟨#[]⟩,.string ⟨#[]⟩,.slice none 0 0,.slice none 0 0]:=by kernel_rfl
theorem jbP(c:yE)(P:List (Value×List Int))(lots:Bytes)(oa:Option Addr)(cap:Nat)(ob:Option Addr)(cb:Nat)(w:World)(hs:JD w oa c.op)(hP:Yw w ob P)(hf:c.Fits lots)(hnl:c.op.length<9223372036854775807):
 Calls prog 9 #[.agg #[.string ⟨c.nm.toArray⟩,.slice oa c.op.length cap,.int .i64 c.rl,.int .i64 c.se,.int .i64 c.mo],.slice ob P.length cb,.string ⟨lots.toArray⟩] w (Vi c P lots w):=by
 have QD:=jA (show ∀(w:World) (h:JD w oa c.op),Calls prog 28 #[.agg #[.string ⟨c.nm.toArray⟩,.slice oa c.op.length cap,.int .i64 c.rl,.int .i64 c.se,.int .i64 c.mo],.string ⟨lots.toArray⟩] w (jej c lots oa cap w)from fun w h=>jkv c lots oa cap w h hf hnl);have HS:=jA hs;have HP:=jA hP;have HPR:=jA (show prE c P=if zR c=true then 2 else KQ c.op.length P from rfl);clear hs hP hf;unfold jej at QD;cases hW:zR c with
 |
  true=>
  rw [hW]at QD HPR;have HE:=jA (HPR.u.trans (jR rfl));clear hW HPR;go_enter Tryz.func9,Tryz.ntmps9;go_upto_region 1 with(fail);have hbA:Below w.heap.size w ((w.alloc (.cells #[.string ⟨c.nm.toArray⟩,.slice oa c.op.length cap,.int .i64 c.rl,.int .i64 c.se,.int .i64 c.mo] 24)).alloc (.cells #[.string ⟨#[]⟩,.string ⟨#[]⟩,.slice none 0 0,.slice none 0 0] 31)):=((jN _ _).alloc (jO _) _).alloc (by simp) _;have hc1:((w.alloc (.cells #[.string ⟨c.nm.toArray⟩,.slice oa c.op.length cap,.int .i64 c.rl,.int .i64 c.se,.int .i64 c.mo] 24)).alloc (.cells #[.string ⟨#[]⟩,.string ⟨#[]⟩,.slice none 0 0,.slice none 0 0] 31)).heap[w.heap.size]?=some (.cells #[.string ⟨c.nm.toArray⟩,.slice oa c.op.length cap,.int .i64 c.rl,.int .i64 c.se,.int .i64 c.mo] 24 (0,0)):=xx (xN rfl);have hc2:((w.alloc (.cells #[.string ⟨c.nm.toArray⟩,.slice oa c.op.length cap,.int .i64 c.rl,.int .i64 c.se,.int .i64 c.mo] 24)).alloc (.cells #[.string ⟨#[]⟩,.string ⟨#[]⟩,.slice none 0 0,.slice none 0 0] 31)).heap[w.heap.size+1]?=some (.cells #[.string ⟨#[]⟩,.string ⟨#[]⟩,.slice none 0 0,.slice none 0 0] 31 (0,0)):=xN (by simp);generalize hB:w.heap.size=B at*;refine xP (fun w1=>Below B w w1∧w1.heap[B]?=some (.cells #[.string ⟨c.nm.toArray⟩,.slice oa c.op.length cap,.int .i64 c.rl,.int .i64 c.se,.int .i64 c.mo] 24 (0,0))∧w1.heap[B+1]?=some (.cells #[.string ⟨#[]⟩,.string ⟨#[]⟩,.slice none 0 0,.slice none 0 0] 31 (0,0))) ⟨hbA,hc1,hc2⟩ (fun w1 hw1=>?_);have HB:=jA hB;have B1:=jA hw1.1;have X1:=jA hw1.2.1;have Y1:=jA hw1.2.2;have hBs:B+1<w1.heap.size:=lt_of_heap hw1.2.2;have Q1:=jA (QD.u w1 (HS.u.below (HB.u.symm▸B1.u)));clear hB hw1 QD hbA hc1 hc2;go_upto_region 3 with(first
   |go_big_skip
   |((with_reducible refine xl 24 ?_);refine xO ?_ 24 (.tmp 3) ?_ B _ _ _ _ ?_ X1.u underlying24 ?_ xe ?_;rfl;rfl;rfl;rfl)
   |(go_at_call 28;refine(Q1.u).mono ?_;rintro e w3 ⟨b3,h3⟩;rw [jR rfl]at h3;subst h3;dsimp only;have B3:=jA b3;clear b3)
   |(refine xM rfl rfl 62 _ _ rfl w3.heap.size #[.string ⟨#[]⟩,.slice none 0 0,.int .i64 0,.int .i64 0,.int .i64 0,.slice none 0 0,.slice none 0 0] #[.string ⟨#[]⟩,.slice none 0 0,.int .i64 0,.int .i64 0,.int .i64 0,.slice none 0 0,.slice none 0 0] 62 rfl rfl (xN rfl) rfl zS (YQ _ _ _ _ _ _ _ rfl rfl rfl rfl rfl rfl rfl) ?_;intro w4 ho3 hp3))
  have b4:Below w3.heap.size w3 w4:=xQ ((jN _ _).alloc (jO _) _) ho3 (jO _);have b14:=B3.u.trans (b4.mono B3.u.size);have Y4:=jA (xK b14 hBs Y1.u);have B4:=jA (B1.u.trans (b14.mono (jZ (by omega))));clear b4 b14 ho3 hp3;go_wp2_with (first
   |go_big_skip
   |(with_reducible refine wpList_build rfl 31 _ rfl [] (by first|(simp;done)|(simp [Act.eval];done)) _ Xn ?_)
   |(refine xM rfl rfl 31 _ _ rfl (B+1) #[.string ⟨#[]⟩,.string ⟨#[]⟩,.slice none 0 0,.slice none 0 0] #[.string ⟨#[]⟩,.string ⟨#[]⟩,.slice none 0 0,.slice none 0 0] 31 rfl rfl Y4.u rfl yG (JR _ _ _ _ rfl rfl) ?_;intro w5 ho hp))
  refine jm (results_cell_tmp rfl _ w5 (B+1) _ _ _ _ _ rfl rfl hp underlying31 rfl yG) rfl ?_;exact Vi.bad HE.u (by decide) (by rw [HB.u];exact xQ B4.u ho (by omega))
 |
  false=>
  rw [hW]at QD HPR;obtain⟨hn1,hn12,_,_,hs1,hsn⟩:=Ze hW;have HE:=jA (HPR.u.trans (jT (by decide)));have QF:=jA (fun w1 h=>jgB c 3 P oa cap ob cb w1 h hn12 hn1);clear hW HPR;unfold Jj at QF;go_enter Tryz.func9,Tryz.ntmps9;go_upto_region 1 with(fail);have hbA:Below w.heap.size w ((w.alloc (.cells #[.string ⟨c.nm.toArray⟩,.slice oa c.op.length cap,.int .i64 c.rl,.int .i64 c.se,.int .i64 c.mo] 24)).alloc (.cells #[.string ⟨#[]⟩,.string ⟨#[]⟩,.slice none 0 0,.slice none 0 0] 31)):=((jN _ _).alloc (jO _) _).alloc (by simp) _;have hc1:((w.alloc (.cells #[.string ⟨c.nm.toArray⟩,.slice oa c.op.length cap,.int .i64 c.rl,.int .i64 c.se,.int .i64 c.mo] 24)).alloc (.cells #[.string ⟨#[]⟩,.string ⟨#[]⟩,.slice none 0 0,.slice none 0 0] 31)).heap[w.heap.size]?=some (.cells #[.string ⟨c.nm.toArray⟩,.slice oa c.op.length cap,.int .i64 c.rl,.int .i64 c.se,.int .i64 c.mo] 24 (0,0)):=xx (xN rfl);have hc2:((w.alloc (.cells #[.string ⟨c.nm.toArray⟩,.slice oa c.op.length cap,.int .i64 c.rl,.int .i64 c.se,.int .i64 c.mo] 24)).alloc (.cells #[.string ⟨#[]⟩,.string ⟨#[]⟩,.slice none 0 0,.slice none 0 0] 31)).heap[w.heap.size+1]?=some (.cells #[.string ⟨#[]⟩,.string ⟨#[]⟩,.slice none 0 0,.slice none 0 0] 31 (0,0)):=xN (by simp);generalize hB:w.heap.size=B at*;refine xP (fun w1=>Below B w w1∧w1.heap[B]?=some (.cells #[.string ⟨c.nm.toArray⟩,.slice oa c.op.length cap,.int .i64 c.rl,.int .i64 c.se,.int .i64 c.mo] 24 (0,0))∧w1.heap[B+1]?=some (.cells #[.string ⟨#[]⟩,.string ⟨#[]⟩,.slice none 0 0,.slice none 0 0] 31 (0,0))) ⟨hbA,hc1,hc2⟩ (fun w1 hw1=>?_);have HB:=jA hB;have B1:=jA hw1.1;have X1:=jA hw1.2.1;have Y1:=jA hw1.2.2;have hBs:B+1<w1.heap.size:=lt_of_heap hw1.2.2;have Q1:=jA (QD.u w1 (HS.u.below (HB.u.symm▸B1.u)));clear hB hw1 QD hbA hc1 hc2;go_upto_region 2 with(first
   |go_big_skip
   |((with_reducible refine xl 24 ?_);refine xO ?_ 24 (.tmp 3) ?_ B _ _ _ _ ?_ X1.u underlying24 ?_ xe ?_;rfl;rfl;rfl;rfl)
   |(go_at_call 28;refine(Q1.u).mono ?_;rintro e w3 ⟨b3,h3⟩;rw [jT (by decide)]at h3;obtain⟨O,Pl,oO,cO,oP,cP,hO,hPl,hIO,hIP,rfl⟩:=h3;dsimp only;have B3:=jA b3;have HO:=jA hO;have HPL:=jA hPl;have HIO:=jA hIO;have HIP:=jA hIP;clear hO hPl hIO hIP b3)
   |(refine xM rfl rfl 62 _ _ rfl w3.heap.size #[.string ⟨#[]⟩,.slice none 0 0,.int .i64 0,.int .i64 0,.int .i64 0,.slice none 0 0,.slice none 0 0] #[.string ⟨c.nm.toArray⟩,.slice oa c.op.length cap,.int .i64 c.rl,.int .i64 c.se,.int .i64 c.mo,.slice oO O.length cO,.slice oP Pl.length cP] 62 rfl rfl (xN rfl) rfl zS (YQ _ _ _ _ _ _ _ rfl rfl rfl rfl rfl rfl rfl) ?_;intro w4 ho3 hp3))
  have b4:Below w3.heap.size w3 w4:=xQ ((jN _ _).alloc (jO _) _) ho3 (jO _);have bw4:Below w1.heap.size w1 w4:=B3.u.trans (b4.mono B3.u.size);have B4:=jA (B1.u.trans (bw4.mono (by omega)));have X4:=jA (xK bw4 (by omega) X1.u);have Y4:=jA (xK bw4 hBs Y1.u);have hB4:B+1<w4.heap.size:=lt_of_heap Y4.u;have HP4:=jA (HP.u.below (HB.u.symm▸B4.u));have Q4:=jA (QF.u w4 HP4.u);have IOr:=jA (HIO.u.below b4);have IP:=jA (HIP.u.below b4);have RD:=jA hp3;have hDlt:w3.heap.size<w4.heap.size:=lt_of_heap hp3;generalize w3.heap.size=D at*;clear ho3 hp3 b4 bw4 X1 Y1 B1 hBs Q1 QF B3 HIO HIP
  as_aux_lemma=>
  by_cases h0:KQ c.op.length P=0;case neg=>
   have hd:(KQ c.op.length P !=0)=true:=by rw [ku];exact h0
   have H0:=jA h0;clear h0;go_upto_region 6 with(first
    |go_big_skip
    |((with_reducible refine xl 24 ?_);refine xO ?_ 24 (.tmp 3) ?_ B _ _ _ _ ?_ X4.u underlying24 ?_ xe ?_;rfl;rfl;rfl;rfl)
    |(go_at_call 29;refine(Q4.u).mono ?_;rintro e w5 ⟨b5,h5⟩;rw [jT H0.u]at h5;subst h5;dsimp only;have Y5:=jA (xK b5 hB4 Y4.u);have B5:=jA (B4.u.trans (b5.mono (by omega)));clear b5))
   go_wp2_with (first
    |go_big_skip
    |(with_reducible refine wpList_build rfl 31 _ rfl [] (by first|(simp;done)|(simp [Act.eval];done)) _ Xn ?_)
    |(refine xM rfl rfl 31 _ _ rfl (B+1) #[.string ⟨#[]⟩,.string ⟨#[]⟩,.slice none 0 0,.slice none 0 0] #[.string ⟨#[]⟩,.string ⟨#[]⟩,.slice none 0 0,.slice none 0 0] 31 rfl rfl Y5.u rfl yG (JR _ _ _ _ rfl rfl) ?_;intro w6 ho hp))
   refine jm (results_cell_tmp rfl _ w6 (B+1) _ _ _ _ _ rfl rfl hp underlying31 rfl yG) rfl ?_;exact Vi.bad HE.u H0.u (by rw [HB.u];exact xQ B5.u ho (by omega))
  have HE0:=jA (HE.u.trans h0);obtain⟨hA,h4096⟩:=jdW h0;have HFE:=jA h0;have hR: ∀p∈P.filter (yX (c.rule 3)),Rnk c.op.length p.2:=fun p hp=>by
   obtain⟨h1,h2⟩:=kB.1 hp;have h3:zY (c.rule 3) p.2=true:=by
    have h4:(zY (c.rule 3) p.2&&Qk p.2)=true:=h2;rw [jy]at h4;exact h4.1
   exact jfW (c:=c.rule 3) rfl (hA p h1) h3
  have hK4:(P.filter (yX (c.rule 3))).length≤4096:=jU (kt _ _) h4096;have HOK:=jA (fun(w4:World) (e:Ending) (w5:World) ht=>Vi.ok (w:=w) (lots:=lots) HE0.u HO.u (Bs:=P.filter (yX (c.rule 3))) rfl (w4:=w4) (e:=e) (w5:=w5) ht);have hd0:(KQ c.op.length P !=0)=false:=by rw [h0];rfl
  clear h0 hA h4096 HE HE0;generalize P.filter (yX (c.rule 3))=Bs at*;have HR:=jA hR;have hol:=HO.u.len;have QT:=jA (fun w1 ok ck h1 h2 h3=>jdm c oa cap oO cO oP cP O Pl Bs ok ck w1 h1 h2 h3 hn1 hn12 hK4 HR.u ⟨hs1,hsn⟩ hol (by rw [HPL.u.1];exact hol) (fun x=>HO.u.mem) (fun k hk=>HPL.u.2 k hk) (jcy HO.u));clear hR hol;go_upto_region 7 with(first
   |go_big_skip
   |((with_reducible refine xl 24 ?_);refine xO ?_ 24 (.tmp 3) ?_ B _ _ _ _ ?_ X4.u underlying24 ?_ xe ?_;rfl;rfl;rfl;rfl)
   |(go_at_call 29;refine(Q4.u).mono ?_;rintro e w5 ⟨b5,h5⟩;rw [jR HFE.u]at h5;obtain⟨oo,co,hp5,rfl⟩:=h5;dsimp only;have B5:=jA (B4.u.trans (b5.mono (by omega)));have P5:=jA hp5;have Y5:=jA (xK b5 hB4 Y4.u);have R5:=jA (xK b5 hDlt RD.u);have IO5:=jA (IOr.u.below b5);have IP5:=jA (IP.u.below b5);clear b5 hp5))
  have hB5:B+1<w5.heap.size:=lt_of_heap Y5.u;have Q5:=jA (QT.u w5 oo co IO5.u IP5.u P5.u);have hBl:B≤w5.heap.size:=by omega
  clear Q4 HFE X4 Y4 B4 HP4 RD IOr IP QT hB4 hDlt HR;go_wp2_with (first
   |go_big_skip
   |((with_reducible refine xl 62 ?_);refine xO ?_ 62 (.tmp 8) ?_ D _ _ _ _ ?_ R5.u underlying62 ?_ zS ?_;rfl;rfl;rfl;rfl)
   |(go_at_call 30;refine(Q5.u).mono ?_;rintro e w6 hgot;obtain⟨aq,bq,vR,vE,rfl,hv1,hv2,b6,hfin⟩:=HOK.u w5 e w6 hgot;have HFN:=jA hfin;have B6:=jA (B5.u.trans (b6.mono hBl));have Y6:=jA (xK b6 hB5 Y5.u);have hS6:B+1<w6.heap.size:=lt_of_heap Y6.u;clear hfin b6 hgot;dsimp only)
   |(refine xM rfl rfl 31 _ _ rfl (B+1) #[.string ⟨#[]⟩,.string ⟨#[]⟩,.slice none 0 0,.slice none 0 0] #[.string ⟨aq⟩,.string ⟨bq⟩,vR,vE] 31 rfl rfl Y6.u rfl yG (JR _ _ _ _ hv1 hv2) ?_;intro w7 ho hp))
  refine jm (results_cell_tmp rfl _ w7 (B+1) _ _ _ _ _ rfl rfl hp underlying31 rfl yG) rfl ?_
  have tV:Trn 31 (B+1) (some (B+1)) w6 w7:=Trn.of_only ho Y6.u (jO _) (fun u hu=>by
   simp only [jg,jv,jx]at hu;rcases hu with rfl|rfl|rfl|rfl<;>rfl)
  exact HFN.u _ _ _ tV (by rw [HB.u];exact xQ B6.u ho (by omega))
end Go.Proofs.YtnohcdpnnhmpfaaGreatDoor.TR
namespace Go.Proofs.YtnohcdpnnhmpfaaGreatDoor.TR
open FRP
def Past(c:Nat→Bool)(x:Vo):Prop:= ∀j∈x.rk.take x.nx,c j=true→x.wi=some j
theorem jdo(c:Nat→Bool): ∀(l:List Nat) (a:Nat),(Qc c l a).1≤a+l.length
 | [],a=>jO _
 |
  i::r,a=>by
  unfold Qc;split;·show a+1≤a+(r.length+1);omega
  ·have:=jdo c r (a+1);simp;omega
structure Sol(n:Nat)(A:Nat→Bool)(z:Nat)(rk:List Nat):Prop where
 in_: ∀i∈rk.take z,A i=true
 all: ∀i,i<n→A i=true→i∈rk.take z
def St.cA(O:List Nat)(A:Nat→Bool)(S:St):List Nat:=O.filter fun i=>S.cont i&&A i
def St.mA(A:Nat→Bool)(S:St):List Nat:=S.el.filter fun i=>S.moved i&&A i
structure JA(n m k0:Nat)(q:Fr)(O:List Nat)(A:Nat→Bool)(z:Nat)(P:List Nat)(S:St):Prop where
 nx: ∀k,k<m→(S.V k).nx≤(S.V k).rk.length
 past: ∀k,k<m→Past S.cont (S.V k)
 sol: ∀k∈P,Sol n A z (S.V k).rk
 many:k0≤(S.cA O A).length+(S.el.filter A).length
 lie:S.cA O A≠ []→(∀k∈P,∃i,(S.V k).wi=some i∧A i=true)∧(P.length:Rat)≤rs P (fun k=>(S.V k).wt.v)+((S.mA A).length:Rat)*q.v
section
variable {n s m k0:Nat} {q:Fr} {O:List Nat} {S:St} {A:Nat→Bool} {z:Nat} {P:List Nat}
end
end Go.Proofs.YtnohcdpnnhmpfaaGreatDoor.TR
namespace Go.Proofs.YtnohcdpnnhmpfaaGreatDoor.TR
open FRP AU CT
theorem jiq {α β:Type}{f:α→β}{l:List α}(hf: ∀x y,f x=f y→x=y)(h:l.Nodup):(l.map f).Nodup:=List.Pairwise.map f (fun a b hne e=>hne (hf a b e)) h
theorem Rnk.le_pos {n:Nat}{b:List Int}(h:Rnk n b){i:Nat}(hi:i<b.length)(h0:0<b[i]):b[i]≤(zo b:Int):=by
 rw [←Int.not_lt];intro hlt
 have hnd:((List.range (zo b)).map (fun r:Nat=>((r+1:Nat):Int))++ [b[i]]).Nodup:=vB.2 ⟨jiq (fun x y e=>by omega) qt,by simp,fun x hx y hy e=>by
  obtain⟨r,hr,rfl⟩:=jl.1 hx;have h1:=jf.1 hr;rw [jo.1 hy]at e;omega⟩
 have hsub: ∀x∈(List.range (zo b)).map (fun r:Nat=>((r+1:Nat):Int))++ [b[i]],x∈b.filter fun x=>decide (0<x):=fun x hx=>by
  rcases jh.1 hx with hx|hx
  ·obtain⟨r,hr,rfl⟩:=jl.1 hx;exact kB.2 ⟨h.gap r (jf.1 hr),by rw [kK];omega⟩
  ·rw [jo.1 hx];exact kB.2 ⟨jj hi,by rw [kK];exact h0⟩
 have:=qQ hnd hsub;rw [ja,jz,kZ]at this;have e:(b.filter fun x=>decide (0<x)).length=zo b:=rfl;rw [e]at this;simp at this;omega
def cnt(p:Nat→Bool)(n:Nat):Nat:=((List.range n).filter p).length
def bit(s i:Nat):Bool:=s/2^i%2==1
def solL(A:Nat→Bool)(z:Nat)(b:List Int)(k:Nat):Bool:=(List.range k).all fun i=>A i==decide (1≤b.getD i 0∧b.getD i 0≤(z:Int))
end Go.Proofs.YtnohcdpnnhmpfaaGreatDoor.TR
namespace Go.Proofs.YtnohcdpnnhmpfaaGreatDoor.TR
open Go.RowKit Tryz ML FRP AU CT FM
def zO(n:Nat)(A:Nat→Bool):List Value:=(List.range n).map fun i=>Value.bool (A i)
theorem Ki(n:Nat)(A:Nat→Bool)(i:Nat)(h:i<n):(zO n A)[i]?=some (.bool (A i)):=by
 unfold zO;rw [qK,xC h];rfl
def below(u k:Nat):Nat→Bool:=fun i=>decide (i<k)&&bit u i
def wiI:Option Nat→Int
 |none=> -1
 |some i=>(i:Int)
def wsf(L:List Int)(x:Int)(i:Nat):Int:=if x∈L.take i then(L.idxOf x:Int)else -1
theorem jji(L:List Int)(x:Int):wsf L x 0= -1:=by unfold wsf;rw [jT (by simp)]
theorem jlF {L:List Int}{x:Int}{i:Nat}(h:i<L.length)(hx:L[i]≠x):wsf L x (i+1)=wsf L x i:=by
 unfold wsf;have e:x∈L.take (i+1)↔x∈L.take i:=by
  rw [jk h,jh,jo];exact⟨fun h=>h.elim id (fun e=>absurd e.symm hx),.inl⟩
 by_cases h1:x∈L.take i;·rw [jR h1,jR (e.2 h1)]
 ·rw [jT h1,jT (fun h2=>h1 (e.1 h2))]
theorem Rnk.idx {n:Nat}{L:List Int}(hr:Rnk n L){i:Nat}(h:i<L.length)(h0:0<L[i]):L.idxOf L[i]=i:=by
 have hm:L[i]∈L:=jj h;have hlt:=vD hm;have h1:=List.getElem_idxOf (x:=L[i]) (xs:=L) hlt;exact hr.inj _ _ hlt h h1 (by rw [h1];exact h0)
theorem jlG {n:Nat}{L:List Int}(hr:Rnk n L){i:Nat}(h:i<L.length)(h0:0<L[i]):wsf L L[i] (i+1)=(i:Int):=by
 unfold wsf;rw [jR (vu.2 ⟨i,by omega,rfl⟩),hr.idx h h0]
theorem Rnk.mem_rank {n:Nat}{L:List Int}(hr:Rnk n L)(k:Nat):((k:Int)+1∈L)↔k<zo L:=by
 constructor
 ·intro h;obtain⟨i,hi,e⟩:=vO h;have:=hr.le_pos hi (by rw [e];omega);rw [e]at this;omega
 ·intro h;have:=hr.gap k h
  rwa [Int.natCast_add]at this
theorem jhX {n:Nat}{L:List Int}(hr:Rnk n L){k:Nat}(h:k<zo L):(JE L).drop k=L.idxOf ((k:Int)+1)::(JE L).drop (k+1):=by
 have hk:k<(JE L).length:=by rw [VD];exact h
 rw [kh hk];congr 1;simp [JE]
theorem jbr(cont:Nat→Bool)(n:Nat)(L:List Int)(V C cg:Nat)(ob:Option Addr)(cb r:Nat)(w0:Int)(va vb:Value)(w:World)(hr:Rnk n L)(hn:n≤12)(hI:yj w ob L)(hob: ∀a,ob=some a→a.block≠V)(hCV:C≠V)
 (hC:w.heap[C]?=some (.cells (zO n cont).toArray 4 (0,0))) (hV:w.heap[V]?=some (.cells #[.slice ob L.length cb,.int .i64 w0,.int .i64 (r:Int),va,vb] 77 (0,0))) (hrp:r≤zo L):
 Calls prog 35 #[.pointer (some ⟨V,0,none⟩),.slice (some ⟨C,0,none⟩) n cg] w fun e w'=>e=.returned (.tuple #[])∧xp V w w'∧ ∃r':Nat,
  w'.heap[V]?=some (.cells #[.slice ob L.length cb,.int .i64 (wiI (Qc cont ((JE L).drop r) r).2),.int .i64 (r':Int),va,vb] 77 (0,0))∧((Qc cont ((JE L).drop r) r).2≠none→r'=(Qc cont ((JE L).drop r) r).1):=by
 have hLn:=hr.len;have hpn:zo L≤L.length:=jdD L;have hL12:L.length≤12:=by omega
 have hr12:r≤12:=by omega
 have hp12:zo L≤12:=by omega
 have HR:=jA hr;have HI:=jA hI;have HC:=jA hC;have HOB:=jA hob;have k2:w.cell? ⟨V,2,none⟩=some (.int .i64 (r:Int)):=jM w V 2 _ _ _ hV;have f2:w.frozen? ⟨V,2,none⟩=false:=jb w V 2 _ _ hV;have HV:=jA hV;have hVs:V<w.heap.size:=lt_of_heap hV;have HLN:=jA hLn;clear hr hI hob hC hV hLn;go_enter Tryz.func35,Tryz.ntmps35;go_wp2_with fail;refine xP (fun w1=>w1.heap[V]?=some (.cells #[.slice ob L.length cb,.int .i64 w0,.int .i64 ((r:Int)+1),va,vb] 77 (0,0))∧xp V w w1) ⟨jd w V 2 _ _ _ HV.u,xh 2 _⟩ (fun w1 hw1=>?_);have H1:=jA hw1;clear hw1 k2 f2;go_loopg [] (n+1-r) (fun N wr=> ∃(k:Nat) (wi:Int),N=n+1-k∧r≤k∧k≤zo L∧Qc cont ((JE L).drop k) k=Qc cont ((JE L).drop r) r∧wr.heap[V]?=some (.cells #[.slice ob L.length cb,.int .i64 wi,.int .i64 ((k:Int)+1),va,vb] 77 (0,0))∧xp V w wr);case atStart=>exact⟨r,w0,rfl,jO _,hrp,rfl,H1.u.1,H1.u.2⟩
 case round=>
 clear H1;obtain⟨k,wi,rfl,hrk,hkp,hsk,hv,ho⟩:=hrel;have hk12:k≤12:=by omega
 have hkn:k≤n:=by have:=HLN.u;omega
 have HSK:=jA hsk;have VR:=jA hv;have OR:=jA ho;have k1:wr.cell? ⟨V,1,none⟩=some (.int .i64 wi):=jM wr V 1 _ _ _ hv;have f1:wr.frozen? ⟨V,1,none⟩=false:=jb wr V 1 _ _ hv;clear hsk hv ho;go_upto_region 3 with(fail);refine xP (fun w2=>w2.heap[V]?=some (.cells #[.slice ob L.length cb,.int .i64 (wsf L ((k:Int)+1) 0),.int .i64 ((k:Int)+1),va,vb] 77 (0,0))∧xp V w w2) ⟨by rw [jji];exact jd wr V 1 _ _ _ VR.u,OR.u.trans (xh 1 _)⟩ (fun w2 hw2=>?_);have H2:=jA hw2;have k0:w2.cell? ⟨V,0,none⟩=some (.slice ob L.length cb):=jM w2 V 0 _ _ _ hw2.1;clear hw2 k1 f1 VR OR;go_wp2_with fail;clear k0;go_loopw [28] (fun v wi=> ∃i:Nat,v=.int .i64 i∧i≤L.length∧wi.heap[V]?=some (.cells #[.slice ob L.length cb,.int .i64 (wsf L ((k:Int)+1) i),.int .i64 ((k:Int)+1),va,vb] 77 (0,0))∧xp V w wi) (fun v _=>L.length-(intOf v).toNat);case atStart=>exact⟨0,rfl,ji _,H2.u.1,H2.u.2⟩
 case round=>
 clear H2;obtain⟨i,rfl,hi,hv,ho⟩:=hrel;have VR:=jA hv;have OR:=jA ho;clear hv ho;by_cases hit:i<L.length
 ·have dk:decide ((i:Int)<(L.length:Int))=true:=jQ (by omega);have dk2:decide (i<L.length)=true:=jQ hit;have dki:(i:Int)<(L.length:Int):=by omega
  obtain⟨a,hoa,hab,hac⟩:=HI.u.cells i hit;have hac2:wr.cell? (a.add i)=some (.int .i64 L[i]):=by
   rw [qh (w:=w) (OR.u.block _ (by rw [xy];exact HOB.u a hoa))];exact hac
  have k2:wr.cell? ⟨V,2,none⟩=some (.int .i64 ((k:Int)+1)):=jM wr V 2 _ _ _ VR.u;have HNE:=jA (fun h=>jlF (x:=(k:Int)+1) hit h);have HEQ:=jA (fun(h:L[i]=(k:Int)+1)=>(show wsf L ((k:Int)+1) (i+1)=(i:Int)by rw [←h];exact jlG HR.u hit (by omega)));subst hoa;clear hac;by_cases hx:L[i]=(k:Int)+1
  ·have HE:=jA (HEQ.u hx);rw [hx]at hac2;have k1:wr.cell? ⟨V,1,none⟩=some (.int .i64 (wsf L ((k:Int)+1) i)):=jM wr V 1 _ _ _ VR.u;have f1:wr.frozen? ⟨V,1,none⟩=false:=jb wr V 1 _ _ VR.u;clear hx HNE HEQ;go_wp2_with fail;go_roundw;case rel=>exact⟨i+1,by go_num,by omega,by rw [HE.u];exact jd wr V 1 _ _ _ VR.u,OR.u.trans (xh 1 _)⟩
   case measure=>simp [intOf];omega
  ·have HE:=jA (HNE.u hx);have hb:(L[i]==(k:Int)+1)=false:=by rw [kE];exact hx
   clear HNE HEQ hx;generalize L[i]=x at*;go_wp2_with fail;go_roundw;case rel=>exact⟨i+1,by go_num,by omega,by rw [HE.u];exact VR.u,OR.u⟩
   case measure=>simp [intOf];omega
 have dk:decide ((i:Int)<(L.length:Int))=false:=jS (by omega);have dk2:decide (i<L.length)=false:=jS hit;obtain rfl:i=L.length:=by omega
 have hw:wsf L ((k:Int)+1) L.length=if k<zo L then(L.idxOf ((k:Int)+1):Int)else -1:=by
  unfold wsf;rw [kG];by_cases h:k<zo L;·rw [jR h,jR ((HR.u.mem_rank k).2 h)]
  ·rw [jT h,jT (fun h2=>h ((HR.u.mem_rank k).1 h2))]
 rw [hw]at VR;clear hw hit;by_cases hkl:k<zo L;case neg=>
  rw [jT hkl]at VR;have k1:wr.cell? ⟨V,1,none⟩=some (.int .i64 (-1)):=jM wr V 1 _ _ _ VR.u
  have HD:=jA (show Qc cont ((JE L).drop r) r=(k,none)by
   rw [←HSK.u,ve (by rw [VD];omega)];rfl)
  clear HSK;go_wp2_with go_big_skip;try simp only [Exit.inBlock,Exit.then]
  refine jm (results_none rfl _ _ _) rfl ?_;exact⟨rfl,OR.u,k+1,by rw [HD.u];exact VR.u,fun h=>by rw [HD.u]at h;exact absurd rfl h⟩
 rw [jR hkl]at VR;have hidx:L.idxOf ((k:Int)+1)<n:=by rw [←HLN.u];exact vD ((HR.u.mem_rank k).2 hkl)
 have HDR:=jA (jhX HR.u hkl);generalize L.idxOf ((k:Int)+1)=j at*;have k1:wr.cell? ⟨V,1,none⟩=some (.int .i64 (j:Int)):=jM wr V 1 _ _ _ VR.u;have j0:decide ((j:Int)<0)=false:=jS (by omega);have jn:(j:Int)<(n:Int):=by omega
 have kC:wr.cell? ⟨C,j,none⟩=some (.bool (cont j)):=by
  rw [qh (w:=w) (OR.u.block _ hCV),jM _ _ _ _ _ _ HC.u,jE];exact Ki n cont j hidx
 cases hcj:cont j with
 |
  true=>
  rw [hcj]at kC
  have HD:=jA (show Qc cont ((JE L).drop r) r=(k+1,some j)by
   rw [←HSK.u,HDR.u];unfold Qc;rw [jR hcj])
  clear HSK hcj;go_wp2_with go_big_skip;try simp only [Exit.inBlock,Exit.then]
  refine jm (results_none rfl _ _ _) rfl ?_;exact⟨rfl,OR.u,k+1,by rw [HD.u];exact VR.u,fun _=>by rw [HD.u]⟩
 |
  false=>
  rw [hcj]at kC
  have HD:=jA (show Qc cont ((JE L).drop (k+1)) (k+1)=Qc cont ((JE L).drop r) r by
   rw [←HSK.u,HDR.u];conv=>rhs;unfold Qc;rw [jT (by rw [hcj];decide)])
  have k2:wr.cell? ⟨V,2,none⟩=some (.int .i64 ((k:Int)+1)):=jM wr V 2 _ _ _ VR.u;have f2:wr.frozen? ⟨V,2,none⟩=false:=jb wr V 2 _ _ VR.u;clear HSK hcj;go_wp2_with go_big_skip
  go_roundg (n+1-(k+1))
  case rel=>exact⟨k+1,(j:Int),rfl,by omega,by omega,HD.u,by have:=jd wr V 2 _ _ (.int .i64 (((k+1:Nat):Int)+1)) VR.u;exact this,OR.u.trans (xh 2 _)⟩
  case measure=>omega
end Go.Proofs.YtnohcdpnnhmpfaaGreatDoor.TR
