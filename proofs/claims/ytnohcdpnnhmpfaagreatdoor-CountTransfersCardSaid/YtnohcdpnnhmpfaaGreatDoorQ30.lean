/-
  Chapter 13, the reference's Transfer: totals in memory, who is so (Transfer$2, $3, $4). Printed by tools/genclo.py.
  Chapter 13, the reference's Transfer: those who are so, the greatest first: the plain law. No program in sight.
  nat.Plus and nat.Order of fractions' texts (picked out of other templates by tools/mkkpfr.sh).
  Chapter 13, CountKeeps: no vote is lost; who is elected when. The plain law. No program in sight.
  Chapter 13: CountKeeps' helpers: small, whole. Printed by tools/genka.py.
  Chapter 13: CountKeeps: what its walk wants: sums by nat.Plus, order, literals of fractions, the plain law.
  Chapter 13: CountKeeps walked. Printed by tools/genkeeps.py.
-/
import Derived.Test.YtnohcdpnnhmpfaaGreatDoorQ29
import Derived.Test.YtnohcdpnnhmpfaaGreatDoorQ20
import Derived.Lib.SliceRun
import Derived.Test.YtnohcdpnnhmpfaaGreatDoorQ25
import Derived.Test.YtnohcdpnnhmpfaaGreatDoorQ11
import Derived.Test.YtnohcdpnnhmpfaaGreatDoorQ03
import Derived.Test.YtnohcdpnnhmpfaaGreatDoorQ27
import Derived.Great.BuildSlice
set_option linter.unusedVariables false
set_option linter.unusedSimpArgs false
set_option maxRecDepth 100000
set_option maxHeartbeats 2000000
namespace Go.Proofs.YtnohcdpnnhmpfaaGreatDoor.TR
open Go.RowKit Tryz ML FRP AU CT FM
structure jeg(w:World)(base g cg n:Nat)(T:Nat→Fr)(xa xb:Nat→Value):Prop where
 row:w.ownsRow base 69 2 (.slice (some ⟨g,0,none⟩) n cg) n (yg n xa xb)
 frs: ∀i,i<n→NrV w (T i) (xa i) (xb i)
theorem jeg.below {w w':World}{base g cg n:Nat}{T:Nat→Fr}{xa xb:Nat→Value}(h:jeg w base g cg n T xa xb)(hb:Below w.heap.size w w'):jeg w' base g cg n T xa xb:=⟨xk h.row hb,fun i hi=>(h.frs i hi).below hb⟩
theorem jeg.mid {w:World}{base g cg n:Nat}{T:Nat→Fr}{xa xb:Nat→Value}(h:jeg w base g cg n T xa xb){i:Nat}(hi:i<n): ∀j u,([xa i,xb i]:List Value)[j]?=some u→w.cell? ((⟨g,i*2,none⟩:Addr).add j)=some u:=by
 intro j u hj;rw [qZ];have key:(yg n xa xb)[i*2+j]?=some u:=by
  obtain⟨h1,h2⟩:=Kd n xa xb i hi
  match j with
  |0=>simpa using h1.trans hj
  |1=>exact h2.trans hj
  |_+2=>cases hj
 have h3:=h.row.cells (g:=g) rfl (i*2+j) u key;rw [qZ,js]at h3;exact h3
theorem jkr {w:World}{B:Nat}{a b:Value}{t:TypeId}(h:w.heap[B]?=some (.cells #[a,b] t (0,0))): ∀j u,([a,b]:List Value)[j]?=some u→w.cell? ((⟨B,0,none⟩:Addr).add j)=some u:=zG h
theorem zM:(prog.info? 69).map (·.size)=some 2:=by kernel_rfl
theorem jkC(f:Nat→Bool)(n i X A cg:Nat)(w:World)(hX:w.cell? ⟨X,0,none⟩=some (.slice (some ⟨A,0,none⟩) n cg))(hA:w.heap[A]?=some (.cells (zO n f).toArray 4 (0,0)))(hi:i<n):
 Calls prog 40 #[.int .i64 i,.pointer (some ⟨X,0,none⟩)] w fun e w'=>e=.returned (.bool (f i))∧Below w.heap.size w w':=by
 have k:w.cell? ⟨A,i,none⟩=some (.bool (f i)):=by rw [jM _ _ _ _ _ _ hA,jE];exact Ki n f i hi
 have e1:(i:Int)<(n:Int):=by omega
 clear hA;generalize f i=b at*;go_enter Tryz.func40,Tryz.ntmps40;go_wp2_with fail;go_ret;exact⟨rfl,jN _ _⟩
theorem jkA(f:Nat→Bool)(n i X A cg:Nat)(w:World)(hX:w.cell? ⟨X,0,none⟩=some (.slice (some ⟨A,0,none⟩) n cg))(hA:w.heap[A]?=some (.cells (zO n f).toArray 4 (0,0)))(hi:i<n):
 Calls prog 42 #[.int .i64 i,.pointer (some ⟨X,0,none⟩)] w fun e w'=>e=.returned (.bool (f i))∧Below w.heap.size w w':=by
 have k:w.cell? ⟨A,i,none⟩=some (.bool (f i)):=by rw [jM _ _ _ _ _ _ hA,jE];exact Ki n f i hi
 have e1:(i:Int)<(n:Int):=by omega
 clear hA;generalize f i=b at*;go_enter Tryz.func42,Tryz.ntmps42;go_wp2_with fail;go_ret;exact⟨rfl,jN _ _⟩
theorem jkB(f:Nat→Bool)(n i X A cg:Nat)(TT base g ct:Nat)(T:Nat→Fr)(xa xb:Nat→Value)(QB:Nat)(q:Fr)(qa qb:Value)(w:World)(hX:w.cell? ⟨X,0,none⟩=some (.slice (some ⟨A,0,none⟩) n cg))(hXl:X<w.heap.size)(hA:w.heap[A]?=some (.cells (zO n f).toArray 4 (0,0)))
 (hTT:w.cell? ⟨TT,0,none⟩=some (.slice (some ⟨g,0,none⟩) n ct)) (hTl:TT<w.heap.size) (hT:jeg w base g ct n T xa xb) (hQ:w.heap[QB]?=some (.cells #[qa,qb] 69 (0,0))) (hq:NrV w q qa qb) (sT:Sml (T i)) (sQ:Sml q) (hi:i<n):
 Calls prog 41 #[.int .i64 i,.pointer (some ⟨X,0,none⟩),.pointer (some ⟨TT,0,none⟩),.pointer (some ⟨QB,0,none⟩)] w fun e w'=>e=.returned (.bool (f i&&decide (0<Qe (T i) q)))∧Below w.heap.size w w':=by
 have HS:=jA zM;have hAl:A<w.heap.size:=lt_of_heap hA;have kA: ∀x:xS w.heap.size w,x.w.cell? ⟨A,i,none⟩=some (.bool (f i)):=fun x=>by
  exact(jM x.w A i _ _ _ (xK x.2 hAl hA)).trans (by rw [jE];exact Ki n f i hi)
 have kX: ∀x:xS w.heap.size w,x.w.cell? ⟨X,0,none⟩=some (.slice (some ⟨A,0,none⟩) n cg):=fun x=>(x.2.cell (p:=⟨X,0,none⟩) hXl).trans hX;have kT: ∀x:xS w.heap.size w,x.w.cell? ⟨TT,0,none⟩=some (.slice (some ⟨g,0,none⟩) n ct):=fun x=>(x.2.cell (p:=⟨TT,0,none⟩) hTl).trans hTT
 have HTM:=jA (fun w' (hw': ∃x:xS w.heap.size w,w'=x.w)=>(show ∀j u,([xa i,xb i]:List Value)[j]?=some u→w'.cell? ((⟨g,i*2,none⟩:Addr).add j)=some u by
  obtain⟨x,rfl⟩:=hw';exact(hT.below x.2).mid hi))
 have HQM:=jA (fun w' (hw': ∃x:xS w.heap.size w,w'=x.w)=>(show ∀j u,([qa,qb]:List Value)[j]?=some u→w'.cell? ((⟨QB,0,none⟩:Addr).add j)=some u by
  obtain⟨x,rfl⟩:=hw';exact jkr (xK x.2 (lt_of_heap hQ) hQ)))
 have QO:=jA (jbd w.drew ((hT.frs i hi).below (jN _ _).drew) (hq.below (jN _ _).drew) sT.lens sQ.lens);have e1:(i:Int)<(n:Int):=by omega
 clear hA hX hTT hT hQ hq hAl;generalize Qe (T i) q=c at*;go_enter Tryz.func41,Tryz.ntmps41;go_upto_region 1 with(fail);cases hfi:f i with
 |
  false=>
  rw [hfi]at kA;refine Seg.xL (fun w'=> ∃x:xS w.heap.size w,w'=x.w) [] [0,1,2,3,4,5,6,7,8,9] 10 (by kernel_rfl) (by kernel_rfl) (fun _ _ d _ _ h=>by cases d<;>exact h) (⟨⟨_,(jN _ _).drew⟩,rfl⟩) ?_;simp only [jK,Seg.opAt,Seg.xW];repeat (any_goals (first|go_big_quiet_step (fail)|quiet_step (fail)))
  refine jP ?_;go_wp2_with go_big_skip;go_ret;exact⟨by rw [hfi];rfl,(jN _ _).drew⟩
 |
  true=>
  rw [hfi]at kA;refine Seg.xL (fun w'=> ∃x:xS w.heap.size w,w'=x.w) [] [0,1,2,3,4,5,6,7,8,9] 10 (by kernel_rfl) (by kernel_rfl) (fun _ _ d _ _ h=>by cases d<;>exact h) (⟨⟨_,(jN _ _).drew⟩,rfl⟩) ?_;simp only [jK,Seg.opAt,Seg.xW];first|go_big_quiet_step (fail)|quiet_step (fail)
  first|go_big_quiet_step (fail)|quiet_step (fail)
  first|go_big_quiet_step (fail)|quiet_step (fail)
  first|go_big_quiet_step (fail)|quiet_step (fail)
  first|go_big_quiet_step (fail)|quiet_step (fail)
  first|go_big_quiet_step (fail)|quiet_step (fail)
  first|go_big_quiet_step (fail)|quiet_step (fail)
  first|go_big_quiet_step (fail)|quiet_step (fail)
  refine xV rfl 69 _ rfl ⟨g,i*2,none⟩ [xa i,xb i] _ rfl HTM.u underlying69 rfl HS.u ?_;refine xV rfl 69 _ rfl ⟨QB,0,none⟩ [qa,qb] _ rfl HQM.u underlying69 rfl HS.u ?_;refine jP ?_;go_wp2_with (first|go_big_skip|(go_at_call 39;refine QO.u.mono ?_;rintro e w2 ⟨rfl,bel2⟩;dsimp only));go_ret;exact⟨by rw [hfi];rfl,yV bel2⟩
end Go.Proofs.YtnohcdpnnhmpfaaGreatDoor.TR
namespace Go.Proofs.YtnohcdpnnhmpfaaGreatDoor.TR
open FRP
def jaK(p:Nat→Bool)(l O:List Nat)(i:Nat):List Nat:=(O.take i).filter fun x=>p x&& !decide (x∈l)
theorem jcX(p:Nat→Bool)(l O:List Nat)(i:Nat)(h:i<O.length):jaK p l O (i+1)=jaK p l O i++if(p O[i]&& !decide (O[i]∈l))=true then [O[i]]else []:=by
 unfold jaK;rw [jk h,qP];congr 1;cases hb:(p O[i]&& !decide (O[i]∈l))<;>simp [hb]
def Jz(T:Nat→Fr)(O C:List Nat)(k:Int):Prop:=(k= -1∧C= [])∨ ∃y:Nat,k=(y:Int)∧y∈C∧ ∀x∈C,x≠y→bef T O y x
theorem Jz.nil(T:Nat→Fr)(O:List Nat):Jz T O [] (-1):=.inl ⟨rfl,rfl⟩
theorem Jz.one {T:Nat→Fr}{O C:List Nat}{k:Int}(h:Jz T O C k)(hk:k<0)(x:Nat):Jz T O (C++ [x]) (x:Int):=by
 rcases h with⟨rfl,rfl⟩|⟨y,rfl,_⟩;·exact .inr ⟨x,rfl,by simp,fun z hz hne=>absurd (by simpa using hz) hne⟩
 ·omega
theorem Jz.up {T:Nat→Fr}{O C:List Nat}{y:Nat}(h:Jz T O C (y:Int))(x:Nat)(hx:(T y).v<(T x).v):Jz T O (C++ [x]) (x:Int):=by
 rcases h with⟨h1,_⟩|⟨y',e,h1,h2⟩;·omega
 ·obtain rfl:y=y':=by omega
  refine .inr ⟨x,rfl,by simp,fun z hz hne=>?_⟩;rcases jh.1 hz with hz|hz
  ·by_cases hzy:z=y;·subst hzy;exact .inl hx
   ·exact jdb _ _ _ _ _ (.inl hx) (h2 z hz hzy)
  ·exact absurd (jo.1 hz) hne
theorem Jz.stay {T:Nat→Fr}{O C:List Nat}{y:Nat}(h:Jz T O C (y:Int))(x:Nat)(hx: ¬(T y).v<(T x).v)(hi:O.idxOf y<O.idxOf x):Jz T O (C++ [x]) (y:Int):=by
 rcases h with⟨h1,_⟩|⟨y',e,h1,h2⟩;·omega
 ·obtain rfl:y=y':=by omega
  refine .inr ⟨y,rfl,by simp [h1],fun z hz hne=>?_⟩;rcases jh.1 hz with hz|hz;·exact h2 z hz hne
  ·rw [jo.1 hz];unfold bef;grind
theorem Jz.mem {T:Nat→Fr}{O C:List Nat}{y:Nat}(h:Jz T O C (y:Int)):y∈C:=by
 rcases h with⟨h1,_⟩|⟨y',e,h1,h2⟩;·omega
 ·obtain rfl:y=y':=by omega
  exact h1
theorem Jz.sign {T:Nat→Fr}{O C:List Nat}{k:Int}(h:Jz T O C k):k= -1∨ ∃y:Nat,k=(y:Int):=by
 rcases h with⟨h1,_⟩|⟨y,e,_⟩;·exact .inl h1
 ·exact .inr ⟨y,e⟩
theorem jfv {p:Nat→Bool}{l O:List Nat}(hd:O.Nodup){i:Nat}(h:i<O.length){y:Nat}(hy:y∈jaK p l O i):O.idxOf y<O.idxOf O[i]:=by
 have h1:y∈O.take i:=(kB.1 hy).1;obtain⟨j,hj,rfl⟩:=vu.1 h1;have e1:=List.Nodup.idxOf_getElem hd j (by omega);have e2:=List.Nodup.idxOf_getElem hd i h;rw [e1,e2];omega
theorem jfz {p:Nat→Bool}{T:Nat→Fr}{O r:List Nat}(hd:O.Nodup)(hr:Rk T O (O.filter p) r)(j:Nat){k:Int}(h:Jz T O (jaK p (r.take j) O O.length) k):(∀(hj:j<r.length),k=(r[j]:Int))∧(r.length≤j→k= -1):=by
 have hmem: ∀x,x∈jaK p (r.take j) O O.length↔x∈r∧x∉r.take j:=fun x=>by
  unfold jaK;rw [kG,kB,hr.perm.mem_iff,kB,jy,Bool.not_eq_true',decide_eq_false_iff_not];exact⟨fun⟨a,b,c⟩=>⟨⟨a,b⟩,c⟩,fun⟨⟨a,b⟩,c⟩=>⟨a,b,c⟩⟩
 have hrn:r.Nodup:=hr.perm.nodup_iff.2 (yi _ hd);refine⟨fun hj=>?_,fun hj=>?_⟩
 ·
   have hjm:r[j]∈jaK p (r.take j) O O.length:=(hmem _).2 ⟨jj hj,fun h2=>by
    obtain⟨i,hi,e⟩:=vu.1 h2;have e1:=List.Nodup.idxOf_getElem hrn i (by omega);have e2:=List.Nodup.idxOf_getElem hrn j hj;rw [e,e2]at e1;omega⟩
   rcases h with⟨_,h1⟩|⟨y,rfl,h1,h2⟩;·rw [h1]at hjm;cases hjm
   ·by_cases e:r[j]=y;·rw [e]
    ·exfalso;have h3:=h2 _ hjm e;obtain⟨h4,h5⟩:=(hmem y).1 h1;obtain⟨i,hi,rfl⟩:=vO h4;have hij:j<i:=by
      rcases Nat.lt_trichotomy i j with h6|h6|h6;·exact absurd (vu.2 ⟨i,by omega,rfl⟩) h5
      ·subst h6;exact absurd rfl e
      ·exact h6
     exact jdc _ _ _ _ (List.pairwise_iff_getElem.1 hr.srt j i hj hi hij) h3
 ·rcases h with⟨h1,_⟩|⟨y,rfl,h1,_⟩;·exact h1
  ·obtain⟨h4,h5⟩:=(hmem y).1 h1;rw [jc hj]at h5;exact absurd h4 h5
end Go.Proofs.YtnohcdpnnhmpfaaGreatDoor.TR
namespace Go.Proofs.YtnohcdpnnhmpfaaGreatDoor.KF
open Go.RowKit Tryz ML FM NL
def jaQ(N D:Bytes):Nat:=
 if jlR N=true∧jlR D=true then(if 4000<N.length∨4000<D.length then 3 else(if dv D=0∨Nat.gcd (dv N) (dv D)≠1 then 2 else 0))else 2
structure jmr(w:World)(F:Bytes)(v:Value):Prop where
 good:jlR F=true→ ∃oc cc,v=.slice oc (dig (dv F)).length cc∧LimbsAt w oc (dig (dv F))
structure ZB(B:Nat)(w w1:World)(X Z:Array Value)(T U:TypeId):Prop where
 bel:Below B w w1
 x:w1.heap[B]?=some (.cells X T (0,0))
 z:w1.heap[B+1]?=some (.cells Z U (0,0))
def jmu(N D:Bytes)(w:World)(e:Ending)(w':World):Prop:=
 ∃on nn cn od nd cd,e=.returned (.tuple #[.agg #[.slice on nn cn,.slice od nd cd],.int .i64 (jaQ N D:Int)])∧(jaQ N D=0→nn=(dig (dv N)).length∧nd=(dig (dv D)).length∧LFr w' (dv N) (dv D) on od)∧Below w.heap.size w w'
def jgT(N D P Q:Bytes):Nat:=if jaQ N D=0 then jaQ P Q else jaQ N D
def jmv(N D P Q:Bytes)(w:World)(e:Ending)(w':World):Prop:=
 ∃on nn cn od nd cd op np cp oq nq cq,e=.returned (.tuple #[.agg #[.slice on nn cn,.slice od nd cd],.agg #[.slice op np cp,.slice oq nq cq],.int .i64 (jgT N D P Q:Int)])∧
  (jgT N D P Q=0→nn=(dig (dv N)).length∧nd=(dig (dv D)).length∧np=(dig (dv P)).length∧nq=(dig (dv Q)).length∧LFr w' (dv N) (dv D) on od∧LFr w' (dv P) (dv Q) op oq)∧Below w.heap.size w w'
structure Box4(B:Nat)(w w1:World)(X Y Z V:Array Value)(T U:TypeId):Prop where
 bel:Below B w w1
 x:w1.heap[B]?=some (.cells X T (0,0))
 y:w1.heap[B+1]?=some (.cells Y T (0,0))
 z:w1.heap[B+1+1]?=some (.cells Z U (0,0))
 v:w1.heap[B+1+1+1]?=some (.cells V U (0,0))
def ansF(n:Nat)(N D:Bytes):Value:=.tuple #[.agg #[.string ⟨(if n=0 then N else []).toArray⟩,.string ⟨(if n=0 then D else []).toArray⟩],.int .i64 (n:Int)]
structure jmt(B C:Nat)(w w1:World)(on od op oq:Option Addr)(nn cn nd cd np cp nq cq:Nat):Prop where
 bel:Below B w w1
 z:w1.heap[B+1+1]?=some (.cells #[.string ⟨#[]⟩,.string ⟨#[]⟩] 27 (0,0))
 c:w1.heap[C]?=some (.cells #[.slice on nn cn,.slice od nd cd] 90 (0,0))
 d:w1.heap[C+1]?=some (.cells #[.slice op np cp,.slice oq nq cq] 90 (0,0))
 lt:B+1+1<C
end Go.Proofs.YtnohcdpnnhmpfaaGreatDoor.KF
namespace Go.Proofs.YtnohcdpnnhmpfaaGreatDoor.TR
open FRP
def elOf(R:List Rd):List Nat:=R.flatMap fun rd=>if rd.d=1∨rd.d=4 then rd.who else []
structure RdOk(n s m:Nat)(q:Fr)(E:List Nat)(rd:Rd):Prop where
 len:rd.tots.length=n
 oks: ∀x∈rd.tots,Sml x
 non:Sml rd.non
 sums: ∀j,Sml (QH rd.non (rd.tots.take j))
 sum:QH rd.non rd.tots=Fr.wh m
 lt: ∀i∈rd.who,i<n
 who: ∀i∈rd.who,(i∈E↔rd.d=2)
 big:rd.d=1→ ∀i (h:i<rd.tots.length),i∈rd.who→q.v<(rd.tots[i]).v
 dos:rd.d=1∨rd.d=2∨rd.d=3∨rd.d=4
 wlen:rd.who.length≤n
 wne:rd.who≠ []
section
variable {n s m k0:Nat} {q:Fr} {O:List Nat} {S:St}
end
end Go.Proofs.YtnohcdpnnhmpfaaGreatDoor.TR
namespace Go.Proofs.YtnohcdpnnhmpfaaGreatDoor.TR
open Go.RowKit Tryz ML FRP AU FM NL
def smB(F:List (Bytes×Bytes)):Bool:=F.all fun p=>decide (p.1.length≤4000)&&decide (p.2.length≤4000)
end Go.Proofs.YtnohcdpnnhmpfaaGreatDoor.TR
namespace Go.Proofs.YtnohcdpnnhmpfaaGreatDoor.TR
open Go.RowKit Tryz ML FRP AU CT FM NL
theorem jjN {w:World}{M n:Nat}{v:Value}{A B E:List Nat}(h:w.ownsRow M 3 1 v n (xU (xq A)++xU (xq B)))(hE:E=A++B)(hn:n=A.length+B.length): ∃o c,v=.slice o E.length c∧w.ownsRow M 3 1 (.slice o E.length c) E.length (xU (xq E)):=by
 subst hE;subst hn;have e:xU (xq A)++xU (xq B)=xU (xq (A++B)):=by simp [xU,xq]
 rw [e]at h;obtain⟨o,c,hv,_,_⟩:=zz h;rw [yO]at hv;refine⟨o,c,hv,?_⟩;rw [←hv,ja];exact h
end Go.Proofs.YtnohcdpnnhmpfaaGreatDoor.TR
namespace Go.Proofs.YtnohcdpnnhmpfaaGreatDoor.TR
open Go.RowKit Tryz ML FRP AU CT FM
end Go.Proofs.YtnohcdpnnhmpfaaGreatDoor.TR
