/-
  Parse: a text's limbs, nine digits each, from the end on. Plain law.
  A number's text out of its limbs: nine digits each, the zeros ahead cut off. Plain law.
  exact.Parse.
  strings.TrimLeft by one byte; (exact.Nat).String.
-/
import Derived.Test.YtnohcdpnnhmpfaaGreatDoorQ03
import Derived.Test.YtnohcdpnnhmpfaaGreatDoorQ07
set_option linter.unusedVariables false
set_option linter.unusedSimpArgs false
set_option maxRecDepth 100000
set_option maxHeartbeats 4000000
namespace Go.Proofs.YtnohcdpnnhmpfaaGreatDoor
open Go.RowKit Tryz ML FM
structure jms(F:Bytes)(m:Nat)(O:List Nat):Prop where
 le:m≤F.length
 all:NL.yf O
 len:0<m→F.length-m=9*O.length
 short:9*O.length≤F.length+8
 eq:NL.val O=dv (F.drop m)
def pieceF(F:Bytes)(m:Nat):Bytes:=(F.take m).drop (m-9)
def Zj:Nat→Nat→List Nat
 |0,_=> []
 |k+1,l=>l%10::Zj k (l/10)
theorem Ky(k:Nat): ∀l,(Zj k l).length=k:=by
 induction k with
 |zero=>intro l;rfl
 |succ k ih=>intro l;simp [Zj,ih]
theorem jiE(k:Nat): ∀l j,j<k→(Zj k l).getD j 0=l/10^j%10:=by
 induction k with
 |zero=>intro l j hj;omega
 |
  succ k ih=>
  intro l j hj;cases j with
  |zero=>simp [Zj]
  |
   succ j=>
   have e:=ih (l/10) j (by omega);simp only [Zj,List.getD_cons_succ];rw [e,Nat.div_div_eq_div_mul,jr,kU 10]
theorem jkL(k:Nat): ∀l,ND.yf (Zj k l):=by
 induction k with
 |zero=>intro l d hd;cases hd
 |
  succ k ih=>
  intro l d hd;rcases jg.1 hd with rfl|hd;·omega
  ·exact ih _ d hd
theorem jjo(k:Nat): ∀l,l<10^k→ND.val (Zj k l)=l:=by
 induction k with
 |zero=>intro l hl;simp at hl;subst hl;rfl
 |
  succ k ih=>
  intro l hl;rw [jr]at hl;simp only [Zj,ND.val];rw [ih (l/10) (by omega)];omega
def Zk:List Nat→List Nat
 | []=> []
 |l::r=>Zj 9 l++Zk r
theorem YE(L:List Nat):(Zk L).length=9*L.length:=by
 induction L with
 |nil=>rfl
 |cons l r ih=>simp [Zk,Ky,ih];omega
theorem jiF(L:List Nat): ∀i k,i<L.length→k<9→(Zk L).getD (9*i+k) 0=L.getD i 0/10^k%10:=by
 induction L with
 |nil=>intro i k hi;simp at hi
 |
  cons l r ih=>
  intro i k hi hk;cases i with
  |
   zero=>
   have:=jiE 9 l k hk
   rw [←show(Zj 9 l++Zk r).getD k 0=(Zj 9 l).getD k 0 by
    rw [jW,qJ (by rw [Ky];exact hk),←jW]]at this
   simpa [Zk] using this
  |
   succ i=>
   have e:=ih i k (by simpa using hi) hk;have e2:(Zj 9 l++Zk r).getD (9* (i+1)+k) 0=(Zk r).getD (9*i+k) 0:=by
    rw [jW,ke (by rw [Ky];omega),Ky,←jW];rw [show 9* (i+1)+k-9=9*i+k by omega]
   rw [List.getD_cons_succ];exact e2.trans e
theorem jfB(L:List Nat):ND.yf (Zk L):=by
 induction L with
 |nil=>intro d hd;cases hd
 |
  cons l r ih=>
  intro d hd;rcases jh.1 hd with hd|hd;·exact jkL 9 l d hd
  ·exact ih d hd
theorem jjp(L:List Nat)(h:NL.yf L):ND.val (Zk L)=NL.val L:=by
 induction L with
 |nil=>rfl
 |
  cons l r ih=>
  have hl:=h l (vJ ..);have hr:=ih (fun x hx=>h x (vV _ hx));unfold Zk;rw [ND.yx,Ky,jjo 9 l (by omega),hr,NL.val]
def jdF(L:List Nat):Bytes:=(Zk L).reverse.map fun d=>UInt8.ofNat (d+48)
theorem jap(L:List Nat):(jdF L).length=9*L.length:=by simp [jdF,YE]
theorem jiG(L:List Nat)(i k:Nat)(hi:i<L.length)(hk:k<9)(h:9*L.length-1-(9*i+k)<(jdF L).length):(jdF L)[9*L.length-1-(9*i+k)]=UInt8.ofNat (L.getD i 0/10^k%10+48):=by
 rw [←jiF L i k hi hk];have hj:9*i+k<(Zk L).length:=by rw [YE];omega
 simp only [jdF,List.getElem_map,List.getElem_reverse];congr 2;rw [jW,kl hj];simp only [jG];congr 1;rw [YE];omega
theorem jlU {α:Type}(p:α→Bool)(l:List α): ∀b∈l.takeWhile p,p b=true:=by
 induction l with
 |nil=>intro b hb;simp at hb
 |
  cons a r ih=>
  intro b hb;rw [List.takeWhile_cons]at hb;split at hb
  ·rcases jg.1 hb with rfl|hb;·assumption
   ·exact ih b hb
  ·simp at hb
theorem jiV(L:List Nat)(h:ND.yf L):L.reverse.dropWhile (fun d=>d==0)=(ND.yw L).reverse:=by
 obtain⟨k,hk⟩: ∃k,k=(L.reverse.dropWhile (fun d=>d==0)).length:=⟨_,rfl⟩;have hsplit:=List.takeWhile_append_dropWhile (p:=fun d=>d==0) (l:=L.reverse);have hT:L.reverse.takeWhile (fun d=>d==0)=List.replicate (L.reverse.takeWhile (fun d=>d==0)).length 0:=by
  apply List.eq_replicate_iff.2;refine⟨rfl,fun b hb=>?_⟩;have:=jlU _ _ b hb;simpa using this
 generalize hA:L.reverse.takeWhile (fun d=>d==0)=A at*;generalize hB:L.reverse.dropWhile (fun d=>d==0)=B at*;have hL:L=B.reverse++A.reverse:=by
  have:=congrArg List.reverse hsplit;rw [List.reverse_append,List.reverse_reverse]at this;exact this.symm
 have hAr:A.reverse=List.replicate A.length 0:=by rw [hT];simp
 have ht:=ND.KT L k h (by rw [hL,ja,vy];omega) (fun i hi=>by
  rw [hL,jW,ke (by rw [vy];omega),hAr,qX];split<;>rfl) (by
  by_cases hk0:k=0;·exact .inl hk0
  ·refine .inr ?_;cases hBq:B with
   |nil=>rw [hBq]at hk;simp at hk;exact absurd hk hk0
   |
    cons b r=>
    have hb0:(b==0)=false:=by
     have:=List.head_dropWhile_not (p:=fun d=>d==0) (l:=L.reverse) (by rw [hB,hBq];simp);simpa [hB,hBq] using this
    rw [hBq,kR]at hk;rw [hL,hBq,List.reverse_cons,jW,kS,ke (by rw [vy];omega),vy,hk];simp;simpa using hb0)
 have htk:L.take k=B.reverse:=by
  conv=>lhs;rw [hL]
  rw [hk,←vy,List.take_left]
 rw [←ht,htk,List.reverse_reverse]
theorem jil(n:Nat)(h:n≠0):(jdF (NL.dig n)).dropWhile (fun c=>c==48)=Qj n:=by
 unfold jdF Qj jea;rw [jT h,List.dropWhile_map];have hp: ∀l:List Nat,ND.yf l→l.dropWhile ((fun c:UInt8=>c==48)∘fun d=>UInt8.ofNat (d+48))=l.dropWhile (fun d=>d==0):=by
  intro l
  induction l with
  |nil=>intro _;rfl
  |
   cons a r ih=>
   intro hA;have ha:=hA a (vJ ..);have e:((fun c:UInt8=>c==48)∘fun d=>UInt8.ofNat (d+48)) a=(a==0):=by
    have:a=0∨a=1∨a=2∨a=3∨a=4∨a=5∨a=6∨a=7∨a=8∨a=9:=by omega
    rcases this with rfl|rfl|rfl|rfl|rfl|rfl|rfl|rfl|rfl|rfl<;>rfl
   rw [List.dropWhile_cons,List.dropWhile_cons,e];split;·exact ih (fun x hx=>hA x (vV _ hx))
   ·rfl
 rw [hp _ (fun d hd=>jfB _ d (List.mem_reverse.1 hd)),jiV _ (jfB _)];unfold ND.yw;rw [jjp _ (NL.xu n),NL.yD]
theorem jbu {S:Bytes}{c:UInt8}: ∀k,k≤S.length→(∀i,i<k→yt S i=c.toNat)→(k=S.length∨yt S k≠c.toNat)→S.drop k=S.dropWhile (fun x=>x==c):=by
 induction S with
 |nil=>intro k hk _ _;simp
 |
  cons a r ih=>
  intro k hk h1 h2;cases k with
  |
   zero=>
   rcases h2 with h2|h2;·simp at h2
   ·
     have:(a==c)=false:=by
      rw [kE];intro e;apply h2;rw [e];simp [yt]
     rw [List.dropWhile_cons,this];simp
  |
   succ k=>
   have ha:(a==c)=true:=by
    rw [beq_iff_eq];apply UInt8.toNat_inj.1;simpa [yt] using h1 0 (by omega)
   rw [List.dropWhile_cons,ha,jF];simp only [jY];refine ih k (by simpa using hk) (fun i hi=>by simpa [yt] using h1 (i+1) (by omega)) ?_;rcases h2 with h2|h2;·exact .inl (by simpa using h2)
   ·exact .inr (by simpa [yt] using h2)
end Go.Proofs.YtnohcdpnnhmpfaaGreatDoor
namespace Go.Proofs.YtnohcdpnnhmpfaaGreatDoor
open Go.RowKit Tryz ML FM NL
theorem jme(T:Bytes)(i:Nat)(h:i<(ByteArray.mk T.toArray).size):(((ByteArray.mk T.toArray)[i]'h).toNat:Int)=(yt T i:Int):=by
 rw [zJ]at h;unfold yt;rw [jW,kl h];rfl
theorem jgL(S:Bytes)(k i:Nat):yt (S.drop k) i=yt S (k+i):=by
 simp [yt,jW]
theorem jdX(S:Bytes)(k n:Nat)(h:n=S.length):(ByteArray.mk S.toArray).extract k n=⟨(S.drop k).toArray⟩:=by rw [h];exact Xj S k
theorem jdl(S:Bytes)(w:World)(hS:S.length<9223372036854775808):
 Calls prog 194 #[.string ⟨S.toArray⟩,.int .u8 48] w fun e w'=>e=.returned (.string ⟨(S.dropWhile (fun x=>x==48)).toArray⟩)∧w'=w:=by
 go_enter Tryz.func194,Tryz.ntmps194;go_upto_region 1 with(fail);go_loopw [0] (fun v wr=> ∃k:Nat,k≤S.length∧v=.string ⟨(S.drop k).toArray⟩∧(∀i,i<k→yt S i=48)∧wr=w) (fun v _=>match v with| .string b=>b.size|_=>0);case atStart=>exact⟨0,by omega,by rw [jH],fun i hi=>by omega,rfl⟩
 case round=>
 obtain⟨k,hk,rfl,hpre,hw⟩:=hrel;replace hw:=hw.symm;subst hw;have hl:(S.drop k).length=S.length-k:=jq;by_cases hend:k=S.length
 ·have hr:=jA (jbu (c:=48) k hk hpre (.inl hend));have hl0:(S.drop k).length=0:=by omega
  clear hpre hend hl;go_wp2_with fail;go_ret;rw [hr.u];exact⟨rfl,rfl⟩
 have hpos:(0:Int)<((S.drop k).length:Int):=by omega
 have hs0: ∀h,(((ByteArray.mk (S.drop k).toArray)[0]'h).toNat:Int)=(yt S k:Int):=fun h=>by rw [jme (S.drop k) 0 h,jgL];rfl
 by_cases hc:yt S k=48
 ·
   have hpre2:=jA (show ∀i,i<k+1→yt S i=48 from fun i hi=>by
    by_cases he:i=k;·rw [he];exact hc
    ·exact hpre i (by omega))
   have hx:=jdX (S.drop k) 1 (S.length-k) hl.symm;rw [List.drop_drop]at hx;have hsz1:=jA (zJ (S.drop k));have hsz2:=jA (zJ (S.drop (k+1)));have hsz3:=jA hl;rw [hc]at hs0;have h1:(1:Int)≤((S.drop k).length:Int):=by omega
   clear hpre hc hl;go_wp2_with fail;go_roundw;case rel=>exact⟨k+1,by omega,rfl,hpre2.u,trivial⟩
   case measure=>
    have e1:=hsz1.u;have e2:=hsz2.u;have e3:=hsz3.u;have e4:(S.drop (k+1)).length=S.length-(k+1):=jq;simp;omega
 ·have hr:=jA (jbu (c:=48) k hk hpre (.inr hc));have hcf:((yt S k:Int)==48)=false:=by rw [kE];omega
  have hcf2: ¬(yt S k:Int)=48:=by omega
  clear hpre hc hl;go_wp2_with fail;go_ret;rw [hr.u];exact⟨rfl,rfl⟩
theorem jdk(S:Bytes)(w:World)(hS:S.length<9223372036854775808):
 Calls prog 171 #[.string ⟨S.toArray⟩,.string ⟨#[48]⟩] w fun e w'=>e=.returned (.string ⟨(S.dropWhile (fun x=>x==48)).toArray⟩)∧w'=w:=by
 have QT:=jA (jdl S w hS);go_enter Tryz.func171,Tryz.ntmps171;by_cases hne:S= []
 ·subst hne;clear QT;go_wp2_with fail;go_ret;exact⟨rfl,rfl⟩
 have hem:List.isEmpty S=false:=by simpa using hne
 go_wp2_with (go_at_call 194;refine QT.u.mono ?_;rintro e w1 ⟨rfl,rfl⟩);go_ret;exact⟨rfl,rfl⟩
theorem ZX(n:Nat)(oa:Option Addr)(ca:Nat)(w:World)(ha:LimbsAt w oa (dig n))(hx:(dig n).length<1099511627776):
 Calls prog 122 #[.slice oa (dig n).length ca] w fun e w'=>e=.returned (.string ⟨(Qj n).toArray⟩)∧Below w.heap.size w w':=by
 obtain⟨i0,hi,hz0,hz1,hz2⟩:=info_parts YU;have HI:=jA hi;have HZ0:=jA hz0;have HZ1:=jA hz1;have HZ2:=jA hz2;have HA:=jA ha;clear hi hz0 hz1 hz2 ha;go_enter Tryz.func122,Tryz.ntmps122;by_cases hn0:n=0
 ·subst hn0;have hs:=jA (show Qj 0= [48]from rfl);have hl:(dig 0).length=0:=by rw [yP];rfl
  rw [hl];go_wp2_with fail;go_ret;rw [hs.u];exact⟨rfl,jN _ _⟩
 have hs:=jA (jil n hn0);have hpos:0<(dig n).length:=by rw [zt (by omega)];simp
 have hnz:(((dig n).length:Int)==0)=false:=by rw [kE];omega
 have hdg:=jA (fun(i k:Nat) hi hk h=>jiG (dig n) i k hi hk h);obtain⟨F,hF⟩: ∃F,F=jdF (dig n):=⟨_,rfl⟩;obtain⟨l,hl⟩: ∃l,l=(dig n).length:=⟨_,rfl⟩;obtain⟨l9,hl9⟩: ∃l9,l9=9*l:=⟨_,rfl⟩;have hFl:F.length=l9:=by rw [hF,jap,hl9,hl]
 have h9i:9* ((dig n).length:Int)=(l9:Int):=by omega
 have hl9b:l9<9895604649984:=by omega
 have HF:=jA hF;have HL:=jA hl;have HL9:=jA hl9;have HFl:=jA hFl;clear hF hl hl9 hFl;go_upto_region 4 with(refine wpList_make_row _ rfl _ _ 91 rfl 5 i0 (.int .u8 0) underlying91 HI.u HZ0.u HZ1.u rfl .i64 .i64 l9 rfl rfl (by rw [HZ2.u];omega) (by omega) ?_);rw [jbi];generalize hB:w.heap.size=d at*
 refine xP (fun w1=>Below d w w1∧w1.heap[d]?=some (.cells (Lib.byteCells (zQ F l9)).toArray 5 (0,0))) ⟨by rw [←hB];exact(jN _ _).alloc (jO _) _,by
  rw [←hB];have e:zQ F l9=List.replicate l9 0:=by unfold zQ;rw [qI (by have:=HFl.u;omega)];simp
  rw [e];exact xN rfl⟩ (fun w1 hw1=>?_)
 obtain⟨bel1,h1⟩:=hw1;have HB:=jA hB;clear hB h9i;go_upto_region 6 with(fail);go_loopw [4,18] (fun at_ i wr=> ∃(k m:Nat),k≤(dig n).length∧i=.int .i64 k∧at_=.int .i64 m∧m+9*k=l9∧Below d w wr∧wr.heap[d]?=some (.cells (Lib.byteCells (zQ F m)).toArray 5 (0,0))) (fun _ i _=>(dig n).length-(intOf i).toNat);case atStart=>exact⟨0,l9,by omega,rfl,rfl,by omega,bel1,h1⟩
 case round=>
 obtain⟨i,m,hk,rfl,rfl,hm,bel,hW⟩:=hrel;clear bel1 h1;have HM:=jA hm;clear hm;by_cases hlt:i<(dig n).length
 ·have hd1:decide ((i:Int)<((dig n).length:Int))=true:=by simp;omega
  obtain⟨a0,hoa,hac⟩:=HA.u.get i hlt;have hablk:a0.block<d:=by
   obtain⟨a1,h2,h3,_⟩:=HA.u.cells i hlt;rw [hoa]at h2;cases h2;rw [HB.u]at h3;exact h3
  have hac3:wr.cell? (a0.add i)=some (.int .u32 ((lAt (dig n) i:Nat):Int)):=by rw [bel.cell (p:=a0.add i) (by rw [yM];exact hablk)];exact hac
  have h1:lAt (dig n) i<1000000000:=xz (xu n) i;have hi00:(0:Int)≤i:=by omega
  have hilx:(i:Int)<((dig n).length:Int):=by omega
  subst hoa;clear hac;obtain⟨a,hae⟩: ∃a,a=lAt (dig n) i:=⟨_,rfl⟩;rw [←hae]at hac3 h1;have HAE:=jA hae;clear hae;go_upto_region 9 with(fail);clear hac3;obtain⟨w0,hw0⟩: ∃w0,w0=wr:=⟨_,rfl⟩;rw [←hw0]at bel hW ⊢;go_loopw [4,6,22] (fun at_ lv j wi=> ∃(k m':Nat),k≤9∧j=.int .i64 k∧at_=.int .i64 m'∧lv=.int .u32 ((a/10^k:Nat):Int)∧m'+9*i+k=l9∧Below d w wi∧wi.heap[d]?=some (.cells (Lib.byteCells (zQ F m')).toArray 5 (0,0))) (fun _ _ j _=>9-(intOf j).toNat);case atStart=>exact⟨0,m,by omega,rfl,rfl,by simp,by have:=HM.u;omega,bel,hW⟩
  case round=>
  obtain⟨k,m',hk9,rfl,rfl,rfl,hm',bel2,hW2⟩:=hrel;clear bel hW;have HM2:=jA hm';clear hm';by_cases hk9t:k<9
  ·have hd2:decide ((k:Int)<9)=true:=by simp;omega
   obtain⟨p,hp⟩: ∃p,m'=p+1:=⟨m'-1,by have:=HM2.u;have:=HL.u;have:=HL9.u;omega⟩;subst hp;have hpF:p<F.length:=by rw [HFl.u];have:=HM2.u;omega
   have hFp:=jA (show F[p]=UInt8.ofNat (a/10^k%10+48)by
    have h:=hdg.u i k hlt hk9t (by rw [jap];omega);have e:9* (dig n).length-1-(9*i+k)=p:=by have:=HM2.u;have:=HL.u;have:=HL9.u;omega
    simp only [e]at h;have h2: ∀(A B:Bytes) (hAB:A=B) (hA:p<A.length) (hB:p<B.length),A[p]=B[p]:=by intro A B hAB hA hB;subst hAB;rfl
    rw [HAE.u];exact(h2 F (jdF (dig n)) HF.u hpF (by rw [←HF.u];exact hpF)).trans h)
   have hnext:=jA (show a/10^(k+1)=a/10^k/10 by rw [jr,Nat.div_div_eq_div_mul]);have hlb:a/10^k<1000000000:=qB (Nat.div_le_self _ _) h1;obtain⟨cv,hcv⟩:=jbx hW2 p (by rw [YC F (p+1) (by omega)];omega);have hfz:=jb wr d p _ _ hW2;have hts:=jA (jag F p hpF);have HW:=jA hW2;have hp0:(0:Int)≤(p:Int):=by omega
   have hpl:(p:Int)<(l9:Int):=by have:=HM2.u;omega
   have hp9:p<9895604649984:=by have:=HM2.u;omega
   clear hW2;generalize a/10^k=l1 at*;go_upto_region 12 with(fail);refine xP (fun w4=>Below d w w4∧w4.heap[d]?=some (.cells (Lib.byteCells (zQ F p)).toArray 5 (0,0))) ?_ (fun w4 hw4=>?_)
   ·have e:=jca HW.u p F[p];have hv:((F[p]).toNat:Int)=48+(l1:Int)%10:=by
     rw [hFp.u];have:(UInt8.ofNat (l1%10+48)).toNat=l1%10+48:=by simp;omega
     rw [this];omega
    rw [hts.u,hv]at e;exact⟨xQ bel2 ((xp.refl d wr).setCell _ _) (jO _),e⟩
   obtain⟨bel4,hW4⟩:=hw4;clear hcv hfz HW bel2 hts hFp;go_wp2_with fail;go_roundw;case rel=>exact⟨k+1,p,by omega,by go_num,rfl,by rw [hnext.u];go_num,by have:=HM2.u;omega,bel4,hW4⟩
   case measure=>simp [intOf];omega
  ·have hd2:decide ((k:Int)<9)=false:=by simp;omega
   go_wp2_with fail;go_roundw;case rel=>exact⟨i+1,m',by omega,by go_num,rfl,by have:=HM2.u;omega,bel2,hW2⟩
   case measure=>simp [intOf];omega
 ·have hd1:decide ((i:Int)<((dig n).length:Int))=false:=by simp;omega
  obtain rfl:i=(dig n).length:=by omega
  have hm0:m=0:=by have:=HM.u;have:=HL.u;have:=HL9.u;omega
  subst hm0;have e:zQ F 0=F:=by simp [zQ]
  rw [e]at hW;have hrange:wr.rangeAt d 0 (Lib.byteCells F):=fun j v hv=>by
   rw [js,jM wr d j _ _ _ hW];simpa using hv
  have HR:=jA hrange;have QT:=jA (jdk F wr (by rw [HFl.u];omega));have e2:F.dropWhile (fun x=>x==48)=Qj n:=by rw [HF.u];exact hs.u
  rw [e2]at QT;have hlF:l9=F.length:=HFl.u.symm;have HLF:=jA hlF;clear hrange hW e e2 hlF hdg hs;go_upto_region 15 with(fail);go_wp2_with (first
   |(refine zP rfl _ 91 9 5 rfl underlying91 underlying5 underlying9 d l9 l9 F HLF.u rfl HR.u ?_)
   |(go_at_call 171;refine QT.u.mono ?_;rintro e w3 ⟨rfl,rfl⟩))
  go_ret;rw [HB.u];exact⟨rfl,bel⟩
end Go.Proofs.YtnohcdpnnhmpfaaGreatDoor
