/- A number's digits as a text. -/
import Derived.Test.YtnohcdpnnhmpfaaGreatDoorE07
set_option linter.all false
set_option maxRecDepth 100000
set_option maxHeartbeats 4000000
namespace Go.Proofs.YtnohcdpnnhmpfaaGreatDoor
open Go.RowKit Tryz ML ND FM
variable{T:o0}{b:Nat}{w:m0}
def jfI(n:Nat):Bytes:=(dig n).reverse.map fun d=>UInt8.ofNat (d+48)
def VU(n:Nat):Bytes:=if n=0 then [48]else jfI n
theorem jbw(n:Nat):(jfI n).length=(dig n).length:=by simp [jfI]
def zr(F:Bytes)(m:Nat):Bytes:=List.replicate m 0++F.drop m
theorem Yw(F:Bytes)(m:Nat)(h:m≤F.length):(zr F m).length=F.length:=by simp [zr];omega
theorem jbm(F:Bytes)(m:Nat)(h:m<F.length):(zr F (m+1)).set m F[m]=zr F m:=by
 unfold zr;rw [qA h,List.replicate_succ',kY,List.set_append_right _ _ (by simp)];simp
theorem jcu(n:Nat):madeCells #[Value.int .u8 0] n=(Lib.byteCells (List.replicate n 0)).toArray:=by
 unfold madeCells Lib.byteCells;apply Array.ext;·simp
 ·intro i h1 h2;simp [Nat.mod_one]
theorem jdy{L:Bytes}(h:w.heap[b]?=some (.cells (Lib.byteCells L).toArray T (0,0)))(i:Nat)(c:UInt8):(w.setCell ⟨b,i,none⟩ (.int .u8 (c.toNat:Int))).heap[b]?=some (.cells (Lib.byteCells (L.set i c)).toArray T (0,0)):=by
 rw [jd w b i _ _ _ h];congr 2;simp [Lib.byteCells,vC]
theorem jcP{L:Bytes}(h:w.heap[b]?=some (.cells (Lib.byteCells L).toArray T (0,0)))(i:Nat)(hi:i<L.length): ∃v,w.cell? ⟨b,i,none⟩=some v:=by
 rw [jM w b i _ _ _ h];exact⟨_,by simp [Lib.byteCells,hi];rfl⟩
def dv(F:Bytes):Nat:=F.foldl (fun k c=>10*k+(c.toNat-48)) 0
def DigsB(F:Bytes):Prop:= ∀c∈F,48≤c.toNat∧c.toNat≤57
def joQ(F:Bytes):Bool:=decide (F≠ [])&&F.all (fun c=>decide (48≤c.toNat∧c.toNat≤57))&&(decide (F.getD 0 0≠48)||decide (F.length=1))
def digsOf(F:Bytes):E0:=F.reverse.map fun c=>c.toNat-48
end Go.Proofs.YtnohcdpnnhmpfaaGreatDoor
namespace Go.Proofs.YtnohcdpnnhmpfaaGreatDoor
open Go.RowKit Tryz ML FM
structure jpB(F:Bytes)(m:Nat)(O:E0):Prop where
 le:m≤F.length
 all:NL.yx O
 len:0<m→F.length-m=9*O.length
 short:9*O.length≤F.length+8
 eq:NL.val O=dv (F.drop m)
def pieceF(F:Bytes)(m:Nat):Bytes:=(F.take m).drop (m-9)
def jaQ:Nat→Nat→E0
 |0,_=> []
 |k+1,l=>l%10::jaQ k (l/10)
theorem Qw(k:Nat): ∀l,(jaQ k l).length=k:=by
 induction k with
 |zero=>intro l;rfl
 |succ k ih=>intro l;simp [jaQ,ih]
theorem jkM(k:Nat): ∀l j,j<k→(jaQ k l).getD j 0=l/10^j%10:=by
 induction k with
 |zero=>intro l j hj;omega
 |
  succ k ih=>
  intro l j hj;cases j with
  |zero=>simp [jaQ]
  |
   succ j=>
   have e:=ih (l/10) j (by omega);simp only [jaQ,List.getD_cons_succ];rw [e,Nat.div_div_eq_div_mul,js,kf 10]
theorem jnl(k:Nat): ∀l,ND.yx (jaQ k l):=by
 induction k with
 |zero=>intro l d hd;cases hd
 |
  succ k ih=>
  intro l d hd;rcases jl.1 hd with rfl|hd;·omega
  ·exact ih _ d hd
theorem jlw(k:Nat): ∀l,l<10^k→ND.val (jaQ k l)=l:=by
 induction k with
 |zero=>intro l hl;simp at hl;subst hl;rfl
 |
  succ k ih=>
  intro l hl;rw [js]at hl;simp only [jaQ,ND.val];rw [ih (l/10) (by omega)];omega
def jaR:E0→E0
 | []=> []
 |l::r=>jaQ 9 l++jaR r
theorem Yy(L:E0):(jaR L).length=9*L.length:=by
 induction L with
 |nil=>rfl
 |cons l r ih=>simp [jaR,Qw,ih];omega
theorem jkN(L:E0): ∀i k,i<L.length→k<9→(jaR L).getD (9*i+k) 0=L.getD i 0/10^k%10:=by
 induction L with
 |nil=>intro i k hi;simp at hi
 |
  cons l r ih=>
  intro i k hi hk;cases i with
  |
   zero=>
   have:=jkM 9 l k hk
   rw [←show(jaQ 9 l++jaR r).getD k 0=(jaQ 9 l).getD k 0 by
    rw [jV,qZ (by rw [Qw];exact hk),←jV]]at this
   simpa [jaR] using this
  |
   succ i=>
   have e:=ih i k (by simpa using hi) hk;have e2:(jaQ 9 l++jaR r).getD (9* (i+1)+k) 0=(jaR r).getD (9*i+k) 0:=by
    rw [jV,kZ (by rw [Qw];omega),Qw,←jV];rw [show 9* (i+1)+k-9=9*i+k by omega]
   rw [List.getD_cons_succ];exact e2.trans e
theorem jhv(L:E0):ND.yx (jaR L):=by
 induction L with
 |nil=>intro d hd;cases hd
 |
  cons l r ih=>
  intro d hd;rcases jj.1 hd with hd|hd;·exact jnl 9 l d hd
  ·exact ih d hd
theorem jlx(L:E0)(h:NL.yx L):ND.val (jaR L)=NL.val L:=by
 induction L with
 |nil=>rfl
 |
  cons l r ih=>
  have hl:=h l (vZ ..);have hr:=ih (fun x hx=>h x (vy _ hx));unfold jaR;rw [ND.zP,Qw,jlw 9 l (by omega),hr,NL.val]
def jfo(L:E0):Bytes:=(jaR L).reverse.map fun d=>UInt8.ofNat (d+48)
theorem jbv(L:E0):(jfo L).length=9*L.length:=by simp [jfo,Yy]
theorem jkO(L:E0)(i k:Nat)(hi:i<L.length)(hk:k<9)(h:9*L.length-1-(9*i+k)<(jfo L).length):(jfo L)[9*L.length-1-(9*i+k)]=UInt8.ofNat (L.getD i 0/10^k%10+48):=by
 rw [←jkN L i k hi hk];have hj:9*i+k<(jaR L).length:=by rw [Yy];omega
 simp only [jfo,List.getElem_map,List.getElem_reverse];congr 2;rw [jV,kL hj];simp only [jG];congr 1;rw [Yy];omega
theorem joV {α:Type}(p:α→Bool)(l:List α): ∀b∈l.takeWhile p,p b=true:=by
 induction l with
 |nil=>intro b hb;simp at hb
 |
  cons a r ih=>
  intro b hb;rw [List.takeWhile_cons]at hb;split at hb
  ·rcases jl.1 hb with rfl|hb;·assumption
   ·exact ih b hb
  ·simp at hb
theorem jle(L:E0)(h:ND.yx L):L.reverse.dropWhile (fun d=>d==0)=(ND.zO L).reverse:=by
 obtain⟨k,hk⟩: ∃k,k=(L.reverse.dropWhile (fun d=>d==0)).length:=⟨_,rfl⟩;have bT:=List.takeWhile_append_dropWhile (p:=fun d=>d==0) (l:=L.reverse);have hT:L.reverse.takeWhile (fun d=>d==0)=List.replicate (L.reverse.takeWhile (fun d=>d==0)).length 0:=by
  apply List.eq_replicate_iff.2;refine⟨rfl,fun b hb=>?_⟩;have:=joV _ _ b hb;simpa using this
 generalize hA:L.reverse.takeWhile (fun d=>d==0)=A at*;generalize hB:L.reverse.dropWhile (fun d=>d==0)=B at*;have hL:L=B.reverse++A.reverse:=by
  have:=qO List.reverse bT;rw [List.reverse_append,List.reverse_reverse]at this;exact this.symm
 have hAr:A.reverse=List.replicate A.length 0:=by rw [hT];simp
 have ht:=ND.Ku L k h (by rw [hL,jZ,xR];omega) (fun i hi=>by
  rw [hL,jV,kZ (by rw [xR];omega),hAr,qU];split<;>rfl) (by
  by_cases iM:k=0;·exact .inl iM
  ·refine .inr ?_;cases hBq:B with
   |nil=>rw [hBq]at hk;simp at hk;exact absurd hk iM
   |
    cons b r=>
    have Gz:(b==0)=false:=by
     have:=List.head_dropWhile_not (p:=fun d=>d==0) (l:=L.reverse) (by rw [hB,hBq];simp);simpa [hB,hBq] using this
    rw [hBq,kW]at hk;rw [hL,hBq,List.reverse_cons,jV,kY,kZ (by rw [xR];omega),xR,hk];simp;simpa using Gz)
 have gJ:L.take k=B.reverse:=by
  conv=>lhs;rw [hL]
  rw [hk,←xR,List.take_left]
 rw [←ht,gJ,List.reverse_reverse]
theorem jkp(n:Nat)(h:n≠0):(jfo (NL.dig n)).dropWhile (fun c=>c==48)=VU n:=by
 unfold jfo VU jfI;rw [jQ h,List.dropWhile_map];have hp: ∀l:E0,ND.yx l→l.dropWhile ((fun c:UInt8=>c==48)∘fun d=>UInt8.ofNat (d+48))=l.dropWhile (fun d=>d==0):=by
  intro l
  induction l with
  |nil=>intro _;rfl
  |
   cons a r ih=>
   intro hA;have ha:=hA a (vZ ..);have e:((fun c:UInt8=>c==48)∘fun d=>UInt8.ofNat (d+48)) a=(a==0):=by
    have:a=0∨a=1∨a=2∨a=3∨a=4∨a=5∨a=6∨a=7∨a=8∨a=9:=by omega
    rcases this with rfl|rfl|rfl|rfl|rfl|rfl|rfl|rfl|rfl|rfl<;>rfl
   rw [List.dropWhile_cons,List.dropWhile_cons,e];split;·exact ih (fun x hx=>hA x (vy _ hx))
   ·rfl
 rw [hp _ (fun d hd=>jhv _ d (List.mem_reverse.1 hd)),jle _ (jhv _)];unfold ND.zO;rw [jlx _ (NL.yN n),NL.yR]
theorem jcL {S:Bytes}{c:UInt8}: ∀k,k≤S.length→(∀i,i<k→zL S i=c.toNat)→(k=S.length∨zL S k≠c.toNat)→S.drop k=S.dropWhile (fun x=>x==c):=by
 induction S with
 |nil=>intro k hk _ _;simp
 |
  cons a r ih=>
  intro k hk h1 h2;cases k with
  |
   zero=>
   rcases h2 with h2|h2;·simp at h2
   ·
     have:(a==c)=false:=by
      rw [jt];intro e;apply h2;rw [e];simp [zL]
     rw [List.dropWhile_cons,this];simp
  |
   succ k=>
   have ha:(a==c)=true:=by
    rw [qH];apply UInt8.toNat_inj.1;simpa [zL] using h1 0 (by omega)
   rw [List.dropWhile_cons,ha,jF];simp only [jY];refine ih k (by simpa using hk) (fun i hi=>by simpa [zL] using h1 (i+1) (by omega)) ?_;rcases h2 with h2|h2;·exact .inl (by simpa using h2)
   ·exact .inr (by simpa [zL] using h2)
end Go.Proofs.YtnohcdpnnhmpfaaGreatDoor
namespace Go.Proofs.YtnohcdpnnhmpfaaGreatDoor
open Go.RowKit Tryz ML FM NL
theorem jpg(T:Bytes)(i:Nat)(h:i<(ByteArray.mk T.toArray).size):(((ByteArray.mk T.toArray)[i]'h).toNat:Int)=(zL T i:Int):=by
 rw [zk]at h;unfold zL;rw [jV,kL h];rfl
theorem jiF(S:Bytes)(k i:Nat):zL (S.drop k) i=zL S (k+i):=by
 simp [zL,jV]
theorem jfF(S:Bytes)(k n:Nat)(h:n=S.length):(ByteArray.mk S.toArray).extract k n=⟨(S.drop k).toArray⟩:=by rw [h];exact Yc S k
theorem jeQ(S:Bytes)(w:m0)(hS:S.length<9223372036854775808):
 Calls prog 194 #[.string ⟨S.toArray⟩,.int .u8 48] w fun e w'=>e=.returned (.string ⟨(S.dropWhile (fun x=>x==48)).toArray⟩)∧w'=w:=by
 go_enter Tryz.func194,Tryz.ntmps194;go_upto_region 1 with(fail);go_loopw [0] (fun v wr=> ∃k:Nat,k≤S.length∧v=.string ⟨(S.drop k).toArray⟩∧(∀i,i<k→zL S i=48)∧wr=w) (fun v _=>match v with| .string b=>b.size|_=>0);case atStart=>exact⟨0,by omega,by rw [jH],fun i hi=>by omega,rfl⟩
 case round=>
 obtain⟨k,hk,rfl,fu,hw⟩:=hrel;replace hw:=hw.symm;subst hw;have hl:(S.drop k).length=S.length-k:=kQ;by_cases wA:k=S.length
 ·have hr:=jA (jcL (c:=48) k hk fu (.inl wA));have CJ:(S.drop k).length=0:=by omega
  clear fu wA hl;go_wp2_with fail;go_ret;rw [hr.u];exact⟨rfl,rfl⟩
 have pu:(0:Int)<((S.drop k).length:Int):=by omega
 have DG: ∀h,(((ByteArray.mk (S.drop k).toArray)[0]'h).toNat:Int)=(zL S k:Int):=fun h=>by rw [jpg (S.drop k) 0 h,jiF];rfl
 by_cases hc:zL S k=48
 ·
   have hpre2:=jA (show ∀i,i<k+1→zL S i=48 from fun i hi=>by
    by_cases he:i=k;·rw [he];exact hc
    ·exact fu i (by omega))
   have hx:=jfF (S.drop k) 1 (S.length-k) hl.symm;rw [List.drop_drop]at hx;have hsz1:=jA (zk (S.drop k));have hsz2:=jA (zk (S.drop (k+1)));have hsz3:=jA hl;rw [hc]at DG;have h1:(1:Int)≤((S.drop k).length:Int):=by omega
   clear fu hc hl;go_wp2_with fail;go_roundw;case rel=>exact⟨k+1,by omega,rfl,hpre2.u,trivial⟩
   case measure=>
    have e1:=hsz1.u;have e2:=hsz2.u;have e3:=hsz3.u;have e4:(S.drop (k+1)).length=S.length-(k+1):=kQ;simp;omega
 ·have hr:=jA (jcL (c:=48) k hk fu (.inr hc));have hcf:((zL S k:Int)==48)=false:=by rw [jt];omega
  have hcf2: ¬(zL S k:Int)=48:=by omega
  clear fu hc hl;go_wp2_with fail;go_ret;rw [hr.u];exact⟨rfl,rfl⟩
theorem jeP(S:Bytes)(w:m0)(hS:S.length<9223372036854775808):
 Calls prog 171 #[.string ⟨S.toArray⟩,.string ⟨#[48]⟩] w fun e w'=>e=.returned (.string ⟨(S.dropWhile (fun x=>x==48)).toArray⟩)∧w'=w:=by
 have QT:=jA (jeQ S w hS);go_enter Tryz.func171,Tryz.ntmps171;by_cases Cs:S= []
 ·subst Cs;clear QT;go_wp2_with fail;go_ret;exact⟨rfl,rfl⟩
 have hem:List.isEmpty S=false:=by simpa using Cs
 go_wp2_with (go_at_call 194;refine QT.u.mono ?_;rintro e w1 ⟨rfl,rfl⟩);go_ret;exact⟨rfl,rfl⟩
theorem jaA(n:Nat)(oa:s0)(ca:Nat)(w:m0)(ha:LimbsAt w oa (dig n))(hx:(dig n).length<1099511627776):
 Calls prog 122 #[.slice oa (dig n).length ca] w fun e w'=>e=.returned (.string ⟨(VU n).toArray⟩)∧O0 w.heap.size w w':=by
 obtain⟨i0,hi,Is,Ts,Ns⟩:=info_parts ZT;have HI:=jA hi;have Dt:=jA Is;have Ct:=jA Ts;have Bt:=jA Ns;have HA:=jA ha;clear hi Is Ts Ns ha;go_enter Tryz.func122,Tryz.ntmps122;by_cases IQ:n=0
 ·subst IQ;have hs:=jA (show VU 0= [48]from rfl);have hl:(dig 0).length=0:=by rw [yi];rfl
  rw [hl];go_wp2_with fail;go_ret;rw [hs.u];exact⟨rfl,jN _ _⟩
 have hs:=jA (jkp n IQ);have pu:0<(dig n).length:=by rw [JQ (by omega)];simp
 have hnz:(((dig n).length:Int)==0)=false:=by rw [jt];omega
 have hdg:=jA (fun(i k:Nat) hi hk h=>jkO (dig n) i k hi hk h);obtain⟨F,hF⟩: ∃F,F=jfo (dig n):=⟨_,rfl⟩;obtain⟨l,hl⟩: ∃l,l=(dig n).length:=⟨_,rfl⟩;obtain⟨l9,OQ⟩: ∃l9,l9=9*l:=⟨_,rfl⟩;have hFl:F.length=l9:=by rw [hF,jbv,OQ,hl]
 have h9i:9* ((dig n).length:Int)=(l9:Int):=by omega
 have hl9b:l9<9895604649984:=by omega
 have HF:=jA hF;have HL:=jA hl;have HL9:=jA OQ;have wX:=jA hFl;clear hF hl OQ hFl;go_upto_region 4 with(refine wpList_make_row _ rfl _ _ 91 rfl 5 i0 (.int .u8 0) underlying91 HI.u Dt.u Ct.u rfl .i64 .i64 l9 rfl rfl (by rw [Bt.u];omega) (by omega) ?_);rw [jcu];generalize hB:w.heap.size=d at*
 refine xr (fun w1=>O0 d w w1∧w1.heap[d]?=some (.cells (Lib.byteCells (zr F l9)).toArray 5 (0,0))) ⟨by rw [←hB];exact(jN _ _).alloc (jO _) _,by
  rw [←hB];have e:zr F l9=List.replicate l9 0:=by unfold zr;rw [qX (by have:=wX.u;omega)];simp
  rw [e];exact xh rfl⟩ (fun w1 ts=>?_)
 obtain⟨et,h1⟩:=ts;have HB:=jA hB;clear hB h9i;go_upto_region 6 with(fail);go_loopw [4,18] (fun at_ i wr=> ∃(k m:Nat),k≤(dig n).length∧i=.int .i64 k∧at_=.int .i64 m∧m+9*k=l9∧O0 d w wr∧wr.heap[d]?=some (.cells (Lib.byteCells (zr F m)).toArray 5 (0,0))) (fun _ i _=>(dig n).length-(intOf i).toNat);case atStart=>exact⟨0,l9,by omega,rfl,rfl,by omega,et,h1⟩
 case round=>
 obtain⟨i,m,hk,rfl,rfl,hm,bel,hW⟩:=hrel;clear et h1;have HM:=jA hm;clear hm;by_cases ns:i<(dig n).length
 ·have lF:decide ((i:Int)<((dig n).length:Int))=true:=by simp;omega
  obtain⟨a0,Us,Ft⟩:=HA.u.get i ns;have Cv:a0.block<d:=by
   obtain⟨a1,h2,h3,_⟩:=HA.u.cells i ns;rw [Us]at h2;cases h2;rw [HB.u]at h3;exact h3
  have Ww:wr.cell? (a0.add i)=some (.int .u32 ((lAt (dig n) i:Nat):Int)):=by rw [bel.cell (p:=a0.add i) (by rw [yo];exact Cv)];exact Ft
  have h1:lAt (dig n) i<1000000000:=yP (yN n) i;have hi00:(0:Int)≤i:=by omega
  have OT:(i:Int)<((dig n).length:Int):=by omega
  subst Us;clear Ft;obtain⟨a,hae⟩: ∃a,a=lAt (dig n) i:=⟨_,rfl⟩;rw [←hae]at Ww h1;have HAE:=jA hae;clear hae;go_upto_region 9 with(fail);clear Ww;obtain⟨w0,ou⟩: ∃w0,w0=wr:=⟨_,rfl⟩;rw [←ou]at bel hW ⊢;go_loopw [4,6,22] (fun at_ lv j wi=> ∃(k m':Nat),k≤9∧j=.int .i64 k∧at_=.int .i64 m'∧lv=.int .u32 ((a/10^k:Nat):Int)∧m'+9*i+k=l9∧O0 d w wi∧wi.heap[d]?=some (.cells (Lib.byteCells (zr F m')).toArray 5 (0,0))) (fun _ _ j _=>9-(intOf j).toNat);case atStart=>exact⟨0,m,by omega,rfl,rfl,by simp,by have:=HM.u;omega,bel,hW⟩
  case round=>
  obtain⟨k,m',hk9,rfl,rfl,rfl,hm',us,Hz⟩:=hrel;clear bel hW;have gB:=jA hm';clear hm';by_cases hk9t:k<9
  ·have mI:decide ((k:Int)<9)=true:=by simp;omega
   obtain⟨p,hp⟩: ∃p,m'=p+1:=⟨m'-1,by have:=gB.u;have:=HL.u;have:=HL9.u;omega⟩;subst hp;have hpF:p<F.length:=by rw [wX.u];have:=gB.u;omega
   have hFp:=jA (show F[p]=UInt8.ofNat (a/10^k%10+48)by
    have h:=hdg.u i k ns hk9t (by rw [jbv];omega);have e:9* (dig n).length-1-(9*i+k)=p:=by have:=gB.u;have:=HL.u;have:=HL9.u;omega
    simp only [e]at h;have h2: ∀(A B:Bytes) (hAB:A=B) (hA:p<A.length) (hB:p<B.length),A[p]=B[p]:=by intro A B hAB hA hB;subst hAB;rfl
    rw [HAE.u];exact(h2 F (jfo (dig n)) HF.u hpF (by rw [←HF.u];exact hpF)).trans h)
   have ut:=jA (show a/10^(k+1)=a/10^k/10 by rw [js,Nat.div_div_eq_div_mul]);have bZ:a/10^k<1000000000:=qK (Nat.div_le_self _ _) h1;obtain⟨cv,DO⟩:=jcP Hz p (by rw [Yw F (p+1) (by omega)];omega);have nM:=jc wr d p _ _ Hz;have hts:=jA (jbm F p hpF);have HW:=jA Hz;have IG:(0:Int)≤(p:Int):=by omega
   have Cw:(p:Int)<(l9:Int):=by have:=gB.u;omega
   have hp9:p<9895604649984:=by have:=gB.u;omega
   clear Hz;generalize a/10^k=l1 at*;go_upto_region 12 with(fail);refine xr (fun w4=>O0 d w w4∧w4.heap[d]?=some (.cells (Lib.byteCells (zr F p)).toArray 5 (0,0))) ?_ (fun w4 Gu=>?_)
   ·have e:=jdy HW.u p F[p];have hv:((F[p]).toNat:Int)=48+(l1:Int)%10:=by
     rw [hFp.u];have:(UInt8.ofNat (l1%10+48)).toNat=l1%10+48:=by simp;omega
     rw [this];omega
    rw [hts.u,hv]at e;exact⟨xl us ((yG.refl d wr).setCell _ _) (jO _),e⟩
   obtain⟨Fs,dH⟩:=Gu;clear DO nM HW us hts hFp;go_wp2_with fail;go_roundw;case rel=>exact⟨k+1,p,by omega,by go_num,rfl,by rw [ut.u];go_num,by have:=gB.u;omega,Fs,dH⟩
   case measure=>simp [intOf];omega
  ·have mI:decide ((k:Int)<9)=false:=by simp;omega
   go_wp2_with fail;go_roundw;case rel=>exact⟨i+1,m',by omega,by go_num,rfl,by have:=gB.u;omega,us,Hz⟩
   case measure=>simp [intOf];omega
 ·have lF:decide ((i:Int)<((dig n).length:Int))=false:=by simp;omega
  obtain rfl:i=(dig n).length:=by omega
  have NQ:m=0:=by have:=HM.u;have:=HL.u;have:=HL9.u;omega
  subst NQ;have e:zr F 0=F:=by simp [zr]
  rw [e]at hW;have Lu:wr.rangeAt d 0 (Lib.byteCells F):=fun j v hv=>by
   rw [jv,jM wr d j _ _ _ hW];simpa using hv
  have HR:=jA Lu;have QT:=jA (jeP F wr (by rw [wX.u];omega));have e2:F.dropWhile (fun x=>x==48)=VU n:=by rw [HF.u];exact hs.u
  rw [e2]at QT;have hlF:l9=F.length:=wX.u.symm;have HLF:=jA hlF;clear Lu hW e e2 hlF hdg hs;go_upto_region 15 with(fail);go_wp2_with (first
   |(refine zq rfl _ 91 9 5 rfl underlying91 underlying5 underlying9 d l9 l9 F HLF.u rfl HR.u ?_)
   |(go_at_call 171;refine QT.u.mono ?_;rintro e w3 ⟨rfl,rfl⟩))
  go_ret;rw [HB.u];exact⟨rfl,bel⟩
end Go.Proofs.YtnohcdpnnhmpfaaGreatDoor
