/-
  Chapter 13, Transfer: what (*hall).round reads, in plain words.
  Chapter 13, Transfer: the ranks of a ballot; count.ranked.
  Chapter 13, Transfer: a hall that gets one paper more.
  Chapter 13, Transfer: count.newHall's region 2: a load and four makes, in whatever order. Printed by tools/gennew2.py. PIECE
  Chapter 13, Transfer: count.newHall. Printed by tools/gennew.py.
  Chapter 13, Transfer: at the start all holds; where it ends. No program in sight.
-/
import Derived.Test.YtnohcdpnnhmpfaaGreatDoorQ23
import Derived.Test.YtnohcdpnnhmpfaaGreatDoorQ24
import Derived.Test.YtnohcdpnnhmpfaaGreatDoorQ22
import Derived.Test.YtnohcdpnnhmpfaaGreatDoorQ17
set_option linter.unusedVariables false
set_option linter.unusedSimpArgs false
set_option maxRecDepth 100000
set_option maxHeartbeats 16000000
namespace Go.Proofs.YtnohcdpnnhmpfaaGreatDoor.TR
open Go.RowKit Tryz ML FRP AU CT FM
def HK.On(K:HK):List Nat:=K.O.map Int.toNat
theorem jfM(l:List Nat):(xq l).map Int.toNat=l:=by simp [xq,Function.comp_def]
theorem jbh(l:List Int)(h: ∀x∈l,0≤x):xq (l.map Int.toNat)=l:=by
 unfold xq;rw [List.map_map]
 conv=>rhs;rw [←List.map_id l]
 refine qu fun x hx=>?_;have:=h x hx;simp;omega
theorem jan(l:List Nat)(p:Int→Bool)(f:Nat→Bool)(h: ∀i∈l,p (i:Int)=f i):(xq l).filter p=xq (l.filter f):=by
 induction l with
 |nil=>rfl
 |
  cons x l ih=>
  have h1:=ih (fun i hi=>h i (by simp [hi]));have h2:=h x (by simp);unfold xq at*;simp only [jI];by_cases hf:f x=true;·rw [List.filter_cons_of_pos (by rw [h2];exact hf),List.filter_cons_of_pos hf,h1];rfl
  ·rw [List.filter_cons_of_neg (by rw [h2];exact hf),List.filter_cons_of_neg hf,h1]
theorem Vw.onats {K:HK}(h:Vw K):K.O=xq K.On:=(jbh K.O (fun x hx=>((h.mem x).1 hx).1)).symm
theorem Vw.omem {K:HK}(h:Vw K)(i:Nat):i∈K.On↔i<K.c.op.length:=by
 unfold HK.On;rw [jl];constructor
 ·rintro⟨x,hx,rfl⟩;have:=(h.mem x).1 hx;omega
 ·intro hi;exact⟨(i:Int),(h.mem _).2 ⟨by omega,by omega⟩,by simp⟩
theorem Vw.ond {K:HK}(h:Vw K):K.On.Nodup:=by
 have h1:=h.nd;rw [h.onats]at h1;unfold xq at h1;exact List.Pairwise.of_map _ (fun a b hne e=>hne (by rw [e])) h1
theorem Vw.olen {K:HK}(h:Vw K):K.On.length=K.c.op.length:=by
 unfold HK.On;rw [jz];exact h.len
theorem Vw.idx {K:HK}(h:Vw K){i:Nat}(hi:i<K.c.op.length):K.P.getD i 0=(K.On.idxOf i:Int):=by
 have hm:=(h.omem i).2 hi;have hlt:=vD hm;have hk:K.On.idxOf i<K.O.length:=by rw [h.len,←h.olen];exact hlt
 have h1:=List.getElem_idxOf (x:=i) (xs:=K.On) hlt;have h2:=h.place (K.On.idxOf i) hk;have h3:K.O[K.On.idxOf i].toNat=i:=by
  generalize K.On.idxOf i=j at*;have h4:K.On[j]?=(K.O[j]?).map Int.toNat:=by unfold HK.On;rw [qK]
  rw [kl hlt,kl hk,h1]at h4;simpa using h4.symm
 rw [h3]at h2;rw [jW,h2];rfl
theorem Vw.place_ne {K:HK}(h:Vw K){a b:Nat}(ha:a<K.c.op.length)(hb:b<K.c.op.length)(hne:a≠b):K.P.getD a 0≠K.P.getD b 0:=by
 rw [h.idx ha,h.idx hb];intro e;exact hne (jhl ((h.omem a).2 ha) ((h.omem b).2 hb) (by omega))
theorem Vw.pbd {K:HK}(h:Vw K): ∀x∈K.P,0≤x∧x<1000:=by
 intro x hx;obtain⟨j,hj,rfl⟩:=vO hx;have hj':j<K.c.op.length:=by rw [←h.plen];exact hj
 have h1:=h.idx hj';have h2:K.On.idxOf j<K.On.length:=vD ((h.omem j).2 hj');have h3:=h.olen;have h4:=h.n12;rw [jW,kl hj]at h1;simp only [jG]at h1;omega
theorem jha {K:HK}(h:Vw K){T:Nat→Fr}{l:List Nat}{R:List Int}(hl: ∀i∈l,i<K.c.op.length)(hp:R.Perm (xq l))(hs:R.Pairwise (leT T K.P)): ∃r,R=xq r∧Rk T K.On l r∧r.length=l.length:=by
 have h0: ∀x∈R,0≤x∧x.toNat∈l:=fun x hx=>by
  have:=hp.mem_iff.1 hx;unfold xq at this;obtain⟨i,hi,rfl⟩:=jl.1 this;exact⟨by omega,by simpa using hi⟩
 refine⟨R.map Int.toNat,(jbh R (fun x hx=>(h0 x hx).1)).symm,⟨?_,?_⟩,by rw [jz,hp.length_eq,yh]⟩
 ·have:=hp.map Int.toNat
  rwa [jfM]at this
 ·rw [List.pairwise_map];refine List.Pairwise.imp_of_mem (fun {a b} ha hb hle=>?_) hs;have h1:=hl _ (h0 a ha).2;have h2:=hl _ (h0 b hb).2;rcases hle with hle|⟨e1,e2⟩;·exact .inl hle
  ·refine .inr ⟨e1,?_⟩;rw [h.idx h1,h.idx h2]at e2;omega
theorem ZO {K:HK}(h:Vw K){l:List Nat}(hl: ∀i∈l,i<K.c.op.length)(hd:l.Nodup):(xq l).Pairwise fun y x=>K.P.getD y.toNat 0≠K.P.getD x.toNat 0:=by
 unfold xq;rw [List.pairwise_map];refine List.Pairwise.imp_of_mem (fun {a b} ha hb hne=>?_) hd;simp only [Int.toNat_natCast];exact h.place_ne (hl a ha) (hl b hb) hne
theorem jlt {x y:Fr}(ox:0<x.d)(oy:0<y.d):(!decide (Qe x y≤0))=decide (y.v<x.v):=by
 rcases Kh ox oy with⟨h1,h2⟩|⟨h1,h2⟩|⟨h1,h2⟩;·rw [h1,jS (show ¬y.v<x.v by grind)];rfl
 ·rw [h1,jS (show ¬y.v<x.v by grind)];rfl
 ·rw [h1,jQ h2];rfl
theorem Xi {l:List Nat}(p:Nat→Bool):(l.filter p).length≤l.length:=kt _ _
theorem Xf {w:World}{kb:Nat}{n i:Nat}{xa xb:Nat→Value}{T:TypeId}(a b:Value)(h:w.heap[kb]?=some (.cells (yg n xa xb).toArray T (0,0)))(hi:i<n):(w.setCells kb (i*2) [a,b]).heap[kb]?=some (.cells (yg n (upd xa i a) (upd xb i b)).toArray T (0,0)):=by
 have h1:=jd w kb (i*2) _ _ a h;have h2:=jd (w.setCell ⟨kb,i*2,none⟩ a) kb (i*2+1) _ _ b h1;show((w.setCell ⟨kb,i*2,none⟩ a).setCell ⟨kb,i*2+1,none⟩ b).heap[kb]?=_;rw [h2];congr 2;apply Array.ext_getElem?;intro j;have hl: ∀(xa xb:Nat→Value),(yg n xa xb).length=n*2:=fun xa xb=>zw n xa xb;have hj:j=(j/2)*2∨j=(j/2)*2+1:=by omega
 simp only [Array.getElem?_setIfInBounds,jE,Array.size_setIfInBounds,vq,hl];by_cases hjn:j/2<n
 ·obtain⟨g1,g2⟩:=Kd n xa xb (j/2) hjn;obtain⟨g3,g4⟩:=Kd n (upd xa i a) (upd xb i b) (j/2) hjn;rcases hj with hj|hj
  ·rw [jT (show ¬(i*2+1=j)by omega)];by_cases e:i=j/2
   ·rw [jR (show i*2=j by omega),jR (by omega)];rw [hj,g3,←e,xT]
   ·rw [jT (show ¬(i*2=j)by omega),hj,g1,g3,xX _ _ _ _ (fun e2=>e e2.symm)]
  ·by_cases e:i=j/2
   ·rw [jR (show i*2+1=j by omega),jR (by omega)];rw [hj,g4,←e,xT]
   ·rw [jT (show ¬(i*2+1=j)by omega),jT (show ¬(i*2=j)by omega),hj,g2,g4,xX _ _ _ _ (fun e2=>e e2.symm)]
 ·rw [jT (show ¬(i*2+1=j)by omega),jT (show ¬(i*2=j)by omega),kP (by rw [hl];omega),kP (by rw [hl];omega)]
structure Rnk(n:Nat)(b:List Int):Prop where
 len:b.length=n
 bd: ∀x∈b,0≤x∧x≤n
 inj: ∀i j (hi:i<b.length) (hj:j<b.length),b[i]=b[j]→0<b[i]→i=j
 gap: ∀r,r<zo b→((r+1:Nat):Int)∈b
theorem jlb(c:yE)(b:List Int): ∀d k,k+d=b.length→okL c (b.take k) (b.drop k)=true→ ∀j (h:j<b.length),k≤j→okX c (b.take j) b[j]=true:=by
 intro d
 induction d with
 |zero=>intro k hk _ j hj hkj;omega
 |
  succ d ih=>
  intro k hk ho j hj hkj;have hlt:k<b.length:=by omega
  rw [jeR c b k hlt,jy]at ho;by_cases e:k=j;·subst e;exact ho.1
  ·exact ih (k+1) (by omega) ho.2 j hj (by omega)
theorem jfW {c:yE}{b:List Int}(hr:zD c.rl=true)(hl:b.length=c.op.length)(h:zY c b=true):Rnk c.op.length b:=by
 unfold zY at h;rw [jy,jy,hr]at h;obtain⟨⟨h1,h2⟩,_⟩:=h;have h3:=jlb c b b.length 0 (by omega) h1;have ht:XD c=(c.op.length:Int):=jR hr;refine⟨hl,fun x hx=>?_,fun i j hi hj he h0=>?_,fun r hr2=>?_⟩
 ·obtain⟨j,hj,rfl⟩:=vO hx;have:=h3 j hj (ji _);unfold okX at this;rw [jy,kK,ht]at this;exact this.1
 ·rcases Nat.lt_trichotomy i j with hlt|heq|hlt
  ·exfalso;have:=h3 j hj (ji _);unfold okX at this;rw [jy]at this;have h4:=this.2;rw [hr,jQ (he▸h0),jQ (show b[j]∈b.take j from by rw [←he];exact vu.2 ⟨i,by omega,rfl⟩)]at h4;exact absurd h4 (by decide)
  ·exact heq
  ·exfalso;have:=h3 i hi (ji _);unfold okX at this;rw [jy]at this;have h4:=this.2;rw [hr,jQ h0,jQ (show b[i]∈b.take i from by rw [he];exact vu.2 ⟨j,by omega,rfl⟩)]at h4;exact absurd h4 (by decide)
 ·rw [Bool.not_true,Bool.false_or]at h2;unfold Zt at h2;exact qY (kr.1 h2 r (jf.2 hr2))
def JE(b:List Int):List Nat:=(List.range (zo b)).map fun r=>b.idxOf ((r+1:Nat):Int)
theorem VD(b:List Int):(JE b).length=zo b:=by simp [JE]
theorem Rnk.lt {n:Nat}{b:List Int}(h:Rnk n b): ∀i∈JE b,i<n:=by
 intro i hi;unfold JE at hi;obtain⟨r,hr,rfl⟩:=jl.1 hi;rw [←h.len];exact vD (h.gap r (jf.1 hr))
theorem Rnk.at_ {n:Nat}{b:List Int}(h:Rnk n b){i:Nat}(hi:i<b.length)(h0:0<b[i])(hp:b[i].toNat-1<zo b):(JE b)[b[i].toNat-1]?=some i:=by
 unfold JE;rw [qK,xC hp];simp only [Option.map_some,Option.some.injEq];have hx:=h.bd _ (jj hi);have e:((b[i].toNat-1+1:Nat):Int)=b[i]:=by omega
 rw [e];have hm:b[i]∈b:=jj hi;have hlt:=vD hm;have h1:=List.getElem_idxOf (x:=b[i]) (xs:=b) hlt;exact h.inj _ _ hlt hi h1 (by rw [h1];exact h0)
structure jef(b R:List Int)(k:Nat):Prop where
 len:R.length=b.length
 set: ∀i (hi:i<b.length),i<k→0<b[i]→R[b[i].toNat-1]?=some (i:Int)
theorem jef.skip {b R:List Int}{k:Nat}(h:jef b R k)(hk:k<b.length)(h0: ¬0<b[k]):jef b R (k+1):=⟨h.len,fun i hi hik hp=>by
 by_cases e:i=k;·subst e;exact absurd hp h0
 ·exact h.set i hi (by omega) hp⟩
theorem jef.put {n:Nat}{b R:List Int}{k:Nat}(hb:Rnk n b)(h:jef b R k)(hk:k<b.length)(h0:0<b[k]):jef b (R.set (b[k].toNat-1) (k:Int)) (k+1):=⟨by rw [kD];exact h.len,fun i hi hik hp=>by
 have hx:=hb.bd _ (jj hk);have hl:=hb.len;by_cases e:i=k
 ·subst e;rw [List.getElem?_set_self (by rw [h.len];omega)]
 ·have hxi:=hb.bd _ (jj hi)
  rw [vS (by
   intro e2;exact e (hb.inj i k hi hk (by omega) hp))]
  exact h.set i hi (by omega) hp⟩
theorem jef.done {n:Nat}{b R:List Int}(hb:Rnk n b)(h:jef b R b.length): ∀j (hj:j<(JE b).length),R[j]?=some (((JE b)[j]:Nat):Int):=by
 intro j hj;have hj':j<zo b:=by rw [←VD];exact hj
 have hm:=hb.gap j hj';obtain⟨i,hi,he⟩:=vO hm;have h1:=h.set i hi hi (by rw [he];omega);have h2:=hb.at_ hi (by rw [he];omega) (by rw [he];omega);rw [he]at h1 h2;have e:((j+1:Nat):Int).toNat-1=j:=by omega
 rw [e]at h1 h2;rw [kl hj]at h2;rw [h1];injection h2 with h2;rw [h2]
theorem jig(b:List Int)(k:Nat)(h:k<b.length):zo (b.take (k+1))=zo (b.take k)+if 0<b[k]then 1 else 0:=by
 rw [jk h,jcu]
theorem jgc(n:Nat)(b:List Int)(ob:Option Addr)(cb:Nat)(w:World)(hb:Rnk n b)(hn:n≤12)(h:yj w ob b):
 Calls prog 121 #[.slice ob b.length cb] w fun e w'=> ∃(g:Nat) (R:List Int),e=.returned (.slice (some ⟨g,0,none⟩) (JE b).length n)∧w.heap.size≤g∧w'.heap[g]?=some (.cells (xU R).toArray 3 (0,0))∧(∀j (hj:j<(JE b).length),R[j]?=some (((JE b)[j]:Nat):Int))∧Below w.heap.size w w':=by
 obtain⟨i0,hi0,hz0,hz1,hz2⟩:=info_parts KL;have I0:=jA hi0;have IZ0:=jA hz0;have IZ1:=jA hz1;have IZ2:=jA hz2;have HBR:=jA hb;have HL:=jA hb.len;have HI:=jA h;have hl12:b.length≤12:=by rw [hb.len];exact hn
 clear hi0 hz0 hz1 hz2 hb h;go_enter Tryz.func121,Tryz.ntmps121;go_upto_region 2 with(refine wpList_make_row _ rfl _ _ 29 rfl 3 i0 (.int .i64 0) underlying29 I0.u IZ0.u IZ1.u rfl .i64 .i64 b.length rfl rfl (by rw [IZ2.u];omega) (by omega) ?_);have hR0:(w.alloc (.cells (madeCells #[Value.int .i64 0] b.length) 3)).heap[w.heap.size]?=some (.cells (xU (List.replicate b.length 0)).toArray 3 (0,0)):=by
  rw [xN rfl];congr 2;have:=toList_madeCells_one (.int .i64 0) b.length;rw [←Array.toArray_toList (xs:=madeCells #[Value.int .i64 0] b.length),this];simp [xU]
 have hb0:Below w.heap.size w (w.alloc (.cells (madeCells #[Value.int .i64 0] b.length) 3)):=(jN _ _).alloc (jO _) _;generalize hB:w.heap.size=B at*;have HB:=jA hB;refine xP (fun w1=>w1.heap[B]?=some (.cells (xU (List.replicate b.length 0)).toArray 3 (0,0))∧Below B w w1) ⟨hR0,hb0⟩ (fun w1 hw1=>?_);have H1:=jA hw1;clear hw1 hR0 hb0 hB;go_wp2_with fail;go_loopw [12,4] (fun v c wr=> ∃(k:Nat) (R:List Int),v=.int .i64 k∧c=.int .i64 (zo (b.take k))∧k≤b.length∧jef b R k∧wr.heap[B]?=some (.cells (xU R).toArray 3 (0,0))∧Below B w wr) (fun v _ _=>b.length-(intOf v).toNat);case atStart=>exact⟨0,_,rfl,rfl,ji _,⟨by simp,fun i _ h=>by omega⟩,H1.u.1,H1.u.2⟩
 case round=>
 clear H1;obtain⟨k,R,rfl,rfl,hk,hra,hc,hbw⟩:=hrel;have RA:=jA hra;have HC:=jA hc;have BR:=jA hbw;have hRl:=hra.len;have hpos:zo (b.take k)≤k:=jU (jdD _) (by rw [jX];omega);clear hra hc hbw;by_cases hlt:k<b.length;case neg=>
  have dk:decide ((k:Int)<(b.length:Int))=false:=jS (by omega);have dk2:decide (k<b.length)=false:=jS hlt;obtain rfl:k=b.length:=by omega
  have hpl:=jA (show zo (b.take b.length)=(JE b).length by rw [kG,VD]);have HX:=jA hRl;clear hRl;generalize zo (b.take b.length)=c at*;have e1:(c:Int)≤(b.length:Int):=by omega
  go_wp2_with fail;go_ret;exact⟨B,R,by rw [←hpl.u,←HL.u];rfl,kg HB.u,HC.u,RA.u.done HBR.u,by rw [HB.u];exact BR.u⟩
 have dk:decide ((k:Int)<(b.length:Int))=true:=jQ (by omega);have dk2:decide (k<b.length)=true:=jQ hlt;have dki:(k:Int)<(b.length:Int):=by omega
 obtain⟨a,hoa,hab,hac⟩:=(HI.u.below (HB.u.symm▸BR.u)).cells k hlt;have HX:=jA (HBR.u.bd _ (jj hlt));have PT:=jA (jig b k hlt);have HSK:=jA (fun h=>RA.u.skip hlt h);have HPU:=jA (fun h=>RA.u.put HBR.u hlt h);have hbl:=lt_of_heap HC.u;have RL:=jA hRl;subst hoa;clear hRl;generalize b[k]=x at*;generalize hpc:zo (b.take k)=c at*;have HPC:=jA hpc;clear hpc;by_cases hx:0<x;case neg=>
  have dx:decide ((0:Int)<x)=false:=jS hx;have hn1:=jA (HSK.u hx);have hn2:=jA (show zo (b.take (k+1))=c by rw [PT.u,jT hx];rfl);clear hx;go_wp2_with fail;go_roundw;case rel=>exact⟨k+1,R,by go_num,by rw [hn2.u],by omega,hn1.u,HC.u,BR.u⟩
  case measure=>simp [intOf];omega
 have dx:decide ((0:Int)<x)=true:=jQ hx;have hn1:=jA (HPU.u hx);have hn2:=jA (show zo (b.take (k+1))=c+1 by rw [PT.u,jR hx]);obtain⟨y,hy⟩: ∃y:Nat,x=(y:Int)+1:=⟨x.toNat-1,by omega⟩;have hyl:y<b.length:=by have:=HX.u;have:=HL.u;omega
 have HY:=jA (show x.toNat-1=y by omega);subst hy;rw [HY.u]at hn1;have dy:(y:Int)<(b.length:Int):=by omega
 have hcy: ∃u,wr.cell? ⟨B,y,none⟩=some u:=⟨.int .i64 (R[y]'(by rw [RL.u];exact hyl)),by rw [jM wr B y _ _ _ HC.u];simp [xU,RL.u,hyl]⟩;obtain⟨u,hcy⟩:=hcy;have zcy:wr.frozen? ⟨B,y,none⟩=false:=jb wr B y _ _ HC.u;have HST:=jA (jd wr B y _ _ (.int .i64 (k:Int)) HC.u);clear hx;have e5:wrap64 (y:Int)=(y:Int):=IntWalk.wrap64_in _ (by omega);go_wp2_with fail;go_roundw;case rel=>
  refine⟨k+1,R.set y (k:Int),by go_num,by rw [hn2.u];go_num,by omega,hn1.u,?_,xQ BR.u (xh y _) (jO _)⟩;rw [HST.u];congr 2;simp [xU,List.map_set]
 case measure=>simp [intOf];omega
def zW:Value:=.slice none 0 0
def mkK(K:HK)(a b:Value)(eb m:Nat)(pb rg rn:Nat→Nat)(rc:Nat→Array Value):HK:=⟨K.c,K.oa,K.cap,K.oO,K.cO,K.oP,K.cP,K.O,K.P,a,b,K.hb,K.wb,K.kb,K.cb,K.mb,eb,m,pb,rg,rn,rc,K.w0⟩
def blank:Vo:=⟨[],0,none,one⟩
def start(rk:List Nat):Vo:=⟨rk,0,none,one⟩
def c0(n:Nat):Nat→Bool:=fun i=>decide (i<n)
def S0(n:Nat)(Rs:List (List Nat))(k:Nat):St:=⟨fun j=>if j<k then(start (Rs.getD j [])).go (c0 n)else blank,c0 n,fun _=>false,fun _=>zero,[]⟩
theorem jhv(n:Nat)(Rs:List (List Nat))(k:Nat):yn (yn (S0 n Rs k) k (start (Rs.getD k []))) k ((start (Rs.getD k [])).go (c0 n))=S0 n Rs (k+1):=by
 rw [KV];unfold yn S0;congr 1;funext j;unfold upd;by_cases e:j=k;·subst e;simp
 ·by_cases h:j<k;·simp [e,h,show j<k+1 by omega]
  ·simp [e,h,show ¬j<k+1 by omega]
theorem xZ.add {K:HK}{a b:Value}{eb k:Nat}{pb rg rn:Nat→Nat}{rc:Nat→Array Value}{q:Fr}{S:St}{G:HG}{w:World}(h:xZ (mkK K a b eb k pb rg rn rc) q S G w)(hev:G.ev=zW)(hel:S.el= [])
 {rk:List Nat} {g p r:Nat} {cs:Array Value} {x y:Value} {wt:Fr} (hg:w.heap[g]?=some (.cells cs 3 (0,0))) (hp:w.heap[p]?=some (.cells #[.slice (some ⟨g,0,none⟩) rk.length r,x,y,.int .i64 (0:Int)] 168 (0,0)))
 (hcs: ∀j (hj:j<rk.length),cs[j]?=some (.int .i64 ((rk[j]:Nat):Int))) (hr:rk.length≤r) (h12:rk.length≤12) (hf:FrV w wt x y) (hpb: ∀j,j<k→pb j≠p) (hb:K.w0.heap.size≤p):
 xZ (mkK K a b w.heap.size (k+1) (upd pb k p) (upd rg k g) (upd rn k r) (upd rc k cs)) q (yn S k ⟨rk,0,none,wt⟩) ⟨G.pv,G.nv,G.ev,G.PL,upd G.wn k x,upd G.wd k y,G.kn,G.kd⟩ w:=by
 have hne: ∀j,j<k→j≠k:=fun j hj=>by omega
 have hlt: ∀j,j<k+1→j≠k→j<k:=fun j hj he=>by omega
 have hV: ∀j,j≠k→(yn S k ⟨rk,0,none,wt⟩).V j=S.V j:=fun j hj=>xX _ _ _ _ hj;refine⟨h.bel,h.hall,h.withs,h.kepts,h.conts,h.moveds,h.cm,fun j hj=>?_,fun i j hi hj he=>?_,fun j hj=>?_,fun j hj=>?_,fun j hj=>?_,fun j hj=>?_,h.keps,h.quo,fun i hi=>?_,?_,h.apart,h.apartN,fun o=>⟨(h.pls o).1,fun j hj=>?_⟩,?_,⟨h.bases.1,h.bases.2.1,h.bases.2.2.1,h.bases.2.2.2.1,h.bases.2.2.2.2.1,h.bel.size,fun j hj=>?_⟩,h.contb,jO _⟩
 ·show w.heap[upd pb k p j]?=some (.cells #[.slice (some ⟨upd rg k g j,0,none⟩) ((yn S k ⟨rk,0,none,wt⟩).V j).rk.length (upd rn k r j),upd G.wn k x j,upd G.wd k y j,.int .i64 (((yn S k ⟨rk,0,none,wt⟩).V j).nx:Int)] _ _);by_cases e:j=k
  ·subst e;rw [xT,xT,xT,xT,xT,JG];exact hp
  ·rw [xX _ _ _ _ e,xX _ _ _ _ e,xX _ _ _ _ e,xX _ _ _ _ e,xX _ _ _ _ e,hV j e];exact h.papers j (hlt j hj e)
 ·have he':upd pb k p i=upd pb k p j:=he;by_cases e1:i=k
  ·by_cases e2:j=k;·omega
   ·subst e1;rw [xT,xX _ _ _ _ e2]at he';exact absurd he'.symm (hpb j (hlt j hj e2))
  ·by_cases e2:j=k
   ·subst e2;rw [xT,xX _ _ _ _ e1]at he';exact absurd he' (hpb i (hlt i hi e1))
   ·rw [xX _ _ _ _ e1,xX _ _ _ _ e2]at he';exact h.pinj i j (hlt i hi e1) (hlt j hj e2) he'
 ·show w.heap[upd rg k g j]?=some (.cells (upd rc k cs j) _ _)∧upd rg k g j<w.heap.size;by_cases e:j=k;·subst e;rw [xT,xT];exact⟨hg,lt_of_heap hg⟩
  ·rw [xX _ _ _ _ e,xX _ _ _ _ e];have h1:=(h.ranks j (hlt j hj e)).1;exact⟨h1,lt_of_heap h1⟩
 ·show ∀i (hi:i<((yn S k ⟨rk,0,none,wt⟩).V j).rk.length),(upd rc k cs j)[i]?=some (.int .i64 ((((yn S k ⟨rk,0,none,wt⟩).V j).rk[i]:Nat):Int));by_cases e:j=k;·subst e;rw [JG,xT];exact hcs
  ·rw [hV j e,xX _ _ _ _ e];exact h.rkc j (hlt j hj e)
 ·show _≤upd rn k r j∧_∧_;by_cases e:j=k;·subst e;rw [JG,xT];exact⟨hr,h12,ji _⟩
  ·rw [hV j e,xX _ _ _ _ e];exact h.rkl j (hlt j hj e)
 ·show FrV w _ (upd G.wn k x j) (upd G.wd k y j);by_cases e:j=k;·subst e;rw [JG,xT,xT];exact hf
  ·rw [hV j e,xX _ _ _ _ e,xX _ _ _ _ e];exact h.wts j (hlt j hj e)
 ·have h1:=h.piles i hi;have e:KC (mkK K a b w.heap.size (k+1) (upd pb k p) (upd rg k g) (upd rn k r) (upd rc k cs)) (G.PL (some i))=KC (mkK K a b eb k pb rg rn rc) (G.PL (some i)):=by
   unfold KC;refine qu fun j hj=>?_;have:=((h.pls (some i)).2 j hj).1;show Value.pointer (some ⟨upd pb k p j,0,none⟩)=Value.pointer (some ⟨pb j,0,none⟩);rw [xX _ _ _ _ (hne j this)]
  rw [e];exact h1
 ·have h1:=h.nones;have e:KC (mkK K a b w.heap.size (k+1) (upd pb k p) (upd rg k g) (upd rn k r) (upd rc k cs)) (G.PL none)=KC (mkK K a b eb k pb rg rn rc) (G.PL none):=by
   unfold KC;refine qu fun j hj=>?_;have:=((h.pls none).2 j hj).1;show Value.pointer (some ⟨upd pb k p j,0,none⟩)=Value.pointer (some ⟨pb j,0,none⟩);rw [xX _ _ _ _ (hne j this)]
  rw [e];exact h1
 ·have h1:=(h.pls o).2 j hj;have h2:j<k:=h1.1;exact⟨by show j<k+1;omega,by rw [hV j (hne j h2)];exact h1.2⟩
 ·show GRow noLimb w w.heap.size _ 1 G.ev S.el.length (xU (S.el.map fun i:Nat=>(i:Int)));rw [hev,hel];exact GRow.nil
 ·show K.w0.heap.size≤upd pb k p j;by_cases e:j=k;·subst e;rw [xT];exact hb
  ·rw [xX _ _ _ _ e];exact h.bases.2.2.2.2.2.2 j (hlt j hj e)
theorem Yz.add {K:HK}{a b:Value}{eb k:Nat}{pb rg rn:Nat→Nat}{rc:Nat→Array Value}{n:Nat}{Rs:List (List Nat)}{G G':HG}{K':HK}(hm:K'.m=k+1)(hF:Yz (mkK K a b eb k pb rg rn rc) (S0 n Rs k) G)(hP:G'.PL=upd G.PL ((start (Rs.getD k [])).go (c0 n)).wi (G.PL ((start (Rs.getD k [])).go (c0 n)).wi++ [k])):Yz K' (S0 n Rs (k+1)) G':=by
 intro j hj;rw [hm]at hj;rw [hP];by_cases e:j=k
 ·subst e;have h1:(S0 n Rs (j+1)).V j=(start (Rs.getD j [])).go (c0 n):=jR (by omega);rw [h1,xT];exact jh.2 (.inr (by simp))
 ·have hjk:j<k:=by omega
  have h1:(S0 n Rs (k+1)).V j=(S0 n Rs k).V j:=by
   show(if j<k+1 then _ else _)=(if j<k then _ else _);rw [jR (by omega),jR hjk]
  rw [h1];have h2:=hF j hjk;by_cases e2:((S0 n Rs k).V j).wi=((start (Rs.getD k [])).go (c0 n)).wi;·rw [e2,xT];rw [e2]at h2;exact jh.2 (.inl h2)
  ·rw [xX _ _ _ _ e2];exact h2
end Go.Proofs.YtnohcdpnnhmpfaaGreatDoor.TR
namespace Go.Proofs.YtnohcdpnnhmpfaaGreatDoor.TR
open Go.RowKit Tryz ML FRP AU CT FM Go.Seg
theorem wpList_build {P:Program}{ops:Array Oper}{rest:List Oper}{o:Oper}{a:Act}{w:World}{Q:Exit→Act→World→Prop}(hgd:o.guard=none)(t:TypeId)(parts:Array (Nat×Operand))(ho:o.op=.build t parts)(l:List (Nat×Value))(hp:(parts.map fun(i,x)=>(i,a.eval x)).toList=l)(cells:Array Value)(hf:P.built t l=some cells)
 (h:wpList P ops Q rest (a.put o.dst (.agg cells)) w):wpList P ops Q (o::rest) a w:=by
 refine wpList_plain hgd fun K hK=>?_;have hr:=run_build (P:=P) w t (parts.map fun(i,x)=>(i,a.eval x)) cells (by rw [hp];exact hf);unfold Oper.wp execOp;simp only [ho,kJ,hr,qF];exact hK _ _ h
theorem jgO(nm:ByteArray)(oa:Option Addr)(n cap:Nat)(r s m:Int)(oO:Option Addr)(lO cO:Nat)(oP:Option Addr)(lP cP:Nat)(W K C M N:Nat):prog.built 116 [(0,.agg #[.string nm,.slice oa n cap,.int .i64 r,.int .i64 s,.int .i64 m,.slice oO lO cO,.slice oP lP cP]),(2,.slice (some ⟨W,0,none⟩) N N),(4,.slice (some ⟨K,0,none⟩) N N),(5,.slice (some ⟨C,0,none⟩) N N),(6,.slice (some ⟨M,0,none⟩) N N)]=some #[.string nm,.slice oa n cap,.int .i64 r,.int .i64 s,.int .i64 m,.slice oO lO cO,.slice oP lP cP,.slice none 0 0,.slice none 0 0,.slice (some ⟨W,0,none⟩) N N,.slice none 0 0,.slice (some ⟨K,0,none⟩) N N,.slice (some ⟨C,0,none⟩) N N,.slice (some ⟨M,0,none⟩) N N,.slice none 0 0]:=by kernel_rfl
def jgk(c:yE)(oa:Option Addr)(cap:Nat)(oO:Option Addr)(lO cO:Nat)(oP:Option Addr)(lP cP WB KB CB MB:Nat):List (Nat×Value):= [(0,.agg #[.string ⟨c.nm.toArray⟩,.slice oa c.op.length cap,.int .i64 c.rl,.int .i64 c.se,.int .i64 c.mo,.slice oO lO cO,.slice oP lP cP]),(2,.slice (some ⟨WB,0,none⟩) c.op.length c.op.length),(4,.slice (some ⟨KB,0,none⟩) c.op.length c.op.length),(5,.slice (some ⟨CB,0,none⟩) c.op.length c.op.length),(6,.slice (some ⟨MB,0,none⟩) c.op.length c.op.length)]
theorem jee(c:yE)(oa:Option Addr)(cap:Nat)(oO:Option Addr)(lO cO:Nat)(oP:Option Addr)(lP cP WB KB CB MB:Nat):prog.built 116 (jgk c oa cap oO lO cO oP lP cP WB KB CB MB)=some #[.string ⟨c.nm.toArray⟩,.slice oa c.op.length cap,.int .i64 c.rl,.int .i64 c.se,.int .i64 c.mo,.slice oO lO cO,.slice oP lP cP,.slice none 0 0,.slice none 0 0,.slice (some ⟨WB,0,none⟩) c.op.length c.op.length,.slice none 0 0,.slice (some ⟨KB,0,none⟩) c.op.length c.op.length,.slice (some ⟨CB,0,none⟩) c.op.length c.op.length,.slice (some ⟨MB,0,none⟩) c.op.length c.op.length,.slice none 0 0]:=jgO _ oa _ cap _ _ _ oO _ cO oP _ cP WB KB CB MB _
theorem jkI(w:World)(o:Obj):Below w.heap.size w (w.alloc o):=(jN _ _).alloc (jO _) _
theorem jcL:(prog.info? 113).map (fun i=>(i.zero,i.size,i.bytes))=some (some (.slice none 0 0),1,24):=by kernel_rfl
theorem XM:(prog.info? 4).map (fun i=>(i.zero,i.size,i.bytes))=some (some (.bool false),1,1):=by kernel_rfl
theorem jbF {P:Program}{o:Oper}{a:Act}{w:World}{K:Act→World→Prop}{Q:Exit→Act→World→Prop}(ty:TypeId)(y:Operand)(ho:o.op=.load ty y)(b:Nat)(cs:Array Value)(t:TypeId)(fr:Nat×Nat)(d:TypeDesc)
 (hx:a.eval y=.pointer (some ⟨b,0,none⟩)) (hb:w.heap[b]?=some (.cells cs t fr)) (hu:P.underlying ty=some d) (hd:(match d with| .struct _=>true| .array _ _=>true|_=>false)=true)
 (hi:(P.info? ty).map (·.size)=some cs.size) (h:K (a.put o.dst (.agg cs)) w):o.wp P a w K Q:=by
 have hr:=run_loadVar_row (P:=P) w b t ty cs fr d hb hu (by cases d<;>first|rfl|exact hd) hi;unfold Oper.wp execOp;simp only [ho,hx,Instr.loadAt,Instr.sureAddr,kJ,qo,qF,hr];exact h
def Mk(M T s n:Nat)(z:Value)(b:Bool)(v:Value)(w:World):Prop:=b=true→ ∃W,v=.slice (some ⟨W,0,none⟩) n n∧W<w.heap.size∧w.ownsRow M T s (.slice (some ⟨W,0,none⟩) n n) n (madeCells z.cells (n*s)).toList
theorem Mk.keep {M T s n:Nat}{z:Value}{b:Bool}{v:Value}{w w':World}(h:Mk M T s n z b v w)(tw:Below w.heap.size w w'):Mk M T s n z b v w':=fun hb=>by
 obtain⟨W,e,l,o⟩:=h hb;exact⟨W,e,jV l tw.size,xk o tw⟩
theorem Mk.ne {M T s n:Nat}{z:Value}{b:Bool}{v:Value}{w:World}(h:Mk M T s n z b v w)(hb:b=true):Value.slice (some ⟨w.heap.size,0,none⟩) n n≠v:=fun e=>by
 obtain⟨W,e2,l,_⟩:=h hb;rw [e2]at e;injection e with e;injection e with e;injection e with e;omega
noncomputable def nReg(n:Nat):Code:=((Tryz.f71.body.bind (Qp n)).getD .skip)
theorem jip(c:yE)(oa:Option Addr)(cap:Nat)(oO:Option Addr)(lO cO:Nat)(oP:Option Addr)(lP cP B M:Nat)(w0:World)(Q:Exit→Act→World→Prop){u0 u1 u3 u4 u6 u7 u8 u9 u10 u11 u12 u13 u14 u15 u16 u17 u18 u19 u20 u21 u22 u23 u24 u25 u26 u27 u28 u29 u30 u31 u32 u33 u34 u35 u36 u37 u38 u39 u40 u41 u42 u43 u44 u45 u46 u47 u48 u49 u50 u51 u52 u53 u54 u55 u56 u57 u58 u59 u60 u61 u62 u63 u64 u65 u66 u67 u68 u69 u70 u71:Value}(hn:c.op.length≤12)(hM:w0.heap.size=M)(hB1:w0.heap[B]?=some (.cells (#[.string ⟨c.nm.toArray⟩,.slice oa c.op.length cap,.int .i64 c.rl,.int .i64 c.se,.int .i64 c.mo,.slice oO lO cO,.slice oP lP cP]) 62 (0,0)))
 (hP: ∀(c:List PanicEntry) (a:Act) (d:Option Nat) (v:Value) (w:World),Q (.panic c) (a.put d v) w→Q (.panic c) a w)
 (hQ: ∀(v14 v15 v16 v17 v18 v19 v20 v21 v22 v23 v24:Value) (Hb WB KB CB MB:Nat) (w':World),CB≠MB∧M≤Hb∧w'.heap[Hb]?=some (.cells (#[.string ⟨c.nm.toArray⟩,.slice oa c.op.length cap,.int .i64 c.rl,.int .i64 c.se,.int .i64 c.mo,.slice oO lO cO,.slice oP lP cP,.slice none 0 0,.slice none 0 0,.slice (some ⟨WB,0,none⟩) c.op.length c.op.length,.slice none 0 0,.slice (some ⟨KB,0,none⟩) c.op.length c.op.length,.slice (some ⟨CB,0,none⟩) c.op.length c.op.length,.slice (some ⟨MB,0,none⟩) c.op.length c.op.length,.slice none 0 0]) 116 (0,0))∧w'.ownsRow M 113 1 (.slice (some ⟨WB,0,none⟩) c.op.length c.op.length) c.op.length (madeCells (Value.cells (.slice none 0 0)) (c.op.length*1)).toList∧w'.ownsRow M 90 2 (.slice (some ⟨KB,0,none⟩) c.op.length c.op.length) c.op.length (madeCells (Value.cells (.agg #[.slice none 0 0,.slice none 0 0])) (c.op.length*2)).toList∧w'.ownsRow M 4 1 (.slice (some ⟨CB,0,none⟩) c.op.length c.op.length) c.op.length (madeCells (Value.cells (.bool false)) (c.op.length*1)).toList∧w'.ownsRow M 4 1 (.slice (some ⟨MB,0,none⟩) c.op.length c.op.length) c.op.length (madeCells (Value.cells (.bool false)) (c.op.length*1)).toList∧Below M w0 w'→Q .normal ⟨#[u0,u1,.pointer (some ⟨B,0,none⟩),u3,u4,.int .i64 (c.op.length:Int),.pointer (some ⟨Hb,0,none⟩),u7,u8,u9,u10,u11,u12,u13,v14,v15,v16,v17,v18,v19,v20,v21,v22,v23,v24,u25,u26,u27,u28,u29,u30,u31,u32,u33,u34,u35,u36,u37,u38,u39,u40,u41,u42,u43,u44,u45,u46,u47,u48,u49,u50,u51,u52,u53,u54,u55,u56,u57,u58,u59,u60,u61,u62,u63,u64,u65,u66,u67,u68,u69,u70,u71],[]⟩ w'):
 Code.wp prog (nReg 2) Q ⟨#[u0,u1,.pointer (some ⟨B,0,none⟩),u3,u4,.int .i64 (c.op.length:Int),u6,u7,u8,u9,u10,u11,u12,u13,u14,u15,u16,u17,u18,u19,u20,u21,u22,u23,u24,u25,u26,u27,u28,u29,u30,u31,u32,u33,u34,u35,u36,u37,u38,u39,u40,u41,u42,u43,u44,u45,u46,u47,u48,u49,u50,u51,u52,u53,u54,u55,u56,u57,u58,u59,u60,u61,u62,u63,u64,u65,u66,u67,u68,u69,u70,u71],[]⟩ w0:=by
 have HP:=jA hP;have HQ:=jA hQ;have HB1:=jA hB1;obtain⟨p0,pI',pA',pB',pC'⟩:=info_parts jcL;obtain⟨f0,fI',fA',fB',fC'⟩:=info_parts Zq;obtain⟨b0,bI',bA',bB',bC'⟩:=info_parts XM;have pI:=jA pI';have pA:=jA pA';have pB:=jA pB';have pC:=jA pC';have fI:=jA fI';have fA:=jA fA';have fB:=jA fB';have fC:=jA fC';have bI:=jA bI';have bA:=jA bA';have bB:=jA bB';have bC:=jA bC';have hBM:B<M:=by rw [←hM];exact lt_of_heap hB1
 have hMw:M≤w0.heap.size:=kg hM.symm;clear hP hQ hM hB1 pI' pA' pB' pC' fI' fA' fB' fC' bI' bA' bB' bC'
 conv=>arg 2;whnf
 dsimp only
 refine Seg.Ya 9 (fun L a w=> ∃(v14 v15 v16 v17 v18 v19 v20 v21 v22:Value),a=⟨#[u0,u1,.pointer (some ⟨B,0,none⟩),u3,u4,.int .i64 (c.op.length:Int),u6,u7,u8,u9,u10,u11,u12,u13,v14,v15,v16,v17,v18,v19,v20,v21,v22,u23,u24,u25,u26,u27,u28,u29,u30,u31,u32,u33,u34,u35,u36,u37,u38,u39,u40,u41,u42,u43,u44,u45,u46,u47,u48,u49,u50,u51,u52,u53,u54,u55,u56,u57,u58,u59,u60,u61,u62,u63,u64,u65,u66,u67,u68,u69,u70,u71],[]⟩∧Below M w0 w∧M≤w.heap.size∧(L.getD 0 false=true→v14=.agg (#[.string ⟨c.nm.toArray⟩,.slice oa c.op.length cap,.int .i64 c.rl,.int .i64 c.se,.int .i64 c.mo,.slice oO lO cO,.slice oP lP cP]))∧
  (L.getD 1 false=true→v15=(.int .i64 (c.op.length:Int)))∧(L.getD 3 false=true→v17=(.int .i64 (c.op.length:Int)))∧(L.getD 5 false=true→v19=(.int .i64 (c.op.length:Int)))∧(L.getD 7 false=true→v21=(.int .i64 (c.op.length:Int)))∧
  Mk M 113 1 c.op.length (.slice none 0 0) (L.getD 2 false) v16 w∧Mk M 90 2 c.op.length (.agg #[.slice none 0 0,.slice none 0 0]) (L.getD 4 false) v18 w∧Mk M 4 1 c.op.length (.bool false) (L.getD 6 false) v20 w∧Mk M 4 1 c.op.length (.bool false) (L.getD 8 false) v22 w∧(L.getD 6 false=true→L.getD 8 false=true→v20≠v22)) (by kernel_rfl) (by kernel_rfl) ?_ ?_ ?_
 case refine_1=>
  exact⟨_,_,_,_,_,_,_,_,_,rfl,(jN _ _).drew,hMw,fun h=>absurd h (by decide),fun h=>absurd h (by decide),fun h=>absurd h (by decide),fun h=>absurd h (by decide),fun h=>absurd h (by decide),fun h=>absurd h (by decide),fun h=>absurd h (by decide),fun h=>absurd h (by decide),fun h=>absurd h (by decide),fun h=>absurd h (by decide)⟩
 case refine_2=>
  clear hMw;intro i hi L a w hr hI;obtain⟨v14,v15,v16,v17,v18,v19,v20,v21,v22,rfl,hb,hMw,h0,h1,h3,h5,h7,h2,h4,h6,h8,h9⟩:=hI;obtain⟨hun,o,ho,hall⟩:=mem_ready.1 hr;have hs:=Yi hun;have g: ∀j,j≠i→(L.setIfInBounds i true).getD j false=L.getD j false:=fun j hj=>getD_set_ne false (Ne.symm hj);have H0:=jA h0;have H1:=jA h1;have H3:=jA h3;have H5:=jA h5;have H7:=jA h7;have H2:=jA h2;have H4:=jA h4;have H6:=jA h6;have H8:=jA h8;have H9:=jA h9;have HBW:=jA hb;clear h0 h1 h3 h5 h7 h2 h4 h6 h8 h9 hb;have ho2:=(ze hr).symm.trans ho;injection ho2 with ho2;subst ho2;clear ho hr;rcases(show i=0∨i=1∨i=2∨i=3∨i=4∨i=5∨i=6∨i=7∨i=8 by omega)with rfl|rfl|rfl|rfl|rfl|rfl|rfl|rfl|rfl
  ·clear hall;have hX:=xK HBW.u hBM HB1.u
   as_aux_lemma=>
   unfold Seg.yk;intro K hK;have HK:=jA hK;clear hK;rw [jR (by rfl)];refine jbF 62 _ rfl B (#[.string ⟨c.nm.toArray⟩,.slice oa c.op.length cap,.int .i64 c.rl,.int .i64 c.se,.int .i64 c.mo,.slice oO lO cO,.slice oP lP cP]) 62 (0,0) _ rfl hX underlying62 rfl zS ?_;refine HK.u _ _ trivial ?_;simp only [g 1 (by decide),g 2 (by decide),g 3 (by decide),g 4 (by decide),g 5 (by decide),g 6 (by decide),g 7 (by decide),g 8 (by decide)];exact⟨_,_,_,_,_,_,_,_,_,rfl,HBW.u,hMw,(fun _=>rfl),H1.u,H3.u,H5.u,H7.u,H2.u,H4.u,H6.u,H8.u,H9.u⟩
  ·clear hall
   as_aux_lemma=>
   unfold Seg.yk;intro K hK;have HK:=jA hK;clear hK;try simp only [Seg.xf,Seg.opAt,jK]
   first|go_simp|skip
   go_wp2_with fail;refine HK.u _ _ trivial ?_;simp only [g 0 (by decide),g 2 (by decide),g 3 (by decide),g 4 (by decide),g 5 (by decide),g 6 (by decide),g 7 (by decide),g 8 (by decide)];exact⟨_,_,_,_,_,_,_,_,_,rfl,HBW.u,hMw,H0.u,(fun _=>rfl),H3.u,H5.u,H7.u,H2.u,H4.u,H6.u,H8.u,H9.u⟩
  ·have d0:L.getD 1 false=true:=hall ⟨1,.data⟩ (by simp [Seg.opAt]) rfl;clear hall;obtain rfl:=H1.u d0;obtain⟨w',hr',own,hg⟩:=qw (P:=prog) (w:=w) M 112 113 p0 (.slice none 0 0) 1 underlying112 pI.u pA.u pB.u .i64 .i64 c.op.length (by rw [pC.u];omega) (by unfold maxLen;omega) hMw;have OWN:=jA own;clear own
   as_aux_lemma=>
   unfold Seg.yk;intro K hK;have HK:=jA hK;clear hK;try simp only [Seg.xf,Seg.opAt,jK]
   first|go_simp|skip
   try rw [hr']
   go_wp2_with fail;have tw:Below w.heap.size w w':=(jN _ _).grown hg (jO _) (fun _ h=>by cases h);refine HK.u _ _ trivial ?_;simp only [g 0 (by decide),g 1 (by decide),g 3 (by decide),g 4 (by decide),g 5 (by decide),g 6 (by decide),g 7 (by decide),g 8 (by decide)];exact⟨_,_,_,_,_,_,_,_,_,rfl,HBW.u.trans (tw.mono hMw),jU hMw tw.size,H0.u,(fun _=>rfl),H3.u,H5.u,H7.u,(fun _=>⟨w.heap.size,rfl,(OWN.u.lt _ rfl).2,OWN.u⟩),(H4.u.keep tw),(H6.u.keep tw),(H8.u.keep tw),H9.u⟩
  ·clear hall
   as_aux_lemma=>
   unfold Seg.yk;intro K hK;have HK:=jA hK;clear hK;try simp only [Seg.xf,Seg.opAt,jK]
   first|go_simp|skip
   go_wp2_with fail;refine HK.u _ _ trivial ?_;simp only [g 0 (by decide),g 1 (by decide),g 2 (by decide),g 4 (by decide),g 5 (by decide),g 6 (by decide),g 7 (by decide),g 8 (by decide)];exact⟨_,_,_,_,_,_,_,_,_,rfl,HBW.u,hMw,H0.u,H1.u,(fun _=>rfl),H5.u,H7.u,H2.u,H4.u,H6.u,H8.u,H9.u⟩
  ·have d0:L.getD 3 false=true:=hall ⟨3,.data⟩ (by simp [Seg.opAt]) rfl;clear hall;obtain rfl:=H3.u d0;obtain⟨w',hr',own,hg⟩:=qw (P:=prog) (w:=w) M 114 90 f0 (.agg #[.slice none 0 0,.slice none 0 0]) 2 underlying114 fI.u fA.u fB.u .i64 .i64 c.op.length (by rw [fC.u];omega) (by unfold maxLen;omega) hMw;have OWN:=jA own;clear own
   as_aux_lemma=>
   unfold Seg.yk;intro K hK;have HK:=jA hK;clear hK;try simp only [Seg.xf,Seg.opAt,jK]
   first|go_simp|skip
   try rw [hr']
   go_wp2_with fail;have tw:Below w.heap.size w w':=(jN _ _).grown hg (jO _) (fun _ h=>by cases h);refine HK.u _ _ trivial ?_;simp only [g 0 (by decide),g 1 (by decide),g 2 (by decide),g 3 (by decide),g 5 (by decide),g 6 (by decide),g 7 (by decide),g 8 (by decide)];exact⟨_,_,_,_,_,_,_,_,_,rfl,HBW.u.trans (tw.mono hMw),jU hMw tw.size,H0.u,H1.u,(fun _=>rfl),H5.u,H7.u,(H2.u.keep tw),(fun _=>⟨w.heap.size,rfl,(OWN.u.lt _ rfl).2,OWN.u⟩),(H6.u.keep tw),(H8.u.keep tw),H9.u⟩
  ·clear hall
   as_aux_lemma=>
   unfold Seg.yk;intro K hK;have HK:=jA hK;clear hK;try simp only [Seg.xf,Seg.opAt,jK]
   first|go_simp|skip
   go_wp2_with fail;refine HK.u _ _ trivial ?_;simp only [g 0 (by decide),g 1 (by decide),g 2 (by decide),g 3 (by decide),g 4 (by decide),g 6 (by decide),g 7 (by decide),g 8 (by decide)];exact⟨_,_,_,_,_,_,_,_,_,rfl,HBW.u,hMw,H0.u,H1.u,H3.u,(fun _=>rfl),H7.u,H2.u,H4.u,H6.u,H8.u,H9.u⟩
  ·have d0:L.getD 5 false=true:=hall ⟨5,.data⟩ (by simp [Seg.opAt]) rfl;clear hall;obtain rfl:=H5.u d0;obtain⟨w',hr',own,hg⟩:=qw (P:=prog) (w:=w) M 39 4 b0 (.bool false) 1 underlying39 bI.u bA.u bB.u .i64 .i64 c.op.length (by rw [bC.u];omega) (by unfold maxLen;omega) hMw;have OWN:=jA own;clear own
   as_aux_lemma=>
   unfold Seg.yk;intro K hK;have HK:=jA hK;clear hK;try simp only [Seg.xf,Seg.opAt,jK]
   first|go_simp|skip
   try rw [hr']
   go_wp2_with fail;have tw:Below w.heap.size w w':=(jN _ _).grown hg (jO _) (fun _ h=>by cases h);refine HK.u _ _ trivial ?_;simp only [g 0 (by decide),g 1 (by decide),g 2 (by decide),g 3 (by decide),g 4 (by decide),g 5 (by decide),g 7 (by decide),g 8 (by decide)];exact⟨_,_,_,_,_,_,_,_,_,rfl,HBW.u.trans (tw.mono hMw),jU hMw tw.size,H0.u,H1.u,H3.u,(fun _=>rfl),H7.u,(H2.u.keep tw),(H4.u.keep tw),(fun _=>⟨w.heap.size,rfl,(OWN.u.lt _ rfl).2,OWN.u⟩),(H8.u.keep tw),(fun _ h=>H8.u.ne h)⟩
  ·clear hall
   as_aux_lemma=>
   unfold Seg.yk;intro K hK;have HK:=jA hK;clear hK;try simp only [Seg.xf,Seg.opAt,jK]
   first|go_simp|skip
   go_wp2_with fail;refine HK.u _ _ trivial ?_;simp only [g 0 (by decide),g 1 (by decide),g 2 (by decide),g 3 (by decide),g 4 (by decide),g 5 (by decide),g 6 (by decide),g 8 (by decide)];exact⟨_,_,_,_,_,_,_,_,_,rfl,HBW.u,hMw,H0.u,H1.u,H3.u,H5.u,(fun _=>rfl),H2.u,H4.u,H6.u,H8.u,H9.u⟩
  ·have d0:L.getD 7 false=true:=hall ⟨7,.data⟩ (by simp [Seg.opAt]) rfl;clear hall;obtain rfl:=H7.u d0;obtain⟨w',hr',own,hg⟩:=qw (P:=prog) (w:=w) M 39 4 b0 (.bool false) 1 underlying39 bI.u bA.u bB.u .i64 .i64 c.op.length (by rw [bC.u];omega) (by unfold maxLen;omega) hMw;have OWN:=jA own;clear own
   as_aux_lemma=>
   unfold Seg.yk;intro K hK;have HK:=jA hK;clear hK;try simp only [Seg.xf,Seg.opAt,jK]
   first|go_simp|skip
   try rw [hr']
   go_wp2_with fail;have tw:Below w.heap.size w w':=(jN _ _).grown hg (jO _) (fun _ h=>by cases h);refine HK.u _ _ trivial ?_;simp only [g 0 (by decide),g 1 (by decide),g 2 (by decide),g 3 (by decide),g 4 (by decide),g 5 (by decide),g 6 (by decide),g 7 (by decide)];exact⟨_,_,_,_,_,_,_,_,_,rfl,HBW.u.trans (tw.mono hMw),jU hMw tw.size,H0.u,H1.u,H3.u,H5.u,(fun _=>rfl),(H2.u.keep tw),(H4.u.keep tw),(H6.u.keep tw),(fun _=>⟨w.heap.size,rfl,(OWN.u.lt _ rfl).2,OWN.u⟩),(fun h _=>(H6.u.ne h).symm)⟩
 case refine_3=>
  clear hMw HB1 pI pA pB pC fI fA fB fC bI bA bB bC;intro L a w hall hI;obtain⟨v14,v15,v16,v17,v18,v19,v20,v21,v22,rfl,hb,hMw,h0,h1,h3,h5,h7,h2,h4,h6,h8,h9⟩:=hI;obtain rfl:=h0 (hall 0 (by omega));obtain⟨WB,rfl,lW,oW⟩:=h2 (hall 2 (by omega));obtain⟨KB,rfl,lK,oK⟩:=h4 (hall 4 (by omega));obtain⟨CB,rfl,lC,oC⟩:=h6 (hall 6 (by omega));obtain⟨MB,rfl,lM,oM⟩:=h8 (hall 8 (by omega));have hcm:CB≠MB:=fun e=>h9 (hall 6 (by omega)) (hall 8 (by omega)) (by rw [e]);have OW:=jA oW;have OK:=jA oK;have OC:=jA oC;have OM:=jA oM;have HBW:=jA hb;clear h1 h3 h5 h7 h9 h2 h4 h6 h8 h0 hall oW oK oC oM hb;simp only [jF,jH];go_wp2_with (refine wpList_build rfl 116 _ rfl (jgk c oa cap oO lO cO oP lP cP WB KB CB MB) (by unfold jgk;first|(simp;done)|(simp [Act.eval];done)) _ (jee ..) ?_);exact HQ.u _ _ _ _ _ _ _ _ _ _ _ w.heap.size WB KB CB MB _ ⟨hcm,hMw,xN rfl,xk OW.u (jkI _ _),xk OK.u (jkI _ _),xk OC.u (jkI _ _),xk OM.u (jkI _ _),HBW.u.trans ((jkI _ _).mono hMw)⟩
end Go.Proofs.YtnohcdpnnhmpfaaGreatDoor.TR
namespace Go.Proofs.YtnohcdpnnhmpfaaGreatDoor.TR
open Go.RowKit Tryz ML FRP AU CT FM
structure Zd(K:HK)(kn kd:Nat→Value)(i:Nat)(w:World):Prop where
 bel:Below K.w0.heap.size K.w0 w
 hall:w.heap[K.hb]?=some (.cells (jcN K ⟨fun _=>zW,zW,zW,fun _=> [],fun _=>zW,fun _=>zW,kn,kd⟩) 116 (0,0))
 withs:w.heap[K.wb]?=some (.cells (((List.range K.c.op.length).map fun _=>zW).toArray) 113 (0,0))
 kepts:w.heap[K.kb]?=some (.cells (yg K.c.op.length kn kd).toArray 90 (0,0))
 conts:w.heap[K.cb]?=some (.cells (Vh K.c.op.length fun j=>decide (j<i)) 4 (0,0))
 moveds:w.heap[K.mb]?=some (.cells (Vh K.c.op.length fun _=>false) 4 (0,0))
 cm:K.cb≠K.mb
 bases:K.w0.heap.size≤K.hb∧K.w0.heap.size≤K.wb∧K.w0.heap.size≤K.kb∧K.w0.heap.size≤K.cb∧K.w0.heap.size≤K.mb
 frs: ∀j,j<i→FrV w zero (kn j) (kd j)
 nol: ∀j,noLimb (kn j)=true∧noLimb (kd j)=true
theorem Zd.below {K:HK}{kn kd:Nat→Value}{i:Nat}{w w':World}(h:Zd K kn kd i w)(hb:Below w.heap.size w w'):Zd K kn kd i w':=by
 have t:=Trn.of_below hb 0 K.w0.heap.size;exact⟨t.below h.bel,t.keepX h.hall (by simp),t.keepX h.withs (by simp),t.keepX h.kepts (by simp),t.keepX h.conts (by simp),t.keepX h.moveds (by simp),h.cm,h.bases,fun j hj=>t.fr (h.frs j hj),h.nol⟩
theorem jkt {n:Nat}{kn kd:Nat→Value}(h: ∀j,noLimb (kn j)=true∧noLimb (kd j)=true):Xd (yg n kn kd).toArray:=by
 intro u hu;simp only [yg,qs,jf,jg,jv,jx]at hu;obtain⟨i,hi,rfl|rfl⟩:=hu;·exact(h i).1
 ·exact(h i).2
theorem Zd.next {K:HK}{kn kd:Nat→Value}{i:Nat}{w:World}{a b:Value}(h:Zd K kn kd i w)(hi:i<K.c.op.length)(hf:FrV w zero a b):Zd K (upd kn i a) (upd kd i b) (i+1) ((w.setCell ⟨K.cb,i,none⟩ (.bool true)).setCells K.kb (i*2) [a,b]):=by
 have t1:Trn 4 K.w0.heap.size (some K.cb) w (w.setCell ⟨K.cb,i,none⟩ (.bool true)):=Trn.of_only (xh i _) h.conts h.bases.2.2.2.1 (Ju _ _);have hk:=t1.keep h.kepts (by decide);have t2:Trn 90 K.w0.heap.size (some K.kb) (w.setCell ⟨K.cb,i,none⟩ (.bool true)) ((w.setCell ⟨K.cb,i,none⟩ (.bool true)).setCells K.kb (i*2) [a,b]):=Trn.of_only (zI K.kb [a,b] (i*2) _) hk h.bases.2.2.1 (jkt h.nol);refine⟨t2.below (t1.below h.bel),t2.keep (t1.keep h.hall (by decide)) (by decide),t2.keep (t1.keep h.withs (by decide)) (by decide),Xf a b hk hi,t2.keep ?_ (by decide),t2.keep (t1.keepX h.moveds (by intro e;injection e with e;exact h.cm e)) (by decide),h.cm,h.bases,fun j hj=>?_,fun j=>?_⟩
 ·rw [jd w K.cb i _ _ _ h.conts,←jaa _ _ _ _ hi];congr 2;unfold Vh;congr 1;refine qu fun j _=>?_;unfold upd;by_cases e:j=i;·subst e;simp
  ·rw [jT e];congr 1;rw [decide_eq_decide];omega
 ·by_cases e:j=i;·subst e;rw [xT,xT];exact t2.fr (t1.fr hf)
  ·rw [xX _ _ _ _ e,xX _ _ _ _ e];exact t2.fr (t1.fr (h.frs j (by omega)))
 ·by_cases e:j=i;·subst e;rw [xT,xT];exact⟨hf.noLimb.1,hf.noLimb.2.1⟩
  ·rw [xX _ _ _ _ e,xX _ _ _ _ e];exact h.nol j
theorem jlo {w w1 w2:World}{b:Nat}(h:w.grownBy w1 (some b))(k:w1.grownBy w2 (some b)):w.grownBy w2 (some b):=JB h k
theorem VJ {w:World}{base:Nat}{e:TypeId}{s n g:Nat}{xs:List Value}(h:w.ownsRow base e s (.slice (some ⟨g,0,none⟩) n n) n xs):base≤g∧w.heap[g]?=some (.cells xs.toArray e (0,0)):=by
 rcases h.2 with⟨hv,_⟩|⟨g2,cap,cur,hv,hb,hg,h1,h2,h3,h4⟩;·cases hv
 ·injection hv with e1 e2 e3;injection e1 with e1;injection e1 with e1;subst e1;subst e3;refine⟨hb,?_⟩;rw [hg];congr 2;rw [←h4,jc (by rw [Array.length_toList,h3];exact jO _)]
theorem jit {z:Value}(m k:Nat)(h: ∀j,j<m→(madeCells (Array.replicate k z) m).toList[j]?=some z):(madeCells (Array.replicate k z) m).toList=List.replicate m z:=by
 apply List.ext_getElem?;intro j;by_cases hj:j<m;·rw [h j hj,qX,jR hj]
 ·rw [kP (by rw [Array.length_toList,size_madeCells];omega),kP (by simp;omega)]
theorem jcC(n:Nat):(madeCells (Value.agg #[.slice none 0 0,.slice none 0 0]).cells (n*2)).toList=yg n (fun _=>zW) (fun _=>zW):=by
 have h1:(Value.agg #[.slice none 0 0,.slice none 0 0]).cells=Array.replicate 2 zW:=by rfl
 rw [h1,jit (z:=zW) (n*2) 2 (fun j hj=>by
  unfold madeCells;rw [Array.getElem?_toList,Array.getElem?_map,Array.getElem?_range,jR hj];simp only [Option.map_some,Option.some.injEq];rcases(show j%(Array.replicate 2 zW).size=0∨j%(Array.replicate 2 zW).size=1 by simp;omega)with h|h<;>rw [h]<;>rfl)]
 symm;rw [List.eq_replicate_iff];refine⟨zw _ _ _,fun u hu=>?_⟩;simp only [yg,qs,jf,jg,jv,jx]at hu;obtain⟨i,hi,rfl|rfl⟩:=hu<;>rfl
theorem jeU(z:Value)(hz:z.cells= #[z])(n:Nat):(madeCells z.cells (n*1)).toList=(List.range n).map fun _=>z:=by
 rw [hz,qG,toList_madeCells_one];simp [List.map_const']
def zN(m s:Nat):Fr:=(Fr.wh m).div (Fr.wh (s+1))
def yB(Bs:List (Value×List Int)):List (List Nat):=Bs.map fun p=>JE p.2
theorem jjX {K:HK}{kn kd:Nat→Value}{w:World}{a b:Value}{q:Fr}{Rs:List (List Nat)}(h:Zd K kn kd K.c.op.length w)(hq:K.qn=zW∧K.qd=zW)(hf:FrV w q a b):xZ (mkK K a b K.w0.heap.size 0 (fun _=>0) (fun _=>0) (fun _=>0) fun _=> #[]) q (S0 K.c.op.length Rs 0) ⟨fun _=>zW,zW,zW,fun _=> [],fun _=>zW,fun _=>zW,kn,kd⟩ (w.setCells K.hb 7 [a,b]):=by
 have hn:Xd (jcN K ⟨fun _=>zW,zW,zW,fun _=> [],fun _=>zW,fun _=>zW,kn,kd⟩):=by
  intro u hu;simp only [jcN,jg,jv,jx]at hu;rcases hu with rfl|rfl|rfl|rfl|rfl|rfl|rfl|rfl|rfl|rfl|rfl|rfl|rfl|rfl|rfl<;>first|rfl|(rw [hq.1];rfl)|(rw [hq.2];rfl)
 have t:Trn 116 K.w0.heap.size (some K.hb) w (w.setCells K.hb 7 [a,b]):=Trn.of_only (zI K.hb [a,b] 7 w) h.hall h.bases.1 hn;have h1:=jd w K.hb 7 _ _ a h.hall;have h2:=jd (w.setCell ⟨K.hb,7,none⟩ a) K.hb 8 _ _ b h1;refine⟨t.below h.bel,?_,t.keep h.withs (by decide),t.keep h.kepts (by decide),t.keep h.conts (by decide),t.keep h.moveds (by decide),h.cm,fun k hk=>absurd hk (kw k),fun k j hk=>absurd hk (kw k),fun k hk=>absurd hk (kw k),fun k hk=>absurd hk (kw k),fun k hk=>absurd hk (kw k),fun k hk=>absurd hk (kw k),fun i hi=>t.fr (h.frs i hi),t.fr hf,fun i hi=>GRow.nil,GRow.nil,fun i j hi hj hne=>.inl rfl,fun i hi=>.inl rfl,fun o=>⟨List.nodup_nil,fun k hk=>by cases hk⟩,GRow.nil,⟨h.bases.1,h.bases.2.1,h.bases.2.2.1,h.bases.2.2.2.1,h.bases.2.2.2.2,jO _,fun k hk=>absurd hk (kw k)⟩,fun i hi=>qY hi,jU h.bel.size t.grown.size⟩;show((w.setCell ⟨K.hb,7,none⟩ a).setCell ⟨K.hb,8,none⟩ b).heap[K.hb]?=_;rw [h2];rfl
theorem jfx(g rl rn:Nat)(oa ob:Option Addr)(la lb ca cb:Nat):prog.built 168 [(0,.slice (some ⟨g,0,none⟩) rl rn),(1,.agg #[.slice oa la ca,.slice ob lb cb])]=some #[.slice (some ⟨g,0,none⟩) rl rn,.slice oa la ca,.slice ob lb cb,.int .i64 0]:=by kernel_rfl
theorem jeS(c:yE)(oa:Option Addr)(cap:Nat)(oO:Option Addr)(cO:Nat)(oP:Option Addr)(cP:Nat)(O P:List Int)(Bs:List (Value×List Int))(ob:Option Addr)(cb:Nat)(w:World)
 (hord:yj w oO O) (hplc:yj w oP P) (hP:Yw w ob Bs) (hn1:1≤c.op.length) (hn12:c.op.length≤12) (hm:Bs.length≤4096) (hR: ∀p∈Bs,Rnk c.op.length p.2) (hse:1≤c.se∧c.se≤c.op.length)
 (hol:O.length=c.op.length) (hpl:P.length=c.op.length) (hmem: ∀x,x∈O↔0≤x∧x<(c.op.length:Int)) (hplc2: ∀k (hk:k<O.length),P[O[k].toNat]?=some (k:Int)) (hond:O.Nodup):
 Calls prog 71 #[.agg #[.string ⟨c.nm.toArray⟩,.slice oa c.op.length cap,.int .i64 c.rl,.int .i64 c.se,.int .i64 c.mo,.slice oO O.length cO,.slice oP P.length cP],.slice ob Bs.length cb] w fun e w'=> ∃(K:HK) (G:HG),e=.returned (.pointer (some ⟨K.hb,0,none⟩))∧K.c=c∧K.m=Bs.length∧K.O=O∧K.w0=w∧Vw K∧xZ K (zN Bs.length c.se.toNat) (S0 c.op.length (yB Bs) Bs.length) G w'∧Yz K (S0 c.op.length (yB Bs) Bs.length) G:=by
 obtain⟨p0,pI',pA',pB',pC'⟩:=info_parts jcL;obtain⟨f0,fI',fA',fB',fC'⟩:=info_parts Zq;obtain⟨b0,bI',bA',bB',bC'⟩:=info_parts XM;have pI:=jA pI';have pA:=jA pA';have pB:=jA pB';have pC:=jA pC';have fI:=jA fI';have fA:=jA fA';have fB:=jA fB';have fC:=jA fC';have bI:=jA bI';have bA:=jA bA';have bB:=jA bB';have bC:=jA bC';have HPS:=jA hP;have HR:=jA hR;clear pI' pA' pB' pC' fI' fA' fB' fC' bI' bA' bB' bC' hP hR;have HORD:=jA hord;have HPLC:=jA hplc;have HOK:=jA (show O.length=c.op.length∧P.length=c.op.length∧(∀x,x∈O↔0≤x∧x<(c.op.length:Int))∧(∀k (hk:k<O.length),P[O[k].toNat]?=some (k:Int))∧O.Nodup from⟨hol,hpl,hmem,hplc2,hond⟩);clear hord hplc hol hpl hmem hplc2 hond;go_enter Tryz.func71,Tryz.ntmps71;go_upto_region 1 with(fail);have hbA:Below w.heap.size w (w.alloc (.cells #[.string ⟨c.nm.toArray⟩,.slice oa c.op.length cap,.int .i64 c.rl,.int .i64 c.se,.int .i64 c.mo,.slice oO O.length cO,.slice oP P.length cP] 62)):=(jN _ _).alloc (jO _) _;have hcA:(w.alloc (.cells #[.string ⟨c.nm.toArray⟩,.slice oa c.op.length cap,.int .i64 c.rl,.int .i64 c.se,.int .i64 c.mo,.slice oO O.length cO,.slice oP P.length cP] 62)).heap[w.heap.size]?=some (.cells #[.string ⟨c.nm.toArray⟩,.slice oa c.op.length cap,.int .i64 c.rl,.int .i64 c.se,.int .i64 c.mo,.slice oO O.length cO,.slice oP P.length cP] 62 (0,0)):=xN rfl;generalize hB:w.heap.size=B at*;refine xP (fun w1=>Below B w w1∧w1.heap[B]?=some (.cells #[.string ⟨c.nm.toArray⟩,.slice oa c.op.length cap,.int .i64 c.rl,.int .i64 c.se,.int .i64 c.mo,.slice oO O.length cO,.slice oP P.length cP] 62 (0,0))) ⟨hbA,hcA⟩ (fun w1 hw1=>?_);have HB:=jA hB;have HB1:=jA hw1.2;have B1:=jA hw1.1;have k1:w1.cell? ⟨B,1,none⟩=some (.slice oa c.op.length cap):=jM w1 B 1 _ _ _ hw1.2;have hBl:B<w1.heap.size:=lt_of_heap hw1.2;clear hbA hcA hB hw1;go_upto_region 2 with(fail);clear k1;generalize hM0:w1.heap.size=M0 at*;have HM0:=jA hM0;have hx0:Below M0 w1 w1.drew:=(jN _ _).drew;have sx0:M0≤w1.drew.heap.size:=kg hM0.symm;have hBM:B<M0:=hBl;clear hM0 hBl
 as_aux_lemma=>
 refine jip c oa cap oO O.length cO oP P.length cP B M0 w1 _ hn12 HM0.u HB1.u (fun _ _ d _ _ h=>by cases d<;>exact h) ?_;rintro v14 v15 v16 v17 v18 v19 v20 v21 v22 v23 v24 Hb WB KB CB MB w2 ⟨hcm,hHb,hH,hW,hKr,hC,hMr,hb2⟩;dsimp only [Exit.then];clear hx0 sx0;obtain⟨bw,hW⟩:=VJ hW;obtain⟨bk,hKr⟩:=VJ hKr;obtain⟨bc,hC⟩:=VJ hC;obtain⟨bm,hMr⟩:=VJ hMr;rw [jeU _ rfl]at hW hC hMr;rw [jcC]at hKr;obtain⟨K,hK⟩: ∃K:HK,K=⟨c,oa,cap,oO,cO,oP,cP,O,P,zW,zW,Hb,WB,KB,CB,MB,0,0,fun _=>0,fun _=>0,fun _=>0,fun _=> #[],w⟩:=⟨_,rfl⟩;have hw0:w.heap.size≤M0:=by rw [HB.u];omega
 have hbel:Below w.heap.size w w2:=by
  rw [HB.u];exact B1.u.trans (hb2.mono (by omega))
 have HX2:=jA (show w2.heap[B]?=some (.cells #[.string ⟨c.nm.toArray⟩,.slice oa c.op.length cap,.int .i64 c.rl,.int .i64 c.se,.int .i64 c.mo,.slice oO O.length cO,.slice oP P.length cP] 62 (0,0))from(hb2.block B hBM).trans HB1.u);have NA:Zd K (fun _=>zW) (fun _=>zW) 0 w2:=by
  rw [hK];exact⟨hbel,hH,hW,hKr,hC,hMr,hcm,⟨jU hw0 hHb,jU hw0 bw,jU hw0 bk,jU hw0 bc,jU hw0 bm⟩,fun j hj=>by omega,fun j=>⟨rfl,rfl⟩⟩
 have eb:M0≤K.hb∧M0≤K.wb∧M0≤K.kb∧M0≤K.cb∧M0≤K.mb:=by rw [hK];exact⟨hHb,bw,bk,bc,bm⟩
 have HKb:=jA eb;have HNA:=jA NA;have HQ:=jA (show K.qn=zW∧K.qd=zW by rw [hK];exact⟨rfl,rfl⟩);have e1:K.c=c:=by rw [hK]
 have e2:K.oa=oa:=by rw [hK]
 have e3:K.cap=cap:=by rw [hK]
 have e4:K.oO=oO:=by rw [hK]
 have e5:K.cO=cO:=by rw [hK]
 have e6:K.oP=oP:=by rw [hK]
 have e7:K.cP=cP:=by rw [hK]
 have e8:K.O=O:=by rw [hK]
 have e9:K.P=P:=by rw [hK]
 have e10:K.w0=w:=by rw [hK]
 have e11:K.hb=Hb:=by rw [hK]
 clear hcm hHb hH hW hKr hC hMr hb2 bw bk bc bm hw0 hbel NA hK eb pI pA pB pC fI fA fB fC bI bA bB bC HB1 B1;subst e1 e2 e3 e4 e5 e6 e7 e8 e9 e10 e11
 as_aux_lemma=>
 go_wp2_with fail;have HSZ:=jA zn;go_loopw [26] (fun v wr=> ∃(i:Nat) (kn kd:Nat→Value),v=.int .i64 i∧i≤K.c.op.length∧Zd K kn kd i wr∧wr.heap[B]?=some (.cells #[.string ⟨K.c.nm.toArray⟩,.slice K.oa K.c.op.length K.cap,.int .i64 K.c.rl,.int .i64 K.c.se,.int .i64 K.c.mo,.slice K.oO K.O.length K.cO,.slice K.oP K.P.length K.cP] 62 (0,0))) (fun v _=>K.c.op.length-(intOf v).toNat);case atStart=>exact⟨0,_,_,rfl,ji _,HNA.u,HX2.u⟩
 case round=>
 clear HNA HX2;obtain⟨i,kn,kd,rfl,hi,hna,hbx⟩:=hrel;have NA:=jA hna;have BX:=jA hbx;clear hna hbx;by_cases hlt:i<K.c.op.length;case pos=>
  have dk:decide ((i:Int)<(K.c.op.length:Int))=true:=jQ (by omega);have dk2:decide (i<K.c.op.length)=true:=jQ hlt;have dki:(i:Int)<(K.c.op.length:Int):=by omega
  obtain⟨M,hM⟩: ∃M,M=wr.heap.size:=⟨_,rfl⟩;have HM:=jA hM;have l1:K.hb<M:=by rw [hM];exact lt_of_heap NA.u.hall
  have n1:K.hb≠K.cb:=yy NA.u.hall NA.u.conts (by decide);have d12: ∀x:GrT K.cb M wr,x.w.cell? ⟨K.hb,12,none⟩=some (.slice (some ⟨K.cb,0,none⟩) K.c.op.length K.c.op.length):=fun x=>Kz x l1 n1 (jM _ K.hb 12 _ _ _ NA.u.hall);have d11: ∀x:GrT K.cb M wr,x.w.cell? ⟨K.hb,11,none⟩=some (.slice (some ⟨K.kb,0,none⟩) K.c.op.length K.c.op.length):=fun x=>Kz x l1 n1 (jM _ K.hb 11 _ _ _ NA.u.hall);clear hM;go_upto_region 6 with(fail);clear dk dk2;refine Seg.xL (fun w'=> ∃x:GrT K.cb M wr,w'=x.w) [([0,1,2,3,4,5,6,7,8,9],10),([11],12)] [] 13 (by kernel_rfl) (by kernel_rfl) (fun _ _ d _ _ h=>by cases d<;>exact h) (YG HM.u (xR (xp.refl _ wr).drew)) ?_;simp only [jK,Seg.opAt,Seg.xW];repeat (any_goals (first|go_big_quiet_step (fail)|quiet_step (fail)))
  refine jP ?_;intro Kc hK;simp only [Region.wanted,jY];go_wp2_with (go_at_call 117;refine(jjh wr.drew).mono ?_;rintro e w3 ⟨a,b,rfl,f3,bel3⟩);have F3:=jA f3;have B3:=jA (yV bel3);refine hK _ _ (YG HM.u (zg B3.u)) ?_;clear hK Kc f3 bel3 d12 d11;have NA3:=jA (NA.u.below B3.u);have BX3:=jA (xK B3.u (lt_of_heap BX.u) BX.u);have nm:=Kj NA3.u.conts hlt;have zm:w3.frozen? ⟨K.cb,i,none⟩=false:=jb w3 _ i _ _ NA3.u.conts;repeat (any_goals (first|go_big_quiet_step (fail)|quiet_step (fail)))
  refine jP ?_;intro Kc hK;simp only [Region.wanted,jY];go_wp2_with fail;refine hK _ _ (YG HM.u (jlo (zg B3.u) (xR (xh i _)))) ?_;clear hK Kc nm zm;have NX:=jA (NA3.u.next hlt F3.u);have t1:Trn 4 0 (some K.cb) w3 (w3.setCell ⟨K.cb,i,none⟩ (.bool true)):=Trn.of_only (xh i _) NA3.u.conts (ji _) (Ju _ _);have KB4:=jA (t1.keep NA3.u.kepts (by decide));have BX4:=jA (t1.keep BX3.u (by decide));have hne: ¬B=K.kb:=fun e=>by have:=HKb.u.2.2.1;omega
  have BX5:=jA (((zI K.kb [a,b] (i*2) (w3.setCell ⟨K.cb,i,none⟩ (.bool true))).block B hne).trans BX4.u);have TH:(w3.setCell ⟨K.cb,i,none⟩ (.bool true)).there K.kb (i*2) 2:=fun j hj=>by
   refine⟨?_,jb _ _ _ _ _ KB4.u⟩;rw [jM _ K.kb (i*2+j) _ _ _ KB4.u];have:=zw K.c.op.length kn kd;simp;omega
  clear t1 hne KB4 BX4;repeat (any_goals (first|go_big_quiet_step (fail)|quiet_step (fail)))
  refine jP ?_;go_wp2_with (refine qR rfl 90 _ _ rfl K.kb (i*2) #[a,b] rfl rfl TH HSZ.u (zF _ _ F3.u.noLimb.2.2.1 F3.u.noLimb.2.2.2) ?_);go_roundw;case rel=>exact⟨i+1,_,_,by go_num,by omega,NX.u,BX5.u⟩
  case measure=>simp [intOf];omega
 have dk:decide ((i:Int)<(K.c.op.length:Int))=false:=jS (by omega);have dk2:decide (i<K.c.op.length)=false:=jS hlt;obtain rfl:i=K.c.op.length:=by omega
 go_upto_region 8 with(fail);clear dk dk2 hlt hi;obtain⟨s,hs⟩: ∃s:Nat,K.c.se=s:=⟨K.c.se.toNat,by omega⟩;have hs1:1≤s∧s≤K.c.op.length:=by omega
 have hs12:s≤12:=by omega
 have HSE:=jA hs;have hbB:B<wr.heap.size:=lt_of_heap BX.u;have d3: ∀x:xS wr.heap.size wr,x.w.cell? ⟨B,3,none⟩=some (.int .i64 (s:Int)):=fun x=>by rw [←HSE.u];exact jM _ B 3 _ _ _ (xK x.2 hbB BX.u)
 clear hs;have QW1:=jA (fun w=>ZE Bs.length w (by omega));have QW2:=jA (fun w=>show Calls prog 118 #[.int .u64 ((s:Int)+1)] w _ from ZE (s+1) w (by omega));refine Seg.xL (fun w'=> ∃x:xS wr.heap.size wr,w'=x.w) [([0,1,2,3,5,6,7,8,9],4),([],10),([],11)] [] 12 (by kernel_rfl) (by kernel_rfl) (fun _ _ d _ _ h=>by cases d<;>exact h) (⟨⟨_,(jN _ _).drew⟩,rfl⟩) ?_;simp only [jK,Seg.opAt,Seg.xW];repeat (any_goals (first|go_big_quiet_step (fail)|quiet_step (fail)))
 refine jP ?_;intro Kc hK;simp only [Region.wanted,jY];go_wp2_with (go_at_call 118;refine(QW1.u wr.drew).mono ?_;rintro e w3 ⟨a1,b1,rfl,f1,bel1⟩);have F1:=jA f1;have B3:=jA (yV bel1);refine hK _ _ ⟨⟨w3,B3.u⟩,rfl⟩ ?_;clear hK Kc f1 bel1 QW1 d3;repeat (any_goals (first|go_big_quiet_step (fail)|quiet_step (fail)))
 refine jP ?_;intro Kc hK;first|go_simp|skip
 go_wp2_with (go_at_call 118;refine(QW2.u w3).mono ?_;rintro e w4 ⟨a2,b2,rfl,f2,bel2⟩);have F2:=jA f2;have F12:=jA (F1.u.below bel2);have B4:=jA (B3.u.trans (bel2.mono B3.u.size));refine hK _ _ ⟨⟨w4,B4.u⟩,rfl⟩ ?_;clear hK Kc f2 bel2 QW2 F1 B3;repeat (any_goals (first|go_big_quiet_step (fail)|quiet_step (fail)))
 refine jP ?_;intro Kc hK;first|go_simp|skip
 have QO:=jA (jjO w4 F12.u F2.u (Fr.wh_ok _) (by show 0<s+1;omega) (Sml.wh (n:=Bs.length) (by omega)).lens (Sml.wh (n:=s+1) (by omega)).lens);go_wp2_with (go_at_call 119;refine QO.u.mono ?_;rintro e w5 ⟨a3,b3,rfl,f3,bel3⟩);have F3:=jA (show FrV w5 (zN Bs.length s) a3 b3 from f3);have B5:=jA (B4.u.trans (bel3.mono B4.u.size));refine hK _ _ ⟨⟨w5,B5.u⟩,rfl⟩ ?_;clear hK Kc f3 bel3 QO F12 F2 B4;have NA5:=jA (NA.u.below B5.u);have TH:w5.there K.hb 7 2:=fun j hj=>by
  refine⟨?_,jb _ _ _ _ _ NA5.u.hall⟩;rw [jM _ K.hb (7+j) _ _ _ NA5.u.hall];rcases(show j=0∨j=1 by omega)with rfl|rfl<;>rfl
 repeat (any_goals (first|go_big_quiet_step (fail)|quiet_step (fail)))
 refine jP ?_;go_upto_region 9 with(refine qR rfl 90 _ _ rfl K.hb 7 #[a3,b3] rfl rfl TH HSZ.u (zF _ _ F3.u.noLimb.2.2.1 F3.u.noLimb.2.2.2) ?_);show Code.wp _ _ _ _ (w5.setCells K.hb 7 [a3,b3]);have NH:=jjX (Rs:=yB Bs) NA5.u HQ.u F3.u;refine xP (fun w6=>xZ (mkK K a3 b3 K.w0.heap.size 0 (fun _=>0) (fun _=>0) (fun _=>0) fun _=> #[]) (zN Bs.length s) (S0 K.c.op.length (yB Bs) 0) ⟨fun _=>zW,zW,zW,fun _=> [],fun _=>zW,fun _=>zW,kn,kd⟩ w6) NH (fun w6 hw6=>?_);have H6:=jA hw6;clear hw6 NH TH NA NA5 BX F3 B5 HQ HKb HSZ hbB hBM HM0
 as_aux_lemma=>
 go_wp2_with fail;go_loopw [59] (fun v wr=> ∃(k eb:Nat) (pb rg rn:Nat→Nat) (rc:Nat→Array Value) (G:HG),v=.int .i64 k∧k≤Bs.length∧xZ (mkK K a3 b3 eb k pb rg rn rc) (zN Bs.length s) (S0 K.c.op.length (yB Bs) k) G wr∧Yz (mkK K a3 b3 eb k pb rg rn rc) (S0 K.c.op.length (yB Bs) k) G∧G.ev=zW) (fun v _=>Bs.length-(intOf v).toNat);case atStart=>exact⟨0,_,_,_,_,_,_,rfl,ji _,H6.u,fun k hk=>absurd hk (kw k),rfl⟩
 case round=>
 clear H6;obtain⟨k,eb,pb,rg,rn,rc,G,rfl,hk,hh,hfu,hev⟩:=hrel;have HA:=jA hh;have HFU:=jA hfu;have HEV:=jA hev;clear hh hfu hev;by_cases hlt:k<Bs.length;case neg=>
  have dk:decide ((k:Int)<(Bs.length:Int))=false:=jS (by omega);have dk2:decide (k<Bs.length)=false:=jS hlt;obtain rfl:k=Bs.length:=by omega
  go_wp2_with fail;go_ret;obtain⟨h1,h2,h3,h4,h5⟩:=HOK.u;have e:K.c.se.toNat=s:=by have:=HSE.u;omega
  rw [e];exact⟨mkK K a3 b3 eb Bs.length pb rg rn rc,G,rfl,rfl,rfl,rfl,rfl,⟨HORD.u,HPLC.u,h1,h2,h3,h4,h5,hn1,hn12,hm⟩,HA.u,HFU.u⟩
 have dk:decide ((k:Int)<(Bs.length:Int))=true:=jQ (by omega);have dk2:decide (k<Bs.length)=true:=jQ hlt;have dki:(k:Int)<(Bs.length:Int):=by omega
 have PW:=HPS.u.below HA.u.bel;obtain⟨a,hoa,hab,hac⟩:=PW.cells k hlt;obtain⟨ob',cb',hrow,hI,_⟩:=PW.rows _ (jj hlt);have HRB:=jA (HR.u _ (jj hlt))
 have HRS:=jA (show(yB Bs).getD k []=JE Bs[k].2 by
  unfold yB;rw [jW,qK,kl hlt];rfl)
 have QR:=jA (jgc K.c.op.length Bs[k].2 ob' cb' wr HRB.u hn12 hI);rw [hrow]at hac;have HN:=jA (jhv K.c.op.length (yB Bs) k);have QW1:=jA (fun w=>ZE 1 w (by decide));have hkn:=jA (show ∀o,k∉G.PL o from fun o ho=>by have:=((HA.u.pls o).2 k ho).1;exact Nat.lt_irrefl k this);have HPB:=jA (show ∀j,j<k→pb j<wr.heap.size from fun j hj=>lt_of_heap (HA.u.papers j hj));subst hoa;clear PW hrow hI hab;rw [HRS.u]at HN;generalize Bs[k].2=b at*;have hrl:(JE b).length≤K.c.op.length:=by
  rw [VD];exact jU (jdD b) (kg HRB.u.len)
 have HRL:=jA hrl;go_upto_region 12 with(fail);clear dk dk2 hac;go_wp2_with (first
  |(go_at_call 121;refine QR.u.mono ?_;rintro e w3 ⟨g,R,rfl,hgl,hgc,hcs,bel3⟩;have HG3:=jA hgc;have HCS:=jA hcs;have B3:=jA bel3;clear hgl hgc hcs bel3)
  |(
   go_at_call 118;refine(QW1.u w3).mono ?_;rintro e w4 ⟨wa,wb,rfl,f4,bel4⟩;obtain⟨o1,q1,o2,q2,rfl,rfl,lf⟩:=f4;have hba:Below w4.heap.size w4 (w4.alloc (.cells #[.slice (some ⟨g,0,none⟩) (JE b).length K.c.op.length,.slice o1 (NL.dig (Fr.wh 1).n).length q1,.slice o2 (NL.dig (Fr.wh 1).d).length q2,.int .i64 0] 168)):=(jN _ _).alloc (jO _) _;have B4:=jA (B3.u.trans (bel4.mono B3.u.size));have B5:=jA (B4.u.trans (hba.mono B4.u.size));have HX:=jA ((HA.u.below B5.u).add (p:=w4.heap.size) (wt:=one) HEV.u rfl (xK (bel4.trans (hba.mono bel4.size)) (lt_of_heap HG3.u) HG3.u) (xN rfl) (fun j hj=>by rw [jE];unfold xU;rw [qK,HCS.u j hj];rfl) HRL.u (jU HRL.u hn12) ⟨o1,q1,o2,q2,rfl,rfl,lf.below hba⟩ (fun j hj=>by have:=HPB.u j hj;have:=B4.u.size;omega) (jU HA.u.bel.size B4.u.size));obtain⟨h1,h2,h3,h4,h5⟩:=HOK.u;have q0:=(jhh _ _ _ _ _ k HX.u ⟨HORD.u,HPLC.u,h1,h2,h3,h4,h5,hn1,hn12,(by show k+1≤4096;omega)⟩ (Nat.lt_succ_self k) hkn.u (by rw [JG];exact HRB.u.lt));have epb: ∀eb rg rn rc,(mkK K a3 b3 eb (k+1) (upd pb k w4.heap.size) rg rn rc).pb k=w4.heap.size:=fun _ _ _ _=>xT _ _ _;have ehb: ∀eb pb rg rn rc,(mkK K a3 b3 eb (k+1) pb rg rn rc).hb=K.hb:=fun _ _ _ _ _=>rfl;rw [epb,ehb]at q0;have QL:=jA q0;clear q0 epb ehb;clear lf bel4 hba h1 h2 h3 h4 h5)
  |(go_at_call 120;refine QL.u.mono ?_;rintro e w6 ⟨rfl,G6,h6,s6,p6,ev6⟩)
  |(with_reducible refine wpList_build rfl 168 _ rfl [(0,.slice (some ⟨g,0,none⟩) (JE b).length K.c.op.length),(1,.agg #[.slice o1 (NL.dig (Fr.wh 1).n).length q1,.slice o2 (NL.dig (Fr.wh 1).d).length q2])] (by first|(simp;done)|(simp [Act.eval];done)) _ (jfx g _ _ o1 o2 _ _ q1 q2) ?_))
 rw [JG]at h6 p6;have h6':xZ _ (zN Bs.length s) (yn (yn (S0 K.c.op.length (yB Bs) k) k (start (JE b))) k ((start (JE b)).go (c0 K.c.op.length))) G6 w6:=h6;rw [HN.u]at h6';have p6':G6.PL=upd G.PL ((start (JE b)).go (c0 K.c.op.length)).wi (G.PL ((start (JE b)).go (c0 K.c.op.length)).wi++ [k]):=p6;rw [←HRS.u]at p6';go_roundw;case rel=>exact⟨k+1,_,_,_,_,_,G6,by go_num,by omega,h6',Yz.add rfl HFU.u p6',ev6.trans HEV.u⟩
 case measure=>simp [intOf];omega
end Go.Proofs.YtnohcdpnnhmpfaaGreatDoor.TR
namespace Go.Proofs.YtnohcdpnnhmpfaaGreatDoor.TR
open FRP
theorem jhe(m s:Nat):(zN m s).ok∧(zN m s).v* ((s:Rat)+1)=(m:Rat):=by
 have h0:0<(Fr.wh (s+1)).n:=Nat.succ_pos s;refine⟨Fr.div_ok (Fr.wh_ok m) h0,?_⟩;unfold zN;rw [Fr.v_div (Fr.wh_ok m) (Fr.wh_ok _) h0,Fr.v_wh,Fr.v_wh];have e:((s+1:Nat):Rat)=(s:Rat)+1:=qj _ _;rw [e];have hne:(s:Rat)+1≠0:=by
  have:(0:Rat)≤(s:Rat):=Rat.natCast_nonneg;grind
 exact vf hne
theorem jgu {n:Nat}{O:List Nat}(hd:O.Nodup)(hm: ∀i,i∈O↔i<n):O.length=n:=by
 have hp:O.Perm (List.range n):=(vk hd qt).2 fun i=>by rw [hm,jf]
 rw [hp.length_eq,kZ]
theorem Zp {n s:Nat}{O:List Nat}{Rs:List (List Nat)}(hs:s≤n)(hn:n≤12)(hd:O.Nodup)(hO: ∀i,i∈O↔i<n)(hR: ∀rk∈Rs,∀i∈rk,i<n):Inv n s Rs.length (zN Rs.length s) O (S0 n Rs Rs.length):=by
 obtain⟨qok,qv⟩:=jhe Rs.length s;have hV: ∀k,k<Rs.length→(S0 n Rs Rs.length).V k=(start (Rs.getD k [])).go (c0 n):=fun k hk=>jR hk;have hRk: ∀k,k<Rs.length→ ∀i∈Rs.getD k [],i<n:=fun k hk i hi=>by
  rw [jW,kl hk]at hi;exact hR _ (jj hk) i hi
 have hst:(S0 n Rs Rs.length).still O=O:=xD.2 fun i hi=>jQ ((hO i).1 hi);refine⟨qok,qv,hd,hO,fun k hk i hi=>?_,fun k hk=>?_,fun k hk i hi=>?_,List.nodup_nil,fun i hi=>(by cases hi),fun i hi=>(by cases hi),fun i _=>rfl,?_,.inl (fun i hi=>by cases hi),?_,ji _,?_,fun k hk=>?_⟩;·rw [hV k hk]at hi;exact hRk k hk i hi
 ·rw [hV k hk];exact jlQ
 ·rw [hV k hk]at hi;obtain⟨h1,h2⟩:=jhm hi;have h3:=hRk k hk i h2;exact⟨h3,.inl (jQ h3)⟩
 ·
   have e1:rs (List.range n) (fun i=>((S0 n Rs Rs.length).kept i).v)=0:=by
    exact(Jk _ _ (fun _=>(0:Rat)) (fun i _=>Zg)).trans (jgY _)
   have e2:rs (List.range Rs.length) (fun k=>((S0 n Rs Rs.length).V k).wt.v)=(Rs.length:Rat):=by
    refine(Jk _ _ (fun _=>(1:Rat)) (fun k hk=>by rw [hV k (jf.1 hk)];exact jlw)).trans ?_;rw [ZL,kZ];grind
   rw [e1,e2];grind
 ·rw [hst,jgu hd hO];show s≤n+0;omega
 ·refine⟨s+1,Nat.succ_pos s,?_,⟨Rs.length,?_⟩,fun k hk=>⟨s+1,?_⟩⟩
  ·show s+1≤2^(16*2^0-12);have:(2:Nat)^(16*2^0-12)=16:=by decide
   omega
  ·rw [qj];exact qv
  ·rw [hV k hk];show one.v*_=_;rw [jlw];grind
 ·show(if k<Rs.length then _ else blank).wi=none;rw [jT (by omega)];rfl
theorem Vu.inv {n s m:Nat}{q:Fr}{O:List Nat}{S0 S:St}{R:List Rd}(h0:Inv n s m q O S0)(hm:m≤4096)(h:Vu n m s q O S0 R S):Inv n s m q O S∧R.length+S.mu O≤S0.mu O:=by
 induction h with
 |nil=>exact⟨h0,by simp⟩
 |
  snoc h hd ih=>
  obtain⟨h1,h2⟩:=ih.1.next hm hd;exact⟨h1,by rw [ja];simp;have:=ih.2;omega⟩
end Go.Proofs.YtnohcdpnnhmpfaaGreatDoor.TR
