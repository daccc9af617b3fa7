/- Chapter 13, Transfer: what (*hall).round jpl, in plain words. -/
import Derived.Test.YtnohcdpnnhmpfaaGreatDoorE20
import Derived.Test.YtnohcdpnnhmpfaaGreatDoorE21
set_option linter.all false
set_option maxRecDepth 100000
set_option maxHeartbeats 16000000
namespace Go.Proofs.YtnohcdpnnhmpfaaGreatDoor.TR
open Go.RowKit Tryz ML FRP AU CT FM
variable{R b:C0}{a:n0}{eb i k n:Nat}{l:E0}{pb rg rn:Nat→Nat}{w:m0}
def HK.On(K:HK):E0:=K.O.map Int.toNat
theorem jhF(l:E0):(yK l).map Int.toNat=l:=by simp [yK,Function.comp_def]
theorem jct(l:C0)(h: ∀x∈l,0≤x):yK (l.map Int.toNat)=l:=by
 unfold yK;rw [List.map_map]
 conv=>rhs;rw [←List.map_id l]
 refine qz fun x hx=>?_;have:=h x hx;simp;omega
theorem jbt(l:E0)(p:Int→Bool)(f:Nat→Bool)(h: ∀i∈l,p (i:Int)=f i):(yK l).filter p=yK (l.filter f):=by
 induction l with
 |nil=>rfl
 |
  cons x l ih=>
  have h1:=ih (fun i hi=>h i (by simp [hi]));have h2:=h x (by simp);unfold yK at*;simp only [jI];by_cases hf:f x=true;·rw [List.filter_cons_of_pos (by rw [h2];exact hf),List.filter_cons_of_pos hf,h1];rfl
  ·rw [List.filter_cons_of_neg (by rw [h2];exact hf),List.filter_cons_of_neg hf,h1]
theorem Xo.onats {K:HK}(h:Xo K):K.O=yK K.On:=(jct K.O (fun x hx=>((h.mem x).1 hx).1)).symm
theorem Xo.omem {K:HK}(h:Xo K)(i:Nat):i∈K.On↔i<K.c.op.length:=by
 unfold HK.On;rw [jo];constructor
 ·rintro⟨x,hx,rfl⟩;have:=(h.mem x).1 hx;omega
 ·intro hi;exact⟨(i:Int),(h.mem _).2 ⟨by omega,by omega⟩,by simp⟩
theorem Xo.ond {K:HK}(h:Xo K):K.On.Nodup:=by
 have h1:=h.nd;rw [h.onats]at h1;unfold yK at h1;exact List.Pairwise.of_map _ (fun a b Cs e=>Cs (by rw [e])) h1
theorem Xo.olen {K:HK}(h:Xo K):K.On.length=K.c.op.length:=by
 unfold HK.On;rw [kS];exact h.len
theorem Xo.idx {K:HK}(h:Xo K)(hi:i<K.c.op.length):K.P.getD i 0=(K.On.idxOf i:Int):=by
 have hm:=(h.omem i).2 hi;have ns:=vT hm;have hk:K.On.idxOf i<K.O.length:=by rw [h.len,←h.olen];exact ns
 have h1:=List.getElem_idxOf (x:=i) (xs:=K.On) ns;have h2:=h.place (K.On.idxOf i) hk;have h3:K.O[K.On.idxOf i].toNat=i:=by
  generalize K.On.idxOf i=j at*;have h4:K.On[j]?=(K.O[j]?).map Int.toNat:=by unfold HK.On;rw [qe]
  rw [kL ns,kL hk,h1]at h4;simpa using h4.symm
 rw [h3]at h2;rw [jV,h2];rfl
theorem Xo.place_ne {K:HK}(h:Xo K){a b:Nat}(ha:a<K.c.op.length)(hb:b<K.c.op.length)(Cs:a≠b):K.P.getD a 0≠K.P.getD b 0:=by
 rw [h.idx ha,h.idx hb];intro e;exact Cs (jji ((h.omem a).2 ha) ((h.omem b).2 hb) (by omega))
theorem Xo.pbd {K:HK}(h:Xo K): ∀x∈K.P,0≤x∧x<1000:=by
 intro x hx;obtain⟨j,hj,rfl⟩:=vn hx;have Ew:j<K.c.op.length:=by rw [←h.plen];exact hj
 have h1:=h.idx Ew;have h2:K.On.idxOf j<K.On.length:=vT ((h.omem j).2 Ew);have h3:=h.olen;have h4:=h.n12;rw [jV,kL hj]at h1;simp only [jG]at h1;omega
theorem jiY {K:HK}(h:Xo K){T:Nat→Fr}(hl: ∀i∈l,i<K.c.op.length)(hp:R.Perm (yK l))(hs:R.Pairwise (leT T K.P)): ∃r,R=yK r∧Rk T K.On l r∧r.length=l.length:=by
 have h0: ∀x∈R,0≤x∧x.toNat∈l:=fun x hx=>by
  have:=hp.mem_iff.1 hx;unfold yK at this;obtain⟨i,hi,rfl⟩:=jo.1 this;exact⟨by omega,by simpa using hi⟩
 refine⟨R.map Int.toNat,(jct R (fun x hx=>(h0 x hx).1)).symm,⟨?_,?_⟩,by rw [kS,hp.length_eq,zA]⟩
 ·have:=hp.map Int.toNat
  rwa [jhF]at this
 ·rw [List.pairwise_map];refine xT (fun {a b} ha hb Az=>?_) hs;have h1:=hl _ (h0 a ha).2;have h2:=hl _ (h0 b hb).2;rcases Az with Az|⟨e1,e2⟩;·exact .inl Az
  ·refine .inr ⟨e1,?_⟩;rw [h.idx h1,h.idx h2]at e2;omega
theorem jat {K:HK}(h:Xo K)(hl: ∀i∈l,i<K.c.op.length)(hd:l.Nodup):(yK l).Pairwise fun y x=>K.P.getD y.toNat 0≠K.P.getD x.toNat 0:=by
 unfold yK;rw [List.pairwise_map];refine xT (fun {a b} ha hb Cs=>?_) hd;simp only [ke];exact h.place_ne (hl a ha) (hl b hb) Cs
theorem jol {x y:Fr}(ox:0<x.d)(oy:0<y.d):(!decide (VM x y≤0))=decide (y.v<x.v):=by
 rcases Qb ox oy with⟨h1,h2⟩|⟨h1,h2⟩|⟨h1,h2⟩;·rw [h1,jS (show ¬y.v<x.v by grind)];rfl
 ·rw [h1,jS (show ¬y.v<x.v by grind)];rfl
 ·rw [h1,jT h2];rfl
theorem Zv(p:Nat→Bool):(l.filter p).length≤l.length:=qJ _ _
theorem YZ{kb:Nat}{xa xb:Nat→n0}{T:o0}(a b:n0)(h:w.heap[kb]?=some (.cells (yy n xa xb).toArray T (0,0)))(hi:i<n):(w.setCells kb (i*2) [a,b]).heap[kb]?=some (.cells (yy n (upd xa i a) (upd xb i b)).toArray T (0,0)):=by
 have h1:=jd w kb (i*2) _ _ a h;have h2:=jd (w.setCell ⟨kb,i*2,none⟩ a) kb (i*2+1) _ _ b h1;show((w.setCell ⟨kb,i*2,none⟩ a).setCell ⟨kb,i*2+1,none⟩ b).heap[kb]?=_;rw [h2];congr 2;apply Array.ext_getElem?;intro j;have hl: ∀(xa xb:Nat→n0),(yy n xa xb).length=n*2:=fun xa xb=>JU n xa xb;have hj:j=(j/2)*2∨j=(j/2)*2+1:=by omega
 simp only [Array.getElem?_setIfInBounds,jE,Array.size_setIfInBounds,xI,hl];by_cases az:j/2<n
 ·obtain⟨g1,g2⟩:=QU n xa xb (j/2) az;obtain⟨g3,g4⟩:=QU n (upd xa i a) (upd xb i b) (j/2) az;rcases hj with hj|hj
  ·rw [jQ (show ¬(i*2+1=j)by omega)];by_cases e:i=j/2
   ·rw [jP (show i*2=j by omega),jP (by omega)];rw [hj,g3,←e,xp]
   ·rw [jQ (show ¬(i*2=j)by omega),hj,g1,g3,xw _ _ _ _ (fun e2=>e e2.symm)]
  ·by_cases e:i=j/2
   ·rw [jP (show i*2+1=j by omega),jP (by omega)];rw [hj,g4,←e,xp]
   ·rw [jQ (show ¬(i*2+1=j)by omega),jQ (show ¬(i*2=j)by omega),hj,g2,g4,xw _ _ _ _ (fun e2=>e e2.symm)]
 ·rw [jQ (show ¬(i*2+1=j)by omega),jQ (show ¬(i*2=j)by omega),kR (by rw [hl];omega),kR (by rw [hl];omega)]
structure Rnk(n:Nat)(b:C0):Prop where
 len:b.length=n
 bd: ∀x∈b,0≤x∧x≤n
 inj: ∀i j (hi:i<b.length) (hj:j<b.length),b[i]=b[j]→0<b[i]→i=j
 gap: ∀r,r<JK b→((r+1:Nat):Int)∈b
theorem jnR(c:yH)(b:C0): ∀d k,k+d=b.length→okL c (b.take k) (b.drop k)=true→ ∀j (h:j<b.length),k≤j→okX c (b.take j) b[j]=true:=by
 intro d
 induction d with
 |zero=>intro k hk _ j hj Wz;omega
 |
  succ d ih=>
  intro k hk ho j hj Wz;have ns:k<b.length:=by omega
  rw [jgB c b k ns,jy]at ho;by_cases e:k=j;·subst e;exact ho.1
  ·exact ih (k+1) (by omega) ho.2 j hj (by omega)
theorem jlQ {c:yH}(hr:zV c.rl=true)(hl:b.length=c.op.length)(h:JN c b=true):Rnk c.op.length b:=by
 unfold JN at h;rw [jy,jy,hr]at h;obtain⟨⟨h1,h2⟩,_⟩:=h;have h3:=jnR c b b.length 0 (by omega) h1;have ht:Xx c=(c.op.length:Int):=jP hr;refine⟨hl,fun x hx=>?_,fun i j hi hj he h0=>?_,fun r DE=>?_⟩
 ·obtain⟨j,hj,rfl⟩:=vn hx;have:=h3 j hj (ja _);unfold okX at this;rw [jy,kK,ht]at this;exact this.1
 ·rcases vf i j with ns|cU|ns
  ·exfalso;have:=h3 j hj (ja _);unfold okX at this;rw [jy]at this;have h4:=this.2;rw [hr,jT (he▸h0),jT (show b[j]∈b.take j from by rw [←he];exact vq.2 ⟨i,by omega,rfl⟩)]at h4;exact absurd h4 (by decide)
  ·exact cU
  ·exfalso;have:=h3 i hi (ja _);unfold okX at this;rw [jy]at this;have h4:=this.2;rw [hr,jT h0,jT (show b[i]∈b.take i from by rw [he];exact vq.2 ⟨j,by omega,rfl⟩)]at h4;exact absurd h4 (by decide)
 ·rw [Bool.not_true,Bool.false_or]at h2;unfold jaX at h2;exact qP (kw.1 h2 r (jk.2 DE))
def Jb(b:C0):E0:=(List.range (JK b)).map fun r=>b.idxOf ((r+1:Nat):Int)
theorem Vk(b:C0):(Jb b).length=JK b:=by simp [Jb]
theorem Rnk.lt(h:Rnk n b): ∀i∈Jb b,i<n:=by
 intro i hi;unfold Jb at hi;obtain⟨r,hr,rfl⟩:=jo.1 hi;rw [←h.len];exact vT (h.gap r (jk.1 hr))
theorem Rnk.at_(h:Rnk n b)(hi:i<b.length)(h0:0<b[i])(hp:b[i].toNat-1<JK b):(Jb b)[b[i].toNat-1]?=some i:=by
 unfold Jb;rw [qe,xQ hp];simp only [Option.map_some,Option.some.injEq];have hx:=h.bd _ (jb hi);have e:((b[i].toNat-1+1:Nat):Int)=b[i]:=by omega
 rw [e];have hm:b[i]∈b:=jb hi;have ns:=vT hm;have h1:=List.getElem_idxOf (x:=b[i]) (xs:=b) ns;exact h.inj _ _ ns hi h1 (by rw [h1];exact h0)
structure jfO(b R:C0)(k:Nat):Prop where
 len:R.length=b.length
 set: ∀i (hi:i<b.length),i<k→0<b[i]→R[b[i].toNat-1]?=some (i:Int)
theorem jfO.skip(h:jfO b R k)(hk:k<b.length)(h0: ¬0<b[k]):jfO b R (k+1):=⟨h.len,fun i hi Cy hp=>by
 by_cases e:i=k;·subst e;exact absurd hp h0
 ·exact h.set i hi (by omega) hp⟩
theorem jfO.put(hb:Rnk n b)(h:jfO b R k)(hk:k<b.length)(h0:0<b[k]):jfO b (R.set (b[k].toNat-1) (k:Int)) (k+1):=⟨by rw [kE];exact h.len,fun i hi Cy hp=>by
 have hx:=hb.bd _ (jb hk);have hl:=hb.len;by_cases e:i=k
 ·subst e;rw [List.getElem?_set_self (by rw [h.len];omega)]
 ·have hxi:=hb.bd _ (jb hi)
  rw [vv (by
   intro e2;exact e (hb.inj i k hi hk (by omega) hp))]
  exact h.set i hi (by omega) hp⟩
theorem jfO.done(hb:Rnk n b)(h:jfO b R b.length): ∀j (hj:j<(Jb b).length),R[j]?=some (((Jb b)[j]:Nat):Int):=by
 intro j hj;have Ew:j<JK b:=by rw [←Vk];exact hj
 have hm:=hb.gap j Ew;obtain⟨i,hi,he⟩:=vn hm;have h1:=h.set i hi hi (by rw [he];omega);have h2:=hb.at_ hi (by rw [he];omega) (by rw [he];omega);rw [he]at h1 h2;have e:((j+1:Nat):Int).toNat-1=j:=by omega
 rw [e]at h1 h2;rw [kL hj]at h2;rw [h1];injection h2 with h2;rw [h2]
theorem jkh(b:C0)(k:Nat)(h:k<b.length):JK (b.take (k+1))=JK (b.take k)+if 0<b[k]then 1 else 0:=by
 rw [jh h,jdR]
theorem jhU(n:Nat)(b:C0)(ob:s0)(cb:Nat)(w:m0)(hb:Rnk n b)(hn:n≤12)(h:yW w ob b):
 Calls prog 121 #[.slice ob b.length cb] w fun e w'=> ∃(g:Nat) (R:C0),e=.returned (.slice (some ⟨g,0,none⟩) (Jb b).length n)∧w.heap.size≤g∧w'.heap[g]?=some (.cells (xq R).toArray 3 (0,0))∧(∀j (hj:j<(Jb b).length),R[j]?=some (((Jb b)[j]:Nat):Int))∧O0 w.heap.size w w':=by
 obtain⟨i0,rA,Is,Ts,Ns⟩:=info_parts KC;have I0:=jA rA;have dN:=jA Is;have bN:=jA Ts;have aN:=jA Ns;have wS:=jA hb;have HL:=jA hb.len;have HI:=jA h;have GT:b.length≤12:=by rw [hb.len];exact hn
 clear rA Is Ts Ns hb h;go_enter Tryz.func121,Tryz.ntmps121;go_upto_region 2 with(refine wpList_make_row _ rfl _ _ 29 rfl 3 i0 (.int .i64 0) underlying29 I0.u dN.u bN.u rfl .i64 .i64 b.length rfl rfl (by rw [aN.u];omega) (by omega) ?_);have hR0:(w.alloc (.cells (madeCells #[Value.int .i64 0] b.length) 3)).heap[w.heap.size]?=some (.cells (xq (List.replicate b.length 0)).toArray 3 (0,0)):=by
  rw [xh rfl];congr 2;have:=vW (.int .i64 0) b.length;rw [←Array.toArray_toList (xs:=madeCells #[Value.int .i64 0] b.length),this];simp [xq]
 have Gz:O0 w.heap.size w (w.alloc (.cells (madeCells #[Value.int .i64 0] b.length) 3)):=(jN _ _).alloc (jO _) _;generalize hB:w.heap.size=B at*;have HB:=jA hB;refine xr (fun w1=>w1.heap[B]?=some (.cells (xq (List.replicate b.length 0)).toArray 3 (0,0))∧O0 B w w1) ⟨hR0,Gz⟩ (fun w1 ts=>?_);have H1:=jA ts;clear ts hR0 Gz hB;go_wp2_with fail;go_loopw [12,4] (fun v c wr=> ∃(k:Nat) (R:C0),v=.int .i64 k∧c=.int .i64 (JK (b.take k))∧k≤b.length∧jfO b R k∧wr.heap[B]?=some (.cells (xq R).toArray 3 (0,0))∧O0 B w wr) (fun v _ _=>b.length-(intOf v).toNat);case atStart=>exact⟨0,_,rfl,rfl,ja _,⟨by simp,fun i _ h=>by omega⟩,H1.u.1,H1.u.2⟩
 case round=>
 clear H1;obtain⟨k,R,rfl,rfl,hk,mT,hc,Uw⟩:=hrel;have RA:=jA mT;have HC:=jA hc;have BR:=jA Uw;have Ny:=mT.len;have pu:JK (b.take k)≤k:=jU (jfm _) (by rw [jf];omega);clear mT hc Uw;by_cases ns:k<b.length;case neg=>
  obtain⟨dk,Ms⟩:=Go.yg ns;obtain rfl:k=b.length:=by omega
  have Cw:=jA (show JK (b.take b.length)=(Jb b).length by rw [jr,Vk]);have HX:=jA Ny;clear Ny;generalize JK (b.take b.length)=c at*;have e1:(c:Int)≤(b.length:Int):=by omega
  go_wp2_with fail;go_ret;exact⟨B,R,by rw [←Cw.u,←HL.u];rfl,kh HB.u,HC.u,RA.u.done wS.u,by rw [HB.u];exact BR.u⟩
 obtain⟨dk,Ms,Py⟩:=Go.yD ns
 obtain⟨a,Us,eu,Ft⟩:=(HI.u.below (HB.u.symm▸BR.u)).cells k ns;have HX:=jA (wS.u.bd _ (jb ns));have PT:=jA (jkh b k ns);have bS:=jA (fun h=>RA.u.skip ns h);have HPU:=jA (fun h=>RA.u.put wS.u ns h);have Ox:=xZ HC.u;have RL:=jA Ny;subst Us;clear Ny;generalize b[k]=x at*;generalize hpc:JK (b.take k)=c at*;clear hpc;by_cases hx:0<x;case neg=>
  have dx:decide ((0:Int)<x)=false:=jS hx;have Sw:=jA (bS.u hx);have cI:=jA (show JK (b.take (k+1))=c by rw [PT.u,jQ hx];rfl);clear hx;go_wp2_with fail;go_roundw;case rel=>exact⟨k+1,R,by go_num,by rw [cI.u],by omega,Sw.u,HC.u,BR.u⟩
  case measure=>simp [intOf];omega
 have dx:decide ((0:Int)<x)=true:=jT hx;have Sw:=jA (HPU.u hx);have cI:=jA (show JK (b.take (k+1))=c+1 by rw [PT.u,jP hx]);obtain⟨y,hy⟩: ∃y:Nat,x=(y:Int)+1:=⟨x.toNat-1,by omega⟩;have hyl:y<b.length:=by have:=HX.u;have:=HL.u;omega
 have HY:=jA (show x.toNat-1=y by omega);subst hy;rw [HY.u]at Sw;have dy:(y:Int)<(b.length:Int):=by omega
 have bK: ∃u,wr.cell? ⟨B,y,none⟩=some u:=⟨.int .i64 (R[y]'(by rw [RL.u];exact hyl)),by rw [jM wr B y _ _ _ HC.u];simp [xq,RL.u,hyl]⟩;obtain⟨u,bK⟩:=bK;have zcy:wr.frozen? ⟨B,y,none⟩=false:=jc wr B y _ _ HC.u;have av:=jA (jd wr B y _ _ (.int .i64 (k:Int)) HC.u);clear hx;have e5:wrap64 (y:Int)=(y:Int):=IntWalk.wrap64_in _ (by omega);go_wp2_with fail;go_roundw;case rel=>
  refine⟨k+1,R.set y (k:Int),by go_num,by rw [cI.u];go_num,by omega,Sw.u,?_,xl BR.u (yC y _) (jO _)⟩;rw [av.u];congr 2;simp [xq,vC]
 case measure=>simp [intOf];omega
def zx:n0:=.slice none 0 0
def mkK(K:HK)(a b:n0)(eb m:Nat)(pb rg rn:Nat→Nat)(rc:Nat→t0):HK:=⟨K.c,K.oa,K.cap,K.oO,K.cO,K.oP,K.cP,K.O,K.P,a,b,K.hb,K.wb,K.kb,K.cb,K.mb,eb,m,pb,rg,rn,rc,K.w0⟩
def blank:Vo:=⟨[],0,none,one⟩
def start(rk:E0):Vo:=⟨rk,0,none,one⟩
def c0(n:Nat):Nat→Bool:=fun i=>decide (i<n)
def S0(n:Nat)(Rs:List (E0))(k:Nat):St:=⟨fun j=>if j<k then(start (Rs.getD j [])).go (c0 n)else blank,c0 n,fun _=>false,fun _=>zero,[]⟩
theorem jjt(n:Nat)(Rs:List (E0))(k:Nat):zF (zF (S0 n Rs k) k (start (Rs.getD k []))) k ((start (Rs.getD k [])).go (c0 n))=S0 n Rs (k+1):=by
 rw [Kv];unfold zF S0;congr 1;funext j;unfold upd;by_cases e:j=k;·subst e;simp
 ·by_cases h:j<k;·simp [e,h,show j<k+1 by omega]
  ·simp [e,h,show ¬j<k+1 by omega]
theorem yB.add {K:HK}{b:n0}{rc:Nat→t0}{q:Fr}{S:St}{G:HG}(h:yB (mkK K a b eb k pb rg rn rc) q S G w)(Nx:G.ev=zx)(AA:S.el= [])
 {rk:E0} {g p r:Nat} {cs:t0} {x y:n0} {wt:Fr} (hg:w.heap[g]?=some (.cells cs 3 (0,0))) (hp:w.heap[p]?=some (.cells #[.slice (some ⟨g,0,none⟩) rk.length r,x,y,.int .i64 (0:Int)] 168 (0,0)))
 (Dz: ∀j (hj:j<rk.length),cs[j]?=some (.int .i64 ((rk[j]:Nat):Int))) (hr:rk.length≤r) (EK:rk.length≤12) (hf:FrV w wt x y) (bM: ∀j,j<k→pb j≠p) (hb:K.w0.heap.size≤p):
 yB (mkK K a b w.heap.size (k+1) (upd pb k p) (upd rg k g) (upd rn k r) (upd rc k cs)) q (zF S k ⟨rk,0,none,wt⟩) ⟨G.pv,G.nv,G.ev,G.PL,upd G.wn k x,upd G.wd k y,G.kn,G.kd⟩ w:=by
 have Cs: ∀j,j<k→j≠k:=fun j hj=>by omega
 have ns: ∀j,j<k+1→j≠k→j<k:=fun j hj he=>by omega
 have hV: ∀j,j≠k→(zF S k ⟨rk,0,none,wt⟩).V j=S.V j:=fun j hj=>xw _ _ _ _ hj;refine⟨h.bel,h.hall,h.withs,h.kepts,h.conts,h.moveds,h.cm,fun j hj=>?_,fun i j hi hj he=>?_,fun j hj=>?_,fun j hj=>?_,fun j hj=>?_,fun j hj=>?_,h.keps,h.quo,fun i hi=>?_,?_,h.apart,h.apartN,fun o=>⟨(h.pls o).1,fun j hj=>?_⟩,?_,⟨h.bases.1,h.bases.2.1,h.bases.2.2.1,h.bases.2.2.2.1,h.bases.2.2.2.2.1,h.bel.size,fun j hj=>?_⟩,h.contb,jO _⟩
 ·show w.heap[upd pb k p j]?=some (.cells #[.slice (some ⟨upd rg k g j,0,none⟩) ((zF S k ⟨rk,0,none,wt⟩).V j).rk.length (upd rn k r j),upd G.wn k x j,upd G.wd k y j,.int .i64 (((zF S k ⟨rk,0,none,wt⟩).V j).nx:Int)] _ _);by_cases e:j=k
  ·subst e;rw [xp,xp,xp,xp,xp,Jc];exact hp
  ·rw [xw _ _ _ _ e,xw _ _ _ _ e,xw _ _ _ _ e,xw _ _ _ _ e,xw _ _ _ _ e,hV j e];exact h.papers j (ns j hj e)
 ·have WG:upd pb k p i=upd pb k p j:=he;by_cases e1:i=k
  ·by_cases e2:j=k;·omega
   ·subst e1;rw [xp,xw _ _ _ _ e2]at WG;exact absurd WG.symm (bM j (ns j hj e2))
  ·by_cases e2:j=k
   ·subst e2;rw [xp,xw _ _ _ _ e1]at WG;exact absurd WG (bM i (ns i hi e1))
   ·rw [xw _ _ _ _ e1,xw _ _ _ _ e2]at WG;exact h.pinj i j (ns i hi e1) (ns j hj e2) WG
 ·show w.heap[upd rg k g j]?=some (.cells (upd rc k cs j) _ _)∧upd rg k g j<w.heap.size;by_cases e:j=k;·subst e;rw [xp,xp];exact⟨hg,xZ hg⟩
  ·rw [xw _ _ _ _ e,xw _ _ _ _ e];have h1:=(h.ranks j (ns j hj e)).1;exact⟨h1,xZ h1⟩
 ·show ∀i (hi:i<((zF S k ⟨rk,0,none,wt⟩).V j).rk.length),(upd rc k cs j)[i]?=some (.int .i64 ((((zF S k ⟨rk,0,none,wt⟩).V j).rk[i]:Nat):Int));by_cases e:j=k;·subst e;rw [Jc,xp];exact Dz
  ·rw [hV j e,xw _ _ _ _ e];exact h.rkc j (ns j hj e)
 ·show _≤upd rn k r j∧_∧_;by_cases e:j=k;·subst e;rw [Jc,xp];exact⟨hr,EK,ja _⟩
  ·rw [hV j e,xw _ _ _ _ e];exact h.rkl j (ns j hj e)
 ·show FrV w _ (upd G.wn k x j) (upd G.wd k y j);by_cases e:j=k;·subst e;rw [Jc,xp,xp];exact hf
  ·rw [hV j e,xw _ _ _ _ e,xw _ _ _ _ e];exact h.wts j (ns j hj e)
 ·have h1:=h.piles i hi;have e:Kh (mkK K a b w.heap.size (k+1) (upd pb k p) (upd rg k g) (upd rn k r) (upd rc k cs)) (G.PL (some i))=Kh (mkK K a b eb k pb rg rn rc) (G.PL (some i)):=by
   unfold Kh;refine qz fun j hj=>?_;have:=((h.pls (some i)).2 j hj).1;show Value.pointer (some ⟨upd pb k p j,0,none⟩)=Value.pointer (some ⟨pb j,0,none⟩);rw [xw _ _ _ _ (Cs j this)]
  rw [e];exact h1
 ·have h1:=h.nones;have e:Kh (mkK K a b w.heap.size (k+1) (upd pb k p) (upd rg k g) (upd rn k r) (upd rc k cs)) (G.PL none)=Kh (mkK K a b eb k pb rg rn rc) (G.PL none):=by
   unfold Kh;refine qz fun j hj=>?_;have:=((h.pls none).2 j hj).1;show Value.pointer (some ⟨upd pb k p j,0,none⟩)=Value.pointer (some ⟨pb j,0,none⟩);rw [xw _ _ _ _ (Cs j this)]
  rw [e];exact h1
 ·have h1:=(h.pls o).2 j hj;have h2:j<k:=h1.1;exact⟨by show j<k+1;omega,by rw [hV j (Cs j h2)];exact h1.2⟩
 ·show GRow noLimb w w.heap.size _ 1 G.ev S.el.length (xq (S.el.map fun i:Nat=>(i:Int)));rw [Nx,AA];exact GRow.nil
 ·show K.w0.heap.size≤upd pb k p j;by_cases e:j=k;·subst e;rw [xp];exact hb
  ·rw [xw _ _ _ _ e];exact h.bases.2.2.2.2.2.2 j (ns j hj e)
theorem jab.add {K:HK}{b:n0}{rc:Nat→t0}{Rs:List (E0)}{G G':HG}{K':HK}(hm:K'.m=k+1)(hF:jab (mkK K a b eb k pb rg rn rc) (S0 n Rs k) G)(hP:G'.PL=upd G.PL ((start (Rs.getD k [])).go (c0 n)).wi (G.PL ((start (Rs.getD k [])).go (c0 n)).wi++ [k])):jab K' (S0 n Rs (k+1)) G':=by
 intro j hj;rw [hm]at hj;rw [hP];by_cases e:j=k
 ·subst e;have h1:(S0 n Rs (j+1)).V j=(start (Rs.getD j [])).go (c0 n):=jP (by omega);rw [h1,xp];exact jj.2 (.inr (by simp))
 ·have mM:j<k:=by omega
  have h1:(S0 n Rs (k+1)).V j=(S0 n Rs k).V j:=by
   show(if j<k+1 then _ else _)=(if j<k then _ else _);rw [jP (by omega),jP mM]
  rw [h1];have h2:=hF j mM;by_cases e2:((S0 n Rs k).V j).wi=((start (Rs.getD k [])).go (c0 n)).wi;·rw [e2,xp];rw [e2]at h2;exact jj.2 (.inl h2)
  ·rw [xw _ _ _ _ e2];exact h2
end Go.Proofs.YtnohcdpnnhmpfaaGreatDoor.TR
namespace Go.Proofs.YtnohcdpnnhmpfaaGreatDoor.TR
open Go.RowKit Tryz ML FRP AU CT FM Go.Seg
variable{M T n s:Nat}{P:Program}{a:Act}{b:Bool}{o:Oper}{v z:n0}{w:m0}
theorem wpList_build{ops:Array Oper}{rest:List Oper}{Q:Exit→Act→m0→Prop}(tA:o.guard=none)(t:o0)(parts:Array (Nat×Operand))(ho:o.op=.build t parts)(l:List (Nat×n0))(hp:(parts.map fun(i,x)=>(i,a.eval x)).toList=l)(cells:t0)(hf:P.built t l=some cells)
 (h:wpList P ops Q rest (a.put o.dst (.agg cells)) w):wpList P ops Q (o::rest) a w:=by
 refine wpList_plain tA fun K hK=>?_;have hr:=run_build (P:=P) w t (parts.map fun(i,x)=>(i,a.eval x)) cells (by rw [hp];exact hf);unfold Oper.wp execOp;simp only [ho,kU,hr,qQ];exact hK _ _ h
theorem jiI(nm:ByteArray)(oa:s0)(n cap:Nat)(r s m:Int)(oO:s0)(lO cO:Nat)(oP:s0)(lP cP:Nat)(W K C M N:Nat):prog.built 116 [(0,.agg #[.string nm,.slice oa n cap,.int .i64 r,.int .i64 s,.int .i64 m,.slice oO lO cO,.slice oP lP cP]),(2,.slice (some ⟨W,0,none⟩) N N),(4,.slice (some ⟨K,0,none⟩) N N),(5,.slice (some ⟨C,0,none⟩) N N),(6,.slice (some ⟨M,0,none⟩) N N)]=some #[.string nm,.slice oa n cap,.int .i64 r,.int .i64 s,.int .i64 m,.slice oO lO cO,.slice oP lP cP,.slice none 0 0,.slice none 0 0,.slice (some ⟨W,0,none⟩) N N,.slice none 0 0,.slice (some ⟨K,0,none⟩) N N,.slice (some ⟨C,0,none⟩) N N,.slice (some ⟨M,0,none⟩) N N,.slice none 0 0]:=by kernel_rfl
def jic(c:yH)(oa:s0)(cap:Nat)(oO:s0)(lO cO:Nat)(oP:s0)(lP cP WB KB CB MB:Nat):List (Nat×n0):= [(0,.agg #[.string ⟨c.nm.toArray⟩,.slice oa c.op.length cap,.int .i64 c.rl,.int .i64 c.se,.int .i64 c.mo,.slice oO lO cO,.slice oP lP cP]),(2,.slice (some ⟨WB,0,none⟩) c.op.length c.op.length),(4,.slice (some ⟨KB,0,none⟩) c.op.length c.op.length),(5,.slice (some ⟨CB,0,none⟩) c.op.length c.op.length),(6,.slice (some ⟨MB,0,none⟩) c.op.length c.op.length)]
theorem jfM(c:yH)(oa:s0)(cap:Nat)(oO:s0)(lO cO:Nat)(oP:s0)(lP cP WB KB CB MB:Nat):prog.built 116 (jic c oa cap oO lO cO oP lP cP WB KB CB MB)=some #[.string ⟨c.nm.toArray⟩,.slice oa c.op.length cap,.int .i64 c.rl,.int .i64 c.se,.int .i64 c.mo,.slice oO lO cO,.slice oP lP cP,.slice none 0 0,.slice none 0 0,.slice (some ⟨WB,0,none⟩) c.op.length c.op.length,.slice none 0 0,.slice (some ⟨KB,0,none⟩) c.op.length c.op.length,.slice (some ⟨CB,0,none⟩) c.op.length c.op.length,.slice (some ⟨MB,0,none⟩) c.op.length c.op.length,.slice none 0 0]:=jiI _ oa _ cap _ _ _ oO _ cO oP _ cP WB KB CB MB _
theorem jng(w:m0)(o:Obj):O0 w.heap.size w (w.alloc o):=(jN _ _).alloc (jO _) _
theorem jek:(prog.info? 113).map (fun i=>(i.zero,i.size,i.bytes))=some (some (.slice none 0 0),1,24):=by kernel_rfl
theorem YI:(prog.info? 4).map (fun i=>(i.zero,i.size,i.bytes))=some (some (.bool false),1,1):=by kernel_rfl
theorem jdc{K:Act→m0→Prop}{Q:Exit→Act→m0→Prop}(ty:o0)(y:Operand)(ho:o.op=.load ty y)(b:Nat)(cs:t0)(t:o0)(fr:Nat×Nat)(d:TypeDesc)
 (hx:a.eval y=.pointer (some ⟨b,0,none⟩)) (hb:w.heap[b]?=some (.cells cs t fr)) (hu:P.underlying ty=some d) (hd:(match d with| .struct _=>true| .array _ _=>true|_=>false)=true)
 (hi:(P.info? ty).map (·.size)=some cs.size) (h:K (a.put o.dst (.agg cs)) w):o.wp P a w K Q:=by
 have hr:=run_loadVar_row (P:=P) w b t ty cs fr d hb hu (by cases d<;>first|rfl|exact hd) hi;unfold Oper.wp execOp;simp only [ho,hx,Instr.loadAt,Instr.sureAddr,kU,Sem.run_pure,qQ,hr];exact h
def Mk(M T s n:Nat)(z:n0)(b:Bool)(v:n0)(w:m0):Prop:=b=true→ ∃W,v=.slice (some ⟨W,0,none⟩) n n∧W<w.heap.size∧w.ownsRow M T s (.slice (some ⟨W,0,none⟩) n n) n (madeCells z.cells (n*s)).toList
theorem Mk.keep{w':m0}(h:Mk M T s n z b v w)(tw:O0 w.heap.size w w'):Mk M T s n z b v w':=fun hb=>by
 obtain⟨W,e,l,o⟩:=h hb;exact⟨W,e,jW l tw.size,yA o tw⟩
theorem Mk.ne(h:Mk M T s n z b v w)(hb:b=true):Value.slice (some ⟨w.heap.size,0,none⟩) n n≠v:=fun e=>by
 obtain⟨W,e2,l,_⟩:=h hb;rw [e2]at e;injection e with e;injection e with e;injection e with e;omega
noncomputable def nReg(n:Nat):Code:=((Tryz.f71.body.bind (Qn n)).getD .skip)
theorem jkv(c:yH)(oa:s0)(cap:Nat)(oO:s0)(lO cO:Nat)(oP:s0)(lP cP B M:Nat)(w0:m0)(Q:Exit→Act→m0→Prop){u0 u1 u3 u4 u6 u7 u8 u9 P0 Ob C7 G9 Th Ph Dh c7 E7 L1 i4 A4 Rb i7 I4 L4 ff N1 N4 U1 l7 t7 A7 W7 R4 G2 P4 T4 g7 L2 N2 i3 A3 D3 G3 I3 L3 P3 A1 R0 U0 a5 i5 l5 A5 C5 E5 I5 L5 a6 i6 l6 m6 n6 t6 A6 C6 E6 I6 L6 M6 a7:n0}(hn:c.op.length≤12)(hM:w0.heap.size=M)(GE:w0.heap[B]?=some (.cells (#[.string ⟨c.nm.toArray⟩,.slice oa c.op.length cap,.int .i64 c.rl,.int .i64 c.se,.int .i64 c.mo,.slice oO lO cO,.slice oP lP cP]) 62 (0,0)))
 (hP: ∀(c:List PanicEntry) (a:Act) (d:L0) (v:n0) (w:m0),Q (.panic c) (a.put d v) w→Q (.panic c) a w)
 (hQ: ∀(Uh Wh Ei fi Fi Gi ei gi ai wl Al:n0) (Hb WB KB CB MB:Nat) (w':m0),CB≠MB∧M≤Hb∧w'.heap[Hb]?=some (.cells (#[.string ⟨c.nm.toArray⟩,.slice oa c.op.length cap,.int .i64 c.rl,.int .i64 c.se,.int .i64 c.mo,.slice oO lO cO,.slice oP lP cP,.slice none 0 0,.slice none 0 0,.slice (some ⟨WB,0,none⟩) c.op.length c.op.length,.slice none 0 0,.slice (some ⟨KB,0,none⟩) c.op.length c.op.length,.slice (some ⟨CB,0,none⟩) c.op.length c.op.length,.slice (some ⟨MB,0,none⟩) c.op.length c.op.length,.slice none 0 0]) 116 (0,0))∧w'.ownsRow M 113 1 (.slice (some ⟨WB,0,none⟩) c.op.length c.op.length) c.op.length (madeCells (Value.cells (.slice none 0 0)) (c.op.length*1)).toList∧w'.ownsRow M 90 2 (.slice (some ⟨KB,0,none⟩) c.op.length c.op.length) c.op.length (madeCells (Value.cells (.agg #[.slice none 0 0,.slice none 0 0])) (c.op.length*2)).toList∧w'.ownsRow M 4 1 (.slice (some ⟨CB,0,none⟩) c.op.length c.op.length) c.op.length (madeCells (Value.cells (.bool false)) (c.op.length*1)).toList∧w'.ownsRow M 4 1 (.slice (some ⟨MB,0,none⟩) c.op.length c.op.length) c.op.length (madeCells (Value.cells (.bool false)) (c.op.length*1)).toList∧O0 M w0 w'→Q .normal ⟨#[u0,u1,.pointer (some ⟨B,0,none⟩),u3,u4,.int .i64 (c.op.length:Int),.pointer (some ⟨Hb,0,none⟩),u7,u8,u9,P0,Ob,C7,G9,Uh,Wh,Ei,fi,Fi,Gi,ei,gi,ai,wl,Al,L4,ff,N1,N4,U1,l7,t7,A7,W7,R4,G2,P4,T4,g7,L2,N2,i3,A3,D3,G3,I3,L3,P3,A1,R0,U0,a5,i5,l5,A5,C5,E5,I5,L5,a6,i6,l6,m6,n6,t6,A6,C6,E6,I6,L6,M6,a7],[]⟩ w'):
 Code.wp prog (nReg 2) Q ⟨#[u0,u1,.pointer (some ⟨B,0,none⟩),u3,u4,.int .i64 (c.op.length:Int),u6,u7,u8,u9,P0,Ob,C7,G9,Th,Ph,Dh,c7,E7,L1,i4,A4,Rb,i7,I4,L4,ff,N1,N4,U1,l7,t7,A7,W7,R4,G2,P4,T4,g7,L2,N2,i3,A3,D3,G3,I3,L3,P3,A1,R0,U0,a5,i5,l5,A5,C5,E5,I5,L5,a6,i6,l6,m6,n6,t6,A6,C6,E6,I6,L6,M6,a7],[]⟩ w0:=by
 have HQ:=jA hQ;have bu:=jA GE;obtain⟨p0,pI',pA',pB',pC'⟩:=info_parts jek;obtain⟨f0,fI',fA',fB',fC'⟩:=info_parts jaU;obtain⟨b0,IV,NV,MV,LV⟩:=info_parts YI;have pI:=jA pI';have pA:=jA pA';have pB:=jA pB';have pC:=jA pC';have fI:=jA fI';have fA:=jA fA';have fB:=jA fB';have fC:=jA fC';have bI:=jA IV;have bA:=jA NV;have bB:=jA MV;have bC:=jA LV;have Gy:B<M:=by rw [←hM];exact xZ GE
 have Ht:M≤w0.heap.size:=kh hM.symm;clear hP hQ hM GE pI' pA' pB' pC' fI' fA' fB' fC' IV NV MV LV
 conv=>arg 2;whnf
 dsimp only
 refine Seg.Xd 9 (fun L a w=> ∃(Uh Wh Ei fi Fi Gi ei gi ai:n0),a=⟨#[u0,u1,.pointer (some ⟨B,0,none⟩),u3,u4,.int .i64 (c.op.length:Int),u6,u7,u8,u9,P0,Ob,C7,G9,Uh,Wh,Ei,fi,Fi,Gi,ei,gi,ai,i7,I4,L4,ff,N1,N4,U1,l7,t7,A7,W7,R4,G2,P4,T4,g7,L2,N2,i3,A3,D3,G3,I3,L3,P3,A1,R0,U0,a5,i5,l5,A5,C5,E5,I5,L5,a6,i6,l6,m6,n6,t6,A6,C6,E6,I6,L6,M6,a7],[]⟩∧O0 M w0 w∧M≤w.heap.size∧(L.getD 0 false=true→Uh=.agg (#[.string ⟨c.nm.toArray⟩,.slice oa c.op.length cap,.int .i64 c.rl,.int .i64 c.se,.int .i64 c.mo,.slice oO lO cO,.slice oP lP cP]))∧
  (L.getD 1 false=true→Wh=(.int .i64 (c.op.length:Int)))∧(L.getD 3 false=true→fi=(.int .i64 (c.op.length:Int)))∧(L.getD 5 false=true→Gi=(.int .i64 (c.op.length:Int)))∧(L.getD 7 false=true→gi=(.int .i64 (c.op.length:Int)))∧
  Mk M 113 1 c.op.length (.slice none 0 0) (L.getD 2 false) Ei w∧Mk M 90 2 c.op.length (.agg #[.slice none 0 0,.slice none 0 0]) (L.getD 4 false) Fi w∧Mk M 4 1 c.op.length (.bool false) (L.getD 6 false) ei w∧Mk M 4 1 c.op.length (.bool false) (L.getD 8 false) ai w∧(L.getD 6 false=true→L.getD 8 false=true→ei≠ai)) (by kernel_rfl) (by kernel_rfl) ?_ ?_ ?_
 case refine_1=>
  exact⟨_,_,_,_,_,_,_,_,_,rfl,(jN _ _).drew,Ht,fun h=>absurd h (by decide),fun h=>absurd h (by decide),fun h=>absurd h (by decide),fun h=>absurd h (by decide),fun h=>absurd h (by decide),fun h=>absurd h (by decide),fun h=>absurd h (by decide),fun h=>absurd h (by decide),fun h=>absurd h (by decide),fun h=>absurd h (by decide)⟩
 case refine_2=>
  clear Ht;intro i hi L a w hr hI;obtain⟨Uh,Wh,Ei,fi,Fi,Gi,ei,gi,ai,rfl,hb,Ht,h0,h1,h3,h5,h7,h2,h4,h6,h8,h9⟩:=hI;obtain⟨AE,o,ho,hall⟩:=mem_ready.1 hr;have hs:=Xk AE;have g: ∀j,j≠i→(L.setIfInBounds i true).getD j false=L.getD j false:=fun j hj=>getD_set_ne false (Ne.symm hj);have H0:=jA h0;have H1:=jA h1;have H3:=jA h3;have H5:=jA h5;have H7:=jA h7;have H2:=jA h2;have H4:=jA h4;have H6:=jA h6;have H8:=jA h8;have H9:=jA h9;have Ov:=jA hb;clear h0 h1 h3 h5 h7 h2 h4 h6 h8 h9 hb;have Wx:=(zl hr).symm.trans ho;injection Wx with Wx;subst Wx;clear ho hr;rcases(show i=0∨i=1∨i=2∨i=3∨i=4∨i=5∨i=6∨i=7∨i=8 by omega)with rfl|rfl|rfl|rfl|rfl|rfl|rfl|rfl|rfl
  ·clear hall;have hX:=xe Ov.u Gy bu.u
   as_aux_lemma=>
   unfold Seg.JB;intro K hK;have HK:=jA hK;clear hK;rw [jP (by rfl)];refine jdc 62 _ rfl B (#[.string ⟨c.nm.toArray⟩,.slice oa c.op.length cap,.int .i64 c.rl,.int .i64 c.se,.int .i64 c.mo,.slice oO lO cO,.slice oP lP cP]) 62 (0,0) _ rfl hX underlying62 rfl zQ ?_;refine HK.u _ _ trivial ?_;simp only [g 1 (by decide),g 2 (by decide),g 3 (by decide),g 4 (by decide),g 5 (by decide),g 6 (by decide),g 7 (by decide),g 8 (by decide)];exact⟨_,_,_,_,_,_,_,_,_,rfl,Ov.u,Ht,(fun _=>rfl),H1.u,H3.u,H5.u,H7.u,H2.u,H4.u,H6.u,H8.u,H9.u⟩
  ·clear hall
   as_aux_lemma=>
   unfold Seg.JB;intro K hK;have HK:=jA hK;clear hK;try simp only [Seg.yS,Seg.opAt,jK]
   first|go_simp|skip
   go_wp2_with fail;refine HK.u _ _ trivial ?_;simp only [g 0 (by decide),g 2 (by decide),g 3 (by decide),g 4 (by decide),g 5 (by decide),g 6 (by decide),g 7 (by decide),g 8 (by decide)];exact⟨_,_,_,_,_,_,_,_,_,rfl,Ov.u,Ht,H0.u,(fun _=>rfl),H3.u,H5.u,H7.u,H2.u,H4.u,H6.u,H8.u,H9.u⟩
  ·have d0:L.getD 1 false=true:=hall ⟨1,.data⟩ (by simp [Seg.opAt]) rfl;clear hall;obtain rfl:=H1.u d0;obtain⟨w',Uy,own,hg⟩:=vK (P:=prog) (w:=w) M 112 113 p0 (.slice none 0 0) 1 underlying112 pI.u pA.u pB.u .i64 .i64 c.op.length (by rw [pC.u];omega) (by unfold maxLen;omega) Ht;have Fv:=jA own;clear own
   as_aux_lemma=>
   unfold Seg.JB;intro K hK;have HK:=jA hK;clear hK;try simp only [Seg.yS,Seg.opAt,jK]
   first|go_simp|skip
   try rw [Uy]
   go_wp2_with fail;have tw:O0 w.heap.size w w':=(jN _ _).grown hg (jO _) (fun _ h=>by cases h);refine HK.u _ _ trivial ?_;simp only [g 0 (by decide),g 1 (by decide),g 3 (by decide),g 4 (by decide),g 5 (by decide),g 6 (by decide),g 7 (by decide),g 8 (by decide)];exact⟨_,_,_,_,_,_,_,_,_,rfl,Ov.u.trans (tw.mono Ht),jU Ht tw.size,H0.u,(fun _=>rfl),H3.u,H5.u,H7.u,(fun _=>⟨w.heap.size,rfl,(Fv.u.lt _ rfl).2,Fv.u⟩),(H4.u.keep tw),(H6.u.keep tw),(H8.u.keep tw),H9.u⟩
  ·clear hall
   as_aux_lemma=>
   unfold Seg.JB;intro K hK;have HK:=jA hK;clear hK;try simp only [Seg.yS,Seg.opAt,jK]
   first|go_simp|skip
   go_wp2_with fail;refine HK.u _ _ trivial ?_;simp only [g 0 (by decide),g 1 (by decide),g 2 (by decide),g 4 (by decide),g 5 (by decide),g 6 (by decide),g 7 (by decide),g 8 (by decide)];exact⟨_,_,_,_,_,_,_,_,_,rfl,Ov.u,Ht,H0.u,H1.u,(fun _=>rfl),H5.u,H7.u,H2.u,H4.u,H6.u,H8.u,H9.u⟩
  ·have d0:L.getD 3 false=true:=hall ⟨3,.data⟩ (by simp [Seg.opAt]) rfl;clear hall;obtain rfl:=H3.u d0;obtain⟨w',Uy,own,hg⟩:=vK (P:=prog) (w:=w) M 114 90 f0 (.agg #[.slice none 0 0,.slice none 0 0]) 2 underlying114 fI.u fA.u fB.u .i64 .i64 c.op.length (by rw [fC.u];omega) (by unfold maxLen;omega) Ht;have Fv:=jA own;clear own
   as_aux_lemma=>
   unfold Seg.JB;intro K hK;have HK:=jA hK;clear hK;try simp only [Seg.yS,Seg.opAt,jK]
   first|go_simp|skip
   try rw [Uy]
   go_wp2_with fail;have tw:O0 w.heap.size w w':=(jN _ _).grown hg (jO _) (fun _ h=>by cases h);refine HK.u _ _ trivial ?_;simp only [g 0 (by decide),g 1 (by decide),g 2 (by decide),g 3 (by decide),g 5 (by decide),g 6 (by decide),g 7 (by decide),g 8 (by decide)];exact⟨_,_,_,_,_,_,_,_,_,rfl,Ov.u.trans (tw.mono Ht),jU Ht tw.size,H0.u,H1.u,(fun _=>rfl),H5.u,H7.u,(H2.u.keep tw),(fun _=>⟨w.heap.size,rfl,(Fv.u.lt _ rfl).2,Fv.u⟩),(H6.u.keep tw),(H8.u.keep tw),H9.u⟩
  ·clear hall
   as_aux_lemma=>
   unfold Seg.JB;intro K hK;have HK:=jA hK;clear hK;try simp only [Seg.yS,Seg.opAt,jK]
   first|go_simp|skip
   go_wp2_with fail;refine HK.u _ _ trivial ?_;simp only [g 0 (by decide),g 1 (by decide),g 2 (by decide),g 3 (by decide),g 4 (by decide),g 6 (by decide),g 7 (by decide),g 8 (by decide)];exact⟨_,_,_,_,_,_,_,_,_,rfl,Ov.u,Ht,H0.u,H1.u,H3.u,(fun _=>rfl),H7.u,H2.u,H4.u,H6.u,H8.u,H9.u⟩
  ·have d0:L.getD 5 false=true:=hall ⟨5,.data⟩ (by simp [Seg.opAt]) rfl;clear hall;obtain rfl:=H5.u d0;obtain⟨w',Uy,own,hg⟩:=vK (P:=prog) (w:=w) M 39 4 b0 (.bool false) 1 underlying39 bI.u bA.u bB.u .i64 .i64 c.op.length (by rw [bC.u];omega) (by unfold maxLen;omega) Ht;have Fv:=jA own;clear own
   as_aux_lemma=>
   unfold Seg.JB;intro K hK;have HK:=jA hK;clear hK;try simp only [Seg.yS,Seg.opAt,jK]
   first|go_simp|skip
   try rw [Uy]
   go_wp2_with fail;have tw:O0 w.heap.size w w':=(jN _ _).grown hg (jO _) (fun _ h=>by cases h);refine HK.u _ _ trivial ?_;simp only [g 0 (by decide),g 1 (by decide),g 2 (by decide),g 3 (by decide),g 4 (by decide),g 5 (by decide),g 7 (by decide),g 8 (by decide)];exact⟨_,_,_,_,_,_,_,_,_,rfl,Ov.u.trans (tw.mono Ht),jU Ht tw.size,H0.u,H1.u,H3.u,(fun _=>rfl),H7.u,(H2.u.keep tw),(H4.u.keep tw),(fun _=>⟨w.heap.size,rfl,(Fv.u.lt _ rfl).2,Fv.u⟩),(H8.u.keep tw),(fun _ h=>H8.u.ne h)⟩
  ·clear hall
   as_aux_lemma=>
   unfold Seg.JB;intro K hK;have HK:=jA hK;clear hK;try simp only [Seg.yS,Seg.opAt,jK]
   first|go_simp|skip
   go_wp2_with fail;refine HK.u _ _ trivial ?_;simp only [g 0 (by decide),g 1 (by decide),g 2 (by decide),g 3 (by decide),g 4 (by decide),g 5 (by decide),g 6 (by decide),g 8 (by decide)];exact⟨_,_,_,_,_,_,_,_,_,rfl,Ov.u,Ht,H0.u,H1.u,H3.u,H5.u,(fun _=>rfl),H2.u,H4.u,H6.u,H8.u,H9.u⟩
  ·have d0:L.getD 7 false=true:=hall ⟨7,.data⟩ (by simp [Seg.opAt]) rfl;clear hall;obtain rfl:=H7.u d0;obtain⟨w',Uy,own,hg⟩:=vK (P:=prog) (w:=w) M 39 4 b0 (.bool false) 1 underlying39 bI.u bA.u bB.u .i64 .i64 c.op.length (by rw [bC.u];omega) (by unfold maxLen;omega) Ht;have Fv:=jA own;clear own
   as_aux_lemma=>
   unfold Seg.JB;intro K hK;have HK:=jA hK;clear hK;try simp only [Seg.yS,Seg.opAt,jK]
   first|go_simp|skip
   try rw [Uy]
   go_wp2_with fail;have tw:O0 w.heap.size w w':=(jN _ _).grown hg (jO _) (fun _ h=>by cases h);refine HK.u _ _ trivial ?_;simp only [g 0 (by decide),g 1 (by decide),g 2 (by decide),g 3 (by decide),g 4 (by decide),g 5 (by decide),g 6 (by decide),g 7 (by decide)];exact⟨_,_,_,_,_,_,_,_,_,rfl,Ov.u.trans (tw.mono Ht),jU Ht tw.size,H0.u,H1.u,H3.u,H5.u,(fun _=>rfl),(H2.u.keep tw),(H4.u.keep tw),(H6.u.keep tw),(fun _=>⟨w.heap.size,rfl,(Fv.u.lt _ rfl).2,Fv.u⟩),(fun h _=>(H6.u.ne h).symm)⟩
 case refine_3=>
  clear Ht bu pI pA pB pC fI fA fB fC bI bA bB bC;intro L a w hall hI;obtain⟨Uh,Wh,Ei,fi,Fi,Gi,ei,gi,ai,rfl,hb,Ht,h0,h1,h3,h5,h7,h2,h4,h6,h8,h9⟩:=hI;obtain rfl:=h0 (hall 0 (by omega));obtain⟨WB,rfl,lW,oW⟩:=h2 (hall 2 (by omega));obtain⟨KB,rfl,lK,oK⟩:=h4 (hall 4 (by omega));obtain⟨CB,rfl,lC,oC⟩:=h6 (hall 6 (by omega));obtain⟨MB,rfl,lM,oM⟩:=h8 (hall 8 (by omega));have mF:CB≠MB:=fun e=>h9 (hall 6 (by omega)) (hall 8 (by omega)) (by rw [e]);have OW:=jA oW;have OK:=jA oK;have OC:=jA oC;have OM:=jA oM;have Ov:=jA hb;clear h1 h3 h5 h7 h9 h2 h4 h6 h8 h0 hall oW oK oC oM hb;simp only [jF,jH];go_wp2_with (refine wpList_build rfl 116 _ rfl (jic c oa cap oO lO cO oP lP cP WB KB CB MB) (by unfold jic;first|(simp;done)|(simp [Act.eval];done)) _ (jfM ..) ?_);exact HQ.u _ _ _ _ _ _ _ _ _ _ _ w.heap.size WB KB CB MB _ ⟨mF,Ht,xh rfl,yA OW.u (jng _ _),yA OK.u (jng _ _),yA OC.u (jng _ _),yA OM.u (jng _ _),Ov.u.trans ((jng _ _).mono Ht)⟩
end Go.Proofs.YtnohcdpnnhmpfaaGreatDoor.TR
namespace Go.Proofs.YtnohcdpnnhmpfaaGreatDoor.TR
open Go.RowKit Tryz ML FRP AU CT FM
variable{a b:n0}{i n:Nat}{kd kn:Nat→n0}{w:m0}
structure jaH(K:HK)(kn kd:Nat→n0)(i:Nat)(w:m0):Prop where
 bel:O0 K.w0.heap.size K.w0 w
 hall:w.heap[K.hb]?=some (.cells (jel K ⟨fun _=>zx,zx,zx,fun _=> [],fun _=>zx,fun _=>zx,kn,kd⟩) 116 (0,0))
 withs:w.heap[K.wb]?=some (.cells (((List.range K.c.op.length).map fun _=>zx).toArray) 113 (0,0))
 kepts:w.heap[K.kb]?=some (.cells (yy K.c.op.length kn kd).toArray 90 (0,0))
 conts:w.heap[K.cb]?=some (.cells (XZ K.c.op.length fun j=>decide (j<i)) 4 (0,0))
 moveds:w.heap[K.mb]?=some (.cells (XZ K.c.op.length fun _=>false) 4 (0,0))
 cm:K.cb≠K.mb
 bases:K.w0.heap.size≤K.hb∧K.w0.heap.size≤K.wb∧K.w0.heap.size≤K.kb∧K.w0.heap.size≤K.cb∧K.w0.heap.size≤K.mb
 frs: ∀j,j<i→FrV w zero (kn j) (kd j)
 nol: ∀j,noLimb (kn j)=true∧noLimb (kd j)=true
theorem jaH.below {K:HK}{w':m0}(h:jaH K kn kd i w)(hb:O0 w.heap.size w w'):jaH K kn kd i w':=by
 have t:=Trn.of_below hb 0 K.w0.heap.size;exact⟨t.below h.bel,t.keepX h.hall (by simp),t.keepX h.withs (by simp),t.keepX h.kepts (by simp),t.keepX h.conts (by simp),t.keepX h.moveds (by simp),h.cm,h.bases,fun j hj=>t.fr (h.frs j hj),h.nol⟩
theorem jmO(h: ∀j,noLimb (kn j)=true∧noLimb (kd j)=true):YX (yy n kn kd).toArray:=by
 intro u hu;simp only [yy,qj,jk,jl,kD,kH]at hu;obtain⟨i,hi,rfl|rfl⟩:=hu;·exact(h i).1
 ·exact(h i).2
theorem jaH.next {K:HK}(h:jaH K kn kd i w)(hi:i<K.c.op.length)(hf:FrV w zero a b):jaH K (upd kn i a) (upd kd i b) (i+1) ((w.setCell ⟨K.cb,i,none⟩ (.bool true)).setCells K.kb (i*2) [a,b]):=by
 have t1:Trn 4 K.w0.heap.size (some K.cb) w (w.setCell ⟨K.cb,i,none⟩ (.bool true)):=Trn.of_only (yC i _) h.conts h.bases.2.2.2.1 (Ka _ _);have hk:=t1.keep h.kepts (by decide);have t2:Trn 90 K.w0.heap.size (some K.kb) (w.setCell ⟨K.cb,i,none⟩ (.bool true)) ((w.setCell ⟨K.cb,i,none⟩ (.bool true)).setCells K.kb (i*2) [a,b]):=Trn.of_only (zf K.kb [a,b] (i*2) _) hk h.bases.2.2.1 (jmO h.nol);refine⟨t2.below (t1.below h.bel),t2.keep (t1.keep h.hall (by decide)) (by decide),t2.keep (t1.keep h.withs (by decide)) (by decide),YZ a b hk hi,t2.keep ?_ (by decide),t2.keep (t1.keepX h.moveds (by intro e;injection e with e;exact h.cm e)) (by decide),h.cm,h.bases,fun j hj=>?_,fun j=>?_⟩
 ·rw [jd w K.cb i _ _ _ h.conts,←jbe _ _ _ _ hi];congr 2;unfold XZ;congr 1;refine qz fun j _=>?_;unfold upd;by_cases e:j=i;·subst e;simp
  ·rw [jQ e];congr 1;rw [decide_eq_decide];omega
 ·by_cases e:j=i;·subst e;rw [xp,xp];exact t2.fr (t1.fr hf)
  ·rw [xw _ _ _ _ e,xw _ _ _ _ e];exact t2.fr (t1.fr (h.frs j (by omega)))
 ·by_cases e:j=i;·subst e;rw [xp,xp];exact⟨hf.noLimb.1,hf.noLimb.2.1⟩
  ·rw [xw _ _ _ _ e,xw _ _ _ _ e];exact h.nol j
theorem jog {w1 w2:m0}{b:Nat}(h:w.grownBy w1 (some b))(k:w1.grownBy w2 (some b)):w.grownBy w2 (some b):=JX h k
theorem Vs{base:Nat}{e:o0}{s g:Nat}{xs:A0}(h:w.ownsRow base e s (.slice (some ⟨g,0,none⟩) n n) n xs):base≤g∧w.heap[g]?=some (.cells xs.toArray e (0,0)):=by
 rcases h.2 with⟨hv,_⟩|⟨g2,cap,Es,hv,hb,hg,h1,h2,h3,h4⟩;·cases hv
 ·injection hv with e1 e2 e3;injection e1 with e1;injection e1 with e1;subst e1;subst e3;refine⟨hb,?_⟩;rw [hg];congr 2;rw [←h4,je (by rw [Array.length_toList,h3];exact jO _)]
theorem jkz {z:n0}(m k:Nat)(h: ∀j,j<m→(madeCells (Array.replicate k z) m).toList[j]?=some z):(madeCells (Array.replicate k z) m).toList=List.replicate m z:=by
 apply List.ext_getElem?;intro j;by_cases hj:j<m;·rw [h j hj,qU,jP hj]
 ·rw [kR (by rw [Array.length_toList,size_madeCells];omega),kR (by simp;omega)]
theorem jdZ(n:Nat):(madeCells (Value.agg #[.slice none 0 0,.slice none 0 0]).cells (n*2)).toList=yy n (fun _=>zx) (fun _=>zx):=by
 have h1:(Value.agg #[.slice none 0 0,.slice none 0 0]).cells=Array.replicate 2 zx:=by rfl
 rw [h1,jkz (z:=zx) (n*2) 2 (fun j hj=>by
  unfold madeCells;rw [Array.getElem?_toList,Array.getElem?_map,Array.getElem?_range,jP hj];simp only [Option.map_some,Option.some.injEq];rcases(show j%(Array.replicate 2 zx).size=0∨j%(Array.replicate 2 zx).size=1 by simp;omega)with h|h<;>rw [h]<;>rfl)]
 symm;rw [List.eq_replicate_iff];refine⟨JU _ _ _,fun u hu=>?_⟩;simp only [yy,qj,jk,jl,kD,kH]at hu;obtain⟨i,hi,rfl|rfl⟩:=hu<;>rfl
theorem jgE(z:n0)(hz:z.cells= #[z])(n:Nat):(madeCells z.cells (n*1)).toList=(List.range n).map fun _=>z:=by
 rw [hz,qS,vW];simp [List.map_const']
def zW(m s:Nat):Fr:=(Fr.wh m).div (Fr.wh (s+1))
def yT(Bs:List (n0×C0)):List (E0):=Bs.map fun p=>Jb p.2
theorem jmo {K:HK}{q:Fr}{Rs:List (E0)}(h:jaH K kn kd K.c.op.length w)(hq:K.qn=zx∧K.qd=zx)(hf:FrV w q a b):yB (mkK K a b K.w0.heap.size 0 (fun _=>0) (fun _=>0) (fun _=>0) fun _=> #[]) q (S0 K.c.op.length Rs 0) ⟨fun _=>zx,zx,zx,fun _=> [],fun _=>zx,fun _=>zx,kn,kd⟩ (w.setCells K.hb 7 [a,b]):=by
 have hn:YX (jel K ⟨fun _=>zx,zx,zx,fun _=> [],fun _=>zx,fun _=>zx,kn,kd⟩):=by
  intro u hu;simp only [jel,jl,kD,kH]at hu;rcases hu with rfl|rfl|rfl|rfl|rfl|rfl|rfl|rfl|rfl|rfl|rfl|rfl|rfl|rfl|rfl<;>first|rfl|(rw [hq.1];rfl)|(rw [hq.2];rfl)
 have t:Trn 116 K.w0.heap.size (some K.hb) w (w.setCells K.hb 7 [a,b]):=Trn.of_only (zf K.hb [a,b] 7 w) h.hall h.bases.1 hn;have h1:=jd w K.hb 7 _ _ a h.hall;have h2:=jd (w.setCell ⟨K.hb,7,none⟩ a) K.hb 8 _ _ b h1;refine⟨t.below h.bel,?_,t.keep h.withs (by decide),t.keep h.kepts (by decide),t.keep h.conts (by decide),t.keep h.moveds (by decide),h.cm,fun k hk=>absurd hk (qC k),fun k j hk=>absurd hk (qC k),fun k hk=>absurd hk (qC k),fun k hk=>absurd hk (qC k),fun k hk=>absurd hk (qC k),fun k hk=>absurd hk (qC k),fun i hi=>t.fr (h.frs i hi),t.fr hf,fun i hi=>GRow.nil,GRow.nil,fun i j hi hj Cs=>.inl rfl,fun i hi=>.inl rfl,fun o=>⟨List.nodup_nil,fun k hk=>by cases hk⟩,GRow.nil,⟨h.bases.1,h.bases.2.1,h.bases.2.2.1,h.bases.2.2.2.1,h.bases.2.2.2.2,jO _,fun k hk=>absurd hk (qC k)⟩,fun i hi=>qP hi,jU h.bel.size t.grown.size⟩;show((w.setCell ⟨K.hb,7,none⟩ a).setCell ⟨K.hb,8,none⟩ b).heap[K.hb]?=_;rw [h2];rfl
theorem jhn(g rl rn:Nat)(oa ob:s0)(la lb ca cb:Nat):prog.built 168 [(0,.slice (some ⟨g,0,none⟩) rl rn),(1,.agg #[.slice oa la ca,.slice ob lb cb])]=some #[.slice (some ⟨g,0,none⟩) rl rn,.slice oa la ca,.slice ob lb cb,.int .i64 0]:=by kernel_rfl
theorem jgC(c:yH)(oa:s0)(cap:Nat)(oO:s0)(cO:Nat)(oP:s0)(cP:Nat)(O P:C0)(Bs:List (n0×C0))(ob:s0)(cb:Nat)(w:m0)
 (rJ:yW w oO O) (oJ:yW w oP P) (hP:Va w ob Bs) (Sw:1≤c.op.length) (Ws:c.op.length≤12) (hm:Bs.length≤4096) (hR: ∀p∈Bs,Rnk c.op.length p.2) (cG:1≤c.se∧c.se≤c.op.length)
 (Ux:O.length=c.op.length) (Cw:P.length=c.op.length) (Mu: ∀x,x∈O↔0≤x∧x<(c.op.length:Int)) (wD: ∀k (hk:k<O.length),P[O[k].toNat]?=some (k:Int)) (tJ:O.Nodup):
 Calls prog 71 #[.agg #[.string ⟨c.nm.toArray⟩,.slice oa c.op.length cap,.int .i64 c.rl,.int .i64 c.se,.int .i64 c.mo,.slice oO O.length cO,.slice oP P.length cP],.slice ob Bs.length cb] w fun e w'=> ∃(K:HK) (G:HG),e=.returned (.pointer (some ⟨K.hb,0,none⟩))∧K.c=c∧K.m=Bs.length∧K.O=O∧K.w0=w∧Xo K∧yB K (zW Bs.length c.se.toNat) (S0 c.op.length (yT Bs) Bs.length) G w'∧jab K (S0 c.op.length (yT Bs) Bs.length) G:=by
 obtain⟨p0,pI',pA',pB',pC'⟩:=info_parts jek;obtain⟨f0,fI',fA',fB',fC'⟩:=info_parts jaU;obtain⟨b0,IV,NV,MV,LV⟩:=info_parts YI;have gz:=jA hP;have HR:=jA hR;clear pI' pA' pB' pC' fI' fA' fB' fC' IV NV MV LV hP hR;have lL:=jA rJ;have iL:=jA oJ;have Ex:=jA (show O.length=c.op.length∧P.length=c.op.length∧(∀x,x∈O↔0≤x∧x<(c.op.length:Int))∧(∀k (hk:k<O.length),P[O[k].toNat]?=some (k:Int))∧O.Nodup from⟨Ux,Cw,Mu,wD,tJ⟩);clear rJ oJ Ux Cw Mu wD tJ;go_enter Tryz.func71,Tryz.ntmps71;go_upto_region 1 with(fail);have Bv:O0 w.heap.size w (w.alloc (.cells #[.string ⟨c.nm.toArray⟩,.slice oa c.op.length cap,.int .i64 c.rl,.int .i64 c.se,.int .i64 c.mo,.slice oO O.length cO,.slice oP P.length cP] 62)):=(jN _ _).alloc (jO _) _;have hcA:(w.alloc (.cells #[.string ⟨c.nm.toArray⟩,.slice oa c.op.length cap,.int .i64 c.rl,.int .i64 c.se,.int .i64 c.mo,.slice oO O.length cO,.slice oP P.length cP] 62)).heap[w.heap.size]?=some (.cells #[.string ⟨c.nm.toArray⟩,.slice oa c.op.length cap,.int .i64 c.rl,.int .i64 c.se,.int .i64 c.mo,.slice oO O.length cO,.slice oP P.length cP] 62 (0,0)):=xh rfl;generalize hB:w.heap.size=B at*;refine xr (fun w1=>O0 B w w1∧w1.heap[B]?=some (.cells #[.string ⟨c.nm.toArray⟩,.slice oa c.op.length cap,.int .i64 c.rl,.int .i64 c.se,.int .i64 c.mo,.slice oO O.length cO,.slice oP P.length cP] 62 (0,0))) ⟨Bv,hcA⟩ (fun w1 ts=>?_);have HB:=jA hB;have bu:=jA ts.2;have B1:=jA ts.1;have k1:w1.cell? ⟨B,1,none⟩=some (.slice oa c.op.length cap):=jM w1 B 1 _ _ _ ts.2;have tI:B<w1.heap.size:=xZ ts.2;clear Bv hcA hB ts;go_upto_region 2 with(fail);clear k1;generalize DC:w1.heap.size=M0 at*;have wH:=jA DC;have nt:O0 M0 w1 w1.drew:=(jN _ _).drew;have Rz:M0≤w1.drew.heap.size:=kh DC.symm;have Gy:B<M0:=tI;clear DC tI
 as_aux_lemma=>
 refine jkv c oa cap oO O.length cO oP P.length cP B M0 w1 _ Ws wH.u bu.u (fun _ _ d _ _ h=>by cases d<;>exact h) ?_;rintro Uh Wh Ei fi Fi Gi ei gi ai wl Al Hb WB KB CB MB w2 ⟨mF,hHb,hH,hW,hKr,hC,gH,Ut⟩;dsimp only [Exit.then];clear nt Rz;obtain⟨bw,hW⟩:=Vs hW;obtain⟨bk,hKr⟩:=Vs hKr;obtain⟨bc,hC⟩:=Vs hC;obtain⟨bm,gH⟩:=Vs gH;rw [jgE _ rfl]at hW hC gH;rw [jdZ]at hKr;obtain⟨K,hK⟩: ∃K:HK,K=⟨c,oa,cap,oO,cO,oP,cP,O,P,zx,zx,Hb,WB,KB,CB,MB,0,0,fun _=>0,fun _=>0,fun _=>0,fun _=> #[],w⟩:=⟨_,rfl⟩;have ou:w.heap.size≤M0:=by rw [HB.u];omega
 have it:O0 w.heap.size w w2:=by
  rw [HB.u];exact B1.u.trans (Ut.mono (by omega))
 have eN:=jA (show w2.heap[B]?=some (.cells #[.string ⟨c.nm.toArray⟩,.slice oa c.op.length cap,.int .i64 c.rl,.int .i64 c.se,.int .i64 c.mo,.slice oO O.length cO,.slice oP P.length cP] 62 (0,0))from(Ut.block B Gy).trans bu.u);have NA:jaH K (fun _=>zx) (fun _=>zx) 0 w2:=by
  rw [hK];exact⟨it,hH,hW,hKr,hC,gH,mF,⟨jU ou hHb,jU ou bw,jU ou bk,jU ou bc,jU ou bm⟩,fun j hj=>by omega,fun j=>⟨rfl,rfl⟩⟩
 have eb:M0≤K.hb∧M0≤K.wb∧M0≤K.kb∧M0≤K.cb∧M0≤K.mb:=by rw [hK];exact⟨hHb,bw,bk,bc,bm⟩
 have HKb:=jA eb;have HNA:=jA NA;have HQ:=jA (show K.qn=zx∧K.qd=zx by rw [hK];exact⟨rfl,rfl⟩);have e1:K.c=c:=by rw [hK]
 have e2:K.oa=oa:=by rw [hK]
 have e3:K.cap=cap:=by rw [hK]
 have e4:K.oO=oO:=by rw [hK]
 have e5:K.cO=cO:=by rw [hK]
 have e6:K.oP=oP:=by rw [hK]
 have e7:K.cP=cP:=by rw [hK]
 have e8:K.O=O:=by rw [hK]
 have e9:K.P=P:=by rw [hK]
 have e10:K.w0=w:=by rw [hK]
 have e11:K.hb=Hb:=by rw [hK]
 clear mF hHb hH hW hKr hC gH Ut bw bk bc bm ou it NA hK eb bu B1;subst e1 e2 e3 e4 e5 e6 e7 e8 e9 e10 e11
 as_aux_lemma=>
 go_wp2_with fail;have Px:=jA JJ;go_loopw [26] (fun v wr=> ∃(i:Nat) (kn kd:Nat→n0),v=.int .i64 i∧i≤K.c.op.length∧jaH K kn kd i wr∧wr.heap[B]?=some (.cells #[.string ⟨K.c.nm.toArray⟩,.slice K.oa K.c.op.length K.cap,.int .i64 K.c.rl,.int .i64 K.c.se,.int .i64 K.c.mo,.slice K.oO K.O.length K.cO,.slice K.oP K.P.length K.cP] 62 (0,0))) (fun v _=>K.c.op.length-(intOf v).toNat);case atStart=>exact⟨0,_,_,rfl,ja _,HNA.u,eN.u⟩
 case round=>
 clear HNA eN;obtain⟨i,kn,kd,rfl,hi,hna,wM⟩:=hrel;have NA:=jA hna;have BX:=jA wM;clear hna wM;by_cases ns:i<K.c.op.length;case pos=>
  obtain⟨dk,Ms,Py⟩:=Go.yD ns
  obtain⟨M,hM⟩: ∃M,M=wr.heap.size:=⟨_,rfl⟩;have HM:=jA hM;have l1:K.hb<M:=by rw [hM];exact xZ NA.u.hall
  have n1:K.hb≠K.cb:=zR NA.u.hall NA.u.conts (by decide);have d12: ∀x:GrT K.cb M wr,x.w.cell? ⟨K.hb,12,none⟩=some (.slice (some ⟨K.cb,0,none⟩) K.c.op.length K.c.op.length):=fun x=>Qx x l1 n1 (jM _ K.hb 12 _ _ _ NA.u.hall);have d11: ∀x:GrT K.cb M wr,x.w.cell? ⟨K.hb,11,none⟩=some (.slice (some ⟨K.kb,0,none⟩) K.c.op.length K.c.op.length):=fun x=>Qx x l1 n1 (jM _ K.hb 11 _ _ _ NA.u.hall);clear hM;go_upto_region 6 with(fail);clear dk Ms;refine Seg.xf (fun w'=> ∃x:GrT K.cb M wr,w'=x.w) [([0,1,2,3,4,5,6,7,8,9],10),([11],12)] [] 13 (by kernel_rfl) (by kernel_rfl) (fun _ _ d _ _ h=>by cases d<;>exact h) (ZA HM.u (xk (yG.refl _ wr).drew)) ?_;simp only [jK,Seg.opAt,Seg.xu];repeat (any_goals (first|go_big_quiet_step (fail)|quiet_step (fail)))
  refine jR ?_;intro Kc hK;simp only [Region.wanted,jY];go_wp2_with (go_at_call 117;refine(jlp wr.drew).mono ?_;rintro e w3 ⟨a,b,rfl,f3,ws⟩);have F3:=jA f3;have B3:=jA (yq ws);refine hK _ _ (ZA HM.u (JE B3.u)) ?_;clear hK Kc f3 ws d12 d11;have NA3:=jA (NA.u.below B3.u);have BX3:=jA (xe B3.u (xZ BX.u) BX.u);have nm:=Qd NA3.u.conts ns;have zm:w3.frozen? ⟨K.cb,i,none⟩=false:=jc w3 _ i _ _ NA3.u.conts;repeat (any_goals (first|go_big_quiet_step (fail)|quiet_step (fail)))
  refine jR ?_;intro Kc hK;simp only [Region.wanted,jY];go_wp2_with fail;refine hK _ _ (ZA HM.u (jog (JE B3.u) (xk (yC i _)))) ?_;clear hK Kc nm zm;have NX:=jA (NA3.u.next ns F3.u);have t1:Trn 4 0 (some K.cb) w3 (w3.setCell ⟨K.cb,i,none⟩ (.bool true)):=Trn.of_only (yC i _) NA3.u.conts (ja _) (Ka _ _);have KB4:=jA (t1.keep NA3.u.kepts (by decide));have BX4:=jA (t1.keep BX3.u (by decide));have Cs: ¬B=K.kb:=fun e=>by have:=HKb.u.2.2.1;omega
  have BX5:=jA (((zf K.kb [a,b] (i*2) (w3.setCell ⟨K.cb,i,none⟩ (.bool true))).block B Cs).trans BX4.u);have TH:(w3.setCell ⟨K.cb,i,none⟩ (.bool true)).there K.kb (i*2) 2:=fun j hj=>by
   refine⟨?_,jc _ _ _ _ _ KB4.u⟩;rw [jM _ K.kb (i*2+j) _ _ _ KB4.u];have:=JU K.c.op.length kn kd;simp;omega
  clear t1 Cs KB4 BX4;repeat (any_goals (first|go_big_quiet_step (fail)|quiet_step (fail)))
  refine jR ?_;go_wp2_with (refine qm rfl 90 _ _ rfl K.kb (i*2) #[a,b] rfl rfl TH Px.u (zd _ _ F3.u.noLimb.2.2.1 F3.u.noLimb.2.2.2) ?_);go_roundw;case rel=>exact⟨i+1,_,_,by go_num,by omega,NX.u,BX5.u⟩
  case measure=>simp [intOf];omega
 obtain⟨dk,Ms⟩:=Go.yg ns;obtain rfl:i=K.c.op.length:=by omega
 go_upto_region 8 with(fail);clear dk Ms ns hi;obtain⟨s,hs⟩: ∃s:Nat,K.c.se=s:=⟨K.c.se.toNat,by omega⟩;have lJ:1≤s∧s≤K.c.op.length:=by omega
 have CG:s≤12:=by omega
 have gA:=jA hs;have hbB:B<wr.heap.size:=xZ BX.u;have d3: ∀x:xj wr.heap.size wr,x.w.cell? ⟨B,3,none⟩=some (.int .i64 (s:Int)):=fun x=>by rw [←gA.u];exact jM _ B 3 _ _ _ (xe x.2 hbB BX.u)
 clear hs;have PR:=jA (fun w=>jag Bs.length w (by omega));have mW:=jA (fun w=>show Calls prog 118 #[.int .u64 ((s:Int)+1)] w _ from jag (s+1) w (by omega));refine Seg.xf (fun w'=> ∃x:xj wr.heap.size wr,w'=x.w) [([0,1,2,3,5,6,7,8,9],4),([],10),([],11)] [] 12 (by kernel_rfl) (by kernel_rfl) (fun _ _ d _ _ h=>by cases d<;>exact h) (⟨⟨_,(jN _ _).drew⟩,rfl⟩) ?_;simp only [jK,Seg.opAt,Seg.xu];repeat (any_goals (first|go_big_quiet_step (fail)|quiet_step (fail)))
 refine jR ?_;intro Kc hK;simp only [Region.wanted,jY];go_wp2_with (go_at_call 118;refine(PR.u wr.drew).mono ?_;rintro e w3 ⟨a1,b1,rfl,f1,et⟩);have F1:=jA f1;have B3:=jA (yq et);refine hK _ _ ⟨⟨w3,B3.u⟩,rfl⟩ ?_;clear hK Kc f1 et PR d3;repeat (any_goals (first|go_big_quiet_step (fail)|quiet_step (fail)))
 refine jR ?_;intro Kc hK;first|go_simp|skip
 go_wp2_with (go_at_call 118;refine(mW.u w3).mono ?_;rintro e w4 ⟨a2,b2,rfl,f2,us⟩);have F2:=jA f2;have F12:=jA (F1.u.below us);have B4:=jA (B3.u.trans (us.mono B3.u.size));refine hK _ _ ⟨⟨w4,B4.u⟩,rfl⟩ ?_;clear hK Kc f2 us mW F1 B3;repeat (any_goals (first|go_big_quiet_step (fail)|quiet_step (fail)))
 refine jR ?_;intro Kc hK;first|go_simp|skip
 have QO:=jA (jme w4 F12.u F2.u (Fr.wh_ok _) (by show 0<s+1;omega) (Sml.wh (n:=Bs.length) (by omega)).lens (Sml.wh (n:=s+1) (by omega)).lens);go_wp2_with (go_at_call 119;refine QO.u.mono ?_;rintro e w5 ⟨a3,b3,rfl,f3,ws⟩);have F3:=jA (show FrV w5 (zW Bs.length s) a3 b3 from f3);have B5:=jA (B4.u.trans (ws.mono B4.u.size));refine hK _ _ ⟨⟨w5,B5.u⟩,rfl⟩ ?_;clear hK Kc f3 ws QO F12 F2 B4;have NA5:=jA (NA.u.below B5.u);have TH:w5.there K.hb 7 2:=fun j hj=>by
  refine⟨?_,jc _ _ _ _ _ NA5.u.hall⟩;rw [jM _ K.hb (7+j) _ _ _ NA5.u.hall];rcases(show j=0∨j=1 by omega)with rfl|rfl<;>rfl
 repeat (any_goals (first|go_big_quiet_step (fail)|quiet_step (fail)))
 refine jR ?_;go_upto_region 9 with(refine qm rfl 90 _ _ rfl K.hb 7 #[a3,b3] rfl rfl TH Px.u (zd _ _ F3.u.noLimb.2.2.1 F3.u.noLimb.2.2.2) ?_);show Code.wp _ _ _ _ (w5.setCells K.hb 7 [a3,b3]);have NH:=jmo (Rs:=yT Bs) NA5.u HQ.u F3.u;refine xr (fun w6=>yB (mkK K a3 b3 K.w0.heap.size 0 (fun _=>0) (fun _=>0) (fun _=>0) fun _=> #[]) (zW Bs.length s) (S0 K.c.op.length (yT Bs) 0) ⟨fun _=>zx,zx,zx,fun _=> [],fun _=>zx,fun _=>zx,kn,kd⟩ w6) NH (fun w6 Lw=>?_);have H6:=jA Lw;clear Lw NH TH NA NA5 BX F3 B5 HQ HKb Px hbB Gy wH
 as_aux_lemma=>
 go_wp2_with fail;go_loopw [59] (fun v wr=> ∃(k eb:Nat) (pb rg rn:Nat→Nat) (rc:Nat→t0) (G:HG),v=.int .i64 k∧k≤Bs.length∧yB (mkK K a3 b3 eb k pb rg rn rc) (zW Bs.length s) (S0 K.c.op.length (yT Bs) k) G wr∧jab (mkK K a3 b3 eb k pb rg rn rc) (S0 K.c.op.length (yT Bs) k) G∧G.ev=zx) (fun v _=>Bs.length-(intOf v).toNat);case atStart=>exact⟨0,_,_,_,_,_,_,rfl,ja _,H6.u,fun k hk=>absurd hk (qC k),rfl⟩
 case round=>
 clear H6;obtain⟨k,eb,pb,rg,rn,rc,G,rfl,hk,hh,pM,Nx⟩:=hrel;have HA:=jA hh;have HFU:=jA pM;have wG:=jA Nx;clear hh pM Nx;by_cases ns:k<Bs.length;case neg=>
  obtain⟨dk,Ms⟩:=Go.yg ns;obtain rfl:k=Bs.length:=by omega
  go_wp2_with fail;go_ret;obtain⟨h1,h2,h3,h4,h5⟩:=Ex.u;have e:K.c.se.toNat=s:=by have:=gA.u;omega
  rw [e];exact⟨mkK K a3 b3 eb Bs.length pb rg rn rc,G,rfl,rfl,rfl,rfl,rfl,⟨lL.u,iL.u,h1,h2,h3,h4,h5,Sw,Ws,hm⟩,HA.u,HFU.u⟩
 obtain⟨dk,Ms,Py⟩:=Go.yD ns
 have PW:=gz.u.below HA.u.bel;obtain⟨a,Us,eu,Ft⟩:=PW.cells k ns;obtain⟨ob',cb',Tx,hI,_⟩:=PW.rows _ (jb ns);have Bw:=jA (HR.u _ (jb ns))
 have HRS:=jA (show(yT Bs).getD k []=Jb Bs[k].2 by
  unfold yT;rw [jV,qe,kL ns];rfl)
 have QR:=jA (jhU K.c.op.length Bs[k].2 ob' cb' wr Bw.u Ws hI);rw [Tx]at Ft;have HN:=jA (jjt K.c.op.length (yT Bs) k);have PR:=jA (fun w=>jag 1 w (by decide));have Bx:=jA (show ∀o,k∉G.PL o from fun o ho=>by have:=((HA.u.pls o).2 k ho).1;exact Nat.lt_irrefl k this);have HPB:=jA (show ∀j,j<k→pb j<wr.heap.size from fun j hj=>xZ (HA.u.papers j hj));subst Us;clear PW Tx hI eu;rw [HRS.u]at HN;generalize Bs[k].2=b at*;have Tz:(Jb b).length≤K.c.op.length:=by
  rw [Vk];exact jU (jfm b) (kh Bw.u.len)
 have DI:=jA Tz;go_upto_region 12 with(fail);clear dk Ms Ft;go_wp2_with (first
  |(go_at_call 121;refine QR.u.mono ?_;rintro e w3 ⟨g,R,rfl,ay,mZ,Dz,ws⟩;have HG3:=jA mZ;have Wv:=jA Dz;have B3:=jA ws;clear ay mZ Dz ws)
  |(
   go_at_call 118;refine(PR.u w3).mono ?_;rintro e w4 ⟨wa,wb,rfl,f4,Fs⟩;obtain⟨o1,q1,o2,q2,rfl,rfl,lf⟩:=f4;have nI:O0 w4.heap.size w4 (w4.alloc (.cells #[.slice (some ⟨g,0,none⟩) (Jb b).length K.c.op.length,.slice o1 (NL.dig (Fr.wh 1).n).length q1,.slice o2 (NL.dig (Fr.wh 1).d).length q2,.int .i64 0] 168)):=(jN _ _).alloc (jO _) _;have B4:=jA (B3.u.trans (Fs.mono B3.u.size));have B5:=jA (B4.u.trans (nI.mono B4.u.size));have HX:=jA ((HA.u.below B5.u).add (p:=w4.heap.size) (wt:=one) wG.u rfl (xe (Fs.trans (nI.mono Fs.size)) (xZ HG3.u) HG3.u) (xh rfl) (fun j hj=>by rw [jE];unfold xq;rw [qe,Wv.u j hj];rfl) DI.u (jU DI.u Ws) ⟨o1,q1,o2,q2,rfl,rfl,lf.below nI⟩ (fun j hj=>by have:=HPB.u j hj;have:=B4.u.size;omega) (jU HA.u.bel.size B4.u.size));obtain⟨h1,h2,h3,h4,h5⟩:=Ex.u;have q0:=(jje _ _ _ _ _ k HX.u ⟨lL.u,iL.u,h1,h2,h3,h4,h5,Sw,Ws,(by show k+1≤4096;omega)⟩ (Nat.lt_succ_self k) Bx.u (by rw [Jc];exact Bw.u.lt));have epb: ∀eb rg rn rc,(mkK K a3 b3 eb (k+1) (upd pb k w4.heap.size) rg rn rc).pb k=w4.heap.size:=fun _ _ _ _=>xp _ _ _;have ehb: ∀eb pb rg rn rc,(mkK K a3 b3 eb (k+1) pb rg rn rc).hb=K.hb:=fun _ _ _ _ _=>rfl;rw [epb,ehb]at q0;have QL:=jA q0;clear q0 epb ehb;clear lf Fs nI h1 h2 h3 h4 h5)
  |(go_at_call 120;refine QL.u.mono ?_;rintro e w6 ⟨rfl,G6,h6,s6,p6,ev6⟩)
  |(with_reducible refine wpList_build rfl 168 _ rfl [(0,.slice (some ⟨g,0,none⟩) (Jb b).length K.c.op.length),(1,.agg #[.slice o1 (NL.dig (Fr.wh 1).n).length q1,.slice o2 (NL.dig (Fr.wh 1).d).length q2])] (by first|(simp;done)|(simp [Act.eval];done)) _ (jhn g _ _ o1 o2 _ _ q1 q2) ?_))
 rw [Jc]at h6 p6;have h6':yB _ (zW Bs.length s) (zF (zF (S0 K.c.op.length (yT Bs) k) k (start (Jb b))) k ((start (Jb b)).go (c0 K.c.op.length))) G6 w6:=h6;rw [HN.u]at h6';have p6':G6.PL=upd G.PL ((start (Jb b)).go (c0 K.c.op.length)).wi (G.PL ((start (Jb b)).go (c0 K.c.op.length)).wi++ [k]):=p6;rw [←HRS.u]at p6';go_roundw;case rel=>exact⟨k+1,_,_,_,_,_,G6,by go_num,by omega,h6',jab.add rfl HFU.u p6',ev6.trans wG.u⟩
 case measure=>simp [intOf];omega
end Go.Proofs.YtnohcdpnnhmpfaaGreatDoor.TR
namespace Go.Proofs.YtnohcdpnnhmpfaaGreatDoor.TR
open FRP
variable{O:E0}{n s:Nat}
theorem jjb(m s:Nat):(zW m s).ok∧(zW m s).v* ((s:Rat)+1)=(m:Rat):=by
 have h0:0<(Fr.wh (s+1)).n:=Nat.succ_pos s;refine⟨Fr.div_ok (Fr.wh_ok m) h0,?_⟩;unfold zW;rw [Fr.v_div (Fr.wh_ok m) (Fr.wh_ok _) h0,Fr.v_wh,Fr.v_wh];have e:((s+1:Nat):Rat)=(s:Rat)+1:=qy _ _;rw [e];have Cs:(s:Rat)+1≠0:=by
  have:(0:Rat)≤(s:Rat):=Rat.natCast_nonneg;grind
 exact xD Cs
theorem jim(hd:O.Nodup)(hm: ∀i,i∈O↔i<n):O.length=n:=by
 have hp:O.Perm (List.range n):=(xG hd vG).2 fun i=>by rw [hm,jk]
 rw [hp.length_eq,ku]
theorem jeg{Rs:List (E0)}(hs:s≤n)(hn:n≤12)(hd:O.Nodup)(hO: ∀i,i∈O↔i<n)(hR: ∀rk∈Rs,∀i∈rk,i<n):Inv n s Rs.length (zW Rs.length s) O (S0 n Rs Rs.length):=by
 obtain⟨qok,qv⟩:=jjb Rs.length s;have hV: ∀k,k<Rs.length→(S0 n Rs Rs.length).V k=(start (Rs.getD k [])).go (c0 n):=fun k hk=>jP hk;have hRk: ∀k,k<Rs.length→ ∀i∈Rs.getD k [],i<n:=fun k hk i hi=>by
  rw [jV,kL hk]at hi;exact hR _ (jb hk) i hi
 have Sz:(S0 n Rs Rs.length).still O=O:=xS.2 fun i hi=>jT ((hO i).1 hi);refine⟨qok,qv,hd,hO,fun k hk i hi=>?_,fun k hk=>?_,fun k hk i hi=>?_,List.nodup_nil,fun i hi=>(by cases hi),fun i hi=>(by cases hi),fun i _=>rfl,?_,.inl (fun i hi=>by cases hi),?_,ja _,?_,fun k hk=>?_⟩;·rw [hV k hk]at hi;exact hRk k hk i hi
 ·rw [hV k hk];exact joP
 ·rw [hV k hk]at hi;obtain⟨h1,h2⟩:=jjj hi;have h3:=hRk k hk i h2;exact⟨h3,.inl (jT h3)⟩
 ·
   have e1:rs (List.range n) (fun i=>((S0 n Rs Rs.length).kept i).v)=0:=by
    exact(KN _ _ (fun _=>(0:Rat)) (fun i _=>jaK)).trans (jiW _)
   have e2:rs (List.range Rs.length) (fun k=>((S0 n Rs Rs.length).V k).wt.v)=(Rs.length:Rat):=by
    refine(KN _ _ (fun _=>(1:Rat)) (fun k hk=>by rw [hV k (jk.1 hk)];exact joq)).trans ?_;rw [jao,ku];grind
   rw [e1,e2];grind
 ·rw [Sz,jim hd hO];show s≤n+0;omega
 ·refine⟨s+1,Nat.succ_pos s,?_,⟨Rs.length,?_⟩,fun k hk=>⟨s+1,?_⟩⟩
  ·show s+1≤2^(16*2^0-12);have:(2:Nat)^(16*2^0-12)=16:=by decide
   omega
  ·rw [qy];exact qv
  ·rw [hV k hk];show one.v*_=_;rw [joq];grind
 ·show(if k<Rs.length then _ else blank).wi=none;rw [jQ (by omega)];rfl
theorem XF.inv {m:Nat}{q:Fr}{S0 S:St}{R:List Rd}(h0:Inv n s m q O S0)(hm:m≤4096)(h:XF n m s q O S0 R S):Inv n s m q O S∧R.length+S.mu O≤S0.mu O:=by
 induction h with
 |nil=>exact⟨h0,by simp⟩
 |
  snoc h hd ih=>
  obtain⟨h1,h2⟩:=ih.1.next hm hd;exact⟨h1,by rw [jZ];simp;have:=ih.2;omega⟩
end Go.Proofs.YtnohcdpnnhmpfaaGreatDoor.TR
