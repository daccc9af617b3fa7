/- Chapter 13, the reference's said (turned from told's walk by tools/mkref13.py) Chapter 13, the reference's Transfer: fractions of digits, by what they. -/
import Derived.Test.YtnohcdpnnhmpfaaGreatDoorE39
import Derived.Test.YtnohcdpnnhmpfaaGreatDoorE29
import Derived.Great.BuildSlice
set_option linter.all false
set_option maxRecDepth 100000
set_option maxHeartbeats 4000000
namespace Go.Proofs.YtnohcdpnnhmpfaaGreatDoor
open Go.RowKit Tryz ML FM ND
theorem jgk(n d:Nat)(on od:s0)(cn cd:Nat)(w:m0)(h:NFr w n d on od)(l1:(dig n).length<1099511627776)(l2:(dig d).length<1099511627776):
 Calls prog 34 #[.agg #[.slice on (dig n).length cn,.slice od (dig d).length cd]] w fun e w'=>e=.returned (.agg #[.string ⟨(VU n).toArray⟩,.string ⟨(VU d).toArray⟩])∧O0 w.heap.size w w':=by
 have QN:=jA (fun w h=>jbo n on cn w h l1);have QD:=jA (fun w h=>jbo d od cd w h l2);have HS:=jA jgd;have H:=jA h;clear h l1 l2;generalize VU n=N at*;generalize VU d=D at*;go_enter Tryz.func34,Tryz.ntmps34;go_upto_region 1 with(fail);have BX:=jad.mk' w #[.slice on (dig n).length cn,.slice od (dig d).length cd] #[.string ⟨#[]⟩,.string ⟨#[]⟩] 69 27;generalize hB:w.heap.size=B at*;refine xr (fun w1=>jad B w w1 #[.slice on (dig n).length cn,.slice od (dig d).length cd] #[.string ⟨#[]⟩,.string ⟨#[]⟩] 69 27) BX (fun w1 B1=>?_);have HB:=jA hB;have c1:=jM w1 B 0 _ _ _ B1.x;have c2:=jM w1 B 1 _ _ _ B1.x;have bu:=jA B1;clear BX hB B1;refine Seg.xf (fun w'=> ∃x:xj (B+1) w1,w'=x.w) [([0,1,3,4],2)] [] 5 (by kernel_rfl) (by kernel_rfl) (fun _ _ d _ _ h=>by cases d<;>exact h) (⟨⟨_,(jN _ _).drew⟩,rfl⟩) ?_;simp only [jK,Seg.opAt,Seg.xu];repeat (any_goals (first|go_big_quiet_step (fail)|quiet_step (fail)))
 refine jR ?_;intro K hK;simp only [Region.wanted,jY];have ny:B+1<w1.heap.size:=xZ bu.u.z;have W1:=jA (show O0 w.heap.size w w1 by rw [HB.u];exact bu.u.bel);have sx:=jA (show O0 w.heap.size w w1.drew from W1.u.drew);go_wp2_with (go_at_call 81;(with_reducible refine(QN.u _ (H.u.num.below sx.u)).mono ?_);rintro e w2 ⟨rfl,us⟩);have As:O0 w1.heap.size w1 w2:=yq us;refine hK _ _ ⟨⟨w2,As.mono (by omega)⟩,rfl⟩ ?_;have W2:=jA (W1.u.trans (As.mono W1.u.size));have iv:=jA (bu.u.keep (by omega) As);have GA:B+1<w2.heap.size:=xZ iv.u.z;clear hK K c1 c2 us As QN;repeat (any_goals (first|go_big_quiet_step (fail)|quiet_step (fail)))
 refine jR ?_;go_wp2_with (first
  |(go_at_call 81;refine(QD.u w2 (H.u.den.below W2.u)).mono ?_;rintro e w3 ⟨rfl,ws⟩;have iz:=jA (iv.u.keep (by omega) ws);have W3:=jA (W2.u.trans (ws.mono W2.u.size));clear ws)
  |(refine xg rfl rfl 27 _ _ rfl (B+1) #[.string ⟨#[]⟩,.string ⟨#[]⟩] #[.string ⟨N.toArray⟩,.string ⟨D.toArray⟩] 27 rfl rfl iz.u.z rfl HS.u (jbk _ _) ?_;intro w5 ho hp))
 refine jq (kB rfl _ w5 (B+1) _ _ _ _ rfl hp underlying27 rfl HS.u) rfl ⟨rfl,xl W3.u ho (by rw [HB.u];omega)⟩
end Go.Proofs.YtnohcdpnnhmpfaaGreatDoor
namespace Go.Proofs.YtnohcdpnnhmpfaaGreatDoor.TR
open Go.RowKit Tryz ML FRP AU CT FM
variable{a b c d:n0}{w:m0}
def NrV(w:m0)(x:Fr)(a b:n0):Prop:= ∃oa ca ob cb,a=.slice oa (ND.dig x.n).length ca∧b=.slice ob (ND.dig x.d).length cb∧NFr w x.n x.d oa ob
theorem NrV.below {w':m0}{x:Fr}(h:NrV w x a b)(hb:O0 w.heap.size w w'):NrV w' x a b:=by
 obtain⟨oa,ca,ob,cb,h1,h2,h3⟩:=h;exact⟨oa,ca,ob,cb,h1,h2,h3.below hb⟩
theorem NrV.one{x:Fr}(h:NrV w x a b):a.oneCell'=true∧b.oneCell'=true:=by
 obtain⟨oa,ca,ob,cb,rfl,rfl,_⟩:=h;exact⟨rfl,rfl⟩
def jaa(p:Nat→Prop)(a b:n0):Prop:=(∀x,a.ownBlock=some x→p x)∧(∀x,b.ownBlock=some x→p x)
theorem jaa.imp {p q:Nat→Prop}(h:jaa p a b)(hpq: ∀x,p x→q x):jaa q a b:=⟨fun x hx=>hpq x (h.1 x hx),fun x hx=>hpq x (h.2 x hx)⟩
theorem jaw {M:Nat}{oa ob:s0}{n m ca cb:Nat}(h1: ∀a,oa=some a→M≤a.block)(h2: ∀a,ob=some a→M≤a.block):jaa (fun x=>M≤x) (.slice oa n ca) (.slice ob m cb):=by
 constructor
 ·intro x hx;cases oa with
  |none=>cases hx
  |some a=>injection hx with hx;subst hx;exact h1 a rfl
 ·intro x hx;cases ob with
  |none=>cases hx
  |some a=>injection hx with hx;subst hx;exact h2 a rfl
theorem YA(n:Nat)(w:m0)(hn:n<9223372036854775808):Calls prog 33 #[.int .i64 (n:Int)] w fun e w'=> ∃a b,e=.returned (.agg #[a,b])∧NrV w' (Fr.wh n) a b∧O0 w.heap.size w w'∧jaa (fun x=>w.heap.size≤x) a b:=
 (jeZ n w hn).mono fun e w' ⟨on,od,cn,cd,he,hf,hb,f1,f2⟩=>⟨_,_,he,⟨on,cn,od,cd,rfl,rfl,hf⟩,hb,jaw f1 f2⟩
theorem jiZ {x y:Fr}(w:m0)(hx:NrV w x a b)(hy:NrV w y c d)(ox:x.ok)(oy:y.ok)(lx:VP x)(ly:VP y):
 Calls prog 36 #[.agg #[a,b],.agg #[c,d]] w fun e w'=> ∃a' b',e=.returned (.agg #[a',b'])∧NrV w' (x.add y) a' b'∧O0 w.heap.size w w'∧jaa (fun x=>w.heap.size≤x) a' b':=by
 obtain⟨oa,ca,ob,cb,rfl,rfl,h1⟩:=hx;obtain⟨oc,cc,od,cd,rfl,rfl,h2⟩:=hy;have:=lx.dn;have:=lx.dd;have:=ly.dn;have:=ly.dd;exact(jgl x.n x.d y.n y.d oa ob oc od ca cb cc cd w h1 h2 (kr ox.1 oy.1) (by omega) (by omega) (by omega) (by omega)).mono fun e w' ⟨on,om,cn,cm,he,hf,hb,f1,f2⟩=>⟨_,_,he,⟨on,cn,om,cm,rfl,rfl,hf⟩,hb,jaw f1 f2⟩
theorem jlS {x y:Fr}(w:m0)(hx:NrV w x a b)(hy:NrV w y c d)(ox:x.ok)(oy:y.ok)(lx:VP x)(ly:VP y):
 Calls prog 44 #[.agg #[a,b],.agg #[c,d]] w fun e w'=> ∃a' b',e=.returned (.agg #[a',b'])∧NrV w' (x.mul y) a' b'∧O0 w.heap.size w w'∧jaa (fun x=>w.heap.size≤x) a' b':=by
 obtain⟨oa,ca,ob,cb,rfl,rfl,h1⟩:=hx;obtain⟨oc,cc,od,cd,rfl,rfl,h2⟩:=hy;have:=lx.dn;have:=lx.dd;have:=ly.dn;have:=ly.dd;exact(jfa x.n x.d y.n y.d oa ob oc od ca cb cc cd w h1 h2 (kr ox.1 oy.1) (by omega) (by omega) (by omega) (by omega)).mono fun e w' ⟨on,om,cn,cm,he,hf,hb,f1,f2⟩=>⟨_,_,he,⟨on,cn,om,cm,rfl,rfl,hf⟩,hb,jaw f1 f2⟩
theorem jlT {x y:Fr}(w:m0)(hx:NrV w x a b)(hy:NrV w y c d)(ox:x.ok)(oy:y.ok)(Az:y.v≤x.v)(lx:VP x)(ly:VP y):
 Calls prog 43 #[.agg #[a,b],.agg #[c,d]] w fun e w'=> ∃a' b',e=.returned (.agg #[a',b'])∧NrV w' (x.sub y) a' b'∧O0 w.heap.size w w'∧jaa (fun x=>w.heap.size≤x) a' b':=by
 obtain⟨oa,ca,ob,cb,rfl,rfl,h1⟩:=hx;obtain⟨oc,cc,od,cd,rfl,rfl,h2⟩:=hy;have:=lx.dn;have:=lx.dd;have:=ly.dn;have:=ly.dd;exact(jff x.n x.d y.n y.d oa ob oc od ca cb cc cd w h1 h2 (kr ox.1 oy.1) ((Fr.le_iff oy.1 ox.1).1 Az) (by omega) (by omega) (by omega) (by omega)).mono fun e w' ⟨on,om,cn,cm,he,hf,hb,f1,f2⟩=>⟨_,_,he,⟨on,cn,om,cm,rfl,rfl,hf⟩,hb,jaw f1 f2⟩
theorem jja {x y:Fr}(w:m0)(hx:NrV w x a b)(hy:NrV w y c d)(ox:x.ok)(Uv:0<y.n)(lx:VP x)(ly:VP y):
 Calls prog 32 #[.agg #[a,b],.agg #[c,d]] w fun e w'=> ∃a' b',e=.returned (.agg #[a',b'])∧NrV w' (x.div y) a' b'∧O0 w.heap.size w w'∧jaa (fun x=>w.heap.size≤x) a' b':=by
 obtain⟨oa,ca,ob,cb,rfl,rfl,h1⟩:=hx;obtain⟨oc,cc,od,cd,rfl,rfl,h2⟩:=hy;have:=lx.dn;have:=lx.dd;have:=ly.dn;have:=ly.dd;exact(jgm x.n x.d y.n y.d oa ob oc od ca cb cc cd w h1 h2 (kr ox.1 Uv) (by omega) (by omega) (by omega) (by omega)).mono fun e w' ⟨on,om,cn,cm,he,hf,hb,f1,f2⟩=>⟨_,_,he,⟨on,cn,om,cm,rfl,rfl,hf⟩,hb,jaw f1 f2⟩
theorem jco {x y:Fr}(w:m0)(hx:NrV w x a b)(hy:NrV w y c d)(lx:VP x)(ly:VP y):
 Calls prog 39 #[.agg #[a,b],.agg #[c,d]] w fun e w'=>e=.returned (.int .i64 (VM x y))∧O0 w.heap.size w w':=by
 obtain⟨oa,ca,ob,cb,rfl,rfl,h1⟩:=hx;obtain⟨oc,cc,od,cd,rfl,rfl,h2⟩:=hy;have:=lx.dn;have:=lx.dd;have:=ly.dn;have:=ly.dd;exact jfe x.n x.d y.n y.d oa ob oc od ca cb cc cd w h1 h2 (by omega) (by omega) (by omega) (by omega)
theorem jfj {x:Fr}(w:m0)(hx:NrV w x a b)(lx:VP x):
 Calls prog 34 #[.agg #[a,b]] w fun e w'=>e=.returned (.agg #[.string ⟨(txt x).1.toArray⟩,.string ⟨(txt x).2.toArray⟩])∧O0 w.heap.size w w':=by
 obtain⟨oa,ca,ob,cb,rfl,rfl,h1⟩:=hx;have:=lx.dn;have:=lx.dd;exact jgk x.n x.d oa ob ca cb w h1 (by omega) (by omega)
end Go.Proofs.YtnohcdpnnhmpfaaGreatDoor.TR
namespace Go.Proofs.YtnohcdpnnhmpfaaGreatDoor.TR
open FRP
def Past(c:Nat→Bool)(x:Vo):Prop:= ∀j∈x.rk.take x.nx,c j=true→x.wi=some j
theorem jeU(c:Nat→Bool): ∀(l:E0) (a:Nat),(VH c l a).1≤a+l.length
 | [],a=>jO _
 |
  i::r,a=>by
  unfold VH;split;·show a+1≤a+(r.length+1);omega
  ·have:=jeU c r (a+1);simp;omega
structure Sol(n:Nat)(A:Nat→Bool)(z:Nat)(rk:E0):Prop where
 in_: ∀i∈rk.take z,A i=true
 all: ∀i,i<n→A i=true→i∈rk.take z
def St.cA(O:E0)(A:Nat→Bool)(S:St):E0:=O.filter fun i=>S.cont i&&A i
def St.mA(A:Nat→Bool)(S:St):E0:=S.el.filter fun i=>S.moved i&&A i
structure JA(n m k0:Nat)(q:Fr)(O:E0)(A:Nat→Bool)(z:Nat)(P:E0)(S:St):Prop where
 nx: ∀k,k<m→(S.V k).nx≤(S.V k).rk.length
 past: ∀k,k<m→Past S.cont (S.V k)
 sol: ∀k∈P,Sol n A z (S.V k).rk
 many:k0≤(S.cA O A).length+(S.el.filter A).length
 lie:S.cA O A≠ []→(∀k∈P,∃i,(S.V k).wi=some i∧A i=true)∧(P.length:Rat)≤rs P (fun k=>(S.V k).wt.v)+((S.mA A).length:Rat)*q.v
section
variable {n s m k0:Nat} {q:Fr} {O:E0} {S:St} {A:Nat→Bool} {z:Nat} {P:E0}
end
end Go.Proofs.YtnohcdpnnhmpfaaGreatDoor.TR
namespace Go.Proofs.YtnohcdpnnhmpfaaGreatDoor.TR
open FRP AU CT
theorem jkw {α β:Type}{f:α→β}{l:List α}(hf: ∀x y,f x=f y→x=y)(h:l.Nodup):(l.map f).Nodup:=List.Pairwise.map f (fun a b Cs e=>Cs (hf a b e)) h
theorem Rnk.le_pos {n:Nat}{b:C0}(h:Rnk n b){i:Nat}(hi:i<b.length)(h0:0<b[i]):b[i]≤(JK b:Int):=by
 rw [←Int.not_lt];intro ns
 have MG:((List.range (JK b)).map (fun r:Nat=>((r+1:Nat):Int))++ [b[i]]).Nodup:=vH.2 ⟨jkw (fun x y e=>by omega) vG,by simp,fun x hx y hy e=>by
  obtain⟨r,hr,rfl⟩:=jo.1 hx;have h1:=jk.1 hr;rw [jm.1 hy]at e;omega⟩
 have aT: ∀x∈(List.range (JK b)).map (fun r:Nat=>((r+1:Nat):Int))++ [b[i]],x∈b.filter fun x=>decide (0<x):=fun x hx=>by
  rcases jj.1 hx with hx|hx
  ·obtain⟨r,hr,rfl⟩:=jo.1 hx;exact jz.2 ⟨h.gap r (jk.1 hr),by rw [kK];omega⟩
  ·rw [jm.1 hx];exact jz.2 ⟨jb hi,by rw [kK];exact h0⟩
 have:=qi MG aT;rw [jZ,kS,ku]at this;have e:(b.filter fun x=>decide (0<x)).length=JK b:=rfl;rw [e]at this;simp at this;omega
def cnt(p:Nat→Bool)(n:Nat):Nat:=((List.range n).filter p).length
def bit(s i:Nat):Bool:=s/2^i%2==1
def solL(A:Nat→Bool)(z:Nat)(b:C0)(k:Nat):Bool:=(List.range k).all fun i=>A i==decide (1≤b.getD i 0∧b.getD i 0≤(z:Int))
end Go.Proofs.YtnohcdpnnhmpfaaGreatDoor.TR
namespace Go.Proofs.YtnohcdpnnhmpfaaGreatDoor.TR
open Go.RowKit Tryz ML FRP AU CT FM
variable{L:C0}{base cg g i n:Nat}{w:m0}{xa xb:Nat→n0}
def zp(n:Nat)(A:Nat→Bool):A0:=(List.range n).map fun i=>Value.bool (A i)
theorem Qc(n:Nat)(A:Nat→Bool)(i:Nat)(h:i<n):(zp n A)[i]?=some (.bool (A i)):=by
 unfold zp;rw [qe,xQ h];rfl
def below(u k:Nat):Nat→Bool:=fun i=>decide (i<k)&&bit u i
def wiI:L0→Int
 |none=> -1
 |some i=>(i:Int)
def wsf(L:C0)(x:Int)(i:Nat):Int:=if x∈L.take i then(L.idxOf x:Int)else -1
theorem jlq(L:C0)(x:Int):wsf L x 0= -1:=by unfold wsf;rw [jQ (by simp)]
theorem joz{x:Int}(h:i<L.length)(hx:L[i]≠x):wsf L x (i+1)=wsf L x i:=by
 unfold wsf;have e:x∈L.take (i+1)↔x∈L.take i:=by
  rw [jh h,jj,jm];exact⟨fun h=>h.elim id (fun e=>absurd e.symm hx),.inl⟩
 by_cases h1:x∈L.take i;·rw [jP h1,jP (e.2 h1)]
 ·rw [jQ h1,jQ (fun h2=>h1 (e.1 h2))]
theorem Rnk.idx(hr:Rnk n L)(h:i<L.length)(h0:0<L[i]):L.idxOf L[i]=i:=by
 have hm:L[i]∈L:=jb h;have ns:=vT hm;have h1:=List.getElem_idxOf (x:=L[i]) (xs:=L) ns;exact hr.inj _ _ ns h h1 (by rw [h1];exact h0)
theorem joA(hr:Rnk n L)(h:i<L.length)(h0:0<L[i]):wsf L L[i] (i+1)=(i:Int):=by
 unfold wsf;rw [jP (vq.2 ⟨i,by omega,rfl⟩),hr.idx h h0]
theorem Rnk.mem_rank(hr:Rnk n L)(k:Nat):((k:Int)+1∈L)↔k<JK L:=by
 constructor
 ·intro h;obtain⟨i,hi,e⟩:=vn h;have:=hr.le_pos hi (by rw [e];omega);rw [e]at this;omega
 ·intro h;have:=hr.gap k h
  rwa [Int.natCast_add]at this
theorem jjW(hr:Rnk n L){k:Nat}(h:k<JK L):(Jb L).drop k=L.idxOf ((k:Int)+1)::(Jb L).drop (k+1):=by
 have hk:k<(Jb L).length:=by rw [Vk];exact h
 rw [qA hk];congr 1;simp [Jb]
theorem jcF(cont:Nat→Bool)(n:Nat)(L:C0)(V C cg:Nat)(ob:s0)(cb r:Nat)(w0:Int)(va vb:n0)(w:m0)(hr:Rnk n L)(hn:n≤12)(hI:yW w ob L)(Mw: ∀a,ob=some a→a.block≠V)(WD:C≠V)
 (hC:w.heap[C]?=some (.cells (zp n cont).toArray 4 (0,0))) (hV:w.heap[V]?=some (.cells #[.slice ob L.length cb,.int .i64 w0,.int .i64 (r:Int),va,vb] 77 (0,0))) (hrp:r≤JK L):
 Calls prog 35 #[.pointer (some ⟨V,0,none⟩),.slice (some ⟨C,0,none⟩) n cg] w fun e w'=>e=.returned (.tuple #[])∧yG V w w'∧ ∃r':Nat,
  w'.heap[V]?=some (.cells #[.slice ob L.length cb,.int .i64 (wiI (VH cont ((Jb L).drop r) r).2),.int .i64 (r':Int),va,vb] 77 (0,0))∧((VH cont ((Jb L).drop r) r).2≠none→r'=(VH cont ((Jb L).drop r) r).1):=by
 have hLn:=hr.len;have hpn:JK L≤L.length:=jfm L;have hL12:L.length≤12:=by omega
 have hr12:r≤12:=by omega
 have hp12:JK L≤12:=by omega
 have HR:=jA hr;have HI:=jA hI;have HC:=jA hC;have gS:=jA Mw;have k2:w.cell? ⟨V,2,none⟩=some (.int .i64 (r:Int)):=jM w V 2 _ _ _ hV;have f2:w.frozen? ⟨V,2,none⟩=false:=jc w V 2 _ _ hV;have HV:=jA hV;have hVs:V<w.heap.size:=xZ hV;have mS:=jA hLn;clear hr hI Mw hC hV hLn;go_enter Tryz.func35,Tryz.ntmps35;go_wp2_with fail;refine xr (fun w1=>w1.heap[V]?=some (.cells #[.slice ob L.length cb,.int .i64 w0,.int .i64 ((r:Int)+1),va,vb] 77 (0,0))∧yG V w w1) ⟨jd w V 2 _ _ _ HV.u,yC 2 _⟩ (fun w1 ts=>?_);have H1:=jA ts;clear ts k2 f2;go_loopg [] (n+1-r) (fun N wr=> ∃(k:Nat) (wi:Int),N=n+1-k∧r≤k∧k≤JK L∧VH cont ((Jb L).drop k) k=VH cont ((Jb L).drop r) r∧wr.heap[V]?=some (.cells #[.slice ob L.length cb,.int .i64 wi,.int .i64 ((k:Int)+1),va,vb] 77 (0,0))∧yG V w wr);case atStart=>exact⟨r,w0,rfl,jO _,hrp,rfl,H1.u.1,H1.u.2⟩
 case round=>
 clear H1;obtain⟨k,wi,rfl,Pu,DJ,hsk,hv,ho⟩:=hrel;have hk12:k≤12:=by omega
 have Bx:k≤n:=by have:=mS.u;omega
 have bS:=jA hsk;have VR:=jA hv;have OR:=jA ho;have k1:wr.cell? ⟨V,1,none⟩=some (.int .i64 wi):=jM wr V 1 _ _ _ hv;have f1:wr.frozen? ⟨V,1,none⟩=false:=jc wr V 1 _ _ hv;clear hsk hv ho;go_upto_region 3 with(fail);refine xr (fun w2=>w2.heap[V]?=some (.cells #[.slice ob L.length cb,.int .i64 (wsf L ((k:Int)+1) 0),.int .i64 ((k:Int)+1),va,vb] 77 (0,0))∧yG V w w2) ⟨by rw [jlq];exact jd wr V 1 _ _ _ VR.u,OR.u.trans (yC 1 _)⟩ (fun w2 lu=>?_);have H2:=jA lu;have k0:w2.cell? ⟨V,0,none⟩=some (.slice ob L.length cb):=jM w2 V 0 _ _ _ lu.1;clear lu k1 f1 VR OR;go_wp2_with fail;clear k0;go_loopw [28] (fun v wi=> ∃i:Nat,v=.int .i64 i∧i≤L.length∧wi.heap[V]?=some (.cells #[.slice ob L.length cb,.int .i64 (wsf L ((k:Int)+1) i),.int .i64 ((k:Int)+1),va,vb] 77 (0,0))∧yG V w wi) (fun v _=>L.length-(intOf v).toNat);case atStart=>exact⟨0,rfl,ja _,H2.u.1,H2.u.2⟩
 case round=>
 clear H2;obtain⟨i,rfl,hi,hv,ho⟩:=hrel;have VR:=jA hv;have OR:=jA ho;clear hv ho;by_cases uO:i<L.length
 ·obtain⟨dk,Ms,Py⟩:=Go.yD uO
  obtain⟨a,Us,eu,Ft⟩:=HI.u.cells i uO;have Bu:wr.cell? (a.add i)=some (.int .i64 L[i]):=by
   rw [vA (w:=w) (OR.u.block _ (by rw [yI];exact gS.u a Us))];exact Ft
  have k2:wr.cell? ⟨V,2,none⟩=some (.int .i64 ((k:Int)+1)):=jM wr V 2 _ _ _ VR.u;have iA:=jA (fun h=>joz (x:=(k:Int)+1) uO h);have EX:=jA (fun(h:L[i]=(k:Int)+1)=>(show wsf L ((k:Int)+1) (i+1)=(i:Int)by rw [←h];exact joA HR.u uO (by omega)));subst Us;clear Ft;by_cases hx:L[i]=(k:Int)+1
  ·have HE:=jA (EX.u hx);rw [hx]at Bu;have k1:wr.cell? ⟨V,1,none⟩=some (.int .i64 (wsf L ((k:Int)+1) i)):=jM wr V 1 _ _ _ VR.u;have f1:wr.frozen? ⟨V,1,none⟩=false:=jc wr V 1 _ _ VR.u;clear hx iA EX;go_wp2_with fail;go_roundw;case rel=>exact⟨i+1,by go_num,by omega,by rw [HE.u];exact jd wr V 1 _ _ _ VR.u,OR.u.trans (yC 1 _)⟩
   case measure=>simp [intOf];omega
  ·have HE:=jA (iA.u hx);have hb:(L[i]==(k:Int)+1)=false:=by rw [jt];exact hx
   clear iA EX hx;generalize L[i]=x at*;go_wp2_with fail;go_roundw;case rel=>exact⟨i+1,by go_num,by omega,by rw [HE.u];exact VR.u,OR.u⟩
   case measure=>simp [intOf];omega
 obtain⟨dk,Ms⟩:=Go.yg uO;obtain rfl:i=L.length:=by omega
 have hw:wsf L ((k:Int)+1) L.length=if k<JK L then(L.idxOf ((k:Int)+1):Int)else -1:=by
  unfold wsf;rw [jr];by_cases h:k<JK L;·rw [jP h,jP ((HR.u.mem_rank k).2 h)]
  ·rw [jQ h,jQ (fun h2=>h ((HR.u.mem_rank k).1 h2))]
 rw [hw]at VR;clear hw uO;by_cases dI:k<JK L;case neg=>
  rw [jQ dI]at VR;have k1:wr.cell? ⟨V,1,none⟩=some (.int .i64 (-1)):=jM wr V 1 _ _ _ VR.u
  have HD:=jA (show VH cont ((Jb L).drop r) r=(k,none)by
   rw [←bS.u,xP (by rw [Vk];omega)];rfl)
  clear bS;go_wp2_with go_big_skip;try simp only [Exit.inBlock,Exit.then]
  refine jq (results_none rfl _ _ _) rfl ?_;exact⟨rfl,OR.u,k+1,by rw [HD.u];exact VR.u,fun h=>by rw [HD.u]at h;exact absurd rfl h⟩
 rw [jP dI]at VR;have CD:L.idxOf ((k:Int)+1)<n:=by rw [←mS.u];exact vT ((HR.u.mem_rank k).2 dI)
 have nN:=jA (jjW HR.u dI);generalize L.idxOf ((k:Int)+1)=j at*;have k1:wr.cell? ⟨V,1,none⟩=some (.int .i64 (j:Int)):=jM wr V 1 _ _ _ VR.u;have j0:decide ((j:Int)<0)=false:=jS (by omega);have jn:(j:Int)<(n:Int):=by omega
 have kC:wr.cell? ⟨C,j,none⟩=some (.bool (cont j)):=by
  rw [vA (w:=w) (OR.u.block _ WD),jM _ _ _ _ _ _ HC.u,jE];exact Qc n cont j CD
 cases nF:cont j with
 |
  true=>
  rw [nF]at kC
  have HD:=jA (show VH cont ((Jb L).drop r) r=(k+1,some j)by
   rw [←bS.u,nN.u];unfold VH;rw [jP nF])
  clear bS nF;go_wp2_with go_big_skip;try simp only [Exit.inBlock,Exit.then]
  refine jq (results_none rfl _ _ _) rfl ?_;exact⟨rfl,OR.u,k+1,by rw [HD.u];exact VR.u,fun _=>by rw [HD.u]⟩
 |
  false=>
  rw [nF]at kC
  have HD:=jA (show VH cont ((Jb L).drop (k+1)) (k+1)=VH cont ((Jb L).drop r) r by
   rw [←bS.u,nN.u];conv=>rhs;unfold VH;rw [jQ (by rw [nF];decide)])
  have k2:wr.cell? ⟨V,2,none⟩=some (.int .i64 ((k:Int)+1)):=jM wr V 2 _ _ _ VR.u;have f2:wr.frozen? ⟨V,2,none⟩=false:=jc wr V 2 _ _ VR.u;clear bS nF;go_wp2_with go_big_skip
  go_roundg (n+1-(k+1))
  case rel=>exact⟨k+1,(j:Int),rfl,by omega,by omega,HD.u,by have:=jd wr V 2 _ _ (.int .i64 (((k+1:Nat):Int)+1)) VR.u;exact this,OR.u.trans (yC 2 _)⟩
  case measure=>omega
structure jfP(w:m0)(base g cg n:Nat)(T:Nat→Fr)(xa xb:Nat→n0):Prop where
 row:w.ownsRow base 69 2 (.slice (some ⟨g,0,none⟩) n cg) n (yy n xa xb)
 frs: ∀i,i<n→NrV w (T i) (xa i) (xb i)
theorem jfP.below {w':m0}{T:Nat→Fr}(h:jfP w base g cg n T xa xb)(hb:O0 w.heap.size w w'):jfP w' base g cg n T xa xb:=⟨yA h.row hb,fun i hi=>(h.frs i hi).below hb⟩
theorem jfP.mid{T:Nat→Fr}(h:jfP w base g cg n T xa xb)(hi:i<n): ∀j u,([xa i,xb i]:A0)[j]?=some u→w.cell? ((⟨g,i*2,none⟩:Addr).add j)=some u:=by
 intro j u hj;rw [qD];have Rv:(yy n xa xb)[i*2+j]?=some u:=by
  obtain⟨h1,h2⟩:=QU n xa xb i hi
  match j with
  |0=>simpa using h1.trans hj
  |1=>exact h2.trans hj
  |_+2=>cases hj
 have h3:=h.row.cells (g:=g) rfl (i*2+j) u Rv;rw [qD,jv]at h3;exact h3
theorem jmM{B:Nat}{a b:n0}{t:o0}(h:w.heap[B]?=some (.cells #[a,b] t (0,0))): ∀j u,([a,b]:A0)[j]?=some u→w.cell? ((⟨B,0,none⟩:Addr).add j)=some u:=zK h
theorem zu:(prog.info? 69).map (·.size)=some 2:=by kernel_rfl
theorem jna(f:Nat→Bool)(n i X A cg:Nat)(w:m0)(hX:w.cell? ⟨X,0,none⟩=some (.slice (some ⟨A,0,none⟩) n cg))(hA:w.heap[A]?=some (.cells (zp n f).toArray 4 (0,0)))(hi:i<n):
 Calls prog 40 #[.int .i64 i,.pointer (some ⟨X,0,none⟩)] w fun e w'=>e=.returned (.bool (f i))∧O0 w.heap.size w w':=by
 have k:w.cell? ⟨A,i,none⟩=some (.bool (f i)):=by rw [jM _ _ _ _ _ _ hA,jE];exact Qc n f i hi
 have e1:(i:Int)<(n:Int):=by omega
 clear hA;generalize f i=b at*;go_enter Tryz.func40,Tryz.ntmps40;go_wp2_with fail;go_ret;exact⟨rfl,jN _ _⟩
theorem jmY(f:Nat→Bool)(n i X A cg:Nat)(w:m0)(hX:w.cell? ⟨X,0,none⟩=some (.slice (some ⟨A,0,none⟩) n cg))(hA:w.heap[A]?=some (.cells (zp n f).toArray 4 (0,0)))(hi:i<n):
 Calls prog 42 #[.int .i64 i,.pointer (some ⟨X,0,none⟩)] w fun e w'=>e=.returned (.bool (f i))∧O0 w.heap.size w w':=by
 have k:w.cell? ⟨A,i,none⟩=some (.bool (f i)):=by rw [jM _ _ _ _ _ _ hA,jE];exact Qc n f i hi
 have e1:(i:Int)<(n:Int):=by omega
 clear hA;generalize f i=b at*;go_enter Tryz.func42,Tryz.ntmps42;go_wp2_with fail;go_ret;exact⟨rfl,jN _ _⟩
theorem jmZ(f:Nat→Bool)(n i X A cg:Nat)(TT base g ct:Nat)(T:Nat→Fr)(xa xb:Nat→n0)(QB:Nat)(q:Fr)(qa qb:n0)(w:m0)(hX:w.cell? ⟨X,0,none⟩=some (.slice (some ⟨A,0,none⟩) n cg))(hXl:X<w.heap.size)(hA:w.heap[A]?=some (.cells (zp n f).toArray 4 (0,0)))
 (MD:w.cell? ⟨TT,0,none⟩=some (.slice (some ⟨g,0,none⟩) n ct)) (fD:TT<w.heap.size) (hT:jfP w base g ct n T xa xb) (hQ:w.heap[QB]?=some (.cells #[qa,qb] 69 (0,0))) (hq:NrV w q qa qb) (sT:Sml (T i)) (sQ:Sml q) (hi:i<n):
 Calls prog 41 #[.int .i64 i,.pointer (some ⟨X,0,none⟩),.pointer (some ⟨TT,0,none⟩),.pointer (some ⟨QB,0,none⟩)] w fun e w'=>e=.returned (.bool (f i&&decide (0<VM (T i) q)))∧O0 w.heap.size w w':=by
 have HS:=jA zu;have LE:A<w.heap.size:=xZ hA;have kA: ∀x:xj w.heap.size w,x.w.cell? ⟨A,i,none⟩=some (.bool (f i)):=fun x=>by
  exact(jM x.w A i _ _ _ (xe x.2 LE hA)).trans (by rw [jE];exact Qc n f i hi)
 have kX: ∀x:xj w.heap.size w,x.w.cell? ⟨X,0,none⟩=some (.slice (some ⟨A,0,none⟩) n cg):=fun x=>(x.2.cell (p:=⟨X,0,none⟩) hXl).trans hX;have kT: ∀x:xj w.heap.size w,x.w.cell? ⟨TT,0,none⟩=some (.slice (some ⟨g,0,none⟩) n ct):=fun x=>(x.2.cell (p:=⟨TT,0,none⟩) fD).trans MD
 have AW:=jA (fun w' (Tt: ∃x:xj w.heap.size w,w'=x.w)=>(show ∀j u,([xa i,xb i]:A0)[j]?=some u→w'.cell? ((⟨g,i*2,none⟩:Addr).add j)=some u by
  obtain⟨x,rfl⟩:=Tt;exact(hT.below x.2).mid hi))
 have fS:=jA (fun w' (Tt: ∃x:xj w.heap.size w,w'=x.w)=>(show ∀j u,([qa,qb]:A0)[j]?=some u→w'.cell? ((⟨QB,0,none⟩:Addr).add j)=some u by
  obtain⟨x,rfl⟩:=Tt;exact jmM (xe x.2 (xZ hQ) hQ)))
 have QO:=jA (jco w.drew ((hT.frs i hi).below (jN _ _).drew) (hq.below (jN _ _).drew) sT.lens sQ.lens);have e1:(i:Int)<(n:Int):=by omega
 clear hA hX MD hT hQ hq LE;generalize VM (T i) q=c at*;go_enter Tryz.func41,Tryz.ntmps41;go_upto_region 1 with(fail);cases rM:f i with
 |
  false=>
  rw [rM]at kA;refine Seg.xf (fun w'=> ∃x:xj w.heap.size w,w'=x.w) [] [0,1,2,3,4,5,6,7,8,9] 10 (by kernel_rfl) (by kernel_rfl) (fun _ _ d _ _ h=>by cases d<;>exact h) (⟨⟨_,(jN _ _).drew⟩,rfl⟩) ?_;simp only [jK,Seg.opAt,Seg.xu];repeat (any_goals (first|go_big_quiet_step (fail)|quiet_step (fail)))
  refine jR ?_;go_wp2_with go_big_skip;go_ret;exact⟨by rw [rM];rfl,(jN _ _).drew⟩
 |
  true=>
  rw [rM]at kA;refine Seg.xf (fun w'=> ∃x:xj w.heap.size w,w'=x.w) [] [0,1,2,3,4,5,6,7,8,9] 10 (by kernel_rfl) (by kernel_rfl) (fun _ _ d _ _ h=>by cases d<;>exact h) (⟨⟨_,(jN _ _).drew⟩,rfl⟩) ?_;simp only [jK,Seg.opAt,Seg.xu];iterate 8 first|go_big_quiet_step (fail)|quiet_step (fail)
  refine xx rfl 69 _ rfl ⟨g,i*2,none⟩ [xa i,xb i] _ rfl AW.u underlying69 rfl HS.u ?_;refine xx rfl 69 _ rfl ⟨QB,0,none⟩ [qa,qb] _ rfl fS.u underlying69 rfl HS.u ?_;refine jR ?_;go_wp2_with (first|go_big_skip|(go_at_call 39;refine QO.u.mono ?_;rintro e w2 ⟨rfl,us⟩;dsimp only));go_ret;exact⟨by rw [rM];rfl,yq us⟩
end Go.Proofs.YtnohcdpnnhmpfaaGreatDoor.TR
namespace Go.Proofs.YtnohcdpnnhmpfaaGreatDoor.TR
open FRP
variable{C O:E0}{k:Int}{y:Nat}
def jbR(p:Nat→Bool)(l O:E0)(i:Nat):E0:=(O.take i).filter fun x=>p x&& !decide (x∈l)
theorem jex(p:Nat→Bool)(l O:E0)(i:Nat)(h:i<O.length):jbR p l O (i+1)=jbR p l O i++if(p O[i]&& !decide (O[i]∈l))=true then [O[i]]else []:=by
 unfold jbR;rw [jh h,qY];congr 1;cases hb:(p O[i]&& !decide (O[i]∈l))<;>simp [hb]
def Kg(T:Nat→Fr)(O C:E0)(k:Int):Prop:=(k= -1∧C= [])∨ ∃y:Nat,k=(y:Int)∧y∈C∧ ∀x∈C,x≠y→bef T O y x
theorem Kg.nil(T:Nat→Fr)(O:E0):Kg T O [] (-1):=.inl ⟨rfl,rfl⟩
theorem Kg.one {T:Nat→Fr}(h:Kg T O C k)(hk:k<0)(x:Nat):Kg T O (C++ [x]) (x:Int):=by
 rcases h with⟨rfl,rfl⟩|⟨y,rfl,_⟩;·exact .inr ⟨x,rfl,by simp,fun z hz Cs=>absurd (by simpa using hz) Cs⟩
 ·omega
theorem Kg.up {T:Nat→Fr}(h:Kg T O C (y:Int))(x:Nat)(hx:(T y).v<(T x).v):Kg T O (C++ [x]) (x:Int):=by
 rcases h with⟨h1,_⟩|⟨y',e,h1,h2⟩;·omega
 ·obtain rfl:y=y':=by omega
  refine .inr ⟨x,rfl,by simp,fun z hz Cs=>?_⟩;rcases jj.1 hz with hz|hz
  ·by_cases hzy:z=y;·subst hzy;exact .inl hx
   ·exact jeB _ _ _ _ _ (.inl hx) (h2 z hz hzy)
  ·exact absurd (jm.1 hz) Cs
theorem Kg.stay {T:Nat→Fr}(h:Kg T O C (y:Int))(x:Nat)(hx: ¬(T y).v<(T x).v)(hi:O.idxOf y<O.idxOf x):Kg T O (C++ [x]) (y:Int):=by
 rcases h with⟨h1,_⟩|⟨y',e,h1,h2⟩;·omega
 ·obtain rfl:y=y':=by omega
  refine .inr ⟨y,rfl,by simp [h1],fun z hz Cs=>?_⟩;rcases jj.1 hz with hz|hz;·exact h2 z hz Cs
  ·rw [jm.1 hz];unfold bef;grind
theorem Kg.mem {T:Nat→Fr}(h:Kg T O C (y:Int)):y∈C:=by
 rcases h with⟨h1,_⟩|⟨y',e,h1,h2⟩;·omega
 ·obtain rfl:y=y':=by omega
  exact h1
theorem Kg.sign {T:Nat→Fr}(h:Kg T O C k):k= -1∨ ∃y:Nat,k=(y:Int):=by
 rcases h with⟨h1,_⟩|⟨y,e,_⟩;·exact .inl h1
 ·exact .inr ⟨y,e⟩
theorem jhl {p:Nat→Bool}{l:E0}(hd:O.Nodup){i:Nat}(h:i<O.length)(hy:y∈jbR p l O i):O.idxOf y<O.idxOf O[i]:=by
 have h1:y∈O.take i:=(jz.1 hy).1;obtain⟨j,hj,rfl⟩:=vq.1 h1;have e1:=List.Nodup.idxOf_getElem hd j (by omega);have e2:=List.Nodup.idxOf_getElem hd i h;rw [e1,e2];omega
theorem jhp {p:Nat→Bool}{T:Nat→Fr}{r:E0}(hd:O.Nodup)(hr:Rk T O (O.filter p) r)(j:Nat)(h:Kg T O (jbR p (r.take j) O O.length) k):(∀(hj:j<r.length),k=(r[j]:Int))∧(r.length≤j→k= -1):=by
 have Mu: ∀x,x∈jbR p (r.take j) O O.length↔x∈r∧x∉r.take j:=fun x=>by
  unfold jbR;rw [jr,jz,hr.perm.mem_iff,jz,jy,Bool.not_eq_true',decide_eq_false_iff_not];exact⟨fun⟨a,b,c⟩=>⟨⟨a,b⟩,c⟩,fun⟨⟨a,b⟩,c⟩=>⟨a,b,c⟩⟩
 have gT:r.Nodup:=hr.perm.nodup_iff.2 (zC _ hd);refine⟨fun hj=>?_,fun hj=>?_⟩
 ·
   have uC:r[j]∈jbR p (r.take j) O O.length:=(Mu _).2 ⟨jb hj,fun h2=>by
    obtain⟨i,hi,e⟩:=vq.1 h2;have e1:=List.Nodup.idxOf_getElem gT i (by omega);have e2:=List.Nodup.idxOf_getElem gT j hj;rw [e,e2]at e1;omega⟩
   rcases h with⟨_,h1⟩|⟨y,rfl,h1,h2⟩;·rw [h1]at uC;cases uC
   ·by_cases e:r[j]=y;·rw [e]
    ·exfalso;have h3:=h2 _ uC e;obtain⟨h4,h5⟩:=(Mu y).1 h1;obtain⟨i,hi,rfl⟩:=vn h4;have pt:j<i:=by
      rcases vf i j with h6|h6|h6;·exact absurd (vq.2 ⟨i,by omega,rfl⟩) h5
      ·subst h6;exact absurd rfl e
      ·exact h6
     exact jeC _ _ _ _ (xJ.1 hr.srt j i hj hi pt) h3
 ·rcases h with⟨h1,_⟩|⟨y,rfl,h1,_⟩;·exact h1
  ·obtain⟨h4,h5⟩:=(Mu y).1 h1;rw [je hj]at h5;exact absurd h4 h5
end Go.Proofs.YtnohcdpnnhmpfaaGreatDoor.TR
namespace Go.Proofs.YtnohcdpnnhmpfaaGreatDoor.KF
open Go.RowKit Tryz ML FM NL
def jbY(N D:Bytes):Nat:=
 if joQ N=true∧joQ D=true then(if 4000<N.length∨4000<D.length then 3 else(if dv D=0∨Nat.gcd (dv N) (dv D)≠1 then 2 else 0))else 2
structure jpw(w:m0)(F:Bytes)(v:n0):Prop where
 good:joQ F=true→ ∃oc cc,v=.slice oc (dig (dv F)).length cc∧LimbsAt w oc (dig (dv F))
structure jad(B:Nat)(w w1:m0)(X Z:t0)(T U:o0):Prop where
 bel:O0 B w w1
 x:w1.heap[B]?=some (.cells X T (0,0))
 z:w1.heap[B+1]?=some (.cells Z U (0,0))
def jpE(N D:Bytes)(w:m0)(e:Ending)(w':m0):Prop:=
 ∃on nn cn od nd cd,e=.returned (.tuple #[.agg #[.slice on nn cn,.slice od nd cd],.int .i64 (jbY N D:Int)])∧(jbY N D=0→nn=(dig (dv N)).length∧nd=(dig (dv D)).length∧LFr w' (dv N) (dv D) on od)∧O0 w.heap.size w w'
def jiP(N D P Q:Bytes):Nat:=if jbY N D=0 then jbY P Q else jbY N D
def jpG(N D P Q:Bytes)(w:m0)(e:Ending)(w':m0):Prop:=
 ∃on nn cn od nd cd op np cp oq nq cq,e=.returned (.tuple #[.agg #[.slice on nn cn,.slice od nd cd],.agg #[.slice op np cp,.slice oq nq cq],.int .i64 (jiP N D P Q:Int)])∧
  (jiP N D P Q=0→nn=(dig (dv N)).length∧nd=(dig (dv D)).length∧np=(dig (dv P)).length∧nq=(dig (dv Q)).length∧LFr w' (dv N) (dv D) on od∧LFr w' (dv P) (dv Q) op oq)∧O0 w.heap.size w w'
structure Box4(B:Nat)(w w1:m0)(X Y Z V:t0)(T U:o0):Prop where
 bel:O0 B w w1
 x:w1.heap[B]?=some (.cells X T (0,0))
 y:w1.heap[B+1]?=some (.cells Y T (0,0))
 z:w1.heap[B+1+1]?=some (.cells Z U (0,0))
 v:w1.heap[B+1+1+1]?=some (.cells V U (0,0))
def ansF(n:Nat)(N D:Bytes):n0:=.tuple #[.agg #[.string ⟨(if n=0 then N else []).toArray⟩,.string ⟨(if n=0 then D else []).toArray⟩],.int .i64 (n:Int)]
structure jpD(B C:Nat)(w w1:m0)(on od op oq:s0)(nn cn nd cd np cp nq cq:Nat):Prop where
 bel:O0 B w w1
 z:w1.heap[B+1+1]?=some (.cells #[.string ⟨#[]⟩,.string ⟨#[]⟩] 27 (0,0))
 c:w1.heap[C]?=some (.cells #[.slice on nn cn,.slice od nd cd] 90 (0,0))
 d:w1.heap[C+1]?=some (.cells #[.slice op np cp,.slice oq nq cq] 90 (0,0))
 lt:B+1+1<C
end Go.Proofs.YtnohcdpnnhmpfaaGreatDoor.KF
namespace Go.Proofs.YtnohcdpnnhmpfaaGreatDoor.TR
open FRP
def elOf(R:List Rd):E0:=R.flatMap fun rd=>if rd.d=1∨rd.d=4 then rd.who else []
structure RdOk(n s m:Nat)(q:Fr)(E:E0)(rd:Rd):Prop where
 len:rd.tots.length=n
 oks: ∀x∈rd.tots,Sml x
 non:Sml rd.non
 sums: ∀j,Sml (Qy rd.non (rd.tots.take j))
 sum:Qy rd.non rd.tots=Fr.wh m
 lt: ∀i∈rd.who,i<n
 who: ∀i∈rd.who,(i∈E↔rd.d=2)
 big:rd.d=1→ ∀i (h:i<rd.tots.length),i∈rd.who→q.v<(rd.tots[i]).v
 dos:rd.d=1∨rd.d=2∨rd.d=3∨rd.d=4
 wlen:rd.who.length≤n
 wne:rd.who≠ []
section
variable {n s m k0:Nat} {q:Fr} {O:E0} {S:St}
end
end Go.Proofs.YtnohcdpnnhmpfaaGreatDoor.TR
namespace Go.Proofs.YtnohcdpnnhmpfaaGreatDoor.TR
open Go.RowKit Tryz ML FRP AU FM NL
def smB(F:List (Bytes×Bytes)):Bool:=F.all fun p=>decide (p.1.length≤4000)&&decide (p.2.length≤4000)
end Go.Proofs.YtnohcdpnnhmpfaaGreatDoor.TR
namespace Go.Proofs.YtnohcdpnnhmpfaaGreatDoor.TR
open Go.RowKit Tryz ML FRP AU CT FM NL
theorem jmd {w:m0}{M n:Nat}{v:n0}{A B E:E0}(h:w.ownsRow M 3 1 v n (xq (yK A)++xq (yK B)))(hE:E=A++B)(hn:n=A.length+B.length): ∃o c,v=.slice o E.length c∧w.ownsRow M 3 1 (.slice o E.length c) E.length (xq (yK E)):=by
 subst hE;subst hn;have e:xq (yK A)++xq (yK B)=xq (yK (A++B)):=by simp [xq,yK]
 rw [e]at h;obtain⟨o,c,hv,_,_⟩:=zT h;rw [yn]at hv;refine⟨o,c,hv,?_⟩;rw [←hv,jZ];exact h
end Go.Proofs.YtnohcdpnnhmpfaaGreatDoor.TR
namespace Go.Proofs.YtnohcdpnnhmpfaaGreatDoor.TR
open Go.RowKit Tryz ML FRP AU CT FM
end Go.Proofs.YtnohcdpnnhmpfaaGreatDoor.TR
