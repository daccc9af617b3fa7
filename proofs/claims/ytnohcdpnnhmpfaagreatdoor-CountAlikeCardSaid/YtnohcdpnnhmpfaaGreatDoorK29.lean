/-
  Chapter 13: count.Transfer. Printed by tools/gentf.py.
  Chapter 13: the law's own 'in'. Printed by tools/genli.py.
  Chapter 13, CountAlike: a transferable vote counted with other names and in another order: the plain law. No program in sight.
  Chapter 13: plain law: the strengths of the strongest ways.
  Chapter 13: plain law: the least set that beats all others.
  Chapter 13: plain law: the sets that are grown, and all sets.
-/
import Derived.Test.YtnohcdpnnhmpfaaGreatDoorK27
import Derived.Test.YtnohcdpnnhmpfaaGreatDoorK28
import Derived.Test.YtnohcdpnnhmpfaaGreatDoorK03
import Derived.Test.YtnohcdpnnhmpfaaGreatDoorK01
set_option linter.unusedVariables false
set_option linter.unusedSimpArgs false
set_option maxRecDepth 100000
set_option maxHeartbeats 2000000
namespace Go.Proofs.YtnohcdpnnhmpfaaGreatDoor.TR
open Go.RowKit ML FRP AU CT FM
theorem lawIn_any(oa:Option Addr)(L:List Int)(cap:Nat)(x:Int)(w:World)(h:IsAt w oa L)(hl:L.length<9223372036854775808):
 Calls Tryz.prog 13 #[.slice oa L.length cap,.int .i64 x] w fun e w'=>e=.returned (.bool (decide (x∈L)))∧w=w':=by
 have H:=Lib.hid h;clear h;go_enter Tryz.func13,Tryz.ntmps13;go_upto_region 2 with(fail)
 go_loop [9] (fun i=> ∃k:Nat,k≤L.length∧i=.int .i64 k∧x∉L.take k) (fun i=>L.length-(intOf i).toNat)
 case atStart=>exact⟨0,by omega,rfl,by simp⟩
 case round=>
 obtain⟨k,hk,rfl,hpre⟩:=hrel;have HP:=Lib.hid hpre;clear hpre;by_cases hlt:k<L.length
 ·have dk:decide ((k:Int)<(L.length:Int))=true:=decide_eq_true (by omega);have dk2:decide (k<L.length)=true:=decide_eq_true hlt;have hki:(k:Int)<(L.length:Int):=by omega
  obtain⟨a,hoa,hab,hac⟩:=H.out.cells k hlt;have hyes:=Lib.hid (fun(hb:L[k]=x)=>(show decide (x∈L)=true from decide_eq_true (hb▸List.getElem_mem hlt)))
  have hno:=Lib.hid (fun(hb: ¬L[k]=x)=>(show x∉L.take (k+1)by
   rw [List.take_succ_eq_append_getElem hlt,List.mem_append,List.mem_singleton];rintro(h|h);·exact HP.out h
   ·exact hb h.symm))
  subst hoa;generalize L[k]=y at*;by_cases he:y=x
  ·have h2:=Lib.hid (hyes.out he);have d1:(y==x)=true:=by rw [beq_iff_eq];exact he
   clear he hyes hno;go_wp2_with fail;go_ret;exact⟨by rw [h2.out];rfl,rfl⟩
  ·have h2:=Lib.hid (hno.out he);have d1:(y==x)=false:=by rw [beq_eq_false_iff_ne];exact he
   clear he hyes hno;go_wp2_with fail
   go_round
   case rel=>exact⟨k+1,by omega,by go_num,h2.out⟩
   case measure=>simp [intOf];omega
 ·have dk:decide ((k:Int)<(L.length:Int))=false:=decide_eq_false (by omega);have dk2:decide (k<L.length)=false:=decide_eq_false hlt;obtain rfl:k=L.length:=by omega
  rw [List.take_length]at HP;have h2:=Lib.hid (show decide (x∈L)=false from decide_eq_false HP.out);go_wp2_with fail;go_ret;exact⟨by rw [h2.out];rfl,rfl⟩
end Go.Proofs.YtnohcdpnnhmpfaaGreatDoor.TR
namespace Go.Proofs.YtnohcdpnnhmpfaaGreatDoor.TR
open FRP
def Vo.ren(f:Nat→Nat)(x:Vo):Vo:=⟨x.rk.map f,x.nx,x.wi.map f,x.wt⟩
def votes(m:Nat)(S:St):List Vo:=(List.range m).map S.V
theorem pile_map(m:Nat)(S:St)(i:Option Nat):(S.pile m i).map (fun k=>(S.V k).wt)=((votes m S).filter fun x=>decide (x.wi=i)).map Vo.wt:=by
 unfold St.pile votes;rw [List.filter_map,List.map_map];rfl
structure Nm(n:Nat)(f:Nat→Nat):Prop where
 lt: ∀i,i<n→f i<n
 inj: ∀i j,i<n→j<n→f i=f j→i=j
 sur: ∀k,k<n→ ∃i,i<n∧f i=k
structure Alk(n m:Nat)(f:Nat→Nat)(S S':St):Prop where
 vs:(votes m S').Perm ((votes m S).map (Vo.ren f))
 co: ∀i,i<n→S'.cont (f i)=S.cont i
 mv: ∀i,i<n→S'.moved (f i)=S.moved i
 kp: ∀i,i<n→S'.kept (f i)=S.kept i
 el:S'.el=S.el.map f
section
variable {n s m:Nat} {q:Fr} {O:List Nat} {S S':St} {f:Nat→Nat}
theorem fsum_perm {a:Fr}{l l':List Fr}(ha:a.ok)(hl: ∀x∈l,x.ok)(hp:l'.Perm l):fsum a l'=fsum a l:=by
 have h1:=fsum_ok l a ha hl;have h2:=fsum_ok l' a ha (fun x hx=>hl x (hp.mem_iff.1 hx));refine Fr.v_inj h2.1 h1.1 ?_;rw [h1.2,h2.2,sum_perm (hp.map Fr.v)]
theorem Inv.votes_ok(h:Inv n s m q O S): ∀x∈votes m S,x.wt.ok∧(∀i∈x.rk,i<n)∧ ∀i,x.wi=some i→i<n:=by
 intro x hx;unfold votes at hx;obtain⟨k,hk,rfl⟩:=List.mem_map.1 hx;have hk':=List.mem_range.1 hk;exact⟨h.wok k hk',h.rk k hk',fun i hi=>(h.at_ k hk' i hi).1⟩
theorem filter_ren(f:Nat→Nat)(l:List Vo)(p p':Vo→Bool)(h: ∀x∈l,p' (x.ren f)=p x):((l.map (Vo.ren f)).filter p').map Vo.wt=(l.filter p).map Vo.wt:=by
 rw [List.filter_map,List.map_map];have:l.filter (p'∘Vo.ren f)=l.filter p:=List.filter_congr fun x hx=>h x hx;rw [this];rfl
theorem Alk.sum(h:Alk n m f S S')(hf:Nm n f)(hI:Inv n s m q O S)(p p':Vo→Bool)(hp: ∀x∈votes m S,p' (x.ren f)=p x){a:Fr}(ha:a.ok):
 fsum a (((votes m S').filter p').map Vo.wt)=fsum a (((votes m S).filter p).map Vo.wt):=by
 rw [←filter_ren f (votes m S) p p' hp];refine fsum_perm ha ?_ ((h.vs.filter p').map Vo.wt);rw [filter_ren f (votes m S) p p' hp];intro x hx;obtain⟨y,hy,rfl⟩:=List.mem_map.1 hx;exact(hI.votes_ok y (List.mem_filter.1 hy).1).1
theorem Alk.tot(h:Alk n m f S S')(hf:Nm n f)(hI:Inv n s m q O S){i:Nat}(hi:i<n):S'.tot m (f i)=S.tot m i:=by
 unfold St.tot;rw [pile_map,pile_map,h.kp i hi];refine h.sum hf hI _ _ (fun x hx=>?_) (hI.kok i);have h3:=(hI.votes_ok x hx).2.2;show decide ((x.wi.map f)=some (f i))=decide (x.wi=some i);congr 1;rw [eq_iff_iff];constructor
 ·intro e;cases hw:x.wi with
  |none=>rw [hw]at e;cases e
  |
   some j=>
   rw [hw]at e;have e2:f j=f i:=by injection e
   rw [hf.inj j i (h3 j hw) hi e2]
 ·intro e;rw [e];rfl
theorem filter_names {l:List Nat}(hl: ∀i∈l,i<n)(p p':Nat→Bool)(h: ∀i,i<n→p' (f i)=p i):(l.map f).filter p'=(l.filter p).map f:=by
 rw [List.filter_map];congr 1;exact List.filter_congr fun x hx=>h x (hl x hx)
theorem mem_names(hf:Nm n f){l:List Nat}(hl: ∀i∈l,i<n){i:Nat}(hi:i<n):f i∈l.map f↔i∈l:=by
 rw [List.mem_map];exact⟨fun⟨j,hj,e⟩=>by rw [←hf.inj j i (hl j hj) hi e];exact hj,fun h=>⟨i,h,rfl⟩⟩
theorem idxOf_names(hf:Nm n f): ∀{l:List Nat} (hl: ∀i∈l,i<n) {i:Nat} (hi:i<n),(l.map f).idxOf (f i)=l.idxOf i
 | [],_,_,_=>rfl
 |
  x::l,hl,i,hi=>by
  rw [List.map_cons,List.idxOf_cons,List.idxOf_cons,idxOf_names hf (fun j hj=>hl j (by simp [hj])) hi];have:(f x==f i)=(x==i):=by
   rw [Bool.eq_iff_iff,beq_iff_eq,beq_iff_eq];exact⟨fun e=>hf.inj x i (hl x (by simp)) hi e,fun e=>by rw [e]⟩
  rw [this]
theorem Inv.olt(h:Inv n s m q O S): ∀i∈O,i<n:=fun i hi=>(h.omem i).1 hi
theorem Alk.still(h:Alk n m f S S')(hI:Inv n s m q O S):S'.still (O.map f)=(S.still O).map f:=filter_names hI.olt _ _ h.co
theorem Alk.over(h:Alk n m f S S')(hf:Nm n f)(hI:Inv n s m q O S):S'.over m q (O.map f)=(S.over m q O).map f:=by
 unfold St.over;rw [h.still hI];refine filter_names (fun i hi=>(hI.mem_still.1 hi).1) _ _ (fun i hi=>?_);rw [h.tot hf hI hi]
theorem Alk.wait(h:Alk n m f S S')(hf:Nm n f)(hI:Inv n s m q O S):S'.wait (O.map f)=(S.wait O).map f:=by
 unfold St.wait;refine filter_names hI.olt _ _ (fun i hi=>?_);rw [h.mv i hi,h.el];have:decide (f i∈S.el.map f)=decide (i∈S.el):=by
  congr 1;rw [eq_iff_iff];exact mem_names hf (fun j hj=>(hI.elc j hj).1) hi
 rw [this]
theorem Alk.rk(h:Alk n m f S S')(hf:Nm n f)(hI:Inv n s m q O S){l r:List Nat}(hl: ∀i∈l,i<n)(hr:Rk (S.tot m) O l r):Rk (S'.tot m) (O.map f) (l.map f) (r.map f):=by
 have hrl: ∀i∈r,i<n:=fun i hi=>hl i (hr.perm.mem_iff.1 hi);refine⟨hr.perm.map f,?_⟩;rw [List.pairwise_map];refine hr.srt.imp_of_mem (fun {a b} ha hb hab=>?_);unfold bef;rw [h.tot hf hI (hrl a ha),h.tot hf hI (hrl b hb),idxOf_names hf hI.olt (hrl a ha),idxOf_names hf hI.olt (hrl b hb)];exact hab
theorem map_nil_iff {l:List Nat}:l.map f= []↔l= []:=by cases l<;>simp
theorem Alk.dec(h:Alk n m f S S')(hf:Nm n f)(hI:Inv n s m q O S){d:Nat}{r:List Nat}(hd:Dec m s q O S d r):Dec m s q (O.map f) S' d (r.map f):=by
 have ho:=h.over hf hI;have hs:=h.still hI (O:=O);have hw:=h.wait hf hI;have hel:S'.el.length=S.el.length:=by rw [h.el,List.length_map]
 have hsl:(S'.still (O.map f)).length=(S.still O).length:=by rw [hs,List.length_map]
 cases hd with
 |elect _ h1 hr=>exact .elect _ (by rw [ho];exact fun e=>h1 (map_nil_iff.1 e)) (by rw [ho];exact h.rk hf hI (fun i hi=>(hI.mem_over.1 hi).1) hr)
 |fill _ h1 h2 h3 hr=>exact .fill _ (by rw [ho,h1];rfl) (by rw [hel];exact h2) (by rw [hel,hsl];exact h3) (by rw [hs];exact h.rk hf hI (fun i hi=>(hI.mem_still.1 hi).1) hr)
 |move i r' h1 h2 h3 hr=>exact .move (f i) (r'.map f) (by rw [ho,h1];rfl) (by rw [hel];exact h2) (by rw [hel,hsl];exact h3) (by rw [hw];exact h.rk hf hI (fun i hi=>(hI.mem_wait.1 hi).1) hr)
 |excl i r' h1 h2 h3 h4 hr=>exact .excl (f i) (r'.map f) (by rw [ho,h1];rfl) (by rw [hel];exact h2) (by rw [hel,hsl];exact h3) (by rw [hw,h4];rfl) (by
  rw [hs];have:=h.rk hf hI (fun i hi=>(hI.mem_still.1 hi).1) hr
  rwa [List.map_append]at this)
theorem seek_ren {c c':Nat→Bool}(hc: ∀i,i<n→c' (f i)=c i): ∀(l:List Nat) (hl: ∀i∈l,i<n) (k:Nat),seek c' (l.map f) k=((seek c l k).1,(seek c l k).2.map f)
 | [],_,_=>rfl
 |
  i::l,hl,k=>by
  rw [List.map_cons];unfold seek;rw [hc i (hl i (by simp))];by_cases h:c i=true;·rw [if_pos h,if_pos h];rfl
  ·rw [if_neg h,if_neg h];exact seek_ren hc l (fun j hj=>hl j (by simp [hj])) (k+1)
theorem go_ren {c c':Nat→Bool}(hc: ∀i,i<n→c' (f i)=c i){x:Vo}(hx: ∀i∈x.rk,i<n):(x.ren f).go c'=(x.go c).ren f:=by
 unfold Vo.go Vo.ren;simp only
 rw [←List.map_drop,seek_ren hc _ (fun i hi=>hx i (List.mem_of_mem_drop hi))]
theorem by_ren(x:Vo)(g:Fr):(x.ren f).by g=(x.by g).ren f:=rfl
def goOn1(c:Nat→Bool)(i:Nat)(g:Fr)(x:Vo):Vo:=if x.wi=some i then(x.by g).go c else x
theorem votes_goOn {T:St}(c:Nat→Bool)(i:Nat)(g:Fr)(h:T.V=S.goOn c i g):votes m T=(votes m S).map (goOn1 c i g):=by
 unfold votes;rw [h,List.map_map];rfl
theorem Alk.go(h:Alk n m f S S')(hf:Nm n f)(hI:Inv n s m q O S){c c':Nat→Bool}(hc: ∀i,i<n→c' (f i)=c i){i:Nat}(hi:i<n)(g:Fr):
 ((votes m S').map (goOn1 c' (f i) g)).Perm (((votes m S).map (goOn1 c i g)).map (Vo.ren f)):=by
 refine(h.vs.map _).trans (List.Perm.of_eq ?_);rw [List.map_map,List.map_map];refine List.map_congr_left fun x hx=>?_;obtain⟨_,h2,h3⟩:=hI.votes_ok x hx;show goOn1 c' (f i) g (x.ren f)=(goOn1 c i g x).ren f;unfold goOn1;by_cases e:x.wi=some i;·rw [if_pos e,if_pos (show(x.ren f).wi=some (f i)by unfold Vo.ren;rw [e];rfl),by_ren,go_ren hc (x:=x.by g) h2]
 ·rw [if_neg e,if_neg];intro e2;apply e;cases hw:x.wi with
  |none=>unfold Vo.ren at e2;rw [hw]at e2;cases e2
  |
   some j=>
   unfold Vo.ren at e2;rw [hw]at e2;have e3:f j=f i:=by injection e2
   rw [hf.inj j i (h3 j hw) hi e3]
theorem Alk.elect(h:Alk n m f S S')(hf:Nm n f){r:List Nat}(hr: ∀i∈r,i<n):Alk n m f (S.elect r) (S'.elect (r.map f)):=
 ⟨h.vs,fun i hi=>by
  show(S'.cont (f i)&& !decide (f i∈r.map f))=(S.cont i&& !decide (i∈r));rw [h.co i hi];have:decide (f i∈r.map f)=decide (i∈r):=by
   congr 1;rw [eq_iff_iff];exact mem_names hf hr hi
  rw [this],h.mv,h.kp,by show S'.el++r.map f=(S.el++r).map f;rw [h.el,List.map_append]⟩
theorem Alk.move(h:Alk n m f S S')(hf:Nm n f)(hI:Inv n s m q O S){i:Nat}(hi:i<n):Alk n m f (S.move m q i) (S'.move m q (f i)):=by
 have hsu:S'.surplus m q (f i)=S.surplus m q i:=by unfold St.surplus;rw [h.tot hf hI hi]
 refine⟨?_,h.co,fun j hj=>?_,fun j hj=>?_,h.el⟩
 ·rw [votes_goOn (S:=S') (T:=S'.move m q (f i)) S'.cont (f i) (S'.surplus m q (f i)) rfl,votes_goOn (S:=S) (T:=S.move m q i) S.cont i (S.surplus m q i) rfl,hsu];exact h.go hf hI h.co hi _
 ·show(S'.moved (f j)||decide (f j=f i))=(S.moved j||decide (j=i));rw [h.mv j hj];have:decide (f j=f i)=decide (j=i):=by
   congr 1;rw [eq_iff_iff];exact⟨hf.inj j i hj hi,fun e=>by rw [e]⟩
  rw [this]
 ·show(if f j=f i then q else S'.kept (f j))=if j=i then q else S.kept j
  rw [h.kp j hj];by_cases e:j=i;·rw [if_pos e,if_pos (by rw [e])]
  ·rw [if_neg e,if_neg (fun e2=>e (hf.inj j i hj hi e2))]
theorem Alk.excl(h:Alk n m f S S')(hf:Nm n f)(hI:Inv n s m q O S){i:Nat}(hi:i<n):Alk n m f (S.excl i) (S'.excl (f i)):=by
 have hc: ∀j,j<n→out S'.cont (f i) (f j)=out S.cont i j:=fun j hj=>by
  unfold out;rw [h.co j hj];have:decide (f j=f i)=decide (j=i):=by
   congr 1;rw [eq_iff_iff];exact⟨hf.inj j i hj hi,fun e=>by rw [e]⟩
  rw [this]
 refine⟨?_,hc,h.mv,h.kp,h.el⟩;rw [votes_goOn (S:=S') (T:=S'.excl (f i)) (out S'.cont (f i)) (f i) one rfl,votes_goOn (S:=S) (T:=S.excl i) (out S.cont i) i one rfl];exact h.go hf hI hc hi _
theorem Alk.next(h:Alk n m f S S')(hf:Nm n f)(hI:Inv n s m q O S){d:Nat}{r:List Nat}(hd:Dec m s q O S d r):Alk n m f (S.next m q d r) (S'.next m q d (r.map f)):=by
 unfold St.next;cases hd with
 |elect _ h1 hr=>exact h.elect hf fun i hi=>(hI.mem_over.1 (hr.perm.mem_iff.1 hi)).1
 |fill _ h1 h2 h3 hr=>exact h.elect hf fun i hi=>(hI.mem_still.1 (hr.perm.mem_iff.1 hi)).1
 |move i r' h1 h2 h3 hr=>exact h.move hf hI (hI.mem_wait.1 (hr.perm.mem_iff.1 (by simp))).1
 |excl i r' h1 h2 h3 h4 hr=>exact h.excl hf hI (hI.mem_still.1 (hr.perm.mem_iff.1 (by simp))).1
theorem Alk.runs {S0 S0':St}(h0:Alk n m f S0 S0')(hf:Nm n f)(hm4:m≤4096)(hI:Inv n s m q O S0){R:List Rd}(hr:Runs n m s q O S0 R S):
 ∃R' S',Runs n m s q (O.map f) S0' R' S'∧Alk n m f S S'∧Inv n s m q O S:=by
 induction hr with
 |nil=>exact⟨[],S0',.nil,h0,hI⟩
 |
  snoc h hd ih=>
  obtain⟨R',S',h1,h2,h3⟩:=ih;exact⟨_,_,h1.snoc (h2.dec hf h3 hd),h2.next hf h3 hd,(h3.next hm4 hd).1⟩
theorem Alk.ends {S0 S0':St}(h0:Alk n m f S0 S0')(hf:Nm n f)(hm4:m≤4096)(hI:Inv n s m q O S0){R R':List Rd}(hr:Runs n m s q O S0 R S)(he:End m s q O S)(hr':Runs n m s q (O.map f) S0' R' S')(he':End m s q (O.map f) S'):S'.el=S.el.map f:=by
 obtain⟨R2,S2,h1,h2,h3⟩:=h0.runs hf hm4 hI hr;have e2:End m s q (O.map f) S2:=⟨by rw [h2.over hf h3,he.1];rfl,by rw [h2.el,List.length_map];exact he.2⟩;obtain⟨_,rfl⟩:=hr'.unique he' h1 e2;exact h2.el
end
end Go.Proofs.YtnohcdpnnhmpfaaGreatDoor.TR
namespace Go.Proofs.YtnohcdpnnhmpfaaGreatDoor
namespace CT
abbrev Mx:=Nat→Nat→Int
def edge(p:Mx)(i j:Nat):Int:=if p j i<p i j then p i j else 0
inductive Way (e:Mx) (n:Nat) (s:Int):Nat→Nat→Prop
 |one {i j}:i<n→j<n→s≤e i j→Way e n s i j
 |more {i k j}:Way e n s i k→j<n→s≤e k j→Way e n s i j
theorem Way.lt {e:Mx}{n:Nat}{s:Int}{i j:Nat}(h:Way e n s i j):i<n∧j<n:=by
 induction h with
 |one h1 h2 _=>exact⟨h1,h2⟩
 |more _ h2 _ ih=>exact⟨ih.1,h2⟩
theorem Way.trans {e:Mx}{n:Nat}{s:Int}{i k j:Nat}(h:Way e n s i k)(h2:Way e n s k j):Way e n s i j:=by
 induction h2 with
 |one _ h2 h3=>exact h.more h2 h3
 |more _ h2 h3 ih=>exact ih.more h2 h3
theorem Way.mono {e:Mx}{n:Nat}{s t:Int}{i j:Nat}(h:Way e n s i j)(ht:t≤s):Way e n t i j:=by
 induction h with
 |one h1 h2 h3=>exact .one h1 h2 (by omega)
 |more _ h2 h3 ih=>exact ih.more h2 (by omega)
structure Strong(e:Mx)(n:Nat)(w:Mx):Prop where
 zero: ∀i,i<n→w i i=0
 nn: ∀i j,i<n→j<n→0≤w i j
 is: ∀i j,i<n→j<n→i≠j→ ∀s,0<s→(s≤w i j↔Way e n s i j)
theorem Strong.unique {e:Mx}{n:Nat}{w w':Mx}(h:Strong e n w)(h':Strong e n w')(i j:Nat)(hi:i<n)(hj:j<n):w i j=w' i j:=by
 by_cases hij:i=j;·subst hij;rw [h.zero i hi,h'.zero i hi]
 ·have h1:=h.nn i j hi hj;have h2:=h'.nn i j hi hj;by_cases a:0<w i j
  ·have:=(h'.is i j hi hj hij _ a).2 ((h.is i j hi hj hij _ a).1 (Int.le_refl _));have b:0<w' i j:=by omega
   have:=(h.is i j hi hj hij _ b).2 ((h'.is i j hi hj hij _ b).1 (Int.le_refl _));omega
  ·by_cases b:0<w' i j
   ·have:=(h.is i j hi hj hij _ b).2 ((h'.is i j hi hj hij _ b).1 (Int.le_refl _));omega
   ·omega
structure Sound(e:Mx)(n:Nat)(w:Mx):Prop where
 zero: ∀i,i<n→w i i=0
 nn: ∀i j,i<n→j<n→0≤w i j
 way: ∀i j,i<n→j<n→i≠j→0<w i j→Way e n (w i j) i j
def upd(w:Mx)(i j:Nat)(v:Int):Mx:=fun a b=>if a=i∧b=j then v else w a b
theorem strong_of_step {e:Mx}{n:Nat}{w:Mx}(h:Sound e n w)(h1: ∀i j,i<n→j<n→i≠j→e i j≤w i j)(h2: ∀i j k,i<n→j<n→k<n→i≠j→k≠i→min (w i k) (e k j)≤w i j):Strong e n w:=by
 have key: ∀i j s,0<s→Way e n s i j→i≠j→s≤w i j:=by
  intro i j s hs hw
  induction hw with
  |one ha hb h3=>intro hij;have:=h1 _ _ ha hb hij;omega
  |
   @more k b hk hb h3 ih=>
   intro hij;have hkn:=hk.lt;by_cases hki:k=i;·subst hki;have:=h1 k b hkn.2 hb hij;omega
   ·have c:=ih (Ne.symm hki);have d:=h2 i b k hkn.1 hb hkn.2 hij hki;omega
 exact⟨h.zero,h.nn,fun i j hi hj hij s hs=>⟨fun hw=>(h.way i j hi hj hij (by omega)).mono hw,fun hw=>key i j s hs hw hij⟩⟩
def Closed(n:Nat)(w:Mx)(m:Nat):Prop:= ∀i j k,i<n→j<n→k<n→k<m→i≠j→min (w i k) (w k j)≤w i j
theorem mm_le(ij ik kj im mj mk km:Int)(c1:min ik kj≤ij)(c2:min ik km≤im)(c3:min mk kj≤mj):min (max ik (min im mk)) (max kj (min km mj))≤max ij (min im mj):=by
 generalize hs:min (max ik (min im mk)) (max kj (min km mj))=s;have h1:s≤ik∨(s≤im∧s≤mk):=by
  have:s≤max ik (min im mk):=by rw [←hs];exact Int.min_le_left _ _
  omega
 have h2:s≤kj∨(s≤km∧s≤mj):=by
  have:s≤max kj (min km mj):=by rw [←hs];exact Int.min_le_right _ _
  omega
 clear hs;rcases h1 with h1|⟨h1,h1'⟩<;>rcases h2 with h2|⟨h2,h2'⟩<;>omega
theorem closed_step {n m:Nat}{w w':Mx}(hm:m<n)(hz: ∀i,i<n→w i i=0)(hnn: ∀i j,i<n→j<n→0≤w i j)(hs: ∀i j,i<n→j<n→i≠j→w' i j=max (w i j) (min (w i m) (w m j)))(hz': ∀i,i<n→w' i i=0)(hc:Closed n w m):Closed n w' (m+1):=by
 intro i j k hi hj hk hkm hij;have e1:=hs i j hi hj hij;by_cases hik:i=k
 ·subst hik;have:=hz' i hi;have a:=hnn i j hi hj;omega
 by_cases hkj:k=j
 ·subst hkj;have:=hz' k hk;have a:=hnn i k hi hk;omega
 have e2:=hs i k hi hk hik;have e3:=hs k j hk hj hkj;have zm:=hz m hm;have nij:=hnn i j hi hj;have nik:=hnn i k hi hk;have nkj:=hnn k j hk hj;have nim:=hnn i m hi hm;have nmj:=hnn m j hm hj;have nmk:=hnn m k hm hk;have nkm:=hnn k m hk hm;by_cases hkm2:k=m
 ·subst hkm2;omega
 ·have hlt:k<m:=by omega
  have c1:=hc i j k hi hj hk hlt hij;by_cases him:i=m;·subst him;omega
  ·by_cases hjm:j=m;·subst hjm;omega
   ·have c2:=hc i m k hi hm hk hlt him;have c3:=hc m j k hm hj hk hlt (Ne.symm hjm);rw [e1,e2,e3];exact mm_le _ _ _ _ _ _ _ c1 c2 c3
theorem strong_of_closed {e:Mx}{n:Nat}{w:Mx}(h:Sound e n w)(h1: ∀i j,i<n→j<n→i≠j→e i j≤w i j)(h2:Closed n w n):Strong e n w:=
 strong_of_step h h1 (fun i j k hi hj hk hij hki=>by
  by_cases hkj:k=j;·subst hkj;omega
  ·have:=h2 i j k hi hj hk hk hij;have:=h1 k j hk hj hkj;omega)
theorem Strong.closed {e:Mx}{n:Nat}{w:Mx}(h:Strong e n w):Closed n w n:=by
 intro i j k hi hj hk _ hij;by_cases hik:i=k;·subst hik;have:=h.zero i hi;have:=h.nn i j hi hj;omega
 by_cases hkj:k=j;·subst hkj;have:=h.zero k hk;have:=h.nn i k hi hk;omega
 have a:=h.nn i k hi hk;have b:=h.nn k j hk hj;have c:=h.nn i j hi hj;by_cases hs:0<min (w i k) (w k j);·exact(h.is i j hi hj hij _ hs).2 (((h.is i k hi hk hik _ hs).1 (by omega)).trans ((h.is k j hk hj hkj _ hs).1 (by omega)))
 ·omega
end CT
namespace CT
def beats(p:Nat→Nat→Int)(i j:Nat):Prop:=p j i<p i j
def Dom(p:Nat→Nat→Int)(n:Nat)(D:List Nat):Prop:=(∀i∈D,i<n)∧ ∀i∈D,∀j,j<n→j∉D→beats p i j
structure Clo(p:Nat→Nat→Int)(n i:Nat)(D:List Nat):Prop where
 dom:Dom p n D
 mem:i∈D
 nd:D.Nodup
 least: ∀B,Dom p n B→i∈B→ ∀x∈D,x∈B
structure Smallest(p:Nat→Nat→Int)(n:Nat)(D:List Nat):Prop where
 dom:Dom p n D
 ne:D≠ []
 nd:D.Nodup
 least: ∀B,Dom p n B→B≠ []→B.Nodup→D.length≤B.length
end CT
namespace CT
structure BfsI(p:Nat→Nat→Int)(n i:Nat)(D:List Nat)(k:Nat):Prop where
 nd:D.Nodup
 mem:i∈D
 bd: ∀x∈D,x<n
 clo: ∀t (h:t<D.length),t<k→ ∀j,j<n→j∉D→beats p D[t] j
 least: ∀B,Dom p n B→i∈B→ ∀x∈D,x∈B
structure BfsJ(p:Nat→Nat→Int)(n i:Nat)(D:List Nat)(k j:Nat):Prop where
 inv:BfsI p n i D k
 lt:k<D.length
 row: ∀c,c<j→c<n→c∉D→beats p D[k] c
structure BestD(p:Nat→Nat→Int)(n i:Nat)(D:List Nat):Prop where
 is: ∃i0,i0<i∧Clo p n i0 D
 le: ∀j,j<i→ ∀B,Clo p n j B→D.length≤B.length
 ex: ∀j,j<i→ ∃B,Clo p n j B
def bitB(s i:Nat):Bool:=s/2^i%2==1
def bitsL(n s:Nat):List Nat:=(List.range n).filter (bitB s)
def domB(p:Nat→Nat→Int)(n:Nat)(l:List Nat):Bool:=l.all fun i=>(List.range n).all fun j=>decide (j∈l)||decide (p j i<p i j)
def NoneL(p:Nat→Nat→Int)(n m:Nat):Prop:= ∀s,1≤s→s<2^n→(bitsL n s).length<m→domB p n (bitsL n s)=false
end CT
end Go.Proofs.YtnohcdpnnhmpfaaGreatDoor
