/-
  Chapter 13, Transfer: what (*hall).round reads, in plain words.
  Chapter 13, Transfer: the ranks of a ballot; count.ranked.
  Chapter 13, Transfer: a hall that gets one paper more.
  Chapter 13, Transfer: count.newHall's region 2: a load and four makes, in whatever order. Printed by tools/gennew2.py. PIECE
  Chapter 13, Transfer: count.newHall. Printed by tools/gennew.py.
  Chapter 13, Transfer: at the start all holds; where it ends. No program in sight.
-/
import Derived.Test.YtnohcdpnnhmpfaaGreatDoorK22
import Derived.Test.YtnohcdpnnhmpfaaGreatDoorK23
import Derived.Test.YtnohcdpnnhmpfaaGreatDoorK21
import Derived.Test.YtnohcdpnnhmpfaaGreatDoorK24
import Derived.Test.YtnohcdpnnhmpfaaGreatDoorK12
set_option linter.unusedVariables false
set_option linter.unusedSimpArgs false
set_option maxRecDepth 100000
set_option maxHeartbeats 16000000
namespace Go.Proofs.YtnohcdpnnhmpfaaGreatDoor.TR
open Go.RowKit ML FRP AU CT FM
def HK.On(K:HK):List Nat:=K.O.map Int.toNat
theorem toNat_nats(l:List Nat):(nats l).map Int.toNat=l:=by simp [nats,Function.comp_def]
theorem nats_toNat(l:List Int)(h: ∀x∈l,0≤x):nats (l.map Int.toNat)=l:=by
 unfold nats;rw [List.map_map]
 conv=>rhs;rw [←List.map_id l]
 refine List.map_congr_left fun x hx=>?_;have:=h x hx;simp;omega
theorem nats_filter(l:List Nat)(p:Int→Bool)(f:Nat→Bool)(h: ∀i∈l,p (i:Int)=f i):(nats l).filter p=nats (l.filter f):=by
 induction l with
 |nil=>rfl
 |
  cons x l ih=>
  have h1:=ih (fun i hi=>h i (by simp [hi]));have h2:=h x (by simp);unfold nats at*;simp only [List.map_cons];by_cases hf:f x=true;·rw [List.filter_cons_of_pos (by rw [h2];exact hf),List.filter_cons_of_pos hf,h1];rfl
  ·rw [List.filter_cons_of_neg (by rw [h2];exact hf),List.filter_cons_of_neg hf,h1]
theorem HKok.onats {K:HK}(h:HKok K):K.O=nats K.On:=(nats_toNat K.O (fun x hx=>((h.mem x).1 hx).1)).symm
theorem HKok.omem {K:HK}(h:HKok K)(i:Nat):i∈K.On↔i<K.c.op.length:=by
 unfold HK.On;rw [List.mem_map];constructor
 ·rintro⟨x,hx,rfl⟩;have:=(h.mem x).1 hx;omega
 ·intro hi;exact⟨(i:Int),(h.mem _).2 ⟨by omega,by omega⟩,by simp⟩
theorem HKok.ond {K:HK}(h:HKok K):K.On.Nodup:=by
 have h1:=h.nd;rw [h.onats]at h1;unfold nats at h1;exact List.Pairwise.of_map _ (fun a b hne e=>hne (by rw [e])) h1
theorem HKok.olen {K:HK}(h:HKok K):K.On.length=K.c.op.length:=by
 unfold HK.On;rw [List.length_map];exact h.len
theorem HKok.idx {K:HK}(h:HKok K){i:Nat}(hi:i<K.c.op.length):K.P.getD i 0=(K.On.idxOf i:Int):=by
 have hm:=(h.omem i).2 hi;have hlt:=List.idxOf_lt_length_of_mem hm;have hk:K.On.idxOf i<K.O.length:=by rw [h.len,←h.olen];exact hlt
 have h1:=List.getElem_idxOf (x:=i) (xs:=K.On) hlt;have h2:=h.place (K.On.idxOf i) hk;have h3:K.O[K.On.idxOf i].toNat=i:=by
  generalize K.On.idxOf i=j at*;have h4:K.On[j]?=(K.O[j]?).map Int.toNat:=by unfold HK.On;rw [List.getElem?_map]
  rw [List.getElem?_eq_getElem hlt,List.getElem?_eq_getElem hk,h1]at h4;simpa using h4.symm
 rw [h3]at h2;rw [List.getD_eq_getElem?_getD,h2];rfl
theorem HKok.place_ne {K:HK}(h:HKok K){a b:Nat}(ha:a<K.c.op.length)(hb:b<K.c.op.length)(hne:a≠b):K.P.getD a 0≠K.P.getD b 0:=by
 rw [h.idx ha,h.idx hb];intro e;exact hne (idx_inj ((h.omem a).2 ha) ((h.omem b).2 hb) (by omega))
theorem HKok.pbd {K:HK}(h:HKok K): ∀x∈K.P,0≤x∧x<1000:=by
 intro x hx;obtain⟨j,hj,rfl⟩:=List.getElem_of_mem hx;have hj':j<K.c.op.length:=by rw [←h.plen];exact hj
 have h1:=h.idx hj';have h2:K.On.idxOf j<K.On.length:=List.idxOf_lt_length_of_mem ((h.omem j).2 hj');have h3:=h.olen;have h4:=h.n12;rw [List.getD_eq_getElem?_getD,List.getElem?_eq_getElem hj]at h1;simp only [Option.getD_some]at h1;omega
theorem rk_of {K:HK}(h:HKok K){T:Nat→Fr}{l:List Nat}{R:List Int}(hl: ∀i∈l,i<K.c.op.length)(hp:R.Perm (nats l))(hs:R.Pairwise (leT T K.P)): ∃r,R=nats r∧Rk T K.On l r∧r.length=l.length:=by
 have h0: ∀x∈R,0≤x∧x.toNat∈l:=fun x hx=>by
  have:=hp.mem_iff.1 hx;unfold nats at this;obtain⟨i,hi,rfl⟩:=List.mem_map.1 this;exact⟨by omega,by simpa using hi⟩
 refine⟨R.map Int.toNat,(nats_toNat R (fun x hx=>(h0 x hx).1)).symm,⟨?_,?_⟩,by rw [List.length_map,hp.length_eq,nats_len]⟩
 ·have:=hp.map Int.toNat
  rwa [toNat_nats]at this
 ·rw [List.pairwise_map];refine List.Pairwise.imp_of_mem (fun {a b} ha hb hle=>?_) hs;have h1:=hl _ (h0 a ha).2;have h2:=hl _ (h0 b hb).2;rcases hle with hle|⟨e1,e2⟩;·exact .inl hle
  ·refine .inr ⟨e1,?_⟩;rw [h.idx h1,h.idx h2]at e2;omega
theorem pw_place {K:HK}(h:HKok K){l:List Nat}(hl: ∀i∈l,i<K.c.op.length)(hd:l.Nodup):(nats l).Pairwise fun y x=>K.P.getD y.toNat 0≠K.P.getD x.toNat 0:=by
 unfold nats;rw [List.pairwise_map];refine List.Pairwise.imp_of_mem (fun {a b} ha hb hne=>?_) hd;simp only [Int.toNat_natCast];exact h.place_ne (hl a ha) (hl b hb) hne
theorem cmpF_le {x y:Fr}(ox:0<x.d)(oy:0<y.d):(!decide (cmpF x y≤0))=decide (y.v<x.v):=by
 rcases cmpF_spec ox oy with⟨h1,h2⟩|⟨h1,h2⟩|⟨h1,h2⟩;·rw [h1,decide_eq_false (show ¬y.v<x.v by grind)];rfl
 ·rw [h1,decide_eq_false (show ¬y.v<x.v by grind)];rfl
 ·rw [h1,decide_eq_true h2];rfl
theorem filter_len {l:List Nat}(p:Nat→Bool):(l.filter p).length≤l.length:=List.length_filter_le _ _
theorem kept_store {w:World}{kb:Nat}{n i:Nat}{xa xb:Nat→Value}{T:TypeId}(a b:Value)(h:w.heap[kb]?=some (.cells (flatF n xa xb).toArray T (0,0)))(hi:i<n):(w.setCells kb (i*2) [a,b]).heap[kb]?=some (.cells (flatF n (upd xa i a) (upd xb i b)).toArray T (0,0)):=by
 have h1:=heap_setCell_same w kb (i*2) _ _ a h;have h2:=heap_setCell_same (w.setCell ⟨kb,i*2,none⟩ a) kb (i*2+1) _ _ b h1;show((w.setCell ⟨kb,i*2,none⟩ a).setCell ⟨kb,i*2+1,none⟩ b).heap[kb]?=_;rw [h2];congr 2;apply Array.ext_getElem?;intro j;have hl: ∀(xa xb:Nat→Value),(flatF n xa xb).length=n*2:=fun xa xb=>flatF_len n xa xb;have hj:j=(j/2)*2∨j=(j/2)*2+1:=by omega
 simp only [Array.getElem?_setIfInBounds,List.getElem?_toArray,Array.size_setIfInBounds,List.size_toArray,hl];by_cases hjn:j/2<n
 ·obtain⟨g1,g2⟩:=flatF_get n xa xb (j/2) hjn;obtain⟨g3,g4⟩:=flatF_get n (upd xa i a) (upd xb i b) (j/2) hjn;rcases hj with hj|hj
  ·rw [if_neg (show ¬(i*2+1=j)by omega)];by_cases e:i=j/2
   ·rw [if_pos (show i*2=j by omega),if_pos (by omega)];rw [hj,g3,←e,upd_same]
   ·rw [if_neg (show ¬(i*2=j)by omega),hj,g1,g3,upd_ne _ _ _ _ (fun e2=>e e2.symm)]
  ·by_cases e:i=j/2
   ·rw [if_pos (show i*2+1=j by omega),if_pos (by omega)];rw [hj,g4,←e,upd_same]
   ·rw [if_neg (show ¬(i*2+1=j)by omega),if_neg (show ¬(i*2=j)by omega),hj,g2,g4,upd_ne _ _ _ _ (fun e2=>e e2.symm)]
 ·rw [if_neg (show ¬(i*2+1=j)by omega),if_neg (show ¬(i*2=j)by omega),List.getElem?_eq_none (by rw [hl];omega),List.getElem?_eq_none (by rw [hl];omega)]
structure Rnk(n:Nat)(b:List Int):Prop where
 len:b.length=n
 bd: ∀x∈b,0≤x∧x≤n
 inj: ∀i j (hi:i<b.length) (hj:j<b.length),b[i]=b[j]→0<b[i]→i=j
 gap: ∀r,r<posN b→((r+1:Nat):Int)∈b
theorem okL_all(c:CTest)(b:List Int): ∀d k,k+d=b.length→okL c (b.take k) (b.drop k)=true→ ∀j (h:j<b.length),k≤j→okX c (b.take j) b[j]=true:=by
 intro d
 induction d with
 |zero=>intro k hk _ j hj hkj;omega
 |
  succ d ih=>
  intro k hk ho j hj hkj;have hlt:k<b.length:=by omega
  rw [okL_step c b k hlt,Bool.and_eq_true]at ho;by_cases e:k=j;·subst e;exact ho.1
  ·exact ih (k+1) (by omega) ho.2 j hj (by omega)
theorem rnk_of {c:CTest}{b:List Int}(hr:ranksB c.rl=true)(hl:b.length=c.op.length)(h:fitsB c b=true):Rnk c.op.length b:=by
 unfold fitsB at h;rw [Bool.and_eq_true,Bool.and_eq_true,hr]at h;obtain⟨⟨h1,h2⟩,_⟩:=h;have h3:=okL_all c b b.length 0 (by omega) h1;have ht:topI c=(c.op.length:Int):=if_pos hr;refine⟨hl,fun x hx=>?_,fun i j hi hj he h0=>?_,fun r hr2=>?_⟩
 ·obtain⟨j,hj,rfl⟩:=List.getElem_of_mem hx;have:=h3 j hj (Nat.zero_le _);unfold okX at this;rw [Bool.and_eq_true,decide_eq_true_eq,ht]at this;exact this.1
 ·rcases Nat.lt_trichotomy i j with hlt|heq|hlt
  ·exfalso;have:=h3 j hj (Nat.zero_le _);unfold okX at this;rw [Bool.and_eq_true]at this;have h4:=this.2;rw [hr,decide_eq_true (he▸h0),decide_eq_true (show b[j]∈b.take j from by rw [←he];exact List.mem_take_iff_getElem.2 ⟨i,by omega,rfl⟩)]at h4;exact absurd h4 (by decide)
  ·exact heq
  ·exfalso;have:=h3 i hi (Nat.zero_le _);unfold okX at this;rw [Bool.and_eq_true]at this;have h4:=this.2;rw [hr,decide_eq_true h0,decide_eq_true (show b[i]∈b.take i from by rw [he];exact List.mem_take_iff_getElem.2 ⟨j,by omega,rfl⟩)]at h4;exact absurd h4 (by decide)
 ·rw [Bool.not_true,Bool.false_or]at h2;unfold gapL at h2;exact of_decide_eq_true (List.all_eq_true.1 h2 r (List.mem_range.2 hr2))
def rkOf(b:List Int):List Nat:=(List.range (posN b)).map fun r=>b.idxOf ((r+1:Nat):Int)
theorem rkOf_len(b:List Int):(rkOf b).length=posN b:=by simp [rkOf]
theorem Rnk.lt {n:Nat}{b:List Int}(h:Rnk n b): ∀i∈rkOf b,i<n:=by
 intro i hi;unfold rkOf at hi;obtain⟨r,hr,rfl⟩:=List.mem_map.1 hi;rw [←h.len];exact List.idxOf_lt_length_of_mem (h.gap r (List.mem_range.1 hr))
theorem Rnk.at_ {n:Nat}{b:List Int}(h:Rnk n b){i:Nat}(hi:i<b.length)(h0:0<b[i])(hp:b[i].toNat-1<posN b):(rkOf b)[b[i].toNat-1]?=some i:=by
 unfold rkOf;rw [List.getElem?_map,List.getElem?_range hp];simp only [Option.map_some,Option.some.injEq];have hx:=h.bd _ (List.getElem_mem hi);have e:((b[i].toNat-1+1:Nat):Int)=b[i]:=by omega
 rw [e];have hm:b[i]∈b:=List.getElem_mem hi;have hlt:=List.idxOf_lt_length_of_mem hm;have h1:=List.getElem_idxOf (x:=b[i]) (xs:=b) hlt;exact h.inj _ _ hlt hi h1 (by rw [h1];exact h0)
structure RkAt(b R:List Int)(k:Nat):Prop where
 len:R.length=b.length
 set: ∀i (hi:i<b.length),i<k→0<b[i]→R[b[i].toNat-1]?=some (i:Int)
theorem RkAt.skip {b R:List Int}{k:Nat}(h:RkAt b R k)(hk:k<b.length)(h0: ¬0<b[k]):RkAt b R (k+1):=⟨h.len,fun i hi hik hp=>by
 by_cases e:i=k;·subst e;exact absurd hp h0
 ·exact h.set i hi (by omega) hp⟩
theorem RkAt.put {n:Nat}{b R:List Int}{k:Nat}(hb:Rnk n b)(h:RkAt b R k)(hk:k<b.length)(h0:0<b[k]):RkAt b (R.set (b[k].toNat-1) (k:Int)) (k+1):=⟨by rw [List.length_set];exact h.len,fun i hi hik hp=>by
 have hx:=hb.bd _ (List.getElem_mem hk);have hl:=hb.len;by_cases e:i=k
 ·subst e;rw [List.getElem?_set_self (by rw [h.len];omega)]
 ·have hxi:=hb.bd _ (List.getElem_mem hi)
  rw [List.getElem?_set_ne (by
   intro e2;exact e (hb.inj i k hi hk (by omega) hp))]
  exact h.set i hi (by omega) hp⟩
theorem RkAt.done {n:Nat}{b R:List Int}(hb:Rnk n b)(h:RkAt b R b.length): ∀j (hj:j<(rkOf b).length),R[j]?=some (((rkOf b)[j]:Nat):Int):=by
 intro j hj;have hj':j<posN b:=by rw [←rkOf_len];exact hj
 have hm:=hb.gap j hj';obtain⟨i,hi,he⟩:=List.getElem_of_mem hm;have h1:=h.set i hi hi (by rw [he];omega);have h2:=hb.at_ hi (by rw [he];omega) (by rw [he];omega);rw [he]at h1 h2;have e:((j+1:Nat):Int).toNat-1=j:=by omega
 rw [e]at h1 h2;rw [List.getElem?_eq_getElem hj]at h2;rw [h1];injection h2 with h2;rw [h2]
theorem posN_take(b:List Int)(k:Nat)(h:k<b.length):posN (b.take (k+1))=posN (b.take k)+if 0<b[k]then 1 else 0:=by
 rw [List.take_succ_eq_append_getElem h,posN_snoc]
theorem ranked_any(n:Nat)(b:List Int)(ob:Option Addr)(cb:Nat)(w:World)(hb:Rnk n b)(hn:n≤12)(h:IsAt w ob b):
 Calls Tryz.prog 121 #[.slice ob b.length cb] w fun e w'=> ∃(g:Nat) (R:List Int),e=.returned (.slice (some ⟨g,0,none⟩) (rkOf b).length n)∧w.heap.size≤g∧w'.heap[g]?=some (.cells (ivals R).toArray 3 (0,0))∧(∀j (hj:j<(rkOf b).length),R[j]?=some (((rkOf b)[j]:Nat):Int))∧Below w.heap.size w w':=by
 obtain⟨i0,hi0,hz0,hz1,hz2⟩:=info_parts info_i64;have I0:=Lib.hid hi0;have IZ0:=Lib.hid hz0;have IZ1:=Lib.hid hz1;have IZ2:=Lib.hid hz2;have HBR:=Lib.hid hb;have HL:=Lib.hid hb.len;have HI:=Lib.hid h;have hl12:b.length≤12:=by rw [hb.len];exact hn
 clear hi0 hz0 hz1 hz2 hb h;go_enter Tryz.func121,Tryz.ntmps121;go_upto_region 2 with(refine wpList_make_row _ rfl _ _ 29 rfl 3 i0 (.int .i64 0) Tryz.underlying29 I0.out IZ0.out IZ1.out rfl .i64 .i64 b.length rfl rfl (by rw [IZ2.out];omega) (by omega) ?_);have hR0:(w.alloc (.cells (madeCells #[Value.int .i64 0] b.length) 3)).heap[w.heap.size]?=some (.cells (ivals (List.replicate b.length 0)).toArray 3 (0,0)):=by
  rw [heap_at rfl];congr 2;have:=toList_madeCells_one (.int .i64 0) b.length;rw [←Array.toArray_toList (xs:=madeCells #[Value.int .i64 0] b.length),this];simp [ivals]
 have hb0:Below w.heap.size w (w.alloc (.cells (madeCells #[Value.int .i64 0] b.length) 3)):=(Below.refl _ _).alloc (Nat.le_refl _) _;generalize hB:w.heap.size=B at*;have HB:=Lib.hid hB;refine wp_abs (fun w1=>w1.heap[B]?=some (.cells (ivals (List.replicate b.length 0)).toArray 3 (0,0))∧Below B w w1) ⟨hR0,hb0⟩ (fun w1 hw1=>?_);have H1:=Lib.hid hw1;clear hw1 hR0 hb0 hB;go_wp2_with fail;go_loopw [12,4] (fun v c wr=> ∃(k:Nat) (R:List Int),v=.int .i64 k∧c=.int .i64 (posN (b.take k))∧k≤b.length∧RkAt b R k∧wr.heap[B]?=some (.cells (ivals R).toArray 3 (0,0))∧Below B w wr) (fun v _ _=>b.length-(intOf v).toNat);case atStart=>exact⟨0,_,rfl,rfl,Nat.zero_le _,⟨by simp,fun i _ h=>by omega⟩,H1.out.1,H1.out.2⟩
 case round=>
 clear H1;obtain⟨k,R,rfl,rfl,hk,hra,hc,hbw⟩:=hrel;have RA:=Lib.hid hra;have HC:=Lib.hid hc;have BR:=Lib.hid hbw;have hRl:=hra.len;have hpos:posN (b.take k)≤k:=Nat.le_trans (posN_le _) (by rw [List.length_take];omega);clear hra hc hbw;by_cases hlt:k<b.length;case neg=>
  have dk:decide ((k:Int)<(b.length:Int))=false:=decide_eq_false (by omega);have dk2:decide (k<b.length)=false:=decide_eq_false hlt;obtain rfl:k=b.length:=by omega
  have hpl:=Lib.hid (show posN (b.take b.length)=(rkOf b).length by rw [List.take_length,rkOf_len]);have HX:=Lib.hid hRl;clear hRl;generalize posN (b.take b.length)=c at*;have e1:(c:Int)≤(b.length:Int):=by omega
  go_wp2_with fail;go_ret;exact⟨B,R,by rw [←hpl.out,←HL.out];rfl,Nat.le_of_eq HB.out,HC.out,RA.out.done HBR.out,by rw [HB.out];exact BR.out⟩
 have dk:decide ((k:Int)<(b.length:Int))=true:=decide_eq_true (by omega);have dk2:decide (k<b.length)=true:=decide_eq_true hlt;have dki:(k:Int)<(b.length:Int):=by omega
 obtain⟨a,hoa,hab,hac⟩:=(HI.out.below (HB.out.symm▸BR.out)).cells k hlt;have HX:=Lib.hid (HBR.out.bd _ (List.getElem_mem hlt));have PT:=Lib.hid (posN_take b k hlt);have HSK:=Lib.hid (fun h=>RA.out.skip hlt h);have HPU:=Lib.hid (fun h=>RA.out.put HBR.out hlt h);have hbl:=lt_of_heap HC.out;have RL:=Lib.hid hRl;subst hoa;clear hRl;generalize b[k]=x at*;generalize hpc:posN (b.take k)=c at*;have HPC:=Lib.hid hpc;clear hpc;by_cases hx:0<x;case neg=>
  have dx:decide ((0:Int)<x)=false:=decide_eq_false hx;have hn1:=Lib.hid (HSK.out hx);have hn2:=Lib.hid (show posN (b.take (k+1))=c by rw [PT.out,if_neg hx];rfl);clear hx;go_wp2_with fail;go_roundw;case rel=>exact⟨k+1,R,by go_num,by rw [hn2.out],by omega,hn1.out,HC.out,BR.out⟩
  case measure=>simp [intOf];omega
 have dx:decide ((0:Int)<x)=true:=decide_eq_true hx;have hn1:=Lib.hid (HPU.out hx);have hn2:=Lib.hid (show posN (b.take (k+1))=c+1 by rw [PT.out,if_pos hx]);obtain⟨y,hy⟩: ∃y:Nat,x=(y:Int)+1:=⟨x.toNat-1,by omega⟩;have hyl:y<b.length:=by have:=HX.out;have:=HL.out;omega
 have HY:=Lib.hid (show x.toNat-1=y by omega);subst hy;rw [HY.out]at hn1;have dy:(y:Int)<(b.length:Int):=by omega
 have hcy: ∃u,wr.cell? ⟨B,y,none⟩=some u:=⟨.int .i64 (R[y]'(by rw [RL.out];exact hyl)),by rw [cell_of_row wr B y _ _ _ HC.out];simp [ivals,RL.out,hyl]⟩;obtain⟨u,hcy⟩:=hcy;have zcy:wr.frozen? ⟨B,y,none⟩=false:=frozen_of_row wr B y _ _ HC.out;have HST:=Lib.hid (heap_setCell_same wr B y _ _ (.int .i64 (k:Int)) HC.out);clear hx;have e5:wrap64 (y:Int)=(y:Int):=IntWalk.wrap64_in _ (by omega);go_wp2_with fail;go_roundw;case rel=>
  refine⟨k+1,R.set y (k:Int),by go_num,by rw [hn2.out];go_num,by omega,hn1.out,?_,bel_only BR.out (only_cell y _) (Nat.le_refl _)⟩;rw [HST.out];congr 2;simp [ivals,List.map_set]
 case measure=>simp [intOf];omega
def nilS:Value:=.slice none 0 0
def mkK(K:HK)(a b:Value)(eb m:Nat)(pb rg rn:Nat→Nat)(rc:Nat→Array Value):HK:=⟨K.c,K.oa,K.cap,K.oO,K.cO,K.oP,K.cP,K.O,K.P,a,b,K.hb,K.wb,K.kb,K.cb,K.mb,eb,m,pb,rg,rn,rc,K.w0⟩
def blank:Vo:=⟨[],0,none,one⟩
def start(rk:List Nat):Vo:=⟨rk,0,none,one⟩
def c0(n:Nat):Nat→Bool:=fun i=>decide (i<n)
def S0(n:Nat)(Rs:List (List Nat))(k:Nat):St:=⟨fun j=>if j<k then(start (Rs.getD j [])).go (c0 n)else blank,c0 n,fun _=>false,fun _=>zero,[]⟩
theorem S0_next(n:Nat)(Rs:List (List Nat))(k:Nat):setV (setV (S0 n Rs k) k (start (Rs.getD k []))) k ((start (Rs.getD k [])).go (c0 n))=S0 n Rs (k+1):=by
 rw [setV_setV];unfold setV S0;congr 1;funext j;unfold upd;by_cases e:j=k;·subst e;simp
 ·by_cases h:j<k;·simp [e,h,show j<k+1 by omega]
  ·simp [e,h,show ¬j<k+1 by omega]
theorem HallAt.add {K:HK}{a b:Value}{eb k:Nat}{pb rg rn:Nat→Nat}{rc:Nat→Array Value}{q:Fr}{S:St}{G:HG}{w:World}(h:HallAt (mkK K a b eb k pb rg rn rc) q S G w)(hev:G.ev=nilS)(hel:S.el= [])
 {rk:List Nat} {g p r:Nat} {cs:Array Value} {x y:Value} {wt:Fr} (hg:w.heap[g]?=some (.cells cs 3 (0,0))) (hp:w.heap[p]?=some (.cells #[.slice (some ⟨g,0,none⟩) rk.length r,x,y,.int .i64 (0:Int)] 168 (0,0)))
 (hcs: ∀j (hj:j<rk.length),cs[j]?=some (.int .i64 ((rk[j]:Nat):Int))) (hr:rk.length≤r) (h12:rk.length≤12) (hf:FrV w wt x y) (hpb: ∀j,j<k→pb j≠p) (hb:K.w0.heap.size≤p):
 HallAt (mkK K a b w.heap.size (k+1) (upd pb k p) (upd rg k g) (upd rn k r) (upd rc k cs)) q (setV S k ⟨rk,0,none,wt⟩) ⟨G.pv,G.nv,G.ev,G.PL,upd G.wn k x,upd G.wd k y,G.kn,G.kd⟩ w:=by
 have hne: ∀j,j<k→j≠k:=fun j hj=>by omega
 have hlt: ∀j,j<k+1→j≠k→j<k:=fun j hj he=>by omega
 have hV: ∀j,j≠k→(setV S k ⟨rk,0,none,wt⟩).V j=S.V j:=fun j hj=>upd_ne _ _ _ _ hj;refine⟨h.bel,h.hall,h.withs,h.kepts,h.conts,h.moveds,h.cm,fun j hj=>?_,fun i j hi hj he=>?_,fun j hj=>?_,fun j hj=>?_,fun j hj=>?_,fun j hj=>?_,h.keps,h.quo,fun i hi=>?_,?_,h.apart,h.apartN,fun o=>⟨(h.pls o).1,fun j hj=>?_⟩,?_,⟨h.bases.1,h.bases.2.1,h.bases.2.2.1,h.bases.2.2.2.1,h.bases.2.2.2.2.1,h.bel.size,fun j hj=>?_⟩,h.contb,Nat.le_refl _⟩
 ·show w.heap[upd pb k p j]?=some (.cells #[.slice (some ⟨upd rg k g j,0,none⟩) ((setV S k ⟨rk,0,none,wt⟩).V j).rk.length (upd rn k r j),upd G.wn k x j,upd G.wd k y j,.int .i64 (((setV S k ⟨rk,0,none,wt⟩).V j).nx:Int)] _ _);by_cases e:j=k
  ·subst e;rw [upd_same,upd_same,upd_same,upd_same,upd_same,setV_V];exact hp
  ·rw [upd_ne _ _ _ _ e,upd_ne _ _ _ _ e,upd_ne _ _ _ _ e,upd_ne _ _ _ _ e,upd_ne _ _ _ _ e,hV j e];exact h.papers j (hlt j hj e)
 ·have he':upd pb k p i=upd pb k p j:=he;by_cases e1:i=k
  ·by_cases e2:j=k;·omega
   ·subst e1;rw [upd_same,upd_ne _ _ _ _ e2]at he';exact absurd he'.symm (hpb j (hlt j hj e2))
  ·by_cases e2:j=k
   ·subst e2;rw [upd_same,upd_ne _ _ _ _ e1]at he';exact absurd he' (hpb i (hlt i hi e1))
   ·rw [upd_ne _ _ _ _ e1,upd_ne _ _ _ _ e2]at he';exact h.pinj i j (hlt i hi e1) (hlt j hj e2) he'
 ·show w.heap[upd rg k g j]?=some (.cells (upd rc k cs j) _ _)∧upd rg k g j<w.heap.size;by_cases e:j=k;·subst e;rw [upd_same,upd_same];exact⟨hg,lt_of_heap hg⟩
  ·rw [upd_ne _ _ _ _ e,upd_ne _ _ _ _ e];have h1:=(h.ranks j (hlt j hj e)).1;exact⟨h1,lt_of_heap h1⟩
 ·show ∀i (hi:i<((setV S k ⟨rk,0,none,wt⟩).V j).rk.length),(upd rc k cs j)[i]?=some (.int .i64 ((((setV S k ⟨rk,0,none,wt⟩).V j).rk[i]:Nat):Int));by_cases e:j=k;·subst e;rw [setV_V,upd_same];exact hcs
  ·rw [hV j e,upd_ne _ _ _ _ e];exact h.rkc j (hlt j hj e)
 ·show _≤upd rn k r j∧_∧_;by_cases e:j=k;·subst e;rw [setV_V,upd_same];exact⟨hr,h12,Nat.zero_le _⟩
  ·rw [hV j e,upd_ne _ _ _ _ e];exact h.rkl j (hlt j hj e)
 ·show FrV w _ (upd G.wn k x j) (upd G.wd k y j);by_cases e:j=k;·subst e;rw [setV_V,upd_same,upd_same];exact hf
  ·rw [hV j e,upd_ne _ _ _ _ e,upd_ne _ _ _ _ e];exact h.wts j (hlt j hj e)
 ·have h1:=h.piles i hi;have e:ptrs (mkK K a b w.heap.size (k+1) (upd pb k p) (upd rg k g) (upd rn k r) (upd rc k cs)) (G.PL (some i))=ptrs (mkK K a b eb k pb rg rn rc) (G.PL (some i)):=by
   unfold ptrs;refine List.map_congr_left fun j hj=>?_;have:=((h.pls (some i)).2 j hj).1;show Value.pointer (some ⟨upd pb k p j,0,none⟩)=Value.pointer (some ⟨pb j,0,none⟩);rw [upd_ne _ _ _ _ (hne j this)]
  rw [e];exact h1
 ·have h1:=h.nones;have e:ptrs (mkK K a b w.heap.size (k+1) (upd pb k p) (upd rg k g) (upd rn k r) (upd rc k cs)) (G.PL none)=ptrs (mkK K a b eb k pb rg rn rc) (G.PL none):=by
   unfold ptrs;refine List.map_congr_left fun j hj=>?_;have:=((h.pls none).2 j hj).1;show Value.pointer (some ⟨upd pb k p j,0,none⟩)=Value.pointer (some ⟨pb j,0,none⟩);rw [upd_ne _ _ _ _ (hne j this)]
  rw [e];exact h1
 ·have h1:=(h.pls o).2 j hj;have h2:j<k:=h1.1;exact⟨by show j<k+1;omega,by rw [hV j (hne j h2)];exact h1.2⟩
 ·show GRow noLimb w w.heap.size _ 1 G.ev S.el.length (ivals (S.el.map fun i:Nat=>(i:Int)));rw [hev,hel];exact GRow.nil
 ·show K.w0.heap.size≤upd pb k p j;by_cases e:j=k;·subst e;rw [upd_same];exact hb
  ·rw [upd_ne _ _ _ _ e];exact h.bases.2.2.2.2.2.2 j (hlt j hj e)
theorem Full.add {K:HK}{a b:Value}{eb k:Nat}{pb rg rn:Nat→Nat}{rc:Nat→Array Value}{n:Nat}{Rs:List (List Nat)}{G G':HG}{K':HK}(hm:K'.m=k+1)(hF:Full (mkK K a b eb k pb rg rn rc) (S0 n Rs k) G)(hP:G'.PL=upd G.PL ((start (Rs.getD k [])).go (c0 n)).wi (G.PL ((start (Rs.getD k [])).go (c0 n)).wi++ [k])):Full K' (S0 n Rs (k+1)) G':=by
 intro j hj;rw [hm]at hj;rw [hP];by_cases e:j=k
 ·subst e;have h1:(S0 n Rs (j+1)).V j=(start (Rs.getD j [])).go (c0 n):=if_pos (by omega);rw [h1,upd_same];exact List.mem_append.2 (.inr (by simp))
 ·have hjk:j<k:=by omega
  have h1:(S0 n Rs (k+1)).V j=(S0 n Rs k).V j:=by
   show(if j<k+1 then _ else _)=(if j<k then _ else _);rw [if_pos (by omega),if_pos hjk]
  rw [h1];have h2:=hF j hjk;by_cases e2:((S0 n Rs k).V j).wi=((start (Rs.getD k [])).go (c0 n)).wi;·rw [e2,upd_same];rw [e2]at h2;exact List.mem_append.2 (.inl h2)
  ·rw [upd_ne _ _ _ _ e2];exact h2
end Go.Proofs.YtnohcdpnnhmpfaaGreatDoor.TR
namespace Go.Proofs.YtnohcdpnnhmpfaaGreatDoor.TR
open Go.RowKit ML FRP AU CT FM Go.Seg
theorem wpList_build {P:Program}{ops:Array Oper}{rest:List Oper}{o:Oper}{a:Act}{w:World}{Q:Exit→Act→World→Prop}(hgd:o.guard=none)(t:TypeId)(parts:Array (Nat×Operand))(ho:o.op=.build t parts)(l:List (Nat×Value))(hp:(parts.map fun(i,x)=>(i,a.eval x)).toList=l)(cells:Array Value)(hf:P.built t l=some cells)
 (h:wpList P ops Q rest (a.put o.dst (.agg cells)) w):wpList P ops Q (o::rest) a w:=by
 refine wpList_plain hgd fun K hK=>?_;have hr:=run_build (P:=P) w t (parts.map fun(i,x)=>(i,a.eval x)) cells (by rw [hp];exact hf);unfold Oper.wp execOp;simp only [ho,Sem.run_bind,hr,Result.andThen_ok];exact hK _ _ h
theorem built_hall(nm:ByteArray)(oa:Option Addr)(n cap:Nat)(r s m:Int)(oO:Option Addr)(lO cO:Nat)(oP:Option Addr)(lP cP:Nat)(W K C M N:Nat):Tryz.prog.built 116 [(0,.agg #[.string nm,.slice oa n cap,.int .i64 r,.int .i64 s,.int .i64 m,.slice oO lO cO,.slice oP lP cP]),(2,.slice (some ⟨W,0,none⟩) N N),(4,.slice (some ⟨K,0,none⟩) N N),(5,.slice (some ⟨C,0,none⟩) N N),(6,.slice (some ⟨M,0,none⟩) N N)]=some #[.string nm,.slice oa n cap,.int .i64 r,.int .i64 s,.int .i64 m,.slice oO lO cO,.slice oP lP cP,.slice none 0 0,.slice none 0 0,.slice (some ⟨W,0,none⟩) N N,.slice none 0 0,.slice (some ⟨K,0,none⟩) N N,.slice (some ⟨C,0,none⟩) N N,.slice (some ⟨M,0,none⟩) N N,.slice none 0 0]:=by kernel_rfl
def partsH(c:CTest)(oa:Option Addr)(cap:Nat)(oO:Option Addr)(lO cO:Nat)(oP:Option Addr)(lP cP WB KB CB MB:Nat):List (Nat×Value):= [(0,.agg #[.string ⟨c.nm.toArray⟩,.slice oa c.op.length cap,.int .i64 c.rl,.int .i64 c.se,.int .i64 c.mo,.slice oO lO cO,.slice oP lP cP]),(2,.slice (some ⟨WB,0,none⟩) c.op.length c.op.length),(4,.slice (some ⟨KB,0,none⟩) c.op.length c.op.length),(5,.slice (some ⟨CB,0,none⟩) c.op.length c.op.length),(6,.slice (some ⟨MB,0,none⟩) c.op.length c.op.length)]
theorem built_partsH(c:CTest)(oa:Option Addr)(cap:Nat)(oO:Option Addr)(lO cO:Nat)(oP:Option Addr)(lP cP WB KB CB MB:Nat):Tryz.prog.built 116 (partsH c oa cap oO lO cO oP lP cP WB KB CB MB)=some #[.string ⟨c.nm.toArray⟩,.slice oa c.op.length cap,.int .i64 c.rl,.int .i64 c.se,.int .i64 c.mo,.slice oO lO cO,.slice oP lP cP,.slice none 0 0,.slice none 0 0,.slice (some ⟨WB,0,none⟩) c.op.length c.op.length,.slice none 0 0,.slice (some ⟨KB,0,none⟩) c.op.length c.op.length,.slice (some ⟨CB,0,none⟩) c.op.length c.op.length,.slice (some ⟨MB,0,none⟩) c.op.length c.op.length,.slice none 0 0]:=built_hall _ oa _ cap _ _ _ oO _ cO oP _ cP WB KB CB MB _
theorem belA(w:World)(o:Obj):Below w.heap.size w (w.alloc o):=(Below.refl _ _).alloc (Nat.le_refl _) _
theorem info_pile:(Tryz.prog.info? 113).map (fun i=>(i.zero,i.size,i.bytes))=some (some (.slice none 0 0),1,24):=by kernel_rfl
theorem info_bool:(Tryz.prog.info? 4).map (fun i=>(i.zero,i.size,i.bytes))=some (some (.bool false),1,1):=by kernel_rfl
theorem wp_load_whole {P:Program}{o:Oper}{a:Act}{w:World}{K:Act→World→Prop}{Q:Exit→Act→World→Prop}(ty:TypeId)(y:Operand)(ho:o.op=.load ty y)(b:Nat)(cs:Array Value)(t:TypeId)(fr:Nat×Nat)(d:TypeDesc)
 (hx:a.eval y=.pointer (some ⟨b,0,none⟩)) (hb:w.heap[b]?=some (.cells cs t fr)) (hu:P.underlying ty=some d) (hd:(match d with| .struct _=>true| .array _ _=>true|_=>false)=true)
 (hi:(P.info? ty).map (·.size)=some cs.size) (h:K (a.put o.dst (.agg cs)) w):o.wp P a w K Q:=by
 have hr:=run_loadVar_row (P:=P) w b t ty cs fr d hb hu (by cases d<;>first|rfl|exact hd) hi;unfold Oper.wp execOp;simp only [ho,hx,Instr.loadAt,Instr.sureAddr,Sem.run_bind,Sem.run_pure,Result.andThen_ok,hr];exact h
def Mk(M T s n:Nat)(z:Value)(b:Bool)(v:Value)(w:World):Prop:=b=true→ ∃W,v=.slice (some ⟨W,0,none⟩) n n∧W<w.heap.size∧w.ownsRow M T s (.slice (some ⟨W,0,none⟩) n n) n (madeCells z.cells (n*s)).toList
theorem Mk.keep {M T s n:Nat}{z:Value}{b:Bool}{v:Value}{w w':World}(h:Mk M T s n z b v w)(tw:Below w.heap.size w w'):Mk M T s n z b v w':=fun hb=>by
 obtain⟨W,e,l,o⟩:=h hb;exact⟨W,e,Nat.lt_of_lt_of_le l tw.size,own_below o tw⟩
theorem Mk.ne {M T s n:Nat}{z:Value}{b:Bool}{v:Value}{w:World}(h:Mk M T s n z b v w)(hb:b=true):Value.slice (some ⟨w.heap.size,0,none⟩) n n≠v:=fun e=>by
 obtain⟨W,e2,l,_⟩:=h hb;rw [e2]at e;injection e with e;injection e with e;injection e with e;omega
noncomputable def nReg(n:Nat):Code:=((Tryz.f71.body.bind (findReg n)).getD .skip)
theorem nreg2_any(c:CTest)(oa:Option Addr)(cap:Nat)(oO:Option Addr)(lO cO:Nat)(oP:Option Addr)(lP cP B M:Nat)(w0:World)(Q:Exit→Act→World→Prop){u0 u1 u3 u4 u6 u7 u8 u9 u10 u11 u12 u13 u14 u15 u16 u17 u18 u19 u20 u21 u22 u23 u24 u25 u26 u27 u28 u29 u30 u31 u32 u33 u34 u35 u36 u37 u38 u39 u40 u41 u42 u43 u44 u45 u46 u47 u48 u49 u50 u51 u52 u53 u54 u55 u56 u57 u58 u59 u60 u61 u62 u63 u64 u65 u66 u67 u68 u69 u70 u71:Value}(hn:c.op.length≤12)(hM:w0.heap.size=M)(hB1:w0.heap[B]?=some (.cells (#[.string ⟨c.nm.toArray⟩,.slice oa c.op.length cap,.int .i64 c.rl,.int .i64 c.se,.int .i64 c.mo,.slice oO lO cO,.slice oP lP cP]) 62 (0,0)))
 (hP: ∀(c:List PanicEntry) (a:Act) (d:Option Nat) (v:Value) (w:World),Q (.panic c) (a.put d v) w→Q (.panic c) a w)
 (hQ: ∀(v14 v15 v16 v17 v18 v19 v20 v21 v22 v23 v24:Value) (Hb WB KB CB MB:Nat) (w':World),CB≠MB∧M≤Hb∧w'.heap[Hb]?=some (.cells (#[.string ⟨c.nm.toArray⟩,.slice oa c.op.length cap,.int .i64 c.rl,.int .i64 c.se,.int .i64 c.mo,.slice oO lO cO,.slice oP lP cP,.slice none 0 0,.slice none 0 0,.slice (some ⟨WB,0,none⟩) c.op.length c.op.length,.slice none 0 0,.slice (some ⟨KB,0,none⟩) c.op.length c.op.length,.slice (some ⟨CB,0,none⟩) c.op.length c.op.length,.slice (some ⟨MB,0,none⟩) c.op.length c.op.length,.slice none 0 0]) 116 (0,0))∧w'.ownsRow M 113 1 (.slice (some ⟨WB,0,none⟩) c.op.length c.op.length) c.op.length (madeCells (Value.cells (.slice none 0 0)) (c.op.length*1)).toList∧w'.ownsRow M 90 2 (.slice (some ⟨KB,0,none⟩) c.op.length c.op.length) c.op.length (madeCells (Value.cells (.agg #[.slice none 0 0,.slice none 0 0])) (c.op.length*2)).toList∧w'.ownsRow M 4 1 (.slice (some ⟨CB,0,none⟩) c.op.length c.op.length) c.op.length (madeCells (Value.cells (.bool false)) (c.op.length*1)).toList∧w'.ownsRow M 4 1 (.slice (some ⟨MB,0,none⟩) c.op.length c.op.length) c.op.length (madeCells (Value.cells (.bool false)) (c.op.length*1)).toList∧Below M w0 w'→Q .normal ⟨#[u0,u1,.pointer (some ⟨B,0,none⟩),u3,u4,.int .i64 (c.op.length:Int),.pointer (some ⟨Hb,0,none⟩),u7,u8,u9,u10,u11,u12,u13,v14,v15,v16,v17,v18,v19,v20,v21,v22,v23,v24,u25,u26,u27,u28,u29,u30,u31,u32,u33,u34,u35,u36,u37,u38,u39,u40,u41,u42,u43,u44,u45,u46,u47,u48,u49,u50,u51,u52,u53,u54,u55,u56,u57,u58,u59,u60,u61,u62,u63,u64,u65,u66,u67,u68,u69,u70,u71],[]⟩ w'):
 Code.wp Tryz.prog (nReg 2) Q ⟨#[u0,u1,.pointer (some ⟨B,0,none⟩),u3,u4,.int .i64 (c.op.length:Int),u6,u7,u8,u9,u10,u11,u12,u13,u14,u15,u16,u17,u18,u19,u20,u21,u22,u23,u24,u25,u26,u27,u28,u29,u30,u31,u32,u33,u34,u35,u36,u37,u38,u39,u40,u41,u42,u43,u44,u45,u46,u47,u48,u49,u50,u51,u52,u53,u54,u55,u56,u57,u58,u59,u60,u61,u62,u63,u64,u65,u66,u67,u68,u69,u70,u71],[]⟩ w0:=by
 have HP:=Lib.hid hP;have HQ:=Lib.hid hQ;have HB1:=Lib.hid hB1;obtain⟨p0,pI',pA',pB',pC'⟩:=info_parts info_pile;obtain⟨f0,fI',fA',fB',fC'⟩:=info_parts info_frac;obtain⟨b0,bI',bA',bB',bC'⟩:=info_parts info_bool;have pI:=Lib.hid pI';have pA:=Lib.hid pA';have pB:=Lib.hid pB';have pC:=Lib.hid pC';have fI:=Lib.hid fI';have fA:=Lib.hid fA';have fB:=Lib.hid fB';have fC:=Lib.hid fC';have bI:=Lib.hid bI';have bA:=Lib.hid bA';have bB:=Lib.hid bB';have bC:=Lib.hid bC';have hBM:B<M:=by rw [←hM];exact lt_of_heap hB1
 have hMw:M≤w0.heap.size:=Nat.le_of_eq hM.symm;clear hP hQ hM hB1 pI' pA' pB' pC' fI' fA' fB' fC' bI' bA' bB' bC'
 conv=>arg 2;whnf
 dsimp only
 refine Seg.wp_region_inv 9 (fun L a w=> ∃(v14 v15 v16 v17 v18 v19 v20 v21 v22:Value),a=⟨#[u0,u1,.pointer (some ⟨B,0,none⟩),u3,u4,.int .i64 (c.op.length:Int),u6,u7,u8,u9,u10,u11,u12,u13,v14,v15,v16,v17,v18,v19,v20,v21,v22,u23,u24,u25,u26,u27,u28,u29,u30,u31,u32,u33,u34,u35,u36,u37,u38,u39,u40,u41,u42,u43,u44,u45,u46,u47,u48,u49,u50,u51,u52,u53,u54,u55,u56,u57,u58,u59,u60,u61,u62,u63,u64,u65,u66,u67,u68,u69,u70,u71],[]⟩∧Below M w0 w∧M≤w.heap.size∧(L.getD 0 false=true→v14=.agg (#[.string ⟨c.nm.toArray⟩,.slice oa c.op.length cap,.int .i64 c.rl,.int .i64 c.se,.int .i64 c.mo,.slice oO lO cO,.slice oP lP cP]))∧
  (L.getD 1 false=true→v15=(.int .i64 (c.op.length:Int)))∧(L.getD 3 false=true→v17=(.int .i64 (c.op.length:Int)))∧(L.getD 5 false=true→v19=(.int .i64 (c.op.length:Int)))∧(L.getD 7 false=true→v21=(.int .i64 (c.op.length:Int)))∧
  Mk M 113 1 c.op.length (.slice none 0 0) (L.getD 2 false) v16 w∧Mk M 90 2 c.op.length (.agg #[.slice none 0 0,.slice none 0 0]) (L.getD 4 false) v18 w∧Mk M 4 1 c.op.length (.bool false) (L.getD 6 false) v20 w∧Mk M 4 1 c.op.length (.bool false) (L.getD 8 false) v22 w∧(L.getD 6 false=true→L.getD 8 false=true→v20≠v22)) (by kernel_rfl) (by kernel_rfl) ?_ ?_ ?_
 case refine_1=>
  exact⟨_,_,_,_,_,_,_,_,_,rfl,(Below.refl _ _).drew,hMw,fun h=>absurd h (by decide),fun h=>absurd h (by decide),fun h=>absurd h (by decide),fun h=>absurd h (by decide),fun h=>absurd h (by decide),fun h=>absurd h (by decide),fun h=>absurd h (by decide),fun h=>absurd h (by decide),fun h=>absurd h (by decide),fun h=>absurd h (by decide)⟩
 case refine_2=>
  clear hMw;intro i hi L a w hr hI;obtain⟨v14,v15,v16,v17,v18,v19,v20,v21,v22,rfl,hb,hMw,h0,h1,h3,h5,h7,h2,h4,h6,h8,h9⟩:=hI;obtain⟨hun,o,ho,hall⟩:=mem_ready.1 hr;have hs:=getD_set_self hun;have g: ∀j,j≠i→(L.setIfInBounds i true).getD j false=L.getD j false:=fun j hj=>getD_set_ne false (Ne.symm hj);have H0:=Lib.hid h0;have H1:=Lib.hid h1;have H3:=Lib.hid h3;have H5:=Lib.hid h5;have H7:=Lib.hid h7;have H2:=Lib.hid h2;have H4:=Lib.hid h4;have H6:=Lib.hid h6;have H8:=Lib.hid h8;have H9:=Lib.hid h9;have HBW:=Lib.hid hb;clear h0 h1 h3 h5 h7 h2 h4 h6 h8 h9 hb;have ho2:=(opAt_of_ready hr).symm.trans ho;injection ho2 with ho2;subst ho2;clear ho hr;rcases(show i=0∨i=1∨i=2∨i=3∨i=4∨i=5∨i=6∨i=7∨i=8 by omega)with rfl|rfl|rfl|rfl|rfl|rfl|rfl|rfl|rfl
  ·clear hall;have hX:=bel_keep HBW.out hBM HB1.out
   as_aux_lemma=>
   unfold Seg.wpUp;intro K hK;have HK:=Lib.hid hK;clear hK;rw [if_pos (by rfl)];refine wp_load_whole 62 _ rfl B (#[.string ⟨c.nm.toArray⟩,.slice oa c.op.length cap,.int .i64 c.rl,.int .i64 c.se,.int .i64 c.mo,.slice oO lO cO,.slice oP lP cP]) 62 (0,0) _ rfl hX Tryz.underlying62 rfl size_drawn ?_;refine HK.out _ _ trivial ?_;simp only [g 1 (by decide),g 2 (by decide),g 3 (by decide),g 4 (by decide),g 5 (by decide),g 6 (by decide),g 7 (by decide),g 8 (by decide)];exact⟨_,_,_,_,_,_,_,_,_,rfl,HBW.out,hMw,(fun _=>rfl),H1.out,H3.out,H5.out,H7.out,H2.out,H4.out,H6.out,H8.out,H9.out⟩
  ·clear hall
   as_aux_lemma=>
   unfold Seg.wpUp;intro K hK;have HK:=Lib.hid hK;clear hK;try simp only [Seg.wpPlan,List.map_cons,List.map_nil,Seg.opAt,List.drop_succ_cons,List.drop_zero,Array.getD_eq_getD_getElem?,List.getElem?_toArray,List.getElem?_cons_succ,List.getElem?_cons_zero,Option.getD_some]
   first|go_simp|skip
   go_wp2_with fail;refine HK.out _ _ trivial ?_;simp only [g 0 (by decide),g 2 (by decide),g 3 (by decide),g 4 (by decide),g 5 (by decide),g 6 (by decide),g 7 (by decide),g 8 (by decide)];exact⟨_,_,_,_,_,_,_,_,_,rfl,HBW.out,hMw,H0.out,(fun _=>rfl),H3.out,H5.out,H7.out,H2.out,H4.out,H6.out,H8.out,H9.out⟩
  ·have d0:L.getD 1 false=true:=hall ⟨1,.data⟩ (by simp [Seg.opAt]) rfl;clear hall;obtain rfl:=H1.out d0;obtain⟨w',hr',own,hg⟩:=run_make_full (P:=Tryz.prog) (w:=w) M 112 113 p0 (.slice none 0 0) 1 Tryz.underlying112 pI.out pA.out pB.out .i64 .i64 c.op.length (by rw [pC.out];omega) (by unfold maxLen;omega) hMw;have OWN:=Lib.hid own;clear own
   as_aux_lemma=>
   unfold Seg.wpUp;intro K hK;have HK:=Lib.hid hK;clear hK;try simp only [Seg.wpPlan,List.map_cons,List.map_nil,Seg.opAt,List.drop_succ_cons,List.drop_zero,Array.getD_eq_getD_getElem?,List.getElem?_toArray,List.getElem?_cons_succ,List.getElem?_cons_zero,Option.getD_some]
   first|go_simp|skip
   try rw [hr']
   go_wp2_with fail;have tw:Below w.heap.size w w':=(Below.refl _ _).grown hg (Nat.le_refl _) (fun _ h=>by cases h);refine HK.out _ _ trivial ?_;simp only [g 0 (by decide),g 1 (by decide),g 3 (by decide),g 4 (by decide),g 5 (by decide),g 6 (by decide),g 7 (by decide),g 8 (by decide)];exact⟨_,_,_,_,_,_,_,_,_,rfl,HBW.out.trans (tw.mono hMw),Nat.le_trans hMw tw.size,H0.out,(fun _=>rfl),H3.out,H5.out,H7.out,(fun _=>⟨w.heap.size,rfl,(OWN.out.lt _ rfl).2,OWN.out⟩),(H4.out.keep tw),(H6.out.keep tw),(H8.out.keep tw),H9.out⟩
  ·clear hall
   as_aux_lemma=>
   unfold Seg.wpUp;intro K hK;have HK:=Lib.hid hK;clear hK;try simp only [Seg.wpPlan,List.map_cons,List.map_nil,Seg.opAt,List.drop_succ_cons,List.drop_zero,Array.getD_eq_getD_getElem?,List.getElem?_toArray,List.getElem?_cons_succ,List.getElem?_cons_zero,Option.getD_some]
   first|go_simp|skip
   go_wp2_with fail;refine HK.out _ _ trivial ?_;simp only [g 0 (by decide),g 1 (by decide),g 2 (by decide),g 4 (by decide),g 5 (by decide),g 6 (by decide),g 7 (by decide),g 8 (by decide)];exact⟨_,_,_,_,_,_,_,_,_,rfl,HBW.out,hMw,H0.out,H1.out,(fun _=>rfl),H5.out,H7.out,H2.out,H4.out,H6.out,H8.out,H9.out⟩
  ·have d0:L.getD 3 false=true:=hall ⟨3,.data⟩ (by simp [Seg.opAt]) rfl;clear hall;obtain rfl:=H3.out d0;obtain⟨w',hr',own,hg⟩:=run_make_full (P:=Tryz.prog) (w:=w) M 114 90 f0 (.agg #[.slice none 0 0,.slice none 0 0]) 2 Tryz.underlying114 fI.out fA.out fB.out .i64 .i64 c.op.length (by rw [fC.out];omega) (by unfold maxLen;omega) hMw;have OWN:=Lib.hid own;clear own
   as_aux_lemma=>
   unfold Seg.wpUp;intro K hK;have HK:=Lib.hid hK;clear hK;try simp only [Seg.wpPlan,List.map_cons,List.map_nil,Seg.opAt,List.drop_succ_cons,List.drop_zero,Array.getD_eq_getD_getElem?,List.getElem?_toArray,List.getElem?_cons_succ,List.getElem?_cons_zero,Option.getD_some]
   first|go_simp|skip
   try rw [hr']
   go_wp2_with fail;have tw:Below w.heap.size w w':=(Below.refl _ _).grown hg (Nat.le_refl _) (fun _ h=>by cases h);refine HK.out _ _ trivial ?_;simp only [g 0 (by decide),g 1 (by decide),g 2 (by decide),g 3 (by decide),g 5 (by decide),g 6 (by decide),g 7 (by decide),g 8 (by decide)];exact⟨_,_,_,_,_,_,_,_,_,rfl,HBW.out.trans (tw.mono hMw),Nat.le_trans hMw tw.size,H0.out,H1.out,(fun _=>rfl),H5.out,H7.out,(H2.out.keep tw),(fun _=>⟨w.heap.size,rfl,(OWN.out.lt _ rfl).2,OWN.out⟩),(H6.out.keep tw),(H8.out.keep tw),H9.out⟩
  ·clear hall
   as_aux_lemma=>
   unfold Seg.wpUp;intro K hK;have HK:=Lib.hid hK;clear hK;try simp only [Seg.wpPlan,List.map_cons,List.map_nil,Seg.opAt,List.drop_succ_cons,List.drop_zero,Array.getD_eq_getD_getElem?,List.getElem?_toArray,List.getElem?_cons_succ,List.getElem?_cons_zero,Option.getD_some]
   first|go_simp|skip
   go_wp2_with fail;refine HK.out _ _ trivial ?_;simp only [g 0 (by decide),g 1 (by decide),g 2 (by decide),g 3 (by decide),g 4 (by decide),g 6 (by decide),g 7 (by decide),g 8 (by decide)];exact⟨_,_,_,_,_,_,_,_,_,rfl,HBW.out,hMw,H0.out,H1.out,H3.out,(fun _=>rfl),H7.out,H2.out,H4.out,H6.out,H8.out,H9.out⟩
  ·have d0:L.getD 5 false=true:=hall ⟨5,.data⟩ (by simp [Seg.opAt]) rfl;clear hall;obtain rfl:=H5.out d0;obtain⟨w',hr',own,hg⟩:=run_make_full (P:=Tryz.prog) (w:=w) M 39 4 b0 (.bool false) 1 Tryz.underlying39 bI.out bA.out bB.out .i64 .i64 c.op.length (by rw [bC.out];omega) (by unfold maxLen;omega) hMw;have OWN:=Lib.hid own;clear own
   as_aux_lemma=>
   unfold Seg.wpUp;intro K hK;have HK:=Lib.hid hK;clear hK;try simp only [Seg.wpPlan,List.map_cons,List.map_nil,Seg.opAt,List.drop_succ_cons,List.drop_zero,Array.getD_eq_getD_getElem?,List.getElem?_toArray,List.getElem?_cons_succ,List.getElem?_cons_zero,Option.getD_some]
   first|go_simp|skip
   try rw [hr']
   go_wp2_with fail;have tw:Below w.heap.size w w':=(Below.refl _ _).grown hg (Nat.le_refl _) (fun _ h=>by cases h);refine HK.out _ _ trivial ?_;simp only [g 0 (by decide),g 1 (by decide),g 2 (by decide),g 3 (by decide),g 4 (by decide),g 5 (by decide),g 7 (by decide),g 8 (by decide)];exact⟨_,_,_,_,_,_,_,_,_,rfl,HBW.out.trans (tw.mono hMw),Nat.le_trans hMw tw.size,H0.out,H1.out,H3.out,(fun _=>rfl),H7.out,(H2.out.keep tw),(H4.out.keep tw),(fun _=>⟨w.heap.size,rfl,(OWN.out.lt _ rfl).2,OWN.out⟩),(H8.out.keep tw),(fun _ h=>H8.out.ne h)⟩
  ·clear hall
   as_aux_lemma=>
   unfold Seg.wpUp;intro K hK;have HK:=Lib.hid hK;clear hK;try simp only [Seg.wpPlan,List.map_cons,List.map_nil,Seg.opAt,List.drop_succ_cons,List.drop_zero,Array.getD_eq_getD_getElem?,List.getElem?_toArray,List.getElem?_cons_succ,List.getElem?_cons_zero,Option.getD_some]
   first|go_simp|skip
   go_wp2_with fail;refine HK.out _ _ trivial ?_;simp only [g 0 (by decide),g 1 (by decide),g 2 (by decide),g 3 (by decide),g 4 (by decide),g 5 (by decide),g 6 (by decide),g 8 (by decide)];exact⟨_,_,_,_,_,_,_,_,_,rfl,HBW.out,hMw,H0.out,H1.out,H3.out,H5.out,(fun _=>rfl),H2.out,H4.out,H6.out,H8.out,H9.out⟩
  ·have d0:L.getD 7 false=true:=hall ⟨7,.data⟩ (by simp [Seg.opAt]) rfl;clear hall;obtain rfl:=H7.out d0;obtain⟨w',hr',own,hg⟩:=run_make_full (P:=Tryz.prog) (w:=w) M 39 4 b0 (.bool false) 1 Tryz.underlying39 bI.out bA.out bB.out .i64 .i64 c.op.length (by rw [bC.out];omega) (by unfold maxLen;omega) hMw;have OWN:=Lib.hid own;clear own
   as_aux_lemma=>
   unfold Seg.wpUp;intro K hK;have HK:=Lib.hid hK;clear hK;try simp only [Seg.wpPlan,List.map_cons,List.map_nil,Seg.opAt,List.drop_succ_cons,List.drop_zero,Array.getD_eq_getD_getElem?,List.getElem?_toArray,List.getElem?_cons_succ,List.getElem?_cons_zero,Option.getD_some]
   first|go_simp|skip
   try rw [hr']
   go_wp2_with fail;have tw:Below w.heap.size w w':=(Below.refl _ _).grown hg (Nat.le_refl _) (fun _ h=>by cases h);refine HK.out _ _ trivial ?_;simp only [g 0 (by decide),g 1 (by decide),g 2 (by decide),g 3 (by decide),g 4 (by decide),g 5 (by decide),g 6 (by decide),g 7 (by decide)];exact⟨_,_,_,_,_,_,_,_,_,rfl,HBW.out.trans (tw.mono hMw),Nat.le_trans hMw tw.size,H0.out,H1.out,H3.out,H5.out,(fun _=>rfl),(H2.out.keep tw),(H4.out.keep tw),(H6.out.keep tw),(fun _=>⟨w.heap.size,rfl,(OWN.out.lt _ rfl).2,OWN.out⟩),(fun h _=>(H6.out.ne h).symm)⟩
 case refine_3=>
  clear hMw HB1 pI pA pB pC fI fA fB fC bI bA bB bC;intro L a w hall hI;obtain⟨v14,v15,v16,v17,v18,v19,v20,v21,v22,rfl,hb,hMw,h0,h1,h3,h5,h7,h2,h4,h6,h8,h9⟩:=hI;obtain rfl:=h0 (hall 0 (by omega));obtain⟨WB,rfl,lW,oW⟩:=h2 (hall 2 (by omega));obtain⟨KB,rfl,lK,oK⟩:=h4 (hall 4 (by omega));obtain⟨CB,rfl,lC,oC⟩:=h6 (hall 6 (by omega));obtain⟨MB,rfl,lM,oM⟩:=h8 (hall 8 (by omega));have hcm:CB≠MB:=fun e=>h9 (hall 6 (by omega)) (hall 8 (by omega)) (by rw [e]);have OW:=Lib.hid oW;have OK:=Lib.hid oK;have OC:=Lib.hid oC;have OM:=Lib.hid oM;have HBW:=Lib.hid hb;clear h1 h3 h5 h7 h9 h2 h4 h6 h8 h0 hall oW oK oC oM hb;simp only [List.drop_succ_cons,List.drop_zero];go_wp2_with (refine wpList_build rfl 116 _ rfl (partsH c oa cap oO lO cO oP lP cP WB KB CB MB) (by unfold partsH;first|(simp;done)|(simp [Act.eval];done)) _ (built_partsH ..) ?_);exact HQ.out _ _ _ _ _ _ _ _ _ _ _ w.heap.size WB KB CB MB _ ⟨hcm,hMw,heap_at rfl,own_below OW.out (belA _ _),own_below OK.out (belA _ _),own_below OC.out (belA _ _),own_below OM.out (belA _ _),HBW.out.trans ((belA _ _).mono hMw)⟩
end Go.Proofs.YtnohcdpnnhmpfaaGreatDoor.TR
namespace Go.Proofs.YtnohcdpnnhmpfaaGreatDoor.TR
open Go.RowKit ML FRP AU CT FM
structure NewAt(K:HK)(kn kd:Nat→Value)(i:Nat)(w:World):Prop where
 bel:Below K.w0.heap.size K.w0 w
 hall:w.heap[K.hb]?=some (.cells (hallC K ⟨fun _=>nilS,nilS,nilS,fun _=> [],fun _=>nilS,fun _=>nilS,kn,kd⟩) 116 (0,0))
 withs:w.heap[K.wb]?=some (.cells (((List.range K.c.op.length).map fun _=>nilS).toArray) 113 (0,0))
 kepts:w.heap[K.kb]?=some (.cells (flatF K.c.op.length kn kd).toArray 90 (0,0))
 conts:w.heap[K.cb]?=some (.cells (boolC K.c.op.length fun j=>decide (j<i)) 4 (0,0))
 moveds:w.heap[K.mb]?=some (.cells (boolC K.c.op.length fun _=>false) 4 (0,0))
 cm:K.cb≠K.mb
 bases:K.w0.heap.size≤K.hb∧K.w0.heap.size≤K.wb∧K.w0.heap.size≤K.kb∧K.w0.heap.size≤K.cb∧K.w0.heap.size≤K.mb
 frs: ∀j,j<i→FrV w zero (kn j) (kd j)
 nol: ∀j,noLimb (kn j)=true∧noLimb (kd j)=true
theorem NewAt.below {K:HK}{kn kd:Nat→Value}{i:Nat}{w w':World}(h:NewAt K kn kd i w)(hb:Below w.heap.size w w'):NewAt K kn kd i w':=by
 have t:=Trn.of_below hb 0 K.w0.heap.size;exact⟨t.below h.bel,t.keepX h.hall (by simp),t.keepX h.withs (by simp),t.keepX h.kepts (by simp),t.keepX h.conts (by simp),t.keepX h.moveds (by simp),h.cm,h.bases,fun j hj=>t.fr (h.frs j hj),h.nol⟩
theorem flat_nol {n:Nat}{kn kd:Nat→Value}(h: ∀j,noLimb (kn j)=true∧noLimb (kd j)=true):noLimbs (flatF n kn kd).toArray:=by
 intro u hu;simp only [flatF,List.mem_flatMap,List.mem_range,List.mem_cons,List.not_mem_nil,or_false]at hu;obtain⟨i,hi,rfl|rfl⟩:=hu;·exact(h i).1
 ·exact(h i).2
theorem NewAt.next {K:HK}{kn kd:Nat→Value}{i:Nat}{w:World}{a b:Value}(h:NewAt K kn kd i w)(hi:i<K.c.op.length)(hf:FrV w zero a b):NewAt K (upd kn i a) (upd kd i b) (i+1) ((w.setCell ⟨K.cb,i,none⟩ (.bool true)).setCells K.kb (i*2) [a,b]):=by
 have t1:Trn 4 K.w0.heap.size (some K.cb) w (w.setCell ⟨K.cb,i,none⟩ (.bool true)):=Trn.of_only (only_cell i _) h.conts h.bases.2.2.2.1 (noLimb_bool _ _);have hk:=t1.keep h.kepts (by decide);have t2:Trn 90 K.w0.heap.size (some K.kb) (w.setCell ⟨K.cb,i,none⟩ (.bool true)) ((w.setCell ⟨K.cb,i,none⟩ (.bool true)).setCells K.kb (i*2) [a,b]):=Trn.of_only (only_cells K.kb [a,b] (i*2) _) hk h.bases.2.2.1 (flat_nol h.nol);refine⟨t2.below (t1.below h.bel),t2.keep (t1.keep h.hall (by decide)) (by decide),t2.keep (t1.keep h.withs (by decide)) (by decide),kept_store a b hk hi,t2.keep ?_ (by decide),t2.keep (t1.keepX h.moveds (by intro e;injection e with e;exact h.cm e)) (by decide),h.cm,h.bases,fun j hj=>?_,fun j=>?_⟩
 ·rw [heap_setCell_same w K.cb i _ _ _ h.conts,←boolC_upd _ _ _ _ hi];congr 2;unfold boolC;congr 1;refine List.map_congr_left fun j _=>?_;unfold upd;by_cases e:j=i;·subst e;simp
  ·rw [if_neg e];congr 1;rw [decide_eq_decide];omega
 ·by_cases e:j=i;·subst e;rw [upd_same,upd_same];exact t2.fr (t1.fr hf)
  ·rw [upd_ne _ _ _ _ e,upd_ne _ _ _ _ e];exact t2.fr (t1.fr (h.frs j (by omega)))
 ·by_cases e:j=i;·subst e;rw [upd_same,upd_same];exact⟨hf.noLimb.1,hf.noLimb.2.1⟩
  ·rw [upd_ne _ _ _ _ e,upd_ne _ _ _ _ e];exact h.nol j
theorem gtrans' {w w1 w2:World}{b:Nat}(h:w.grownBy w1 (some b))(k:w1.grownBy w2 (some b)):w.grownBy w2 (some b):=grown_trans h k
theorem own_full {w:World}{base:Nat}{e:TypeId}{s n g:Nat}{xs:List Value}(h:w.ownsRow base e s (.slice (some ⟨g,0,none⟩) n n) n xs):base≤g∧w.heap[g]?=some (.cells xs.toArray e (0,0)):=by
 rcases h.2 with⟨hv,_⟩|⟨g2,cap,cur,hv,hb,hg,h1,h2,h3,h4⟩;·cases hv
 ·injection hv with e1 e2 e3;injection e1 with e1;injection e1 with e1;subst e1;subst e3;refine⟨hb,?_⟩;rw [hg];congr 2;rw [←h4,List.take_of_length_le (by rw [Array.length_toList,h3];exact Nat.le_refl _)]
theorem made_same {z:Value}(m k:Nat)(h: ∀j,j<m→(madeCells (Array.replicate k z) m).toList[j]?=some z):(madeCells (Array.replicate k z) m).toList=List.replicate m z:=by
 apply List.ext_getElem?;intro j;by_cases hj:j<m;·rw [h j hj,List.getElem?_replicate,if_pos hj]
 ·rw [List.getElem?_eq_none (by rw [Array.length_toList,size_madeCells];omega),List.getElem?_eq_none (by simp;omega)]
theorem made_nil2(n:Nat):(madeCells (Value.agg #[.slice none 0 0,.slice none 0 0]).cells (n*2)).toList=flatF n (fun _=>nilS) (fun _=>nilS):=by
 have h1:(Value.agg #[.slice none 0 0,.slice none 0 0]).cells=Array.replicate 2 nilS:=by rfl
 rw [h1,made_same (z:=nilS) (n*2) 2 (fun j hj=>by
  unfold madeCells;rw [Array.getElem?_toList,Array.getElem?_map,Array.getElem?_range,if_pos hj];simp only [Option.map_some,Option.some.injEq];rcases(show j%(Array.replicate 2 nilS).size=0∨j%(Array.replicate 2 nilS).size=1 by simp;omega)with h|h<;>rw [h]<;>rfl)]
 symm;rw [List.eq_replicate_iff];refine⟨flatF_len _ _ _,fun u hu=>?_⟩;simp only [flatF,List.mem_flatMap,List.mem_range,List.mem_cons,List.not_mem_nil,or_false]at hu;obtain⟨i,hi,rfl|rfl⟩:=hu<;>rfl
theorem made_one(z:Value)(hz:z.cells= #[z])(n:Nat):(madeCells z.cells (n*1)).toList=(List.range n).map fun _=>z:=by
 rw [hz,Nat.mul_one,toList_madeCells_one];simp [List.map_const']
def quotaF(m s:Nat):Fr:=(Fr.wh m).div (Fr.wh (s+1))
def ranksOf(Bs:List (Value×List Int)):List (List Nat):=Bs.map fun p=>rkOf p.2
theorem new_hall {K:HK}{kn kd:Nat→Value}{w:World}{a b:Value}{q:Fr}{Rs:List (List Nat)}(h:NewAt K kn kd K.c.op.length w)(hq:K.qn=nilS∧K.qd=nilS)(hf:FrV w q a b):HallAt (mkK K a b K.w0.heap.size 0 (fun _=>0) (fun _=>0) (fun _=>0) fun _=> #[]) q (S0 K.c.op.length Rs 0) ⟨fun _=>nilS,nilS,nilS,fun _=> [],fun _=>nilS,fun _=>nilS,kn,kd⟩ (w.setCells K.hb 7 [a,b]):=by
 have hn:noLimbs (hallC K ⟨fun _=>nilS,nilS,nilS,fun _=> [],fun _=>nilS,fun _=>nilS,kn,kd⟩):=by
  intro u hu;simp only [hallC,List.mem_cons,List.not_mem_nil,or_false]at hu;rcases hu with rfl|rfl|rfl|rfl|rfl|rfl|rfl|rfl|rfl|rfl|rfl|rfl|rfl|rfl|rfl<;>first|rfl|(rw [hq.1];rfl)|(rw [hq.2];rfl)
 have t:Trn 116 K.w0.heap.size (some K.hb) w (w.setCells K.hb 7 [a,b]):=Trn.of_only (only_cells K.hb [a,b] 7 w) h.hall h.bases.1 hn;have h1:=heap_setCell_same w K.hb 7 _ _ a h.hall;have h2:=heap_setCell_same (w.setCell ⟨K.hb,7,none⟩ a) K.hb 8 _ _ b h1;refine⟨t.below h.bel,?_,t.keep h.withs (by decide),t.keep h.kepts (by decide),t.keep h.conts (by decide),t.keep h.moveds (by decide),h.cm,fun k hk=>absurd hk (Nat.not_lt_zero k),fun k j hk=>absurd hk (Nat.not_lt_zero k),fun k hk=>absurd hk (Nat.not_lt_zero k),fun k hk=>absurd hk (Nat.not_lt_zero k),fun k hk=>absurd hk (Nat.not_lt_zero k),fun k hk=>absurd hk (Nat.not_lt_zero k),fun i hi=>t.fr (h.frs i hi),t.fr hf,fun i hi=>GRow.nil,GRow.nil,fun i j hi hj hne=>.inl rfl,fun i hi=>.inl rfl,fun o=>⟨List.nodup_nil,fun k hk=>by cases hk⟩,GRow.nil,⟨h.bases.1,h.bases.2.1,h.bases.2.2.1,h.bases.2.2.2.1,h.bases.2.2.2.2,Nat.le_refl _,fun k hk=>absurd hk (Nat.not_lt_zero k)⟩,fun i hi=>of_decide_eq_true hi,Nat.le_trans h.bel.size t.grown.size⟩;show((w.setCell ⟨K.hb,7,none⟩ a).setCell ⟨K.hb,8,none⟩ b).heap[K.hb]?=_;rw [h2];rfl
theorem built_paper(g rl rn:Nat)(oa ob:Option Addr)(la lb ca cb:Nat):Tryz.prog.built 168 [(0,.slice (some ⟨g,0,none⟩) rl rn),(1,.agg #[.slice oa la ca,.slice ob lb cb])]=some #[.slice (some ⟨g,0,none⟩) rl rn,.slice oa la ca,.slice ob lb cb,.int .i64 0]:=by kernel_rfl
theorem newHall_any(c:CTest)(oa:Option Addr)(cap:Nat)(oO:Option Addr)(cO:Nat)(oP:Option Addr)(cP:Nat)(O P:List Int)(Bs:List (Value×List Int))(ob:Option Addr)(cb:Nat)(w:World)
 (hord:IsAt w oO O) (hplc:IsAt w oP P) (hP:PsAt w ob Bs) (hn1:1≤c.op.length) (hn12:c.op.length≤12) (hm:Bs.length≤4096) (hR: ∀p∈Bs,Rnk c.op.length p.2) (hse:1≤c.se∧c.se≤c.op.length)
 (hol:O.length=c.op.length) (hpl:P.length=c.op.length) (hmem: ∀x,x∈O↔0≤x∧x<(c.op.length:Int)) (hplc2: ∀k (hk:k<O.length),P[O[k].toNat]?=some (k:Int)) (hond:O.Nodup):
 Calls Tryz.prog 71 #[.agg #[.string ⟨c.nm.toArray⟩,.slice oa c.op.length cap,.int .i64 c.rl,.int .i64 c.se,.int .i64 c.mo,.slice oO O.length cO,.slice oP P.length cP],.slice ob Bs.length cb] w fun e w'=> ∃(K:HK) (G:HG),e=.returned (.pointer (some ⟨K.hb,0,none⟩))∧K.c=c∧K.m=Bs.length∧K.O=O∧K.w0=w∧HKok K∧HallAt K (quotaF Bs.length c.se.toNat) (S0 c.op.length (ranksOf Bs) Bs.length) G w'∧Full K (S0 c.op.length (ranksOf Bs) Bs.length) G:=by
 obtain⟨p0,pI',pA',pB',pC'⟩:=info_parts info_pile;obtain⟨f0,fI',fA',fB',fC'⟩:=info_parts info_frac;obtain⟨b0,bI',bA',bB',bC'⟩:=info_parts info_bool;have pI:=Lib.hid pI';have pA:=Lib.hid pA';have pB:=Lib.hid pB';have pC:=Lib.hid pC';have fI:=Lib.hid fI';have fA:=Lib.hid fA';have fB:=Lib.hid fB';have fC:=Lib.hid fC';have bI:=Lib.hid bI';have bA:=Lib.hid bA';have bB:=Lib.hid bB';have bC:=Lib.hid bC';have HPS:=Lib.hid hP;have HR:=Lib.hid hR;clear pI' pA' pB' pC' fI' fA' fB' fC' bI' bA' bB' bC' hP hR;have HORD:=Lib.hid hord;have HPLC:=Lib.hid hplc;have HOK:=Lib.hid (show O.length=c.op.length∧P.length=c.op.length∧(∀x,x∈O↔0≤x∧x<(c.op.length:Int))∧(∀k (hk:k<O.length),P[O[k].toNat]?=some (k:Int))∧O.Nodup from⟨hol,hpl,hmem,hplc2,hond⟩);clear hord hplc hol hpl hmem hplc2 hond;go_enter Tryz.func71,Tryz.ntmps71;go_upto_region 1 with(fail);have hbA:Below w.heap.size w (w.alloc (.cells #[.string ⟨c.nm.toArray⟩,.slice oa c.op.length cap,.int .i64 c.rl,.int .i64 c.se,.int .i64 c.mo,.slice oO O.length cO,.slice oP P.length cP] 62)):=(Below.refl _ _).alloc (Nat.le_refl _) _;have hcA:(w.alloc (.cells #[.string ⟨c.nm.toArray⟩,.slice oa c.op.length cap,.int .i64 c.rl,.int .i64 c.se,.int .i64 c.mo,.slice oO O.length cO,.slice oP P.length cP] 62)).heap[w.heap.size]?=some (.cells #[.string ⟨c.nm.toArray⟩,.slice oa c.op.length cap,.int .i64 c.rl,.int .i64 c.se,.int .i64 c.mo,.slice oO O.length cO,.slice oP P.length cP] 62 (0,0)):=heap_at rfl;generalize hB:w.heap.size=B at*;refine wp_abs (fun w1=>Below B w w1∧w1.heap[B]?=some (.cells #[.string ⟨c.nm.toArray⟩,.slice oa c.op.length cap,.int .i64 c.rl,.int .i64 c.se,.int .i64 c.mo,.slice oO O.length cO,.slice oP P.length cP] 62 (0,0))) ⟨hbA,hcA⟩ (fun w1 hw1=>?_);have HB:=Lib.hid hB;have HB1:=Lib.hid hw1.2;have B1:=Lib.hid hw1.1;have k1:w1.cell? ⟨B,1,none⟩=some (.slice oa c.op.length cap):=cell_of_row w1 B 1 _ _ _ hw1.2;have hBl:B<w1.heap.size:=lt_of_heap hw1.2;clear hbA hcA hB hw1;go_upto_region 2 with(fail);clear k1;generalize hM0:w1.heap.size=M0 at*;have HM0:=Lib.hid hM0;have hx0:Below M0 w1 w1.drew:=(Below.refl _ _).drew;have sx0:M0≤w1.drew.heap.size:=Nat.le_of_eq hM0.symm;have hBM:B<M0:=hBl;clear hM0 hBl
 as_aux_lemma=>
 refine nreg2_any c oa cap oO O.length cO oP P.length cP B M0 w1 _ hn12 HM0.out HB1.out (fun _ _ d _ _ h=>by cases d<;>exact h) ?_;rintro v14 v15 v16 v17 v18 v19 v20 v21 v22 v23 v24 Hb WB KB CB MB w2 ⟨hcm,hHb,hH,hW,hKr,hC,hMr,hb2⟩;dsimp only [Exit.then];clear hx0 sx0;obtain⟨bw,hW⟩:=own_full hW;obtain⟨bk,hKr⟩:=own_full hKr;obtain⟨bc,hC⟩:=own_full hC;obtain⟨bm,hMr⟩:=own_full hMr;rw [made_one _ rfl]at hW hC hMr;rw [made_nil2]at hKr;obtain⟨K,hK⟩: ∃K:HK,K=⟨c,oa,cap,oO,cO,oP,cP,O,P,nilS,nilS,Hb,WB,KB,CB,MB,0,0,fun _=>0,fun _=>0,fun _=>0,fun _=> #[],w⟩:=⟨_,rfl⟩;have hw0:w.heap.size≤M0:=by rw [HB.out];omega
 have hbel:Below w.heap.size w w2:=by
  rw [HB.out];exact B1.out.trans (hb2.mono (by omega))
 have HX2:=Lib.hid (show w2.heap[B]?=some (.cells #[.string ⟨c.nm.toArray⟩,.slice oa c.op.length cap,.int .i64 c.rl,.int .i64 c.se,.int .i64 c.mo,.slice oO O.length cO,.slice oP P.length cP] 62 (0,0))from(hb2.block B hBM).trans HB1.out);have NA:NewAt K (fun _=>nilS) (fun _=>nilS) 0 w2:=by
  rw [hK];exact⟨hbel,hH,hW,hKr,hC,hMr,hcm,⟨Nat.le_trans hw0 hHb,Nat.le_trans hw0 bw,Nat.le_trans hw0 bk,Nat.le_trans hw0 bc,Nat.le_trans hw0 bm⟩,fun j hj=>by omega,fun j=>⟨rfl,rfl⟩⟩
 have eb:M0≤K.hb∧M0≤K.wb∧M0≤K.kb∧M0≤K.cb∧M0≤K.mb:=by rw [hK];exact⟨hHb,bw,bk,bc,bm⟩
 have HKb:=Lib.hid eb;have HNA:=Lib.hid NA;have HQ:=Lib.hid (show K.qn=nilS∧K.qd=nilS by rw [hK];exact⟨rfl,rfl⟩);have e1:K.c=c:=by rw [hK]
 have e2:K.oa=oa:=by rw [hK]
 have e3:K.cap=cap:=by rw [hK]
 have e4:K.oO=oO:=by rw [hK]
 have e5:K.cO=cO:=by rw [hK]
 have e6:K.oP=oP:=by rw [hK]
 have e7:K.cP=cP:=by rw [hK]
 have e8:K.O=O:=by rw [hK]
 have e9:K.P=P:=by rw [hK]
 have e10:K.w0=w:=by rw [hK]
 have e11:K.hb=Hb:=by rw [hK]
 clear hcm hHb hH hW hKr hC hMr hb2 bw bk bc bm hw0 hbel NA hK eb pI pA pB pC fI fA fB fC bI bA bB bC HB1 B1;subst e1 e2 e3 e4 e5 e6 e7 e8 e9 e10 e11
 as_aux_lemma=>
 go_wp2_with fail;have HSZ:=Lib.hid size_lfr;go_loopw [26] (fun v wr=> ∃(i:Nat) (kn kd:Nat→Value),v=.int .i64 i∧i≤K.c.op.length∧NewAt K kn kd i wr∧wr.heap[B]?=some (.cells #[.string ⟨K.c.nm.toArray⟩,.slice K.oa K.c.op.length K.cap,.int .i64 K.c.rl,.int .i64 K.c.se,.int .i64 K.c.mo,.slice K.oO K.O.length K.cO,.slice K.oP K.P.length K.cP] 62 (0,0))) (fun v _=>K.c.op.length-(intOf v).toNat);case atStart=>exact⟨0,_,_,rfl,Nat.zero_le _,HNA.out,HX2.out⟩
 case round=>
 clear HNA HX2;obtain⟨i,kn,kd,rfl,hi,hna,hbx⟩:=hrel;have NA:=Lib.hid hna;have BX:=Lib.hid hbx;clear hna hbx;by_cases hlt:i<K.c.op.length;case pos=>
  have dk:decide ((i:Int)<(K.c.op.length:Int))=true:=decide_eq_true (by omega);have dk2:decide (i<K.c.op.length)=true:=decide_eq_true hlt;have dki:(i:Int)<(K.c.op.length:Int):=by omega
  obtain⟨M,hM⟩: ∃M,M=wr.heap.size:=⟨_,rfl⟩;have HM:=Lib.hid hM;have l1:K.hb<M:=by rw [hM];exact lt_of_heap NA.out.hall
  have n1:K.hb≠K.cb:=ne_of_types NA.out.hall NA.out.conts (by decide);have d12: ∀x:GrT K.cb M wr,x.w.cell? ⟨K.hb,12,none⟩=some (.slice (some ⟨K.cb,0,none⟩) K.c.op.length K.c.op.length):=fun x=>grt_cell x l1 n1 (cell_of_row _ K.hb 12 _ _ _ NA.out.hall);have d11: ∀x:GrT K.cb M wr,x.w.cell? ⟨K.hb,11,none⟩=some (.slice (some ⟨K.kb,0,none⟩) K.c.op.length K.c.op.length):=fun x=>grt_cell x l1 n1 (cell_of_row _ K.hb 11 _ _ _ NA.out.hall);clear hM;go_upto_region 6 with(fail);clear dk dk2;refine Seg.wp_region_segs (fun w'=> ∃x:GrT K.cb M wr,w'=x.w) [([0,1,2,3,4,5,6,7,8,9],10),([11],12)] [] 13 (by kernel_rfl) (by kernel_rfl) (fun _ _ d _ _ h=>by cases d<;>exact h) (grT_of HM.out (grown_only (Only.refl _ wr).drew)) ?_;simp only [List.map_cons,List.map_nil,Seg.opAt,List.drop_succ_cons,List.drop_zero,Seg.wpSegs,Array.getD_eq_getD_getElem?,List.getElem?_toArray,List.getElem?_cons_succ,List.getElem?_cons_zero,Option.getD_some];repeat (any_goals (first|go_big_quiet_step (fail)|quiet_step (fail)))
  refine wpQuiet_nil ?_;intro Kc hK;simp only [Region.wanted,if_true];go_wp2_with (go_at_call 117;refine(zero_V wr.drew).mono ?_;rintro e w3 ⟨a,b,rfl,f3,bel3⟩);have F3:=Lib.hid f3;have B3:=Lib.hid (undrew bel3);refine hK _ _ (grT_of HM.out (grown_below B3.out)) ?_;clear hK Kc f3 bel3 d12 d11;have NA3:=Lib.hid (NA.out.below B3.out);have BX3:=Lib.hid (bel_keep B3.out (lt_of_heap BX.out) BX.out);have nm:=bool_cell NA3.out.conts hlt;have zm:w3.frozen? ⟨K.cb,i,none⟩=false:=frozen_of_row w3 _ i _ _ NA3.out.conts;repeat (any_goals (first|go_big_quiet_step (fail)|quiet_step (fail)))
  refine wpQuiet_nil ?_;intro Kc hK;simp only [Region.wanted,if_true];go_wp2_with fail;refine hK _ _ (grT_of HM.out (gtrans' (grown_below B3.out) (grown_only (only_cell i _)))) ?_;clear hK Kc nm zm;have NX:=Lib.hid (NA3.out.next hlt F3.out);have t1:Trn 4 0 (some K.cb) w3 (w3.setCell ⟨K.cb,i,none⟩ (.bool true)):=Trn.of_only (only_cell i _) NA3.out.conts (Nat.zero_le _) (noLimb_bool _ _);have KB4:=Lib.hid (t1.keep NA3.out.kepts (by decide));have BX4:=Lib.hid (t1.keep BX3.out (by decide));have hne: ¬B=K.kb:=fun e=>by have:=HKb.out.2.2.1;omega
  have BX5:=Lib.hid (((only_cells K.kb [a,b] (i*2) (w3.setCell ⟨K.cb,i,none⟩ (.bool true))).block B hne).trans BX4.out);have TH:(w3.setCell ⟨K.cb,i,none⟩ (.bool true)).there K.kb (i*2) 2:=fun j hj=>by
   refine⟨?_,frozen_of_row _ _ _ _ _ KB4.out⟩;rw [cell_of_row _ K.kb (i*2+j) _ _ _ KB4.out];have:=flatF_len K.c.op.length kn kd;simp;omega
  clear t1 hne KB4 BX4;repeat (any_goals (first|go_big_quiet_step (fail)|quiet_step (fail)))
  refine wpQuiet_nil ?_;go_wp2_with (refine wpList_store_mid rfl 90 _ _ rfl K.kb (i*2) #[a,b] rfl rfl TH HSZ.out (two_one _ _ F3.out.noLimb.2.2.1 F3.out.noLimb.2.2.2) ?_);go_roundw;case rel=>exact⟨i+1,_,_,by go_num,by omega,NX.out,BX5.out⟩
  case measure=>simp [intOf];omega
 have dk:decide ((i:Int)<(K.c.op.length:Int))=false:=decide_eq_false (by omega);have dk2:decide (i<K.c.op.length)=false:=decide_eq_false hlt;obtain rfl:i=K.c.op.length:=by omega
 go_upto_region 8 with(fail);clear dk dk2 hlt hi;obtain⟨s,hs⟩: ∃s:Nat,K.c.se=s:=⟨K.c.se.toNat,by omega⟩;have hs1:1≤s∧s≤K.c.op.length:=by omega
 have hs12:s≤12:=by omega
 have HSE:=Lib.hid hs;have hbB:B<wr.heap.size:=lt_of_heap BX.out;have d3: ∀x:BelowT wr.heap.size wr,x.w.cell? ⟨B,3,none⟩=some (.int .i64 (s:Int)):=fun x=>by rw [←HSE.out];exact cell_of_row _ B 3 _ _ _ (bel_keep x.2 hbB BX.out)
 clear hs;have QW1:=Lib.hid (fun w=>whole_V Bs.length w (by omega));have QW2:=Lib.hid (fun w=>show Calls Tryz.prog 118 #[.int .u64 ((s:Int)+1)] w _ from whole_V (s+1) w (by omega));refine Seg.wp_region_segs (fun w'=> ∃x:BelowT wr.heap.size wr,w'=x.w) [([0,1,2,3,5,6,7,8,9],4),([],10),([],11)] [] 12 (by kernel_rfl) (by kernel_rfl) (fun _ _ d _ _ h=>by cases d<;>exact h) (⟨⟨_,(Below.refl _ _).drew⟩,rfl⟩) ?_;simp only [List.map_cons,List.map_nil,Seg.opAt,List.drop_succ_cons,List.drop_zero,Seg.wpSegs,Array.getD_eq_getD_getElem?,List.getElem?_toArray,List.getElem?_cons_succ,List.getElem?_cons_zero,Option.getD_some];repeat (any_goals (first|go_big_quiet_step (fail)|quiet_step (fail)))
 refine wpQuiet_nil ?_;intro Kc hK;simp only [Region.wanted,if_true];go_wp2_with (go_at_call 118;refine(QW1.out wr.drew).mono ?_;rintro e w3 ⟨a1,b1,rfl,f1,bel1⟩);have F1:=Lib.hid f1;have B3:=Lib.hid (undrew bel1);refine hK _ _ ⟨⟨w3,B3.out⟩,rfl⟩ ?_;clear hK Kc f1 bel1 QW1 d3;repeat (any_goals (first|go_big_quiet_step (fail)|quiet_step (fail)))
 refine wpQuiet_nil ?_;intro Kc hK;first|go_simp|skip
 go_wp2_with (go_at_call 118;refine(QW2.out w3).mono ?_;rintro e w4 ⟨a2,b2,rfl,f2,bel2⟩);have F2:=Lib.hid f2;have F12:=Lib.hid (F1.out.below bel2);have B4:=Lib.hid (B3.out.trans (bel2.mono B3.out.size));refine hK _ _ ⟨⟨w4,B4.out⟩,rfl⟩ ?_;clear hK Kc f2 bel2 QW2 F1 B3;repeat (any_goals (first|go_big_quiet_step (fail)|quiet_step (fail)))
 refine wpQuiet_nil ?_;intro Kc hK;first|go_simp|skip
 have QO:=Lib.hid (over_V w4 F12.out F2.out (Fr.wh_ok _) (by show 0<s+1;omega) (Sml.wh (n:=Bs.length) (by omega)).lens (Sml.wh (n:=s+1) (by omega)).lens);go_wp2_with (go_at_call 119;refine QO.out.mono ?_;rintro e w5 ⟨a3,b3,rfl,f3,bel3⟩);have F3:=Lib.hid (show FrV w5 (quotaF Bs.length s) a3 b3 from f3);have B5:=Lib.hid (B4.out.trans (bel3.mono B4.out.size));refine hK _ _ ⟨⟨w5,B5.out⟩,rfl⟩ ?_;clear hK Kc f3 bel3 QO F12 F2 B4;have NA5:=Lib.hid (NA.out.below B5.out);have TH:w5.there K.hb 7 2:=fun j hj=>by
  refine⟨?_,frozen_of_row _ _ _ _ _ NA5.out.hall⟩;rw [cell_of_row _ K.hb (7+j) _ _ _ NA5.out.hall];rcases(show j=0∨j=1 by omega)with rfl|rfl<;>rfl
 repeat (any_goals (first|go_big_quiet_step (fail)|quiet_step (fail)))
 refine wpQuiet_nil ?_;go_upto_region 9 with(refine wpList_store_mid rfl 90 _ _ rfl K.hb 7 #[a3,b3] rfl rfl TH HSZ.out (two_one _ _ F3.out.noLimb.2.2.1 F3.out.noLimb.2.2.2) ?_);show Code.wp _ _ _ _ (w5.setCells K.hb 7 [a3,b3]);have NH:=new_hall (Rs:=ranksOf Bs) NA5.out HQ.out F3.out;refine wp_abs (fun w6=>HallAt (mkK K a3 b3 K.w0.heap.size 0 (fun _=>0) (fun _=>0) (fun _=>0) fun _=> #[]) (quotaF Bs.length s) (S0 K.c.op.length (ranksOf Bs) 0) ⟨fun _=>nilS,nilS,nilS,fun _=> [],fun _=>nilS,fun _=>nilS,kn,kd⟩ w6) NH (fun w6 hw6=>?_);have H6:=Lib.hid hw6;clear hw6 NH TH NA NA5 BX F3 B5 HQ HKb HSZ hbB hBM HM0
 as_aux_lemma=>
 go_wp2_with fail;go_loopw [59] (fun v wr=> ∃(k eb:Nat) (pb rg rn:Nat→Nat) (rc:Nat→Array Value) (G:HG),v=.int .i64 k∧k≤Bs.length∧HallAt (mkK K a3 b3 eb k pb rg rn rc) (quotaF Bs.length s) (S0 K.c.op.length (ranksOf Bs) k) G wr∧Full (mkK K a3 b3 eb k pb rg rn rc) (S0 K.c.op.length (ranksOf Bs) k) G∧G.ev=nilS) (fun v _=>Bs.length-(intOf v).toNat);case atStart=>exact⟨0,_,_,_,_,_,_,rfl,Nat.zero_le _,H6.out,fun k hk=>absurd hk (Nat.not_lt_zero k),rfl⟩
 case round=>
 clear H6;obtain⟨k,eb,pb,rg,rn,rc,G,rfl,hk,hh,hfu,hev⟩:=hrel;have HA:=Lib.hid hh;have HFU:=Lib.hid hfu;have HEV:=Lib.hid hev;clear hh hfu hev;by_cases hlt:k<Bs.length;case neg=>
  have dk:decide ((k:Int)<(Bs.length:Int))=false:=decide_eq_false (by omega);have dk2:decide (k<Bs.length)=false:=decide_eq_false hlt;obtain rfl:k=Bs.length:=by omega
  go_wp2_with fail;go_ret;obtain⟨h1,h2,h3,h4,h5⟩:=HOK.out;have e:K.c.se.toNat=s:=by have:=HSE.out;omega
  rw [e];exact⟨mkK K a3 b3 eb Bs.length pb rg rn rc,G,rfl,rfl,rfl,rfl,rfl,⟨HORD.out,HPLC.out,h1,h2,h3,h4,h5,hn1,hn12,hm⟩,HA.out,HFU.out⟩
 have dk:decide ((k:Int)<(Bs.length:Int))=true:=decide_eq_true (by omega);have dk2:decide (k<Bs.length)=true:=decide_eq_true hlt;have dki:(k:Int)<(Bs.length:Int):=by omega
 have PW:=HPS.out.below HA.out.bel;obtain⟨a,hoa,hab,hac⟩:=PW.cells k hlt;obtain⟨ob',cb',hrow,hI,_⟩:=PW.rows _ (List.getElem_mem hlt);have HRB:=Lib.hid (HR.out _ (List.getElem_mem hlt))
 have HRS:=Lib.hid (show(ranksOf Bs).getD k []=rkOf Bs[k].2 by
  unfold ranksOf;rw [List.getD_eq_getElem?_getD,List.getElem?_map,List.getElem?_eq_getElem hlt];rfl)
 have QR:=Lib.hid (ranked_any K.c.op.length Bs[k].2 ob' cb' wr HRB.out hn12 hI);rw [hrow]at hac;have HN:=Lib.hid (S0_next K.c.op.length (ranksOf Bs) k);have QW1:=Lib.hid (fun w=>whole_V 1 w (by decide));have hkn:=Lib.hid (show ∀o,k∉G.PL o from fun o ho=>by have:=((HA.out.pls o).2 k ho).1;exact Nat.lt_irrefl k this);have HPB:=Lib.hid (show ∀j,j<k→pb j<wr.heap.size from fun j hj=>lt_of_heap (HA.out.papers j hj));subst hoa;clear PW hrow hI hab;rw [HRS.out]at HN;generalize Bs[k].2=b at*;have hrl:(rkOf b).length≤K.c.op.length:=by
  rw [rkOf_len];exact Nat.le_trans (posN_le b) (Nat.le_of_eq HRB.out.len)
 have HRL:=Lib.hid hrl;go_upto_region 12 with(fail);clear dk dk2 hac;go_wp2_with (first
  |(go_at_call 121;refine QR.out.mono ?_;rintro e w3 ⟨g,R,rfl,hgl,hgc,hcs,bel3⟩;have HG3:=Lib.hid hgc;have HCS:=Lib.hid hcs;have B3:=Lib.hid bel3;clear hgl hgc hcs bel3)
  |(
   go_at_call 118;refine(QW1.out w3).mono ?_;rintro e w4 ⟨wa,wb,rfl,f4,bel4⟩;obtain⟨o1,q1,o2,q2,rfl,rfl,lf⟩:=f4;have hba:Below w4.heap.size w4 (w4.alloc (.cells #[.slice (some ⟨g,0,none⟩) (rkOf b).length K.c.op.length,.slice o1 (NL.dig (Fr.wh 1).n).length q1,.slice o2 (NL.dig (Fr.wh 1).d).length q2,.int .i64 0] 168)):=(Below.refl _ _).alloc (Nat.le_refl _) _;have B4:=Lib.hid (B3.out.trans (bel4.mono B3.out.size));have B5:=Lib.hid (B4.out.trans (hba.mono B4.out.size));have HX:=Lib.hid ((HA.out.below B5.out).add (p:=w4.heap.size) (wt:=one) HEV.out rfl (bel_keep (bel4.trans (hba.mono bel4.size)) (lt_of_heap HG3.out) HG3.out) (heap_at rfl) (fun j hj=>by rw [List.getElem?_toArray];unfold ivals;rw [List.getElem?_map,HCS.out j hj];rfl) HRL.out (Nat.le_trans HRL.out hn12) ⟨o1,q1,o2,q2,rfl,rfl,lf.below hba⟩ (fun j hj=>by have:=HPB.out j hj;have:=B4.out.size;omega) (Nat.le_trans HA.out.bel.size B4.out.size));obtain⟨h1,h2,h3,h4,h5⟩:=HOK.out;have q0:=(lay_any _ _ _ _ _ k HX.out ⟨HORD.out,HPLC.out,h1,h2,h3,h4,h5,hn1,hn12,(by show k+1≤4096;omega)⟩ (Nat.lt_succ_self k) hkn.out (by rw [setV_V];exact HRB.out.lt));have epb: ∀eb rg rn rc,(mkK K a3 b3 eb (k+1) (upd pb k w4.heap.size) rg rn rc).pb k=w4.heap.size:=fun _ _ _ _=>upd_same _ _ _;have ehb: ∀eb pb rg rn rc,(mkK K a3 b3 eb (k+1) pb rg rn rc).hb=K.hb:=fun _ _ _ _ _=>rfl;rw [epb,ehb]at q0;have QL:=Lib.hid q0;clear q0 epb ehb;clear lf bel4 hba h1 h2 h3 h4 h5)
  |(go_at_call 120;refine QL.out.mono ?_;rintro e w6 ⟨rfl,G6,h6,s6,p6,ev6⟩)
  |(with_reducible refine wpList_build rfl 168 _ rfl [(0,.slice (some ⟨g,0,none⟩) (rkOf b).length K.c.op.length),(1,.agg #[.slice o1 (NL.dig (Fr.wh 1).n).length q1,.slice o2 (NL.dig (Fr.wh 1).d).length q2])] (by first|(simp;done)|(simp [Act.eval];done)) _ (built_paper g _ _ o1 o2 _ _ q1 q2) ?_))
 rw [setV_V]at h6 p6;have h6':HallAt _ (quotaF Bs.length s) (setV (setV (S0 K.c.op.length (ranksOf Bs) k) k (start (rkOf b))) k ((start (rkOf b)).go (c0 K.c.op.length))) G6 w6:=h6;rw [HN.out]at h6';have p6':G6.PL=upd G.PL ((start (rkOf b)).go (c0 K.c.op.length)).wi (G.PL ((start (rkOf b)).go (c0 K.c.op.length)).wi++ [k]):=p6;rw [←HRS.out]at p6';go_roundw;case rel=>exact⟨k+1,_,_,_,_,_,G6,by go_num,by omega,h6',Full.add rfl HFU.out p6',ev6.trans HEV.out⟩
 case measure=>simp [intOf];omega
end Go.Proofs.YtnohcdpnnhmpfaaGreatDoor.TR
namespace Go.Proofs.YtnohcdpnnhmpfaaGreatDoor.TR
open FRP
theorem quota_v(m s:Nat):(quotaF m s).ok∧(quotaF m s).v* ((s:Rat)+1)=(m:Rat):=by
 have h0:0<(Fr.wh (s+1)).n:=Nat.succ_pos s;refine⟨Fr.div_ok (Fr.wh_ok m) h0,?_⟩;unfold quotaF;rw [Fr.v_div (Fr.wh_ok m) (Fr.wh_ok _) h0,Fr.v_wh,Fr.v_wh];have e:((s+1:Nat):Rat)=(s:Rat)+1:=Rat.natCast_add _ _;rw [e];have hne:(s:Rat)+1≠0:=by
  have:(0:Rat)≤(s:Rat):=Rat.natCast_nonneg;grind
 exact Rat.div_mul_cancel hne
theorem len_of_mem {n:Nat}{O:List Nat}(hd:O.Nodup)(hm: ∀i,i∈O↔i<n):O.length=n:=by
 have hp:O.Perm (List.range n):=(List.perm_ext_iff_of_nodup hd List.nodup_range).2 fun i=>by rw [hm,List.mem_range]
 rw [hp.length_eq,List.length_range]
theorem inv_start {n s:Nat}{O:List Nat}{Rs:List (List Nat)}(hs:s≤n)(hn:n≤12)(hd:O.Nodup)(hO: ∀i,i∈O↔i<n)(hR: ∀rk∈Rs,∀i∈rk,i<n):Inv n s Rs.length (quotaF Rs.length s) O (S0 n Rs Rs.length):=by
 obtain⟨qok,qv⟩:=quota_v Rs.length s;have hV: ∀k,k<Rs.length→(S0 n Rs Rs.length).V k=(start (Rs.getD k [])).go (c0 n):=fun k hk=>if_pos hk;have hRk: ∀k,k<Rs.length→ ∀i∈Rs.getD k [],i<n:=fun k hk i hi=>by
  rw [List.getD_eq_getElem?_getD,List.getElem?_eq_getElem hk]at hi;exact hR _ (List.getElem_mem hk) i hi
 have hst:(S0 n Rs Rs.length).still O=O:=List.filter_eq_self.2 fun i hi=>decide_eq_true ((hO i).1 hi);refine⟨qok,qv,hd,hO,fun k hk i hi=>?_,fun k hk=>?_,fun k hk i hi=>?_,List.nodup_nil,fun i hi=>(by cases hi),fun i hi=>(by cases hi),fun i _=>rfl,?_,.inl (fun i hi=>by cases hi),?_,Nat.zero_le _,?_,fun k hk=>?_⟩;·rw [hV k hk]at hi;exact hRk k hk i hi
 ·rw [hV k hk];exact one_ok
 ·rw [hV k hk]at hi;obtain⟨h1,h2⟩:=go_wi hi;have h3:=hRk k hk i h2;exact⟨h3,.inl (decide_eq_true h3)⟩
 ·
   have e1:rs (List.range n) (fun i=>((S0 n Rs Rs.length).kept i).v)=0:=by
    exact(rs_congr _ _ (fun _=>(0:Rat)) (fun i _=>v_zero)).trans (rs_zero _)
   have e2:rs (List.range Rs.length) (fun k=>((S0 n Rs Rs.length).V k).wt.v)=(Rs.length:Rat):=by
    refine(rs_congr _ _ (fun _=>(1:Rat)) (fun k hk=>by rw [hV k (List.mem_range.1 hk)];exact v_one)).trans ?_;rw [rs_const,List.length_range];grind
   rw [e1,e2];grind
 ·rw [hst,len_of_mem hd hO];show s≤n+0;omega
 ·refine⟨s+1,Nat.succ_pos s,?_,⟨Rs.length,?_⟩,fun k hk=>⟨s+1,?_⟩⟩
  ·show s+1≤2^(16*2^0-12);have:(2:Nat)^(16*2^0-12)=16:=by decide
   omega
  ·rw [Rat.natCast_add];exact qv
  ·rw [hV k hk];show one.v*_=_;rw [v_one];grind
 ·show(if k<Rs.length then _ else blank).wi=none;rw [if_neg (by omega)];rfl
theorem Runs.inv {n s m:Nat}{q:Fr}{O:List Nat}{S0 S:St}{R:List Rd}(h0:Inv n s m q O S0)(hm:m≤4096)(h:Runs n m s q O S0 R S):Inv n s m q O S∧R.length+S.mu O≤S0.mu O:=by
 induction h with
 |nil=>exact⟨h0,by simp⟩
 |
  snoc h hd ih=>
  obtain⟨h1,h2⟩:=ih.1.next hm hd;exact⟨h1,by rw [List.length_append];simp;have:=ih.2;omega⟩
end Go.Proofs.YtnohcdpnnhmpfaaGreatDoor.TR
