/-
  Chapter 13, CountAlike: the ballots that count, totals, who has most: renamed. No program in sight but the types.
  Chapter 13, CountAlike: pairs, ways, who is beaten by nobody: renamed. No program in sight but the types.
  Chapter 13, CountAlike: ranked ballots renamed: the transferable vote. No program in sight but the types.
  Chapter 13, CountAlike: the same are elected, whatever the order of ballots and options. No program in sight but the types.
-/
import Derived.Test.YtnohcdpnnhmpfaaGreatDoorK34
set_option linter.unusedVariables false
set_option linter.unusedSimpArgs false
namespace Go.Proofs.YtnohcdpnnhmpfaaGreatDoor.TR
open Go.RowKit ML FRP AU CT FM
theorem isum_perm {l l':List Int}(h:l.Perm l'):l.sum=l'.sum:=by
 induction h with
 |nil=>rfl
 |cons x _ ih=>rw [List.sum_cons,List.sum_cons,ih]
 |swap x y l=>rw [List.sum_cons,List.sum_cons,List.sum_cons,List.sum_cons];omega
 |trans _ _ h1 h2=>exact h1.trans h2
structure Oth(c:CTest)(N:List Int)(P P':List (Value×List Int)):Prop where
 nm:Names c.op.length N
 all:allN c.op.length P
 perm:(P'.map Prod.snd).Perm (P.map fun p=>renB N p.2)
theorem Oth.len {c:CTest}{N:List Int}{P P':List (Value×List Int)}(h:Oth c N P P'):P'.length=P.length:=by
 have:=h.perm.length_eq;simpa using this
theorem keepB_ren {c:CTest}{N:List Int}(h:Names c.op.length N){b:List Int}(hb:b.length=c.op.length):keepB ((ctN c N).rule (ctN c N).rl) (renB N b)=keepB (c.rule c.rl) b:=by
 have hp:=renB_perm h hb;unfold keepB;rw [fitsB_perm (c:=(ctN c N).rule (ctN c N).rl) (d:=c.rule c.rl) rfl rfl (ctN_len h) hp,somePos_perm hp]
theorem Oth.kept {c:CTest}{N:List Int}{P P':List (Value×List Int)}(h:Oth c N P P'):Oth c N (kept c P) (kept (ctN c N) P'):=by
 refine⟨h.nm,allN_filter _ h.all,?_⟩;have e1:(TR.kept (ctN c N) P').map Prod.snd=(P'.map Prod.snd).filter (keepB ((ctN c N).rule (ctN c N).rl)):=by
  unfold TR.kept;rw [List.filter_map];rfl
 rw [e1];refine(h.perm.filter _).trans (List.Perm.of_eq ?_);rw [List.filter_map];congr 1;unfold TR.kept;refine List.filter_congr fun p hp=>?_;exact keepB_ren h.nm (h.all p hp)
theorem Oth.klen {c:CTest}{N:List Int}{P P':List (Value×List Int)}(h:Oth c N P P'):(TR.kept (ctN c N) P').length=(TR.kept c P).length:=h.kept.len
theorem sumJ_snd(P:List (Value×List Int))(j:Nat):sumJ P j=((P.map Prod.snd).map fun b=>b.getD j 0).sum:=by
 unfold sumJ;rw [List.map_map];rfl
theorem Oth.tot {c:CTest}{N:List Int}{P P':List (Value×List Int)}(h:Oth c N P P'){k:Nat}(hk:k<c.op.length):(totL c.op.length P').getD k 0=(totL c.op.length P).getD (nmF N k) 0:=by
 rw [totL_get _ _ _ hk,totL_get _ _ _ (h.nm.nm.1.lt k hk),sumJ_snd,isum_perm (h.perm.map _),List.map_map];congr 2;refine List.map_congr_left fun p hp=>?_;exact renB_get h.nm p.2 hk
def ren(N:List Int)(L:List Int):List Int:=L.map fun x=>((nmF N x.toNat:Nat):Int)
theorem Best.ren {c:CTest}{N:List Int}(h:Names c.op.length N){lots:Bytes}(hd:Apt c lots){T T':List Int}(ht: ∀k,k<c.op.length→T'.getD k 0=T.getD (nmF N k) 0){S:List Int}(hs:Best c.op.length T' (lotF (ctN c N) lots) S):Best c.op.length T (lotF c lots) (TR.ren N S):=by
 unfold TR.ren;constructor
 ·refine(hs.perm.map _).trans ?_;rw [iota_names h];exact h.perm
 ·rw [List.pairwise_map];refine hs.srt.imp_of_mem (fun {a b} ha hb hab=>?_);have h1:=(mem_iota _ _).1 (hs.perm.mem_iff.1 ha);have h2:=(mem_iota _ _).1 (hs.perm.mem_iff.1 hb);obtain⟨i,rfl⟩: ∃i:Nat,a=i:=⟨a.toNat,by omega⟩;obtain⟨j,rfl⟩: ∃j:Nat,b=j:=⟨b.toNat,by omega⟩;have hi:i<c.op.length:=by omega
  have hj:j<c.op.length:=by omega
  unfold bestL ltL at hab ⊢;simp only [Int.toNat_natCast]at hab ⊢;rw [ht i hi,ht j hj,lotN_ren h lots hi,lotN_ren h lots hj]at hab;rcases hab with hab|⟨e,hab|⟨e2,hl⟩⟩;·exact .inl hab
  ·exact .inr ⟨e,.inl hab⟩
  ·exact absurd e2 (hd _ _ (h.nm.1.lt i hi) (h.nm.1.lt j hj) (fun e3=>by have:=h.nm.1.inj i j hi hj e3;omega))
theorem negB_iff {n:Nat}{T:List Int}(h:T.length=n):negB T=true↔ ∃j,j<n∧T.getD j 0<0:=by
 unfold negB;rw [List.any_eq_true];constructor
 ·rintro⟨x,hx,h0⟩;obtain⟨j,hj,rfl⟩:=List.mem_iff_getElem.1 hx;exact⟨j,by omega,by rw [List.getD_eq_getElem?_getD,List.getElem?_eq_getElem hj];exact of_decide_eq_true h0⟩
 ·rintro⟨j,hj,h0⟩;have hj':j<T.length:=by omega
  rw [List.getD_eq_getElem?_getD,List.getElem?_eq_getElem hj']at h0;exact⟨T[j],List.getElem_mem hj',decide_eq_true h0⟩
theorem negB_ren {n:Nat}{N T T':List Int}(h:Names n N)(hl:T.length=n)(hl':T'.length=n)(ht: ∀k,k<n→T'.getD k 0=T.getD (nmF N k) 0):negB T'=negB T:=by
 rw [Bool.eq_iff_iff,negB_iff hl,negB_iff hl'];constructor
 ·rintro⟨j,hj,h0⟩;exact⟨_,h.nm.1.lt j hj,by rw [←ht j hj];exact h0⟩
 ·rintro⟨j,hj,h0⟩;obtain⟨i,hi,rfl⟩:=h.nm.1.sur j hj;exact⟨i,hi,by rw [ht i hi];exact h0⟩
theorem wrongC_ren {c:CTest}{N:List Int}(h:Names c.op.length N):wrongC (ctN c N)=wrongC c:=by
 unfold wrongC;rw [ctN_len h];rfl
theorem cntP_snd(P:List (Value×List Int))(i j:Nat):cntP P i j=((P.map Prod.snd).filter fun b=>aheadI b i j).length:=by
 unfold cntP;rw [List.filter_map,List.length_map];rfl
theorem Oth.pair {c:CTest}{N:List Int}{P P':List (Value×List Int)}(h:Oth c N P P'){i j:Nat}(hi:i<c.op.length)(hj:j<c.op.length):pairM P' i j=pairM P (nmF N i) (nmF N j):=by
 unfold pairM;rw [cntP_snd,(h.perm.filter _).length_eq,List.filter_map,List.length_map];unfold cntP;congr 2;refine List.filter_congr fun p hp=>?_;show aheadI (renB N p.2) i j=aheadI p.2 (nmF N i) (nmF N j);unfold aheadI;rw [renB_get h.nm p.2 hi,renB_get h.nm p.2 hj]
theorem Way.ren {n:Nat}{e e':Mx}{f:Nat→Nat}(hf: ∀i,i<n→f i<n)(he: ∀i j,i<n→j<n→e' i j=e (f i) (f j)){s:Int}{i j:Nat}(h:CT.Way e' n s i j):CT.Way e n s (f i) (f j):=by
 induction h with
 |one h1 h2 h3=>exact .one (hf _ h1) (hf _ h2) (by rw [←he _ _ h1 h2];exact h3)
 |more h1 h2 h3 ih=>exact .more ih (hf _ h2) (by rw [←he _ _ h1.lt.2 h2];exact h3)
theorem Nm.inv {n:Nat}{f:Nat→Nat}(h:Nm n f): ∃g:Nat→Nat,(∀k,k<n→g k<n∧f (g k)=k)∧ ∀i,i<n→g (f i)=i:=by
 have key: ∀k,∃i,k<n→i<n∧f i=k:=fun k=>by
  by_cases hk:k<n
  ·obtain⟨i,hi,he⟩:=h.sur k hk;exact⟨i,fun _=>⟨hi,he⟩⟩
  ·exact⟨0,fun h=>absurd h hk⟩
 obtain⟨g,hg⟩:=Classical.axiomOfChoice key;exact⟨g,hg,fun i hi=>h.inj _ _ (hg (f i) (h.lt i hi)).1 hi (hg (f i) (h.lt i hi)).2⟩
theorem Strong.ren {n:Nat}{e e' W:Mx}{f:Nat→Nat}(hf:Nm n f)(he: ∀i j,i<n→j<n→e' i j=e (f i) (f j))(h:Strong e n W):Strong e' n fun i j=>W (f i) (f j):=by
 obtain⟨g,hg1,hg2⟩:=hf.inv;refine⟨fun i hi=>h.zero _ (hf.lt i hi),fun i j hi hj=>h.nn _ _ (hf.lt i hi) (hf.lt j hj),fun i j hi hj hij s hs=>?_⟩;rw [h.is (f i) (f j) (hf.lt i hi) (hf.lt j hj) (fun e2=>hij (hf.inj i j hi hj e2)) s hs];constructor
 ·intro hw;have:=Way.ren (e:=e') (e':=e) (f:=g) (fun k hk=>(hg1 k hk).1) (fun a b ha hb=>by rw [he _ _ (hg1 a ha).1 (hg1 b hb).1,(hg1 a ha).2,(hg1 b hb).2]) hw
  rwa [hg2 i hi,hg2 j hj]at this
 ·exact fun hw=>Way.ren hf.lt he hw
theorem Top.ren {n:Nat}{W W':Mx}{f:Nat→Nat}(hf:Nm n f)(hW: ∀i j,i<n→j<n→W' i j=W (f i) (f j)){i:Nat}(hi:i<n):Top n W' i↔Top n W (f i):=by
 unfold Top;constructor
 ·rintro⟨_,h⟩;refine⟨hf.lt i hi,fun j hj=>?_⟩;obtain⟨k,hk,rfl⟩:=hf.sur j hj;rw [←hW i k hi hk,←hW k i hk hi];exact h k hk
 ·rintro⟨_,h⟩;refine⟨hi,fun j hj=>?_⟩;rw [hW i j hi hj,hW j i hj hi];exact h _ (hf.lt j hj)
theorem FirstTop.ren {n:Nat}{N:List Int}(h:Names n N){W W':Mx}(hW: ∀i j,i<n→j<n→W' i j=W (nmF N i) (nmF N j)){O:List Int}(hO: ∀x∈O,0≤x∧x<(n:Int)){i:Nat}(hF:FirstTop n W' O i):FirstTop n W (TR.ren N O) (nmF N i):=by
 obtain⟨ht,k,hk,he,hb⟩:=hF;refine⟨(Top.ren h.nm.1 hW ht.1).1 ht,k,by unfold TR.ren;rw [List.length_map];exact hk,?_,fun x hx=>?_⟩
 ·unfold TR.ren;rw [←List.map_take,he,List.map_append,←List.map_take];simp
 ·unfold TR.ren at hx;rw [←List.map_take]at hx;obtain⟨y,hy,rfl⟩:=List.mem_map.1 hx;have h1:=hO y (List.mem_of_mem_take hy);rw [Int.toNat_natCast];intro h2;exact hb y hy ((Top.ren h.nm.1 hW (by omega)).2 h2)
theorem rkOf_ren {n:Nat}{N b:List Int}(h:Names n N)(hb:Rnk n b):(rkOf (renB N b)).map (nmF N)=rkOf b:=by
 have hp:=renB_perm h hb.len;unfold rkOf;rw [posN_perm hp,List.map_map];refine List.map_congr_left fun r hr=>?_;have hr':=List.mem_range.1 hr;have hm:=hb.gap r hr';have hm':((r+1:Nat):Int)∈renB N b:=hp.mem_iff.2 hm;have h1:(renB N b).idxOf ((r+1:Nat):Int)<(renB N b).length:=List.idxOf_lt_length_of_mem hm';have h2:b.idxOf ((r+1:Nat):Int)<b.length:=List.idxOf_lt_length_of_mem hm;have hl:(renB N b).length=n:=by unfold renB;rw [List.length_map];exact h.len
 have e1:=List.getElem_idxOf h1;have e2:=List.getElem_idxOf h2;have hk:(renB N b).idxOf ((r+1:Nat):Int)<n:=by omega
 have e3:=renB_get h b hk;rw [List.getD_eq_getElem?_getD,List.getElem?_eq_getElem h1,Option.getD_some,e1]at e3;have hf:nmF N ((renB N b).idxOf ((r+1:Nat):Int))<b.length:=by rw [hb.len];exact h.nm.1.lt _ hk
 rw [List.getD_eq_getElem?_getD,List.getElem?_eq_getElem hf,Option.getD_some]at e3;have h0:0<b[nmF N ((renB N b).idxOf ((r+1:Nat):Int))]:=by rw [←e3];omega
 exact hb.inj _ _ hf h2 (e3.symm.trans e2.symm) h0
theorem votes_S0(n:Nat)(Rs:List (List Nat)):votes Rs.length (S0 n Rs Rs.length)=Rs.map fun rk=>(start rk).go (c0 n):=by
 unfold votes;apply List.ext_getElem?;intro k;rw [List.getElem?_map,List.getElem?_map];by_cases hk:k<Rs.length
 ·rw [List.getElem?_range hk,List.getElem?_eq_getElem hk];show some ((S0 n Rs Rs.length).V k)=some _;unfold S0;simp [hk]
 ·rw [List.getElem?_eq_none (by rw [List.length_range];omega),List.getElem?_eq_none (by omega)];rfl
theorem Oth.rnk {c:CTest}{N:List Int}{P P':List (Value×List Int)}(h:Oth c N P P')(hr:ranksB c.rl=true):(∀p∈TR.kept c P,Rnk c.op.length p.2)∧ ∀p∈TR.kept (ctN c N) P',Rnk c.op.length p.2:=by
 have h1: ∀p∈TR.kept c P,Rnk c.op.length p.2:=fun p hp=>by
  unfold TR.kept at hp;obtain⟨h1,h2⟩:=List.mem_filter.1 hp;have h4:fitsB (c.rule c.rl) p.2=true:=by
   have h5:(fitsB (c.rule c.rl) p.2&&somePos p.2)=true:=h2;rw [Bool.and_eq_true]at h5;exact h5.1
  exact rnk_of (c:=c.rule c.rl) hr (h.all p h1) h4
 refine⟨h1,fun p hp=>?_⟩;unfold TR.kept at hp;obtain⟨h2,h3⟩:=List.mem_filter.1 hp;have h4:fitsB ((ctN c N).rule (ctN c N).rl) p.2=true:=by
  have h5:(fitsB ((ctN c N).rule (ctN c N).rl) p.2&&somePos p.2)=true:=h3;rw [Bool.and_eq_true]at h5;exact h5.1
 have hl:p.2.length=c.op.length:=by
  have h5:p.2∈P'.map Prod.snd:=List.mem_map.2 ⟨p,h2,rfl⟩;obtain⟨y,_,e⟩:=List.mem_map.1 (h.perm.mem_iff.1 h5);rw [←e];unfold renB;rw [List.length_map];exact h.nm.len
 have:=rnk_of (c:=(ctN c N).rule (ctN c N).rl) hr (hl.trans (ctN_len h.nm).symm) h4
 rwa [show((ctN c N).rule (ctN c N).rl).op.length=c.op.length from ctN_len h.nm]at this
theorem Oth.alk {c:CTest}{N:List Int}{P P':List (Value×List Int)}(h:Oth c N P P')(hr:ranksB c.rl=true):
 Alk c.op.length (TR.kept c P).length (nmF N) (S0 c.op.length (ranksOf (TR.kept (ctN c N) P')) (TR.kept c P).length) (S0 c.op.length (ranksOf (TR.kept c P)) (TR.kept c P).length):=by
 obtain⟨r1,r2⟩:=h.rnk hr;have hk:=h.klen;have l1:(ranksOf (TR.kept c P)).length=(TR.kept c P).length:=by unfold ranksOf;rw [List.length_map]
 have l2:(ranksOf (TR.kept (ctN c N) P')).length=(TR.kept c P).length:=by unfold ranksOf;rw [List.length_map];exact hk
 have hc: ∀i,i<c.op.length→c0 c.op.length (nmF N i)=c0 c.op.length i:=fun i hi=>by
  unfold c0;rw [decide_eq_true hi,decide_eq_true (h.nm.nm.1.lt i hi)]
 refine⟨?_,fun i hi=>hc i hi,fun _ _=>rfl,fun _ _=>rfl,rfl⟩;have v1:=votes_S0 c.op.length (ranksOf (TR.kept c P));have v2:=votes_S0 c.op.length (ranksOf (TR.kept (ctN c N) P'));rw [l1]at v1;rw [l2]at v2;rw [v1,v2,List.map_map];unfold ranksOf;rw [List.map_map,List.map_map];have e2:(TR.kept (ctN c N) P').map ((Vo.ren (nmF N)∘fun rk=>(start rk).go (c0 c.op.length))∘fun p=>rkOf p.2)=((TR.kept (ctN c N) P').map Prod.snd).map fun b=>(start ((rkOf b).map (nmF N))).go (c0 c.op.length):=by
  rw [List.map_map];refine List.map_congr_left fun p hp=>?_;show((start (rkOf p.2)).go (c0 c.op.length)).ren (nmF N)=_;rw [←go_ren hc (x:=start (rkOf p.2)) (fun i hi=>(r2 p hp).lt i hi)];rfl
 rw [e2];refine(List.Perm.of_eq ?_).trans (h.kept.perm.map _).symm;rw [List.map_map];refine List.map_congr_left fun p hp=>?_;show(start (rkOf p.2)).go (c0 c.op.length)=(start ((rkOf (renB N p.2)).map (nmF N))).go (c0 c.op.length);rw [rkOf_ren h.nm (r1 p hp)]
theorem prE_ok {c:CTest}{P:List (Value×List Int)}(h:prE c P=0):wrongC c=false∧filE c.op.length P=0:=by
 unfold prE at h;cases hw:wrongC c with
 |true=>rw [hw,if_pos rfl]at h;cases h
 |false=>rw [hw,if_neg (by decide)]at h;exact⟨rfl,h⟩
theorem Oth.allN' {c:CTest}{N:List Int}{P P':List (Value×List Int)}(h:Oth c N P P'):allN c.op.length P':=fun p hp=>by
 have h5:p.2∈P'.map Prod.snd:=List.mem_map.2 ⟨p,hp,rfl⟩;obtain⟨y,_,e⟩:=List.mem_map.1 (h.perm.mem_iff.1 h5);rw [←e];unfold renB;rw [List.length_map];exact h.nm.len
theorem Oth.pr {c:CTest}{N:List Int}{P P':List (Value×List Int)}(h:Oth c N P P')(h0:prE c P=0):prE (ctN c N) P'=0:=by
 obtain⟨h1,h2⟩:=prE_ok h0;obtain⟨_,h3⟩:=filE_ok h2;unfold prE filE;rw [wrongC_ren h.nm,h1,if_neg (by decide),if_neg (by rw [h.len];omega),ctN_len h.nm,if_pos h.allN']
theorem ren_nats(N:List Int)(l:List Nat):TR.ren N (nats l)=nats (l.map (nmF N)):=by
 unfold TR.ren nats;rw [List.map_map,List.map_map];exact List.map_congr_left fun x _=>by simp
theorem ren_toNat(N O:List Int):(TR.ren N O).map Int.toNat=(O.map Int.toNat).map (nmF N):=by
 unfold TR.ren;rw [List.map_map,List.map_map];exact List.map_congr_left fun x _=>by simp
theorem alike {c:CTest}{N:List Int}{P P':List (Value×List Int)}(h:Oth c N P P'){lots:Bytes}(hd:Apt c lots){w w1 w2 w3:World}{v v':Value}{E':Int}(g:ElGot c P lots w (.returned (.tuple #[v,.int .i64 0])) w1)(g':ElGot (ctN c N) P' lots w2 (.returned (.tuple #[v',.int .i64 E'])) w3):
 E'=0∧ ∃(L:List Int) (oo oo':Option Addr) (co co':Nat),v=.slice oo L.length co∧v'=.slice oo' L.length co'∧IsAt w1 oo (TR.ren N L)∧IsAt w3 oo' L∧(∀x∈L,0≤x∧x<(c.op.length:Int))∧L.length≤c.op.length:=by
 obtain⟨_,v0,E0,e0,g⟩:=g;obtain⟨rfl,rfl⟩:v0=v∧E0=0:=by
  have:=e0;simp at this;exact⟨this.1.symm,this.2.symm⟩
 obtain⟨_,v1,E1,e1,g'⟩:=g';obtain⟨rfl,rfl⟩:v1=v'∧E1=E':=by
  have:=e1;simp at this;exact⟨this.1.symm,this.2.symm⟩
 have h0:prE c P=0:=by
  by_cases h0:prE c P=0;·exact h0
  ·rw [if_neg h0]at g;exact absurd g.2.symm h0
 rw [if_pos h0]at g;rw [if_pos (h.pr h0)]at g';obtain⟨hw,hfe⟩:=prE_ok h0;obtain⟨hn1,hn12,_,_,hs1,hsn⟩:=wrongC_no hw;obtain⟨_,h4096⟩:=filE_ok hfe;have hlen:=ctN_len h.nm;unfold ElEnd at g g';rw [hlen,h.klen]at g';have hrl:(ctN c N).rl=c.rl:=rfl;have hse:(ctN c N).se=c.se:=rfl;rw [hrl,hse]at g';by_cases h3:c.rl=3
 ·rw [if_pos h3]at g g';obtain⟨O,R,S,oE,cE,hO,hR,hD,rfl,_,hI⟩:=g;obtain⟨O',R',S',oE',cE',hO',hR',hD',rfl,rfl,hI'⟩:=g';have hOr:Ord c.op.length (lotF c lots) (TR.ren N O'):=Ord.ren h.nm hd (by rw [hlen];exact hO');obtain rfl:O=TR.ren N O':=hO.unique hOr;rw [ren_toNat]at hR hD;have hra:ranksB c.rl=true:=by rw [h3];rfl
  have l2:(ranksOf (TR.kept (ctN c N) P')).length=(TR.kept c P).length:=by unfold ranksOf;rw [List.length_map];exact h.klen
  have on:=ord_nats hO'
  have hinv:=inv_start (n:=c.op.length) (s:=c.se.toNat) (O:=O'.map Int.toNat) (Rs:=ranksOf (TR.kept (ctN c N) P')) (by omega) hn12 on.1 on.2 (fun rk hrk i hi=>by
   unfold ranksOf at hrk;obtain⟨p,hp,rfl⟩:=List.mem_map.1 hrk;exact((h.rnk hra).2 p hp).lt i hi)
  rw [l2]at hinv;have hm:(TR.kept c P).length≤4096:=Nat.le_trans (List.length_filter_le _ _) h4096;have hel:=(h.alk hra).ends h.nm.nm.1 hm hinv hR' hD' hR hD;obtain⟨hI2,_⟩:=hR'.inv hinv hm;refine⟨rfl,nats S'.el,oE,oE',cE,cE',?_,rfl,?_,hI',fun x hx=>?_,?_⟩;·rw [hel];simp [nats]
  ·rw [ren_nats,←hel];exact hI
  ·unfold nats at hx;obtain⟨i,hi,rfl⟩:=List.mem_map.1 hx;have:=(hI2.elc i hi).1;omega
  ·rw [length_nats];have:=hD'.2;omega
 rw [if_neg h3]at g g';by_cases h4:c.rl=4
 ·rw [if_pos h4]at g g';obtain⟨O,W,i,oo,co,hO,hS,hF,rfl,_,hI⟩:=g;obtain⟨O',W',i',oo',co',hO',hS',hF',rfl,rfl,hI'⟩:=g';have hOr:Ord c.op.length (lotF c lots) (TR.ren N O'):=Ord.ren h.nm hd (by rw [hlen];exact hO');obtain rfl:O=TR.ren N O':=hO.unique hOr;have hS2:=Strong.ren h.nm.nm.1 (e':=edge (pairM (TR.kept (ctN c N) P'))) (fun a b ha hb=>by unfold edge;rw [h.kept.pair ha hb,h.kept.pair hb ha]) hS;have hWW: ∀a b,a<c.op.length→b<c.op.length→W' a b=W (nmF N a) (nmF N b):=fun a b ha hb=>hS'.unique hS2 a b ha hb;have hF2:=FirstTop.ren h.nm hWW (fun x hx=>hO'.mem.1 hx) hF';obtain rfl:i=nmF N i':=hF.unique (fun a b _ _=>rfl) hF2;exact⟨rfl,[(i':Int)],oo,oo',co,co',rfl,rfl,hI,hI',fun x hx=>by rw [List.mem_singleton.1 hx];have:=hF'.1.1;omega,hn1⟩
 rw [if_neg h4]at g g';have ht: ∀k,k<c.op.length→(totL c.op.length (TR.kept (ctN c N) P')).getD k 0=(totL c.op.length (TR.kept c P)).getD (nmF N k) 0:=fun k hk=>h.kept.tot hk;have hme:mostE (ctN c N) (totL c.op.length (TR.kept (ctN c N) P'))=mostE c (totL c.op.length (TR.kept c P)):=by
  unfold mostE;rw [wrongC_ren h.nm,totL_len,totL_len,hlen,negB_ren h.nm (totL_len _ _) (totL_len _ _) ht]
 unfold MostEnd at g g';rw [hme]at g';by_cases hm:mostE c (totL c.op.length (TR.kept c P))=0
 ·rw [if_pos hm]at g g';obtain⟨S,oS,cS,hB,hI,rfl,_⟩:=g;obtain⟨S',oS',cS',hB',hI',rfl,rfl⟩:=g';rw [hlen]at hB';obtain rfl:S=TR.ren N S':=hB.unique (Best.ren h.nm hd ht hB');have hl:(TR.ren N S').take c.se.toNat=TR.ren N (S'.take c.se.toNat):=by unfold TR.ren;rw [List.map_take]
  refine⟨rfl,S'.take c.se.toNat,oS,oS',cS,cS',?_,rfl,by rw [←hl];exact hI,hI',fun x hx=>(mem_iota _ _).1 (hB'.perm.mem_iff.1 (List.mem_of_mem_take hx)),?_⟩;·rw [hl];unfold TR.ren;rw [List.length_map]
  ·rw [List.length_take,hB'.len];exact Nat.min_le_right _ _
 ·rw [if_neg hm]at g;exact absurd g.2.symm hm
end Go.Proofs.YtnohcdpnnhmpfaaGreatDoor.TR
