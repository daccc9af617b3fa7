/-
  A number's digits as a text. No program in sight.
  Decimal texts: their value, which texts are numbers, a number's text. Plain law.
  '[]byte(s)': a new row that reads as the text.
  Parse: a text's limbs, nine digits each, from the end on. Plain law.
  A number's text out of its limbs: nine digits each, the zeros ahead cut off. Plain law.
  exact.Parse.
  strings.TrimLeft by one byte; (exact.Nat).String.
-/
import Derived.Test.YtnohcdpnnhmpfaaGreatDoorK04
import Derived.Test.YtnohcdpnnhmpfaaGreatDoorK08
import Derived.Test.YtnohcdpnnhmpfaaGreatDoorK02
import Derived.WalkKit
import Derived.Lib.Hide
import Derived.Test.YtnohcdpnnhmpfaaGreatDoorK05
set_option linter.unusedVariables false
set_option linter.unusedSimpArgs false
set_option maxRecDepth 100000
set_option maxHeartbeats 4000000
namespace Go.Proofs.YtnohcdpnnhmpfaaGreatDoor
open Go.RowKit ML ND FM
def digB(n:Nat):Bytes:=(dig n).reverse.map fun d=>UInt8.ofNat (d+48)
def strD(n:Nat):Bytes:=if n=0 then [48]else digB n
def textRow(F:Bytes)(m:Nat):Bytes:=List.replicate m 0++F.drop m
theorem length_textRow(F:Bytes)(m:Nat)(h:m≤F.length):(textRow F m).length=F.length:=by simp [textRow];omega
theorem textRow_set(F:Bytes)(m:Nat)(h:m<F.length):(textRow F (m+1)).set m F[m]=textRow F m:=by
 unfold textRow;rw [List.drop_eq_getElem_cons h,List.replicate_succ',List.append_assoc,List.set_append_right _ _ (by simp)];simp
theorem made_bytes(n:Nat):madeCells #[Value.int .u8 0] n=(Lib.byteCells (List.replicate n 0)).toArray:=by
 unfold madeCells Lib.byteCells;apply Array.ext;·simp
 ·intro i h1 h2;simp [Nat.mod_one]
theorem set_bytes {w:World}{b:Nat}{L:Bytes}{T:TypeId}(h:w.heap[b]?=some (.cells (Lib.byteCells L).toArray T (0,0)))(i:Nat)(c:UInt8):(w.setCell ⟨b,i,none⟩ (.int .u8 (c.toNat:Int))).heap[b]?=some (.cells (Lib.byteCells (L.set i c)).toArray T (0,0)):=by
 rw [heap_setCell_same w b i _ _ _ h];congr 2;simp [Lib.byteCells,List.map_set]
theorem cell_bytes {w:World}{b:Nat}{L:Bytes}{T:TypeId}(h:w.heap[b]?=some (.cells (Lib.byteCells L).toArray T (0,0)))(i:Nat)(hi:i<L.length): ∃v,w.cell? ⟨b,i,none⟩=some v:=by
 rw [cell_of_row w b i _ _ _ h];exact⟨_,by simp [Lib.byteCells,hi];rfl⟩
def dv(F:Bytes):Nat:=F.foldl (fun k c=>10*k+(c.toNat-48)) 0
def DigsB(F:Bytes):Prop:= ∀c∈F,48≤c.toNat∧c.toNat≤57
def numB(F:Bytes):Bool:=decide (F≠ [])&&F.all (fun c=>decide (48≤c.toNat∧c.toNat≤57))&&(decide (F.getD 0 0≠48)||decide (F.length=1))
def digsOf(F:Bytes):List Nat:=F.reverse.map fun c=>c.toNat-48
end Go.Proofs.YtnohcdpnnhmpfaaGreatDoor
namespace Go.Proofs.YtnohcdpnnhmpfaaGreatDoor
open Go.RowKit ML FM
structure ParseSt(F:Bytes)(m:Nat)(O:List Nat):Prop where
 le:m≤F.length
 all:NL.AllD O
 len:0<m→F.length-m=9*O.length
 short:9*O.length≤F.length+8
 eq:NL.val O=dv (F.drop m)
def pieceF(F:Bytes)(m:Nat):Bytes:=(F.take m).drop (m-9)
def padK:Nat→Nat→List Nat
 |0,_=> []
 |k+1,l=>l%10::padK k (l/10)
theorem length_padK(k:Nat): ∀l,(padK k l).length=k:=by
 induction k with
 |zero=>intro l;rfl
 |succ k ih=>intro l;simp [padK,ih]
theorem getD_padK(k:Nat): ∀l j,j<k→(padK k l).getD j 0=l/10^j%10:=by
 induction k with
 |zero=>intro l j hj;omega
 |
  succ k ih=>
  intro l j hj;cases j with
  |zero=>simp [padK]
  |
   succ j=>
   have e:=ih (l/10) j (by omega);simp only [padK,List.getD_cons_succ];rw [e,Nat.div_div_eq_div_mul,Nat.pow_succ,Nat.mul_comm 10]
theorem all_padK(k:Nat): ∀l,ND.AllD (padK k l):=by
 induction k with
 |zero=>intro l d hd;cases hd
 |
  succ k ih=>
  intro l d hd;rcases List.mem_cons.1 hd with rfl|hd;·omega
  ·exact ih _ d hd
theorem val_padK(k:Nat): ∀l,l<10^k→ND.val (padK k l)=l:=by
 induction k with
 |zero=>intro l hl;simp at hl;subst hl;rfl
 |
  succ k ih=>
  intro l hl;rw [Nat.pow_succ]at hl;simp only [padK,ND.val];rw [ih (l/10) (by omega)];omega
def padD:List Nat→List Nat
 | []=> []
 |l::r=>padK 9 l++padD r
theorem length_padD(L:List Nat):(padD L).length=9*L.length:=by
 induction L with
 |nil=>rfl
 |cons l r ih=>simp [padD,length_padK,ih];omega
theorem getD_padD(L:List Nat): ∀i k,i<L.length→k<9→(padD L).getD (9*i+k) 0=L.getD i 0/10^k%10:=by
 induction L with
 |nil=>intro i k hi;simp at hi
 |
  cons l r ih=>
  intro i k hi hk;cases i with
  |
   zero=>
   have:=getD_padK 9 l k hk
   rw [←show(padK 9 l++padD r).getD k 0=(padK 9 l).getD k 0 by
    rw [List.getD_eq_getElem?_getD,List.getElem?_append_left (by rw [length_padK];exact hk),←List.getD_eq_getElem?_getD]]at this
   simpa [padD] using this
  |
   succ i=>
   have e:=ih i k (by simpa using hi) hk;have e2:(padK 9 l++padD r).getD (9* (i+1)+k) 0=(padD r).getD (9*i+k) 0:=by
    rw [List.getD_eq_getElem?_getD,List.getElem?_append_right (by rw [length_padK];omega),length_padK,←List.getD_eq_getElem?_getD];rw [show 9* (i+1)+k-9=9*i+k by omega]
   rw [List.getD_cons_succ];exact e2.trans e
theorem all_padD(L:List Nat):ND.AllD (padD L):=by
 induction L with
 |nil=>intro d hd;cases hd
 |
  cons l r ih=>
  intro d hd;rcases List.mem_append.1 hd with hd|hd;·exact all_padK 9 l d hd
  ·exact ih d hd
theorem val_padD(L:List Nat)(h:NL.AllD L):ND.val (padD L)=NL.val L:=by
 induction L with
 |nil=>rfl
 |
  cons l r ih=>
  have hl:=h l (List.mem_cons_self ..);have hr:=ih (fun x hx=>h x (List.mem_cons_of_mem _ hx));unfold padD;rw [ND.val_append,length_padK,val_padK 9 l (by omega),hr,NL.val]
def padB(L:List Nat):Bytes:=(padD L).reverse.map fun d=>UInt8.ofNat (d+48)
theorem length_padB(L:List Nat):(padB L).length=9*L.length:=by simp [padB,length_padD]
theorem getD_padB(L:List Nat)(i k:Nat)(hi:i<L.length)(hk:k<9)(h:9*L.length-1-(9*i+k)<(padB L).length):(padB L)[9*L.length-1-(9*i+k)]=UInt8.ofNat (L.getD i 0/10^k%10+48):=by
 rw [←getD_padD L i k hi hk];have hj:9*i+k<(padD L).length:=by rw [length_padD];omega
 simp only [padB,List.getElem_map,List.getElem_reverse];congr 2;rw [List.getD_eq_getElem?_getD,List.getElem?_eq_getElem hj];simp only [Option.getD_some];congr 1;rw [length_padD];omega
theorem mem_tw {α:Type}(p:α→Bool)(l:List α): ∀b∈l.takeWhile p,p b=true:=by
 induction l with
 |nil=>intro b hb;simp at hb
 |
  cons a r ih=>
  intro b hb;rw [List.takeWhile_cons]at hb;split at hb
  ·rcases List.mem_cons.1 hb with rfl|hb;·assumption
   ·exact ih b hb
  ·simp at hb
theorem drop_trim(L:List Nat)(h:ND.AllD L):L.reverse.dropWhile (fun d=>d==0)=(ND.trimL L).reverse:=by
 obtain⟨k,hk⟩: ∃k,k=(L.reverse.dropWhile (fun d=>d==0)).length:=⟨_,rfl⟩;have hsplit:=List.takeWhile_append_dropWhile (p:=fun d=>d==0) (l:=L.reverse);have hT:L.reverse.takeWhile (fun d=>d==0)=List.replicate (L.reverse.takeWhile (fun d=>d==0)).length 0:=by
  apply List.eq_replicate_iff.2;refine⟨rfl,fun b hb=>?_⟩;have:=mem_tw _ _ b hb;simpa using this
 generalize hA:L.reverse.takeWhile (fun d=>d==0)=A at*;generalize hB:L.reverse.dropWhile (fun d=>d==0)=B at*;have hL:L=B.reverse++A.reverse:=by
  have:=congrArg List.reverse hsplit;rw [List.reverse_append,List.reverse_reverse]at this;exact this.symm
 have hAr:A.reverse=List.replicate A.length 0:=by rw [hT];simp
 have ht:=ND.take_trim L k h (by rw [hL,List.length_append,List.length_reverse];omega) (fun i hi=>by
  rw [hL,List.getD_eq_getElem?_getD,List.getElem?_append_right (by rw [List.length_reverse];omega),hAr,List.getElem?_replicate];split<;>rfl) (by
  by_cases hk0:k=0;·exact .inl hk0
  ·refine .inr ?_;cases hBq:B with
   |nil=>rw [hBq]at hk;simp at hk;exact absurd hk hk0
   |
    cons b r=>
    have hb0:(b==0)=false:=by
     have:=List.head_dropWhile_not (p:=fun d=>d==0) (l:=L.reverse) (by rw [hB,hBq];simp);simpa [hB,hBq] using this
    rw [hBq,List.length_cons]at hk;rw [hL,hBq,List.reverse_cons,List.getD_eq_getElem?_getD,List.append_assoc,List.getElem?_append_right (by rw [List.length_reverse];omega),List.length_reverse,hk];simp;simpa using hb0)
 have htk:L.take k=B.reverse:=by
  conv=>lhs;rw [hL]
  rw [hk,←List.length_reverse,List.take_left]
 rw [←ht,htk,List.reverse_reverse]
theorem padB_trim(n:Nat)(h:n≠0):(padB (NL.dig n)).dropWhile (fun c=>c==48)=strD n:=by
 unfold padB strD digB;rw [if_neg h,List.dropWhile_map];have hp: ∀l:List Nat,ND.AllD l→l.dropWhile ((fun c:UInt8=>c==48)∘fun d=>UInt8.ofNat (d+48))=l.dropWhile (fun d=>d==0):=by
  intro l
  induction l with
  |nil=>intro _;rfl
  |
   cons a r ih=>
   intro hA;have ha:=hA a (List.mem_cons_self ..);have e:((fun c:UInt8=>c==48)∘fun d=>UInt8.ofNat (d+48)) a=(a==0):=by
    have:a=0∨a=1∨a=2∨a=3∨a=4∨a=5∨a=6∨a=7∨a=8∨a=9:=by omega
    rcases this with rfl|rfl|rfl|rfl|rfl|rfl|rfl|rfl|rfl|rfl<;>rfl
   rw [List.dropWhile_cons,List.dropWhile_cons,e];split;·exact ih (fun x hx=>hA x (List.mem_cons_of_mem _ hx))
   ·rfl
 rw [hp _ (fun d hd=>all_padD _ d (List.mem_reverse.1 hd)),drop_trim _ (all_padD _)];unfold ND.trimL;rw [val_padD _ (NL.all_dig n),NL.val_dig]
theorem drop_while {S:Bytes}{c:UInt8}: ∀k,k≤S.length→(∀i,i<k→byteN S i=c.toNat)→(k=S.length∨byteN S k≠c.toNat)→S.drop k=S.dropWhile (fun x=>x==c):=by
 induction S with
 |nil=>intro k hk _ _;simp
 |
  cons a r ih=>
  intro k hk h1 h2;cases k with
  |
   zero=>
   rcases h2 with h2|h2;·simp at h2
   ·
     have:(a==c)=false:=by
      rw [beq_eq_false_iff_ne];intro e;apply h2;rw [e];simp [byteN]
     rw [List.dropWhile_cons,this];simp
  |
   succ k=>
   have ha:(a==c)=true:=by
    rw [beq_iff_eq];apply UInt8.toNat_inj.1;simpa [byteN] using h1 0 (by omega)
   rw [List.dropWhile_cons,ha,List.drop_succ_cons];simp only [if_true];refine ih k (by simpa using hk) (fun i hi=>by simpa [byteN] using h1 (i+1) (by omega)) ?_;rcases h2 with h2|h2;·exact .inl (by simpa using h2)
   ·exact .inr (by simpa [byteN] using h2)
end Go.Proofs.YtnohcdpnnhmpfaaGreatDoor
namespace Go.Proofs.YtnohcdpnnhmpfaaGreatDoor
open Go.RowKit ML FM NL
theorem strBN(T:Bytes)(i:Nat)(h:i<(ByteArray.mk T.toArray).size):(((ByteArray.mk T.toArray)[i]'h).toNat:Int)=(byteN T i:Int):=by
 rw [size_mk]at h;unfold byteN;rw [List.getD_eq_getElem?_getD,List.getElem?_eq_getElem h];rfl
theorem byteN_drop(S:Bytes)(k i:Nat):byteN (S.drop k) i=byteN S (k+i):=by
 simp [byteN,List.getD_eq_getElem?_getD]
theorem extract_tail(S:Bytes)(k n:Nat)(h:n=S.length):(ByteArray.mk S.toArray).extract k n=⟨(S.drop k).toArray⟩:=by rw [h];exact extract_drop S k
theorem trimByte_any(S:Bytes)(w:World)(hS:S.length<9223372036854775808):
 Calls Tryz.prog 194 #[.string ⟨S.toArray⟩,.int .u8 48] w fun e w'=>e=.returned (.string ⟨(S.dropWhile (fun x=>x==48)).toArray⟩)∧w'=w:=by
 go_enter Tryz.func194,Tryz.ntmps194;go_upto_region 1 with(fail);go_loopw [0] (fun v wr=> ∃k:Nat,k≤S.length∧v=.string ⟨(S.drop k).toArray⟩∧(∀i,i<k→byteN S i=48)∧wr=w) (fun v _=>match v with| .string b=>b.size|_=>0);case atStart=>exact⟨0,by omega,by rw [List.drop_zero],fun i hi=>by omega,rfl⟩
 case round=>
 obtain⟨k,hk,rfl,hpre,hw⟩:=hrel;replace hw:=hw.symm;subst hw;have hl:(S.drop k).length=S.length-k:=List.length_drop;by_cases hend:k=S.length
 ·have hr:=Lib.hid (drop_while (c:=48) k hk hpre (.inl hend));have hl0:(S.drop k).length=0:=by omega
  clear hpre hend hl;go_wp2_with fail;go_ret;rw [hr.out];exact⟨rfl,rfl⟩
 have hpos:(0:Int)<((S.drop k).length:Int):=by omega
 have hs0: ∀h,(((ByteArray.mk (S.drop k).toArray)[0]'h).toNat:Int)=(byteN S k:Int):=fun h=>by rw [strBN (S.drop k) 0 h,byteN_drop];rfl
 by_cases hc:byteN S k=48
 ·
   have hpre2:=Lib.hid (show ∀i,i<k+1→byteN S i=48 from fun i hi=>by
    by_cases he:i=k;·rw [he];exact hc
    ·exact hpre i (by omega))
   have hx:=extract_tail (S.drop k) 1 (S.length-k) hl.symm;rw [List.drop_drop]at hx;have hsz1:=Lib.hid (size_mk (S.drop k));have hsz2:=Lib.hid (size_mk (S.drop (k+1)));have hsz3:=Lib.hid hl;rw [hc]at hs0;have h1:(1:Int)≤((S.drop k).length:Int):=by omega
   clear hpre hc hl;go_wp2_with fail;go_roundw;case rel=>exact⟨k+1,by omega,rfl,hpre2.out,trivial⟩
   case measure=>
    have e1:=hsz1.out;have e2:=hsz2.out;have e3:=hsz3.out;have e4:(S.drop (k+1)).length=S.length-(k+1):=List.length_drop;simp;omega
 ·have hr:=Lib.hid (drop_while (c:=48) k hk hpre (.inr hc));have hcf:((byteN S k:Int)==48)=false:=by rw [beq_eq_false_iff_ne];omega
  have hcf2: ¬(byteN S k:Int)=48:=by omega
  clear hpre hc hl;go_wp2_with fail;go_ret;rw [hr.out];exact⟨rfl,rfl⟩
theorem trimLeft_any(S:Bytes)(w:World)(hS:S.length<9223372036854775808):
 Calls Tryz.prog 171 #[.string ⟨S.toArray⟩,.string ⟨#[48]⟩] w fun e w'=>e=.returned (.string ⟨(S.dropWhile (fun x=>x==48)).toArray⟩)∧w'=w:=by
 have QT:=Lib.hid (trimByte_any S w hS);go_enter Tryz.func171,Tryz.ntmps171;by_cases hne:S= []
 ·subst hne;clear QT;go_wp2_with fail;go_ret;exact⟨rfl,rfl⟩
 have hem:List.isEmpty S=false:=by simpa using hne
 go_wp2_with (go_at_call 194;refine QT.out.mono ?_;rintro e w1 ⟨rfl,rfl⟩);go_ret;exact⟨rfl,rfl⟩
theorem exString_any(n:Nat)(oa:Option Addr)(ca:Nat)(w:World)(ha:LimbsAt w oa (dig n))(hx:(dig n).length<1099511627776):
 Calls Tryz.prog 122 #[.slice oa (dig n).length ca] w fun e w'=>e=.returned (.string ⟨(strD n).toArray⟩)∧Below w.heap.size w w':=by
 obtain⟨i0,hi,hz0,hz1,hz2⟩:=info_parts info_byte;have HI:=Lib.hid hi;have HZ0:=Lib.hid hz0;have HZ1:=Lib.hid hz1;have HZ2:=Lib.hid hz2;have HA:=Lib.hid ha;clear hi hz0 hz1 hz2 ha;go_enter Tryz.func122,Tryz.ntmps122;by_cases hn0:n=0
 ·subst hn0;have hs:=Lib.hid (show strD 0= [48]from rfl);have hl:(dig 0).length=0:=by rw [dig_zero];rfl
  rw [hl];go_wp2_with fail;go_ret;rw [hs.out];exact⟨rfl,Below.refl _ _⟩
 have hs:=Lib.hid (padB_trim n hn0);have hpos:0<(dig n).length:=by rw [dig_pos (by omega)];simp
 have hnz:(((dig n).length:Int)==0)=false:=by rw [beq_eq_false_iff_ne];omega
 have hdg:=Lib.hid (fun(i k:Nat) hi hk h=>getD_padB (dig n) i k hi hk h);obtain⟨F,hF⟩: ∃F,F=padB (dig n):=⟨_,rfl⟩;obtain⟨l,hl⟩: ∃l,l=(dig n).length:=⟨_,rfl⟩;obtain⟨l9,hl9⟩: ∃l9,l9=9*l:=⟨_,rfl⟩;have hFl:F.length=l9:=by rw [hF,length_padB,hl9,hl]
 have h9i:9* ((dig n).length:Int)=(l9:Int):=by omega
 have hl9b:l9<9895604649984:=by omega
 have HF:=Lib.hid hF;have HL:=Lib.hid hl;have HL9:=Lib.hid hl9;have HFl:=Lib.hid hFl;clear hF hl hl9 hFl;go_upto_region 4 with(refine wpList_make_row _ rfl _ _ 91 rfl 5 i0 (.int .u8 0) Tryz.underlying91 HI.out HZ0.out HZ1.out rfl .i64 .i64 l9 rfl rfl (by rw [HZ2.out];omega) (by omega) ?_);rw [made_bytes];generalize hB:w.heap.size=d at*
 refine wp_abs (fun w1=>Below d w w1∧w1.heap[d]?=some (.cells (Lib.byteCells (textRow F l9)).toArray 5 (0,0))) ⟨by rw [←hB];exact(Below.refl _ _).alloc (Nat.le_refl _) _,by
  rw [←hB];have e:textRow F l9=List.replicate l9 0:=by unfold textRow;rw [List.drop_of_length_le (by have:=HFl.out;omega)];simp
  rw [e];exact heap_at rfl⟩ (fun w1 hw1=>?_)
 obtain⟨bel1,h1⟩:=hw1;have HB:=Lib.hid hB;clear hB h9i;go_upto_region 6 with(fail);go_loopw [4,18] (fun at_ i wr=> ∃(k m:Nat),k≤(dig n).length∧i=.int .i64 k∧at_=.int .i64 m∧m+9*k=l9∧Below d w wr∧wr.heap[d]?=some (.cells (Lib.byteCells (textRow F m)).toArray 5 (0,0))) (fun _ i _=>(dig n).length-(intOf i).toNat);case atStart=>exact⟨0,l9,by omega,rfl,rfl,by omega,bel1,h1⟩
 case round=>
 obtain⟨i,m,hk,rfl,rfl,hm,bel,hW⟩:=hrel;clear bel1 h1;have HM:=Lib.hid hm;clear hm;by_cases hlt:i<(dig n).length
 ·have hd1:decide ((i:Int)<((dig n).length:Int))=true:=by simp;omega
  obtain⟨a0,hoa,hac⟩:=HA.out.get i hlt;have hablk:a0.block<d:=by
   obtain⟨a1,h2,h3,_⟩:=HA.out.cells i hlt;rw [hoa]at h2;cases h2;rw [HB.out]at h3;exact h3
  have hac3:wr.cell? (a0.add i)=some (.int .u32 ((lAt (dig n) i:Nat):Int)):=by rw [bel.cell (p:=a0.add i) (by rw [addr_block'];exact hablk)];exact hac
  have h1:lAt (dig n) i<1000000000:=getD_lt (all_dig n) i;have hi00:(0:Int)≤i:=by omega
  have hilx:(i:Int)<((dig n).length:Int):=by omega
  subst hoa;clear hac;obtain⟨a,hae⟩: ∃a,a=lAt (dig n) i:=⟨_,rfl⟩;rw [←hae]at hac3 h1;have HAE:=Lib.hid hae;clear hae;go_upto_region 9 with(fail);clear hac3;obtain⟨w0,hw0⟩: ∃w0,w0=wr:=⟨_,rfl⟩;rw [←hw0]at bel hW ⊢;go_loopw [4,6,22] (fun at_ lv j wi=> ∃(k m':Nat),k≤9∧j=.int .i64 k∧at_=.int .i64 m'∧lv=.int .u32 ((a/10^k:Nat):Int)∧m'+9*i+k=l9∧Below d w wi∧wi.heap[d]?=some (.cells (Lib.byteCells (textRow F m')).toArray 5 (0,0))) (fun _ _ j _=>9-(intOf j).toNat);case atStart=>exact⟨0,m,by omega,rfl,rfl,by simp,by have:=HM.out;omega,bel,hW⟩
  case round=>
  obtain⟨k,m',hk9,rfl,rfl,rfl,hm',bel2,hW2⟩:=hrel;clear bel hW;have HM2:=Lib.hid hm';clear hm';by_cases hk9t:k<9
  ·have hd2:decide ((k:Int)<9)=true:=by simp;omega
   obtain⟨p,hp⟩: ∃p,m'=p+1:=⟨m'-1,by have:=HM2.out;have:=HL.out;have:=HL9.out;omega⟩;subst hp;have hpF:p<F.length:=by rw [HFl.out];have:=HM2.out;omega
   have hFp:=Lib.hid (show F[p]=UInt8.ofNat (a/10^k%10+48)by
    have h:=hdg.out i k hlt hk9t (by rw [length_padB];omega);have e:9* (dig n).length-1-(9*i+k)=p:=by have:=HM2.out;have:=HL.out;have:=HL9.out;omega
    simp only [e]at h;have h2: ∀(A B:Bytes) (hAB:A=B) (hA:p<A.length) (hB:p<B.length),A[p]=B[p]:=by intro A B hAB hA hB;subst hAB;rfl
    rw [HAE.out];exact(h2 F (padB (dig n)) HF.out hpF (by rw [←HF.out];exact hpF)).trans h)
   have hnext:=Lib.hid (show a/10^(k+1)=a/10^k/10 by rw [Nat.pow_succ,Nat.div_div_eq_div_mul]);have hlb:a/10^k<1000000000:=Nat.lt_of_le_of_lt (Nat.div_le_self _ _) h1;obtain⟨cv,hcv⟩:=cell_bytes hW2 p (by rw [length_textRow F (p+1) (by omega)];omega);have hfz:=frozen_of_row wr d p _ _ hW2;have hts:=Lib.hid (textRow_set F p hpF);have HW:=Lib.hid hW2;have hp0:(0:Int)≤(p:Int):=by omega
   have hpl:(p:Int)<(l9:Int):=by have:=HM2.out;omega
   have hp9:p<9895604649984:=by have:=HM2.out;omega
   clear hW2;generalize a/10^k=l1 at*;go_upto_region 12 with(fail);refine wp_abs (fun w4=>Below d w w4∧w4.heap[d]?=some (.cells (Lib.byteCells (textRow F p)).toArray 5 (0,0))) ?_ (fun w4 hw4=>?_)
   ·have e:=set_bytes HW.out p F[p];have hv:((F[p]).toNat:Int)=48+(l1:Int)%10:=by
     rw [hFp.out];have:(UInt8.ofNat (l1%10+48)).toNat=l1%10+48:=by simp;omega
     rw [this];omega
    rw [hts.out,hv]at e;exact⟨bel_only bel2 ((Only.refl d wr).setCell _ _) (Nat.le_refl _),e⟩
   obtain⟨bel4,hW4⟩:=hw4;clear hcv hfz HW bel2 hts hFp;go_wp2_with fail;go_roundw;case rel=>exact⟨k+1,p,by omega,by go_num,rfl,by rw [hnext.out];go_num,by have:=HM2.out;omega,bel4,hW4⟩
   case measure=>simp [intOf];omega
  ·have hd2:decide ((k:Int)<9)=false:=by simp;omega
   go_wp2_with fail;go_roundw;case rel=>exact⟨i+1,m',by omega,by go_num,rfl,by have:=HM2.out;omega,bel2,hW2⟩
   case measure=>simp [intOf];omega
 ·have hd1:decide ((i:Int)<((dig n).length:Int))=false:=by simp;omega
  obtain rfl:i=(dig n).length:=by omega
  have hm0:m=0:=by have:=HM.out;have:=HL.out;have:=HL9.out;omega
  subst hm0;have e:textRow F 0=F:=by simp [textRow]
  rw [e]at hW;have hrange:wr.rangeAt d 0 (Lib.byteCells F):=fun j v hv=>by
   rw [Nat.zero_add,cell_of_row wr d j _ _ _ hW];simpa using hv
  have HR:=Lib.hid hrange;have QT:=Lib.hid (trimLeft_any F wr (by rw [HFl.out];omega));have e2:F.dropWhile (fun x=>x==48)=strD n:=by rw [HF.out];exact hs.out
  rw [e2]at QT;have hlF:l9=F.length:=HFl.out.symm;have HLF:=Lib.hid hlF;clear hrange hW e e2 hlF hdg hs;go_upto_region 15 with(fail);go_wp2_with (first
   |(refine wpList_bytes_back rfl _ 91 9 5 rfl Tryz.underlying91 Tryz.underlying5 Tryz.underlying9 d l9 l9 F HLF.out rfl HR.out ?_)
   |(go_at_call 171;refine QT.out.mono ?_;rintro e w3 ⟨rfl,rfl⟩))
  go_ret;rw [HB.out];exact⟨rfl,bel⟩
end Go.Proofs.YtnohcdpnnhmpfaaGreatDoor
