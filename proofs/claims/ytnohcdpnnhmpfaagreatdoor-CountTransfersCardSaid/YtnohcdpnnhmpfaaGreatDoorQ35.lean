/-
  The reference's Keyed and Digest: of any key and any text.
-/
import Derived.Test.YtnohcdpnnhmpfaaGreatDoorQ16
import Derived.Test.YtnohcdpnnhmpfaaGreatDoorQ33
import Derived.Test.YtnohcdpnnhmpfaaGreatDoorQ34
import Derived.Deep.CutBlock
import Derived.Deep.OwnRows
set_option linter.unusedVariables false
set_option linter.unusedSimpArgs false
set_option maxRecDepth 100000
set_option maxHeartbeats 4000000
namespace Go.Proofs.YtnohcdpnnhmpfaaGreatDoor
open Go.RowKit Tryz ML FM
structure RSt(B0 b c:Nat)(w:World)(H M:List U)(wr:World):Prop where
 below:Below B0 w wr
 h:wr.heap[b]?=some (.cells (xj H) 205 (0,0))
 m:wr.heap[c]?=some (.cells (xj M) 235 (0,0))
theorem RSt.turnedM {B0 b c:Nat}{w:World}{H M M':List U}{wr w1:World}(h:RSt B0 b c w H M wr)(h1:B0≤c)(h2:b<c)(ho:xp c wr w1)(hp:w1.heap[c]?=some (.cells (xj M') 235 (0,0))):RSt B0 b c w H M' w1:=
 ⟨xQ h.below ho h1,ho.keep (by omega) h.h,hp⟩
theorem jju(T:Bytes)(i:Nat)(h:i<(ByteArray.mk T.toArray).size):(((ByteArray.mk T.toArray)[i]'h).toNat:Int)=(yt T i:Int):=by
 rw [zJ]at h;unfold yt;rw [jW,kl h];rfl
def KX(O:Bytes)(i:Nat):List Value:=Lib.byteCells (O.take i++List.replicate (32-i) 0)
theorem jgl(O:Bytes)(i:Nat)(hO:O.length=32)(hi:i<32)(v:Value)(hv:v=.int .u8 ((O.getD i 0).toNat:Int)):(KX O i).toArray.setIfInBounds i v=(KX O (i+1)).toArray:=by
 subst hv;unfold KX Lib.byteCells;rw [vt];congr 1;apply List.ext_getElem?;intro j;rw [List.getElem?_set];have hl:(List.take i O++List.replicate (32-i) (0:UInt8)).length=32:=by simp [hO];omega
 simp only [jz,hl];by_cases h:i=j
 ·subst h;have h32:i<O.length:=by omega
  rw [jR hi,jR rfl,qK,qJ (by simp [hO];omega),vT,jR (by omega),jW,kl h32];rfl
 ·rw [jT h];simp only [qK];congr 1;by_cases hj:j<i;·rw [qJ (by simp [hO];omega),qJ (by simp [hO];omega),vT,vT,jR hj,jR (by omega)]
  ·rw [ke (by simp [hO];omega),ke (by simp [hO];omega),qX,qX];simp only [jX,hO];congr 1;simp only [eq_iff_iff];omega
theorem jkb:madeCells #[Value.int .u8 0] 32=(KX [] 0).toArray:=by kernel_rfl
theorem jkZ(y:U)(pw:Nat):(un y/(pw:Int)).tmod 256%256=((UInt8.ofNat (y.toNat/pw%256)).toNat:Int):=by
 unfold un;have e:((y.toNat:Int)/(pw:Int))=((y.toNat/pw:Nat):Int):=(Int.natCast_ediv _ _).symm;rw [e];generalize y.toNat/pw=a;rw [xI (by omega)];have h:(UInt8.ofNat (a%256)).toNat=a%256:=by simp
 rw [h];omega
theorem jdy(K B:Bytes)(w:World)(hB:B.length<4611686018427387904)(hKm:K.length<9223372036854775808):
 Calls prog 183 #[.string ⟨K.toArray⟩,.string ⟨B.toArray⟩] w fun e w'=>e=.returned (.tuple #[.string ⟨(jbk K B).toArray⟩,.bool (decide (K.length≤32))])∧Below w.heap.size w w':=by
 have HBL:=jA hB;have hsz:=zJ K;clear hB;go_enter Tryz.func183,Tryz.ntmps183;by_cases hK:32<K.length
 ·have hK2:jbk K B= []∧decide (K.length≤32)=false:=⟨jT (by omega),by simp;omega⟩;go_wp2_with fail
  go_ret2
  rw [hK2.1,hK2.2];exact⟨rfl,jN _ _⟩
 have hKl:K.length≤64:=by omega
 have HD:=jA (show jbk K B=Jm K B from jR (by omega));have HE:=jA (show decide (K.length≤32)=true by simp;omega);have HDD:=jA (show Jm K B=Vm (VM (zr K.length) (yz K++B))from rfl);have HTL:=jA (show(yz K++B).length<4611686018427387976 by rw [ja];have:=jaI K hKl;have:=HBL.u;omega)
 go_upto_if 23 with(fail)
 go_cut [6] (fun v w'=>v=.string ⟨(yz K++B).toArray⟩∧w'=w);case first=>
  by_cases hK0:K= []
  ·subst hK0;go_wp2_with fail;go_meet;exact⟨rfl,rfl⟩
  ·have hpos:0<K.length:=qO.2 hK0;go_upto_region 6 with(fail);go_loopw [7] (fun z wr=> ∃n:Nat,K.length+n≤64∧z=.string ⟨(K++List.replicate n 0).toArray⟩∧wr=w) (fun z _=>match z with| .string s=>64-s.size|_=>0);case atStart=>exact⟨0,by omega,by simp,rfl⟩
   case round=>
   obtain⟨n,hn,rfl,rfl⟩:=hrel;have hs:=zJ (K++List.replicate n 0);rw [ja,vr]at hs;by_cases hlt:K.length+n<64
   ·have hd:decide (((K.length+n:Nat):Int)<64)=true:=by simp;omega
    go_wp2_with fail;go_roundw;case rel=>
     refine⟨n+1,by omega,?_,trivial⟩;rw [List.replicate_succ',←kS,Qx _ [0]]
    case measure=>
     rw [Qx _ [0]];show 64-(ByteArray.mk (K++List.replicate n 0++ [0]).toArray).size<64-(ByteArray.mk (K++List.replicate n 0).toArray).size;rw [zJ,zJ];simp;omega
   ·have hd:decide (((K.length+n:Nat):Int)<64)=false:=by simp;omega
    have hsB:=zJ B;have hBl:=HBL.u;obtain rfl:n=64-K.length:=by omega
    have hkp:yz K=K++List.replicate (64-K.length) 0:=by unfold yz;rw [jT hK0]
    rw [←hkp]at hs ⊢;have hkn:K.length+(64-K.length)=64:=by omega
    rw [hkn]at hs hd;have HKP:=jA hkp;clear hkp hkn hn;generalize yz K=Z at*;go_wp2_with fail;go_meet;rw [Qx];exact⟨rfl,rfl⟩
 case rest=>
 obtain⟨rfl,hw0⟩:=hcut;replace hw0:=hw0.symm;subst hw0;clear HBL;generalize yz K++B=T at*;have hTs:=zJ T;have HT:=HTL.u
 go_upto_if 39 with(fail)
 go_cut [9] (fun v w'=>v=.int .i64 ((Jx T+1:Nat):Int)∧w'=w);case first=>
  by_cases hT0:T= []
  ·subst hT0;go_wp2_with fail;go_meet;exact⟨rfl,rfl⟩
  ·have hTp:0<T.length:=qO.2 hT0;have hpp:=jgi T hTp;have hpi:((T.length:Int)+63)/64=((Jx T+1:Nat):Int):=by omega
   go_wp2_with fail;go_meet;exact⟨congrArg _ hpi,rfl⟩
 case rest=>
 obtain⟨rfl,hw0⟩:=hcut;replace hw0:=hw0.symm;subst hw0;have hdP:Jx T≤T.length/64:=by unfold Jx;omega
 obtain⟨p,hp⟩: ∃p,p=Jx T+1:=⟨_,rfl⟩;have hpl:p<144115188075855872:=by omega
 rw [←hp];have HPP:=jA hp;clear hp hdP;have HF:=jA (show(prog.info? 205).map (·.size)=some (xj ivL).size by kernel_rfl);go_upto_region 14 with(first
  |(go_at_call 208;refine(ZM _).mono ?_;rintro e w1 ⟨rfl,hb1⟩)
  |(refine xM rfl rfl 205 _ _ rfl w1.heap.size (xj (List.replicate 8 0)) (xj ivL) 205 rfl rfl (xN rfl) rfl HF.u (yU _) ?_;intro w2 ho2 hp2))
 have b2:Below w.heap.size w w2:=(hb1.alloc hb1.size _).trans (ho2.below hb1.size);have hB1:w.heap.size≤w1.heap.size:=hb1.size;generalize w1.heap.size=b at*;clear hb1 ho2;have c0:w2.cell? ⟨b,0,none⟩=some (.int .u32 (un (ivL.getD 0 0))):=yK hp2 0 (by simp [ivL]);have f0:=ye hp2 0;have r1:=jA (jbc (ivL.getD 0 0) (0x01010020+BitVec.ofNat 32 (256*K.length)));have hxn:un (0x01010020+BitVec.ofNat 32 (256*K.length))=16842784+256* (K.length:Int):=by
  unfold un;rw [BitVec.toNat_add,vQ];show((((16842784+256*K.length%4294967296)%4294967296:Nat)):Int)=_;omega
 have hH:=jA (show zr K.length=ivL.set 0 (ivL.getD 0 0 ^^^(0x01010020+BitVec.ofNat 32 (256*K.length)))from rfl);have r2:bits BinOp.xor IntKind.u32 (un (ivL.getD 0 0)) (16842784+256* (K.length:Int))=un (ivL.getD 0 0 ^^^(0x01010020+BitVec.ofNat 32 (256*K.length))):=by rw [←hxn];exact r1.u
 have R2:=jA r2;clear hxn r1 r2;generalize hx0:ivL.getD 0 0=x0 at*;have HP2:=jA hp2;clear hp2;go_upto_region 15 with(fail);rw [R2.u];have hh8:(zr K.length).length=8:=by simp [zr,ivL]
 refine xP (fun w3=>Below w.heap.size w w3∧w3.heap[b]?=some (.cells (xj (VQ (zr K.length) T 0)) 205 (0,0))) ⟨xQ b2 ((xp.refl b w2).setCell _ _) hB1,by rw [jib,hH.u];exact zA HP2.u 0 _⟩ (fun w3 hw3=>?_);obtain⟨b3,h3⟩:=hw3;clear c0 f0 R2 hx0 hH HP2 b2;have HH8:=jA hh8;clear hh8;generalize zr K.length=h0 at*;generalize x0 ^^^(0x01010020+BitVec.ofNat 32 (256*K.length))=xv at*;go_upto_region 16 with(fail);go_loopw [11] (fun i wr=> ∃k:Nat,k≤p∧i=.int .i64 k∧Below w.heap.size w wr∧wr.heap[b]?=some (.cells (xj (VQ h0 T k)) 205 (0,0))) (fun i _=>p-(intOf i).toNat);case atStart=>exact⟨0,by omega,rfl,b3,h3⟩
 case round=>
 obtain⟨k,hk,rfl,bel,hh⟩:=hrel;clear b3 h3;by_cases hkp:k<p
 ·have hdk:decide ((k:Int)<(p:Int))=true:=by simp;omega
  go_upto_block 4 with(fail);refine xP (fun w4=>RSt w.heap.size b wr.heap.size w (VQ h0 T k) (yN ((T.drop (64*k)).take 0)) w4) ⟨bel.alloc bel.size _,xx hh,xN rfl⟩ (fun w4 hw4=>?_);have hbc:b<wr.heap.size:=lt_of_heap hh;have hBc:w.heap.size≤wr.heap.size:=bel.size;clear bel hh;generalize wr.heap.size=c at*;go_cut [] (fun w'=>RSt w.heap.size b c w (VQ h0 T k) (yN (Jp T k)) w');case first=>
   go_upto_region 20 with(fail);go_loopw [13] (fun i wi=> ∃j:Nat,j≤64∧(j=0∨64*k+j≤T.length)∧i=.int .i64 j∧RSt w.heap.size b c w (VQ h0 T k) (yN ((T.drop (64*k)).take j)) wi) (fun i _=>64-(intOf i).toNat);case atStart=>exact⟨0,by omega,.inl rfl,rfl,hw4⟩
   case round=>
   obtain⟨j,hj,hj2,rfl,S⟩:=hrel;clear hw4;by_cases hlt:j<64∧64*k+j<T.length
   ·have hd1:decide ((j:Int)<64)=true:=by simp;omega
    have hd2:decide (64* (k:Int)+(j:Int)<(T.length:Int))=true:=by simp;omega
    have hk63:64* (k:Int)+(j:Int)<4611686018427387976:=by have:=HTL.u;omega
    have hsi:64* (k:Int)+(j:Int)<((ByteArray.mk T.toArray).size:Int):=by rw [hTs];omega
    have hd3:64* (k:Int)+(j:Int)<(T.length:Int):=by omega
    have htab:=jju T;go_upto_region 22 with(fail);have HTS:=jA hTs;clear hTs hd3;generalize hsT:ByteArray.mk T.toArray=s at*;have HST2:=jA hsT;clear hsT;have hstep:=jad (T.drop (64*k)) j;rw [jgj]at hstep;have hcl:yt T (64*k+j)<256:=YJ T _;have hcb: ∀h,((s[64*k+j]'h).toNat:Int)=(yt T (64*k+j):Int):=fun h=>htab _ h;clear htab;generalize yt T (64*k+j)=cb at*;have c0:=yK S.m (j/4) (by rw [zK];omega);have f0:=ye S.m (j/4);obtain⟨q,hq⟩: ∃q,q=j/4:=⟨_,rfl⟩;obtain⟨r,hr⟩: ∃r,r=j%4:=⟨_,rfl⟩;rw [←hq]at hstep c0 f0;rw [←hr]at hstep;have hadd:=jA (jkM (VT ((T.drop (64*k)).take j) q) cb r hcl (by omega));rw [jat _ q (by omega)]at c0;have q4:(j:Int)/4=(q:Int):=by omega
    have r4:(j:Int)%4=(r:Int):=by omega
    have q5:Int.tdiv (j:Int) 4=(q:Int):=by rw [Int.tdiv_eq_ediv_of_nonneg (by omega)];exact q4
    have r5:Int.tmod (j:Int) 4=(r:Int):=by rw [xI (by omega)];exact r4
    have hq16:q<16:=by omega
    have hr4:r<4:=by omega
    clear hq hr;generalize BitVec.ofNat 32 (VT ((T.drop (64*k)).take j) q+cb*2^(8*r))=y0 at*;generalize BitVec.ofNat 32 (VT ((T.drop (64*k)).take j) q)=x1 at*;have HST:=jA hstep;clear hstep;have QP:=jA (jct r wr.drew hr4);have hs0:(0:Int)≤64* (k:Int)+(j:Int):=by omega
    refine Seg.xL (fun w'=> ∃n,w'=wr.drewN n) [([0,1,2,3,4,5,6,7,8,9,10,11,12,13,14],15)] [16,17] 18 (by kernel_rfl) (by kernel_rfl) (fun _ _ d _ _ h=>by cases d<;>exact h) (⟨1,rfl⟩) ?_;simp only [jK,Seg.opAt,Seg.xW];repeat (any_goals (first|go_big_quiet_step (fail)|quiet_step (fail)))
    refine jP ?_;intro K hK;simp only [Region.wanted,jY];go_wp2_with fail;refine QP.u.mono ?_;rintro e w5 ⟨rfl,rfl⟩;refine hK _ _ ⟨1,rfl⟩ ?_;clear hK K QP;have had:=hadd.u;generalize 256^r=pw at*;repeat (any_goals (first|go_big_quiet_step (fail)|quiet_step (fail)))
    refine jP ?_;go_upto_region 21 with(fail);refine xP (fun w6=>RSt w.heap.size b c w (VQ h0 T k) (yN ((T.drop (64*k)).take (j+1))) w6) ?_ (fun w6 S6=>?_)
    ·rw [HST.u];exact S.turnedM hBc hbc (((xp.refl c wr).setCell _ _).drew) (zA S.m q y0)
    clear S c0 f0 had hadd HST;go_wp2_with fail;have hsT:=HST2.u;clear HST2;subst hsT;go_roundw;case rel=>exact⟨j+1,by omega,Or.inr (by omega),by go_num,S6⟩
    case measure=>simp [intOf];omega
   ·have hpe:(T.drop (64*k)).take j=Jp T k:=jik T k j hj (by omega);rw [hpe]at S;have SS:=jA S;clear S hpe;by_cases hj64:j<64
    ·have hd1:decide ((j:Int)<64)=true:=by simp;omega
     have hd2:decide (64* (k:Int)+(j:Int)<(T.length:Int))=false:=by simp;omega
     have hd3: ¬64* (k:Int)+(j:Int)<(T.length:Int):=by omega
     clear hlt hj2;go_wp2_with fail;go_meet;exact SS.u
    ·have hd1:decide ((j:Int)<64)=false:=by simp;omega
     clear hlt hj2;go_wp2_with fail;go_meet;exact SS.u
  case rest=>
  have SS:=jA hcut;clear hcut;have hkn:=jA (jic h0 T k (by have:=HPP.u;omega));have hend:=jA (show jiT T k=if T.length<64*k+64 then T.length else 64*k+64 from rfl)
  go_upto_if 91 with(fail)
  go_cut [14] (fun v w'=>v=.int .i64 (jiT T k:Int)∧w'=wc);case first=>
   have he:=hend.u;by_cases hl:T.length<64*k+64
   ·rw [jR hl]at he;have hd:decide ((T.length:Int)<64* (k:Int)+64)=true:=by simp;omega
    go_wp2_with fail;go_meet;exact⟨(by rw [he];try go_num),rfl⟩
   ·rw [jT hl]at he;have hd:decide ((T.length:Int)<64* (k:Int)+64)=false:=by simp;omega
    go_wp2_with fail;go_meet;exact⟨(by rw [he];try go_num),rfl⟩
  case rest=>
  obtain⟨rfl,hw0⟩:=hcut;subst hw0;have hel:jiT T k<4611686018427387976:=by have h1:=hend.u;have h2:=HTL.u;split at h1<;>omega
  have S:=SS.u;have hR8:(VQ h0 T k).length=8:=Vc _ _ _ HH8.u;have hs8:=jA (show(prog.info? 205).map (·.size)=some (xj (VQ h0 T k)).size by rw [xt,hR8];exact JN);have hs8':=jA (show(prog.info? 205).map (·.size)=some (xj (VQ h0 T (k+1))).size by rw [xt,Vc _ _ _ HH8.u];exact JN);have hss:(xj (VQ h0 T k)).size=(xj (VQ h0 T (k+1))).size:=by rw [xt,xt,Vc _ _ _ HH8.u,Vc _ _ _ HH8.u]
  have HSS:=jA hss;have hs16:=jA (show(prog.info? 235).map (·.size)=some (xj (yN (Jp T k))).size by rw [xt,zK];exact zl);have Sh:=S.h;have Sm:=S.m;have QP:=jA (jdv (VQ h0 T k) (yN (Jp T k)) (jiT T k) (decide (k=Jx T)) wc hR8 (zK _) (by omega));rw [←hkn.u]at QP;have hdl:((k:Int)==(p:Int)-1)=decide (k=Jx T):=by
   have:=HPP.u;by_cases h:k=Jx T;·simp [h];omega
   ·simp [h];omega
  clear S hR8 hss hend;go_upto_region 17 with(first
   |(refine xi rfl 205 _ rfl b (xj (VQ h0 T k)) _ _ _ rfl Sh underlying205 rfl hs8.u ?_)
   |(refine xi rfl 235 _ rfl c (xj (yN (Jp T k))) _ _ _ rfl Sm underlying235 rfl hs16.u ?_)
   |(go_at_call 210;refine QP.u.mono ?_;rintro e w7 ⟨rfl,hb7⟩;have h7:=xK hb7 (lt_of_heap Sh) Sh)
   |(refine xM rfl rfl 205 _ _ rfl b (xj (VQ h0 T k)) (xj (VQ h0 T (k+1))) 205 rfl rfl h7 HSS.u hs8'.u (yU _) ?_;intro w8 ho8 hp8))
  have bel8:Below w.heap.size w w8:=((SS.u.below).trans (hb7.mono SS.u.below.size)).trans (ho8.below hB1);clear Sh Sm h7 hb7 ho8 SS QP;go_wp2_with fail;go_roundw;case rel=>exact⟨k+1,by omega,by go_num,bel8,hp8⟩
  case measure=>simp [intOf];omega
 ·have hdk:decide ((k:Int)<(p:Int))=false:=by simp;omega
  obtain rfl:k=p:=by omega
  rw [HPP.u,jid]at hh;have hl8:(VM h0 T).length=8:=ZU _ _ HH8.u;obtain⟨V,hV⟩: ∃V,V=VM h0 T:=⟨_,rfl⟩;rw [←hV]at hh hl8;obtain⟨O,hO⟩: ∃O,O=Vm V:=⟨_,rfl⟩;have hOl:O.length=32:=by rw [hO,YF];omega
  have hres:jbk K B=O:=by rw [hO,hV,HD.u,HDD.u]
  have hget:=jA (jjQ V);rw [←hO]at hget;have HRES:=jA hres;clear hres hV hO HD HDD;obtain⟨i0,hi,hz0,hz1,hz2⟩:=info_parts YU;have HI:=jA hi;have HZ0:=jA hz0;have HZ1:=jA hz1;have HZ2:=jA hz2;clear hi hz0 hz1 hz2;go_upto_region 29 with(refine wpList_make_row _ rfl _ _ 91 rfl 5 i0 (.int .u8 0) underlying91 HI.u HZ0.u HZ1.u rfl .i64 .i64 32 rfl rfl (by rw [HZ2.u];decide) (by decide) ?_);rw [jkb];have hbk:b<wr.heap.size:=lt_of_heap hh;refine xP (fun w9=>Below w.heap.size w w9∧w9.heap[b]?=some (.cells (xj V) 205 (0,0))∧w9.heap[wr.heap.size]?=some (.cells (KX O 0).toArray 5 (0,0))) ⟨bel.alloc bel.size _,xx hh,xN rfl⟩ (fun w9 hw9=>?_);obtain⟨bel9,h9,d9⟩:=hw9;have hwD:w.heap.size≤wr.heap.size:=bel.size;clear bel hh HI HZ0 HZ1 HZ2;generalize wr.heap.size=d at*;go_loopw [16] (fun i wi=> ∃j:Nat,j≤32∧i=.int .i64 j∧Below w.heap.size w wi∧wi.heap[b]?=some (.cells (xj V) 205 (0,0))∧wi.heap[d]?=some (.cells (KX O j).toArray 5 (0,0))) (fun i _=>32-(intOf i).toNat);case atStart=>exact⟨0,by omega,rfl,bel9,h9,d9⟩
  case round=>
  obtain⟨j,hj,rfl,bel,hh,hd⟩:=hrel;clear bel9 h9 d9;by_cases hlt:j<32
  ·have hd32:decide ((j:Int)<32)=true:=by simp;omega
   go_upto_region 31 with(fail);have hg:=hget.u j (by omega);obtain⟨q,hq⟩: ∃q,q=j/4:=⟨_,rfl⟩;obtain⟨r,hr⟩: ∃r,r=j%4:=⟨_,rfl⟩;have c0:=yK hh q (by omega);have cd:wr.cell? ⟨d,j,none⟩=(KX O j)[j]?:=by rw [jM wr d j _ _ _ hd];simp
   have fd:=jb wr d j _ _ hd;have hol:(KX O j).length=32:=by simp [KX,yH,hOl];omega
   obtain⟨cv,hcv⟩: ∃cv,(KX O j)[j]?=some cv:=⟨_,kl (by omega)⟩;rw [hcv]at cd;rw [←hq,←hr]at hg;have q4:(j:Int)/4=(q:Int):=by omega
   have r4:(j:Int)%4=(r:Int):=by omega
   have q5:Int.tdiv (j:Int) 4=(q:Int):=by rw [Int.tdiv_eq_ediv_of_nonneg (by omega)];exact q4
   have r5:Int.tmod (j:Int) 4=(r:Int):=by rw [xI (by omega)];exact r4
   have hq8:q<8:=by omega
   have hr4:r<4:=by omega
   have hpw:0<256^r:=Nat.pow_pos (by decide);have hpu:256^r≤16777216:=by
    have h:=kW (show 0<256 by decide) (show r≤3 by omega);exact h
   clear hq hr hcv hol;have HG:=jA hg;clear hg;have QP:=jA (jct r wr.drew hr4);have b0:=XC (V.getD q 0);have b1:=jeo (V.getD q 0);generalize V.getD q 0=y at*;refine Seg.xL (fun w'=> ∃n,w'=wr.drewN n) [([0,1,2,3,4,5,6,7],8)] [9,10,11] 12 (by kernel_rfl) (by kernel_rfl) (fun _ _ d _ _ h=>by cases d<;>exact h) (⟨1,rfl⟩) ?_;simp only [jK,Seg.opAt,Seg.xW];repeat (any_goals (first|go_big_quiet_step (fail)|quiet_step (fail)))
   refine jP ?_;intro K hK;simp only [Region.wanted,jY];go_wp2_with fail;refine QP.u.mono ?_;rintro e w5 ⟨rfl,rfl⟩;refine hK _ _ ⟨1,rfl⟩ ?_;clear hK K QP;generalize hpq:256^r=pw at*;have hp0:((pw:Int)==0)=false:=by simp;omega
   have hp1:(pw:Int)≠0:=by omega
   have hp2:(0:Int)<pw:=by omega
   repeat (any_goals (first|go_big_quiet_step (fail)|quiet_step (fail)))
   refine jP ?_;go_upto_region 30 with(fail);refine xP (fun w9=>Below w.heap.size w w9∧w9.heap[b]?=some (.cells (xj V) 205 (0,0))∧w9.heap[d]?=some (.cells (KX O (j+1)).toArray 5 (0,0))) ?_ (fun w9 hw9=>?_)
   ·have ho:xp d wr (wr.setCell ⟨d,j,none⟩ (.int .u8 ((un y/(pw:Int)).tmod 256%256))).drew:=((xp.refl d wr).setCell _ _).drew;refine⟨xQ bel ho hwD,ho.keep (by omega) hh,?_⟩;have e:=jd wr d j _ _ (.int .u8 ((un y/(pw:Int)).tmod 256%256)) hd;rw [jgl O j hOl hlt _ (by rw [jkZ,jW,HG.u];rfl)]at e;exact e
   obtain⟨bel9,h9,d9⟩:=hw9;clear bel hh hd c0 cd fd HG;go_wp2_with fail;go_roundw;case rel=>exact⟨j+1,by omega,by go_num,bel9,h9,d9⟩
   case measure=>simp [intOf];omega
  ·have hd32:decide ((j:Int)<32)=false:=by simp;omega
   obtain rfl:j=32:=by omega
   have ho32:KX O 32=Lib.byteCells O:=by unfold KX;rw [jc (by omega)];simp
   have hrange:wr.rangeAt d 0 (Lib.byteCells O):=fun i v hv=>by
    rw [js,jM wr d i _ _ _ hd,ho32];simpa using hv
   have HR:=jA hrange;clear hrange ho32 hd hget;go_upto_region 32 with(fail);go_wp2_with (refine zP rfl _ 91 9 5 rfl underlying91 underlying5 underlying9 d 32 32 O hOl.symm rfl HR.u ?_)
   go_ret2
   rw [HRES.u,HE.u];exact⟨rfl,bel⟩
theorem jbK(B:Bytes)(w:World)(hB:B.length<4611686018427387904):
 Calls prog 147 #[.string ⟨B.toArray⟩] w fun e w'=>e=.returned (.string ⟨(Jm [] B).toArray⟩)∧Below w.heap.size w w':=by
 have QK:=fun w=>jdy [] B w hB (by simp);have h0:jbk [] B=Jm [] B:=rfl;rw [h0]at QK;have Q:=jA QK;clear QK h0 hB;go_enter Tryz.func147,Tryz.ntmps147;go_wp2_with (go_at_call 183;refine(Q.u _).mono ?_;rintro e w1 ⟨rfl,hb1⟩);go_ret;exact⟨rfl,hb1⟩
end Go.Proofs.YtnohcdpnnhmpfaaGreatDoor
