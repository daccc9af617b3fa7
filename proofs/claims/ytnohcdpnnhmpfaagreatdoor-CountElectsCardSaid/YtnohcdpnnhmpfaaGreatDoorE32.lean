/- The reference's Keyed and Digest: of any Rv and any text. -/
import Derived.Test.YtnohcdpnnhmpfaaGreatDoorE31
import Derived.Test.YtnohcdpnnhmpfaaGreatDoorE26
set_option linter.all false
set_option maxRecDepth 100000
set_option maxHeartbeats 4000000
namespace Go.Proofs.YtnohcdpnnhmpfaaGreatDoor
open Go.RowKit Tryz ML FM
structure RSt(B0 b c:Nat)(w:m0)(H M:List U)(wr:m0):Prop where
 below:O0 B0 w wr
 h:wr.heap[b]?=some (.cells (yF H) 205 (0,0))
 m:wr.heap[c]?=some (.cells (yF M) 235 (0,0))
theorem RSt.turnedM {B0 b c:Nat}{w:m0}{H M M':List U}{wr w1:m0}(h:RSt B0 b c w H M wr)(h1:B0≤c)(h2:b<c)(ho:yG c wr w1)(hp:w1.heap[c]?=some (.cells (yF M') 235 (0,0))):RSt B0 b c w H M' w1:=
 ⟨xl h.below ho h1,ho.keep (by omega) h.h,hp⟩
theorem jlC(T:Bytes)(i:Nat)(h:i<(ByteArray.mk T.toArray).size):(((ByteArray.mk T.toArray)[i]'h).toNat:Int)=(zL T i:Int):=by
 rw [zk]at h;unfold zL;rw [jV,kL h];rfl
def Kx(O:Bytes)(i:Nat):A0:=Lib.byteCells (O.take i++List.replicate (32-i) 0)
theorem jid(O:Bytes)(i:Nat)(hO:O.length=32)(hi:i<32)(v:n0)(hv:v=.int .u8 ((O.getD i 0).toNat:Int)):(Kx O i).toArray.setIfInBounds i v=(Kx O (i+1)).toArray:=by
 subst hv;unfold Kx Lib.byteCells;rw [vJ];congr 1;apply List.ext_getElem?;intro j;rw [List.getElem?_set];have hl:(List.take i O++List.replicate (32-i) (0:UInt8)).length=32:=by simp [hO];omega
 simp only [kS,hl];by_cases h:i=j
 ·subst h;have h32:i<O.length:=by omega
  rw [jP hi,jP rfl,qe,qZ (by simp [hO];omega),vw,jP (by omega),jV,kL h32];rfl
 ·rw [jQ h];simp only [qe];congr 1;by_cases hj:j<i;·rw [qZ (by simp [hO];omega),qZ (by simp [hO];omega),vw,vw,jP hj,jP (by omega)]
  ·rw [kZ (by simp [hO];omega),kZ (by simp [hO];omega),qU,qU];simp only [jf,hO];congr 1;simp only [eq_iff_iff];omega
theorem jmu:madeCells #[Value.int .u8 0] 32=(Kx [] 0).toArray:=by kernel_rfl
theorem jnP(y:U)(pw:Nat):(un y/(pw:Int)).tmod 256%256=((UInt8.ofNat (y.toNat/pw%256)).toNat:Int):=by
 unfold un;have e:((y.toNat:Int)/(pw:Int))=((y.toNat/pw:Nat):Int):=(Int.natCast_ediv _ _).symm;rw [e];generalize y.toNat/pw=a;rw [xX (by omega)];have h:(UInt8.ofNat (a%256)).toNat=a%256:=by simp
 rw [h];omega
theorem jfg(K B:Bytes)(w:m0)(hB:B.length<4611686018427387904)(hKm:K.length<9223372036854775808):
 Calls prog 183 #[.string ⟨K.toArray⟩,.string ⟨B.toArray⟩] w fun e w'=>e=.returned (.tuple #[.string ⟨(jcx K B).toArray⟩,.bool (decide (K.length≤32))])∧O0 w.heap.size w w':=by
 have HBL:=jA hB;have Iu:=zk K;clear hB;go_enter Tryz.func183,Tryz.ntmps183;by_cases hK:32<K.length
 ·have hK2:jcx K B= []∧decide (K.length≤32)=false:=⟨jQ (by omega),by simp;omega⟩;go_wp2_with fail
  go_ret2
  rw [hK2.1,hK2.2];exact⟨rfl,jN _ _⟩
 have hKl:K.length≤64:=by omega
 have HD:=jA (show jcx K B=KS K B from jP (by omega));have HE:=jA (show decide (K.length≤32)=true by simp;omega);have uS:=jA (show KS K B=Xg (Vx (JP K.length) (zS K++B))from rfl);have eA:=jA (show(zS K++B).length<4611686018427387976 by rw [jZ];have:=jbO K hKl;have:=HBL.u;omega)
 go_upto_if 23 with(fail)
 go_cut [6] (fun v w'=>v=.string ⟨(zS K++B).toArray⟩∧w'=w);case first=>
  by_cases sI:K= []
  ·subst sI;go_wp2_with fail;go_meet;exact⟨rfl,rfl⟩
  ·have pu:0<K.length:=qh.2 sI;go_upto_region 6 with(fail);go_loopw [7] (fun z wr=> ∃n:Nat,K.length+n≤64∧z=.string ⟨(K++List.replicate n 0).toArray⟩∧wr=w) (fun z _=>match z with| .string s=>64-s.size|_=>0);case atStart=>exact⟨0,by omega,by simp,rfl⟩
   case round=>
   obtain⟨n,hn,rfl,rfl⟩:=hrel;have hs:=zk (K++List.replicate n 0);rw [jZ,vm]at hs;by_cases ns:K.length+n<64
   ·have hd:decide (((K.length+n:Nat):Int)<64)=true:=by simp;omega
    go_wp2_with fail;go_roundw;case rel=>
     refine⟨n+1,by omega,?_,trivial⟩;rw [List.replicate_succ',←kY,Vg _ [0]]
    case measure=>
     rw [Vg _ [0]];show 64-(ByteArray.mk (K++List.replicate n 0++ [0]).toArray).size<64-(ByteArray.mk (K++List.replicate n 0).toArray).size;rw [zk,zk];simp;omega
   ·have hd:decide (((K.length+n:Nat):Int)<64)=false:=by simp;omega
    have hsB:=zk B;have tI:=HBL.u;obtain rfl:n=64-K.length:=by omega
    have DJ:zS K=K++List.replicate (64-K.length) 0:=by unfold zS;rw [jQ sI]
    rw [←DJ]at hs ⊢;have Bx:K.length+(64-K.length)=64:=by omega
    rw [Bx]at hs hd;clear DJ Bx hn;generalize zS K=Z at*;go_wp2_with fail;go_meet;rw [Vg];exact⟨rfl,rfl⟩
 case rest=>
 obtain⟨rfl,ou⟩:=hcut;replace ou:=ou.symm;subst ou;clear HBL;generalize zS K++B=T at*;have hTs:=zk T;have HT:=eA.u
 go_upto_if 39 with(fail)
 go_cut [9] (fun v w'=>v=.int .i64 ((Ke T+1:Nat):Int)∧w'=w);case first=>
  by_cases sU:T= []
  ·subst sU;go_wp2_with fail;go_meet;exact⟨rfl,rfl⟩
  ·have hTp:0<T.length:=qh.2 sU;have hpp:=jia T hTp;have aM:((T.length:Int)+63)/64=((Ke T+1:Nat):Int):=by omega
   go_wp2_with fail;go_meet;exact⟨qO _ aM,rfl⟩
 case rest=>
 obtain⟨rfl,ou⟩:=hcut;replace ou:=ou.symm;subst ou;have hdP:Ke T≤T.length/64:=by unfold Ke;omega
 obtain⟨p,hp⟩: ∃p,p=Ke T+1:=⟨_,rfl⟩;have Cw:p<144115188075855872:=by omega
 rw [←hp];have HPP:=jA hp;clear hp hdP;have HF:=jA (show(prog.info? 205).map (·.size)=some (yF ivL).size by kernel_rfl);go_upto_region 14 with(first
  |(go_at_call 208;refine(jar _).mono ?_;rintro e w1 ⟨rfl,bv⟩)
  |(refine xg rfl rfl 205 _ _ rfl w1.heap.size (yF (List.replicate 8 0)) (yF ivL) 205 rfl rfl (xh rfl) rfl HF.u (yp _) ?_;intro w2 Wx Ru))
 have b2:O0 w.heap.size w w2:=(bv.alloc bv.size _).trans (Wx.below bv.size);have GE:w.heap.size≤w1.heap.size:=bv.size;generalize w1.heap.size=b at*;clear bv Wx;have c0:w2.cell? ⟨b,0,none⟩=some (.int .u32 (un (ivL.getD 0 0))):=ye Ru 0 (by simp [ivL]);have f0:=yw Ru 0;have r1:=jA (jcn (ivL.getD 0 0) (0x01010020+BitVec.ofNat 32 (256*K.length)));have pD:un (0x01010020+BitVec.ofNat 32 (256*K.length))=16842784+256* (K.length:Int):=by
  unfold un;rw [BitVec.toNat_add,vu];show((((16842784+256*K.length%4294967296)%4294967296:Nat)):Int)=_;omega
 have hH:=jA (show JP K.length=ivL.set 0 (ivL.getD 0 0 ^^^(0x01010020+BitVec.ofNat 32 (256*K.length)))from rfl);have r2:bits BinOp.xor IntKind.u32 (un (ivL.getD 0 0)) (16842784+256* (K.length:Int))=un (ivL.getD 0 0 ^^^(0x01010020+BitVec.ofNat 32 (256*K.length))):=by rw [←pD];exact r1.u
 have R2:=jA r2;clear pD r1 r2;generalize nt:ivL.getD 0 0=x0 at*;have HP2:=jA Ru;clear Ru;go_upto_region 15 with(fail);rw [R2.u];have hh8:(JP K.length).length=8:=by simp [JP,ivL]
 refine xr (fun w3=>O0 w.heap.size w w3∧w3.heap[b]?=some (.cells (yF (XD (JP K.length) T 0)) 205 (0,0))) ⟨xl b2 ((yG.refl b w2).setCell _ _) GE,by rw [jka,hH.u];exact zU HP2.u 0 _⟩ (fun w3 mw=>?_);obtain⟨b3,h3⟩:=mw;clear c0 f0 R2 nt hH HP2 b2;have HH8:=jA hh8;clear hh8;generalize JP K.length=h0 at*;generalize x0 ^^^(0x01010020+BitVec.ofNat 32 (256*K.length))=xv at*;go_upto_region 16 with(fail);go_loopw [11] (fun i wr=> ∃k:Nat,k≤p∧i=.int .i64 k∧O0 w.heap.size w wr∧wr.heap[b]?=some (.cells (yF (XD h0 T k)) 205 (0,0))) (fun i _=>p-(intOf i).toNat);case atStart=>exact⟨0,by omega,rfl,b3,h3⟩
 case round=>
 obtain⟨k,hk,rfl,bel,hh⟩:=hrel;clear b3 h3;by_cases DJ:k<p
 ·have hdk:decide ((k:Int)<(p:Int))=true:=by simp;omega
  go_upto_block 4 with(fail);refine xr (fun w4=>RSt w.heap.size b wr.heap.size w (XD h0 T k) (yh ((T.drop (64*k)).take 0)) w4) ⟨bel.alloc bel.size _,yM hh,xh rfl⟩ (fun w4 Gu=>?_);have Iy:b<wr.heap.size:=xZ hh;have hBc:w.heap.size≤wr.heap.size:=bel.size;clear bel hh;generalize wr.heap.size=c at*;go_cut [] (fun w'=>RSt w.heap.size b c w (XD h0 T k) (yh (KV T k)) w');case first=>
   go_upto_region 20 with(fail);go_loopw [13] (fun i wi=> ∃j:Nat,j≤64∧(j=0∨64*k+j≤T.length)∧i=.int .i64 j∧RSt w.heap.size b c w (XD h0 T k) (yh ((T.drop (64*k)).take j)) wi) (fun i _=>64-(intOf i).toNat);case atStart=>exact⟨0,by omega,.inl rfl,rfl,Gu⟩
   case round=>
   obtain⟨j,hj,hj2,rfl,S⟩:=hrel;clear Gu;by_cases ns:j<64∧64*k+j<T.length
   ·have lF:decide ((j:Int)<64)=true:=by simp;omega
    have mI:decide (64* (k:Int)+(j:Int)<(T.length:Int))=true:=by simp;omega
    have hk63:64* (k:Int)+(j:Int)<4611686018427387976:=by have:=eA.u;omega
    have hsi:64* (k:Int)+(j:Int)<((ByteArray.mk T.toArray).size:Int):=by rw [hTs];omega
    have hd3:64* (k:Int)+(j:Int)<(T.length:Int):=by omega
    have WN:=jlC T;go_upto_region 22 with(fail);clear hTs hd3;generalize OY:ByteArray.mk T.toArray=s at*;have HST2:=jA OY;clear OY;have Mt:=jbj (T.drop (64*k)) j;rw [jib]at Mt;have ey:zL T (64*k+j)<256:=ZD T _;have eK: ∀h,((s[64*k+j]'h).toNat:Int)=(zL T (64*k+j):Int):=fun h=>WN _ h;clear WN;generalize zL T (64*k+j)=cb at*;have c0:=ye S.m (j/4) (by rw [zn];omega);have f0:=yw S.m (j/4);obtain⟨q,hq⟩: ∃q,q=j/4:=⟨_,rfl⟩;obtain⟨r,hr⟩: ∃r,r=j%4:=⟨_,rfl⟩;rw [←hq]at Mt c0 f0;rw [←hr]at Mt;have hadd:=jA (jnm (XG ((T.drop (64*k)).take j) q) cb r ey (by omega));rw [jbz _ q (by omega)]at c0;have q4:(j:Int)/4=(q:Int):=by omega
    have r4:(j:Int)%4=(r:Int):=by omega
    have q5:Int.tdiv (j:Int) 4=(q:Int):=by rw [Int.tdiv_eq_ediv_of_nonneg (by omega)];exact q4
    have r5:Int.tmod (j:Int) 4=(r:Int):=by rw [xX (by omega)];exact r4
    have hq16:q<16:=by omega
    have hr4:r<4:=by omega
    clear hq hr;generalize BitVec.ofNat 32 (XG ((T.drop (64*k)).take j) q+cb*2^(8*r))=y0 at*;generalize BitVec.ofNat 32 (XG ((T.drop (64*k)).take j) q)=x1 at*;have av:=jA Mt;clear Mt;have QP:=jA (jdQ r wr.drew hr4);have DG:(0:Int)≤64* (k:Int)+(j:Int):=by omega
    refine Seg.xf (fun w'=> ∃n,w'=wr.drewN n) [([0,1,2,3,4,5,6,7,8,9,10,11,12,13,14],15)] [16,17] 18 (by kernel_rfl) (by kernel_rfl) (fun _ _ d _ _ h=>by cases d<;>exact h) (⟨1,rfl⟩) ?_;simp only [jK,Seg.opAt,Seg.xu];repeat (any_goals (first|go_big_quiet_step (fail)|quiet_step (fail)))
    refine jR ?_;intro K hK;simp only [Region.wanted,jY];go_wp2_with fail;refine QP.u.mono ?_;rintro e w5 ⟨rfl,rfl⟩;refine hK _ _ ⟨1,rfl⟩ ?_;clear hK K QP;have had:=hadd.u;generalize 256^r=pw at*;repeat (any_goals (first|go_big_quiet_step (fail)|quiet_step (fail)))
    refine jR ?_;go_upto_region 21 with(fail);refine xr (fun w6=>RSt w.heap.size b c w (XD h0 T k) (yh ((T.drop (64*k)).take (j+1))) w6) ?_ (fun w6 S6=>?_)
    ·rw [av.u];exact S.turnedM hBc Iy (((yG.refl c wr).setCell _ _).drew) (zU S.m q y0)
    clear S c0 f0 had hadd av;go_wp2_with fail;have OY:=HST2.u;clear HST2;subst OY;go_roundw;case rel=>exact⟨j+1,by omega,Or.inr (by omega),by go_num,S6⟩
    case measure=>simp [intOf];omega
   ·have hpe:(T.drop (64*k)).take j=KV T k:=jkm T k j hj (by omega);rw [hpe]at S;have SS:=jA S;clear S hpe;by_cases hj64:j<64
    ·have lF:decide ((j:Int)<64)=true:=by simp;omega
     have mI:decide (64* (k:Int)+(j:Int)<(T.length:Int))=false:=by simp;omega
     have hd3: ¬64* (k:Int)+(j:Int)<(T.length:Int):=by omega
     clear ns hj2;go_wp2_with fail;go_meet;exact SS.u
    ·have lF:decide ((j:Int)<64)=false:=by simp;omega
     clear ns hj2;go_wp2_with fail;go_meet;exact SS.u
  case rest=>
  have SS:=jA hcut;clear hcut;have Bx:=jA (jkb h0 T k (by have:=HPP.u;omega));have wA:=jA (show jlb T k=if T.length<64*k+64 then T.length else 64*k+64 from rfl)
  go_upto_if 91 with(fail)
  go_cut [14] (fun v w'=>v=.int .i64 (jlb T k:Int)∧w'=wc);case first=>
   have he:=wA.u;by_cases hl:T.length<64*k+64
   ·rw [jP hl]at he;have hd:decide ((T.length:Int)<64* (k:Int)+64)=true:=by simp;omega
    go_wp2_with fail;go_meet;exact⟨(by rw [he];try go_num),rfl⟩
   ·rw [jQ hl]at he;have hd:decide ((T.length:Int)<64* (k:Int)+64)=false:=by simp;omega
    go_wp2_with fail;go_meet;exact⟨(by rw [he];try go_num),rfl⟩
  case rest=>
  obtain⟨rfl,ou⟩:=hcut;subst ou;have AA:jlb T k<4611686018427387976:=by have h1:=wA.u;have h2:=eA.u;split at h1<;>omega
  have S:=SS.u;have hR8:(XD h0 T k).length=8:=XS _ _ _ HH8.u;have TC:=jA (show(prog.info? 205).map (·.size)=some (yF (XD h0 T k)).size by rw [yL,hR8];exact Jk);have hs8':=jA (show(prog.info? 205).map (·.size)=some (yF (XD h0 T (k+1))).size by rw [yL,XS _ _ _ HH8.u];exact Jk);have hss:(yF (XD h0 T k)).size=(yF (XD h0 T (k+1))).size:=by rw [yL,yL,XS _ _ _ HH8.u,XS _ _ _ HH8.u]
  have EW:=jA hss;have hs16:=jA (show(prog.info? 235).map (·.size)=some (yF (yh (KV T k))).size by rw [yL,zn];exact JH);have Sh:=S.h;have Sm:=S.m;have QP:=jA (jfb (XD h0 T k) (yh (KV T k)) (jlb T k) (decide (k=Ke T)) wc hR8 (zn _) (by omega));rw [←Bx.u]at QP;have Tw:((k:Int)==(p:Int)-1)=decide (k=Ke T):=by
   have:=HPP.u;by_cases h:k=Ke T;·simp [h];omega
   ·simp [h];omega
  clear S hR8 hss wA;go_upto_region 17 with(first
   |(refine xy rfl 205 _ rfl b (yF (XD h0 T k)) _ _ _ rfl Sh underlying205 rfl TC.u ?_)
   |(refine xy rfl 235 _ rfl c (yF (yh (KV T k))) _ _ _ rfl Sm underlying235 rfl hs16.u ?_)
   |(go_at_call 210;refine QP.u.mono ?_;rintro e w7 ⟨rfl,Hw⟩;have h7:=xe Hw (xZ Sh) Sh)
   |(refine xg rfl rfl 205 _ _ rfl b (yF (XD h0 T k)) (yF (XD h0 T (k+1))) 205 rfl rfl h7 EW.u hs8'.u (yp _) ?_;intro w8 ho8 hp8))
  have UK:O0 w.heap.size w w8:=((SS.u.below).trans (Hw.mono SS.u.below.size)).trans (ho8.below GE);clear Sh Sm h7 Hw ho8 SS QP;go_wp2_with fail;go_roundw;case rel=>exact⟨k+1,by omega,by go_num,UK,hp8⟩
  case measure=>simp [intOf];omega
 ·have hdk:decide ((k:Int)<(p:Int))=false:=by simp;omega
  obtain rfl:k=p:=by omega
  rw [HPP.u,jkc]at hh;have dZ:(Vx h0 T).length=8:=jax _ _ HH8.u;obtain⟨V,hV⟩: ∃V,V=Vx h0 T:=⟨_,rfl⟩;rw [←hV]at hh dZ;obtain⟨O,hO⟩: ∃O,O=Xg V:=⟨_,rfl⟩;have Oy:O.length=32:=by rw [hO,Yz];omega
  have EG:jcx K B=O:=by rw [hO,hV,HD.u,uS.u]
  have iF:=jA (jmg V);rw [←hO]at iF;have HRES:=jA EG;clear EG hV hO HD uS;obtain⟨i0,hi,Is,Ts,Ns⟩:=info_parts ZT;have HI:=jA hi;have Dt:=jA Is;have Ct:=jA Ts;have Bt:=jA Ns;clear hi Is Ts Ns;go_upto_region 29 with(refine wpList_make_row _ rfl _ _ 91 rfl 5 i0 (.int .u8 0) underlying91 HI.u Dt.u Ct.u rfl .i64 .i64 32 rfl rfl (by rw [Bt.u];decide) (by decide) ?_);rw [jmu];have mG:b<wr.heap.size:=xZ hh;refine xr (fun w9=>O0 w.heap.size w w9∧w9.heap[b]?=some (.cells (yF V) 205 (0,0))∧w9.heap[wr.heap.size]?=some (.cells (Kx O 0).toArray 5 (0,0))) ⟨bel.alloc bel.size _,yM hh,xh rfl⟩ (fun w9 WE=>?_);obtain⟨Nu,h9,d9⟩:=WE;have hwD:w.heap.size≤wr.heap.size:=bel.size;clear bel hh HI Dt Ct Bt;generalize wr.heap.size=d at*;go_loopw [16] (fun i wi=> ∃j:Nat,j≤32∧i=.int .i64 j∧O0 w.heap.size w wi∧wi.heap[b]?=some (.cells (yF V) 205 (0,0))∧wi.heap[d]?=some (.cells (Kx O j).toArray 5 (0,0))) (fun i _=>32-(intOf i).toNat);case atStart=>exact⟨0,by omega,rfl,Nu,h9,d9⟩
  case round=>
  obtain⟨j,hj,rfl,bel,hh,hd⟩:=hrel;clear Nu h9 d9;by_cases ns:j<32
  ·have hd32:decide ((j:Int)<32)=true:=by simp;omega
   go_upto_region 31 with(fail);have hg:=iF.u j (by omega);obtain⟨q,hq⟩: ∃q,q=j/4:=⟨_,rfl⟩;obtain⟨r,hr⟩: ∃r,r=j%4:=⟨_,rfl⟩;have c0:=ye hh q (by omega);have cd:wr.cell? ⟨d,j,none⟩=(Kx O j)[j]?:=by rw [jM wr d j _ _ _ hd];simp
   have fd:=jc wr d j _ _ hd;have Ux:(Kx O j).length=32:=by simp [Kx,yV,Oy];omega
   obtain⟨cv,DO⟩: ∃cv,(Kx O j)[j]?=some cv:=⟨_,kL (by omega)⟩;rw [DO]at cd;rw [←hq,←hr]at hg;have q4:(j:Int)/4=(q:Int):=by omega
   have r4:(j:Int)%4=(r:Int):=by omega
   have q5:Int.tdiv (j:Int) 4=(q:Int):=by rw [Int.tdiv_eq_ediv_of_nonneg (by omega)];exact q4
   have r5:Int.tmod (j:Int) 4=(r:Int):=by rw [xX (by omega)];exact r4
   have hq8:q<8:=by omega
   have hr4:r<4:=by omega
   have hpw:0<256^r:=Nat.pow_pos (by decide);have hpu:256^r≤16777216:=by
    have h:=ko (show 0<256 by decide) (show r≤3 by omega);exact h
   clear hq hr DO Ux;have HG:=jA hg;clear hg;have QP:=jA (jdQ r wr.drew hr4);have b0:=Xw (V.getD q 0);have b1:=jfV (V.getD q 0);generalize V.getD q 0=y at*;refine Seg.xf (fun w'=> ∃n,w'=wr.drewN n) [([0,1,2,3,4,5,6,7],8)] [9,10,11] 12 (by kernel_rfl) (by kernel_rfl) (fun _ _ d _ _ h=>by cases d<;>exact h) (⟨1,rfl⟩) ?_;simp only [jK,Seg.opAt,Seg.xu];repeat (any_goals (first|go_big_quiet_step (fail)|quiet_step (fail)))
   refine jR ?_;intro K hK;simp only [Region.wanted,jY];go_wp2_with fail;refine QP.u.mono ?_;rintro e w5 ⟨rfl,rfl⟩;refine hK _ _ ⟨1,rfl⟩ ?_;clear hK K QP;generalize hpq:256^r=pw at*;have IG:((pw:Int)==0)=false:=by simp;omega
   have sw:(pw:Int)≠0:=by omega
   have Ru:(0:Int)<pw:=by omega
   repeat (any_goals (first|go_big_quiet_step (fail)|quiet_step (fail)))
   refine jR ?_;go_upto_region 30 with(fail);refine xr (fun w9=>O0 w.heap.size w w9∧w9.heap[b]?=some (.cells (yF V) 205 (0,0))∧w9.heap[d]?=some (.cells (Kx O (j+1)).toArray 5 (0,0))) ?_ (fun w9 WE=>?_)
   ·have ho:yG d wr (wr.setCell ⟨d,j,none⟩ (.int .u8 ((un y/(pw:Int)).tmod 256%256))).drew:=((yG.refl d wr).setCell _ _).drew;refine⟨xl bel ho hwD,ho.keep (by omega) hh,?_⟩;have e:=jd wr d j _ _ (.int .u8 ((un y/(pw:Int)).tmod 256%256)) hd;rw [jid O j Oy ns _ (by rw [jnP,jV,HG.u];rfl)]at e;exact e
   obtain⟨Nu,h9,d9⟩:=WE;clear bel hh hd c0 cd fd HG;go_wp2_with fail;go_roundw;case rel=>exact⟨j+1,by omega,by go_num,Nu,h9,d9⟩
   case measure=>simp [intOf];omega
  ·have hd32:decide ((j:Int)<32)=false:=by simp;omega
   obtain rfl:j=32:=by omega
   have ho32:Kx O 32=Lib.byteCells O:=by unfold Kx;rw [je (by omega)];simp
   have Lu:wr.rangeAt d 0 (Lib.byteCells O):=fun i v hv=>by
    rw [jv,jM wr d i _ _ _ hd,ho32];simpa using hv
   have HR:=jA Lu;clear Lu ho32 hd iF;go_upto_region 32 with(fail);go_wp2_with (refine zq rfl _ 91 9 5 rfl underlying91 underlying5 underlying9 d 32 32 O Oy.symm rfl HR.u ?_)
   go_ret2
   rw [HRES.u,HE.u];exact⟨rfl,bel⟩
theorem jdh(B:Bytes)(w:m0)(hB:B.length<4611686018427387904):
 Calls prog 147 #[.string ⟨B.toArray⟩] w fun e w'=>e=.returned (.string ⟨(KS [] B).toArray⟩)∧O0 w.heap.size w w':=by
 have QK:=fun w=>jfg [] B w hB (by simp);have h0:jcx [] B=KS [] B:=rfl;rw [h0]at QK;have Q:=jA QK;clear QK h0 hB;go_enter Tryz.func147,Tryz.ntmps147;go_wp2_with (go_at_call 183;refine(Q.u _).mono ?_;rintro e w1 ⟨rfl,bv⟩);go_ret;exact⟨rfl,bv⟩
theorem jdg(L:Bytes)(oa:s0)(Ps:List Bytes)(cap:Nat)(w:m0)(hs:zg w oa Ps)(Ds:(Kl L Ps).length<9223372036854775808)(Gw:Ps.length<9223372036854775807):
 Calls prog 148 #[.string ⟨L.toArray⟩,.slice oa Ps.length cap] w fun e w'=>e=.returned (.string ⟨(Kl L Ps).toArray⟩)∧O0 w.heap.size w w':=by
 have HS:=jA hs;have HL:=jA Ds;clear hs Ds;have hsL:=zk L;have h1:=VL (L::Ps) 1;have e1:Km (L::Ps) 1=KD L.length++L:=by simp [Km]
 have WC:4+L.length<9223372036854775808:=by
  have:=HL.u;rw [e1,jZ,show(KD L.length).length=4 from rfl]at h1;exact qK h1 this
 have hsF:=zk (KD L.length);rw [show(KD L.length).length=4 from rfl]at hsF;have QF:=jA (jbp L.length w (by omega));clear h1;have E1:=jA e1;clear e1;go_enter Tryz.func148,Tryz.ntmps148;go_upto_region 2 with(go_at_call 184;refine QF.u.mono ?_;rintro e w1 ⟨rfl,bv⟩);rw [Vg,←E1.u];clear QF hsF hsL;go_upto_region 3 with(fail);go_loopw [5,15] (fun s i wr=> ∃k:Nat,k≤Ps.length∧s=.string ⟨(Km (L::Ps) (k+1)).toArray⟩∧i=.int .i64 k∧O0 w.heap.size w wr) (fun _ i _=>Ps.length-(intOf i).toNat);case atStart=>exact⟨0,by omega,rfl,rfl,bv⟩
 case round=>
 obtain⟨k,hk,rfl,rfl,bel⟩:=hrel;clear bv;by_cases ns:k<Ps.length
 ·have hd:decide ((k:Int)<(Ps.length:Int))=true:=by simp;omega
  obtain⟨a,Us,eu,Ft⟩:=(HS.u.below bel).cells k ns;obtain⟨x,hx⟩: ∃x,x=Ps[k]:=⟨_,rfl⟩;rw [←hx]at Ft;have By:=VL (L::Ps) (k+1+1);have az:=jcy (L::Ps) (k+1) (by simpa using ns);rw [show(L::Ps)[k+1]'(by simpa using ns)=x by rw [hx];rfl]at az;have h4:=jA (show(KD x.length).length=4 from rfl);have hjl2:(Km (L::Ps) (k+1)).length+4+x.length<9223372036854775808:=by
   have h1:=HL.u;rw [az,jZ,jZ,h4.u]at By;exact qK By h1
  have HJN:=jA az;clear By az hx;have s1:=zk (Km (L::Ps) (k+1));have s2:=zk (KD x.length);have s3:=zk x;have s4:=zk (Km (L::Ps) (k+1)++KD x.length);rw [jZ,h4.u]at s4;rw [h4.u]at s2;have QF:=jA (jbp x.length wr (by omega));subst Us;have am:=Vg (Km (L::Ps) (k+1)) (KD x.length);generalize Km (L::Ps) (k+1)=J at*;go_upto_region 6 with(go_at_call 184;refine QF.u.mono ?_;rintro e w3 ⟨rfl,Dx⟩);rw [Vg,←HJN.u];have ws:=bel.trans (Dx.mono bel.size);clear QF Ft Dx bel;go_wp2_with fail;go_roundw;case rel=>exact⟨k+1,by omega,rfl,by go_num,ws⟩
  case measure=>simp [intOf];omega
 ·have hd:decide ((k:Int)<(Ps.length:Int))=false:=by simp;omega
  obtain rfl:k=Ps.length:=by omega
  rw [jed];go_wp2_with fail;go_ret;exact⟨rfl,bel⟩
theorem jhQ(L:Bytes)(oa:s0)(Ps:List Bytes)(cap:Nat)(w:m0)(hs:zg w oa Ps)(Ds:(Kl L Ps).length<4611686018427387904)(Gw:Ps.length<9223372036854775807):
 Calls prog 105 #[.string ⟨L.toArray⟩,.slice oa Ps.length cap] w fun e w'=>e=.returned (.string ⟨(KS [] (Kl L Ps)).toArray⟩)∧O0 w.heap.size w w':=by
 have Q:=jA (jdg L oa Ps cap w hs (by omega) Gw);have Q2:=jA (fun w=>jdh (Kl L Ps) w Ds);clear hs Ds;go_enter Tryz.func105,Tryz.ntmps105;go_wp2_with (first
  |(go_at_call 148;refine Q.u.mono ?_;rintro e w1 ⟨rfl,bv⟩)
  |(go_at_call 147;refine(Q2.u _).mono ?_;rintro e w2 ⟨rfl,Ut⟩))
 go_ret;exact⟨rfl,bv.trans (Ut.mono bv.size)⟩
end Go.Proofs.YtnohcdpnnhmpfaaGreatDoor
namespace Go.Proofs.YtnohcdpnnhmpfaaGreatDoor
open Go.RowKit Tryz ML FM AU CT
def Jv(c:yH):Int:=if yz c=true then 2 else 0
theorem jap(c:yH)(oa:s0)(cap:Nat)(w:m0)(Gw:c.op.length<9223372036854775807):
 Calls prog 76 #[.agg (c.cells oa cap).toArray] w fun e w'=>e=.returned (.int .i64 (Jv c))∧O0 w.heap.size w w':=by
 have hC:(c.cells oa cap).toArray= #[.string ⟨c.nm.toArray⟩,.slice oa c.op.length cap,.int .i64 c.rl,.int .i64 c.se,.int .i64 c.mo]:=rfl;rw [hC];clear hC;go_enter Tryz.func76,Tryz.ntmps76;go_upto_region 1 with(fail);generalize hB:w.heap.size=B at*;refine Go.bxE hB ?_;intro w1 ts;have HB:=jA hB;have B1:=jA ts.1;have mt:B<w1.heap.size:=xZ ts.2;have k0:w1.cell? ⟨B,0,none⟩=some (.string ⟨c.nm.toArray⟩):=jM w1 B 0 _ _ _ ts.2;have k1:w1.cell? ⟨B,1,none⟩=some (.slice oa c.op.length cap):=jM w1 B 1 _ _ _ ts.2;have k2:w1.cell? ⟨B,2,none⟩=some (.int .i64 c.rl):=jM w1 B 2 _ _ _ ts.2;have k3:w1.cell? ⟨B,3,none⟩=some (.int .i64 c.se):=jM w1 B 3 _ _ _ ts.2;clear hB ts;clear k0;by_cases uu:c.op.length<1
 ·have DV:decide ((c.op.length:Int)<1)=true:=jT (by omega);have pV:decide (c.op.length<1)=true:=jT uu;have hW:=jA (show Jv c=2 from jP (jT (by omega)));clear uu;go_wp2_with fail;go_ret;exact⟨by first|rfl|(rw [hW.u];rfl),by rw [HB.u];exact B1.u⟩
 have DV:decide ((c.op.length:Int)<1)=false:=jS (by omega);have pV:decide (c.op.length<1)=false:=jS uu;by_cases Tv:12<c.op.length
 ·have BV:decide (12<(c.op.length:Int))=true:=jT (by omega);have nV:decide (12<c.op.length)=true:=jT Tv;have hW:=jA (show Jv c=2 from jP (jT (by omega)));clear uu Tv;go_wp2_with fail;go_ret;exact⟨by first|rfl|(rw [hW.u];rfl),by rw [HB.u];exact B1.u⟩
 have BV:decide (12<(c.op.length:Int))=false:=jS (by omega);have nV:decide (12<c.op.length)=false:=jS Tv;by_cases Ey:c.rl<1
 ·have AV:decide (c.rl<1)=true:=jT (by omega);have hW:=jA (show Jv c=2 from jP (jT (by omega)));clear uu Tv Ey;go_wp2_with fail;go_ret;exact⟨by first|rfl|(rw [hW.u];rfl),by rw [HB.u];exact B1.u⟩
 have AV:decide (c.rl<1)=false:=jS (by omega);by_cases FO:4<c.rl
 ·have wV:decide (4<c.rl)=true:=jT (by omega);have hW:=jA (show Jv c=2 from jP (jT (by omega)));clear uu Tv Ey FO;go_wp2_with fail;go_ret;exact⟨by first|rfl|(rw [hW.u];rfl),by rw [HB.u];exact B1.u⟩
 have wV:decide (4<c.rl)=false:=jS (by omega);by_cases gU:c.se<1
 ·have uV:decide (c.se<1)=true:=jT (by omega);have hW:=jA (show Jv c=2 from jP (jT (by omega)));clear uu Tv Ey FO gU;go_wp2_with fail;go_ret;exact⟨by first|rfl|(rw [hW.u];rfl),by rw [HB.u];exact B1.u⟩
 have uV:decide (c.se<1)=false:=jS (by omega);by_cases gK:(c.op.length:Int)<c.se
 ·have sV:decide ((c.op.length:Int)<c.se)=true:=jT (by omega);have hW:=jA (show Jv c=2 from jP (jT (by omega)));clear uu Tv Ey FO gU gK;go_wp2_with fail;go_ret;exact⟨by first|rfl|(rw [hW.u];rfl),by rw [HB.u];exact B1.u⟩
 have sV:decide ((c.op.length:Int)<c.se)=false:=jS (by omega);have hW:=jA (show Jv c=0 from jQ (by rw [show yz c=false from jS (by omega)];decide));clear uu Tv Ey FO gU gK;go_wp2_with fail;go_ret;exact⟨by first|rfl|(rw [hW.u];rfl),by rw [HB.u];exact B1.u⟩
theorem jcl(c:yH)(lots:Bytes)(k:Nat)(oa:s0)(cap:Nat)(w:m0)(hs:zg w oa c.op)(hf:c.Fits lots)(hk:k<c.op.length)(Gw:c.op.length<9223372036854775807):
 Calls prog 61 #[.agg (c.cells oa cap).toArray,.string ⟨lots.toArray⟩,.int .i64 k] w fun e w'=>e=.returned (.string ⟨(Zs c lots k).toArray⟩)∧O0 w.heap.size w w':=by
 have hC:(c.cells oa cap).toArray= #[.string ⟨c.nm.toArray⟩,.slice oa c.op.length cap,.int .i64 c.rl,.int .i64 c.se,.int .i64 c.mo]:=rfl;rw [hC];clear hC;obtain⟨q,Us,Wy,Mv⟩:=hs.cells k hk;subst Us;have HJ:=jA (hf.join k hk);have mS:=jA (show Zs c lots k=KS [] (Kl jij [lots,c.nm,c.op.getD k []])from rfl);have ho:c.op.getD k []=c.op[k]:=by rw [jV,kL hk];rfl
 rw [ho]at HJ mS;clear ho hf hs;generalize c.op[k]=opt at*;have nu:(k:Int)<(c.op.length:Int):=by omega
 have HQC:=jA Mv;have hqk:=yI q k;clear Mv;go_enter Tryz.func61,Tryz.ntmps61;go_upto_region 1 with(fail);generalize hB:w.heap.size=B at*;refine Go.bxE hB ?_;intro w1 ts;have HB:=jA hB;have B1:=jA ts.1;have mt:B<w1.heap.size:=xZ ts.2;have k0:w1.cell? ⟨B,0,none⟩=some (.string ⟨c.nm.toArray⟩):=jM w1 B 0 _ _ _ ts.2;have k1:w1.cell? ⟨B,1,none⟩=some (.slice (some q) c.op.length cap):=jM w1 B 1 _ _ _ ts.2;have k2:w1.cell? ⟨B,2,none⟩=some (.int .i64 c.rl):=jM w1 B 2 _ _ _ ts.2;have k3:w1.cell? ⟨B,3,none⟩=some (.int .i64 c.se):=jM w1 B 3 _ _ _ ts.2;clear hB ts;have Mv:=(B1.u.cell (p:=q.add k) (by omega)).trans HQC.u;clear k2 k3;have QT:=jA (fun(g:Nat) (w6:m0) (h:w6.heap[g]?=some (.cells #[.string ⟨lots.toArray⟩,.string ⟨c.nm.toArray⟩,.string ⟨opt.toArray⟩] 9 (0,0)))=>jhQ jij (some ⟨g,0,none⟩) [lots,c.nm,opt] 3 w6 (jak h) HJ.u (by show 3<9223372036854775807;decide));rw [←mS.u]at QT;have QT2:=jA (QT.u w1.heap.size (w1.alloc (.cells #[.string ⟨lots.toArray⟩,.string ⟨c.nm.toArray⟩,.string ⟨opt.toArray⟩] 9)).drew (xh rfl));clear QT;refine Seg.xf (fun w'=> ∃m,w'=w1.drewN m) [] [0,1,2,3,4,5,6,7] 8 (by kernel_rfl) (by kernel_rfl) (fun _ _ d _ _ h=>by cases d<;>exact h) (⟨1,rfl⟩) ?_;simp only [jK,Seg.opAt,Seg.xu];repeat (any_goals (first|go_big_quiet_step (fail)|quiet_step (fail)))
 refine jR ?_;go_wp2_with (go_at_call 105;refine QT2.u.mono ?_;rintro e w2 ⟨rfl,b2⟩);go_ret;have ba:O0 w1.heap.size w1 (w1.alloc (.cells #[.string ⟨lots.toArray⟩,.string ⟨c.nm.toArray⟩,.string ⟨opt.toArray⟩] 9)).drew:=((jN _ _).alloc (jO _) _).drew;exact⟨rfl,by rw [HB.u];exact B1.u.trans ((ba.trans (b2.mono ba.size)).mono (jX mt))⟩
theorem jfi(c:yH)(lots:Bytes)(i k:Nat)(oa:s0)(cap:Nat)(w:m0)(hs:zg w oa c.op)(hf:c.Fits lots)(hi:i<c.op.length)(hk:k<c.op.length)(Gw:c.op.length<9223372036854775807):
 Calls prog 77 #[.agg (c.cells oa cap).toArray,.string ⟨lots.toArray⟩,.int .i64 i,.int .i64 k] w fun e w'=>e=.returned (.bool (jcT (Kr c lots) i k))∧O0 w.heap.size w w':=by
 have hC:(c.cells oa cap).toArray= #[.string ⟨c.nm.toArray⟩,.slice oa c.op.length cap,.int .i64 c.rl,.int .i64 c.se,.int .i64 c.mo]:=rfl;have Q1:=jA (fun w h=>jcl c lots i oa cap w h hf hi Gw);have Q2:=jA (fun w h=>jcl c lots k oa cap w h hf hk Gw);rw [hC]at Q1 Q2 ⊢;clear hC;have HS:=jA hs;have HA:=jA (show jcT (Kr c lots) i k=(Op.bytesLess (Zs c lots i) (Zs c lots k)||(Zs c lots i==Zs c lots k&&decide ((i:Int)<(k:Int))))from rfl);clear hs hf;generalize Zs c lots i=la at*;generalize Zs c lots k=lb at*;go_enter Tryz.func77,Tryz.ntmps77;go_upto_region 1 with(fail);generalize hB:w.heap.size=B at*;refine Go.bxE hB ?_;intro w1 ts;have HB:=jA hB;have B1:=jA ts.1;have X1:=jA ts.2;have mt:B<w1.heap.size:=xZ ts.2;have k0:w1.cell? ⟨B,0,none⟩=some (.string ⟨c.nm.toArray⟩):=jM w1 B 0 _ _ _ ts.2;have k1:w1.cell? ⟨B,1,none⟩=some (.slice oa c.op.length cap):=jM w1 B 1 _ _ _ ts.2;have k2:w1.cell? ⟨B,2,none⟩=some (.int .i64 c.rl):=jM w1 B 2 _ _ _ ts.2;have k3:w1.cell? ⟨B,3,none⟩=some (.int .i64 c.se):=jM w1 B 3 _ _ _ ts.2;clear hB ts;clear k0 k1 k2 k3;obtain⟨M,hM⟩: ∃M,M=w1.heap.size:=⟨_,rfl⟩;have nt:O0 M w1 w1.drew:=(jN _ _).drew;have Gy:B<M:=by omega
 have QL1:=jA (fun w' (hx:O0 M w1 w')=>Q1.u w' ((HS.u.below (HB.u.symm▸B1.u)).below (hM▸hx)));have sP:=jA (fun w' (hx:O0 M w1 w')=>Q2.u w' ((HS.u.below (HB.u.symm▸B1.u)).below (hM▸hx)));have HM:=jA hM;clear hM Q1 Q2 mt;refine Seg.xf (fun w'=> ∃x:xj M w1,w'=x.w) [([0,1,2,4,5,6],3)] [] 7 (by kernel_rfl) (by kernel_rfl) (fun _ _ d _ _ h=>by cases d<;>exact h) (⟨⟨_,nt⟩,rfl⟩) ?_;simp only [jK,Seg.opAt,Seg.xu];refine yY rfl 24 _ rfl B #[.string ⟨c.nm.toArray⟩,.slice oa c.op.length cap,.int .i64 c.rl,.int .i64 c.se,.int .i64 c.mo] _ _ _ rfl X1.u Gy underlying24 rfl xt ?_;iterate 2 first|go_big_quiet_step (fail)|quiet_step (fail)
 refine yY rfl 24 _ rfl B #[.string ⟨c.nm.toArray⟩,.slice oa c.op.length cap,.int .i64 c.rl,.int .i64 c.se,.int .i64 c.mo] _ _ _ rfl X1.u Gy underlying24 rfl xt ?_;iterate 2 first|go_big_quiet_step (fail)|quiet_step (fail)
 refine jR ?_;intro K hK;simp only [Region.wanted,jY];go_wp2_with (go_at_call 61;refine(QL1.u _ nt).mono ?_;rintro e w2 ⟨rfl,b2⟩);have Lv:=nt.trans (b2.mono (kh HM.u));refine hK _ _ ⟨⟨_,Lv⟩,rfl⟩ ?_;have eN:=jA Lv;clear hK K nt Lv b2 QL1;have QQ2:=jA (sP.u w2 eN.u);clear sP;have hMs:M≤w2.heap.size:=by have:=eN.u.size;rw [←HM.u]at this;exact this
 repeat (any_goals (first|go_big_quiet_step (fail)|quiet_step (fail)))
 refine jR ?_;by_cases Cy:(i:Int)<(k:Int)
 ·have d1:decide ((i:Int)<(k:Int))=true:=jT Cy;have d2:decide (i<k)=true:=jT (by omega);rw [d1]at HA;clear Cy;cases h1:Op.bytesLess la lb<;>cases h2:la==lb<;>rw [h1,h2]at HA
  all_goals
   have h1':=h1;have dP:=h2;clear h1' dP;go_wp2_with (go_at_call 61;refine QQ2.u.mono ?_;rintro e w3 ⟨rfl,b3⟩);go_ret;exact⟨by rw [HA.u];rfl,by rw [HB.u];exact B1.u.trans ((eN.u.mono (jX Gy)).trans (b3.mono (by omega)))⟩
 ·have d1:decide ((i:Int)<(k:Int))=false:=jS Cy;have d2:decide (i<k)=false:=jS (by omega);rw [d1]at HA;clear Cy;cases h1:Op.bytesLess la lb<;>cases h2:la==lb<;>rw [h1,h2]at HA
  all_goals
   go_wp2_with (go_at_call 61;refine QQ2.u.mono ?_;rintro e w3 ⟨rfl,b3⟩);go_ret;exact⟨by rw [HA.u];rfl,by rw [HB.u];exact B1.u.trans ((eN.u.mono (jX Gy)).trans (b3.mono (by omega)))⟩
end Go.Proofs.YtnohcdpnnhmpfaaGreatDoor
