/- (*folding).words: sixteen words out of the 64 bytes that are held. -/
import Derived.Test.YtnohcdpnnhmpfaaGreatDoorE09
set_option linter.all false
set_option maxRecDepth 100000
set_option maxHeartbeats 4000000
namespace Go.Proofs.YtnohcdpnnhmpfaaGreatDoor
open Go.RowKit Tryz ML FM
variable{P:Program}{a:Act}{b:Nat}{o:Oper}{w w1:m0}
theorem jod:(prog.info? 206).map (·.size)=some 64:=by kernel_rfl
theorem jdn(b:Nat)(H:List U)(n:Nat)(D:Bytes)(t:Nat)(w:m0)(hF:FoldAt b H n D t w):
 Calls prog 192 #[.pointer (some ⟨b,0,none⟩)] w fun e w'=>e=.returned (.agg (yF (yh D)))∧O0 w.heap.size w w':=by
 have HF:=jA hF;have oN:=jA hF.dl;have ns:b<w.heap.size:=xZ hF.blk;clear hF;go_enter Tryz.func192,Tryz.ntmps192;go_upto_region 1 with(fail);refine xr (fun w1=>O0 w.heap.size w w1∧FoldAt b H n D t w1∧w1.heap[w.heap.size]?=some (.cells (yF (List.replicate 16 0)) 235 (0,0))) ?_ (fun w1 ts=>?_);·refine⟨(jN _ _).alloc (jO _) _,HF.u.below ((jN _ _).alloc (jO _) _) ns,xh rfl⟩
 obtain⟨it,hf,hv⟩:=ts;have HI:=jA (show(prog.info? 206).map (·.size)=some (Lib.byteCells D).length by rw [yV,oN.u];exact jod);go_upto_region 2 with(refine wpList_load_mid rfl 206 _ rfl b 9 rfl (Lib.byteCells D) _ hf.rangeD underlying206 rfl HI.u ?_);generalize hB:w.heap.size=B at*;have HB:=jA hB;clear hB;go_loopw [9] (fun i wr=> ∃k:Nat,k≤64∧i=.int .i64 k∧O0 B w wr∧FoldAt b H n D t wr∧wr.heap[B]?=some (.cells (yF (yh (D.take k))) 235 (0,0))) (fun i _=>64-(intOf i).toNat);case atStart=>exact⟨0,by omega,rfl,it,hf,hv⟩
 case round=>
 obtain⟨k,hk,rfl,bel,S,hV⟩:=hrel;clear it hf hv;by_cases nO:k<64
 ·have hd64:decide ((k:Int)<64)=true:=by simp;omega
  have Ds:(Lib.byteCells D).toArray.size=64:=by simp [yV,oN.u]
  have CD:(Lib.byteCells D)[k]?=some (.int .u8 ((D.getD k 0).toNat:Int)):=by simp [Lib.byteCells,jV,oN.u,nO]
  have iZ: ∀w,(Instr.index 206 (.agg (Lib.byteCells D).toArray) (.int .i64 (k:Int))).run prog w=.ok (.int .u8 ((D.getD k 0).toNat:Int)) w:=fun w=>Ze w 206 5 64 _ .i64 .u8 k _ underlying206 nO ZN underlying5 (by simpa using CD);go_upto_region 4 with(fail);have Mt:=jbj D k;have hc:zL D k<256:=ZD D k;unfold zL at Mt hc;rw [jV]at Mt hc;clear CD iZ;generalize (D[k]?.getD 0).toNat=c at*;have c0:=ye hV (k/4) (by rw [zn];omega);have f0:=yw hV (k/4);obtain⟨q,hq⟩: ∃q,q=k/4:=⟨_,rfl⟩;obtain⟨r,hr⟩: ∃r,r=k%4:=⟨_,rfl⟩;rw [←hq]at Mt c0 f0;rw [←hr]at Mt;have wB:=jnQ (XG (D.take k) q) c (8*r) (by rw [hq,hr];exact jhz D k) hc (by omega);have hw:=jbz (D.take k) q (by omega);rw [hw]at c0;have q4:(k:Int)/4=(q:Int):=by omega
  have r4:(k:Int)%4=(r:Int):=by omega
  have q5:Int.tdiv (k:Int) 4=(q:Int):=by rw [Int.tdiv_eq_ediv_of_nonneg (by omega)];exact q4
  have r5:Int.tmod (k:Int) 4=(r:Int):=by rw [xX (by omega)];exact r4
  have hq16:q<16:=by omega
  have hr4:r<4:=by omega
  clear hq hr;clear hw;generalize BitVec.ofNat 32 (XG (D.take k) q+c*2^(8*r))=y0 at*;generalize BitVec.ofNat 32 (XG (D.take k) q)=x0 at*;have av:=jA Mt;clear Mt;refine Seg.xf (fun w'=> ∃n,w'=wr.drewN n) [] [0,1,2,3,4,5,6,7,8,9] 10 (by kernel_rfl) (by kernel_rfl) (fun _ _ d _ _ h=>by cases d<;>exact h) (⟨1,rfl⟩) ?_;simp only [jK,Seg.opAt,Seg.xu];repeat (any_goals (first|go_big_quiet_step (fail)|quiet_step (fail)))
  refine jR ?_;go_upto_region 5 with(fail);refine xr (fun w5=>O0 B w w5∧FoldAt b H n D t w5∧w5.heap[B]?=some (.cells (yF (yh (D.take (k+1)))) 235 (0,0))) ?_ (fun w5 UL=>?_)
  ·have ho:yG B wr ((wr.drewN 1).setCell ⟨B,q,none⟩ (.int .u32 (un y0))):=((yG.refl B wr).drewN 1).setCell _ _;refine⟨xl bel ho (jO _),S.only ho (by omega),?_⟩;rw [av.u];exact zU (w:=wr.drew) hV _ _
  obtain⟨b5,S5,hV5⟩:=UL;clear S bel hV c0 f0 av wB;go_wp2_with fail;go_roundw;case rel=>exact⟨k+1,by omega,by go_num,b5,S5,hV5⟩
  case measure=>simp [intOf];omega
 have hd64:decide ((k:Int)<64)=false:=by simp;omega
 obtain rfl:k=64:=by omega
 rw [je (by rw [oN.u];exact jO _)]at hV;have hs:=jA (show(prog.info? 235).map (·.size)=some (yF (yh D)).size by rw [yL,zn];exact JH);go_upto_region 6 with(fail);apply vB;refine xy rfl 235 _ rfl B (yF (yh D)) _ _ _ rfl hV underlying235 rfl hs.u ?_;refine xg rfl rfl 235 _ _ rfl B (yF (yh D)) (yF (yh D)) 235 rfl rfl hV rfl hs.u (yp _) ?_;intro w6 ho hp;go_wp2_with fail;refine jq (kB rfl _ w6 B _ _ _ _ rfl hp underlying235 rfl hs.u) rfl ⟨rfl,?_⟩;rw [HB.u];exact xl bel ho (jO _)
theorem jfY(b:Nat)(h0:List U)(T S:Bytes)(w:m0)(hT:Kn b h0 T w)(Ds:T.length+S.length<9223372036854775808):
 Calls prog 163 #[.pointer (some ⟨b,0,none⟩),.string ⟨S.toArray⟩] w fun e w'=>e=.returned (.tuple #[])∧Kn b h0 (T++S) w'∧w.grownBy w' (some b):=by
 have HT:=jA hT;have HL:=jA Ds;clear hT Ds;go_enter Tryz.func163,Tryz.ntmps163;go_wp2_with fail;go_loopw [1] (fun i wr=> ∃A R:Bytes,S=A++R∧i=.string ⟨R.toArray⟩∧Kn b h0 (T++A) wr∧w.grownBy wr (some b)) (fun i _=>match i with| .string s=>s.size|_=>0);case atStart=>exact⟨[],S,rfl,rfl,by simpa using HT.u,xk (yG.refl b w)⟩
 case round=>
 obtain⟨A,R,hAR,rfl,tk,gr⟩:=hrel;have Iu:=zk R;by_cases hR:R= []
 ·subst hR;simp only [qG]at hAR;subst hAR;go_wp2_with fail
  go_end0
  exact⟨rfl,tk,gr⟩
 have pu:0<R.length:=qh.2 hR;have Dy:decide (0<(R.length:Int))=true:=by simp;omega
 obtain⟨p,t,D,m,GK,F⟩:=tk.ex;have hb:=xZ F.blk;have fP:=F.cellAt;have fAt:=F.frozen 73
 go_upto_if 12 with(fail)
 go_cut [] (fun w'=> ∃p t D,Zz (T++A) p t D∧t<64∧FoldAt b (zo h0 (T++A) p) (64*p) D t w'∧w.grownBy w' (some b));case first=>
  by_cases ht:t=64
  ·subst ht;obtain⟨N,hN⟩: ∃N,N=64*p:=⟨_,rfl⟩;have ED:=jA (m.full h0);have mn:=jA m.next;have GO:N+64<9223372036854775808:=by
    have h1:=m.len;have h2:=HL.u;rw [hAR]at h2;simp only [jZ]at h1 h2;omega
   rw [←hN]at F ED;have HN:=jA hN;clear hN;have cN:=F.cellN;have fN:=F.frozen 8;have FF:=jA F;generalize zo h0 (T++A) p=H0 at*;clear F fP fAt tk GK;go_upto_region 3 with(fail);have mt:b<wr.heap.size:=hb;refine xr (fun w3=>FoldAt b H0 (N+64) D 64 w3∧yG b wr w3) ⟨by have:=FF.u.setN (N+64);simpa using this,(yG.refl b wr).setCell _ _⟩ (fun w3 mw=>?_);obtain⟨F3,o3⟩:=mw;clear cN fN FF;have Dx:b<w3.heap.size:=xZ F3.blk;have cN:=F3.cellN;have FF:=jA F3;clear F3;have iH:=jA (show(prog.info? 205).map (·.size)=some (H0.map uv).length by rw [kS,FF.u.hl];exact Jk);have QW:=jA (jdn b H0 (N+64) D 64 w3.drew (FF.u.drewN 1));refine Seg.xf (fun w'=> ∃x:xj w3.heap.size w3,w'=x.w) [([0,1,2,3,4,5,7,8,9,10],6),([],11)] [] 12 (by kernel_rfl) (by kernel_rfl) (fun _ _ d _ _ h=>by cases d<;>exact h) (jaV ((jN _ _).drew)) ?_;simp only [jK,Seg.opAt,Seg.xu];iterate 4 first|go_big_quiet_step (fail)|quiet_step (fail)
   refine Xr rfl 205 _ rfl b 0 (H0.map uv) _ rfl (fun w' Tt=>(FF.u.below (InB.below Tt) Dx).rangeH) underlying205 rfl iH.u ?_;iterate 5 first|go_big_quiet_step (fail)|quiet_step (fail)
   refine jR ?_;intro K hK;simp only [Region.wanted,jY];go_wp2_with (go_at_call 192;refine QW.u.mono ?_;rintro e w4 ⟨rfl,Fz⟩);have EA:O0 w3.heap.size w3 w4:=((jN _ _).drew).trans Fz;refine hK _ _ (jaV EA) ?_;clear hK K;refine jR ?_;intro K hK;simp only [Region.wanted,jY];have F4:=jA ((FF.u.drewN 1).below Fz Dx);have QP:=jA (jdO H0 (yh D) (N+64) false w4 F4.u.hl (zn D) (by have:=GO;omega));go_wp2_with (go_at_call 191;refine QP.u.mono ?_;rintro e w5 ⟨rfl,dD⟩);have bH:O0 w3.heap.size w3 w5:=EA.trans (dD.mono EA.size);refine hK _ _ (jaV bH) ?_;clear hK K;refine jR ?_;have F5:=jA (F4.u.below dD (jW Dx EA.size));have FT:(Jd H0 (yh D) (N+64) false).length=8:=by rw [Ql];exact F4.u.hl
   have gX:=jA FT;clear FT;have hsV:=jA (show(prog.info? 205).map (·.size)=some (yF (Jd H0 (yh D) (N+64) false)).size by rw [yL,gX.u];exact Jk);have OL:=jA (F5.u.there 0 (yF (Jd H0 (yh D) (N+64) false)).size (by rw [yL,gX.u];omega));go_upto_region 4 with(refine qm rfl 205 _ _ rfl b 0 (yF (Jd H0 (yh D) (N+64) false)) rfl rfl OL.u hsV.u (yp _) ?_);refine xr (fun w6=>FoldAt b (Jd H0 (yh D) (N+64) false) (N+64) D 64 w6∧yG b w5 w6) ⟨F5.u.setH _ gX.u,JZ b _ 0 w5⟩ (fun w6 Lw=>?_);obtain⟨F6,o6⟩:=Lw;have c6:=F6.cellAt;have f6:=F6.frozen 73;have FF6:=jA F6;have g6:w.grownBy w6 (some b):=Yb (Yb (Yb gr (xk o3)) (JE bH)) (xk o6);clear F6;go_wp2_with fail;go_meet;rw [ED.u,HN.u,←Nat.mul_succ]at FF6;exact⟨p+1,0,D,mn.u,by omega,by simpa using FF6.u.setAt 0,Yb g6 (xk ((yG.refl b w6).setCell _ _))⟩
  ·have Az:=m.le;have ht2:((t:Int)==64)=false:=by simp;omega
   have FF:=jA F;have mm:=jA m;clear F m;go_wp2_with fail;go_meet;exact⟨p,t,D,mm.u,by omega,FF.u,gr⟩
 case rest=>
 clear fP fAt tk GK m F gr hb;obtain⟨p,t,D,m,ht,F,gr⟩:=hcut;have hb:b<wc.heap.size:=xZ F.blk;have fP:=F.cellAt;have fAt:=F.frozen 73;have FF:=jA F;have mm:=jA m;have Tw:=F.dl;have OL:wc.drew.there b (9+t) (Nat.min (ByteArray.mk R.toArray).size (64-t)):=fun j hj=>(F.drewN 1).there (9+t) (64-t) (by omega) j (jW hj (Nat.min_le_right _ _));have wI:=jA OL;clear OL F m Tw;have HR:=jA hAR;clear hAR;have DG:(0:Int)≤t:=by omega
 have lJ:(t:Int)≤64:=by omega
 have rC:decide ((t:Int)≤64)=true:=by simp;omega
 go_upto_region 5 with(fail);refine Seg.xf (fun w'=> ∃n,w'=wc.drewN n) [] [0,1,2,3,4,5,6,7,8] 9 (by kernel_rfl) (by kernel_rfl) (fun _ _ d _ _ h=>by cases d<;>exact h) (⟨1,rfl⟩) ?_;simp only [jK,Seg.opAt,Seg.xu];repeat (any_goals (first|go_big_quiet_step (fail)|quiet_step (fail)))
 refine jR ?_;refine Yh rfl _ _ 91 9 rfl 5 underlying91 ZN b (9+t) (64-t) (64-t) ⟨R.toArray⟩ ?_ rfl wI.u ?_;·rfl
 generalize hk:Nat.min (ByteArray.mk R.toArray).size (64-t)=k at*;have gG:k=min R.length (64-t):=by rw [←hk,Iu]
 clear hk;obtain⟨E,hE⟩: ∃E,E=R.take k:=⟨_,rfl⟩;have hEl:E.length=k:=by rw [hE,jf];omega
 have hEd:List.take k (ByteArray.mk R.toArray).data.toList=E:=by rw [hE]
 rw [hEd];refine jmw (fun w6=>FoldAt b (zo h0 (T++A) p) (64*p) (D.take t++(E++D.drop (t+E.length))) t w6∧yG b wc w6) ⟨(FF.u.drewN 1).setD t E (by omega),((yG.refl b wc).drewN 1).trans (JZ b _ _ _)⟩ (fun w6 Lw=>?_);obtain⟨F6,o6⟩:=Lw;have fP:=F6.cellAt;have fAt:=F6.frozen 73;have FF6:=jA F6;clear F6 FF wI hEd;have hkR:k≤R.length:=by omega
 have hsum:t+k≤64:=by omega
 have iM:0<k:=by omega
 clear gG;go_upto_region 7 with(fail);refine xr (fun w7=>FoldAt b (zo h0 (T++A) p) (64*p) (D.take t++(E++D.drop (t+E.length))) (t+k) w7∧yG b wc w7) ⟨by have:=FF6.u.setAt (t+k);push_cast at this;exact this,o6.setCell _ _⟩ (fun w7 AG=>?_);obtain⟨F7,o7⟩:=AG;clear fP fAt FF6 o6;have F7:=jA F7;go_wp2_with fail;go_roundw;case rel=>
  rw [Yc];have hER:R=E++R.drop k:=by rw [hE,qw]
  have m7:Zz (T++(A++E)) p (t+k) (D.take t++(E++D.drop (t+E.length))):=by
   have:=mm.u.more E (by omega);rw [kY]at this;rw [hEl]at this ⊢;exact this
  have f7:FoldAt b (zo h0 (T++(A++E)) p) (64*p) (D.take t++(E++D.drop (t+E.length))) (t+k) w7:=by
   rw [←kY,ZG _ _ _ p (by have:=mm.u.len;omega)];exact F7.u
  exact⟨A++E,R.drop k,by rw [HR.u,kY,←hER],rfl,⟨p,t+k,_,m7,Or.inr (by omega),f7⟩,Yb gr (xk o7)⟩
 case measure=>
  rw [Yc];show(ByteArray.mk (R.drop k).toArray).size<(ByteArray.mk R.toArray).size;rw [zk,zk,kQ];omega
theorem jdf(w:m0)(t e ty:o0)(z:n0)(ht:P.underlying t=some (.slice e))(hv: ∀w,(zeroValue e).run P w=.ok z w)(hz:z.cells= #[z])(h1:z.oneCell'=true)(b o n c:Nat)(hth:w.there b o n):
 (Builtin.clear_ #[t] ty #[.slice (some ⟨b,o,none⟩) n c]).run P w=.ok (.tuple #[]) (w.setCells b o (List.replicate n z)):=by
 by_cases hn:n=0
 ·subst hn;simp [Builtin.clear_,run_underlying ht,World.setCells]
 ·exact Lib.run_clear_slice w t e ty z ht hv hz h1 b o n c (by omega) (fun j hj=>(hth j hj).1) (fun j hj=>(hth j hj).2)
theorem YO{ops:Array Oper}{rest:List Oper}{Q:Exit→Act→m0→Prop}(tA:o.guard=none)(d:Operand)(dT e:o0)
 (ho:o.op=.call {callee:=.builtin .clear,args:= #[d],argTypes:= #[dT]}) (z:n0) (hu:P.underlying dT=some (.slice e)) (hv: ∀w,(zeroValue e).run P w=.ok z w) (hz:z.cells= #[z]) (h1:z.oneCell'=true)
 (g Du n cap:Nat) (hd:a.eval d=.slice (some ⟨g,Du,none⟩) n cap) (ht:w.there g Du n)
 (h:wpList P ops Q rest (a.put o.dst (.tuple #[])) (w.setCells g Du (List.replicate n z))):wpList P ops Q (o::rest) a w:=by
 refine wpList_plain tA fun K hK=>?_;have cF:=jdf (P:=P) w dT e o.type z hu hv hz h1 g Du n cap ht;unfold Oper.wp;simp [execOp,ho,resolve,invoke,builtin,hd,cF,Result.andThen];exact hK _ _ h
theorem jaJ{ops:Array Oper}{rest:List Oper}{Q:Exit→Act→m0→Prop}(tA:o.guard=none)(t:o0)(x y:Operand)
 (ho:o.op=.slice t x (some y) none none) (v:n0) (hr:(Instr.sliceAt t (a.eval x) (some (a.eval y)) none none).run P w=.ok v w) (h:wpList P ops Q rest (a.put o.dst v) w):wpList P ops Q (o::rest) a w:=by
 refine wpList_plain tA fun K hK=>?_;unfold Oper.wp;simp [execOp,ho,hr,Result.andThen];exact hK _ _ h
theorem jpc:prog.arrayLen 206=64∧prog.elem 206=5:=⟨by kernel_rfl,by kernel_rfl⟩
theorem jhI(b t:Nat)(ht:t≤64): ∃Du,(t=64∨Du=9+t)∧ ∀w,(Instr.sliceAt 206 (.pointer (some ⟨b,9,none⟩)) (some (.int .i64 (t:Int))) none none).run prog w=.ok (.slice (some ⟨b,Du,none⟩) (64-t) (64-t)) w:=by
 obtain⟨e1,e2⟩:=jpc;have hu:prog.underlying 206=some (.array (prog.arrayLen 206) (prog.elem 206)):=by rw [e1,e2];exact underlying206
 have hs: ∀w,(sizeOf 5).run prog w=.ok 1 w:=by
  intro w;have h:=ZN;cases hq:prog.info? 5 with
  |none=>simp [hq]at h
  |
   some i=>
   have hz:i.size=1:=by simpa [hq] using h
   simp [sizeOf,typeInfo,hq,hz]
 by_cases h64:t=64
 ·refine⟨9,.inl h64,fun w=>?_⟩;rw [run_sliceAt_array_l w _ _ hu .i64 (t:Int) (by omega) (by rw [e1];omega),e2,hs,e1];simp [slicedAt,h64]
 ·refine⟨9+t,.inr rfl,fun w=>?_⟩;rw [run_sliceAt_array_l w _ _ hu .i64 (t:Int) (by omega) (by rw [e1];omega),e2,hs,e1];have: ¬64=t:=fun h=>h64 h.symm;simp [slicedAt,this,Addr.add]
theorem jjw: ∀w:m0,(zeroValue 5).run prog w=.ok (.int .u8 0) w:=by
 intro w;have h:(prog.info? 5).map (·.zero)=some (some (.int .u8 0)):=by kernel_rfl
 cases hq:prog.info? 5 with
 |none=>simp [hq]at h
 |
  some i=>
  have hz:i.zero=some (.int .u8 0):=by simpa [hq] using h
  simp [zeroValue,typeInfo,hq,hz]
theorem jlh(X:Bytes)(n i:Nat):zL (X++List.replicate n 0) i=zL X i:=by
 unfold zL;rw [jV,jV];by_cases h:i<X.length;·rw [qZ h]
 ·rw [kZ (by omega),qU];rw [kR (l:=X) (by omega)];split<;>rfl
theorem jhy(X:Bytes)(n:Nat):yh (X++List.replicate n 0)=yh X:=by
 unfold yh XG;simp only [jlh]
def ZB(x:U):Bytes:= [UInt8.ofNat (x.toNat%256),UInt8.ofNat (x.toNat/256%256),UInt8.ofNat (x.toNat/65536%256),UInt8.ofNat (x.toNat/16777216%256)]
theorem jks(V:List U)(k:Nat)(h:k<V.length):Xg (V.take (k+1))=Xg (V.take k)++ZB V[k]:=by
 unfold Xg;rw [jh h,vV,List.flatMap_singleton];rfl
theorem jgT(x:U):Lib.byteCells (ZB x)= [.int .u8 (un x%256),.int .u8 (un x/256%256),.int .u8 (un x/65536%256),.int .u8 (un x/16777216)]:=by
 have e: ∀n:Nat,n<256→((UInt8.ofNat n).toNat:Int)=(n:Int):=by
  intro n h;simp [kl h]
 unfold ZB Lib.byteCells un;simp only [jI,jJ];rw [e _ (by omega),e _ (by omega),e _ (by omega),e _ (by omega)];have h1:((x.toNat%256:Nat):Int)=(x.toNat:Int)%256:=by omega
 have h2:((x.toNat/256%256:Nat):Int)=(x.toNat:Int)/256%256:=by omega
 have h3:((x.toNat/65536%256:Nat):Int)=(x.toNat:Int)/65536%256:=by omega
 have h4:((x.toNat/16777216%256:Nat):Int)=(x.toNat:Int)/16777216:=by have:=x.isLt;omega
 rw [h1,h2,h3,h4]
theorem jok(b:Nat)(h0:List U)(T:Bytes)(w:m0)(hT:Kn b h0 T w)(Ds:T.length<9223372036854775808):
 Calls prog 165 #[.pointer (some ⟨b,0,none⟩)] w fun e w'=>e=.returned (.string ⟨(Xg (Vx h0 T)).toArray⟩)∧w.grownBy w' (some b):=by
 obtain⟨p,t,D,m,GK,F⟩:=hT.ex;have hp:=m.done GK;have hb:=xZ F.blk;have fP:=F.cellAt;have cN:=F.cellN;have fN:=F.frozen 8;have PN:=m.le;obtain⟨N,hN⟩: ∃N,N=64*p:=⟨_,rfl⟩;have hNt:T.length=N+t:=by rw [hN];exact m.len
 have GO:N+t<9223372036854775808:=by omega
 have aR:Vx h0 T=Jd (zo h0 T p) (yh (D.take t)) (N+t) true:=by
  rw [Vx,←hp,←m.held,hNt]
 rw [←hN]at F cN;have Tw:=F.dl;have dZ:=F.hl;have MP:=jA aR;have oN:=jA Tw;have FF:=jA F;clear hT m GK hp Ds hN hNt aR F dZ Tw;generalize zo h0 T p=H0 at*;go_enter Tryz.func165,Tryz.ntmps165;go_upto_region 1 with(fail);refine Seg.xf (fun w'=> ∃n,w'=w.drewN n) [] [0,1,2,3,4,5,6,7,8] 9 (by kernel_rfl) (by kernel_rfl) (fun _ _ d _ _ h=>by cases d<;>exact h) (⟨1,rfl⟩) ?_;simp only [jK,Seg.opAt,Seg.xu];repeat (any_goals (first|go_big_quiet_step (fail)|quiet_step (fail)))
 refine jR ?_;go_upto_region 2 with(fail);refine xr (fun w2=>FoldAt b H0 (N+t) D t w2∧yG b w w2) ⟨by have:=FF.u.setN (N+t);push_cast at this;exact this.drewN 1,((yG.refl b w).setCell _ _).drew⟩ (fun w2 lu=>?_);obtain⟨F2,o2⟩:=lu;clear fP cN fN FF;have fP:=F2.cellAt;have cN:=F2.cellN;have FF:=jA F2;have wI:=jA (F2.drewN 1 |>.there (9+t) (64-t) (by omega));clear F2;have DG:(0:Int)≤t:=by omega
 have lJ:(t:Int)≤64:=by omega
 have rC:decide ((t:Int)≤64)=true:=by simp;omega
 refine Seg.xf (fun w'=> ∃n,w'=w2.drewN n) [] [0,1,2,3,4,5,6] 7 (by kernel_rfl) (by kernel_rfl) (fun _ _ d _ _ h=>by cases d<;>exact h) (⟨1,rfl⟩) ?_;simp only [jK,Seg.opAt,Seg.xu];repeat (any_goals (first|go_big_quiet_step (fail)|quiet_step (fail)))
 refine jR ?_;obtain⟨Du,tC,MY⟩:=jhI b t PN;refine jaJ rfl 206 _ _ rfl _ (MY _) ?_;clear MY;refine YO rfl _ 91 5 rfl (.int .u8 0) underlying91 jjw rfl rfl b Du (64-t) (64-t) rfl ?_ ?_
 ·rcases tC with h|h;·subst h;intro j hj;omega
  ·subst h;exact wI.u
 skip;go_upto_region 3 with(fail);obtain⟨Z,hZ⟩: ∃Z:Bytes,Z=List.replicate (64-t) 0:=⟨_,rfl⟩;have hZl:Z.length=64-t:=by rw [hZ,vm]
 have hZc:List.replicate (64-t) (Value.int .u8 0)=Lib.byteCells Z:=by rw [hZ];simp [Lib.byteCells]
 obtain⟨D2,aP⟩: ∃D2,D2=D.take t++Z:=⟨_,rfl⟩;have hwD:yh (D.take t)=yh D2:=by rw [aP,hZ,jhy]
 refine xr (fun w3=>FoldAt b H0 (N+t) D2 t w3∧yG b w2 w3) ?_ (fun w3 mw=>?_)
 ·rw [hZc];refine⟨?_,((yG.refl b w2).drewN 1).trans (JZ b _ _ _)⟩;have e:(w2.drewN 1).setCells b Du (Lib.byteCells Z)=(w2.drewN 1).setCells b (9+t) (Lib.byteCells Z):=by
   rcases tC with h|h
   ·have:Z= []:=by rw [hZ,h];rfl
    subst this;rfl
   ·rw [h]
  show FoldAt b H0 (N+t) D2 t ((w2.drewN 1).setCells b Du (Lib.byteCells Z));rw [e];have:=(FF.u.drewN 1).setD t Z (by omega);rw [qX (by rw [oN.u];omega),qG,←aP]at this;exact this
 obtain⟨F3,o3⟩:=mw;clear hZc hZ hZl DG lJ rC wI FF fP cN;have Dx:b<w3.heap.size:=xZ F3.blk;have cN:=F3.cellN;have FF:=jA F3;have hg3:w.grownBy w3 (some b):=Yb (xk o2) (xk o3);clear F3 o2 o3 aP tC;obtain⟨M,hM⟩: ∃M,M=N+t:=⟨_,rfl⟩;rw [←hM]at FF cN GO MP;clear hM;rw [hwD]at MP;clear hwD oN;have iH:=jA (show(prog.info? 205).map (·.size)=some (H0.map uv).length by rw [kS,FF.u.hl];exact Jk);have QW:=jA (jdn b H0 M D2 t w3.drew (FF.u.drewN 1));refine Seg.xf (fun w'=> ∃x:xj w3.heap.size w3,w'=x.w) [([0,1,2,3,4,5,7,8,9,10],6),([],11)] [] 12 (by kernel_rfl) (by kernel_rfl) (fun _ _ d _ _ h=>by cases d<;>exact h) (jaV ((jN _ _).drew)) ?_;simp only [jK,Seg.opAt,Seg.xu];iterate 4 first|go_big_quiet_step (fail)|quiet_step (fail)
 refine Xr rfl 205 _ rfl b 0 (H0.map uv) _ rfl (fun w' Tt=>(FF.u.below (InB.below Tt) Dx).rangeH) underlying205 rfl iH.u ?_;iterate 5 first|go_big_quiet_step (fail)|quiet_step (fail)
 refine jR ?_;intro K hK;simp only [Region.wanted,jY];go_wp2_with (go_at_call 192;refine QW.u.mono ?_;rintro e w4 ⟨rfl,Fz⟩);have EA:O0 w3.heap.size w3 w4:=((jN _ _).drew).trans Fz;refine hK _ _ (jaV EA) ?_;clear hK K;refine jR ?_;intro K hK;simp only [Region.wanted,jY];have F4:=jA ((FF.u.drewN 1).below Fz Dx);have QP:=jA (jdO H0 (yh D2) M true w4 F4.u.hl (zn D2) (by have:=GO;omega));go_wp2_with (go_at_call 191;refine QP.u.mono ?_;rintro e w5 ⟨rfl,dD⟩);have bH:O0 w3.heap.size w3 w5:=EA.trans (dD.mono EA.size);refine hK _ _ (jaV bH) ?_;clear hK K;refine jR ?_;have F5:=jA (F4.u.below dD (jW Dx EA.size));have FT:(Jd H0 (yh D2) M true).length=8:=by rw [Ql];exact F4.u.hl
 have hsV:=jA (show(prog.info? 205).map (·.size)=some (yF (Jd H0 (yh D2) M true)).size by rw [yL,FT];exact Jk);have OL:=jA (F5.u.there 0 (yF (Jd H0 (yh D2) M true)).size (by rw [yL,FT];omega));have gX:=jA FT;clear FT;go_upto_region 4 with(refine qm rfl 205 _ _ rfl b 0 (yF (Jd H0 (yh D2) M true)) rfl rfl OL.u hsV.u (yp _) ?_);refine xr (fun w6=>FoldAt b (Jd H0 (yh D2) M true) M D2 t w6∧yG b w5 w6) ⟨F5.u.setH _ gX.u,JZ b _ 0 w5⟩ (fun w6 Lw=>?_);obtain⟨F6,o6⟩:=Lw;have g6:=jA (Yb (Yb hg3 (JE bH)) (xk o6));rw [←MP.u]at F6;have dZ:(Vx h0 T).length=8:=by rw [MP.u];exact gX.u
 clear MP QP QW F4 F5 hsV OL gX Fz EA dD bH o6 FF hg3 iH cN;obtain⟨V,hV⟩: ∃V,V=Vx h0 T:=⟨_,rfl⟩;rw [←hV]at F6 dZ;have HV:=jA hV;clear hV;have DA:b<w6.heap.size:=xZ F6.blk;obtain⟨i0,hi,Is,Ts,Ns⟩:=info_parts ZT;have HI:=jA hi;have Dt:=jA Is;have Ct:=jA Ts;have Bt:=jA Ns;clear hi Is Ts Ns;go_upto_region 5 with(refine wpList_make_own _ rfl _ _ 91 rfl w6.heap.size 5 i0 (.int .u8 0) 1 underlying91 HI.u Dt.u Ct.u .i64 .i64 32 32 rfl rfl rfl (by rw [Bt.u];decide) (by decide) (jO _) ?_);intro w7 Iv aA;have F7:FoldAt b V M D2 t w7:=F6.kept (aA.block b DA (by simp));have oH:O0 w6.heap.size w6 w7:=(jN _ _).grown aA (jO _) (by simp);have iV:=jA (show(prog.info? 205).map (·.size)=some (V.map uv).length by rw [kS,dZ];exact Jk);clear F6 aA;generalize hB:w6.heap.size=B at*;go_upto_region 6 with(refine wpList_load_mid rfl 205 _ rfl b 0 rfl (V.map uv) _ F7.rangeH underlying205 rfl iV.u ?_);have HB:=jA hB;clear hB iV F7;go_loopw [3,45] (fun v i wr=> ∃k:Nat,k≤8∧i=.int .i64 k∧O0 B w6 wr∧wr.ownsRow B 5 1 v (4*k) (Lib.byteCells (Xg (V.take k)))) (fun _ i _=>8-(intOf i).toNat);case atStart=>exact⟨0,by omega,rfl,oH,Iv⟩
 case round=>
 obtain⟨k,hk,rfl,bel,own⟩:=hrel;clear oH Iv;by_cases ns:k<8
 ·have lI:decide ((k:Int)<8)=true:=by simp;omega
  have dI:k<V.length:=by omega
  have CD:(V.map uv)[k]?=some (.int .u32 (un V[k])):=by simp [dI,uv]
  have iZ: ∀w,(Instr.index 205 (.agg (V.map uv).toArray) (.int .i64 (k:Int))).run prog w=.ok (.int .u32 (un V[k])) w:=fun w=>Ze w 205 180 8 _ .i64 .u32 k _ underlying205 ns jch underlying180 (by simpa using CD);go_upto_region 8 with(fail);have Sz:=jA (jks V k dI);have hfc:=jA (jgT V[k]);have nt:=Xw V[k];have Fw:=jfV V[k];have Ux:(Xg (V.take k)).length=4*k:=by rw [Yz,jf];omega
  have wK:B≤wr.heap.size:=by have:=bel.size;rw [HB.u]at this;exact this
  clear CD iZ lI Ux;generalize V[k]=y at*;generalize un y=x at*;go_upto_region 9 with(at_builtin;refine kV _ rfl (.tmp 48) (.tmp 60) 91 rfl B 5 i0 (.int .u8 0) 1 1 underlying91 HI.u Dt.u Ct.u Bt.u rfl (by decide) u3 (4*k) _ rfl (own.alloc _) ⟨wr.heap.size,0,none⟩ 4 4 [.int .u8 (x%256),.int .u8 (x/256%256),.int .u8 (x/65536%256),.int .u8 (x/16777216)] rfl rfl ?c1 ?c2 ?c3 ?c4 ?c5 ?_);case c1=>exact Yv wr _ _ _ rfl
  case c2=>simp [Value.oneCell']
  case c3=>unfold maxLen;omega
  case c4=>omega
  case c5=>simp;omega
  intro v9 w9 mC OJ _;have Nu:O0 B w6 w9:=(bel.alloc (by have:=bel.size;rw [HB.u]at this;exact this) _).grown OJ (by have:=bel.size;rw [HB.u]at this;simp;omega) (fun q hq=>(own.lt q hq).1);rw [←hfc.u,show Lib.byteCells (Xg (V.take k))++Lib.byteCells (ZB y)=Lib.byteCells (Xg (V.take k)++ZB y)by simp [Lib.byteCells],←Sz.u]at mC;have OWN9:=jA mC;have BEL9:=jA Nu;clear mC Nu own bel OJ hfc;go_wp2_with fail;go_roundw;case rel=>exact⟨k+1,by omega,by go_num,BEL9.u,by rw [show 4* (k+1)=4*k+4 by omega];exact OWN9.u⟩
  case measure=>simp [intOf];omega
 have lI:decide ((k:Int)<8)=false:=by simp;omega
 obtain rfl:k=8:=by omega
 rw [je (by omega)]at own;have Ux:(Xg V).length=32:=by rw [Yz];omega
 obtain⟨g,cap,Es,rfl,hBg,hgh,fK,hmax,Dz,gJ⟩:=own.2.resolve_left (by rintro⟨_,h⟩;omega);have Lu:wr.rangeAt g 0 (Lib.byteCells (Xg V)):=fun j v hj=>by
  have:=own.cells (g:=g) rfl j v hj;rw [show(⟨g,0,none⟩:Addr).add j=⟨g,0+j,none⟩by unfold Addr.add;split<;>simp_all]at this;exact this
 have HR:=jA Lu;clear Lu own hgh gJ;go_wp2_with (refine zq rfl _ 91 9 5 rfl underlying91 underlying5 underlying9 g cap 32 (Xg V) Ux.symm rfl HR.u ?_);go_ret;refine⟨?_,Yb g6.u (JE (HB.u▸bel))⟩;rw [←HV.u];rfl
def jbi:Bytes:=List.replicate 64 0
def jaF:t0:=(yu ivL 0 jbi 0).toArray
theorem jam:(prog.info? 208).map (·.size)=some 74:=by kernel_rfl
def Qg:t0:=(yu (List.replicate 8 0) 0 jbi 0).toArray
theorem FoldAt.setW{H:List U}{n:Nat}{D:Bytes}{t:Nat}(h:FoldAt b H n D t w)(i:Nat)(hi:i<8)(x:U):FoldAt b (H.set i x) n D t (w.setCell ⟨b,i,none⟩ (.int .u32 (un x))):=by
 refine⟨?_,by rw [kE];exact h.hl,h.dl⟩;rw [jd w b i _ _ _ h.blk];congr 2;have hl:=h.hl;simp only [yu,vJ];rw [List.set_append_left _ _ (by simp [hl];exact hi),vC];rfl
theorem jae: ∀w:m0,(zeroValue 208).run prog w=.ok (.agg Qg) w:=by
 intro w;have h:(prog.info? 208).map (·.zero)=some (some (.agg Qg)):=by kernel_rfl
 cases hq:prog.info? 208 with
 |none=>simp [hq]at h
 |
  some i=>
  have hz:i.zero=some (.agg Qg):=by simpa [hq] using h
  simp [zeroValue,typeInfo,hq,hz]
theorem jlk(K:Bytes)(w:m0)(hK:K.length≤64):
 Calls prog 162 #[.string ⟨K.toArray⟩] w fun e w'=> ∃D t,e=.returned (.agg (yu (JP K.length) 0 D t).toArray)∧Zz (zS K) 0 t D∧(zS K= []∨0<t)∧O0 w.heap.size w w':=by
 have HK:=jA hK;have Iu:=zk K;clear hK;have hzf:=jae;go_enter Tryz.func162,Tryz.ntmps162;have hsF:=jA (show(prog.info? 208).map (·.size)=some jaF.size by kernel_rfl);have AD:=jA (show jaF.all (·.oneCell')=true by kernel_rfl);go_upto_region 2 with(first
  |(go_at_call 190;refine(jdv _).mono ?_;rintro e w1 ⟨rfl,bv⟩)
  |(refine wpList_build_v rfl 208 _ rfl [(0,.agg (yF ivL))] rfl jaF built_begin ?_)
  |(refine xg rfl rfl 208 _ _ rfl w1.heap.size Qg jaF 208 rfl rfl (xh rfl) rfl hsF.u AD.u ?_;intro w2 Wx Ru))
 have F2:FoldAt w1.heap.size ivL 0 jbi 0 w2:=⟨Ru,rfl,rfl⟩;have b2:O0 w.heap.size w w2:=(((jN _ _).alloc (jO _) _).trans (bv.mono (by simp))).trans (((jN _ _).alloc (by have:=bv.size;simp at this;omega) _).trans (Wx.below (by have:=bv.size;simp at this;omega)));have GE:w.heap.size<w1.heap.size:=by have:=bv.size;simp at this;omega
 have hR:w2.heap[w.heap.size]?=some (.cells Qg 208 (0,0)):=Wx.keep (by omega) (yM (xe bv (by simp) (xh rfl)));generalize w1.heap.size=B at*;clear Wx Ru bv;have c0:w2.cell? ⟨B,0,none⟩=some (.int .u32 (un (ivL.getD 0 0))):=F2.cell 0 (by omega);have f0:=F2.frozen 0;have x1:(K.length:Int)*256%4294967296=K.length*256:=by have:=HK.u;omega
 have r1:=jA (jcn (ivL.getD 0 0) (0x01010020+BitVec.ofNat 32 (256*K.length)));have pD:un (0x01010020+BitVec.ofNat 32 (256*K.length))=(16842784+(K.length:Int)*256)%4294967296:=by
  unfold un;rw [BitVec.toNat_add,vu];show((((16842784+256*K.length%4294967296)%4294967296:Nat)):Int)=_;omega
 have hH:=jA (show JP K.length=ivL.set 0 (ivL.getD 0 0 ^^^(0x01010020+BitVec.ofNat 32 (256*K.length)))from rfl);have r2:bits BinOp.xor IntKind.u32 (un (ivL.getD 0 0)) ((16842784+(K.length:Int)*256)%4294967296)=un (ivL.getD 0 0 ^^^(0x01010020+BitVec.ofNat 32 (256*K.length))):=by rw [←pD];exact r1.u
 have R2:=jA r2;clear pD r1 r2;generalize nt:ivL.getD 0 0=x0 at*;go_upto_region 3 with(fail);rw [R2.u];refine xr (fun w3=>FoldAt B (JP K.length) 0 jbi 0 w3∧yG B w2 w3) ⟨by rw [hH.u];exact F2.setW 0 (by omega) _,(yG.refl B w2).setCell _ _⟩ (fun w3 mw=>?_);obtain⟨F3,o3⟩:=mw;clear c0 f0 R2 nt x1 F2;have FF:=jA F3;clear F3
 go_upto_if 19 with(fail)
 go_cut [] (fun w'=> ∃D t,Zz (zS K) 0 t D∧(zS K= []∨0<t)∧FoldAt B (JP K.length) 0 D t w'∧yG B w2 w');case first=>
  by_cases sI:K= []
  ·subst sI;go_wp2_with fail;go_meet;exact⟨jbi,0,⟨rfl,by omega,rfl,rfl⟩,.inl rfl,FF.u,o3⟩
  ·have pu:0<K.length:=qh.2 sI;have OL:w3.there B 9 (Nat.min (ByteArray.mk K.toArray).size 64):=fun j hj=>FF.u.there 9 64 (by omega) j (jW hj (Nat.min_le_right _ _));have wI:=jA OL;clear OL;go_upto_region 5 with(refine Yh rfl _ _ 91 9 rfl 5 underlying91 ZN B 9 64 64 ⟨K.toArray⟩ rfl rfl wI.u ?_);have hmin:Nat.min (ByteArray.mk K.toArray).size 64=K.length:=by rw [Iu];exact kP HK.u
   have DJ:zS K=K++List.replicate (64-K.length) 0:=by unfold zS;rw [jQ sI]
   have dI:(zS K).length=64:=by rw [DJ,jZ,vm];have:=HK.u;omega
   have hkz:jbi.take 0++(K++jbi.drop (0+K.length))=zS K:=by rw [DJ,jbi,qu,vQ,List.drop_replicate,jv]
   have hdt:List.take K.length (ByteArray.mk K.toArray).data.toList=K:=by simp
   rw [hmin,hdt];refine xr (fun w4=>FoldAt B (JP K.length) 0 (zS K) 0 w4∧yG B w3 w4) ⟨by have:=FF.u.setD 0 K (by have:=HK.u;omega);rw [hkz]at this;exact this,JZ B _ _ _⟩ (fun w4 Gu=>?_);obtain⟨F4,o4⟩:=Gu;have c4:=F4.cellAt;have f4:=F4.frozen 73;have FF4:=jA F4;have HKL:=jA dI;clear F4 hkz DJ dI hmin hdt wI;go_wp2_with fail;go_meet;exact⟨zS K,64,⟨HKL.u,by omega,HKL.u,by rw [je (by rw [HKL.u];exact jO _)];rfl⟩,.inr (by omega),FF4.u.setAt 64,(o3.trans o4).trans ((yG.refl B w4).setCell _ _)⟩
 case rest=>
  clear FF o3;obtain⟨D,t,m,GK,F,o⟩:=hcut;obtain⟨row,Tx⟩: ∃row:t0,row=(yu (JP K.length) 0 D t).toArray:=⟨_,rfl⟩;have my:=F.blk;rw [←Tx]at my;have eT:row.size=74:=by rw [Tx];simp [Jz F.hl F.dl]
  have hs:=jA (show(prog.info? 208).map (·.size)=some row.size by rw [eT];exact jam);have CQ:row.all (·.oneCell')=true:=by
   rw [Tx];refine all_oneCell_toArray (fun v hv=>?_);simp only [yu,Lib.byteCells,jj,jo,jl,kD,kH]at hv;rcases hv with⟨x,_,rfl⟩|rfl|⟨x,_,rfl⟩|rfl<;>rfl
  have HO:=jA CQ;have HROW:=jA Tx;have HM:=jA m;have HT:=jA GK;have hR2:wc.heap[w.heap.size]?=some (.cells Qg 208 (0,0)):=o.keep (by omega) hR;have bel:=jA (b2.trans (o.below (by omega:w.heap.size≤B)));have WI:Qg.size=row.size:=by rw [eT];rfl
  have HZS:=jA WI;clear F CQ m GK Tx eT hR o WI;go_upto_region 6 with(fail);apply vB;refine xy rfl 208 _ rfl B row _ _ _ rfl my underlying208 rfl hs.u ?_;refine xg rfl rfl 208 _ _ rfl w.heap.size Qg row 208 rfl rfl hR2 HZS.u hs.u HO.u ?_;intro w6 ho hp;go_wp2_with fail;refine jq (kB rfl _ w6 w.heap.size _ _ _ _ rfl hp underlying208 rfl hs.u) rfl ⟨D,t,?_,HM.u,HT.u,xl bel.u ho (jO _)⟩;rw [HROW.u]
def jcx(K B:Bytes):Bytes:=if K.length≤32 then KS K B else []
def keyedE(K:Bytes):Int:=if K.length≤32 then 0 else 3
theorem jbO(K:Bytes)(h:K.length≤64):(zS K).length≤64:=by
 unfold zS;split;·simp
 ·simp;omega
theorem jbM(H:List U)(n:Nat)(D:Bytes)(t:Nat):(yu H n D t).toArray.all (·.oneCell')=true:=by
 refine all_oneCell_toArray (fun v hv=>?_);simp only [yu,Lib.byteCells,jj,jo,jl,kD,kH]at hv;rcases hv with⟨x,_,rfl⟩|rfl|⟨x,_,rfl⟩|rfl<;>rfl
def KD(n:Nat):Bytes:= [UInt8.ofNat (n/16777216%256),UInt8.ofNat (n/65536%256),UInt8.ofNat (n/256%256),UInt8.ofNat (n%256)]
theorem jbA(n:Nat):Lib.byteCells (KD n)= [.int .u8 ((n:Int)/16777216%256),.int .u8 ((n:Int)/65536%256),.int .u8 ((n:Int)/256%256),.int .u8 ((n:Int)%256)]:=by
 have e: ∀n:Nat,n<256→((UInt8.ofNat n).toNat:Int)=(n:Int):=by
  intro n h;simp [kl h]
 unfold KD Lib.byteCells;simp only [jI,jJ];rw [e _ (by omega),e _ (by omega),e _ (by omega),e _ (by omega)];have h1:((n/16777216%256:Nat):Int)=(n:Int)/16777216%256:=by omega
 have h2:((n/65536%256:Nat):Int)=(n:Int)/65536%256:=by omega
 have h3:((n/256%256:Nat):Int)=(n:Int)/256%256:=by omega
 have h4:((n%256:Nat):Int)=(n:Int)%256:=by omega
 rw [h1,h2,h3,h4]
theorem jkS(n:Nat)(w:m0)(hn:n<9223372036854775808):
 Calls prog 164 #[.int .i64 (n:Int)] w fun e w'=>e=.returned (.string ⟨(KD n).toArray⟩)∧O0 w.heap.size w w':=by
 have hc:=jA (jbA n);have h0:(0:Int)≤n:=by omega
 have h1:(n:Int)<9223372036854775808:=by omega
 go_enter Tryz.func164,Tryz.ntmps164;go_wp2_with (refine zq rfl _ 91 9 5 rfl underlying91 underlying5 underlying9 w.heap.size 4 4 (KD n) rfl rfl (by rw [hc.u];exact Xf (xh rfl)) ?_);go_ret;exact⟨rfl,(jN _ _).alloc (jO _) _⟩
theorem jbp(n:Nat)(w:m0)(hn:n<9223372036854775808):
 Calls prog 184 #[.int .i64 (n:Int)] w fun e w'=>e=.returned (.string ⟨(KD n).toArray⟩)∧O0 w.heap.size w w':=by
 have hc:=jA (jbA n);have h0:(0:Int)≤n:=by omega
 have h1:(n:Int)<9223372036854775808:=by omega
 go_enter Tryz.func184,Tryz.ntmps184;go_wp2_with (refine zq rfl _ 91 9 5 rfl underlying91 underlying5 underlying9 w.heap.size 4 4 (KD n) rfl rfl (by rw [hc.u];exact Xf (xh rfl)) ?_);go_ret;exact⟨rfl,(jN _ _).alloc (jO _) _⟩
structure zg(w:m0)(oa:s0)(Ps:List Bytes):Prop where
 cells: ∀i (h:i<Ps.length),∃a,oa=some a∧a.block<w.heap.size∧w.cell? (a.add i)=some (.string ⟨Ps[i].toArray⟩)
theorem jeE(a:Addr)(i:Nat):(a.add i).block=a.block:=by unfold Addr.add;split<;>rfl
theorem zg.below{oa:s0}{Ps:List Bytes}(h:zg w oa Ps)(hb:O0 w.heap.size w w1):zg w1 oa Ps:=⟨fun i hi=>by
 obtain⟨a,h1,h2,h3⟩:=h.cells i hi;exact⟨a,h1,jW h2 hb.size,by rw [hb.cell (by rw [jeE];exact h2)];exact h3⟩⟩
def Km(Xs:List Bytes)(k:Nat):Bytes:=(Xs.take k).flatMap fun x=>KD x.length++x
def Kl(L:Bytes)(Ps:List Bytes):Bytes:=(L::Ps).flatMap fun x=>KD x.length++x
theorem jcy(Xs:List Bytes)(k:Nat)(h:k<Xs.length):Km Xs (k+1)=Km Xs k++KD Xs[k].length++Xs[k]:=by
 unfold Km;rw [jh h,vV,List.flatMap_singleton,kY]
theorem jed(L:Bytes)(Ps:List Bytes):Km (L::Ps) (Ps.length+1)=Kl L Ps:=by
 unfold Km Kl;rw [je (by simp)]
theorem VL(Xs:List Bytes)(k:Nat):(Km Xs k).length≤(Xs.flatMap fun x=>KD x.length++x).length:=by
 conv=>rhs;rw [←qw k Xs,vV,jZ]
 exact Nat.le_add_right _ _
theorem Kn.below{h0:List U}{T:Bytes}{B:Nat}(h:Kn b h0 T w)(hb:O0 B w w1)(ns:b<B):Kn b h0 T w1:=by
 obtain⟨p,t,D,m,h1,F⟩:=h.ex;exact⟨p,t,D,m,h1,F.below hb ns⟩
theorem Kn.lt{h0:List U}{T:Bytes}(h:Kn b h0 T w):b<w.heap.size:=by
 obtain⟨p,t,D,m,h1,F⟩:=h.ex;exact xZ F.blk
theorem jnv(L:Bytes)(oa:s0)(Ps:List Bytes)(cap:Nat)(w:m0)(hs:zg w oa Ps)(Ds:(Kl L Ps).length<9223372036854775808)(Gw:Ps.length<9223372036854775807):
 Calls prog 113 #[.string ⟨L.toArray⟩,.slice oa Ps.length cap] w fun e w'=>e=.returned (.string ⟨(KS [] (Kl L Ps)).toArray⟩)∧O0 w.heap.size w w':=by
 have HS:=jA hs;have HL:=jA Ds;clear hs Ds;have hzf:=jae;have hH8:=jA (show(JP 0).length=8 by simp [JP,ivL]);have uS:=jA (show KS [] (Kl L Ps)=Xg (Vx (JP 0) (Kl L Ps))from rfl);go_enter Tryz.func113,Tryz.ntmps113;go_upto_region 1 with(fail);go_upto_region 2 with(first
  |(
   go_at_call 162;refine(jlk [] _ (by decide)).mono ?_;rintro e w1 ⟨D,t,rfl,hm,GK,bv⟩;have Tw:=hm.dl;have eT:(yu (JP 0) 0 D t).toArray.size=74:=by simp [Jz hH8.u Tw]
   have Iu:=jA (show(prog.info? 208).map (·.size)=some (yu (JP 0) 0 D t).toArray.size by rw [eT];exact jam);have WI:=jA (show Qg.size=(yu (JP 0) 0 D t).toArray.size by rw [eT];rfl);have WY:=jA (jbM (JP 0) 0 D t);clear eT)
  |(refine xg rfl rfl 208 _ _ rfl w1.heap.size Qg (yu (JP 0) 0 D t).toArray 208 rfl rfl (xh rfl) WI.u Iu.u WY.u ?_;intro w2 Wx Ru))
 have b2:O0 w.heap.size w w2:=(bv.alloc bv.size _).trans (Wx.below bv.size);have hb:w.heap.size≤w1.heap.size:=bv.size;generalize w1.heap.size=b at*;have TK:Kn b (JP 0) (Km (L::Ps) 0) w2:=⟨0,t,D,hm,GK,⟨Ru,hH8.u,Tw⟩⟩;clear bv Wx Ru hm GK Tw WY WI Iu;generalize JP 0=h0 at*;go_upto_region 3 with(fail);go_loopw [6] (fun i wr=> ∃(k:Nat) (z:Int),k≤Ps.length+1∧z=(k:Int)-1∧i=.int .i64 z∧Kn b h0 (Km (L::Ps) k) wr∧O0 w.heap.size w wr) (fun i _=>(Ps.length+1-(intOf i+1)).toNat);case atStart=>exact⟨0, -1,by omega,rfl,rfl,TK,b2⟩
 case round=>
 obtain⟨k,z,hk,hz,rfl,tk,bel⟩:=hrel;clear TK b2;by_cases ns:k<Ps.length+1
 ·have hd:decide (z<(Ps.length:Int))=true:=by simp;omega
  have hzl:z<(Ps.length:Int):=by omega
  obtain⟨x,hx⟩: ∃x,x=(L::Ps)[k]'(by simpa using ns):=⟨_,rfl⟩
  go_upto_if 17 with(fail)
  go_cut [7] (fun v w'=>v=.string ⟨x.toArray⟩∧w'=wr);case first=>
   cases k with
   |
    zero=>
    have Is:z= -1:=by omega
    subst Is;have lQ:x=L:=hx;subst lQ;clear hx hz;go_wp2_with fail;go_meet;exact⟨rfl,rfl⟩
   |
    succ m=>
    have hzm:z=(m:Int):=by omega
    subst hzm;have hm2:m<Ps.length:=by omega
    obtain⟨a,Us,eu,Ft⟩:=(HS.u.below bel).cells m hm2;have hxm:x=Ps[m]:=hx;rw [←hxm]at Ft;subst Us;clear hz hx hxm;go_wp2_with fail;go_meet;exact⟨rfl,rfl⟩
  case rest=>
  obtain⟨rfl,ou⟩:=hcut;replace ou:=ou.symm;subst ou;have By:=VL (L::Ps) (k+1);have az:=jcy (L::Ps) k (by simpa using ns);rw [←hx]at az;have hjl2:(Km (L::Ps) k).length+4+x.length<9223372036854775808:=by
   have h1:=HL.u;rw [az,jZ,jZ]at By;have h4:(KD x.length).length=4:=rfl;rw [h4]at By;exact qK By h1
  have HJN:=jA az;have HZ:=jA hz;have hzm:(-1:Int)≤z:=by omega
  have hzu:z+1≤9223372036854775807:=by omega
  clear By az hx hz;have hxs:=zk x;have QF:=jA (jkS x.length wr (by omega));have hf4:=jA (show(KD x.length).length=4 from rfl);go_upto_region 9 with(first
   |(
    go_at_call 164;refine QF.u.mono ?_;rintro e w3 ⟨rfl,Dx⟩;have tk3:=tk.below Dx tk.lt;have QT:=jA (jfY b h0 (Km (L::Ps) k) (KD x.length) w3 tk3 (by rw [hf4.u];omega)))
   |(go_at_call 163;refine QT.u.mono ?_;rintro e w4 ⟨rfl,tk4,hg4⟩))
  have Fs:O0 w.heap.size w w4:=(bel.trans (Dx.mono bel.size)).grown hg4 (jU bel.size Dx.size) (fun k hk=>by cases hk;exact hb);have QT2:=jA (jfY b h0 (Km (L::Ps) k++KD x.length) x w4 tk4 (by rw [jZ,hf4.u];omega));clear QT QF tk3 tk Dx hg4 bel tk4;go_wp2_with (go_at_call 163;refine QT2.u.mono ?_;rintro e w5 ⟨rfl,tk5,ru⟩);rw [←HJN.u]at tk5;have Gs:=Fs.grown ru Fs.size (fun k hk=>by cases hk;exact hb);clear QT2 HJN ru Fs;go_roundw;case rel=>exact⟨k+1,z+1,by omega,by have:=HZ.u;omega,by go_num,tk5,Gs⟩
  case measure=>have:=HZ.u;simp [intOf];omega
 ·have hd:decide (z<(Ps.length:Int))=false:=by simp;omega
  have hzl: ¬z<(Ps.length:Int):=by omega
  obtain rfl:k=Ps.length+1:=by omega
  rw [jed]at tk;have QE:=jA (jok b h0 (Kl L Ps) wr tk HL.u);go_wp2_with (go_at_call 165;refine QE.u.mono ?_;rintro e w4 ⟨rfl,hg4⟩);go_ret;refine⟨?_,bel.grown hg4 bel.size (fun k hk=>by cases hk;exact hb)⟩;rw [uS.u];rfl
theorem jon(L:Bytes)(oa:s0)(Ps:List Bytes)(cap:Nat)(w:m0)(hs:zg w oa Ps)(Ds:(Kl L Ps).length<9223372036854775808)(Gw:Ps.length<9223372036854775807):
 Calls prog 65 #[.string ⟨L.toArray⟩,.slice oa Ps.length cap] w fun e w'=>e=.returned (.string ⟨(KS [] (Kl L Ps)).toArray⟩)∧O0 w.heap.size w w':=by
 have Q:=jA (jnv L oa Ps cap w hs Ds Gw);clear hs Ds;go_enter Tryz.func65,Tryz.ntmps65;go_wp2_with (go_at_call 113;refine Q.u.mono ?_;rintro e w1 ⟨rfl,bv⟩);go_ret;exact⟨rfl,bv⟩
end Go.Proofs.YtnohcdpnnhmpfaaGreatDoor
