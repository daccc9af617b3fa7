/-
  (*folding).words: sixteen words out of the 64 bytes that are held.
  (*folding).take: any text is taken, piece by piece; the last piece is held back.
  (*folding).end: the last piece is folded, and the words are told as bytes.
  fold.begin: what a text is folded into, with a key of at most 64 bytes.
  What Keyed tells, its plain law.
  fold.four, the reference's Four: a number as four bytes.
  fold.tag, fold.Tag: the digest of a label and of parts.
-/
import Derived.Test.YtnohcdpnnhmpfaaGreatDoorQ15
set_option linter.unusedVariables false
set_option linter.unusedSimpArgs false
set_option maxRecDepth 100000
set_option maxHeartbeats 4000000
namespace Go.Proofs.YtnohcdpnnhmpfaaGreatDoor
open Go.RowKit Tryz ML FM
theorem jll:(prog.info? 206).map (·.size)=some 64:=by kernel_rfl
theorem jbR(b:Nat)(H:List U)(n:Nat)(D:Bytes)(t:Nat)(w:World)(hF:FoldAt b H n D t w):
 Calls prog 192 #[.pointer (some ⟨b,0,none⟩)] w fun e w'=>e=.returned (.agg (xj (yN D)))∧Below w.heap.size w w':=by
 have HF:=jA hF;have HDL:=jA hF.dl;have hlt:b<w.heap.size:=lt_of_heap hF.blk;clear hF;go_enter Tryz.func192,Tryz.ntmps192;go_upto_region 1 with(fail);refine xP (fun w1=>Below w.heap.size w w1∧FoldAt b H n D t w1∧w1.heap[w.heap.size]?=some (.cells (xj (List.replicate 16 0)) 235 (0,0))) ?_ (fun w1 hw1=>?_);·refine⟨(jN _ _).alloc (jO _) _,HF.u.below ((jN _ _).alloc (jO _) _) hlt,xN rfl⟩
 obtain⟨hbel,hf,hv⟩:=hw1;have HI:=jA (show(prog.info? 206).map (·.size)=some (Lib.byteCells D).length by rw [yH,HDL.u];exact jll);go_upto_region 2 with(refine wpList_load_mid rfl 206 _ rfl b 9 rfl (Lib.byteCells D) _ hf.rangeD underlying206 rfl HI.u ?_);generalize hB:w.heap.size=B at*;have HB:=jA hB;clear hB;go_loopw [9] (fun i wr=> ∃k:Nat,k≤64∧i=.int .i64 k∧Below B w wr∧FoldAt b H n D t wr∧wr.heap[B]?=some (.cells (xj (yN (D.take k))) 235 (0,0))) (fun i _=>64-(intOf i).toNat);case atStart=>exact⟨0,by omega,rfl,hbel,hf,hv⟩
 case round=>
 obtain⟨k,hk,rfl,bel,S,hV⟩:=hrel;clear hbel hf hv;by_cases hlt2:k<64
 ·have hd64:decide ((k:Int)<64)=true:=by simp;omega
  have hlen:(Lib.byteCells D).toArray.size=64:=by simp [yH,HDL.u]
  have hidx:(Lib.byteCells D)[k]?=some (.int .u8 ((D.getD k 0).toNat:Int)):=by simp [Lib.byteCells,jW,HDL.u,hlt2]
  have hix: ∀w,(Instr.index 206 (.agg (Lib.byteCells D).toArray) (.int .i64 (k:Int))).run prog w=.ok (.int .u8 ((D.getD k 0).toNat:Int)) w:=fun w=>Yd w 206 5 64 _ .i64 .u8 k _ underlying206 hlt2 YP underlying5 (by simpa using hidx);go_upto_region 4 with(fail);have hstep:=jad D k;have hc:yt D k<256:=YJ D k;unfold yt at hstep hc;rw [jW]at hstep hc;clear hidx hix;generalize (D[k]?.getD 0).toNat=c at*;have c0:=yK hV (k/4) (by rw [zK];omega);have f0:=ye hV (k/4);obtain⟨q,hq⟩: ∃q,q=k/4:=⟨_,rfl⟩;obtain⟨r,hr⟩: ∃r,r=k%4:=⟨_,rfl⟩;rw [←hq]at hstep c0 f0;rw [←hr]at hstep;have hor:=jla (VT (D.take k) q) c (8*r) (by rw [hq,hr];exact jfH D k) hc (by omega);have hw:=jat (D.take k) q (by omega);rw [hw]at c0;have q4:(k:Int)/4=(q:Int):=by omega
  have r4:(k:Int)%4=(r:Int):=by omega
  have q5:Int.tdiv (k:Int) 4=(q:Int):=by rw [Int.tdiv_eq_ediv_of_nonneg (by omega)];exact q4
  have r5:Int.tmod (k:Int) 4=(r:Int):=by rw [xI (by omega)];exact r4
  have hq16:q<16:=by omega
  have hr4:r<4:=by omega
  clear hq hr;clear hw;generalize BitVec.ofNat 32 (VT (D.take k) q+c*2^(8*r))=y0 at*;generalize BitVec.ofNat 32 (VT (D.take k) q)=x0 at*;have HST:=jA hstep;clear hstep;refine Seg.xL (fun w'=> ∃n,w'=wr.drewN n) [] [0,1,2,3,4,5,6,7,8,9] 10 (by kernel_rfl) (by kernel_rfl) (fun _ _ d _ _ h=>by cases d<;>exact h) (⟨1,rfl⟩) ?_;simp only [jK,Seg.opAt,Seg.xW];repeat (any_goals (first|go_big_quiet_step (fail)|quiet_step (fail)))
  refine jP ?_;go_upto_region 5 with(fail);refine xP (fun w5=>Below B w w5∧FoldAt b H n D t w5∧w5.heap[B]?=some (.cells (xj (yN (D.take (k+1)))) 235 (0,0))) ?_ (fun w5 hw5=>?_)
  ·have ho:xp B wr ((wr.drewN 1).setCell ⟨B,q,none⟩ (.int .u32 (un y0))):=((xp.refl B wr).drewN 1).setCell _ _;refine⟨xQ bel ho (jO _),S.only ho (by omega),?_⟩;rw [HST.u];exact zA (w:=wr.drew) hV _ _
  obtain⟨b5,S5,hV5⟩:=hw5;clear S bel hV c0 f0 HST hor;go_wp2_with fail;go_roundw;case rel=>exact⟨k+1,by omega,by go_num,b5,S5,hV5⟩
  case measure=>simp [intOf];omega
 have hd64:decide ((k:Int)<64)=false:=by simp;omega
 obtain rfl:k=64:=by omega
 rw [jc (by rw [HDL.u];exact jO _)]at hV;have hs:=jA (show(prog.info? 235).map (·.size)=some (xj (yN D)).size by rw [xt,zK];exact zl);go_upto_region 6 with(fail);apply qk;refine xi rfl 235 _ rfl B (xj (yN D)) _ _ _ rfl hV underlying235 rfl hs.u ?_;refine xM rfl rfl 235 _ _ rfl B (xj (yN D)) (xj (yN D)) 235 rfl rfl hV rfl hs.u (yU _) ?_;intro w6 ho hp;go_wp2_with fail;refine jm (jw rfl _ w6 B _ _ _ _ rfl hp underlying235 rfl hs.u) rfl ⟨rfl,?_⟩;rw [HB.u];exact xQ bel ho (jO _)
theorem jer(b:Nat)(h0:List U)(T S:Bytes)(w:World)(hT:KM b h0 T w)(hlen:T.length+S.length<9223372036854775808):
 Calls prog 163 #[.pointer (some ⟨b,0,none⟩),.string ⟨S.toArray⟩] w fun e w'=>e=.returned (.tuple #[])∧KM b h0 (T++S) w'∧w.grownBy w' (some b):=by
 have HT:=jA hT;have HL:=jA hlen;clear hT hlen;go_enter Tryz.func163,Tryz.ntmps163;go_wp2_with fail;go_loopw [1] (fun i wr=> ∃A R:Bytes,S=A++R∧i=.string ⟨R.toArray⟩∧KM b h0 (T++A) wr∧w.grownBy wr (some b)) (fun i _=>match i with| .string s=>s.size|_=>0);case atStart=>exact⟨[],S,rfl,rfl,by simpa using HT.u,xR (xp.refl b w)⟩
 case round=>
 obtain⟨A,R,hAR,rfl,tk,gr⟩:=hrel;have hsz:=zJ R;by_cases hR:R= []
 ·subst hR;simp only [qD]at hAR;subst hAR;go_wp2_with fail
  go_end0
  exact⟨rfl,tk,gr⟩
 have hpos:0<R.length:=qO.2 hR;have hd0:decide (0<(R.length:Int))=true:=by simp;omega
 obtain⟨p,t,D,m,h0t,F⟩:=tk.ex;have hb:=lt_of_heap F.blk;have cAt:=F.cellAt;have fAt:=F.frozen 73
 go_upto_if 12 with(fail)
 go_cut [] (fun w'=> ∃p t D,Yx (T++A) p t D∧t<64∧FoldAt b (zL h0 (T++A) p) (64*p) D t w'∧w.grownBy w' (some b));case first=>
  by_cases ht:t=64
  ·subst ht;obtain⟨N,hN⟩: ∃N,N=64*p:=⟨_,rfl⟩;have hfull:=jA (m.full h0);have mn:=jA m.next;have hb64:N+64<9223372036854775808:=by
    have h1:=m.len;have h2:=HL.u;rw [hAR]at h2;simp only [ja]at h1 h2;omega
   rw [←hN]at F hfull;have HN:=jA hN;clear hN;have cN:=F.cellN;have fN:=F.frozen 8;have FF:=jA F;generalize zL h0 (T++A) p=H0 at*;clear F cAt fAt tk h0t;go_upto_region 3 with(fail);have hBs:b<wr.heap.size:=hb;refine xP (fun w3=>FoldAt b H0 (N+64) D 64 w3∧xp b wr w3) ⟨by have:=FF.u.setN (N+64);simpa using this,(xp.refl b wr).setCell _ _⟩ (fun w3 hw3=>?_);obtain⟨F3,o3⟩:=hw3;clear cN fN FF;have hb3:b<w3.heap.size:=lt_of_heap F3.blk;have cN:=F3.cellN;have FF:=jA F3;clear F3;have iH:=jA (show(prog.info? 205).map (·.size)=some (H0.map uv).length by rw [jz,FF.u.hl];exact JN);have QW:=jA (jbR b H0 (N+64) D 64 w3.drew (FF.u.drewN 1));refine Seg.xL (fun w'=> ∃x:xS w3.heap.size w3,w'=x.w) [([0,1,2,3,4,5,7,8,9,10],6),([],11)] [] 12 (by kernel_rfl) (by kernel_rfl) (fun _ _ d _ _ h=>by cases d<;>exact h) (Zr ((jN _ _).drew)) ?_;simp only [jK,Seg.opAt,Seg.xW];first|go_big_quiet_step (fail)|quiet_step (fail)
   first|go_big_quiet_step (fail)|quiet_step (fail)
   first|go_big_quiet_step (fail)|quiet_step (fail)
   first|go_big_quiet_step (fail)|quiet_step (fail)
   refine Vy rfl 205 _ rfl b 0 (H0.map uv) _ rfl (fun w' hw'=>(FF.u.below (InB.below hw') hb3).rangeH) underlying205 rfl iH.u ?_;first|go_big_quiet_step (fail)|quiet_step (fail)
   first|go_big_quiet_step (fail)|quiet_step (fail)
   first|go_big_quiet_step (fail)|quiet_step (fail)
   first|go_big_quiet_step (fail)|quiet_step (fail)
   first|go_big_quiet_step (fail)|quiet_step (fail)
   refine jP ?_;intro K hK;simp only [Region.wanted,jY];go_wp2_with (go_at_call 192;refine QW.u.mono ?_;rintro e w4 ⟨rfl,hb4⟩);have hb4':Below w3.heap.size w3 w4:=((jN _ _).drew).trans hb4;refine hK _ _ (Zr hb4') ?_;clear hK K;refine jP ?_;intro K hK;simp only [Region.wanted,jY];have F4:=jA ((FF.u.drewN 1).below hb4 hb3);have QP:=jA (jcr H0 (yN D) (N+64) false w4 F4.u.hl (zK D) (by have:=hb64;omega));go_wp2_with (go_at_call 191;refine QP.u.mono ?_;rintro e w5 ⟨rfl,hb5⟩);have hb5':Below w3.heap.size w3 w5:=hb4'.trans (hb5.mono hb4'.size);refine hK _ _ (Zr hb5') ?_;clear hK K;refine jP ?_;have F5:=jA (F4.u.below hb5 (jV hb3 hb4'.size));have hl5:(JH H0 (yN D) (N+64) false).length=8:=by rw [Kr];exact F4.u.hl
   have HL5:=jA hl5;clear hl5;have hsV:=jA (show(prog.info? 205).map (·.size)=some (xj (JH H0 (yN D) (N+64) false)).size by rw [xt,HL5.u];exact JN);have thr:=jA (F5.u.there 0 (xj (JH H0 (yN D) (N+64) false)).size (by rw [xt,HL5.u];omega));go_upto_region 4 with(refine qR rfl 205 _ _ rfl b 0 (xj (JH H0 (yN D) (N+64) false)) rfl rfl thr.u hsV.u (yU _) ?_);refine xP (fun w6=>FoldAt b (JH H0 (yN D) (N+64) false) (N+64) D 64 w6∧xp b w5 w6) ⟨F5.u.setH _ HL5.u,JC b _ 0 w5⟩ (fun w6 hw6=>?_);obtain⟨F6,o6⟩:=hw6;have c6:=F6.cellAt;have f6:=F6.frozen 73;have FF6:=jA F6;have g6:w.grownBy w6 (some b):=Xh (Xh (Xh gr (xR o3)) (zg hb5')) (xR o6);clear F6;go_wp2_with fail;go_meet;rw [hfull.u,HN.u,←Nat.mul_succ]at FF6;exact⟨p+1,0,D,mn.u,by omega,by simpa using FF6.u.setAt 0,Xh g6 (xR ((xp.refl b w6).setCell _ _))⟩
  ·have hle:=m.le;have ht2:((t:Int)==64)=false:=by simp;omega
   have FF:=jA F;have mm:=jA m;clear F m;go_wp2_with fail;go_meet;exact⟨p,t,D,mm.u,by omega,FF.u,gr⟩
 case rest=>
 clear cAt fAt tk h0t m F gr hb;obtain⟨p,t,D,m,ht,F,gr⟩:=hcut;have hb:b<wc.heap.size:=lt_of_heap F.blk;have cAt:=F.cellAt;have fAt:=F.frozen 73;have FF:=jA F;have mm:=jA m;have hdl:=F.dl;have thr:wc.drew.there b (9+t) (Nat.min (ByteArray.mk R.toArray).size (64-t)):=fun j hj=>(F.drewN 1).there (9+t) (64-t) (by omega) j (jV hj (Nat.min_le_right _ _));have THR:=jA thr;clear thr F m hdl;have HR:=jA hAR;clear hAR;have hs0:(0:Int)≤t:=by omega
 have hs1:(t:Int)≤64:=by omega
 have hs2:decide ((t:Int)≤64)=true:=by simp;omega
 go_upto_region 5 with(fail);refine Seg.xL (fun w'=> ∃n,w'=wc.drewN n) [] [0,1,2,3,4,5,6,7,8] 9 (by kernel_rfl) (by kernel_rfl) (fun _ _ d _ _ h=>by cases d<;>exact h) (⟨1,rfl⟩) ?_;simp only [jK,Seg.opAt,Seg.xW];repeat (any_goals (first|go_big_quiet_step (fail)|quiet_step (fail)))
 refine jP ?_;refine Xp rfl _ _ 91 9 rfl 5 underlying91 YP b (9+t) (64-t) (64-t) ⟨R.toArray⟩ ?_ rfl THR.u ?_;·rfl
 generalize hk:Nat.min (ByteArray.mk R.toArray).size (64-t)=k at*;have hk2:k=min R.length (64-t):=by rw [←hk,hsz]
 clear hk;obtain⟨E,hE⟩: ∃E,E=R.take k:=⟨_,rfl⟩;have hEl:E.length=k:=by rw [hE,jX];omega
 have hEd:List.take k (ByteArray.mk R.toArray).data.toList=E:=by rw [hE]
 rw [hEd];refine jkd (fun w6=>FoldAt b (zL h0 (T++A) p) (64*p) (D.take t++(E++D.drop (t+E.length))) t w6∧xp b wc w6) ⟨(FF.u.drewN 1).setD t E (by omega),((xp.refl b wc).drewN 1).trans (JC b _ _ _)⟩ (fun w6 hw6=>?_);obtain⟨F6,o6⟩:=hw6;have cAt:=F6.cellAt;have fAt:=F6.frozen 73;have FF6:=jA F6;clear F6 FF THR hEd;have hkR:k≤R.length:=by omega
 have hsum:t+k≤64:=by omega
 have hk0:0<k:=by omega
 clear hk2;go_upto_region 7 with(fail);refine xP (fun w7=>FoldAt b (zL h0 (T++A) p) (64*p) (D.take t++(E++D.drop (t+E.length))) (t+k) w7∧xp b wc w7) ⟨by have:=FF6.u.setAt (t+k);push_cast at this;exact this,o6.setCell _ _⟩ (fun w7 hw7=>?_);obtain⟨F7,o7⟩:=hw7;clear cAt fAt FF6 o6;have F7:=jA F7;go_wp2_with fail;go_roundw;case rel=>
  rw [Xj];have hER:R=E++R.drop k:=by rw [hE,qf]
  have m7:Yx (T++(A++E)) p (t+k) (D.take t++(E++D.drop (t+E.length))):=by
   have:=mm.u.more E (by omega);rw [kS]at this;rw [hEl]at this ⊢;exact this
  have f7:FoldAt b (zL h0 (T++(A++E)) p) (64*p) (D.take t++(E++D.drop (t+E.length))) (t+k) w7:=by
   rw [←kS,YK _ _ _ p (by have:=mm.u.len;omega)];exact F7.u
  exact⟨A++E,R.drop k,by rw [HR.u,kS,←hER],rfl,⟨p,t+k,_,m7,Or.inr (by omega),f7⟩,Xh gr (xR o7)⟩
 case measure=>
  rw [Xj];show(ByteArray.mk (R.drop k).toArray).size<(ByteArray.mk R.toArray).size;rw [zJ,zJ,jq];omega
theorem jbH {P:Program}(w:World)(t e ty:TypeId)(z:Value)(ht:P.underlying t=some (.slice e))(hv: ∀w,(zeroValue e).run P w=.ok z w)(hz:z.cells= #[z])(h1:z.oneCell'=true)(b o n c:Nat)(hth:w.there b o n):
 (Builtin.clear_ #[t] ty #[.slice (some ⟨b,o,none⟩) n c]).run P w=.ok (.tuple #[]) (w.setCells b o (List.replicate n z)):=by
 by_cases hn:n=0
 ·subst hn;simp [Builtin.clear_,vK ht,World.setCells]
 ·exact Lib.run_clear_slice w t e ty z ht hv hz h1 b o n c (by omega) (fun j hj=>(hth j hj).1) (fun j hj=>(hth j hj).2)
theorem XT {P:Program}{w:World}{ops:Array Oper}{rest:List Oper}{o:Oper}{a:Act}{Q:Exit→Act→World→Prop}(hgd:o.guard=none)(d:Operand)(dT e:TypeId)
 (ho:o.op=.call {callee:=.builtin .clear,args:= #[d],argTypes:= #[dT]}) (z:Value) (hu:P.underlying dT=some (.slice e)) (hv: ∀w,(zeroValue e).run P w=.ok z w) (hz:z.cells= #[z]) (h1:z.oneCell'=true)
 (g off n cap:Nat) (hd:a.eval d=.slice (some ⟨g,off,none⟩) n cap) (ht:w.there g off n)
 (h:wpList P ops Q rest (a.put o.dst (.tuple #[])) (w.setCells g off (List.replicate n z))):wpList P ops Q (o::rest) a w:=by
 refine wpList_plain hgd fun K hK=>?_;have hrun:=jbH (P:=P) w dT e o.type z hu hv hz h1 g off n cap ht;unfold Oper.wp;simp [execOp,ho,resolve,invoke,builtin,hd,hrun,Result.andThen];exact hK _ _ h
theorem Zf {P:Program}{w:World}{ops:Array Oper}{rest:List Oper}{o:Oper}{a:Act}{Q:Exit→Act→World→Prop}(hgd:o.guard=none)(t:TypeId)(x y:Operand)
 (ho:o.op=.slice t x (some y) none none) (v:Value) (hr:(Instr.sliceAt t (a.eval x) (some (a.eval y)) none none).run P w=.ok v w) (h:wpList P ops Q rest (a.put o.dst v) w):wpList P ops Q (o::rest) a w:=by
 refine wpList_plain hgd fun K hK=>?_;unfold Oper.wp;simp [execOp,ho,hr,Result.andThen];exact hK _ _ h
theorem jmb:prog.arrayLen 206=64∧prog.elem 206=5:=⟨by kernel_rfl,by kernel_rfl⟩
theorem jfO(b t:Nat)(ht:t≤64): ∃off,(t=64∨off=9+t)∧ ∀w,(Instr.sliceAt 206 (.pointer (some ⟨b,9,none⟩)) (some (.int .i64 (t:Int))) none none).run prog w=.ok (.slice (some ⟨b,off,none⟩) (64-t) (64-t)) w:=by
 obtain⟨e1,e2⟩:=jmb;have hu:prog.underlying 206=some (.array (prog.arrayLen 206) (prog.elem 206)):=by rw [e1,e2];exact underlying206
 have hs: ∀w,(sizeOf 5).run prog w=.ok 1 w:=by
  intro w;have h:=YP;cases hq:prog.info? 5 with
  |none=>simp [hq]at h
  |
   some i=>
   have hz:i.size=1:=by simpa [hq] using h
   simp [sizeOf,typeInfo,hq,hz]
 by_cases h64:t=64
 ·refine⟨9,.inl h64,fun w=>?_⟩;rw [run_sliceAt_array_l w _ _ hu .i64 (t:Int) (by omega) (by rw [e1];omega),e2,hs,e1];simp [slicedAt,h64]
 ·refine⟨9+t,.inr rfl,fun w=>?_⟩;rw [run_sliceAt_array_l w _ _ hu .i64 (t:Int) (by omega) (by rw [e1];omega),e2,hs,e1];have: ¬64=t:=fun h=>h64 h.symm;simp [slicedAt,this,Addr.add]
theorem jhy: ∀w:World,(zeroValue 5).run prog w=.ok (.int .u8 0) w:=by
 intro w;have h:(prog.info? 5).map (·.zero)=some (some (.int .u8 0)):=by kernel_rfl
 cases hq:prog.info? 5 with
 |none=>simp [hq]at h
 |
  some i=>
  have hz:i.zero=some (.int .u8 0):=by simpa [hq] using h
  simp [zeroValue,typeInfo,hq,hz]
theorem jiY(X:Bytes)(n i:Nat):yt (X++List.replicate n 0) i=yt X i:=by
 unfold yt;rw [jW,jW];by_cases h:i<X.length;·rw [qJ h]
 ·rw [ke (by omega),qX];rw [kP (l:=X) (by omega)];split<;>rfl
theorem jfG(X:Bytes)(n:Nat):yN (X++List.replicate n 0)=yN X:=by
 unfold yN VT;simp only [jiY]
def YH(x:U):Bytes:= [UInt8.ofNat (x.toNat%256),UInt8.ofNat (x.toNat/256%256),UInt8.ofNat (x.toNat/65536%256),UInt8.ofNat (x.toNat/16777216%256)]
theorem jin(V:List U)(k:Nat)(h:k<V.length):Vm (V.take (k+1))=Vm (V.take k)++YH V[k]:=by
 unfold Vm;rw [jk h,vF,List.flatMap_singleton];rfl
theorem jfi(x:U):Lib.byteCells (YH x)= [.int .u8 (un x%256),.int .u8 (un x/256%256),.int .u8 (un x/65536%256),.int .u8 (un x/16777216)]:=by
 have e: ∀n:Nat,n<256→((UInt8.ofNat n).toNat:Int)=(n:Int):=by
  intro n h;simp [kV h]
 unfold YH Lib.byteCells un;simp only [jI,jJ];rw [e _ (by omega),e _ (by omega),e _ (by omega),e _ (by omega)];have h1:((x.toNat%256:Nat):Int)=(x.toNat:Int)%256:=by omega
 have h2:((x.toNat/256%256:Nat):Int)=(x.toNat:Int)/256%256:=by omega
 have h3:((x.toNat/65536%256:Nat):Int)=(x.toNat:Int)/65536%256:=by omega
 have h4:((x.toNat/16777216%256:Nat):Int)=(x.toNat:Int)/16777216:=by have:=x.isLt;omega
 rw [h1,h2,h3,h4]
theorem jls(b:Nat)(h0:List U)(T:Bytes)(w:World)(hT:KM b h0 T w)(hlen:T.length<9223372036854775808):
 Calls prog 165 #[.pointer (some ⟨b,0,none⟩)] w fun e w'=>e=.returned (.string ⟨(Vm (VM h0 T)).toArray⟩)∧w.grownBy w' (some b):=by
 obtain⟨p,t,D,m,h0t,F⟩:=hT.ex;have hp:=m.done h0t;have hb:=lt_of_heap F.blk;have cAt:=F.cellAt;have cN:=F.cellN;have fN:=F.frozen 8;have htl:=m.le;obtain⟨N,hN⟩: ∃N,N=64*p:=⟨_,rfl⟩;have hNt:T.length=N+t:=by rw [hN];exact m.len
 have hb64:N+t<9223372036854775808:=by omega
 have hfold:VM h0 T=JH (zL h0 T p) (yN (D.take t)) (N+t) true:=by
  rw [VM,←hp,←m.held,hNt]
 rw [←hN]at F cN;have hdl:=F.dl;have hl8:=F.hl;have HFO:=jA hfold;have HL8:=jA hl8;have HDL:=jA hdl;have FF:=jA F;clear hT m h0t hp hlen hN hNt hfold F hl8 hdl;generalize zL h0 T p=H0 at*;go_enter Tryz.func165,Tryz.ntmps165;go_upto_region 1 with(fail);refine Seg.xL (fun w'=> ∃n,w'=w.drewN n) [] [0,1,2,3,4,5,6,7,8] 9 (by kernel_rfl) (by kernel_rfl) (fun _ _ d _ _ h=>by cases d<;>exact h) (⟨1,rfl⟩) ?_;simp only [jK,Seg.opAt,Seg.xW];repeat (any_goals (first|go_big_quiet_step (fail)|quiet_step (fail)))
 refine jP ?_;go_upto_region 2 with(fail);refine xP (fun w2=>FoldAt b H0 (N+t) D t w2∧xp b w w2) ⟨by have:=FF.u.setN (N+t);push_cast at this;exact this.drewN 1,((xp.refl b w).setCell _ _).drew⟩ (fun w2 hw2=>?_);obtain⟨F2,o2⟩:=hw2;clear cAt cN fN FF;have cAt:=F2.cellAt;have cN:=F2.cellN;have FF:=jA F2;have THR:=jA (F2.drewN 1 |>.there (9+t) (64-t) (by omega));clear F2;have hs0:(0:Int)≤t:=by omega
 have hs1:(t:Int)≤64:=by omega
 have hs2:decide ((t:Int)≤64)=true:=by simp;omega
 refine Seg.xL (fun w'=> ∃n,w'=w2.drewN n) [] [0,1,2,3,4,5,6] 7 (by kernel_rfl) (by kernel_rfl) (fun _ _ d _ _ h=>by cases d<;>exact h) (⟨1,rfl⟩) ?_;simp only [jK,Seg.opAt,Seg.xW];repeat (any_goals (first|go_big_quiet_step (fail)|quiet_step (fail)))
 refine jP ?_;obtain⟨off,hoff,hsl⟩:=jfO b t htl;refine Zf rfl 206 _ _ rfl _ (hsl _) ?_;have HSL:=jA hsl;clear hsl;refine XT rfl _ 91 5 rfl (.int .u8 0) underlying91 jhy rfl rfl b off (64-t) (64-t) rfl ?_ ?_
 ·rcases hoff with h|h;·subst h;intro j hj;omega
  ·subst h;exact THR.u
 clear HSL;go_upto_region 3 with(fail);obtain⟨Z,hZ⟩: ∃Z:Bytes,Z=List.replicate (64-t) 0:=⟨_,rfl⟩;have hZl:Z.length=64-t:=by rw [hZ,vr]
 have hZc:List.replicate (64-t) (Value.int .u8 0)=Lib.byteCells Z:=by rw [hZ];simp [Lib.byteCells]
 obtain⟨D2,hD2⟩: ∃D2,D2=D.take t++Z:=⟨_,rfl⟩;have hwD:yN (D.take t)=yN D2:=by rw [hD2,hZ,jfG]
 refine xP (fun w3=>FoldAt b H0 (N+t) D2 t w3∧xp b w2 w3) ?_ (fun w3 hw3=>?_)
 ·rw [hZc];refine⟨?_,((xp.refl b w2).drewN 1).trans (JC b _ _ _)⟩;have e:(w2.drewN 1).setCells b off (Lib.byteCells Z)=(w2.drewN 1).setCells b (9+t) (Lib.byteCells Z):=by
   rcases hoff with h|h
   ·have:Z= []:=by rw [hZ,h];rfl
    subst this;rfl
   ·rw [h]
  show FoldAt b H0 (N+t) D2 t ((w2.drewN 1).setCells b off (Lib.byteCells Z));rw [e];have:=(FF.u.drewN 1).setD t Z (by omega);rw [qI (by rw [HDL.u];omega),qD,←hD2]at this;exact this
 obtain⟨F3,o3⟩:=hw3;clear hZc hZ hZl hs0 hs1 hs2 THR FF cAt cN;have hb3:b<w3.heap.size:=lt_of_heap F3.blk;have cN:=F3.cellN;have FF:=jA F3;have hg3:w.grownBy w3 (some b):=Xh (xR o2) (xR o3);clear F3 o2 o3 hD2 hoff;obtain⟨M,hM⟩: ∃M,M=N+t:=⟨_,rfl⟩;rw [←hM]at FF cN hb64 HFO;clear hM;rw [hwD]at HFO;clear hwD HDL HL8;have iH:=jA (show(prog.info? 205).map (·.size)=some (H0.map uv).length by rw [jz,FF.u.hl];exact JN);have QW:=jA (jbR b H0 M D2 t w3.drew (FF.u.drewN 1));refine Seg.xL (fun w'=> ∃x:xS w3.heap.size w3,w'=x.w) [([0,1,2,3,4,5,7,8,9,10],6),([],11)] [] 12 (by kernel_rfl) (by kernel_rfl) (fun _ _ d _ _ h=>by cases d<;>exact h) (Zr ((jN _ _).drew)) ?_;simp only [jK,Seg.opAt,Seg.xW];first|go_big_quiet_step (fail)|quiet_step (fail)
 first|go_big_quiet_step (fail)|quiet_step (fail)
 first|go_big_quiet_step (fail)|quiet_step (fail)
 first|go_big_quiet_step (fail)|quiet_step (fail)
 refine Vy rfl 205 _ rfl b 0 (H0.map uv) _ rfl (fun w' hw'=>(FF.u.below (InB.below hw') hb3).rangeH) underlying205 rfl iH.u ?_;first|go_big_quiet_step (fail)|quiet_step (fail)
 first|go_big_quiet_step (fail)|quiet_step (fail)
 first|go_big_quiet_step (fail)|quiet_step (fail)
 first|go_big_quiet_step (fail)|quiet_step (fail)
 first|go_big_quiet_step (fail)|quiet_step (fail)
 refine jP ?_;intro K hK;simp only [Region.wanted,jY];go_wp2_with (go_at_call 192;refine QW.u.mono ?_;rintro e w4 ⟨rfl,hb4⟩);have hb4':Below w3.heap.size w3 w4:=((jN _ _).drew).trans hb4;refine hK _ _ (Zr hb4') ?_;clear hK K;refine jP ?_;intro K hK;simp only [Region.wanted,jY];have F4:=jA ((FF.u.drewN 1).below hb4 hb3);have QP:=jA (jcr H0 (yN D2) M true w4 F4.u.hl (zK D2) (by have:=hb64;omega));go_wp2_with (go_at_call 191;refine QP.u.mono ?_;rintro e w5 ⟨rfl,hb5⟩);have hb5':Below w3.heap.size w3 w5:=hb4'.trans (hb5.mono hb4'.size);refine hK _ _ (Zr hb5') ?_;clear hK K;refine jP ?_;have F5:=jA (F4.u.below hb5 (jV hb3 hb4'.size));have hl5:(JH H0 (yN D2) M true).length=8:=by rw [Kr];exact F4.u.hl
 have hsV:=jA (show(prog.info? 205).map (·.size)=some (xj (JH H0 (yN D2) M true)).size by rw [xt,hl5];exact JN);have thr:=jA (F5.u.there 0 (xj (JH H0 (yN D2) M true)).size (by rw [xt,hl5];omega));have HL5:=jA hl5;clear hl5;go_upto_region 4 with(refine qR rfl 205 _ _ rfl b 0 (xj (JH H0 (yN D2) M true)) rfl rfl thr.u hsV.u (yU _) ?_);refine xP (fun w6=>FoldAt b (JH H0 (yN D2) M true) M D2 t w6∧xp b w5 w6) ⟨F5.u.setH _ HL5.u,JC b _ 0 w5⟩ (fun w6 hw6=>?_);obtain⟨F6,o6⟩:=hw6;have g6:=jA (Xh (Xh hg3 (zg hb5')) (xR o6));rw [←HFO.u]at F6;have hl8:(VM h0 T).length=8:=by rw [HFO.u];exact HL5.u
 clear HFO QP QW F4 F5 hsV thr HL5 hb4 hb4' hb5 hb5' o6 FF hg3 iH cN;obtain⟨V,hV⟩: ∃V,V=VM h0 T:=⟨_,rfl⟩;rw [←hV]at F6 hl8;have HV:=jA hV;clear hV;have hb6:b<w6.heap.size:=lt_of_heap F6.blk;obtain⟨i0,hi,hz0,hz1,hz2⟩:=info_parts YU;have HI:=jA hi;have HZ0:=jA hz0;have HZ1:=jA hz1;have HZ2:=jA hz2;clear hi hz0 hz1 hz2;go_upto_region 5 with(refine wpList_make_own _ rfl _ _ 91 rfl w6.heap.size 5 i0 (.int .u8 0) 1 underlying91 HI.u HZ0.u HZ1.u .i64 .i64 32 32 rfl rfl rfl (by rw [HZ2.u];decide) (by decide) (jO _) ?_);intro w7 own7 hg7;have F7:FoldAt b V M D2 t w7:=F6.kept (hg7.block b hb6 (by simp));have bel7:Below w6.heap.size w6 w7:=(jN _ _).grown hg7 (jO _) (by simp);have iV:=jA (show(prog.info? 205).map (·.size)=some (V.map uv).length by rw [jz,hl8];exact JN);clear F6 hg7;generalize hB:w6.heap.size=B at*;go_upto_region 6 with(refine wpList_load_mid rfl 205 _ rfl b 0 rfl (V.map uv) _ F7.rangeH underlying205 rfl iV.u ?_);have HB:=jA hB;clear hB iV F7;go_loopw [3,45] (fun v i wr=> ∃k:Nat,k≤8∧i=.int .i64 k∧Below B w6 wr∧wr.ownsRow B 5 1 v (4*k) (Lib.byteCells (Vm (V.take k)))) (fun _ i _=>8-(intOf i).toNat);case atStart=>exact⟨0,by omega,rfl,bel7,own7⟩
 case round=>
 obtain⟨k,hk,rfl,bel,own⟩:=hrel;clear bel7 own7;by_cases hlt:k<8
 ·have hd8:decide ((k:Int)<8)=true:=by simp;omega
  have hkl:k<V.length:=by omega
  have hidx:(V.map uv)[k]?=some (.int .u32 (un V[k])):=by simp [hkl,uv]
  have hix: ∀w,(Instr.index 205 (.agg (V.map uv).toArray) (.int .i64 (k:Int))).run prog w=.ok (.int .u32 (un V[k])) w:=fun w=>Yd w 205 180 8 _ .i64 .u32 k _ underlying205 hlt jaY underlying180 (by simpa using hidx);go_upto_region 8 with(fail);have hst:=jA (jin V k hkl);have hfc:=jA (jfi V[k]);have hx0:=XC V[k];have hx1:=jeo V[k];have hol:(Vm (V.take k)).length=4*k:=by rw [YF,jX];omega
  have HOL:=jA hol;have hBw:B≤wr.heap.size:=by have:=bel.size;rw [HB.u]at this;exact this
  clear hidx hix hd8 hol;generalize V[k]=y at*;generalize un y=x at*;go_upto_region 9 with(at_builtin;refine kQ _ rfl (.tmp 48) (.tmp 60) 91 rfl B 5 i0 (.int .u8 0) 1 1 underlying91 HI.u HZ0.u HZ1.u HZ2.u rfl (by decide) u3 (4*k) _ rfl (own.alloc _) ⟨wr.heap.size,0,none⟩ 4 4 [.int .u8 (x%256),.int .u8 (x/256%256),.int .u8 (x/65536%256),.int .u8 (x/16777216)] rfl rfl ?c1 ?c2 ?c3 ?c4 ?c5 ?_);case c1=>exact YB wr _ _ _ rfl
  case c2=>simp [Value.oneCell']
  case c3=>unfold maxLen;omega
  case c4=>omega
  case c5=>simp;omega
  intro v9 w9 own9 hg9 _;have bel9:Below B w6 w9:=(bel.alloc (by have:=bel.size;rw [HB.u]at this;exact this) _).grown hg9 (by have:=bel.size;rw [HB.u]at this;simp;omega) (fun q hq=>(own.lt q hq).1);rw [←hfc.u,show Lib.byteCells (Vm (V.take k))++Lib.byteCells (YH y)=Lib.byteCells (Vm (V.take k)++YH y)by simp [Lib.byteCells],←hst.u]at own9;have OWN9:=jA own9;have BEL9:=jA bel9;clear own9 bel9 own bel hg9 hfc;go_wp2_with fail;go_roundw;case rel=>exact⟨k+1,by omega,by go_num,BEL9.u,by rw [show 4* (k+1)=4*k+4 by omega];exact OWN9.u⟩
  case measure=>simp [intOf];omega
 have hd8:decide ((k:Int)<8)=false:=by simp;omega
 obtain rfl:k=8:=by omega
 rw [jc (by omega)]at own;have hol:(Vm V).length=32:=by rw [YF];omega
 obtain⟨g,cap,cur,rfl,hBg,hgh,hcap,hmax,hcs,htk⟩:=own.2.resolve_left (by rintro⟨_,h⟩;omega);have hrange:wr.rangeAt g 0 (Lib.byteCells (Vm V)):=fun j v hj=>by
  have:=own.cells (g:=g) rfl j v hj;rw [show(⟨g,0,none⟩:Addr).add j=⟨g,0+j,none⟩by unfold Addr.add;split<;>simp_all]at this;exact this
 have HR:=jA hrange;clear hrange own hgh htk;go_wp2_with (refine zP rfl _ 91 9 5 rfl underlying91 underlying5 underlying9 g cap 32 (Vm V) hol.symm rfl HR.u ?_);go_ret;refine⟨?_,Xh g6.u (zg (HB.u▸bel))⟩;rw [←HV.u];rfl
def jac:Bytes:=List.replicate 64 0
def Zb:Array Value:=(yZ ivL 0 jac 0).toArray
theorem ZI:(prog.info? 208).map (·.size)=some 74:=by kernel_rfl
def Km:Array Value:=(yZ (List.replicate 8 0) 0 jac 0).toArray
theorem FoldAt.setW {b:Nat}{H:List U}{n:Nat}{D:Bytes}{t:Nat}{w:World}(h:FoldAt b H n D t w)(i:Nat)(hi:i<8)(x:U):FoldAt b (H.set i x) n D t (w.setCell ⟨b,i,none⟩ (.int .u32 (un x))):=by
 refine⟨?_,by rw [kD];exact h.hl,h.dl⟩;rw [jd w b i _ _ _ h.blk];congr 2;have hl:=h.hl;simp only [yZ,vt];rw [List.set_append_left _ _ (by simp [hl];exact hi),List.map_set];rfl
theorem ZC: ∀w:World,(zeroValue 208).run prog w=.ok (.agg Km) w:=by
 intro w;have h:(prog.info? 208).map (·.zero)=some (some (.agg Km)):=by kernel_rfl
 cases hq:prog.info? 208 with
 |none=>simp [hq]at h
 |
  some i=>
  have hz:i.zero=some (.agg Km):=by simpa [hq] using h
  simp [zeroValue,typeInfo,hq,hz]
theorem jjb(K:Bytes)(w:World)(hK:K.length≤64):
 Calls prog 162 #[.string ⟨K.toArray⟩] w fun e w'=> ∃D t,e=.returned (.agg (yZ (zr K.length) 0 D t).toArray)∧Yx (yz K) 0 t D∧(yz K= []∨0<t)∧Below w.heap.size w w':=by
 have HK:=jA hK;have hsz:=zJ K;clear hK;have hzf:=ZC;go_enter Tryz.func162,Tryz.ntmps162;have hsF:=jA (show(prog.info? 208).map (·.size)=some Zb.size by kernel_rfl);have hone:=jA (show Zb.all (·.oneCell')=true by kernel_rfl);go_upto_region 2 with(first
  |(go_at_call 190;refine(jbX _).mono ?_;rintro e w1 ⟨rfl,hb1⟩)
  |(refine wpList_build_v rfl 208 _ rfl [(0,.agg (xj ivL))] rfl Zb built_begin ?_)
  |(refine xM rfl rfl 208 _ _ rfl w1.heap.size Km Zb 208 rfl rfl (xN rfl) rfl hsF.u hone.u ?_;intro w2 ho2 hp2))
 have F2:FoldAt w1.heap.size ivL 0 jac 0 w2:=⟨hp2,rfl,rfl⟩;have b2:Below w.heap.size w w2:=(((jN _ _).alloc (jO _) _).trans (hb1.mono (by simp))).trans (((jN _ _).alloc (by have:=hb1.size;simp at this;omega) _).trans (ho2.below (by have:=hb1.size;simp at this;omega)));have hB1:w.heap.size<w1.heap.size:=by have:=hb1.size;simp at this;omega
 have hR:w2.heap[w.heap.size]?=some (.cells Km 208 (0,0)):=ho2.keep (by omega) (xx (xK hb1 (by simp) (xN rfl)));generalize w1.heap.size=B at*;clear ho2 hp2 hb1;have c0:w2.cell? ⟨B,0,none⟩=some (.int .u32 (un (ivL.getD 0 0))):=F2.cell 0 (by omega);have f0:=F2.frozen 0;have x1:(K.length:Int)*256%4294967296=K.length*256:=by have:=HK.u;omega
 have r1:=jA (jbc (ivL.getD 0 0) (0x01010020+BitVec.ofNat 32 (256*K.length)));have hxn:un (0x01010020+BitVec.ofNat 32 (256*K.length))=(16842784+(K.length:Int)*256)%4294967296:=by
  unfold un;rw [BitVec.toNat_add,vQ];show((((16842784+256*K.length%4294967296)%4294967296:Nat)):Int)=_;omega
 have hH:=jA (show zr K.length=ivL.set 0 (ivL.getD 0 0 ^^^(0x01010020+BitVec.ofNat 32 (256*K.length)))from rfl);have r2:bits BinOp.xor IntKind.u32 (un (ivL.getD 0 0)) ((16842784+(K.length:Int)*256)%4294967296)=un (ivL.getD 0 0 ^^^(0x01010020+BitVec.ofNat 32 (256*K.length))):=by rw [←hxn];exact r1.u
 have R2:=jA r2;clear hxn r1 r2;generalize hx0:ivL.getD 0 0=x0 at*;go_upto_region 3 with(fail);rw [R2.u];refine xP (fun w3=>FoldAt B (zr K.length) 0 jac 0 w3∧xp B w2 w3) ⟨by rw [hH.u];exact F2.setW 0 (by omega) _,(xp.refl B w2).setCell _ _⟩ (fun w3 hw3=>?_);obtain⟨F3,o3⟩:=hw3;clear c0 f0 R2 hx0 x1 F2;have FF:=jA F3;clear F3
 go_upto_if 19 with(fail)
 go_cut [] (fun w'=> ∃D t,Yx (yz K) 0 t D∧(yz K= []∨0<t)∧FoldAt B (zr K.length) 0 D t w'∧xp B w2 w');case first=>
  by_cases hK0:K= []
  ·subst hK0;go_wp2_with fail;go_meet;exact⟨jac,0,⟨rfl,by omega,rfl,rfl⟩,.inl rfl,FF.u,o3⟩
  ·have hpos:0<K.length:=qO.2 hK0;have thr:w3.there B 9 (Nat.min (ByteArray.mk K.toArray).size 64):=fun j hj=>FF.u.there 9 64 (by omega) j (jV hj (Nat.min_le_right _ _));have THR:=jA thr;clear thr;go_upto_region 5 with(refine Xp rfl _ _ 91 9 rfl 5 underlying91 YP B 9 64 64 ⟨K.toArray⟩ rfl rfl THR.u ?_);have hmin:Nat.min (ByteArray.mk K.toArray).size 64=K.length:=by rw [hsz];exact kM HK.u
   have hkp:yz K=K++List.replicate (64-K.length) 0:=by unfold yz;rw [jT hK0]
   have hkl:(yz K).length=64:=by rw [hkp,ja,vr];have:=HK.u;omega
   have hkz:jac.take 0++(K++jac.drop (0+K.length))=yz K:=by rw [hkp,jac,qe,kj,List.drop_replicate,js]
   have hdt:List.take K.length (ByteArray.mk K.toArray).data.toList=K:=by simp
   rw [hmin,hdt];refine xP (fun w4=>FoldAt B (zr K.length) 0 (yz K) 0 w4∧xp B w3 w4) ⟨by have:=FF.u.setD 0 K (by have:=HK.u;omega);rw [hkz]at this;exact this,JC B _ _ _⟩ (fun w4 hw4=>?_);obtain⟨F4,o4⟩:=hw4;have c4:=F4.cellAt;have f4:=F4.frozen 73;have FF4:=jA F4;have HKL:=jA hkl;clear F4 hkz hkp hkl hmin hdt THR;go_wp2_with fail;go_meet;exact⟨yz K,64,⟨HKL.u,by omega,HKL.u,by rw [jc (by rw [HKL.u];exact jO _)];rfl⟩,.inr (by omega),FF4.u.setAt 64,(o3.trans o4).trans ((xp.refl B w4).setCell _ _)⟩
 case rest=>
  clear FF o3;obtain⟨D,t,m,h0t,F,o⟩:=hcut;obtain⟨row,hrow⟩: ∃row:Array Value,row=(yZ (zr K.length) 0 D t).toArray:=⟨_,rfl⟩;have hblk:=F.blk;rw [←hrow]at hblk;have hrs:row.size=74:=by rw [hrow];simp [Ja F.hl F.dl]
  have hs:=jA (show(prog.info? 208).map (·.size)=some row.size by rw [hrs];exact ZI);have hone2:row.all (·.oneCell')=true:=by
   rw [hrow];refine all_oneCell_toArray (fun v hv=>?_);simp only [yZ,Lib.byteCells,jh,jl,jg,jv,jx]at hv;rcases hv with⟨x,_,rfl⟩|rfl|⟨x,_,rfl⟩|rfl<;>rfl
  have HO:=jA hone2;have HROW:=jA hrow;have HM:=jA m;have HT:=jA h0t;have hR2:wc.heap[w.heap.size]?=some (.cells Km 208 (0,0)):=o.keep (by omega) hR;have bel:=jA (b2.trans (o.below (by omega:w.heap.size≤B)));have hzs:Km.size=row.size:=by rw [hrs];rfl
  have HZS:=jA hzs;clear F hone2 m h0t hrow hrs hR o hzs;go_upto_region 6 with(fail);apply qk;refine xi rfl 208 _ rfl B row _ _ _ rfl hblk underlying208 rfl hs.u ?_;refine xM rfl rfl 208 _ _ rfl w.heap.size Km row 208 rfl rfl hR2 HZS.u hs.u HO.u ?_;intro w6 ho hp;go_wp2_with fail;refine jm (jw rfl _ w6 w.heap.size _ _ _ _ rfl hp underlying208 rfl hs.u) rfl ⟨D,t,?_,HM.u,HT.u,xQ bel.u ho (jO _)⟩;rw [HROW.u]
def jbk(K B:Bytes):Bytes:=if K.length≤32 then Jm K B else []
def keyedE(K:Bytes):Int:=if K.length≤32 then 0 else 3
theorem jaI(K:Bytes)(h:K.length≤64):(yz K).length≤64:=by
 unfold yz;split;·simp
 ·simp;omega
theorem jaG(H:List U)(n:Nat)(D:Bytes)(t:Nat):(yZ H n D t).toArray.all (·.oneCell')=true:=by
 refine all_oneCell_toArray (fun v hv=>?_);simp only [yZ,Lib.byteCells,jh,jl,jg,jv,jx]at hv;rcases hv with⟨x,_,rfl⟩|rfl|⟨x,_,rfl⟩|rfl<;>rfl
def Jb(n:Nat):Bytes:= [UInt8.ofNat (n/16777216%256),UInt8.ofNat (n/65536%256),UInt8.ofNat (n/256%256),UInt8.ofNat (n%256)]
theorem jau(n:Nat):Lib.byteCells (Jb n)= [.int .u8 ((n:Int)/16777216%256),.int .u8 ((n:Int)/65536%256),.int .u8 ((n:Int)/256%256),.int .u8 ((n:Int)%256)]:=by
 have e: ∀n:Nat,n<256→((UInt8.ofNat n).toNat:Int)=(n:Int):=by
  intro n h;simp [kV h]
 unfold Jb Lib.byteCells;simp only [jI,jJ];rw [e _ (by omega),e _ (by omega),e _ (by omega),e _ (by omega)];have h1:((n/16777216%256:Nat):Int)=(n:Int)/16777216%256:=by omega
 have h2:((n/65536%256:Nat):Int)=(n:Int)/65536%256:=by omega
 have h3:((n/256%256:Nat):Int)=(n:Int)/256%256:=by omega
 have h4:((n%256:Nat):Int)=(n:Int)%256:=by omega
 rw [h1,h2,h3,h4]
theorem jiK(n:Nat)(w:World)(hn:n<9223372036854775808):
 Calls prog 164 #[.int .i64 (n:Int)] w fun e w'=>e=.returned (.string ⟨(Jb n).toArray⟩)∧Below w.heap.size w w':=by
 have hc:=jA (jau n);have h0:(0:Int)≤n:=by omega
 have h1:(n:Int)<9223372036854775808:=by omega
 go_enter Tryz.func164,Tryz.ntmps164;go_wp2_with (refine zP rfl _ 91 9 5 rfl underlying91 underlying5 underlying9 w.heap.size 4 4 (Jb n) rfl rfl (by rw [hc.u];exact Vl (xN rfl)) ?_);go_ret;exact⟨rfl,(jN _ _).alloc (jO _) _⟩
theorem jaj(n:Nat)(w:World)(hn:n<9223372036854775808):
 Calls prog 184 #[.int .i64 (n:Int)] w fun e w'=>e=.returned (.string ⟨(Jb n).toArray⟩)∧Below w.heap.size w w':=by
 have hc:=jA (jau n);have h0:(0:Int)≤n:=by omega
 have h1:(n:Int)<9223372036854775808:=by omega
 go_enter Tryz.func184,Tryz.ntmps184;go_wp2_with (refine zP rfl _ 91 9 5 rfl underlying91 underlying5 underlying9 w.heap.size 4 4 (Jb n) rfl rfl (by rw [hc.u];exact Vl (xN rfl)) ?_);go_ret;exact⟨rfl,(jN _ _).alloc (jO _) _⟩
structure JD(w:World)(oa:Option Addr)(Ps:List Bytes):Prop where
 cells: ∀i (h:i<Ps.length),∃a,oa=some a∧a.block<w.heap.size∧w.cell? (a.add i)=some (.string ⟨Ps[i].toArray⟩)
theorem jde(a:Addr)(i:Nat):(a.add i).block=a.block:=by unfold Addr.add;split<;>rfl
theorem JD.below {w w1:World}{oa:Option Addr}{Ps:List Bytes}(h:JD w oa Ps)(hb:Below w.heap.size w w1):JD w1 oa Ps:=⟨fun i hi=>by
 obtain⟨a,h1,h2,h3⟩:=h.cells i hi;exact⟨a,h1,jV h2 hb.size,by rw [hb.cell (by rw [jde];exact h2)];exact h3⟩⟩
def KJ(Xs:List Bytes)(k:Nat):Bytes:=(Xs.take k).flatMap fun x=>Jb x.length++x
def KI(L:Bytes)(Ps:List Bytes):Bytes:=(L::Ps).flatMap fun x=>Jb x.length++x
theorem jbl(Xs:List Bytes)(k:Nat)(h:k<Xs.length):KJ Xs (k+1)=KJ Xs k++Jb Xs[k].length++Xs[k]:=by
 unfold KJ;rw [jk h,vF,List.flatMap_singleton,kS]
theorem jcG(L:Bytes)(Ps:List Bytes):KJ (L::Ps) (Ps.length+1)=KI L Ps:=by
 unfold KJ KI;rw [jc (by simp)]
theorem Qd(Xs:List Bytes)(k:Nat):(KJ Xs k).length≤(Xs.flatMap fun x=>Jb x.length++x).length:=by
 conv=>rhs;rw [←qf k Xs,vF,ja]
 exact Nat.le_add_right _ _
theorem KM.below {b:Nat}{h0:List U}{T:Bytes}{w w1:World}{B:Nat}(h:KM b h0 T w)(hb:Below B w w1)(hlt:b<B):KM b h0 T w1:=by
 obtain⟨p,t,D,m,h1,F⟩:=h.ex;exact⟨p,t,D,m,h1,F.below hb hlt⟩
theorem KM.lt {b:Nat}{h0:List U}{T:Bytes}{w:World}(h:KM b h0 T w):b<w.heap.size:=by
 obtain⟨p,t,D,m,h1,F⟩:=h.ex;exact lt_of_heap F.blk
theorem jkS(L:Bytes)(oa:Option Addr)(Ps:List Bytes)(cap:Nat)(w:World)(hs:JD w oa Ps)(hlen:(KI L Ps).length<9223372036854775808)(hnl:Ps.length<9223372036854775807):
 Calls prog 113 #[.string ⟨L.toArray⟩,.slice oa Ps.length cap] w fun e w'=>e=.returned (.string ⟨(Jm [] (KI L Ps)).toArray⟩)∧Below w.heap.size w w':=by
 have HS:=jA hs;have HL:=jA hlen;clear hs hlen;have hzf:=ZC;have hH8:=jA (show(zr 0).length=8 by simp [zr,ivL]);have HDD:=jA (show Jm [] (KI L Ps)=Vm (VM (zr 0) (KI L Ps))from rfl);go_enter Tryz.func113,Tryz.ntmps113;go_upto_region 1 with(fail);go_upto_region 2 with(first
  |(
   go_at_call 162;refine(jjb [] _ (by decide)).mono ?_;rintro e w1 ⟨D,t,rfl,hm,h0t,hb1⟩;have hdl:=hm.dl;have hrs:(yZ (zr 0) 0 D t).toArray.size=74:=by simp [Ja hH8.u hdl]
   have hsz:=jA (show(prog.info? 208).map (·.size)=some (yZ (zr 0) 0 D t).toArray.size by rw [hrs];exact ZI);have hzs:=jA (show Km.size=(yZ (zr 0) 0 D t).toArray.size by rw [hrs];rfl);have hon:=jA (jaG (zr 0) 0 D t);clear hrs)
  |(refine xM rfl rfl 208 _ _ rfl w1.heap.size Km (yZ (zr 0) 0 D t).toArray 208 rfl rfl (xN rfl) hzs.u hsz.u hon.u ?_;intro w2 ho2 hp2))
 have b2:Below w.heap.size w w2:=(hb1.alloc hb1.size _).trans (ho2.below hb1.size);have hb:w.heap.size≤w1.heap.size:=hb1.size;generalize w1.heap.size=b at*;have TK:KM b (zr 0) (KJ (L::Ps) 0) w2:=⟨0,t,D,hm,h0t,⟨hp2,hH8.u,hdl⟩⟩;clear hb1 ho2 hp2 hm h0t hdl hon hzs hsz;generalize zr 0=h0 at*;go_upto_region 3 with(fail);go_loopw [6] (fun i wr=> ∃(k:Nat) (z:Int),k≤Ps.length+1∧z=(k:Int)-1∧i=.int .i64 z∧KM b h0 (KJ (L::Ps) k) wr∧Below w.heap.size w wr) (fun i _=>(Ps.length+1-(intOf i+1)).toNat);case atStart=>exact⟨0, -1,by omega,rfl,rfl,TK,b2⟩
 case round=>
 obtain⟨k,z,hk,hz,rfl,tk,bel⟩:=hrel;clear TK b2;by_cases hlt:k<Ps.length+1
 ·have hd:decide (z<(Ps.length:Int))=true:=by simp;omega
  have hzl:z<(Ps.length:Int):=by omega
  obtain⟨x,hx⟩: ∃x,x=(L::Ps)[k]'(by simpa using hlt):=⟨_,rfl⟩
  go_upto_if 17 with(fail)
  go_cut [7] (fun v w'=>v=.string ⟨x.toArray⟩∧w'=wr);case first=>
   cases k with
   |
    zero=>
    have hz0:z= -1:=by omega
    subst hz0;have hxl:x=L:=hx;subst hxl;clear hx hz;go_wp2_with fail;go_meet;exact⟨rfl,rfl⟩
   |
    succ m=>
    have hzm:z=(m:Int):=by omega
    subst hzm;have hm2:m<Ps.length:=by omega
    obtain⟨a,hoa,hab,hac⟩:=(HS.u.below bel).cells m hm2;have hxm:x=Ps[m]:=hx;rw [←hxm]at hac;subst hoa;clear hz hx hxm;go_wp2_with fail;go_meet;exact⟨rfl,rfl⟩
  case rest=>
  obtain⟨rfl,hw0⟩:=hcut;replace hw0:=hw0.symm;subst hw0;have hjl:=Qd (L::Ps) (k+1);have hjn:=jbl (L::Ps) k (by simpa using hlt);rw [←hx]at hjn;have hjl2:(KJ (L::Ps) k).length+4+x.length<9223372036854775808:=by
   have h1:=HL.u;rw [hjn,ja,ja]at hjl;have h4:(Jb x.length).length=4:=rfl;rw [h4]at hjl;exact qB hjl h1
  have HJN:=jA hjn;have HX:=jA hx;have HZ:=jA hz;have hzm:(-1:Int)≤z:=by omega
  have hzu:z+1≤9223372036854775807:=by omega
  clear hjl hjn hx hz;have hxs:=zJ x;have QF:=jA (jiK x.length wr (by omega));have hf4:=jA (show(Jb x.length).length=4 from rfl);go_upto_region 9 with(first
   |(
    go_at_call 164;refine QF.u.mono ?_;rintro e w3 ⟨rfl,hb3⟩;have tk3:=tk.below hb3 tk.lt;have QT:=jA (jer b h0 (KJ (L::Ps) k) (Jb x.length) w3 tk3 (by rw [hf4.u];omega)))
   |(go_at_call 163;refine QT.u.mono ?_;rintro e w4 ⟨rfl,tk4,hg4⟩))
  have bel4:Below w.heap.size w w4:=(bel.trans (hb3.mono bel.size)).grown hg4 (jU bel.size hb3.size) (fun k hk=>by cases hk;exact hb);have QT2:=jA (jer b h0 (KJ (L::Ps) k++Jb x.length) x w4 tk4 (by rw [ja,hf4.u];omega));clear QT QF tk3 tk hb3 hg4 bel tk4;go_wp2_with (go_at_call 163;refine QT2.u.mono ?_;rintro e w5 ⟨rfl,tk5,hg5⟩);rw [←HJN.u]at tk5;have bel5:=bel4.grown hg5 bel4.size (fun k hk=>by cases hk;exact hb);clear QT2 HJN hg5 bel4;go_roundw;case rel=>exact⟨k+1,z+1,by omega,by have:=HZ.u;omega,by go_num,tk5,bel5⟩
  case measure=>have:=HZ.u;simp [intOf];omega
 ·have hd:decide (z<(Ps.length:Int))=false:=by simp;omega
  have hzl: ¬z<(Ps.length:Int):=by omega
  obtain rfl:k=Ps.length+1:=by omega
  rw [jcG]at tk;have QE:=jA (jls b h0 (KI L Ps) wr tk HL.u);go_wp2_with (go_at_call 165;refine QE.u.mono ?_;rintro e w4 ⟨rfl,hg4⟩);go_ret;refine⟨?_,bel.grown hg4 bel.size (fun k hk=>by cases hk;exact hb)⟩;rw [HDD.u];rfl
theorem jlu(L:Bytes)(oa:Option Addr)(Ps:List Bytes)(cap:Nat)(w:World)(hs:JD w oa Ps)(hlen:(KI L Ps).length<9223372036854775808)(hnl:Ps.length<9223372036854775807):
 Calls prog 65 #[.string ⟨L.toArray⟩,.slice oa Ps.length cap] w fun e w'=>e=.returned (.string ⟨(Jm [] (KI L Ps)).toArray⟩)∧Below w.heap.size w w':=by
 have Q:=jA (jkS L oa Ps cap w hs hlen hnl);clear hs hlen;go_enter Tryz.func65,Tryz.ntmps65;go_wp2_with (go_at_call 113;refine Q.u.mono ?_;rintro e w1 ⟨rfl,hb1⟩);go_ret;exact⟨rfl,hb1⟩
end Go.Proofs.YtnohcdpnnhmpfaaGreatDoor
