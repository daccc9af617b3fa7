/- Chapter 13, for Pairs: the reference's Paths. -/
import Derived.Test.YtnohcdpnnhmpfaaGreatDoorE35
set_option linter.all false
set_option maxRecDepth 100000
set_option maxHeartbeats 8000000
namespace Go.Proofs.YtnohcdpnnhmpfaaGreatDoor
open Go.RowKit Tryz ML FM AU CT
variable{T s:Int}{ag:Bool}{f g:Nat→Nat}{i j k n p0:Nat}
def jdd(n:Nat)(f:Nat→Nat):Nat:=((List.range n).map f).sum
theorem ZM(n:Nat)(f:Nat→Nat):jdd (n+1) f=jdd n f+f n:=by simp [jdd,qI]
theorem jiU(h: ∀i,i<n→f i≤g i):jdd n f≤jdd n g:=by
 induction n with
 |zero=>simp [jdd]
 |succ n ih=>rw [ZM,ZM];have:=ih (fun i hi=>h i (by omega));have:=h n (by omega);omega
theorem jiT(h: ∀i,i<n→f i≤g i)(hk:k<n)(hs:f k<g k):jdd n f<jdd n g:=by
 induction n with
 |zero=>omega
 |
  succ n ih=>
  rw [ZM,ZM];by_cases e:k=n;·subst e;have:=jiU (n:=k) (f:=f) (g:=g) (fun i hi=>h i (by omega));omega
  ·have:=ih (fun i hi=>h i (by omega)) (by omega);have:=h n (by omega);omega
def pot(n:Nat)(T:Int)(W:Mx):Nat:=jdd n fun i=>jdd n fun j=>(T-W i j).toNat
theorem jnL{W:Mx}(hi:i<n)(hj:j<n)(h1:W i j<s)(h2:s≤T):pot n T (upd W i j s)<pot n T W:=by
 unfold pot;refine jiT (fun a _=>jiU (fun b _=>?_)) hi (jiT (fun b _=>?_) hj ?_)
 ·unfold upd;split;·rename_i h;rw [h.1,h.2];omega
  ·omega
 ·unfold upd;split;·rename_i h;rw [h.2];omega
  ·omega
 ·unfold upd;rw [jP ⟨rfl,rfl⟩];omega
def Tri(e W:Mx)(a b c:Nat):Prop:=a≠b→(c=a→e a b≤W a b)∧(c≠a→min (W a c) (e c b)≤W a b)
def jcU(i j k a b c:Nat):Prop:=a<i∨a=i∧(b<j∨b=j∧c<k)
structure jnq(e:Mx)(n:Nat)(T:Int)(W:Mx):Prop where
 sound:jcX e n W
 bd: ∀i j,i<n→j<n→W i j≤T
structure Jt(e:Mx)(n:Nat)(T:Int)(p0:Nat)(W:Mx)(ag:Bool)(i j k:Nat):Prop where
 st:jnq e n T W
 le:pot n T W≤p0
 lt:ag=true→pot n T W<p0
 tri:ag=false→ ∀a b c,a<n→b<n→c<n→jcU i j k a b c→Tri e W a b c
theorem Jt.start {e:Mx}{W:Mx}(h:jnq e n T W):Jt e n T (pot n T W) W false 0 0 0:=
 ⟨h,jO _,(fun h=>by cases h),fun _ a b c _ _ _ h=>by unfold jcU at h;omega⟩
theorem Jt.skip {e:Mx}{W:Mx}(h:Jt e n T p0 W ag i j k)(ht:Tri e W i j k):Jt e n T p0 W ag i j (k+1):=
 ⟨h.st,h.le,h.lt,fun hg a b c ha hb hc hh=>by
  by_cases e:a=i∧b=j∧c=k;·obtain⟨rfl,rfl,rfl⟩:=e;exact ht
  ·exact h.tri hg a b c ha hb hc (by unfold jcU at hh ⊢;omega)⟩
theorem Jt.set {e:Mx}{W:Mx}(h:Jt e n T p0 W ag i j k)(hi:i<n)(hj:j<n)(pt:i≠j)(h1:W i j<s)(h2:s≤T)(hw:CT.Way e n s i j):Jt e n T p0 (upd W i j s) true i j (k+1):=by
 have h0:=h.st.sound.nn i j hi hj;have hp:=jnL hi hj h1 h2;have hl:=h.le;exact⟨⟨h.st.sound.upd pt (by omega) (fun _=>hw),fun a b ha hb=>by unfold upd;split;exact h2;exact h.st.bd a b ha hb⟩,by omega,fun _=>by omega,fun hg=>by cases hg⟩
theorem Jt.rowk {e:Mx}{W:Mx}(h:Jt e n T p0 W ag i j n):Jt e n T p0 W ag i (j+1) 0:=
 ⟨h.st,h.le,h.lt,fun hg a b c ha hb hc hh=>h.tri hg a b c ha hb hc (by unfold jcU at hh ⊢;omega)⟩
theorem Jt.rowj {e:Mx}{W:Mx}(h:Jt e n T p0 W ag i n 0):Jt e n T p0 W ag (i+1) 0 0:=
 ⟨h.st,h.le,h.lt,fun hg a b c ha hb hc hh=>h.tri hg a b c ha hb hc (by unfold jcU at hh ⊢;omega)⟩
structure jda(e:Mx)(n:Nat)(T:Int)(W:Mx)(ag:Bool):Prop where
 st:jnq e n T W
 tri:ag=false→ ∀a b c,a<n→b<n→c<n→Tri e W a b c
theorem Jt.head {e:Mx}{W:Mx}(h:Jt e n T p0 W ag n 0 0):jda e n T W ag:=⟨h.st,fun hg a b c ha hb hc=>h.tri hg a b c ha hb hc (.inl ha)⟩
def jkg(n:Nat)(T:Int)(W:Mx)(ag:Bool):Nat:=pot n T W+if ag=true then 1 else 0
theorem Jt.less {e:Mx}{W0 W:Mx}(h:Jt e n T (pot n T W0) W ag i j k):jkg n T W ag<jkg n T W0 true:=by
 unfold jkg;rw [jP rfl];have:=h.le;cases ag with
 |true=>have:=h.lt rfl;simp;omega
 |false=>simp;omega
theorem jda.done {e:Mx}{W:Mx}(h:jda e n T W false):JS e n W:=
 Yq h.st.sound (fun i j hi hj pt=>(h.tri rfl i j i hi hj hi pt).1 rfl) (fun i j k hi hj hk pt nu=>(h.tri rfl i j k hi hj hk pt).2 nu)
theorem jda.start {e:Mx}(hT:0≤T):jda e n T (fun _ _=>0) true:=
 ⟨⟨⟨fun _ _=>rfl,fun _ _ _ _=>vL _,fun i j _ _ _ h=>absurd h (Int.lt_irrefl _)⟩,fun _ _ _ _=>hT⟩,fun h=>by cases h⟩
theorem jfc(P:List (n0×C0))(ob:s0)(cb:Nat)(w:m0)(hP:Va w ob P)(hl:P.length<9223372036854775808):
 Calls prog 58 #[.slice ob P.length cb] w (KH P w):=by
 have HP:=jA hP;have QW:=jA (jaq P ob cb w hP hl);clear hP hl;by_cases h0:wrE P=0;case neg=>
  have H0:=jA h0;have HE:=jA (show(wrE P !=0)=true by rw [ju];exact h0);have hd:=HE.u;clear h0;go_enter Tryz.func58,Tryz.ntmps58;go_wp2_with (first
   |go_big_skip
   |(go_at_call 102;refine(QW.u).mono ?_;rintro e w1 ⟨rfl,rfl⟩;dsimp only))
  go_ret2
  exact KH.bad H0.u (jN _ _)
 obtain⟨h1,hn,IQ,hbd⟩:=joB h0;obtain⟨q,rfl,_,_⟩:=HP.u.cells 0 IQ;have HM:=jA (jkf HP.u h1);have H0:=jA h0;rw [h0]at QW;have HBD:=jA hbd;have Ex:=jA (show ∀(w':m0) (F:Nat) (gs:E0) (W:Mx),O0 w.heap.size w w'→MxO w.heap.size w' F P.length gs W→JS (Ks (mxP P)) P.length W→KH P w (.returned (.tuple #[.slice (some ⟨F,0,none⟩) P.length P.length,.int .i64 0])) w' from fun w' F gs W h1 h2 h3=>KH.ok H0.u h1 h2 h3);obtain⟨i0,hi,Is,Ts,Ns⟩:=info_parts YG;obtain⟨j0,ji,gQ,fQ,eQ⟩:=info_parts YF;have HI:=jA hi;have Dt:=jA Is;have Ct:=jA Ts;have Bt:=jA Ns;have JI:=jA ji;have SA:=jA gQ;have OA:=jA fQ;have MA:=jA eQ;clear hi Is Ts Ns ji gQ fQ eQ h0 h1 hbd HP H0;generalize mxP P=M at*;go_enter Tryz.func58,Tryz.ntmps58;go_upto_region 4 with(first
  |go_big_skip
  |(go_at_call 102;refine(QW.u).mono ?_;rintro e w1 ⟨rfl,rfl⟩;dsimp only))
 clear QW;go_upto_region 6 with(refine wpList_make_row _ rfl _ _ 25 rfl 29 j0 (.slice none 0 0) underlying25 JI.u SA.u OA.u rfl .i64 .i64 P.length rfl rfl (by rw [MA.u];omega) (by omega) ?_);have hS:SqK w.heap.size (w.alloc (.cells (madeCells #[Value.slice none 0 0] P.length) 29)) w.heap.size P.length []:=⟨by rw [xh rfl];simp [XT,←vW],by simp,jO _,fun g hg=>by simp at hg,List.nodup_nil,fun g hg=>by simp at hg⟩;have Gz:O0 w.heap.size w (w.alloc (.cells (madeCells #[Value.slice none 0 0] P.length) 29)):=(jN _ _).alloc (jO _) _;generalize hB:w.heap.size=B at*;have HB:=jA hB;clear hB;refine xr (fun w1=>SqK B w1 B P.length []∧O0 B w w1) ⟨hS,Gz⟩ (fun w1 ts=>?_);have H1:=jA ts;clear ts hS Gz;go_wp2_with fail;go_loopw [24] (fun i wr=> ∃(k:Nat) (gs:E0),k=gs.length∧i=.int .i64 k∧k≤P.length∧SqK B wr B P.length gs∧O0 B w wr) (fun i _=>P.length-(intOf i).toNat);case atStart=>exact⟨0,[],rfl,rfl,ja _,H1.u.1,H1.u.2⟩
 case round=>
 clear H1;obtain⟨k,gs,PQ,rfl,hk,hs,hb⟩:=hrel;have HK:=jA PQ;have S:=jA hs;have BB:=jA hb;have Lt:B<wr.heap.size:=xZ hs.head;clear PQ hs hb;by_cases ns:k<P.length
 ·obtain⟨dk,Ms,nu⟩:=Go.yD ns
  have c1:wr.cell? ⟨B,k,none⟩=some (.slice none 0 0):=by
   rw [jM _ _ _ _ _ _ S.u.head,jE,kZ (by simp [XT,←HK.u])];rw [show k-(XT P.length gs).length=0 by simp [XT,←HK.u],qU,jP (by rw [←HK.u];omega)]
  have f1:wr.frozen? ⟨B,k,none⟩=false:=jc _ _ _ _ _ S.u.head;have SN:=jA (S.u.next (by rw [←HK.u];exact ns) (jX Lt));rw [←HK.u]at SN;go_upto_region 10 with(refine wpList_make_row _ rfl _ _ 29 rfl 3 i0 (.int .i64 0) underlying29 HI.u Dt.u Ct.u rfl .i64 .i64 P.length rfl rfl (by rw [Bt.u];omega) (by omega) ?_);go_wp2_with fail;go_roundw;case rel=>exact⟨k+1,_,by simp [HK.u],by go_num,by omega,SN.u,(BB.u.setCell (jO _) _).alloc (by simp;omega) _⟩
  case measure=>simp [intOf];omega
 obtain⟨dk,Ms⟩:=Go.yg ns;have ay:gs.length=P.length:=by rw [←HK.u];omega
 have HL:=jA ay;have M1:=jA (S.u.all ay);have HH:=jA (jda.start (e:=Ks M) (n:=P.length) (T:=1099511627776) (by decide));clear ay S HK ns hk HI Dt Ct Bt JI SA OA MA
 as_aux_lemma=>
 go_wp2_with fail;clear dk Ms;go_loopg [8] (jkg P.length 1099511627776 (fun _ _=>0) true) (fun N v wr=> ∃(ag:Bool) (W:Mx),v=.bool ag∧N=jkg P.length 1099511627776 W ag∧jda (Ks M) P.length 1099511627776 W ag∧MxO B wr B P.length gs W∧O0 B w wr);case atStart=>exact⟨true,_,rfl,rfl,HH.u,M1.u,BB.u⟩
 case round=>
 clear HH M1 BB Lt;obtain⟨ag0,W0,rfl,rfl,hh,hm,hb⟩:=hrel;cases ag0 with
 |
  false=>
  have HD:=jA hh.done;have M2:=jA hm;have B2:=jA hb;clear hh hm hb;go_wp2_with fail
  go_ret2
  exact Ex.u _ B gs W0 B2.u M2.u HD.u
 |
  true=>
  have PS:=jA (Jt.start hh.st);have M2:=jA hm;have B2:=jA hb;clear hh hm hb;obtain⟨wo,hwo⟩: ∃wo:m0,wo=wr:=⟨_,rfl⟩;subst hwo;go_wp2_with fail;go_loopw [9,8] (fun i v wr=> ∃(i1:Nat) (ag:Bool) (W:Mx),i=.int .i64 i1∧v=.bool ag∧i1≤P.length∧Jt (Ks M) P.length 1099511627776 (pot P.length 1099511627776 W0) W ag i1 0 0∧MxO B wr B P.length gs W∧O0 B w wr) (fun i _ _=>P.length-(intOf i).toNat);case atStart=>exact⟨0,false,W0,rfl,rfl,ja _,PS.u,M2.u,B2.u⟩
  case round=>
  clear PS M2 B2;obtain⟨i1,ag,W,rfl,rfl,PG,uD,hm,hb⟩:=hrel;have PS:=jA uD;have M3:=jA hm;have B3:=jA hb;clear uD hm hb;by_cases Nv:i1<P.length;case neg=>
   obtain⟨dk,Ms⟩:=Go.yg Nv;obtain rfl:i1=P.length:=by omega
   have HD2:=jA PS.u.head;have HLS:=jA PS.u.less;clear PS;go_wp2_with fail
   go_roundg (jkg P.length 1099511627776 W ag)
   case rel=>exact⟨ag,W,rfl,rfl,HD2.u,M3.u,B3.u⟩
   case measure=>exact HLS.u
  obtain⟨dk,Ms,Py⟩:=Go.yD Nv
  have aD:i1<gs.length:=by rw [HL.u];exact Nv
  obtain⟨wp,rD⟩: ∃wp:m0,wp=wr:=⟨_,rfl⟩;subst rD;go_wp2_with fail;go_loopw [10,8] (fun i v wr=> ∃(j1:Nat) (ag:Bool) (W:Mx),i=.int .i64 j1∧v=.bool ag∧j1≤P.length∧Jt (Ks M) P.length 1099511627776 (pot P.length 1099511627776 W0) W ag i1 j1 0∧MxO B wr B P.length gs W∧O0 B w wr) (fun i _ _=>P.length-(intOf i).toNat);case atStart=>exact⟨0,ag,W,rfl,rfl,ja _,PS.u,M3.u,B3.u⟩
  case round=>
  clear PS M3 B3;obtain⟨j1,ag,W,rfl,rfl,hj1,uD,hm,hb⟩:=hrel;have PS:=jA uD;have M4:=jA hm;have B4:=jA hb;clear uD hm hb;by_cases ft:j1<P.length;case neg=>
   obtain⟨ek,EC⟩:=Go.yg ft;obtain rfl:j1=P.length:=by omega
   have LA:=jA PS.u.rowj;clear PS;go_wp2_with fail;go_roundw;case rel=>exact⟨i1+1,ag,W,by go_num,rfl,by omega,LA.u,M4.u,B4.u⟩
   case measure=>simp [intOf];omega
  obtain⟨ek,EC,uR⟩:=Go.yD ft
  obtain⟨wq,hwq⟩: ∃wq:m0,wq=wr:=⟨_,rfl⟩;subst hwq;go_wp2_with fail;go_loopw [11,8] (fun i v wr=> ∃(k1:Nat) (ag:Bool) (W:Mx),i=.int .i64 k1∧v=.bool ag∧k1≤P.length∧Jt (Ks M) P.length 1099511627776 (pot P.length 1099511627776 W0) W ag i1 j1 k1∧MxO B wr B P.length gs W∧O0 B w wr) (fun i _ _=>P.length-(intOf i).toNat);case atStart=>exact⟨0,ag,W,rfl,rfl,ja _,PS.u,M4.u,B4.u⟩
  case round=>
  clear PS M4 B4;obtain⟨k1,ag,W,rfl,rfl,fZ,uD,hm,hb⟩:=hrel;have PS:=jA uD;have M5:=jA hm;have B5:=jA hb;clear uD hm hb;by_cases Sv:k1<P.length;case neg=>
   obtain⟨fk,wF⟩:=Go.yg Sv;obtain rfl:k1=P.length:=by omega
   have LA:=jA PS.u.rowk;clear PS;go_wp2_with fail;go_roundw;case rel=>exact⟨j1+1,ag,W,by go_num,rfl,by omega,LA.u,M5.u,B5.u⟩
   case measure=>simp [intOf];omega
  obtain⟨fk,wF,lV⟩:=Go.yD Sv
  have HMr:=jA (HM.u.below (HB.u.symm▸B5.u));obtain⟨a,ha,_,b,cbi,cD,hck,lG⟩:=HMr.u.cells k1 Sv;obtain rfl:q=a:=by injection ha
  obtain⟨a,ha,_,b',cbj,hbb',nF,bK⟩:=HMr.u.cells j1 ft;obtain rfl:q=a:=by injection ha
  have kx:=lG j1 ft;have ky:=bK k1 Sv;have kF:wr.cell? ⟨B,i1,none⟩=some (.slice (some ⟨gs[i1],0,none⟩) P.length P.length):=M5.u.cellF i1 aD;have kz:=M5.u.cellG i1 k1 aD Sv;have kv:=M5.u.cellG i1 j1 aD ft;have fG:wr.frozen? ⟨gs[i1],j1,none⟩=false:=M5.u.froz i1 j1 aD;have PM:=(M5.u.gge _ (jb aD)).1;have My:=jA (fun(s:Int) m=>(M5.u.drewN m).set i1 j1 aD ft s);have bO:=PS.u.st.sound;have hvn:=bO.nn i1 j1 Nv ft;have hzn:=bO.nn i1 k1 Nv Sv;have hxT:=(HBD.u k1 j1 Sv ft).2;have SH:=(HBD.u j1 k1 ft Sv).1;have HE:=jA (show Ks M k1 j1=if M j1 k1<M k1 j1 then M k1 j1 else 0 from rfl);have aB:=jA (show M j1 k1<M k1 j1→k1=i1→CT.Way (Ks M) P.length (M k1 j1) i1 j1 from fun h e=>by subst e;exact .one Sv ft (by rw [HE.u,jP h];exact vL _));have Aw:=jA (show M j1 k1<M k1 j1→k1≠i1→0<W i1 k1→ ∀s,s≤W i1 k1→s≤M k1 j1→CT.Way (Ks M) P.length s i1 j1 from fun h Cs hz s h1 h2=>((bO.way i1 k1 Nv Sv (Ne.symm Cs) hz).mono h1).more ft (by rw [HE.u,jP h];exact h2))
  have fx:=jA (show(i1≠j1→(k1=i1→(if M j1 k1<M k1 j1 then M k1 j1 else 0)≤W i1 j1)∧(k1≠i1→min (W i1 k1) (if M j1 k1<M k1 j1 then M k1 j1 else 0)≤W i1 j1))→Jt (Ks M) P.length 1099511627776 (pot P.length 1099511627776 W0) W ag i1 j1 (k1+1)from fun h=>PS.u.skip (fun pt=>⟨fun e=>by
   have:=(h pt).1 e;subst e;rw [←HE.u]at this;exact this,fun e=>by
   have:=(h pt).2 e;rw [←HE.u]at this;exact this⟩))
  have gz:=jA (show ∀s,i1≠j1→W i1 j1<s→s≤1099511627776→CT.Way (Ks M) P.length s i1 j1→Jt (Ks M) P.length 1099511627776 (pot P.length 1099511627776 W0) (upd W i1 j1 s) true i1 j1 (k1+1)from fun s h1 h2 h3 h4=>PS.u.set Nv ft h1 h2 h3 h4);clear lG bK ha HMr bO PS HE;generalize hx:M k1 j1=x at*;generalize hy:M j1 k1=y at*;generalize hz:W i1 k1=z at*;generalize hv:W i1 j1=v at*;generalize gs[i1]=G at*;clear hx hy hz hv;by_cases pt:i1=j1
  ·have g0:((i1:Int)==(j1:Int))=true:=by rw [pt];simp
   have g0':(i1==j1)=true:=by rw [pt];simp
   have LA:=jA (fx.u (fun h=>absurd pt h));clear pt fx gz aB Aw My;go_upto_region 23 with(fail);refine Seg.xf (fun w'=> ∃m,w'=wr.drewN m) [] [0,1,2,3,4,5,6,7,8,9,10,11,12,13,14,15,16,17,18,19,20,21,22,23,24,25,26,27,28,29] 30 (by kernel_rfl) (by kernel_rfl) (fun _ _ d _ _ h=>by cases d<;>exact h) (⟨1,rfl⟩) ?_;simp only [jK,Seg.opAt,Seg.xu];repeat (any_goals (first|go_big_quiet_step (fail)|quiet_step (fail)))
   refine jR ?_;go_wp2_with go_big_skip;go_roundw;case rel=>exact⟨k1+1,ag,W,by go_num,rfl,by omega,LA.u,M5.u.drewN _,ML.yl B5.u _⟩
   case measure=>simp [intOf];omega
  have g0:((i1:Int)==(j1:Int))=false:=by rw [jt];omega
  have g0':(i1==j1)=false:=by rw [jt];exact pt
  by_cases Uu:x≤y
  ·have g1:decide (x≤y)=true:=jT Uu;have LA:=jA (fx.u (fun _=>⟨fun _=>by rw [jQ (by omega)];exact hvn,fun _=>by rw [jQ (by omega)];omega⟩));clear pt Uu fx gz aB Aw My;go_upto_region 23 with(fail);refine Seg.xf (fun w'=> ∃m,w'=wr.drewN m) [] [0,1,2,3,4,5,6,7,8,9,10,11,12,13,14,15,16,17,18,19,20,21,22,23,24,25,26,27,28,29] 30 (by kernel_rfl) (by kernel_rfl) (fun _ _ d _ _ h=>by cases d<;>exact h) (⟨1,rfl⟩) ?_;simp only [jK,Seg.opAt,Seg.xu];repeat (any_goals (first|go_big_quiet_step (fail)|quiet_step (fail)))
   refine jR ?_;go_wp2_with go_big_skip;go_roundw;case rel=>exact⟨k1+1,ag,W,by go_num,rfl,by omega,LA.u,M5.u.drewN _,ML.yl B5.u _⟩
   case measure=>simp [intOf];omega
  have g1:decide (x≤y)=false:=jS Uu;have Sx:y<x:=by omega
  by_cases nu:k1=i1
  ·have g2:((k1:Int) !=(i1:Int))=false:=by rw [nu];simp
   have g2':(k1 !=i1)=false:=by rw [nu];simp
   by_cases dJ:v<x
   ·have g3:decide (v<x)=true:=jT dJ;have LA:=jA (gz.u x pt dJ hxT (aB.u Sx nu));have MS:=jA (My.u x);clear pt Uu Sx nu dJ fx gz aB Aw My;go_upto_region 23 with(fail);refine Seg.xf (fun w'=> ∃m,w'=wr.drewN m) [] [0,1,2,3,4,5,6,7,8,9,10,11,12,13,14,15,16,17,18,19,20,21,22,23,24,25,26,27,28,29] 30 (by kernel_rfl) (by kernel_rfl) (fun _ _ d _ _ h=>by cases d<;>exact h) (⟨1,rfl⟩) ?_;simp only [jK,Seg.opAt,Seg.xu];repeat (any_goals (first|go_big_quiet_step (fail)|quiet_step (fail)))
    refine jR ?_;go_wp2_with go_big_skip;go_roundw;case rel=>exact⟨k1+1,true,_,by go_num,rfl,by omega,LA.u,MS.u _,(ML.yl B5.u _).setCell PM _⟩
    case measure=>simp [intOf];omega
   ·have g3:decide (v<x)=false:=jS dJ;have LA:=jA (fx.u (fun _=>⟨fun _=>by rw [jP Sx];omega,fun h=>absurd nu h⟩));clear pt Uu Sx nu dJ fx gz aB Aw My;go_upto_region 23 with(fail);refine Seg.xf (fun w'=> ∃m,w'=wr.drewN m) [] [0,1,2,3,4,5,6,7,8,9,10,11,12,13,14,15,16,17,18,19,20,21,22,23,24,25,26,27,28,29] 30 (by kernel_rfl) (by kernel_rfl) (fun _ _ d _ _ h=>by cases d<;>exact h) (⟨1,rfl⟩) ?_;simp only [jK,Seg.opAt,Seg.xu];repeat (any_goals (first|go_big_quiet_step (fail)|quiet_step (fail)))
    refine jR ?_;go_wp2_with go_big_skip;go_roundw;case rel=>exact⟨k1+1,ag,W,by go_num,rfl,by omega,LA.u,M5.u.drewN _,ML.yl B5.u _⟩
    case measure=>simp [intOf];omega
  have g2:((k1:Int) !=(i1:Int))=true:=by rw [ju];omega
  have g2':(k1 !=i1)=true:=by rw [ju];exact nu
  by_cases Is:z=0
  ·have g3:(z==0)=true:=by rw [qH];exact Is
   have LA:=jA (fx.u (fun _=>⟨fun h=>absurd h nu,fun _=>by omega⟩));clear pt Uu Sx nu Is fx gz aB Aw My;go_upto_region 23 with(fail);refine Seg.xf (fun w'=> ∃m,w'=wr.drewN m) [] [0,1,2,3,4,5,6,7,8,9,10,11,12,13,14,15,16,17,18,19,20,21,22,23,24,25,26,27,28,29] 30 (by kernel_rfl) (by kernel_rfl) (fun _ _ d _ _ h=>by cases d<;>exact h) (⟨1,rfl⟩) ?_;simp only [jK,Seg.opAt,Seg.xu];repeat (any_goals (first|go_big_quiet_step (fail)|quiet_step (fail)))
   refine jR ?_;go_wp2_with go_big_skip;go_roundw;case rel=>exact⟨k1+1,ag,W,by go_num,rfl,by omega,LA.u,M5.u.drewN _,ML.yl B5.u _⟩
   case measure=>simp [intOf];omega
  have g3:(z==0)=false:=by rw [jt];exact Is
  by_cases CY:z<x
  ·have g4:decide (z<x)=true:=jT CY;by_cases hvz:v<z
   ·have g5:decide (v<z)=true:=jT hvz;have LA:=jA (gz.u z pt hvz (by omega) (Aw.u Sx nu (by omega) z (vL _) (by omega)));have MS:=jA (My.u z);clear pt Uu Sx nu Is CY hvz fx gz aB Aw My;go_upto_region 23 with(fail);refine Seg.xf (fun w'=> ∃m,w'=wr.drewN m) [] [0,1,2,3,4,5,6,7,8,9,10,11,12,13,14,15,16,17,18,19,20,21,22,23,24,25,26,27,28,29] 30 (by kernel_rfl) (by kernel_rfl) (fun _ _ d _ _ h=>by cases d<;>exact h) (⟨1,rfl⟩) ?_;simp only [jK,Seg.opAt,Seg.xu];repeat (any_goals (first|go_big_quiet_step (fail)|quiet_step (fail)))
    refine jR ?_;go_wp2_with go_big_skip;go_roundw;case rel=>exact⟨k1+1,true,_,by go_num,rfl,by omega,LA.u,MS.u _,(ML.yl B5.u _).setCell PM _⟩
    case measure=>simp [intOf];omega
   ·have g5:decide (v<z)=false:=jS hvz;have LA:=jA (fx.u (fun _=>⟨fun h=>absurd h nu,fun _=>by rw [jP Sx];omega⟩));clear pt Uu Sx nu Is CY hvz fx gz aB Aw My;go_upto_region 23 with(fail);refine Seg.xf (fun w'=> ∃m,w'=wr.drewN m) [] [0,1,2,3,4,5,6,7,8,9,10,11,12,13,14,15,16,17,18,19,20,21,22,23,24,25,26,27,28,29] 30 (by kernel_rfl) (by kernel_rfl) (fun _ _ d _ _ h=>by cases d<;>exact h) (⟨1,rfl⟩) ?_;simp only [jK,Seg.opAt,Seg.xu];repeat (any_goals (first|go_big_quiet_step (fail)|quiet_step (fail)))
    refine jR ?_;go_wp2_with go_big_skip;go_roundw;case rel=>exact⟨k1+1,ag,W,by go_num,rfl,by omega,LA.u,M5.u.drewN _,ML.yl B5.u _⟩
    case measure=>simp [intOf];omega
  ·have g4:decide (z<x)=false:=jS CY;by_cases dJ:v<x
   ·have g5:decide (v<x)=true:=jT dJ;have LA:=jA (gz.u x pt dJ hxT (Aw.u Sx nu (by omega) x (by omega) (vL _)));have MS:=jA (My.u x);clear pt Uu Sx nu Is CY dJ fx gz aB Aw My;go_upto_region 23 with(fail);refine Seg.xf (fun w'=> ∃m,w'=wr.drewN m) [] [0,1,2,3,4,5,6,7,8,9,10,11,12,13,14,15,16,17,18,19,20,21,22,23,24,25,26,27,28,29] 30 (by kernel_rfl) (by kernel_rfl) (fun _ _ d _ _ h=>by cases d<;>exact h) (⟨1,rfl⟩) ?_;simp only [jK,Seg.opAt,Seg.xu];repeat (any_goals (first|go_big_quiet_step (fail)|quiet_step (fail)))
    refine jR ?_;go_wp2_with go_big_skip;go_roundw;case rel=>exact⟨k1+1,true,_,by go_num,rfl,by omega,LA.u,MS.u _,(ML.yl B5.u _).setCell PM _⟩
    case measure=>simp [intOf];omega
   ·have g5:decide (v<x)=false:=jS dJ;have LA:=jA (fx.u (fun _=>⟨fun h=>absurd h nu,fun _=>by rw [jP Sx];omega⟩));clear pt Uu Sx nu Is CY dJ fx gz aB Aw My;go_upto_region 23 with(fail);refine Seg.xf (fun w'=> ∃m,w'=wr.drewN m) [] [0,1,2,3,4,5,6,7,8,9,10,11,12,13,14,15,16,17,18,19,20,21,22,23,24,25,26,27,28,29] 30 (by kernel_rfl) (by kernel_rfl) (fun _ _ d _ _ h=>by cases d<;>exact h) (⟨1,rfl⟩) ?_;simp only [jK,Seg.opAt,Seg.xu];repeat (any_goals (first|go_big_quiet_step (fail)|quiet_step (fail)))
    refine jR ?_;go_wp2_with go_big_skip;go_roundw;case rel=>exact⟨k1+1,ag,W,by go_num,rfl,by omega,LA.u,M5.u.drewN _,ML.yl B5.u _⟩
    case measure=>simp [intOf];omega
end Go.Proofs.YtnohcdpnnhmpfaaGreatDoor
