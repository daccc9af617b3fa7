/-
  Chapter 13, for Pairs: the greatest of ints; the rule of a field.
  Chapter 13, for Pairs: the tops of fields; the reference's Ranks, Top, times.
-/
import Derived.Test.YtnohcdpnnhmpfaaGreatDoorK13
set_option linter.unusedVariables false
set_option linter.unusedSimpArgs false
set_option maxRecDepth 100000
set_option maxHeartbeats 2000000
namespace Go.Proofs.YtnohcdpnnhmpfaaGreatDoor
open Go.RowKit ML FM AU CT
structure Most(L:List Int)(m:Int):Prop where
 mem:m∈L
 le: ∀x∈L,x≤m
theorem Most.snoc {L:List Int}{m:Int}(h:Most L m)(x:Int):Most (L++ [x]) (if m<x then x else m):=by
 refine⟨?_,fun y hy=>?_⟩
 ·by_cases hx:m<x;·rw [if_pos hx];simp
  ·rw [if_neg hx];exact List.mem_append_left _ h.mem
 ·rcases List.mem_append.1 hy with h1|h1;·have:=h.le y h1;split<;>omega
  ·obtain rfl:y=x:=by simpa using h1
   split<;>omega
theorem max_any(oa:Option Addr)(L:List Int)(cap:Nat)(w:World)(h:IsAt w oa L)(h0:0<L.length)(hl:L.length<9223372036854775807):
 Calls Tryz.prog 70 #[.slice oa L.length cap] w fun e w'=>(∃m,e=.returned (.int .i64 m)∧Most L m)∧w=w':=by
 obtain⟨a,rfl,hab,hac⟩:=h.cells 0 h0;have H:=Lib.hid h;have d0:decide ((L.length:Int)<1)=false:=decide_eq_false (by omega);have d1:decide (L.length<1)=false:=decide_eq_false (by omega);have hz:(0:Int)<(L.length:Int):=by omega
 have hac2:w.cell? a=some (.int .i64 L[0]):=by have:=hac;rwa [show a.add 0=a from by simp [Addr.add]]at this
 clear h;have HS:=Lib.hid (show Most (L.take 1) L[0]from⟨by rw [List.take_succ_eq_append_getElem h0];simp,fun x hx=>by rw [List.take_succ_eq_append_getElem h0]at hx;simp at hx;omega⟩);generalize L[0]=x0 at*;go_enter Tryz.func70,Tryz.ntmps70;go_wp2_with fail;clear hac hac2 d0 d1 hz
 go_loop [3,4] (fun v i=> ∃(k:Nat) (m:Int),1≤k∧k≤L.length∧i=.int .i64 k∧v=.int .i64 m∧Most (L.take k) m) (fun _ i=>L.length-(intOf i).toNat)
 case atStart=>exact⟨1,x0,by omega,by omega,rfl,rfl,HS.out⟩
 case round=>
 obtain⟨k,m,hk1,hk,rfl,rfl,hm⟩:=hrel;have HM:=Lib.hid hm;clear hm;by_cases hlt:k<L.length
 ·have dk:decide ((k:Int)<(L.length:Int))=true:=decide_eq_true (by omega);have dk2:decide (k<L.length)=true:=decide_eq_true hlt;have hki:(k:Int)<(L.length:Int):=by omega
  obtain⟨b,hoa,hab2,hac2⟩:=H.out.cells k hlt;obtain rfl:a=b:=by injection hoa
  have HN:=Lib.hid (show Most (L.take (k+1)) (if m<L[k]then L[k]else m)by rw [List.take_succ_eq_append_getElem hlt];exact HM.out.snoc _);generalize L[k]=y at*;go_wp2_with fail
  go_round
  case rel=>exact⟨k+1,if m<y then y else m,by omega,by omega,by go_num,rfl,HN.out⟩
  case measure=>simp [intOf];omega
 ·have dk:decide ((k:Int)<(L.length:Int))=false:=decide_eq_false (by omega);have dk2:decide (k<L.length)=false:=decide_eq_false hlt;obtain rfl:k=L.length:=by omega
  rw [List.take_length]at HM;go_wp2_with fail;go_ret;exact⟨⟨m,rfl,HM.out⟩,rfl⟩
def ranksB(rl:Int):Bool:=decide (rl=3∨rl=4)
theorem ranks_any(c:CTest)(oa:Option Addr)(cap:Nat)(w:World):Calls Tryz.prog 169 #[.agg #[.string ⟨c.nm.toArray⟩,.slice oa c.op.length cap,.int .i64 c.rl,.int .i64 c.se,.int .i64 c.mo,.int .i64 0]] w fun e w'=>e=.returned (.bool (ranksB c.rl))∧Below w.heap.size w w':=by
 have HR:=Lib.hid (show ranksB c.rl=decide (c.rl=3∨c.rl=4)from rfl);by_cases h3:c.rl=3
 ·have e3:(c.rl==3)=true:=by rw [h3];rfl
  have HE:=Lib.hid (HR.out.trans (decide_eq_true (.inl h3)));clear h3;go_enter Tryz.func169,Tryz.ntmps169;go_wp2_with fail;go_ret;exact⟨by rw [HE.out];rfl,(Below.refl _ _).alloc (Nat.le_refl _) _⟩
 ·have e3:(c.rl==3)=false:=by rw [beq_eq_false_iff_ne];exact h3
  by_cases h4:c.rl=4
  ·have e4:(c.rl==4)=true:=by rw [h4];rfl
   have HE:=Lib.hid (HR.out.trans (decide_eq_true (.inr h4)));clear h3 h4;go_enter Tryz.func169,Tryz.ntmps169;go_wp2_with fail;go_ret;exact⟨by rw [HE.out];rfl,(Below.refl _ _).alloc (Nat.le_refl _) _⟩
  ·have e4:(c.rl==4)=false:=by rw [beq_eq_false_iff_ne];exact h4
   have HE:=Lib.hid (HR.out.trans (decide_eq_false (fun h=>h.elim h3 h4)));clear h3 h4;go_enter Tryz.func169,Tryz.ntmps169;go_wp2_with fail;go_ret;exact⟨by rw [HE.out];rfl,(Below.refl _ _).alloc (Nat.le_refl _) _⟩
theorem wpList_load_g {P:Program}{ops:Array Oper}{rest:List Oper}{o:Oper}{a:Act}{w:World}{Q:Exit→Act→World→Prop}(hw:Region.wanted o (yielded ops a.tmps)=true)(ty:TypeId)(x:Operand)(ho:o.op=.load ty x)(b:Nat)(cs:Array Value)(t:TypeId)(fr:Nat×Nat)(d:TypeDesc)
 (hx:a.eval x=.pointer (some ⟨b,0,none⟩)) (hb:w.heap[b]?=some (.cells cs t fr)) (hu:P.underlying ty=some d) (hd:(match d with| .struct _=>true| .array _ _=>true|_=>false)=true)
 (hi:(P.info? ty).map (·.size)=some cs.size) (h:wpList P ops Q rest (a.put o.dst (.agg cs)) w):wpList P ops Q (o::rest) a w:=
 wpList_step fun K hK=>by
  rw [if_pos hw];have hr:=run_loadVar_row (P:=P) w b t ty cs fr d hb hu (by cases d<;>first|rfl|exact hd) hi;unfold Oper.wp execOp;simp only [ho,hx,Instr.loadAt,Instr.sureAddr,Sem.run_bind,Sem.run_pure,Result.andThen_ok,hr];exact hK _ _ h
theorem at_load(ty:TypeId){P:Program}{ops:Array Oper}{rest:List Oper}{dst:Option Tmp}{x:Operand}{t:TypeId}{pos:String}{af:Array Edge}{g:Option (Nat×Bool)}{a:Act}{w:World}{Q:Exit→Act→World→Prop}(h:wpList P ops Q (⟨dst,.load ty x,t,pos,af,g⟩::rest) a w):wpList P ops Q (⟨dst,.load ty x,t,pos,af,g⟩::rest) a w:=h
def topI(c:CTest):Int:=if ranksB c.rl=true then(c.op.length:Int)else 1
theorem size_field:(Tryz.prog.info? 161).map (·.size)=some 6:=by kernel_rfl
theorem top_any(c:CTest)(oa:Option Addr)(cap:Nat)(w:World):Calls Tryz.prog 168 #[.agg #[.string ⟨c.nm.toArray⟩,.slice oa c.op.length cap,.int .i64 c.rl,.int .i64 c.se,.int .i64 c.mo,.int .i64 0]] w fun e w'=>e=.returned (.int .i64 (topI c))∧Below w.heap.size w w':=by
 have Q:=Lib.hid (fun w=>ranks_any c oa cap w);cases hr:ranksB c.rl with
 |
  true=>
  have HT:=Lib.hid (show topI c=(c.op.length:Int)from if_pos hr);rw [hr]at Q;clear hr;go_enter Tryz.func168,Tryz.ntmps168;go_upto_region 1 with(fail);generalize hB:w.heap.size=B at*;refine wp_abs (fun w1=>Below B w w1∧w1.heap[B]?=some (.cells #[.string ⟨c.nm.toArray⟩,.slice oa c.op.length cap,.int .i64 c.rl,.int .i64 c.se,.int .i64 c.mo,.int .i64 0] 161 (0,0))) ⟨by rw [←hB];exact(Below.refl _ _).alloc (Nat.le_refl _) _,by rw [←hB];exact heap_at rfl⟩ (fun w1 hw1=>?_);have HB:=Lib.hid hB;have B1:=Lib.hid hw1.1;have X1:=Lib.hid hw1.2;have hBs:B<w1.heap.size:=lt_of_heap hw1.2;clear hB hw1;go_wp2_with (first|(refine wpList_load_whole rfl 161 _ rfl B _ _ _ _ rfl X1.out Tryz.underlying161 rfl size_field ?_)|(go_at_call 169;refine(Q.out w1).mono ?_;rintro e w2 ⟨rfl,b2⟩;have k1:w2.cell? ⟨B,1,none⟩=some (.slice oa c.op.length cap):=cell_of_row w2 B 1 _ _ _ (bel_keep b2 hBs X1.out)));go_ret;exact⟨by rw [HT.out];rfl,by rw [HB.out];exact B1.out.trans (b2.mono (Nat.le_of_lt hBs))⟩
 |
  false=>
  have HT:=Lib.hid (show topI c=1 from if_neg (by rw [hr];decide));rw [hr]at Q;clear hr;go_enter Tryz.func168,Tryz.ntmps168;go_upto_region 1 with(fail);generalize hB:w.heap.size=B at*;refine wp_abs (fun w1=>Below B w w1∧w1.heap[B]?=some (.cells #[.string ⟨c.nm.toArray⟩,.slice oa c.op.length cap,.int .i64 c.rl,.int .i64 c.se,.int .i64 c.mo,.int .i64 0] 161 (0,0))) ⟨by rw [←hB];exact(Below.refl _ _).alloc (Nat.le_refl _) _,by rw [←hB];exact heap_at rfl⟩ (fun w1 hw1=>?_);have HB:=Lib.hid hB;have B1:=Lib.hid hw1.1;have X1:=Lib.hid hw1.2;have hBs:B<w1.heap.size:=lt_of_heap hw1.2;clear hB hw1;go_wp2_with (first|(refine wpList_load_whole rfl 161 _ rfl B _ _ _ _ rfl X1.out Tryz.underlying161 rfl size_field ?_)|(go_at_call 169;refine(Q.out w1).mono ?_;rintro e w2 ⟨rfl,b2⟩;have k1:w2.cell? ⟨B,1,none⟩=some (.slice oa c.op.length cap):=cell_of_row w2 B 1 _ _ _ (bel_keep b2 hBs X1.out)));go_ret;exact⟨by rw [HT.out];rfl,by rw [HB.out];exact B1.out.trans (b2.mono (Nat.le_of_lt hBs))⟩
def cntI(L:List Int)(n:Int):Nat:=(L.filter fun x=>x==n).length
end Go.Proofs.YtnohcdpnnhmpfaaGreatDoor
