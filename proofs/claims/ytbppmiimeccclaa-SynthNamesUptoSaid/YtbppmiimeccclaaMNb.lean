/- Parts of the proof (part 2): what the rows' text needs of the texts that lead to it. -/
import Derived.Test.YtbppmiimeccclaaMNa
namespace Go.Proofs.Ytbppmiimeccclaa
open Go Go.Sl
set_option maxRecDepth 100000
theorem c130 (G : Imm) (op : Int) : Does Try.prog 130 [.int .i64 op] G [] (fun v G' Ho => v = .bool (decide (op = 3 ∨ op = 4)) ∧ G' = G ∧ Ho = []) := by
  refine Does.enter Try.func130 rfl Try.ntmps130 rfl (fun w => ?_)
  refine Wc.seq ?_
  refine Wc.region rfl ?_
  refine Wl.q rfl (Qy.assign rfl) ?_
  refine Wl.done ?_
  refine Ar.next ?_
  refine Wc.seq ?_
  refine Wc.region rfl ?_
  refine Wl.q rfl (Qy.move rfl) ?_
  refine Wl.q rfl (Qy.eql rfl rfl) ?_
  refine Wl.q rfl (Qy.move rfl) ?_
  apply Wl.joinOr 3 5 8 rfl
  intro hg1
  refine Wl.want rfl rfl ?_
  refine Wl.q rfl (Qy.move rfl) ?_
  refine Wl.want rfl rfl ?_
  refine Wl.q rfl (Qy.eql rfl rfl) ?_
  refine Wl.q rfl (Qy.pick rfl rfl) ?_
  exact Wl.back 3 0 rfl rfl rfl rfl rfl
  intro hg1
  refine Wl.pass rfl rfl rfl ?_
  refine Wl.pass rfl rfl rfl ?_
  refine Wl.q rfl (Qy.pick rfl rfl) ?_
  exact Wl.back 3 0 rfl rfl rfl rfl rfl
  refine Wl.q rfl (Qy.assign rfl) ?_
  refine Wl.done ?_
  refine Ar.next ?_
  refine Wc.ret ?_
  refine Ar.out1 (.inr rfl) (Ho := Hp.only _ []) rfl (.tmp rfl) (Hp.sub_only _ _) ?_
  exact ⟨by simp, rfl, rfl⟩
def constOk (op c : Int) : Bool :=
  if op = 5 ∨ op = 6 then decide (c ≠ 0 ∧ -512 ≤ c ∧ c ≤ 512) else if op = 7 ∨ op = 8 then decide (1 ≤ c ∧ c ≤ 64) else decide (c = 0)
theorem c131 (G : Imm) (i : Sl.Instr) : Does Try.prog 131 [.agg (Cells.enc i).toArray] G [] (fun v G' Ho => v = .bool (decide (constOk i.op i.c = true)) ∧ G' = G ∧ Ho = []) := by
  refine Does.enter Try.func131 rfl Try.ntmps131 rfl (fun w => ?_)
  refine Wc.seq ?_
  refine Wc.region rfl ?_
  refine Wl.box 0 rfl rfl rfl (fun b1 => ?_)
  refine Wl.q rfl (Qy.assign rfl) ?_
  refine Wl.done ?_
  refine Ar.next ?_
  refine Wc.seq ?_
  refine Wc.seq ?_
  refine Wc.region rfl ?_
  refine Wl.q rfl (Qy.fieldAddr T.fa72_0 rfl) ?_
  refine Wl.q rfl (Qy.load 0 T.one3 rfl rfl rfl) ?_
  refine Wl.done ?_
  refine Ar.next ?_
  refine Wc.block ?_
  refine Wc.seq ?_
  refine Wc.seq ?_
  refine Wc.region rfl ?_
  refine Wl.q rfl (Qy.eql rfl rfl) ?_
  refine Wl.q rfl (Qy.assign rfl) ?_
  refine Wl.done ?_
  refine Ar.next ?_
  refine Wc.cond rfl (fun hc1 => ?_) (fun hc1 => ?_)
  refine Wc.skip ?_
  refine Ar.next ?_
  refine Wc.condP rfl (by first | assumption | omega) ?_
  refine Wc.seq ?_
  refine Wc.region rfl ?_
  refine Wl.q rfl (Qy.fieldAddr T.fa72_4 rfl) ?_
  refine Wl.q rfl (Qy.load 0 T.one3 rfl rfl rfl) ?_
  refine Wl.q rfl (Qy.neq rfl rfl) ?_
  refine Wl.q rfl (Qy.move rfl) ?_
  apply Wl.joinAnd 4 11 15 rfl
  intro hg1
  refine Wl.want rfl rfl ?_
  refine Wl.q rfl (Qy.fieldAddr T.fa72_4 rfl) ?_
  refine Wl.want rfl rfl ?_
  refine Wl.q rfl (Qy.load 0 T.one3 rfl rfl rfl) ?_
  refine Wl.want rfl rfl ?_
  refine Wl.q rfl (Qy.geq rfl rfl) ?_
  refine Wl.q rfl (Qy.pick rfl rfl) ?_
  exact Wl.back 4 0 rfl rfl rfl rfl rfl
  intro hg1
  refine Wl.pass rfl rfl rfl ?_
  refine Wl.pass rfl rfl rfl ?_
  refine Wl.pass rfl rfl rfl ?_
  refine Wl.q rfl (Qy.pick rfl rfl) ?_
  exact Wl.back 4 0 rfl rfl rfl rfl rfl
  refine Wl.q rfl (Qy.move rfl) ?_
  apply Wl.joinAnd 4 16 20 rfl
  intro hg1
  refine Wl.want rfl rfl ?_
  refine Wl.q rfl (Qy.fieldAddr T.fa72_4 rfl) ?_
  refine Wl.want rfl rfl ?_
  refine Wl.q rfl (Qy.load 0 T.one3 rfl rfl rfl) ?_
  refine Wl.want rfl rfl ?_
  refine Wl.q rfl (Qy.leq rfl rfl) ?_
  refine Wl.q rfl (Qy.pick rfl rfl) ?_
  exact Wl.back 4 0 rfl rfl rfl rfl rfl
  intro hg1
  refine Wl.pass rfl rfl rfl ?_
  refine Wl.pass rfl rfl rfl ?_
  refine Wl.pass rfl rfl rfl ?_
  refine Wl.q rfl (Qy.pick rfl rfl) ?_
  exact Wl.back 4 0 rfl rfl rfl rfl rfl
  refine Wl.q rfl (Qy.assign rfl) ?_
  refine Wl.done ?_
  refine Ar.next ?_
  refine Wc.ret ?_
  refine Ar.outRet ?_
  refine Ar.passRet ?_
  refine Ar.out1 (.inr rfl) (Ho := Hp.only _ []) rfl (.tmp rfl) (Hp.sub_only _ _) ?_
  rotate_left
  refine Wc.region rfl ?_
  refine Wl.q rfl (Qy.eql rfl rfl) ?_
  refine Wl.q rfl (Qy.assign rfl) ?_
  refine Wl.done ?_
  refine Ar.next ?_
  refine Wc.cond rfl (fun hc2 => ?_) (fun hc2 => ?_)
  refine Wc.seq ?_
  refine Wc.region rfl ?_
  refine Wl.q rfl (Qy.fieldAddr T.fa72_4 rfl) ?_
  refine Wl.q rfl (Qy.load 0 T.one3 rfl rfl rfl) ?_
  refine Wl.q rfl (Qy.neq rfl rfl) ?_
  refine Wl.q rfl (Qy.move rfl) ?_
  apply Wl.joinAnd 4 11 15 rfl
  intro hg1
  refine Wl.want rfl rfl ?_
  refine Wl.q rfl (Qy.fieldAddr T.fa72_4 rfl) ?_
  refine Wl.want rfl rfl ?_
  refine Wl.q rfl (Qy.load 0 T.one3 rfl rfl rfl) ?_
  refine Wl.want rfl rfl ?_
  refine Wl.q rfl (Qy.geq rfl rfl) ?_
  refine Wl.q rfl (Qy.pick rfl rfl) ?_
  exact Wl.back 4 0 rfl rfl rfl rfl rfl
  intro hg1
  refine Wl.pass rfl rfl rfl ?_
  refine Wl.pass rfl rfl rfl ?_
  refine Wl.pass rfl rfl rfl ?_
  refine Wl.q rfl (Qy.pick rfl rfl) ?_
  exact Wl.back 4 0 rfl rfl rfl rfl rfl
  refine Wl.q rfl (Qy.move rfl) ?_
  apply Wl.joinAnd 4 16 20 rfl
  intro hg1
  refine Wl.want rfl rfl ?_
  refine Wl.q rfl (Qy.fieldAddr T.fa72_4 rfl) ?_
  refine Wl.want rfl rfl ?_
  refine Wl.q rfl (Qy.load 0 T.one3 rfl rfl rfl) ?_
  refine Wl.want rfl rfl ?_
  refine Wl.q rfl (Qy.leq rfl rfl) ?_
  refine Wl.q rfl (Qy.pick rfl rfl) ?_
  exact Wl.back 4 0 rfl rfl rfl rfl rfl
  intro hg1
  refine Wl.pass rfl rfl rfl ?_
  refine Wl.pass rfl rfl rfl ?_
  refine Wl.pass rfl rfl rfl ?_
  refine Wl.q rfl (Qy.pick rfl rfl) ?_
  exact Wl.back 4 0 rfl rfl rfl rfl rfl
  refine Wl.q rfl (Qy.assign rfl) ?_
  refine Wl.done ?_
  refine Ar.next ?_
  refine Wc.ret ?_
  refine Ar.outRet ?_
  refine Ar.passRet ?_
  refine Ar.out1 (.inr rfl) (Ho := Hp.only _ []) rfl (.tmp rfl) (Hp.sub_only _ _) ?_
  rotate_left
  refine Wc.seq ?_
  refine Wc.seq ?_
  refine Wc.region rfl ?_
  refine Wl.q rfl (Qy.eql rfl rfl) ?_
  refine Wl.q rfl (Qy.assign rfl) ?_
  refine Wl.done ?_
  refine Ar.next ?_
  refine Wc.cond rfl (fun hc3 => ?_) (fun hc3 => ?_)
  refine Wc.skip ?_
  refine Ar.next ?_
  refine Wc.condP rfl (by first | assumption | omega) ?_
  refine Wc.seq ?_
  refine Wc.region rfl ?_
  refine Wl.q rfl (Qy.fieldAddr T.fa72_4 rfl) ?_
  refine Wl.q rfl (Qy.load 0 T.one3 rfl rfl rfl) ?_
  refine Wl.q rfl (Qy.geq rfl rfl) ?_
  refine Wl.q rfl (Qy.move rfl) ?_
  apply Wl.joinAnd 4 27 31 rfl
  intro hg1
  refine Wl.want rfl rfl ?_
  refine Wl.q rfl (Qy.fieldAddr T.fa72_4 rfl) ?_
  refine Wl.want rfl rfl ?_
  refine Wl.q rfl (Qy.load 0 T.one3 rfl rfl rfl) ?_
  refine Wl.want rfl rfl ?_
  refine Wl.q rfl (Qy.leq rfl rfl) ?_
  refine Wl.q rfl (Qy.pick rfl rfl) ?_
  exact Wl.back 4 0 rfl rfl rfl rfl rfl
  intro hg1
  refine Wl.pass rfl rfl rfl ?_
  refine Wl.pass rfl rfl rfl ?_
  refine Wl.pass rfl rfl rfl ?_
  refine Wl.q rfl (Qy.pick rfl rfl) ?_
  exact Wl.back 4 0 rfl rfl rfl rfl rfl
  refine Wl.q rfl (Qy.assign rfl) ?_
  refine Wl.done ?_
  refine Ar.next ?_
  refine Wc.ret ?_
  refine Ar.outRet ?_
  refine Ar.passRet ?_
  refine Ar.out1 (.inr rfl) (Ho := Hp.only _ []) rfl (.tmp rfl) (Hp.sub_only _ _) ?_
  rotate_left
  refine Wc.region rfl ?_
  refine Wl.q rfl (Qy.eql rfl rfl) ?_
  refine Wl.q rfl (Qy.assign rfl) ?_
  refine Wl.done ?_
  refine Ar.next ?_
  refine Wc.cond rfl (fun hc4 => ?_) (fun hc4 => ?_)
  refine Wc.seq ?_
  refine Wc.region rfl ?_
  refine Wl.q rfl (Qy.fieldAddr T.fa72_4 rfl) ?_
  refine Wl.q rfl (Qy.load 0 T.one3 rfl rfl rfl) ?_
  refine Wl.q rfl (Qy.geq rfl rfl) ?_
  refine Wl.q rfl (Qy.move rfl) ?_
  apply Wl.joinAnd 4 27 31 rfl
  intro hg1
  refine Wl.want rfl rfl ?_
  refine Wl.q rfl (Qy.fieldAddr T.fa72_4 rfl) ?_
  refine Wl.want rfl rfl ?_
  refine Wl.q rfl (Qy.load 0 T.one3 rfl rfl rfl) ?_
  refine Wl.want rfl rfl ?_
  refine Wl.q rfl (Qy.leq rfl rfl) ?_
  refine Wl.q rfl (Qy.pick rfl rfl) ?_
  exact Wl.back 4 0 rfl rfl rfl rfl rfl
  intro hg1
  refine Wl.pass rfl rfl rfl ?_
  refine Wl.pass rfl rfl rfl ?_
  refine Wl.pass rfl rfl rfl ?_
  refine Wl.q rfl (Qy.pick rfl rfl) ?_
  exact Wl.back 4 0 rfl rfl rfl rfl rfl
  refine Wl.q rfl (Qy.assign rfl) ?_
  refine Wl.done ?_
  refine Ar.next ?_
  refine Wc.ret ?_
  refine Ar.outRet ?_
  refine Ar.passRet ?_
  refine Ar.out1 (.inr rfl) (Ho := Hp.only _ []) rfl (.tmp rfl) (Hp.sub_only _ _) ?_
  rotate_left
  refine Wc.skip ?_
  refine Ar.outNormal ?_
  refine Ar.next ?_
  refine Wc.seq ?_
  refine Wc.region rfl ?_
  refine Wl.q rfl (Qy.fieldAddr T.fa72_4 rfl) ?_
  refine Wl.q rfl (Qy.load 0 T.one3 rfl rfl rfl) ?_
  refine Wl.q rfl (Qy.eql rfl rfl) ?_
  refine Wl.q rfl (Qy.assign rfl) ?_
  refine Wl.done ?_
  refine Ar.next ?_
  refine Wc.ret ?_
  refine Ar.out1 (.inr rfl) (Ho := Hp.only _ []) rfl (.tmp rfl) (Hp.sub_only _ _) ?_
  rotate_left
  all_goals refine ⟨?_, rfl, rfl⟩
  all_goals simp [constOk, *]
  all_goals first | (split <;> first | rfl | omega) | omega | (simp only [Bool.and_assoc]; rfl) | (simp only [Bool.and_assoc]) | skip
def asks (i : Sl.Instr) : List Int := if i.op = 3 ∨ i.op = 4 then [i.a, i.b] else if 1 ≤ i.op ∧ i.op ≤ 8 then [i.a] else []
theorem c59 (G : Imm) (i : Sl.Instr) : Does Try.prog 59 [.agg (Cells.enc i).toArray] G [] (fun v G' Ho => ∃ a c junk, v = .slice a (asks i).length c ∧ OwnA a c (asks i) junk ∧ Ho = [(1, a.map (·.block), Row 3 (asks i) junk)] ∧ G' = G) := by
  refine Does.enter Try.func59 rfl Try.ntmps59 rfl (fun w => ?_)
  refine Wc.seq ?_
  refine Wc.region rfl ?_
  refine Wl.box 0 rfl rfl rfl (fun b1 => ?_)
  refine Wl.q rfl (Qy.assign rfl) ?_
  refine Wl.done ?_
  refine Ar.next ?_
  refine Wc.seq ?_
  refine Wc.seq ?_
  refine Wc.region rfl ?_
  refine Wl.q rfl (Qy.fieldAddr T.fa72_0 rfl) ?_
  refine Wl.q rfl (Qy.load 0 T.one3 rfl rfl rfl) ?_
  refine Wl.done ?_
  refine Ar.next ?_
  refine Wc.block ?_
  refine Wc.seq ?_
  refine Wc.seq ?_
  refine Wc.region rfl ?_
  refine Wl.q rfl (Qy.eql rfl rfl) ?_
  refine Wl.q rfl (Qy.assign rfl) ?_
  refine Wl.done ?_
  refine Ar.next ?_
  refine Wc.cond rfl (fun hc1 => ?_) (fun hc1 => ?_)
  refine Wc.skip ?_
  refine Ar.next ?_
  refine Wc.condP rfl (by first | assumption | omega) ?_
  refine Wc.seq ?_
  refine Wc.region rfl ?_
  refine Wl.q rfl (Qy.fieldAddr T.fa72_2 rfl) ?_
  refine Wl.q rfl (Qy.load 0 T.one3 rfl rfl rfl) ?_
  refine Wl.q rfl (Qy.fieldAddr T.fa72_3 rfl) ?_
  refine Wl.q rfl (Qy.load 0 T.one3 rfl rfl rfl) ?_
  refine Wl.lit (α := Int) 1 [(Go.Sl.Instr.a i), (Go.Sl.Instr.b i)] rfl T.sl23 T.el3 rfl rfl rfl rfl rfl (fun b2 => ?_)
  refine Wl.q rfl (Qy.assign rfl) ?_
  refine Wl.done ?_
  refine Ar.next ?_
  refine Wc.ret ?_
  refine Ar.outRet ?_
  refine Ar.passRet ?_
  rotate_left
  refine Wc.region rfl ?_
  refine Wl.q rfl (Qy.eql rfl rfl) ?_
  refine Wl.q rfl (Qy.assign rfl) ?_
  refine Wl.done ?_
  refine Ar.next ?_
  refine Wc.cond rfl (fun hc2 => ?_) (fun hc2 => ?_)
  refine Wc.seq ?_
  refine Wc.region rfl ?_
  refine Wl.q rfl (Qy.fieldAddr T.fa72_2 rfl) ?_
  refine Wl.q rfl (Qy.load 0 T.one3 rfl rfl rfl) ?_
  refine Wl.q rfl (Qy.fieldAddr T.fa72_3 rfl) ?_
  refine Wl.q rfl (Qy.load 0 T.one3 rfl rfl rfl) ?_
  refine Wl.lit (α := Int) 1 [(Go.Sl.Instr.a i), (Go.Sl.Instr.b i)] rfl T.sl23 T.el3 rfl rfl rfl rfl rfl (fun b2 => ?_)
  refine Wl.q rfl (Qy.assign rfl) ?_
  refine Wl.done ?_
  refine Ar.next ?_
  refine Wc.ret ?_
  refine Ar.outRet ?_
  refine Ar.passRet ?_
  rotate_left
  refine Wc.seq ?_
  refine Wc.seq ?_
  refine Wc.region rfl ?_
  refine Wl.q rfl (Qy.eql rfl rfl) ?_
  refine Wl.q rfl (Qy.assign rfl) ?_
  refine Wl.done ?_
  refine Ar.next ?_
  refine Wc.cond rfl (fun hc3 => ?_) (fun hc3 => ?_)
  refine Wc.skip ?_
  refine Ar.next ?_
  refine Wc.condP rfl (by first | assumption | omega) ?_
  refine Wc.seq ?_
  refine Wc.region rfl ?_
  refine Wl.q rfl (Qy.fieldAddr T.fa72_2 rfl) ?_
  refine Wl.q rfl (Qy.load 0 T.one3 rfl rfl rfl) ?_
  refine Wl.lit (α := Int) 1 [(Go.Sl.Instr.a i)] rfl T.sl23 T.el3 rfl rfl rfl rfl rfl (fun b2 => ?_)
  refine Wl.q rfl (Qy.assign rfl) ?_
  refine Wl.done ?_
  refine Ar.next ?_
  refine Wc.ret ?_
  refine Ar.outRet ?_
  refine Ar.passRet ?_
  rotate_left
  refine Wc.seq ?_
  refine Wc.region rfl ?_
  refine Wl.q rfl (Qy.eql rfl rfl) ?_
  refine Wl.q rfl (Qy.assign rfl) ?_
  refine Wl.done ?_
  refine Ar.next ?_
  refine Wc.cond rfl (fun hc4 => ?_) (fun hc4 => ?_)
  refine Wc.skip ?_
  refine Ar.next ?_
  refine Wc.condP rfl (by first | assumption | omega) ?_
  refine Wc.seq ?_
  refine Wc.region rfl ?_
  refine Wl.q rfl (Qy.fieldAddr T.fa72_2 rfl) ?_
  refine Wl.q rfl (Qy.load 0 T.one3 rfl rfl rfl) ?_
  refine Wl.lit (α := Int) 1 [(Go.Sl.Instr.a i)] rfl T.sl23 T.el3 rfl rfl rfl rfl rfl (fun b2 => ?_)
  refine Wl.q rfl (Qy.assign rfl) ?_
  refine Wl.done ?_
  refine Ar.next ?_
  refine Wc.ret ?_
  refine Ar.outRet ?_
  refine Ar.passRet ?_
  rotate_left
  refine Wc.seq ?_
  refine Wc.region rfl ?_
  refine Wl.q rfl (Qy.eql rfl rfl) ?_
  refine Wl.q rfl (Qy.assign rfl) ?_
  refine Wl.done ?_
  refine Ar.next ?_
  refine Wc.cond rfl (fun hc5 => ?_) (fun hc5 => ?_)
  refine Wc.skip ?_
  refine Ar.next ?_
  refine Wc.condP rfl (by first | assumption | omega) ?_
  refine Wc.seq ?_
  refine Wc.region rfl ?_
  refine Wl.q rfl (Qy.fieldAddr T.fa72_2 rfl) ?_
  refine Wl.q rfl (Qy.load 0 T.one3 rfl rfl rfl) ?_
  refine Wl.lit (α := Int) 1 [(Go.Sl.Instr.a i)] rfl T.sl23 T.el3 rfl rfl rfl rfl rfl (fun b2 => ?_)
  refine Wl.q rfl (Qy.assign rfl) ?_
  refine Wl.done ?_
  refine Ar.next ?_
  refine Wc.ret ?_
  refine Ar.outRet ?_
  refine Ar.passRet ?_
  rotate_left
  refine Wc.seq ?_
  refine Wc.region rfl ?_
  refine Wl.q rfl (Qy.eql rfl rfl) ?_
  refine Wl.q rfl (Qy.assign rfl) ?_
  refine Wl.done ?_
  refine Ar.next ?_
  refine Wc.cond rfl (fun hc6 => ?_) (fun hc6 => ?_)
  refine Wc.skip ?_
  refine Ar.next ?_
  refine Wc.condP rfl (by first | assumption | omega) ?_
  refine Wc.seq ?_
  refine Wc.region rfl ?_
  refine Wl.q rfl (Qy.fieldAddr T.fa72_2 rfl) ?_
  refine Wl.q rfl (Qy.load 0 T.one3 rfl rfl rfl) ?_
  refine Wl.lit (α := Int) 1 [(Go.Sl.Instr.a i)] rfl T.sl23 T.el3 rfl rfl rfl rfl rfl (fun b2 => ?_)
  refine Wl.q rfl (Qy.assign rfl) ?_
  refine Wl.done ?_
  refine Ar.next ?_
  refine Wc.ret ?_
  refine Ar.outRet ?_
  refine Ar.passRet ?_
  rotate_left
  refine Wc.seq ?_
  refine Wc.region rfl ?_
  refine Wl.q rfl (Qy.eql rfl rfl) ?_
  refine Wl.q rfl (Qy.assign rfl) ?_
  refine Wl.done ?_
  refine Ar.next ?_
  refine Wc.cond rfl (fun hc7 => ?_) (fun hc7 => ?_)
  refine Wc.skip ?_
  refine Ar.next ?_
  refine Wc.condP rfl (by first | assumption | omega) ?_
  refine Wc.seq ?_
  refine Wc.region rfl ?_
  refine Wl.q rfl (Qy.fieldAddr T.fa72_2 rfl) ?_
  refine Wl.q rfl (Qy.load 0 T.one3 rfl rfl rfl) ?_
  refine Wl.lit (α := Int) 1 [(Go.Sl.Instr.a i)] rfl T.sl23 T.el3 rfl rfl rfl rfl rfl (fun b2 => ?_)
  refine Wl.q rfl (Qy.assign rfl) ?_
  refine Wl.done ?_
  refine Ar.next ?_
  refine Wc.ret ?_
  refine Ar.outRet ?_
  refine Ar.passRet ?_
  rotate_left
  refine Wc.region rfl ?_
  refine Wl.q rfl (Qy.eql rfl rfl) ?_
  refine Wl.q rfl (Qy.assign rfl) ?_
  refine Wl.done ?_
  refine Ar.next ?_
  refine Wc.cond rfl (fun hc8 => ?_) (fun hc8 => ?_)
  refine Wc.seq ?_
  refine Wc.region rfl ?_
  refine Wl.q rfl (Qy.fieldAddr T.fa72_2 rfl) ?_
  refine Wl.q rfl (Qy.load 0 T.one3 rfl rfl rfl) ?_
  refine Wl.lit (α := Int) 1 [(Go.Sl.Instr.a i)] rfl T.sl23 T.el3 rfl rfl rfl rfl rfl (fun b2 => ?_)
  refine Wl.q rfl (Qy.assign rfl) ?_
  refine Wl.done ?_
  refine Ar.next ?_
  refine Wc.ret ?_
  refine Ar.outRet ?_
  refine Ar.passRet ?_
  rotate_left
  refine Wc.skip ?_
  refine Ar.outNormal ?_
  refine Ar.next ?_
  refine Wc.seq ?_
  refine Wc.region rfl ?_
  refine Wl.q rfl (Qy.assign rfl) ?_
  refine Wl.done ?_
  refine Ar.next ?_
  refine Wc.ret ?_
  rotate_left
  rotate_right
  · have h : asks i = [] := by unfold asks; rw [if_neg (by omega), if_neg (by omega)]
    refine Ar.nilRow 1 (Row 3 ([] : List Int) []) ?_
    refine Ar.out1 (.inr rfl) (Ho := Hp.only _ [1]) rfl (.tmp rfl) (Hp.sub_only _ _) ?_
    rw [h]; exact ⟨_, _, _, rfl, OwnA.nil, rfl, rfl⟩
  all_goals first | refine Ar.out1 (.inr rfl) (Ho := Hp.only _ [1]) rfl (.tmp rfl) (Hp.sub_only _ _) ?_
  all_goals first
    | (have h : asks i = [i.a, i.b] := by unfold asks; rw [if_pos (by omega)]
       rw [h]; exact ⟨_, _, _, rfl, OwnA.made (by simp [maxLen]), rfl, rfl⟩)
    | (have h : asks i = [i.a] := by unfold asks; rw [if_neg (by omega), if_pos (by omega)]
       rw [h]; exact ⟨_, _, _, rfl, OwnA.made (by simp [maxLen]), rfl, rfl⟩)
    | skip
def mayOk (i : Sl.Instr) (regs : Int) : Bool :=
  decide (1 ≤ i.op ∧ i.op ≤ 8 ∧ 0 ≤ i.to ∧ i.to < regs ∧ (i.op = 3 ∨ i.op = 4 ∨ i.b = 0)) && constOk i.op i.c && (asks i).all fun r => decide (0 ≤ r ∧ r < regs)
theorem all_step {α : Type} [Inhabited α] (p : α → Bool) {l : List α} {k : Nat} (h : k < l.length) : (l.take (k + 1)).all p = ((l.take k).all p && p (l[((k : Nat) : Int).toNat]?.getD default)) := by
  have : l.take (k + 1) = l.take k ++ [l[((k : Nat) : Int).toNat]?.getD default] := by
    rw [List.take_add_one, Int.toNat_natCast, List.getElem?_eq_getElem h]; rfl
  rw [this, List.all_append]; simp
theorem c88 (G : Imm) (i : Sl.Instr) (regs : Int) : Does Try.prog 88 [.agg (Cells.enc i).toArray, .int .i64 regs] G [] (fun v G' Ho => v = .bool (decide (mayOk i regs = true)) ∧ G' = G ∧ Ho = []) := by
  refine Does.enter Try.func88 rfl Try.ntmps88 rfl (fun w => ?_)
  refine Wc.seq ?_
  refine Wc.region rfl ?_
  refine Wl.box 0 rfl rfl rfl (fun b1 => ?_)
  refine Wl.q rfl (Qy.assign rfl) ?_
  refine Wl.done ?_
  refine Ar.next ?_
  refine Wc.seq ?_
  refine Wc.seq ?_
  refine Wc.region rfl ?_
  refine Wl.q rfl (Qy.fieldAddr T.fa72_0 rfl) ?_
  refine Wl.q rfl (Qy.load 0 T.one3 rfl rfl rfl) ?_
  refine Wl.q rfl (Qy.lss rfl rfl) ?_
  refine Wl.q rfl (Qy.move rfl) ?_
  apply Wl.joinOr 4 10 14 rfl
  intro hg1
  refine Wl.want rfl rfl ?_
  refine Wl.q rfl (Qy.fieldAddr T.fa72_0 rfl) ?_
  refine Wl.want rfl rfl ?_
  refine Wl.q rfl (Qy.load 0 T.one3 rfl rfl rfl) ?_
  refine Wl.want rfl rfl ?_
  refine Wl.q rfl (Qy.gtr rfl rfl) ?_
  refine Wl.q rfl (Qy.pick rfl rfl) ?_
  exact Wl.back 4 0 rfl rfl rfl rfl rfl
  intro hg1
  refine Wl.pass rfl rfl rfl ?_
  refine Wl.pass rfl rfl rfl ?_
  refine Wl.pass rfl rfl rfl ?_
  refine Wl.q rfl (Qy.pick rfl rfl) ?_
  exact Wl.back 4 0 rfl rfl rfl rfl rfl
  refine Wl.q rfl (Qy.move rfl) ?_
  apply Wl.joinOr 4 15 19 rfl
  intro hg1
  refine Wl.want rfl rfl ?_
  refine Wl.q rfl (Qy.fieldAddr T.fa72_1 rfl) ?_
  refine Wl.want rfl rfl ?_
  refine Wl.q rfl (Qy.load 0 T.one3 rfl rfl rfl) ?_
  refine Wl.want rfl rfl ?_
  refine Wl.q rfl (Qy.lss rfl rfl) ?_
  refine Wl.q rfl (Qy.pick rfl rfl) ?_
  exact Wl.back 4 0 rfl rfl rfl rfl rfl
  intro hg1
  refine Wl.pass rfl rfl rfl ?_
  refine Wl.pass rfl rfl rfl ?_
  refine Wl.pass rfl rfl rfl ?_
  refine Wl.q rfl (Qy.pick rfl rfl) ?_
  exact Wl.back 4 0 rfl rfl rfl rfl rfl
  refine Wl.q rfl (Qy.move rfl) ?_
  apply Wl.joinOr 5 20 25 rfl
  intro hg1
  refine Wl.want rfl rfl ?_
  refine Wl.q rfl (Qy.fieldAddr T.fa72_1 rfl) ?_
  refine Wl.want rfl rfl ?_
  refine Wl.q rfl (Qy.load 0 T.one3 rfl rfl rfl) ?_
  refine Wl.want rfl rfl ?_
  refine Wl.q rfl (Qy.move rfl) ?_
  refine Wl.want rfl rfl ?_
  refine Wl.q rfl (Qy.geq rfl rfl) ?_
  refine Wl.q rfl (Qy.pick rfl rfl) ?_
  exact Wl.back 5 0 rfl rfl rfl rfl rfl
  intro hg1
  refine Wl.pass rfl rfl rfl ?_
  refine Wl.pass rfl rfl rfl ?_
  refine Wl.pass rfl rfl rfl ?_
  refine Wl.pass rfl rfl rfl ?_
  refine Wl.q rfl (Qy.pick rfl rfl) ?_
  exact Wl.back 5 0 rfl rfl rfl rfl rfl
  refine Wl.q rfl (Qy.move rfl) ?_
  apply Wl.joinOr 10 26 36 rfl
  intro hg1
  refine Wl.want rfl rfl ?_
  refine Wl.q rfl (Qy.fieldAddr T.fa72_0 rfl) ?_
  refine Wl.want rfl rfl ?_
  refine Wl.q rfl (Qy.load 0 T.one3 rfl rfl rfl) ?_
  refine Wl.want rfl rfl ?_
  refine Wl.call0 rfl T.fn130 rfl (c130 _ _) ?_
  refine Wl.want rfl rfl ?_
  refine Wl.q rfl (Qy.notD rfl) ?_
  refine Wl.want rfl rfl ?_
  refine Wl.q rfl (Qy.move rfl) ?_
  apply Wl.joinAnd 4 31 35 rfl
  intro hg1
  refine Wl.want rfl rfl ?_
  refine Wl.q rfl (Qy.fieldAddr T.fa72_3 rfl) ?_
  refine Wl.want rfl rfl ?_
  refine Wl.q rfl (Qy.load 0 T.one3 rfl rfl rfl) ?_
  refine Wl.want rfl rfl ?_
  refine Wl.q rfl (Qy.neq rfl rfl) ?_
  refine Wl.want rfl rfl ?_
  refine Wl.q rfl (Qy.pick rfl rfl) ?_
  exact Wl.back 4 0 rfl rfl rfl rfl rfl
  intro hg1
  refine Wl.pass rfl rfl rfl ?_
  refine Wl.pass rfl rfl rfl ?_
  refine Wl.pass rfl rfl rfl ?_
  refine Wl.want rfl rfl ?_
  refine Wl.q rfl (Qy.pick rfl rfl) ?_
  exact Wl.back 4 0 rfl rfl rfl rfl rfl
  refine Wl.q rfl (Qy.pick rfl rfl) ?_
  exact Wl.back 7 0 rfl rfl rfl rfl rfl
  intro hg1
  refine Wl.pass rfl rfl rfl ?_
  refine Wl.pass rfl rfl rfl ?_
  refine Wl.pass rfl rfl rfl ?_
  refine Wl.pass rfl rfl rfl ?_
  refine Wl.pass rfl rfl rfl ?_
  refine Wl.passU rfl rfl rfl ?_
  refine Wl.passU rfl rfl rfl ?_
  refine Wl.passU rfl rfl rfl ?_
  refine Wl.pass rfl rfl rfl ?_
  refine Wl.q rfl (Qy.pick rfl rfl) ?_
  exact Wl.back 10 0 rfl rfl rfl rfl rfl
  refine Wl.q rfl (Qy.move rfl) ?_
  apply Wl.joinOr 4 37 41 rfl
  intro hg1
  refine Wl.want rfl rfl ?_
  refine Wl.q rfl (Qy.loadAll 0 T.agg72 rfl rfl rfl) ?_
  refine Wl.want rfl rfl ?_
  refine Wl.call0 rfl T.fn131 rfl (c131 _ _) ?_
  refine Wl.want rfl rfl ?_
  refine Wl.q rfl (Qy.notD rfl) ?_
  refine Wl.q rfl (Qy.pick rfl rfl) ?_
  exact Wl.back 4 0 rfl rfl rfl rfl rfl
  intro hg1
  refine Wl.pass rfl rfl rfl ?_
  refine Wl.pass rfl rfl rfl ?_
  refine Wl.pass rfl rfl rfl ?_
  refine Wl.q rfl (Qy.pick rfl rfl) ?_
  exact Wl.back 4 0 rfl rfl rfl rfl rfl
  refine Wl.done ?_
  refine Ar.next ?_
  refine Wc.cond rfl (fun hc1 => ?_) (fun hc1 => ?_)
  refine Wc.seq ?_
  refine Wc.region rfl ?_
  refine Wl.q rfl (Qy.assign rfl) ?_
  refine Wl.done ?_
  refine Ar.next ?_
  refine Wc.ret ?_
  refine Ar.passRet ?_
  refine Ar.out1 (.inr rfl) (Ho := Hp.only _ []) rfl (.tmp rfl) (Hp.sub_only _ _) ?_
  rotate_left
  refine Wc.skip ?_
  refine Ar.next ?_
  refine Wc.seq ?_
  refine Wc.seq ?_
  refine Wc.region rfl ?_
  refine Wl.q rfl (Qy.loadAll 0 T.agg72 rfl rfl rfl) ?_
  refine Wl.call 1 rfl T.fn59 rfl (c59 _ _) (tags_of trivial) (fun v1 G1 Ho1 hle1 hp => ?_)
  obtain ⟨ad1, cd1, junk1, rfl, hoa1, rfl, rfl⟩ := hp
  refine Wl.q rfl (Qy.len T.sl23 rfl) ?_
  refine Wl.q rfl (Qy.move rfl) ?_
  refine Wl.done ?_
  refine Ar.next ?_
  refine Wc.block ?_
  rotate_left
  · refine ⟨?_, rfl, rfl⟩
    have : mayOk i regs = false := by
      unfold mayOk
      rcases hc1 with ((((h | h) | h) | h) | h) | h
      all_goals first | (rw [decide_eq_false (by omega)]; rfl) | simp [h]
    simp [this]
  · have hasks : (asks i).length ≤ 2 := by unfold asks; split <;> (try split) <;> simp
    refine Wc.loop (ι := Nat) (fun k => ([(45, .int .i64 (k : Int)), (44, Go.Value.int Go.IntKind.i64 (↑(List.length (Go.Proofs.Ytbppmiimeccclaa.asks i)) : Int)), (43, Go.Value.slice ad1 (List.length (Go.Proofs.Ytbppmiimeccclaa.asks i)) cd1), (1, Go.Value.int Go.IntKind.i64 regs)], [(2, Option.map (fun x => Go.Addr.block x) ad1, Go.Sl.Row (α := Int) 3 (Go.Proofs.Ytbppmiimeccclaa.asks i) (junk1)), (0, Option.some b1, Go.Obj.cells (List.toArray (Go.Sl.Cells.enc i)) 72)])) (fun k => k ≤ (asks i).length ∧ ((asks i).take k).all (fun r => decide (0 ≤ r ∧ r < regs)) = true) (fun k => (asks i).length - k) (0) (⟨Nat.zero_le _, rfl⟩) ⟨rfl, rfl, rfl, rfl, trivial⟩ ⟨rfl, rfl, trivial⟩ (fun k => fun (hk : k ≤ (asks i).length ∧ ((asks i).take k).all (fun r => decide (0 ≤ r ∧ r < regs)) = true) => ?_)
    obtain ⟨hk1, hk2⟩ := hk
    refine Wc.seq ?_
    refine Wc.region rfl ?_
    refine Wl.q rfl (Qy.lss rfl rfl) ?_
    refine Wl.done ?_
    refine Ar.next ?_
    refine Wc.seq ?_
    refine Wc.cond rfl (fun hc2 => ?_) (fun hc2 => ?_)
    refine Wc.skip ?_
    refine Ar.next ?_
    refine Wc.seq ?_
    refine Wc.block ?_
    refine Wc.seq ?_
    refine Wc.region rfl ?_
    refine Wl.q rfl (Qy.indexAddrO (α := Int) T.sl23 rfl rfl (by assumption) (by omega)) ?_
    refine Wl.q rfl (Qy.loadO 2 0 T.one3 rfl rfl (by assumption) (by omega) rfl rfl) ?_
    refine Wl.q rfl (Qy.assign rfl) ?_
    refine Wl.done ?_
    refine Ar.next ?_
    refine Wc.seq ?_
    refine Wc.region rfl ?_
    refine Wl.q rfl (Qy.move rfl) ?_
    refine Wl.q rfl (Qy.lss rfl rfl) ?_
    refine Wl.q rfl (Qy.move rfl) ?_
    apply Wl.joinOr 4 51 55 rfl
    intro hg1
    refine Wl.want rfl rfl ?_
    refine Wl.q rfl (Qy.move rfl) ?_
    refine Wl.want rfl rfl ?_
    refine Wl.q rfl (Qy.move rfl) ?_
    refine Wl.want rfl rfl ?_
    refine Wl.q rfl (Qy.geq rfl rfl) ?_
    refine Wl.q rfl (Qy.pick rfl rfl) ?_
    exact Wl.back 4 0 rfl rfl rfl rfl rfl
    intro hg1
    refine Wl.pass rfl rfl rfl ?_
    refine Wl.pass rfl rfl rfl ?_
    refine Wl.pass rfl rfl rfl ?_
    refine Wl.q rfl (Qy.pick rfl rfl) ?_
    exact Wl.back 4 0 rfl rfl rfl rfl rfl
    refine Wl.done ?_
    refine Ar.next ?_
    refine Wc.cond rfl (fun hc3 => ?_) (fun hc3 => ?_)
    refine Wc.seq ?_
    refine Wc.region rfl ?_
    refine Wl.q rfl (Qy.assign rfl) ?_
    refine Wl.done ?_
    refine Ar.next ?_
    refine Wc.ret ?_
    refine Ar.outRet ?_
    refine Ar.passRet ?_
    refine Ar.passRet ?_
    refine Ar.outRet ?_
    refine Ar.passRet ?_
    refine Ar.out1 (.inr rfl) (Ho := Hp.only _ []) rfl (.tmp rfl) (Hp.sub_only _ _) ?_
    rotate_left
    refine Wc.skip ?_
    refine Ar.outNormal ?_
    refine Ar.next ?_
    refine Wc.region rfl ?_
    refine Wl.q rfl (Qy.add rfl rfl (by omega)) ?_
    refine Wl.q rfl (Qy.move rfl) ?_
    refine Wl.done ?_
    rotate_left
    refine Wc.exit ?_
    refine Ar.passExit ?_
    refine Ar.passExit ?_
    refine Ar.here ?_
    refine Ar.next ?_
    refine Wc.seq ?_
    refine Wc.region rfl ?_
    refine Wl.q rfl (Qy.assign rfl) ?_
    refine Wl.done ?_
    refine Ar.next ?_
    refine Wc.ret ?_
    refine Ar.out1 (.inr rfl) (Ho := Hp.only _ []) rfl (.tmp rfl) (Hp.sub_only _ _) ?_
    rotate_left
    · refine ⟨?_, rfl, rfl⟩
      have hl : k < (asks i).length := by omega
      have hx : (asks i)[((k : Nat) : Int).toNat]?.getD default ∈ asks i := by rw [Int.toNat_natCast, List.getElem?_eq_getElem hl]; simp
      have hf : ((asks i).all fun r => decide (0 ≤ r ∧ r < regs)) = false := by
        rw [List.all_eq_false]
        exact ⟨_, hx, by simp only [decide_eq_true_eq]; omega⟩
      have : mayOk i regs = false := by unfold mayOk; rw [hf]; simp
      simp [this]
    · refine Ar.again (k + 1) ?_ ?_ rfl ⟨rfl, rfl, rfl, rfl, trivial⟩ ⟨rfl, rfl, trivial⟩
      · refine ⟨by omega, ?_⟩
        rw [all_step _ (by omega), hk2]
        simp only [Bool.true_and, decide_eq_true_eq]
        omega
      · omega
    · refine ⟨?_, rfl, rfl⟩
      have hk : k = (asks i).length := by omega
      subst hk
      rw [List.take_length] at hk2
      have : mayOk i regs = true := by
        unfold mayOk
        rw [hk2]
        simp only [not_or] at hc1
        simp only [Bool.and_true, Bool.and_eq_true, decide_eq_true_eq]
        refine ⟨by omega, ?_⟩
        have := hc1.2
        simpa using this
      simp [this]
structure PV where
  ins : Int
  regs : Int
  code : List Sl.Instr
  outs : List Int
def headOk (p : PV) : Bool := decide (1 ≤ p.ins ∧ p.ins ≤ p.regs ∧ p.regs ≤ 128 ∧ p.code.length ≤ 16384 ∧ 1 ≤ p.outs.length ∧ p.outs.length ≤ 128) && p.outs.all fun r => decide (0 ≤ r ∧ r < p.regs)
def badAt (p : PV) : Option Nat := p.code.findIdx? fun i => !mayOk i p.regs
/-- which instruction is the first that may not be, and whether there is one -/
def checkP (p : PV) : Int × Bool := if headOk p = false then (-1, true) else match badAt p with | some k => (k, true) | none => (0, false)
theorem find_bad {α : Type} [Inhabited α] {p : α → Bool} {l : List α} {k : Nat} (h : k < l.length) (h1 : (l.take k).all p = true) (h2 : ¬ p (l[((k : Nat) : Int).toNat]?.getD default) = true) : l.findIdx? (fun i => !p i) = some k := by
  rw [List.findIdx?_eq_some_iff_getElem]
  rw [Int.toNat_natCast, List.getElem?_eq_getElem h, Option.getD_some] at h2
  refine ⟨h, by simpa using h2, fun j hj => ?_⟩
  have hm : l[j]'(by omega) ∈ l.take k := by rw [List.mem_take_iff_getElem]; exact ⟨j, by omega, rfl⟩
  have := List.all_eq_true.1 h1 _ hm
  simpa using this
theorem find_none {α : Type} {p : α → Bool} {l : List α} (h1 : l.all p = true) : l.findIdx? (fun i => !p i) = none := by
  rw [List.findIdx?_eq_none_iff]
  intro x hx
  simpa using List.all_eq_true.1 h1 x hx
theorem c40 (G : Imm) (p : PV) (ac ao : Option Addr) (cc co : Nat) (hc : Arr G ac p.code) (ho : Arr G ao p.outs) (h1 : p.code.length ≤ 1099511627776) (h2 : p.outs.length ≤ 1099511627776) :
    Does Try.prog 40 [.agg #[.int .i64 p.ins, .int .i64 p.regs, .slice ac p.code.length cc, .slice ao p.outs.length co]] G [] (fun v G' Ho => v = .tuple #[.int .i64 (checkP p).1, .int .i64 (if (checkP p).2 then 80 else 0)] ∧ G' = G ∧ Ho = []) := by
  refine Does.enter Try.func40 rfl Try.ntmps40 rfl (fun w => ?_)
  refine Wc.seq ?_
  refine Wc.region rfl ?_
  refine Wl.box 0 rfl rfl rfl (fun b1 => ?_)
  refine Wl.q rfl (Qy.assign rfl) ?_
  refine Wl.q rfl (Qy.assign rfl) ?_
  refine Wl.done ?_
  refine Ar.next ?_
  refine Wc.seq ?_
  refine Wc.seq ?_
  refine Wc.region rfl ?_
  refine Wl.q rfl (Qy.fieldAddr T.fa25_0 rfl) ?_
  refine Wl.q rfl (Qy.load 0 T.one3 rfl rfl rfl) ?_
  refine Wl.q rfl (Qy.lss rfl rfl) ?_
  refine Wl.q rfl (Qy.move rfl) ?_
  apply Wl.joinOr 6 11 17 rfl
  intro hg1
  refine Wl.want rfl rfl ?_
  refine Wl.q rfl (Qy.fieldAddr T.fa25_0 rfl) ?_
  refine Wl.want rfl rfl ?_
  refine Wl.q rfl (Qy.load 0 T.one3 rfl rfl rfl) ?_
  refine Wl.want rfl rfl ?_
  refine Wl.q rfl (Qy.fieldAddr T.fa25_1 rfl) ?_
  refine Wl.want rfl rfl ?_
  refine Wl.q rfl (Qy.load 0 T.one3 rfl rfl rfl) ?_
  refine Wl.want rfl rfl ?_
  refine Wl.q rfl (Qy.gtr rfl rfl) ?_
  refine Wl.q rfl (Qy.pick rfl rfl) ?_
  exact Wl.back 6 0 rfl rfl rfl rfl rfl
  intro hg1
  refine Wl.pass rfl rfl rfl ?_
  refine Wl.pass rfl rfl rfl ?_
  refine Wl.pass rfl rfl rfl ?_
  refine Wl.pass rfl rfl rfl ?_
  refine Wl.pass rfl rfl rfl ?_
  refine Wl.q rfl (Qy.pick rfl rfl) ?_
  exact Wl.back 6 0 rfl rfl rfl rfl rfl
  refine Wl.q rfl (Qy.move rfl) ?_
  apply Wl.joinOr 4 18 22 rfl
  intro hg1
  refine Wl.want rfl rfl ?_
  refine Wl.q rfl (Qy.fieldAddr T.fa25_1 rfl) ?_
  refine Wl.want rfl rfl ?_
  refine Wl.q rfl (Qy.load 0 T.one3 rfl rfl rfl) ?_
  refine Wl.want rfl rfl ?_
  refine Wl.q rfl (Qy.gtr rfl rfl) ?_
  refine Wl.q rfl (Qy.pick rfl rfl) ?_
  exact Wl.back 4 0 rfl rfl rfl rfl rfl
  intro hg1
  refine Wl.pass rfl rfl rfl ?_
  refine Wl.pass rfl rfl rfl ?_
  refine Wl.pass rfl rfl rfl ?_
  refine Wl.q rfl (Qy.pick rfl rfl) ?_
  exact Wl.back 4 0 rfl rfl rfl rfl rfl
  refine Wl.q rfl (Qy.move rfl) ?_
  apply Wl.joinOr 5 23 28 rfl
  intro hg1
  refine Wl.want rfl rfl ?_
  refine Wl.q rfl (Qy.fieldAddr T.fa25_2 rfl) ?_
  refine Wl.want rfl rfl ?_
  refine Wl.q rfl (Qy.load 0 T.one22 rfl rfl rfl) ?_
  refine Wl.want rfl rfl ?_
  refine Wl.q rfl (Qy.len T.sl22 rfl) ?_
  refine Wl.want rfl rfl ?_
  refine Wl.q rfl (Qy.gtr rfl rfl) ?_
  refine Wl.q rfl (Qy.pick rfl rfl) ?_
  exact Wl.back 5 0 rfl rfl rfl rfl rfl
  intro hg1
  refine Wl.pass rfl rfl rfl ?_
  refine Wl.pass rfl rfl rfl ?_
  refine Wl.pass rfl rfl rfl ?_
  refine Wl.pass rfl rfl rfl ?_
  refine Wl.q rfl (Qy.pick rfl rfl) ?_
  exact Wl.back 5 0 rfl rfl rfl rfl rfl
  refine Wl.q rfl (Qy.move rfl) ?_
  apply Wl.joinOr 5 29 34 rfl
  intro hg1
  refine Wl.want rfl rfl ?_
  refine Wl.q rfl (Qy.fieldAddr T.fa25_3 rfl) ?_
  refine Wl.want rfl rfl ?_
  refine Wl.q rfl (Qy.load 0 T.one23 rfl rfl rfl) ?_
  refine Wl.want rfl rfl ?_
  refine Wl.q rfl (Qy.len T.sl23 rfl) ?_
  refine Wl.want rfl rfl ?_
  refine Wl.q rfl (Qy.lss rfl rfl) ?_
  refine Wl.q rfl (Qy.pick rfl rfl) ?_
  exact Wl.back 5 0 rfl rfl rfl rfl rfl
  intro hg1
  refine Wl.pass rfl rfl rfl ?_
  refine Wl.pass rfl rfl rfl ?_
  refine Wl.pass rfl rfl rfl ?_
  refine Wl.pass rfl rfl rfl ?_
  refine Wl.q rfl (Qy.pick rfl rfl) ?_
  exact Wl.back 5 0 rfl rfl rfl rfl rfl
  refine Wl.q rfl (Qy.move rfl) ?_
  apply Wl.joinOr 5 35 40 rfl
  intro hg1
  refine Wl.want rfl rfl ?_
  refine Wl.q rfl (Qy.fieldAddr T.fa25_3 rfl) ?_
  refine Wl.want rfl rfl ?_
  refine Wl.q rfl (Qy.load 0 T.one23 rfl rfl rfl) ?_
  refine Wl.want rfl rfl ?_
  refine Wl.q rfl (Qy.len T.sl23 rfl) ?_
  refine Wl.want rfl rfl ?_
  refine Wl.q rfl (Qy.gtr rfl rfl) ?_
  refine Wl.q rfl (Qy.pick rfl rfl) ?_
  exact Wl.back 5 0 rfl rfl rfl rfl rfl
  intro hg1
  refine Wl.pass rfl rfl rfl ?_
  refine Wl.pass rfl rfl rfl ?_
  refine Wl.pass rfl rfl rfl ?_
  refine Wl.pass rfl rfl rfl ?_
  refine Wl.q rfl (Qy.pick rfl rfl) ?_
  exact Wl.back 5 0 rfl rfl rfl rfl rfl
  refine Wl.done ?_
  refine Ar.next ?_
  refine Wc.cond rfl (fun hc1 => ?_) (fun hc1 => ?_)
  refine Wc.seq ?_
  refine Wc.region rfl ?_
  refine Wl.q rfl (Qy.assign rfl) ?_
  refine Wl.q rfl (Qy.assign rfl) ?_
  refine Wl.done ?_
  refine Ar.next ?_
  refine Wc.ret ?_
  refine Ar.passRet ?_
  refine Ar.out2 (.inr rfl) (Ho := Hp.only _ []) rfl (.tmp rfl) (.tmp rfl) (Hp.sub_only _ _) ?_
  rotate_left
  refine Wc.skip ?_
  refine Ar.next ?_
  refine Wc.seq ?_
  refine Wc.seq ?_
  refine Wc.region rfl ?_
  refine Wl.q rfl (Qy.fieldAddr T.fa25_3 rfl) ?_
  refine Wl.q rfl (Qy.load 0 T.one23 rfl rfl rfl) ?_
  refine Wl.q rfl (Qy.len T.sl23 rfl) ?_
  refine Wl.q rfl (Qy.move rfl) ?_
  refine Wl.done ?_
  refine Ar.next ?_
  refine Wc.block ?_
  rotate_left
  · refine ⟨?_, rfl, rfl⟩
    have : headOk p = false := by unfold headOk; rw [decide_eq_false (by omega)]; rfl
    simp [checkP, this]
  · refine Wc.loop (ι := Nat) (fun k => ([(44, .int .i64 (k : Int)), (43, Go.Value.int Go.IntKind.i64 (↑(List.length (Go.Proofs.Ytbppmiimeccclaa.PV.outs p)) : Int)), (42, Go.Value.slice ao (List.length (Go.Proofs.Ytbppmiimeccclaa.PV.outs p)) co), (1, Go.Value.pointer (Option.some (Go.Addr.mk b1 0 Option.none)))], [(0, Option.some b1, Go.Obj.cells #[Go.Value.int Go.IntKind.i64 (Go.Proofs.Ytbppmiimeccclaa.PV.ins p), Go.Value.int Go.IntKind.i64 (Go.Proofs.Ytbppmiimeccclaa.PV.regs p), Go.Value.slice ac (List.length (Go.Proofs.Ytbppmiimeccclaa.PV.code p)) cc, Go.Value.slice ao (List.length (Go.Proofs.Ytbppmiimeccclaa.PV.outs p)) co] 25)])) (fun k => k ≤ p.outs.length ∧ (p.outs.take k).all (fun r => decide (0 ≤ r ∧ r < p.regs)) = true) (fun k => p.outs.length - k) (0) (⟨Nat.zero_le _, rfl⟩) ⟨rfl, rfl, rfl, rfl, trivial⟩ ⟨rfl, trivial⟩ (fun k => fun (hk : k ≤ p.outs.length ∧ (p.outs.take k).all (fun r => decide (0 ≤ r ∧ r < p.regs)) = true) => ?_)
    obtain ⟨hk1, hk2⟩ := hk
    refine Wc.seq ?_
    refine Wc.region rfl ?_
    refine Wl.q rfl (Qy.lss rfl rfl) ?_
    refine Wl.done ?_
    refine Ar.next ?_
    refine Wc.seq ?_
    refine Wc.cond rfl (fun hc2 => ?_) (fun hc2 => ?_)
    refine Wc.skip ?_
    refine Ar.next ?_
    refine Wc.seq ?_
    refine Wc.block ?_
    refine Wc.seq ?_
    refine Wc.region rfl ?_
    refine Wl.q rfl (Qy.at (α := Int) T.sl23 rfl rfl (by assumption) (by omega)) ?_
    refine Wl.q rfl (Qy.loadG T.one3 rfl (Arr.cell (by assumption) (by omega) 0 rfl rfl)) ?_
    refine Wl.q rfl (Qy.assign rfl) ?_
    refine Wl.done ?_
    refine Ar.next ?_
    refine Wc.seq ?_
    refine Wc.region rfl ?_
    refine Wl.q rfl (Qy.move rfl) ?_
    refine Wl.q rfl (Qy.lss rfl rfl) ?_
    refine Wl.q rfl (Qy.move rfl) ?_
    apply Wl.joinOr 5 50 55 rfl
    intro hg1
    refine Wl.want rfl rfl ?_
    refine Wl.q rfl (Qy.move rfl) ?_
    refine Wl.want rfl rfl ?_
    refine Wl.q rfl (Qy.fieldAddr T.fa25_1 rfl) ?_
    refine Wl.want rfl rfl ?_
    refine Wl.q rfl (Qy.load 0 T.one3 rfl rfl rfl) ?_
    refine Wl.want rfl rfl ?_
    refine Wl.q rfl (Qy.geq rfl rfl) ?_
    refine Wl.q rfl (Qy.pick rfl rfl) ?_
    exact Wl.back 5 0 rfl rfl rfl rfl rfl
    intro hg1
    refine Wl.pass rfl rfl rfl ?_
    refine Wl.pass rfl rfl rfl ?_
    refine Wl.pass rfl rfl rfl ?_
    refine Wl.pass rfl rfl rfl ?_
    refine Wl.q rfl (Qy.pick rfl rfl) ?_
    exact Wl.back 5 0 rfl rfl rfl rfl rfl
    refine Wl.done ?_
    refine Ar.next ?_
    refine Wc.cond rfl (fun hc3 => ?_) (fun hc3 => ?_)
    refine Wc.seq ?_
    refine Wc.region rfl ?_
    refine Wl.q rfl (Qy.assign rfl) ?_
    refine Wl.q rfl (Qy.assign rfl) ?_
    refine Wl.done ?_
    refine Ar.next ?_
    refine Wc.ret ?_
    refine Ar.outRet ?_
    refine Ar.passRet ?_
    refine Ar.passRet ?_
    refine Ar.outRet ?_
    refine Ar.passRet ?_
    refine Ar.out2 (.inr rfl) (Ho := Hp.only _ []) rfl (.tmp rfl) (.tmp rfl) (Hp.sub_only _ _) ?_
    rotate_left
    refine Wc.skip ?_
    refine Ar.outNormal ?_
    refine Ar.next ?_
    refine Wc.region rfl ?_
    refine Wl.q rfl (Qy.add rfl rfl (by omega)) ?_
    refine Wl.q rfl (Qy.move rfl) ?_
    refine Wl.done ?_
    rotate_left
    refine Wc.exit ?_
    refine Ar.passExit ?_
    refine Ar.passExit ?_
    refine Ar.here ?_
    refine Ar.next ?_
    refine Wc.seq ?_
    refine Wc.seq ?_
    refine Wc.region rfl ?_
    refine Wl.q rfl (Qy.fieldAddr T.fa25_2 rfl) ?_
    refine Wl.q rfl (Qy.load 0 T.one22 rfl rfl rfl) ?_
    refine Wl.q rfl (Qy.len T.sl22 rfl) ?_
    refine Wl.q rfl (Qy.move rfl) ?_
    refine Wl.done ?_
    refine Ar.next ?_
    refine Wc.block ?_
    rotate_left
    · refine ⟨?_, rfl, rfl⟩
      have hl : k < p.outs.length := by omega
      have hx : p.outs[((k : Nat) : Int).toNat]?.getD default ∈ p.outs := by rw [Int.toNat_natCast, List.getElem?_eq_getElem hl]; simp
      have hf : (p.outs.all fun r => decide (0 ≤ r ∧ r < p.regs)) = false := by
        rw [List.all_eq_false]
        exact ⟨_, hx, by simp only [decide_eq_true_eq]; omega⟩
      have : headOk p = false := by unfold headOk; rw [hf, Bool.and_false]
      simp [checkP, this]
    · refine Ar.again (k + 1) ?_ ?_ rfl ⟨rfl, rfl, rfl, rfl, trivial⟩ ⟨rfl, trivial⟩
      · refine ⟨by omega, ?_⟩
        rw [all_step _ (by omega), hk2]
        simp only [Bool.true_and, decide_eq_true_eq]
        omega
      · omega
    · have hk : k = p.outs.length := by omega
      subst hk
      rw [List.take_length] at hk2
      have hh : headOk p = true := by
        unfold headOk
        rw [hk2, Bool.and_true, decide_eq_true_eq]
        omega
      clear hk1 hk2 hc2
      refine Wc.loop (ι := Nat) (fun k => ([(60, .int .i64 (k : Int)), (59, Go.Value.int Go.IntKind.i64 (↑(List.length (Go.Proofs.Ytbppmiimeccclaa.PV.code p)) : Int)), (58, Go.Value.slice ac (List.length (Go.Proofs.Ytbppmiimeccclaa.PV.code p)) cc), (1, Go.Value.pointer (Option.some (Go.Addr.mk b1 0 Option.none)))], [(0, Option.some b1, Go.Obj.cells #[Go.Value.int Go.IntKind.i64 (Go.Proofs.Ytbppmiimeccclaa.PV.ins p), Go.Value.int Go.IntKind.i64 (Go.Proofs.Ytbppmiimeccclaa.PV.regs p), Go.Value.slice ac (List.length (Go.Proofs.Ytbppmiimeccclaa.PV.code p)) cc, Go.Value.slice ao (List.length (Go.Proofs.Ytbppmiimeccclaa.PV.outs p)) co] 25)])) (fun k => k ≤ p.code.length ∧ (p.code.take k).all (fun i => mayOk i p.regs) = true) (fun k => p.code.length - k) (0) (⟨Nat.zero_le _, rfl⟩) ⟨rfl, rfl, rfl, rfl, trivial⟩ ⟨rfl, trivial⟩ (fun k => fun (hk : k ≤ p.code.length ∧ (p.code.take k).all (fun i => mayOk i p.regs) = true) => ?_)
      obtain ⟨hk1, hk2⟩ := hk
      refine Wc.seq ?_
      refine Wc.region rfl ?_
      refine Wl.q rfl (Qy.lss rfl rfl) ?_
      refine Wl.done ?_
      refine Ar.next ?_
      refine Wc.seq ?_
      refine Wc.cond rfl (fun hc2 => ?_) (fun hc2 => ?_)
      refine Wc.skip ?_
      refine Ar.next ?_
      refine Wc.seq ?_
      refine Wc.block ?_
      refine Wc.seq ?_
      refine Wc.region rfl ?_
      refine Wl.q rfl (Qy.move rfl) ?_
      refine Wl.q rfl (Qy.at (α := Instr) T.sl22 rfl rfl (by assumption) (by omega)) ?_
      refine Wl.q rfl (Qy.loadsG T.agg72 rfl (Arr.elem (by assumption) (by omega)) rfl) ?_
      refine Wl.alloc 1 rfl T.zero72 (fun b2 => ?_)
      refine Wl.q rfl (Qy.assign rfl) ?_
      refine Wl.storeAll 1 T.size72 rfl rfl rfl rfl rfl rfl ?_
      refine Wl.done ?_
      refine Ar.next ?_
      refine Wc.seq ?_
      refine Wc.region rfl ?_
      refine Wl.q rfl (Qy.loadAll 1 T.agg72 rfl rfl rfl) ?_
      refine Wl.q rfl (Qy.fieldAddr T.fa25_1 rfl) ?_
      refine Wl.q rfl (Qy.load 0 T.one3 rfl rfl rfl) ?_
      refine Wl.call0 rfl T.fn88 rfl (c88 _ _ _) ?_
      refine Wl.q rfl (Qy.notD rfl) ?_
      refine Wl.done ?_
      refine Ar.next ?_
      refine Wc.cond rfl (fun hc3 => ?_) (fun hc3 => ?_)
      refine Wc.seq ?_
      refine Wc.region rfl ?_
      refine Wl.q rfl (Qy.move rfl) ?_
      refine Wl.q rfl (Qy.assign rfl) ?_
      refine Wl.q rfl (Qy.assign rfl) ?_
      refine Wl.done ?_
      refine Ar.next ?_
      refine Wc.ret ?_
      refine Ar.outRet ?_
      refine Ar.passRet ?_
      refine Ar.passRet ?_
      refine Ar.outRet ?_
      refine Ar.passRet ?_
      refine Ar.out2 (.inr rfl) (Ho := Hp.only _ []) rfl (.tmp rfl) (.tmp rfl) (Hp.sub_only _ _) ?_
      rotate_left
      refine Wc.skip ?_
      refine Ar.outNormal ?_
      refine Ar.next ?_
      refine Wc.region rfl ?_
      refine Wl.q rfl (Qy.add rfl rfl (by omega)) ?_
      refine Wl.q rfl (Qy.move rfl) ?_
      refine Wl.done ?_
      rotate_left
      refine Wc.exit ?_
      refine Ar.passExit ?_
      refine Ar.passExit ?_
      refine Ar.here ?_
      refine Ar.next ?_
      refine Wc.seq ?_
      refine Wc.region rfl ?_
      refine Wl.q rfl (Qy.assign rfl) ?_
      refine Wl.q rfl (Qy.assign rfl) ?_
      refine Wl.done ?_
      refine Ar.next ?_
      refine Wc.ret ?_
      refine Ar.out2 (.inr rfl) (Ho := Hp.only _ []) rfl (.tmp rfl) (.tmp rfl) (Hp.sub_only _ _) ?_
      rotate_left
      · refine ⟨?_, rfl, rfl⟩
        have hl : k < p.code.length := by omega
        have : badAt p = some k := find_bad hl hk2 hc3
        simp [checkP, hh, this]
      · refine Ar.again (k + 1) ?_ ?_ rfl ⟨rfl, rfl, rfl, rfl, trivial⟩ ⟨rfl, trivial⟩
        · refine ⟨by omega, ?_⟩
          rw [all_step _ (by omega), hk2]
          simpa using hc3
        · omega
      · refine ⟨?_, rfl, rfl⟩
        have hk : k = p.code.length := by omega
        subst hk
        rw [List.take_length] at hk2
        have : badAt p = none := find_none hk2
        simp [checkP, hh, this]
def rightP (p : PV) : Bool := !(checkP p).2
theorem mayOk_iff (i : Sl.Instr) (regs : Int) : mayOk i regs = true ↔ (1 ≤ i.op ∧ i.op ≤ 8 ∧ 0 ≤ i.to ∧ i.to < regs ∧ 0 ≤ i.a ∧ i.a < regs) ∧
    (if i.op = 3 ∨ i.op = 4 then 0 ≤ i.b ∧ i.b < regs ∧ i.c = 0 else i.b = 0 ∧ (if i.op = 5 ∨ i.op = 6 then i.c ≠ 0 ∧ -512 ≤ i.c ∧ i.c ≤ 512 else if i.op = 7 ∨ i.op = 8 then 1 ≤ i.c ∧ i.c ≤ 64 else i.c = 0)) := by
  unfold mayOk constOk asks
  by_cases h3 : i.op = 3 ∨ i.op = 4
  · have h5 : ¬ (i.op = 5 ∨ i.op = 6) := by omega
    have h7 : ¬ (i.op = 7 ∨ i.op = 8) := by omega
    simp only [if_pos h3, if_neg h5, if_neg h7, List.all_cons, List.all_nil, Bool.and_true, Bool.and_eq_true, decide_eq_true_eq]
    omega
  · by_cases h1 : 1 ≤ i.op ∧ i.op ≤ 8
    · simp only [if_neg h3, if_pos h1, List.all_cons, List.all_nil, Bool.and_true, Bool.and_eq_true, decide_eq_true_eq]
      by_cases h5 : i.op = 5 ∨ i.op = 6
      · simp only [if_pos h5, decide_eq_true_eq]; omega
      · by_cases h7 : i.op = 7 ∨ i.op = 8
        · simp only [if_neg h5, if_pos h7, decide_eq_true_eq]; omega
        · simp only [if_neg h5, if_neg h7, decide_eq_true_eq]; omega
    · simp only [if_neg h3, if_neg h1, List.all_nil, Bool.and_true, Bool.and_eq_true, decide_eq_true_eq]
      constructor <;> (intro h; omega)
theorem c89 (G : Imm) (i : Sl.Instr) (regs : Int) : Does Try.prog 89 [.agg (Cells.enc i).toArray, .int .i64 regs] G [] (fun v G' Ho => v = .bool (decide (mayOk i regs = true)) ∧ G' = G ∧ Ho = []) := by
  refine Does.enter Try.func89 rfl Try.ntmps89 rfl (fun w => ?_)
  refine Wc.seq ?_
  refine Wc.region rfl ?_
  refine Wl.box 0 rfl rfl rfl (fun b1 => ?_)
  refine Wl.q rfl (Qy.assign rfl) ?_
  refine Wl.done ?_
  refine Ar.next ?_
  refine Wc.seq ?_
  refine Wc.seq ?_
  refine Wc.region rfl ?_
  refine Wl.q rfl (Qy.fieldAddr T.fa72_0 rfl) ?_
  refine Wl.q rfl (Qy.load 0 T.one3 rfl rfl rfl) ?_
  refine Wl.q rfl (Qy.lss rfl rfl) ?_
  refine Wl.q rfl (Qy.move rfl) ?_
  apply Wl.joinOr 4 8 12 rfl
  intro hg1
  refine Wl.want rfl rfl ?_
  refine Wl.q rfl (Qy.fieldAddr T.fa72_0 rfl) ?_
  refine Wl.want rfl rfl ?_
  refine Wl.q rfl (Qy.load 0 T.one3 rfl rfl rfl) ?_
  refine Wl.want rfl rfl ?_
  refine Wl.q rfl (Qy.gtr rfl rfl) ?_
  refine Wl.q rfl (Qy.pick rfl rfl) ?_
  exact Wl.back 4 0 rfl rfl rfl rfl rfl
  intro hg1
  refine Wl.pass rfl rfl rfl ?_
  refine Wl.pass rfl rfl rfl ?_
  refine Wl.pass rfl rfl rfl ?_
  refine Wl.q rfl (Qy.pick rfl rfl) ?_
  exact Wl.back 4 0 rfl rfl rfl rfl rfl
  refine Wl.q rfl (Qy.move rfl) ?_
  apply Wl.joinOr 4 13 17 rfl
  intro hg1
  refine Wl.want rfl rfl ?_
  refine Wl.q rfl (Qy.fieldAddr T.fa72_1 rfl) ?_
  refine Wl.want rfl rfl ?_
  refine Wl.q rfl (Qy.load 0 T.one3 rfl rfl rfl) ?_
  refine Wl.want rfl rfl ?_
  refine Wl.q rfl (Qy.lss rfl rfl) ?_
  refine Wl.q rfl (Qy.pick rfl rfl) ?_
  exact Wl.back 4 0 rfl rfl rfl rfl rfl
  intro hg1
  refine Wl.pass rfl rfl rfl ?_
  refine Wl.pass rfl rfl rfl ?_
  refine Wl.pass rfl rfl rfl ?_
  refine Wl.q rfl (Qy.pick rfl rfl) ?_
  exact Wl.back 4 0 rfl rfl rfl rfl rfl
  refine Wl.q rfl (Qy.move rfl) ?_
  apply Wl.joinOr 5 18 23 rfl
  intro hg1
  refine Wl.want rfl rfl ?_
  refine Wl.q rfl (Qy.fieldAddr T.fa72_1 rfl) ?_
  refine Wl.want rfl rfl ?_
  refine Wl.q rfl (Qy.load 0 T.one3 rfl rfl rfl) ?_
  refine Wl.want rfl rfl ?_
  refine Wl.q rfl (Qy.move rfl) ?_
  refine Wl.want rfl rfl ?_
  refine Wl.q rfl (Qy.geq rfl rfl) ?_
  refine Wl.q rfl (Qy.pick rfl rfl) ?_
  exact Wl.back 5 0 rfl rfl rfl rfl rfl
  intro hg1
  refine Wl.pass rfl rfl rfl ?_
  refine Wl.pass rfl rfl rfl ?_
  refine Wl.pass rfl rfl rfl ?_
  refine Wl.pass rfl rfl rfl ?_
  refine Wl.q rfl (Qy.pick rfl rfl) ?_
  exact Wl.back 5 0 rfl rfl rfl rfl rfl
  refine Wl.q rfl (Qy.move rfl) ?_
  apply Wl.joinOr 4 24 28 rfl
  intro hg1
  refine Wl.want rfl rfl ?_
  refine Wl.q rfl (Qy.fieldAddr T.fa72_2 rfl) ?_
  refine Wl.want rfl rfl ?_
  refine Wl.q rfl (Qy.load 0 T.one3 rfl rfl rfl) ?_
  refine Wl.want rfl rfl ?_
  refine Wl.q rfl (Qy.lss rfl rfl) ?_
  refine Wl.q rfl (Qy.pick rfl rfl) ?_
  exact Wl.back 4 0 rfl rfl rfl rfl rfl
  intro hg1
  refine Wl.pass rfl rfl rfl ?_
  refine Wl.pass rfl rfl rfl ?_
  refine Wl.pass rfl rfl rfl ?_
  refine Wl.q rfl (Qy.pick rfl rfl) ?_
  exact Wl.back 4 0 rfl rfl rfl rfl rfl
  refine Wl.q rfl (Qy.move rfl) ?_
  apply Wl.joinOr 5 29 34 rfl
  intro hg1
  refine Wl.want rfl rfl ?_
  refine Wl.q rfl (Qy.fieldAddr T.fa72_2 rfl) ?_
  refine Wl.want rfl rfl ?_
  refine Wl.q rfl (Qy.load 0 T.one3 rfl rfl rfl) ?_
  refine Wl.want rfl rfl ?_
  refine Wl.q rfl (Qy.move rfl) ?_
  refine Wl.want rfl rfl ?_
  refine Wl.q rfl (Qy.geq rfl rfl) ?_
  refine Wl.q rfl (Qy.pick rfl rfl) ?_
  exact Wl.back 5 0 rfl rfl rfl rfl rfl
  intro hg1
  refine Wl.pass rfl rfl rfl ?_
  refine Wl.pass rfl rfl rfl ?_
  refine Wl.pass rfl rfl rfl ?_
  refine Wl.pass rfl rfl rfl ?_
  refine Wl.q rfl (Qy.pick rfl rfl) ?_
  exact Wl.back 5 0 rfl rfl rfl rfl rfl
  refine Wl.done ?_
  refine Ar.next ?_
  refine Wc.cond rfl (fun hc1 => ?_) (fun hc1 => ?_)
  refine Wc.seq ?_
  refine Wc.region rfl ?_
  refine Wl.q rfl (Qy.assign rfl) ?_
  refine Wl.done ?_
  refine Ar.next ?_
  refine Wc.ret ?_
  refine Ar.passRet ?_
  refine Ar.out1 (.inr rfl) (Ho := Hp.only _ []) rfl (.tmp rfl) (Hp.sub_only _ _) ?_
  rotate_left
  refine Wc.skip ?_
  refine Ar.next ?_
  refine Wc.seq ?_
  refine Wc.seq ?_
  refine Wc.region rfl ?_
  refine Wl.q rfl (Qy.fieldAddr T.fa72_0 rfl) ?_
  refine Wl.q rfl (Qy.load 0 T.one3 rfl rfl rfl) ?_
  refine Wl.q rfl (Qy.eql rfl rfl) ?_
  refine Wl.q rfl (Qy.move rfl) ?_
  apply Wl.joinOr 4 38 42 rfl
  intro hg1
  refine Wl.want rfl rfl ?_
  refine Wl.q rfl (Qy.fieldAddr T.fa72_0 rfl) ?_
  refine Wl.want rfl rfl ?_
  refine Wl.q rfl (Qy.load 0 T.one3 rfl rfl rfl) ?_
  refine Wl.want rfl rfl ?_
  refine Wl.q rfl (Qy.eql rfl rfl) ?_
  refine Wl.q rfl (Qy.pick rfl rfl) ?_
  exact Wl.back 4 0 rfl rfl rfl rfl rfl
  intro hg1
  refine Wl.pass rfl rfl rfl ?_
  refine Wl.pass rfl rfl rfl ?_
  refine Wl.pass rfl rfl rfl ?_
  refine Wl.q rfl (Qy.pick rfl rfl) ?_
  exact Wl.back 4 0 rfl rfl rfl rfl rfl
  refine Wl.done ?_
  refine Ar.next ?_
  refine Wc.cond rfl (fun hc2 => ?_) (fun hc2 => ?_)
  refine Wc.seq ?_
  refine Wc.region rfl ?_
  refine Wl.q rfl (Qy.fieldAddr T.fa72_3 rfl) ?_
  refine Wl.q rfl (Qy.load 0 T.one3 rfl rfl rfl) ?_
  refine Wl.q rfl (Qy.geq rfl rfl) ?_
  refine Wl.q rfl (Qy.move rfl) ?_
  apply Wl.joinAnd 5 46 51 rfl
  intro hg1
  refine Wl.want rfl rfl ?_
  refine Wl.q rfl (Qy.fieldAddr T.fa72_3 rfl) ?_
  refine Wl.want rfl rfl ?_
  refine Wl.q rfl (Qy.load 0 T.one3 rfl rfl rfl) ?_
  refine Wl.want rfl rfl ?_
  refine Wl.q rfl (Qy.move rfl) ?_
  refine Wl.want rfl rfl ?_
  refine Wl.q rfl (Qy.lss rfl rfl) ?_
  refine Wl.q rfl (Qy.pick rfl rfl) ?_
  exact Wl.back 5 0 rfl rfl rfl rfl rfl
  intro hg1
  refine Wl.pass rfl rfl rfl ?_
  refine Wl.pass rfl rfl rfl ?_
  refine Wl.pass rfl rfl rfl ?_
  refine Wl.pass rfl rfl rfl ?_
  refine Wl.q rfl (Qy.pick rfl rfl) ?_
  exact Wl.back 5 0 rfl rfl rfl rfl rfl
  refine Wl.q rfl (Qy.move rfl) ?_
  apply Wl.joinAnd 4 52 56 rfl
  intro hg1
  refine Wl.want rfl rfl ?_
  refine Wl.q rfl (Qy.fieldAddr T.fa72_4 rfl) ?_
  refine Wl.want rfl rfl ?_
  refine Wl.q rfl (Qy.load 0 T.one3 rfl rfl rfl) ?_
  refine Wl.want rfl rfl ?_
  refine Wl.q rfl (Qy.eql rfl rfl) ?_
  refine Wl.q rfl (Qy.pick rfl rfl) ?_
  exact Wl.back 4 0 rfl rfl rfl rfl rfl
  intro hg1
  refine Wl.pass rfl rfl rfl ?_
  refine Wl.pass rfl rfl rfl ?_
  refine Wl.pass rfl rfl rfl ?_
  refine Wl.q rfl (Qy.pick rfl rfl) ?_
  exact Wl.back 4 0 rfl rfl rfl rfl rfl
  refine Wl.q rfl (Qy.assign rfl) ?_
  refine Wl.done ?_
  refine Ar.next ?_
  refine Wc.ret ?_
  refine Ar.passRet ?_
  refine Ar.out1 (.inr rfl) (Ho := Hp.only _ []) rfl (.tmp rfl) (Hp.sub_only _ _) ?_
  rotate_left
  refine Wc.skip ?_
  refine Ar.next ?_
  refine Wc.seq ?_
  refine Wc.seq ?_
  refine Wc.region rfl ?_
  refine Wl.q rfl (Qy.fieldAddr T.fa72_3 rfl) ?_
  refine Wl.q rfl (Qy.load 0 T.one3 rfl rfl rfl) ?_
  refine Wl.q rfl (Qy.neq rfl rfl) ?_
  refine Wl.done ?_
  refine Ar.next ?_
  refine Wc.cond rfl (fun hc3 => ?_) (fun hc3 => ?_)
  refine Wc.seq ?_
  refine Wc.region rfl ?_
  refine Wl.q rfl (Qy.assign rfl) ?_
  refine Wl.done ?_
  refine Ar.next ?_
  refine Wc.ret ?_
  refine Ar.passRet ?_
  refine Ar.out1 (.inr rfl) (Ho := Hp.only _ []) rfl (.tmp rfl) (Hp.sub_only _ _) ?_
  rotate_left
  refine Wc.skip ?_
  refine Ar.next ?_
  refine Wc.seq ?_
  refine Wc.seq ?_
  refine Wc.region rfl ?_
  refine Wl.q rfl (Qy.fieldAddr T.fa72_0 rfl) ?_
  refine Wl.q rfl (Qy.load 0 T.one3 rfl rfl rfl) ?_
  refine Wl.q rfl (Qy.eql rfl rfl) ?_
  refine Wl.q rfl (Qy.move rfl) ?_
  apply Wl.joinOr 4 63 67 rfl
  intro hg1
  refine Wl.want rfl rfl ?_
  refine Wl.q rfl (Qy.fieldAddr T.fa72_0 rfl) ?_
  refine Wl.want rfl rfl ?_
  refine Wl.q rfl (Qy.load 0 T.one3 rfl rfl rfl) ?_
  refine Wl.want rfl rfl ?_
  refine Wl.q rfl (Qy.eql rfl rfl) ?_
  refine Wl.q rfl (Qy.pick rfl rfl) ?_
  exact Wl.back 4 0 rfl rfl rfl rfl rfl
  intro hg1
  refine Wl.pass rfl rfl rfl ?_
  refine Wl.pass rfl rfl rfl ?_
  refine Wl.pass rfl rfl rfl ?_
  refine Wl.q rfl (Qy.pick rfl rfl) ?_
  exact Wl.back 4 0 rfl rfl rfl rfl rfl
  refine Wl.done ?_
  refine Ar.next ?_
  refine Wc.cond rfl (fun hc4 => ?_) (fun hc4 => ?_)
  refine Wc.seq ?_
  refine Wc.region rfl ?_
  refine Wl.q rfl (Qy.fieldAddr T.fa72_4 rfl) ?_
  refine Wl.q rfl (Qy.load 0 T.one3 rfl rfl rfl) ?_
  refine Wl.q rfl (Qy.neq rfl rfl) ?_
  refine Wl.q rfl (Qy.move rfl) ?_
  apply Wl.joinAnd 4 71 75 rfl
  intro hg1
  refine Wl.want rfl rfl ?_
  refine Wl.q rfl (Qy.fieldAddr T.fa72_4 rfl) ?_
  refine Wl.want rfl rfl ?_
  refine Wl.q rfl (Qy.load 0 T.one3 rfl rfl rfl) ?_
  refine Wl.want rfl rfl ?_
  refine Wl.q rfl (Qy.geq rfl rfl) ?_
  refine Wl.q rfl (Qy.pick rfl rfl) ?_
  exact Wl.back 4 0 rfl rfl rfl rfl rfl
  intro hg1
  refine Wl.pass rfl rfl rfl ?_
  refine Wl.pass rfl rfl rfl ?_
  refine Wl.pass rfl rfl rfl ?_
  refine Wl.q rfl (Qy.pick rfl rfl) ?_
  exact Wl.back 4 0 rfl rfl rfl rfl rfl
  refine Wl.q rfl (Qy.move rfl) ?_
  apply Wl.joinAnd 4 76 80 rfl
  intro hg1
  refine Wl.want rfl rfl ?_
  refine Wl.q rfl (Qy.fieldAddr T.fa72_4 rfl) ?_
  refine Wl.want rfl rfl ?_
  refine Wl.q rfl (Qy.load 0 T.one3 rfl rfl rfl) ?_
  refine Wl.want rfl rfl ?_
  refine Wl.q rfl (Qy.leq rfl rfl) ?_
  refine Wl.q rfl (Qy.pick rfl rfl) ?_
  exact Wl.back 4 0 rfl rfl rfl rfl rfl
  intro hg1
  refine Wl.pass rfl rfl rfl ?_
  refine Wl.pass rfl rfl rfl ?_
  refine Wl.pass rfl rfl rfl ?_
  refine Wl.q rfl (Qy.pick rfl rfl) ?_
  exact Wl.back 4 0 rfl rfl rfl rfl rfl
  refine Wl.q rfl (Qy.assign rfl) ?_
  refine Wl.done ?_
  refine Ar.next ?_
  refine Wc.ret ?_
  refine Ar.passRet ?_
  refine Ar.out1 (.inr rfl) (Ho := Hp.only _ []) rfl (.tmp rfl) (Hp.sub_only _ _) ?_
  rotate_left
  refine Wc.skip ?_
  refine Ar.next ?_
  refine Wc.seq ?_
  refine Wc.seq ?_
  refine Wc.region rfl ?_
  refine Wl.q rfl (Qy.fieldAddr T.fa72_0 rfl) ?_
  refine Wl.q rfl (Qy.load 0 T.one3 rfl rfl rfl) ?_
  refine Wl.q rfl (Qy.eql rfl rfl) ?_
  refine Wl.q rfl (Qy.move rfl) ?_
  apply Wl.joinOr 4 84 88 rfl
  intro hg1
  refine Wl.want rfl rfl ?_
  refine Wl.q rfl (Qy.fieldAddr T.fa72_0 rfl) ?_
  refine Wl.want rfl rfl ?_
  refine Wl.q rfl (Qy.load 0 T.one3 rfl rfl rfl) ?_
  refine Wl.want rfl rfl ?_
  refine Wl.q rfl (Qy.eql rfl rfl) ?_
  refine Wl.q rfl (Qy.pick rfl rfl) ?_
  exact Wl.back 4 0 rfl rfl rfl rfl rfl
  intro hg1
  refine Wl.pass rfl rfl rfl ?_
  refine Wl.pass rfl rfl rfl ?_
  refine Wl.pass rfl rfl rfl ?_
  refine Wl.q rfl (Qy.pick rfl rfl) ?_
  exact Wl.back 4 0 rfl rfl rfl rfl rfl
  refine Wl.done ?_
  refine Ar.next ?_
  refine Wc.cond rfl (fun hc5 => ?_) (fun hc5 => ?_)
  refine Wc.seq ?_
  refine Wc.region rfl ?_
  refine Wl.q rfl (Qy.fieldAddr T.fa72_4 rfl) ?_
  refine Wl.q rfl (Qy.load 0 T.one3 rfl rfl rfl) ?_
  refine Wl.q rfl (Qy.geq rfl rfl) ?_
  refine Wl.q rfl (Qy.move rfl) ?_
  apply Wl.joinAnd 4 92 96 rfl
  intro hg1
  refine Wl.want rfl rfl ?_
  refine Wl.q rfl (Qy.fieldAddr T.fa72_4 rfl) ?_
  refine Wl.want rfl rfl ?_
  refine Wl.q rfl (Qy.load 0 T.one3 rfl rfl rfl) ?_
  refine Wl.want rfl rfl ?_
  refine Wl.q rfl (Qy.leq rfl rfl) ?_
  refine Wl.q rfl (Qy.pick rfl rfl) ?_
  exact Wl.back 4 0 rfl rfl rfl rfl rfl
  intro hg1
  refine Wl.pass rfl rfl rfl ?_
  refine Wl.pass rfl rfl rfl ?_
  refine Wl.pass rfl rfl rfl ?_
  refine Wl.q rfl (Qy.pick rfl rfl) ?_
  exact Wl.back 4 0 rfl rfl rfl rfl rfl
  refine Wl.q rfl (Qy.assign rfl) ?_
  refine Wl.done ?_
  refine Ar.next ?_
  refine Wc.ret ?_
  refine Ar.passRet ?_
  refine Ar.out1 (.inr rfl) (Ho := Hp.only _ []) rfl (.tmp rfl) (Hp.sub_only _ _) ?_
  rotate_left
  refine Wc.skip ?_
  refine Ar.next ?_
  refine Wc.seq ?_
  refine Wc.region rfl ?_
  refine Wl.q rfl (Qy.fieldAddr T.fa72_4 rfl) ?_
  refine Wl.q rfl (Qy.load 0 T.one3 rfl rfl rfl) ?_
  refine Wl.q rfl (Qy.eql rfl rfl) ?_
  refine Wl.q rfl (Qy.assign rfl) ?_
  refine Wl.done ?_
  refine Ar.next ?_
  refine Wc.ret ?_
  refine Ar.out1 (.inr rfl) (Ho := Hp.only _ []) rfl (.tmp rfl) (Hp.sub_only _ _) ?_
  rotate_left
  all_goals refine ⟨?_, rfl, rfl⟩
  all_goals simp only [mayOk_iff, Value.bool.injEq]
  all_goals first | rw [decide_eq_decide] | (symm; rw [decide_eq_false_iff_not])
  all_goals try simp only [*, if_true, if_false, not_false_eq_true]
  all_goals first | omega | (rintro ⟨_, h, _⟩; first | exact h | exact hc3 h)
theorem head_out {p : PV} {k : Nat} (h : k ≤ p.outs.length) (h' : (k : Int) < (p.outs.length : Int)) (hb : p.outs[((k : Nat) : Int).toNat]?.getD default < 0 ∨ p.regs ≤ p.outs[((k : Nat) : Int).toNat]?.getD default) : headOk p = false := by
  have hl : k < p.outs.length := by omega
  have hx : p.outs[((k : Nat) : Int).toNat]?.getD default ∈ p.outs := by rw [Int.toNat_natCast, List.getElem?_eq_getElem hl]; simp
  have hf : (p.outs.all fun r => decide (0 ≤ r ∧ r < p.regs)) = false := by
    rw [List.all_eq_false]
    exact ⟨_, hx, by simp only [decide_eq_true_eq]; omega⟩
  unfold headOk; rw [hf, Bool.and_false]
theorem c42 (G : Imm) (p : PV) (ac ao : Option Addr) (cc co : Nat) (hc : Arr G ac p.code) (ho : Arr G ao p.outs) (h1 : p.code.length ≤ 1099511627776) (h2 : p.outs.length ≤ 1099511627776) :
    Does Try.prog 42 [.agg #[.int .i64 p.ins, .int .i64 p.regs, .slice ac p.code.length cc, .slice ao p.outs.length co]] G [] (fun v G' Ho => v = .tuple #[.int .i64 (checkP p).1, .bool (decide ((checkP p).2 = true))] ∧ G' = G ∧ Ho = []) := by
  refine Does.enter Try.func42 rfl Try.ntmps42 rfl (fun w => ?_)
  refine Wc.seq ?_
  refine Wc.region rfl ?_
  refine Wl.box 0 rfl rfl rfl (fun b1 => ?_)
  refine Wl.q rfl (Qy.assign rfl) ?_
  refine Wl.q rfl (Qy.assign rfl) ?_
  refine Wl.done ?_
  refine Ar.next ?_
  refine Wc.seq ?_
  refine Wc.seq ?_
  refine Wc.region rfl ?_
  refine Wl.q rfl (Qy.fieldAddr T.fa25_0 rfl) ?_
  refine Wl.q rfl (Qy.load 0 T.one3 rfl rfl rfl) ?_
  refine Wl.q rfl (Qy.lss rfl rfl) ?_
  refine Wl.q rfl (Qy.move rfl) ?_
  apply Wl.joinOr 6 9 15 rfl
  intro hg1
  refine Wl.want rfl rfl ?_
  refine Wl.q rfl (Qy.fieldAddr T.fa25_0 rfl) ?_
  refine Wl.want rfl rfl ?_
  refine Wl.q rfl (Qy.load 0 T.one3 rfl rfl rfl) ?_
  refine Wl.want rfl rfl ?_
  refine Wl.q rfl (Qy.fieldAddr T.fa25_1 rfl) ?_
  refine Wl.want rfl rfl ?_
  refine Wl.q rfl (Qy.load 0 T.one3 rfl rfl rfl) ?_
  refine Wl.want rfl rfl ?_
  refine Wl.q rfl (Qy.gtr rfl rfl) ?_
  refine Wl.q rfl (Qy.pick rfl rfl) ?_
  exact Wl.back 6 0 rfl rfl rfl rfl rfl
  intro hg1
  refine Wl.pass rfl rfl rfl ?_
  refine Wl.pass rfl rfl rfl ?_
  refine Wl.pass rfl rfl rfl ?_
  refine Wl.pass rfl rfl rfl ?_
  refine Wl.pass rfl rfl rfl ?_
  refine Wl.q rfl (Qy.pick rfl rfl) ?_
  exact Wl.back 6 0 rfl rfl rfl rfl rfl
  refine Wl.q rfl (Qy.move rfl) ?_
  apply Wl.joinOr 4 16 20 rfl
  intro hg1
  refine Wl.want rfl rfl ?_
  refine Wl.q rfl (Qy.fieldAddr T.fa25_1 rfl) ?_
  refine Wl.want rfl rfl ?_
  refine Wl.q rfl (Qy.load 0 T.one3 rfl rfl rfl) ?_
  refine Wl.want rfl rfl ?_
  refine Wl.q rfl (Qy.gtr rfl rfl) ?_
  refine Wl.q rfl (Qy.pick rfl rfl) ?_
  exact Wl.back 4 0 rfl rfl rfl rfl rfl
  intro hg1
  refine Wl.pass rfl rfl rfl ?_
  refine Wl.pass rfl rfl rfl ?_
  refine Wl.pass rfl rfl rfl ?_
  refine Wl.q rfl (Qy.pick rfl rfl) ?_
  exact Wl.back 4 0 rfl rfl rfl rfl rfl
  refine Wl.q rfl (Qy.move rfl) ?_
  apply Wl.joinOr 5 21 26 rfl
  intro hg1
  refine Wl.want rfl rfl ?_
  refine Wl.q rfl (Qy.fieldAddr T.fa25_2 rfl) ?_
  refine Wl.want rfl rfl ?_
  refine Wl.q rfl (Qy.load 0 T.one22 rfl rfl rfl) ?_
  refine Wl.want rfl rfl ?_
  refine Wl.q rfl (Qy.len T.sl22 rfl) ?_
  refine Wl.want rfl rfl ?_
  refine Wl.q rfl (Qy.gtr rfl rfl) ?_
  refine Wl.q rfl (Qy.pick rfl rfl) ?_
  exact Wl.back 5 0 rfl rfl rfl rfl rfl
  intro hg1
  refine Wl.pass rfl rfl rfl ?_
  refine Wl.pass rfl rfl rfl ?_
  refine Wl.pass rfl rfl rfl ?_
  refine Wl.pass rfl rfl rfl ?_
  refine Wl.q rfl (Qy.pick rfl rfl) ?_
  exact Wl.back 5 0 rfl rfl rfl rfl rfl
  refine Wl.q rfl (Qy.move rfl) ?_
  apply Wl.joinOr 5 27 32 rfl
  intro hg1
  refine Wl.want rfl rfl ?_
  refine Wl.q rfl (Qy.fieldAddr T.fa25_3 rfl) ?_
  refine Wl.want rfl rfl ?_
  refine Wl.q rfl (Qy.load 0 T.one23 rfl rfl rfl) ?_
  refine Wl.want rfl rfl ?_
  refine Wl.q rfl (Qy.len T.sl23 rfl) ?_
  refine Wl.want rfl rfl ?_
  refine Wl.q rfl (Qy.lss rfl rfl) ?_
  refine Wl.q rfl (Qy.pick rfl rfl) ?_
  exact Wl.back 5 0 rfl rfl rfl rfl rfl
  intro hg1
  refine Wl.pass rfl rfl rfl ?_
  refine Wl.pass rfl rfl rfl ?_
  refine Wl.pass rfl rfl rfl ?_
  refine Wl.pass rfl rfl rfl ?_
  refine Wl.q rfl (Qy.pick rfl rfl) ?_
  exact Wl.back 5 0 rfl rfl rfl rfl rfl
  refine Wl.q rfl (Qy.move rfl) ?_
  apply Wl.joinOr 5 33 38 rfl
  intro hg1
  refine Wl.want rfl rfl ?_
  refine Wl.q rfl (Qy.fieldAddr T.fa25_3 rfl) ?_
  refine Wl.want rfl rfl ?_
  refine Wl.q rfl (Qy.load 0 T.one23 rfl rfl rfl) ?_
  refine Wl.want rfl rfl ?_
  refine Wl.q rfl (Qy.len T.sl23 rfl) ?_
  refine Wl.want rfl rfl ?_
  refine Wl.q rfl (Qy.gtr rfl rfl) ?_
  refine Wl.q rfl (Qy.pick rfl rfl) ?_
  exact Wl.back 5 0 rfl rfl rfl rfl rfl
  intro hg1
  refine Wl.pass rfl rfl rfl ?_
  refine Wl.pass rfl rfl rfl ?_
  refine Wl.pass rfl rfl rfl ?_
  refine Wl.pass rfl rfl rfl ?_
  refine Wl.q rfl (Qy.pick rfl rfl) ?_
  exact Wl.back 5 0 rfl rfl rfl rfl rfl
  refine Wl.done ?_
  refine Ar.next ?_
  refine Wc.cond rfl (fun hc1 => ?_) (fun hc1 => ?_)
  refine Wc.seq ?_
  refine Wc.region rfl ?_
  refine Wl.q rfl (Qy.assign rfl) ?_
  refine Wl.q rfl (Qy.assign rfl) ?_
  refine Wl.done ?_
  refine Ar.next ?_
  refine Wc.ret ?_
  refine Ar.passRet ?_
  refine Ar.out2 (.inr rfl) (Ho := Hp.only _ []) rfl (.tmp rfl) (.tmp rfl) (Hp.sub_only _ _) ?_
  rotate_left
  refine Wc.skip ?_
  refine Ar.next ?_
  refine Wc.seq ?_
  refine Wc.seq ?_
  refine Wc.region rfl ?_
  refine Wl.q rfl (Qy.assign rfl) ?_
  refine Wl.done ?_
  refine Ar.next ?_
  refine Wc.block ?_
  rotate_left
  · refine ⟨?_, rfl, rfl⟩
    have : headOk p = false := by unfold headOk; rw [decide_eq_false (by omega)]; rfl
    simp [checkP, this]
  · refine Wc.loop (ι := Nat) (fun k => ([(4, .int .i64 (k : Int)), (1, Go.Value.pointer (Option.some (Go.Addr.mk b1 0 Option.none)))], [(0, Option.some b1, Go.Obj.cells #[Go.Value.int Go.IntKind.i64 (Go.Proofs.Ytbppmiimeccclaa.PV.ins p), Go.Value.int Go.IntKind.i64 (Go.Proofs.Ytbppmiimeccclaa.PV.regs p), Go.Value.slice ac (List.length (Go.Proofs.Ytbppmiimeccclaa.PV.code p)) cc, Go.Value.slice ao (List.length (Go.Proofs.Ytbppmiimeccclaa.PV.outs p)) co] 25)])) (fun k => k ≤ p.outs.length ∧ (p.outs.take k).all (fun r => decide (0 ≤ r ∧ r < p.regs)) = true) (fun k => p.outs.length - k) (0) (⟨Nat.zero_le _, rfl⟩) ⟨rfl, rfl, trivial⟩ ⟨rfl, trivial⟩ (fun k => fun (hk : k ≤ p.outs.length ∧ (p.outs.take k).all (fun r => decide (0 ≤ r ∧ r < p.regs)) = true) => ?_)
    obtain ⟨hk1, hk2⟩ := hk
    refine Wc.seq ?_
    refine Wc.seq ?_
    refine Wc.region rfl ?_
    refine Wl.q rfl (Qy.move rfl) ?_
    refine Wl.q rfl (Qy.fieldAddr T.fa25_3 rfl) ?_
    refine Wl.q rfl (Qy.load 0 T.one23 rfl rfl rfl) ?_
    refine Wl.q rfl (Qy.len T.sl23 rfl) ?_
    refine Wl.q rfl (Qy.lss rfl rfl) ?_
    refine Wl.done ?_
    refine Ar.next ?_
    refine Wc.cond rfl (fun hc2 => ?_) (fun hc2 => ?_)
    refine Wc.skip ?_
    refine Ar.next ?_
    refine Wc.seq ?_
    refine Wc.block ?_
    refine Wc.seq ?_
    refine Wc.draw [0] [] T.mixed rfl ?_
    refine Gm.q 0 [] (by kernel_rfl) rfl rfl (Qy.fieldAddr T.fa25_3 rfl) ?_
    refine Gm.q 1 [0] (by kernel_rfl) rfl rfl (Qy.load 0 T.one23 rfl rfl rfl) ?_
    refine Gm.q 2 [] (by kernel_rfl) rfl rfl (Qy.move rfl) ?_
    refine Gm.q 3 [] (by kernel_rfl) rfl rfl (Qy.at (α := Int) T.sl23 rfl rfl (by assumption) (by omega)) ?_
    refine Gm.q 4 [0] (by kernel_rfl) rfl rfl (Qy.loadG T.one3 rfl (Arr.cell (by assumption) (by omega) 0 rfl rfl)) ?_
    refine Gm.q 5 [] (by kernel_rfl) rfl rfl (Qy.lss rfl rfl) ?_
    refine Gm.q 6 [] (by kernel_rfl) rfl rfl (Qy.move rfl) ?_
    refine Gm.cases 52 rfl (fun hg1 => ?_) (fun hg1 => ?_)
    refine Gm.qNo 7 (by kernel_rfl) rfl rfl rfl rfl ?_
    refine Gm.qNo 8 (by kernel_rfl) rfl rfl rfl rfl ?_
    refine Gm.qNo 9 (by kernel_rfl) rfl rfl rfl rfl ?_
    refine Gm.qNo 10 (by kernel_rfl) rfl rfl rfl rfl ?_
    refine Gm.qNo 11 (by kernel_rfl) rfl rfl rfl rfl ?_
    refine Gm.qNo 12 (by kernel_rfl) rfl rfl rfl rfl ?_
    refine Gm.qNo 13 (by kernel_rfl) rfl rfl rfl rfl ?_
    refine Gm.qNo 14 (by kernel_rfl) rfl rfl rfl rfl ?_
    refine Gm.q 15 [] (by kernel_rfl) rfl rfl (Qy.pick rfl rfl) ?_
    refine Gm.doneA (by kernel_rfl) ⟨rfl, trivial⟩ (by first | exact Imm.le_refl _ | assumption | (refine Imm.le_trans ?_ (by assumption); first | assumption | (refine Imm.le_trans ?_ (by assumption); assumption))) ?_
    refine Ar.next ?_
    refine Wc.condT rfl ?_
    refine Wc.seq ?_
    refine Wc.region rfl ?_
    refine Wl.q rfl (Qy.assign rfl) ?_
    refine Wl.q rfl (Qy.assign rfl) ?_
    refine Wl.done ?_
    refine Ar.next ?_
    refine Wc.ret ?_
    refine Ar.outRet ?_
    refine Ar.passRet ?_
    refine Ar.passRet ?_
    refine Ar.outRet ?_
    refine Ar.passRet ?_
    refine Ar.out2 (.inr rfl) (Ho := Hp.only _ []) rfl (.tmp rfl) (.tmp rfl) (Hp.sub_only _ _) ?_
    rotate_left
    refine Gm.qYes 7 [] (by kernel_rfl) rfl rfl rfl rfl (Qy.fieldAddr T.fa25_3 rfl) ?_
    refine Gm.qYes 8 [0] (by kernel_rfl) rfl rfl rfl rfl (Qy.load 0 T.one23 rfl rfl rfl) ?_
    refine Gm.qYes 9 [] (by kernel_rfl) rfl rfl rfl rfl (Qy.move rfl) ?_
    refine Gm.qYes 10 [] (by kernel_rfl) rfl rfl rfl rfl (Qy.at (α := Int) T.sl23 rfl rfl (by assumption) (by omega)) ?_
    refine Gm.qYes 11 [0] (by kernel_rfl) rfl rfl rfl rfl (Qy.loadG T.one3 rfl (Arr.cell (by assumption) (by omega) 0 rfl rfl)) ?_
    refine Gm.qYes 12 [] (by kernel_rfl) rfl rfl rfl rfl (Qy.fieldAddr T.fa25_1 rfl) ?_
    refine Gm.qYes 13 [0] (by kernel_rfl) rfl rfl rfl rfl (Qy.load 0 T.one3 rfl rfl rfl) ?_
    refine Gm.qYes 14 [] (by kernel_rfl) rfl rfl rfl rfl (Qy.geq rfl rfl) ?_
    refine Gm.q 15 [] (by kernel_rfl) rfl rfl (Qy.pick rfl rfl) ?_
    refine Gm.doneA (by kernel_rfl) ⟨rfl, trivial⟩ (by first | exact Imm.le_refl _ | assumption | (refine Imm.le_trans ?_ (by assumption); first | assumption | (refine Imm.le_trans ?_ (by assumption); assumption))) ?_
    refine Ar.next ?_
    refine Wc.cond rfl (fun hc3 => ?_) (fun hc3 => ?_)
    refine Wc.seq ?_
    refine Wc.region rfl ?_
    refine Wl.q rfl (Qy.assign rfl) ?_
    refine Wl.q rfl (Qy.assign rfl) ?_
    refine Wl.done ?_
    refine Ar.next ?_
    refine Wc.ret ?_
    refine Ar.outRet ?_
    refine Ar.passRet ?_
    refine Ar.passRet ?_
    refine Ar.outRet ?_
    refine Ar.passRet ?_
    refine Ar.out2 (.inr rfl) (Ho := Hp.only _ []) rfl (.tmp rfl) (.tmp rfl) (Hp.sub_only _ _) ?_
    rotate_left
    refine Wc.skip ?_
    refine Ar.outNormal ?_
    refine Ar.next ?_
    refine Wc.region rfl ?_
    refine Wl.q rfl (Qy.move rfl) ?_
    refine Wl.q rfl (Qy.add rfl rfl (by omega)) ?_
    refine Wl.q rfl (Qy.assign rfl) ?_
    refine Wl.done ?_
    rotate_left
    refine Wc.exit ?_
    refine Ar.passExit ?_
    refine Ar.passExit ?_
    refine Ar.here ?_
    refine Ar.next ?_
    refine Wc.seq ?_
    refine Wc.seq ?_
    refine Wc.region rfl ?_
    refine Wl.q rfl (Qy.assign rfl) ?_
    refine Wl.done ?_
    refine Ar.next ?_
    refine Wc.block ?_
    rotate_left
    · refine ⟨?_, rfl, rfl⟩
      simp [checkP, head_out hk1 hc2 (.inl hg1)]
    · refine ⟨?_, rfl, rfl⟩
      simp [checkP, head_out hk1 hc2 (.inr hc3)]
    · refine Ar.again (k + 1) ?_ ?_ rfl ⟨rfl, rfl, trivial⟩ ⟨rfl, trivial⟩
      · refine ⟨by omega, ?_⟩
        rw [all_step _ (by omega), hk2]
        simp only [Bool.true_and, decide_eq_true_eq]
        omega
      · omega
    · have hk : k = p.outs.length := by omega
      subst hk
      rw [List.take_length] at hk2
      have hh : headOk p = true := by
        unfold headOk
        rw [hk2, Bool.and_true, decide_eq_true_eq]
        omega
      clear hk1 hk2 hc2
      refine Wc.loop (ι := Nat) (fun k => ([(5, .int .i64 (k : Int)), (1, Go.Value.pointer (Option.some (Go.Addr.mk b1 0 Option.none)))], [(0, Option.some b1, Go.Obj.cells #[Go.Value.int Go.IntKind.i64 (Go.Proofs.Ytbppmiimeccclaa.PV.ins p), Go.Value.int Go.IntKind.i64 (Go.Proofs.Ytbppmiimeccclaa.PV.regs p), Go.Value.slice ac (List.length (Go.Proofs.Ytbppmiimeccclaa.PV.code p)) cc, Go.Value.slice ao (List.length (Go.Proofs.Ytbppmiimeccclaa.PV.outs p)) co] 25)])) (fun k => k ≤ p.code.length ∧ (p.code.take k).all (fun i => mayOk i p.regs) = true) (fun k => p.code.length - k) (0) (⟨Nat.zero_le _, rfl⟩) ⟨rfl, rfl, trivial⟩ ⟨rfl, trivial⟩ (fun k => fun (hk : k ≤ p.code.length ∧ (p.code.take k).all (fun i => mayOk i p.regs) = true) => ?_)
      obtain ⟨hk1, hk2⟩ := hk
      refine Wc.seq ?_
      refine Wc.seq ?_
      refine Wc.region rfl ?_
      refine Wl.q rfl (Qy.move rfl) ?_
      refine Wl.q rfl (Qy.fieldAddr T.fa25_2 rfl) ?_
      refine Wl.q rfl (Qy.load 0 T.one22 rfl rfl rfl) ?_
      refine Wl.q rfl (Qy.len T.sl22 rfl) ?_
      refine Wl.q rfl (Qy.lss rfl rfl) ?_
      refine Wl.done ?_
      refine Ar.next ?_
      refine Wc.cond rfl (fun hc2 => ?_) (fun hc2 => ?_)
      refine Wc.skip ?_
      refine Ar.next ?_
      refine Wc.seq ?_
      refine Wc.block ?_
      refine Wc.seq ?_
      refine Wc.draw [0] [] T.mixed rfl ?_
      refine Gm.q 0 [] (by kernel_rfl) rfl rfl (Qy.fieldAddr T.fa25_2 rfl) ?_
      refine Gm.q 1 [0] (by kernel_rfl) rfl rfl (Qy.load 0 T.one22 rfl rfl rfl) ?_
      refine Gm.q 2 [] (by kernel_rfl) rfl rfl (Qy.move rfl) ?_
      refine Gm.q 3 [] (by kernel_rfl) rfl rfl (Qy.at (α := Instr) T.sl22 rfl rfl (by assumption) (by omega)) ?_
      refine Gm.q 4 [] (by kernel_rfl) rfl rfl (Qy.loadsG T.agg72 rfl (Arr.elem (by assumption) (by omega)) rfl) ?_
      refine Gm.q 5 [] (by kernel_rfl) rfl rfl (Qy.fieldAddr T.fa25_1 rfl) ?_
      refine Gm.q 6 [0] (by kernel_rfl) rfl rfl (Qy.load 0 T.one3 rfl rfl rfl) ?_
      refine Gm.one 7 ⟨rfl, trivial⟩ (by first | exact Imm.le_refl _ | assumption | (refine Imm.le_trans ?_ (by assumption); first | assumption | (refine Imm.le_trans ?_ (by assumption); assumption))) (by kernel_rfl) rfl ?_
      refine Wl.call0 rfl T.fn89 rfl (c89 _ _ _) ?_
      refine Wl.on0 ?_
      refine Gm.q 8 [] (by kernel_rfl) rfl rfl (Qy.notD rfl) ?_
      refine Gm.doneA (by kernel_rfl) ⟨rfl, trivial⟩ (by first | exact Imm.le_refl _ | assumption | (refine Imm.le_trans ?_ (by assumption); first | assumption | (refine Imm.le_trans ?_ (by assumption); assumption))) ?_
      refine Ar.next ?_
      refine Wc.cond rfl (fun hc3 => ?_) (fun hc3 => ?_)
      refine Wc.seq ?_
      refine Wc.region rfl ?_
      refine Wl.q rfl (Qy.move rfl) ?_
      refine Wl.q rfl (Qy.assign rfl) ?_
      refine Wl.q rfl (Qy.assign rfl) ?_
      refine Wl.done ?_
      refine Ar.next ?_
      refine Wc.ret ?_
      refine Ar.outRet ?_
      refine Ar.passRet ?_
      refine Ar.passRet ?_
      refine Ar.outRet ?_
      refine Ar.passRet ?_
      refine Ar.out2 (.inr rfl) (Ho := Hp.only _ []) rfl (.tmp rfl) (.tmp rfl) (Hp.sub_only _ _) ?_
      rotate_left
      refine Wc.skip ?_
      refine Ar.outNormal ?_
      refine Ar.next ?_
      refine Wc.region rfl ?_
      refine Wl.q rfl (Qy.move rfl) ?_
      refine Wl.q rfl (Qy.add rfl rfl (by omega)) ?_
      refine Wl.q rfl (Qy.assign rfl) ?_
      refine Wl.done ?_
      rotate_left
      refine Wc.exit ?_
      refine Ar.passExit ?_
      refine Ar.passExit ?_
      refine Ar.here ?_
      refine Ar.next ?_
      refine Wc.seq ?_
      refine Wc.region rfl ?_
      refine Wl.q rfl (Qy.assign rfl) ?_
      refine Wl.q rfl (Qy.assign rfl) ?_
      refine Wl.done ?_
      refine Ar.next ?_
      refine Wc.ret ?_
      refine Ar.out2 (.inr rfl) (Ho := Hp.only _ []) rfl (.tmp rfl) (.tmp rfl) (Hp.sub_only _ _) ?_
      rotate_left
      · refine ⟨?_, rfl, rfl⟩
        have hl : k < p.code.length := by omega
        have : badAt p = some k := find_bad hl hk2 hc3
        simp [checkP, hh, this]
      · refine Ar.again (k + 1) ?_ ?_ rfl ⟨rfl, rfl, trivial⟩ ⟨rfl, trivial⟩
        · refine ⟨by omega, ?_⟩
          rw [all_step _ (by omega), hk2]
          simpa using hc3
        · omega
      · refine ⟨?_, rfl, rfl⟩
        have hk : k = p.code.length := by omega
        subst hk
        rw [List.take_length] at hk2
        have : badAt p = none := find_none hk2
        simp [checkP, hh, this]
theorem c10 (G : Imm) (p : PV) (ac ao : Option Addr) (cc co : Nat) (hc : Arr G ac p.code) (ho : Arr G ao p.outs) (h1 : p.code.length ≤ 1099511627776) (h2 : p.outs.length ≤ 1099511627776) :
    Does Try.prog 10 [.agg #[.int .i64 p.ins, .int .i64 p.regs, .slice ac p.code.length cc, .slice ao p.outs.length co]] G [] (fun v G' Ho => v = .bool (decide (rightP p = true)) ∧ G' = G ∧ Ho = []) := by
  refine Does.enter Try.func10 rfl Try.ntmps10 rfl (fun w => ?_)
  refine Wc.seq ?_
  refine Wc.region rfl ?_
  refine Wl.box 0 rfl rfl rfl (fun b1 => ?_)
  refine Wl.q rfl (Qy.assign rfl) ?_
  refine Wl.done ?_
  refine Ar.next ?_
  refine Wc.seq ?_
  refine Wc.region rfl ?_
  refine Wl.q rfl (Qy.loadAll 0 T.agg25 rfl rfl rfl) ?_
  refine Wl.call0 rfl T.fn42 rfl (c42 _ _ _ _ _ _ (by assumption) (by assumption) (by omega) (by omega)) ?_
  refine Wl.q rfl (Qy.move rfl) ?_
  refine Wl.q rfl (Qy.extract rfl rfl) ?_
  refine Wl.q rfl (Qy.extract rfl rfl) ?_
  refine Wl.q rfl (Qy.assign rfl) ?_
  refine Wl.q rfl (Qy.assign rfl) ?_
  refine Wl.done ?_
  refine Ar.next ?_
  refine Wc.seq ?_
  refine Wc.region rfl ?_
  refine Wl.q rfl (Qy.move rfl) ?_
  refine Wl.q rfl (Qy.notD rfl) ?_
  refine Wl.q rfl (Qy.assign rfl) ?_
  refine Wl.done ?_
  refine Ar.next ?_
  refine Wc.ret ?_
  refine Ar.out1 (.inr rfl) (Ho := Hp.only _ []) rfl (.tmp rfl) (Hp.sub_only _ _) ?_
  refine ⟨?_, rfl, rfl⟩
  cases h : (checkP p).2 <;> simp [rightP, h]
end Go.Proofs.Ytbppmiimeccclaa
namespace Go.Proofs.Ytbppmiimeccclaa
open Go Go.Sl Go.ChangeShapes Go.WideShapes Go.RowKit Go.Joins
set_option linter.unusedVariables false
set_option maxRecDepth 100000
theorem und4 : Try.prog.underlying 4 = some .bool := by kernel_rfl
theorem laidOut : laidOutB Try.prog = true := by kernel_rfl
section
variable {H : Type} {enc : TypeId × Value → H}
end
theorem own : ownKnob Try.prog.godebug = none := by kernel_rfl
end Go.Proofs.Ytbppmiimeccclaa
set_option linter.unusedVariables false
namespace Go.Sl
open Go
/-- the record of a loop -/
def lrec (q : Loop) (s : LoopState) (p : Option Code) : Obj := .loop { q with state := s, pending := p }
/-- what one call of yield does -/
def YieldDoes (P : Program) (l : Nat) (vs : List Value) (G : Imm) (Hi : Hp) (post : Value → Imm → Hp → Prop) : Prop :=
  ∀ w, HoldH Hi G w → ∃ f tmps assign body, (Instr.yield l vs.toArray).run P w = .ok (.round l f tmps assign body) w ∧ RoundIn Fence.wide 0 P l f tmps assign body w (DoesPost G Hi w post)
/-- what a function does that calls yield for one thing after the other: whatever the rounds keep, it keeps -/
def IterDoes {β : Type} (P : Program) (f : FuncId) (caps : List Value) (G : Imm) (enc : β → List Value) (xs : List β) : Prop :=
  ∀ (ι : Type) (J : ι → Hp) (inv : Nat → ι → Prop) (stop : ι → Prop) (l : Nat) (i0 : ι), inv 0 i0 →
    (∀ k x i, xs[k]? = some x → inv k i → YieldDoes P l (enc x) G (J i) (fun v G' Ho => G' = G ∧ ∃ j, Ho = J j ∧ ((v = .bool true ∧ inv (k + 1) j) ∨ (v = .bool false ∧ stop j)))) →
    Does P f (.func (.yield l) #[] #[] :: caps) G (J i0) (fun v G' Ho => G' = G ∧ ∃ j, Ho = J j ∧ (inv xs.length j ∨ stop j))
def Hp.below (K : Nat) : Hp → Bool
  | [] => true
  | (t, _) :: h => Nat.ble (t + 1) K && Hp.below K h
theorem Hp.below_get {K : Nat} : ∀ {A : Hp}, Hp.below K A = true → ∀ t, K ≤ t → A.get t = none
  | [], _, t, _ => rfl
  | (i, x) :: A, h, t, ht => by
    simp only [Hp.below, Bool.and_eq_true] at h
    have h1 := Nat.le_of_ble_eq_true h.1
    rw [Hp.get_cons, if_neg (by omega)]
    exact Hp.below_get h.2 t ht
section
variable {P : Program} {ops : Array Oper} {rest : List Oper} {B : Bs} {e : Env} {D : List Deferred} {H : Hp} {G : Imm} {K : Act → World → Prop}
  {ty : TypeId} {pos : String} {after : Array Edge} {d : Nat}
theorem Hp.get_kill_lt (k : Nat) : ∀ (L : Hp) (t : Nat), t < k → (Hp.kill k L).get t = none
  | [], _, _ => rfl
  | (j, z) :: L, t, h => by
    show Hp.get ((k + j, none, default) :: Hp.kill k L) t = none
    rw [Hp.get_cons, if_neg (by omega)]
    exact Hp.get_kill_lt k L t h
/-- behind a call that was lent the tail -/
theorem Hold.tail {a : Act} {w : World} (k : Nat) {A Hi Ho : Hp} {G' : Imm} (hA : Hp.below k A = true) (hh : Hold B ⟨e, D, Ho.shift k ++ (Hi.kill k ++ (A ++ Hi.shift k)), G'⟩ a w) : Hold B ⟨e, D, A ++ Ho.shift k, G'⟩ a w := by
  refine hh.weaken (fun _ _ h => h) (fun t x hx => ?_)
  rw [Hp.get_append] at hx
  rw [Hp.get_append, Hp.get_append, Hp.get_append]
  rcases Nat.lt_or_ge t k with ht | ht
  · have h1 : (Ho.shift k).get t = none := by rw [Hp.get_shift, if_neg (by omega)]
    have h2 : (Hi.shift k).get t = none := by rw [Hp.get_shift, if_neg (by omega)]
    have h3 : (Hi.kill k).get t = none := Hp.get_kill_lt k Hi t ht
    rw [h1, h2, h3]
    rw [h1] at hx
    simpa using hx
  · rw [Hp.below_get hA t ht] at hx
    simp only [Option.none_or] at hx
    rw [hx]; rfl
/-- a call of yield; the tail is what the rounds hold -/
theorem Wl.yield {g : Operand} {l : Nat} {xs : Array Operand} {ats : Array TypeId} {vs : List Value} {A Hi : Hp} {post : Value → Imm → Hp → Prop} (k : Nat)
    (hn : Nat.ble (d + 1) B.n = true) (hg : e.ev g = some (.func (.yield l) #[] #[])) (hx : e.evs xs.toList = some vs) (hH : H = A ++ Hi.shift k) (hA : Hp.below k A = true)
    (hF : YieldDoes P l vs G Hi post) (h : ∀ v G' Ho, G.le G' → post v G' Ho → Wl P ops rest B ⟨(d, v) :: e, D, A ++ Ho.shift k, G'⟩ K) :
    Wl P ops (⟨some d, .call { callee := .value g, args := xs, argTypes := ats }, ty, pos, after, none⟩ :: rest) B ⟨e, D, H, G⟩ K := by
  intro a w hh
  subst hH
  unfold lstWp
  rw [if_pos (by simp [Region.wanted])]
  unfold opWp
  have hHi : ∀ t x, Hi.get t = some x → Hp.get (A ++ Hi.shift k) (k + t) = some x := fun t x hx => by
    rw [Hp.get_append, Hp.below_get hA (k + t) (by omega), Option.none_or, Hp.get_shift, if_pos (by omega), Nat.add_sub_cancel_left]; exact hx
  have hw : HoldH Hi G w := ⟨fun t b o x => hh.mem.own _ b o (hHi _ _ x), fun t t' b o o' x y => by have := hh.mem.one _ _ b _ _ (hHi _ _ x) (hHi _ _ y); omega, hh.mem.imm, fun t b o x => hh.mem.off _ b o (hHi _ _ x)⟩
  obtain ⟨f, tmps, assign, body, hy, hR⟩ := hF w hw
  have hrun : (execOp a.eval ⟨some d, .call { callee := .value g, args := xs, argTypes := ats }, ty, pos, after, none⟩).run P w = .ok (.round l f tmps assign body) w := by
    simp [execOp, resolve, Deferred.ofValue, invoke, hh.eval hg, hh.args hx, hy]
  rw [hrun]
  refine hR.mono fun x w' ⟨v, G', Ho, h1, h2, h3, h4, h5, h6, h7⟩ => ⟨v, h1, ?_⟩
  exact h v G' Ho h3 h7 _ _ (((hh.called k hHi h2 h3 h4 h5 h6).tail k hA).put hn v)
/-- the tail of what is known -/
def Hp.tl (H : Hp) (k : Nat) (T : Hp) : Prop := ∀ t x, (T.shift k).get t = some x → H.get t = some x
theorem Hp.tl_self (k : Nat) (T : Hp) : Hp.tl (T.shift k) k T := fun _ _ h => h
theorem Hp.tl_cons {k t : Nat} {x : Option Nat × Obj} {H T : Hp} (ht : Nat.ble (t + 1) k = true) (h : Hp.tl H k T) : Hp.tl ((t, x) :: H) k T := fun i y hi => by
  have hk : k ≤ i := by
    rcases Nat.lt_or_ge i k with h1 | h1
    · rw [Hp.get_shift, if_neg (by omega)] at hi; cases hi
    · exact h1
  have := Nat.le_of_ble_eq_true ht
  rw [Hp.get_cons, if_neg (by omega)]
  exact h i y hi
theorem Hold.cutT {a : Act} {w : World} {e' : Env} {A T : Hp} {k : Nat} (hh : Hold B ⟨e, D, H, G⟩ a w) (he : e.sub e') (hH : H.sub A) (ht : H.tl k T) : Hold B ⟨e', D, A ++ T.shift k, G⟩ a w := by
  refine hh.weaken (Env.sub_get he) (fun t x hx => ?_)
  rw [Hp.get_append] at hx
  cases hA : A.get t with
  | some y =>
    rw [hA] at hx
    have hx' : y = x := by simpa using hx
    subst hx'
    exact Hp.sub_get hH t y hA
  | none => rw [hA] at hx; exact ht t x (by simpa using hx)
/-- yield, what the rounds hold being the tail -/
theorem Wl.yieldT {g : Operand} {l : Nat} {xs : Array Operand} {ats : Array TypeId} {vs : List Value} {A Hi : Hp} {post : Value → Imm → Hp → Prop} (k : Nat)
    (hn : Nat.ble (d + 1) B.n = true) (hg : e.ev g = some (.func (.yield l) #[] #[])) (hx : e.evs xs.toList = some vs) (hH : H.sub A) (ht : H.tl k Hi) (hA : Hp.below k A = true)
    (hF : YieldDoes P l vs G Hi post) (h : ∀ v G' Ho, G.le G' → post v G' Ho → Wl P ops rest B ⟨(d, v) :: e, D, A ++ Ho.shift k, G'⟩ K) :
    Wl P ops (⟨some d, .call { callee := .value g, args := xs, argTypes := ats }, ty, pos, after, none⟩ :: rest) B ⟨e, D, H, G⟩ K := by
  intro a w hh
  refine Wl.yield (H := A ++ Hi.shift k) k hn hg hx rfl hA hF h a w (hh.weaken (fun _ _ h => h) (fun t x hx => ?_))
  rw [Hp.get_append] at hx
  cases hA : A.get t with
  | some y =>
    rw [hA] at hx
    have hx' : y = x := by simpa using hx
    subst hx'
    exact Hp.sub_get hH t y hA
  | none => rw [hA] at hx; exact ht t x (by simpa using hx)
theorem Wc.loopT {ι : Type} {r : Option Nat} {c : Code} {Q : Exit → Act → World → Prop} (k : Nat) (I : ι → Env × Hp) (T : ι → Hp) (φ : ι → Prop) (μ : ι → Nat) (i0 : ι) (h0 : φ i0)
    (he : e.sub (I i0).1) (hH : H.sub (I i0).2) (ht : H.tl k (T i0))
    (hb : ∀ i, φ i → Wc r P c B ⟨(I i).1, D, (I i).2 ++ (T i).shift k, G⟩ (Exit.then (Again B (fun i => ⟨(I i).1, D, (I i).2 ++ (T i).shift k, G⟩) φ μ (μ i)) Q)) : Wc r P (.loop c) B ⟨e, D, H, G⟩ Q :=
  Wc.loopS (fun i => ⟨(I i).1, D, (I i).2 ++ (T i).shift k, G⟩) φ μ i0 h0 (fun _ _ h => h.cutT he hH ht) hb
/-- other tags for all that is known -/
theorem Wc.lift {r : Option Nat} {c : Code} {Q : Exit → Act → World → Prop} (k : Nat) (h : Wc r P c B ⟨e, D, H.shift k, G⟩ Q) : Wc r P c B ⟨e, D, H, G⟩ Q := by
  intro a w hh
  have hg : ∀ t x, (H.shift k).get t = some x → k ≤ t ∧ H.get (t - k) = some x := fun t x hx => by
    rw [Hp.get_shift] at hx
    split at hx
    · rename_i h1; exact ⟨h1, hx⟩
    · cases hx
  refine h a w ⟨hh.size, hh.defers, hh.env, ⟨?_, ?_, hh.mem.imm, ?_⟩, hh.upd, ?_, hh.le, hh.new⟩
  · intro t b o hx; exact hh.mem.own _ b o (hg _ _ hx).2
  · intro t t' b o o' hx hy
    have h1 := hg _ _ hx; have h2 := hg _ _ hy
    have := hh.mem.one _ _ b _ _ h1.2 h2.2; omega
  · intro t b o hx; exact hh.mem.off _ b o (hg _ _ hx).2
  · intro t b o hx; exact hh.mine _ b o (hg _ _ hx).2
theorem Hp.got {H L : Hp} (h : H.sub L) : ∀ t x, L.get t = some x → H.get t = some x := Hp.sub_get h
/-- the iterator's way out: of its blocks only what the rounds hold is handed on -/
theorem Ar.outT {fn : Func} {G0 : Imm} {Hi Ho : Hp} {w0 : World} {post : Value → Imm → Hp → Prop} {n k : Nat} {x : Exit} (hx : x = .normal ∨ x = .ret) (hres : fn.results = #[]) (ht : H.tl k Ho) (hp : post (.tuple #[]) G Ho) :
    Ar (Out P fn G0 Hi w0 post) x ⟨n, w0, Hi.has, G0⟩ ⟨e, [], H, G⟩ := by
  intro a w hh
  have key : a.defers = [] ∧ ∃ v, (results fn a.tmps).run P w = .ok v w ∧ DoesPost G0 Hi w0 post (.returned v) w := by
    have hg : ∀ t x, Ho.get t = some x → H.get (k + t) = some x := fun t x hx => ht _ _ (by rw [Hp.get_shift, if_pos (by omega), Nat.add_sub_cancel_left]; exact hx)
    refine ⟨hh.defers, .tuple #[], by simp [results_eq, hres], .tuple #[], G, Ho, rfl, ⟨?_, ?_, hh.mem.imm, ?_⟩, hh.le, hh.upd, hh.new, ?_, hp⟩
    · intro t b o h; exact hh.mem.own _ b o (hg _ _ h)
    · intro t t' b o o' h h'; have := hh.mem.one _ _ b _ _ (hg _ _ h) (hg _ _ h'); omega
    · intro t b o h; exact hh.mem.off _ b o (hg _ _ h)
    · intro t b o h; exact hh.mine _ b o (hg _ _ h)
  rcases hx with rfl | rfl <;> exact key
def OutM (P : Program) (fn : Func) (G : Imm) (Hi : Hp) (w : World) (post : Value → Imm → Hp → Prop) : Exit → Act → World → Prop := bodyPostM (FF none) 0 P fn (DoesPost G Hi w post)
theorem Does.enterM {f : FuncId} {fn : Func} {c : Code} {n : Nat} {args : List Value} {Hi : Hp} {post : Value → Imm → Hp → Prop} (hf : P.funcs[f]? = some fn) (hb : fn.body = some c) (hn : fn.ntmps = n)
    (hl : Nat.ble args.length n = true) (h : ∀ w, Wc none P c ⟨n, w, Hi.has, G⟩ ⟨Env.ofArgs 0 args, [], Hi, G⟩ (OutM P fn G Hi w post)) : Does P f args G Hi post := by
  intro w hw
  have hl' := Nat.le_of_ble_eq_true hl
  refine callsIn_FF.1 (callsIn_of_wp_marks (F := FF none) (n := 0) hf hb trivial (h w _ w ?_))
  refine ⟨?_, rfl, ?_, hw, Upd.refl _ _, fun t b o hx => .inr ⟨t, o, hx⟩, Imm.le_refl _, fun b h1 h2 => (h1 h2).elim⟩
  · simp [hn]; omega
  · intro i v hi
    obtain ⟨_, h2⟩ := Env.get_ofArgs args 0 i v hi
    have h2' : args[i]? = some v := by simpa using h2
    have hlt : i < args.length := (List.getElem?_eq_some_iff.1 h2').1
    show (args.toArray ++ Array.replicate (fn.ntmps - args.toArray.size) undef)[i]? = some v
    rw [Array.getElem?_append_left (by simpa using hlt)]
    simpa using h2'
def mark (b : Nat) : Deferred := { target := .collected b, args := #[] }
theorem putObj_upd (w : World) (b : Nat) (o : Obj) : Upd (· = b) w (w.putObj b o) := ⟨rfl, rfl, rfl, by simp, fun k _ hk => World.putObj_heap_other hk⟩
section out
variable {fn : Func} {G0 : Imm} {Hi : Hp} {w0 : World} {post : Value → Imm → Hp → Prop} {x : Exit}
theorem Ar.collect (hx : x = .normal ∨ x = .ret) (t : Nat) {b : Nat} (ht : H.get t = some (some b, .deferred (some []))) (h : Ar (OutM P fn G0 Hi w0 post) .ret B ⟨e, D, (t, some b, .deferred none) :: H, G⟩) :
    Ar (OutM P fn G0 Hi w0 post) x B ⟨e, mark b :: D, H, G⟩ := by
  intro a w hh
  have hb : w.heap[b]? = some (.deferred (some [])) := hh.mem.own t b _ ht
  have hlt := (Array.getElem?_eq_some_iff.1 hb).1
  have hh1 : Hold B ⟨e, D, H, G⟩ { a with defers := D } w := ⟨hh.size, rfl, hh.env, hh.mem, hh.upd, hh.mine, hh.le, hh.new⟩
  have h1 := h _ _ (hh1.set ht (putObj_upd w b (.deferred none)) (World.putObj_heap_same hlt))
  have key : LeavesInM (FF none) 0 P fn a.tmps (DoesPost G0 Hi w0 post) a.defers .returning w := by
    rw [hh.defers]
    exact ⟨by simp, .inl ⟨b, _, rfl, run_takeDeferred hb, h1⟩⟩
  rcases hx with rfl | rfl <;> exact key
theorem Ar.outOf (hx : x = .normal ∨ x = .ret) (h : Ar (Out P fn G0 Hi w0 post) .ret B ⟨e, [], H, G⟩) : Ar (OutM P fn G0 Hi w0 post) x B ⟨e, [], H, G⟩ := by
  intro a w hh
  obtain ⟨hd, v, hr, hR⟩ := h a w hh
  have key : LeavesInM (FF none) 0 P fn a.tmps (DoesPost G0 Hi w0 post) a.defers .returning w := by
    rw [hd]; exact ⟨v, hr, hR⟩
  rcases hx with rfl | rfl <;> exact key
end out
def Env.ps : List Nat → List Value → Env → Env
  | t :: ts, v :: vs, e => Env.ps ts vs ((t, v) :: e)
  | _, _, e => e
/-- the assignments, then the body -/
def RoundQ (P : Program) (l : Nat) (body : Code) (R : Ending → World → Prop) : Exit → Act → World → Prop :=
  Exit.then (fun a₁ w₁ => ∃ w₂, (Instr.beginRound l).run P w₁ = .ok () w₂ ∧ body.wpIn (FF (some l)) 0 P (roundPost P l R) a₁ w₂) (fun _ _ _ => False)
theorem Ar.begin {l : Nat} {body : Code} {R : Ending → World → Prop} {q : Loop} {p : Option Code} (t : Nat) (ht : H.get t = some (some l, lrec q .ready p))
    (h : Wc (some l) P body B ⟨e, D, (t, some l, lrec q .busy p) :: H, G⟩ (roundPost P l R)) : Ar (RoundQ P l body R) .normal B ⟨e, D, H, G⟩ := by
  intro a w hh
  have hb := hh.mem.own t l _ ht
  have hlt := (Array.getElem?_eq_some_iff.1 hb).1
  refine ⟨_, run_beginRound hb rfl, ?_⟩
  exact h _ _ (hh.set ht (putObj_upd w l _) (World.putObj_heap_same hlt))
section round
variable {ι : Type} {x : Exit} {l n : Nat} {w0 : World} {Hi : Hp} {G0 : Imm} {post : Value → Imm → Hp → Prop} {q : Loop} {p : Option Code}
/-- a round's end: yield hands back true, or false with a jump that pends -/
theorem Ar.roundEnd (c : Option Code) (hx : (x = .normal ∧ c = none) ∨ (x = .ret ∧ c = some .ret) ∨ ∃ id, x = .exit id ∧ c = some (.exit id)) (t : Nat) (ht : H.get t = some (some l, lrec q .busy p)) {Ho : Hp}
    (hp : post (.bool c.isNone) G Ho) (hHo : ∀ i y, Ho.get i = some y → Hp.get ((t, some l, lrec q (if c.isNone then .ready else .done) c) :: H) i = some y) :
    Ar (roundPost P l (DoesPost G0 Hi w0 post)) x ⟨n, w0, Hi.has, G0⟩ ⟨e, D, H, G⟩ := by
  intro a w hh
  have hb := hh.mem.own t l _ ht
  have hlt := (Array.getElem?_eq_some_iff.1 hb).1
  have h2 := hh.set ht (o' := lrec q (if c.isNone then .ready else .done) c) (putObj_upd w l _) (World.putObj_heap_same hlt)
  have h3 := h2.weaken (e' := e) (H' := Ho) (fun _ _ h => h) hHo
  have key : ∃ v w', (Instr.endRound l c).run P w = .ok v w' ∧ DoesPost G0 Hi w0 post (.returned v) w' :=
    ⟨_, _, run_endRound c hb, .bool c.isNone, G, Ho, rfl, h3.mem, h3.le, h3.upd, h3.new, h3.mine, hp⟩
  rcases hx with ⟨rfl, rfl⟩ | ⟨rfl, rfl⟩ | ⟨id, rfl, rfl⟩ <;> exact key
end round
theorem Env.ps_hold {n : Nat} : ∀ (ts : List Nat) (vs : List Value) (e : Env) (tmps : Array Value), tmps.size = n → (∀ i v, e.get i = some v → tmps[i]? = some v) → ts.all (fun t => Nat.ble (t + 1) n) = true →
    ((ts.zip vs).foldl (fun t (p : Nat × Value) => t.setIfInBounds p.1 p.2) tmps).size = n ∧ ∀ i v, (Env.ps ts vs e).get i = some v → ((ts.zip vs).foldl (fun t (p : Nat × Value) => t.setIfInBounds p.1 p.2) tmps)[i]? = some v
  | [], vs, e, tmps, hs, he, _ => by
    have : Env.ps [] vs e = e := by cases vs <;> rfl
    rw [this]; simpa using ⟨hs, he⟩
  | t :: ts, [], e, tmps, hs, he, _ => by simpa [Env.ps] using ⟨hs, he⟩
  | t :: ts, v :: vs, e, tmps, hs, he, hb => by
    simp only [List.all_cons, Bool.and_eq_true] at hb
    have ht := Nat.le_of_ble_eq_true hb.1
    refine Env.ps_hold ts vs ((t, v) :: e) (tmps.setIfInBounds t v) (by simpa using hs) (fun i u hu => ?_) hb.2
    rw [Env.get_cons] at hu
    rw [Array.getElem?_setIfInBounds]
    by_cases hi : t = i
    · rw [if_pos hi] at hu ⊢; rw [if_pos (by omega)]; exact hu
    · rw [if_neg hi] at hu ⊢; exact he i u hu
section stmt
variable {β ι : Type} {Q : Exit → Act → World → Prop} {f : FuncId} {fst caps : List Value} {enc : β → List Value} {xs : List β} {ps : List Nat} {assign body : Code} {g : Operand}
def rst : Option Code → LoopState | none => .ready | some _ => .done
/-- what the rounds hold: the record, the block for deferred calls, the caller's blocks -/
abbrev RJ (tl td : Nat) (q : Loop) (l dd : Nat) (A : Hp) (p : Option Code) : Hp := (tl, some l, lrec q (rst p) p) :: (td, some dd, .deferred (some [])) :: A
/-- for .. range over a function, outermost -/
theorem Wc.rangeFunc (tl td : Nat) (I : ι → Hp) (inv : Nat → ι → Prop) (stop : Code → ι → Prop) (i0 : ι) (hg : e.ev g = some (.func (.func f) #[] caps.toArray)) (hf : isFn P f)
    (hps : ∀ x, (enc x).length = ps.length) (hpb : ps.all (fun t => Nat.ble (t + 1) B.n) = true) (hit : IterDoes P f caps G enc xs) (h0 : inv 0 i0) (hH : ∀ t x, (I i0).get t = some x → H.get t = some x)
    (htl : Nat.beq tl td = false ∧ ∀ i, (I i).get tl = none)
    (hround : ∀ k x i l dd q w0, xs[k]? = some x → inv k i → Wc (some l) P assign ⟨B.n, w0, (RJ tl td q l dd (I i) none).has, G⟩ ⟨Env.ps ps (enc x) e, [], RJ tl td q l dd (I i) none, G⟩
      (RoundQ P l body (DoesPost G (RJ tl td q l dd (I i) none) w0 (fun v G' Ho => G' = G ∧ ∃ j : ι × Option Code, Ho = RJ tl td q l dd (I j.1) j.2 ∧ ((v = .bool true ∧ j.2 = none ∧ inv (k + 1) j.1) ∨ (v = .bool false ∧ ∃ c, j.2 = some c ∧ stop c j.1))))))
    (hdone : ∀ j dd, inv xs.length j → Ar Q .normal B ⟨e, mark dd :: D, (td, some dd, .deferred (some [])) :: I j, G⟩)
    (hstop : ∀ j dd c, stop c j → Wc none P c B ⟨e, mark dd :: D, (td, some dd, .deferred (some [])) :: I j, G⟩ Q) :
    Wc none P (.rangeFunc g ps.toArray assign body) B ⟨e, D, H, G⟩ Q := by
  intro a w hh
  refine wpIn_rangeFunc fun fn _ => ?_
  obtain ⟨q, hq⟩ : ∃ q : Loop, q = { state := .ready, pending := none, fn, tmps := a.tmps, params := ps.toArray, assign, body, defers := w.heap.size } := ⟨_, rfl⟩
  obtain ⟨fnn, hf1, hf2, hf3⟩ := hf
  obtain ⟨ht3, htI⟩ := htl
  have hne : tl ≠ td := fun h => by subst h; simp at ht3
  have hA := hh.alloc td (.deferred (some []))
  have hB := hA.alloc tl (lrec q .ready none)
  rw [World.size_alloc] at hB
  refine ⟨w.heap.size + 1, [mark w.heap.size], (w.alloc (.deferred (some []))).alloc (lrec q .ready none), { target := .fn (.func f) caps.toArray, args := #[.func (.yield (w.heap.size + 1)) #[] #[]] }, (w.alloc (.deferred (some []))).alloc (lrec q .ready none), f,
    (.func (.yield (w.heap.size + 1)) #[] #[] :: caps).toArray, (w.alloc (.deferred (some []))).alloc (lrec q .ready none), ?_, ?_, ?_, ?_, fun h => by simp [FF] at h, ?_⟩
  · have := run_enterLoop_outer (P := P) (w := w) fn a.tmps ps.toArray assign body
    rw [hq]; exact this
  · have hev : Act.eval a g = .func (.func f) #[] caps.toArray := hh.eval hg
    simp only [resolve, hev]
    simp [go_sem]
  · intro f' hf'; trivial
  · simp [invoke, run_callFunc _ _ hf1 hf2 hf3]
  · have hB' : Hold B ⟨e, D, RJ tl td q (w.heap.size + 1) w.heap.size (I i0) none, G⟩ a ((w.alloc (.deferred (some []))).alloc (lrec q .ready none)) := by
      refine hB.weaken (fun _ _ h => h) (fun t x hx => ?_)
      rw [Hp.get_cons] at hx ⊢
      split at hx <;> rename_i h1
      · rw [if_pos h1]; exact hx
      · rw [if_neg h1]
        rw [Hp.get_cons] at hx ⊢
        split at hx <;> rename_i h2
        · rw [if_pos h2]; exact hx
        · rw [if_neg h2]; exact hH t x hx
    have hC := hit (ι × Option Code) (fun s => RJ tl td q (w.heap.size + 1) w.heap.size (I s.1) s.2) (fun k j => j.2 = none ∧ inv k j.1) (fun j => ∃ c, j.2 = some c ∧ stop c j.1) (w.heap.size + 1) (i0, none) ⟨rfl, h0⟩ (fun k x i hx hi => ?_)
    · refine callsIn_FF.2 ((hC _ hB'.mem).mono fun ex w' ⟨v, G', Ho, h1, h2, h3, h4, h5, h6, h7, j, h8, h9⟩ => ?_)
      subst h1 h7
      have hcl := hB'.called 0 (Hi := RJ tl td q (w.heap.size + 1) w.heap.size (I i0) none) (fun t x hx => by rw [Nat.zero_add]; exact hx) h2 h3 h4 h5 h6
      have hD : Hold B ⟨e, D, Ho, G'⟩ a w' := hcl.weaken (fun _ _ h => h) (fun t x hx => by
        rw [Hp.get_append, Hp.get_shift, if_pos (Nat.zero_le _), Nat.sub_zero, hx]; rfl)
      rw [h8] at hD
      obtain ⟨ji, jp⟩ := j
      have hget : Hp.get (RJ tl td q (w.heap.size + 1) w.heap.size (I ji) jp) tl = some (some (w.heap.size + 1), lrec q (rst jp) jp) := by
        rw [Hp.get_cons, if_pos rfl]
      have hbk := hD.mem.own tl _ _ hget
      have hlt := (Array.getElem?_eq_some_iff.1 hbk).1
      have hE := hD.set hget (o' := lrec q .exhausted jp) (putObj_upd w' _ _) (World.putObj_heap_same hlt)
      have hF : Hold B ⟨e, D, (td, some w.heap.size, .deferred (some [])) :: I ji, G'⟩ a (w'.putObj (w.heap.size + 1) (lrec q .exhausted jp)) := by
        refine hE.weaken (fun _ _ h => h) (fun t x hx => ?_)
        rw [Hp.get_cons] at hx ⊢
        have htn : tl ≠ t := fun h => by
          subst h
          rw [if_neg (Ne.symm hne)] at hx
          have := htI ji
          rw [hx] at this; cases this
        rw [if_neg htn]
        rw [Hp.get_cons, if_neg htn, Hp.get_cons]
        exact hx
      have hG : Hold B ⟨e, mark w.heap.size :: D, (td, some w.heap.size, .deferred (some [])) :: I ji, G'⟩ { a with defers := [mark w.heap.size] ++ a.defers } (w'.putObj (w.heap.size + 1) (lrec q .exhausted jp)) :=
        ⟨hF.size, by show [mark w.heap.size] ++ a.defers = _; rw [hF.defers]; rfl, hF.env, hF.mem, hF.upd, hF.mine, hF.le, hF.new⟩
      have hend : (Instr.endLoop (w.heap.size + 1)).run P w' = .ok jp (w'.putObj (w.heap.size + 1) (lrec q .exhausted jp)) := run_endLoop hbk (by cases jp <;> simp [rst])
      refine ⟨jp, _, hend, ?_⟩
      rcases h9 with ⟨hj, hi⟩ | ⟨c, hj, hs⟩
      · have hj' : jp = none := hj
        subst hj'
        exact hdone ji _ hi _ _ hG
      · have hj' : jp = some c := hj
        subst hj'
        exact hstop ji _ c hs _ _ hG
    · obtain ⟨i, ip⟩ := i
      obtain ⟨hip, hi⟩ := hi
      have hip' : ip = none := hip
      subst hip'
      intro w2 hw2
      have hl2 : w2.heap[w.heap.size + 1]? = some (lrec q .ready none) := hw2.own tl _ _ (by rw [Hp.get_cons, if_pos rfl]; rfl)
      have hq2 : q.params = ps.toArray ∧ q.tmps = a.tmps ∧ q.assign = assign ∧ q.body = body := by rw [hq]; exact ⟨rfl, rfl, rfl, rfl⟩
      have hy := run_yield (P := P) (args := (enc x).toArray) hl2 (by show _ = q.params.size; rw [hq2.1]; simp [hps x])
      refine ⟨_, _, _, _, hy, roundIn_of_wpIn (F := Fence.wide) (n := 0) trivial ?_⟩
      have hz := Env.ps_hold ps (enc x) e a.tmps hh.size hh.env hpb
      have hr := hround k x i (w.heap.size + 1) w.heap.size q w2 hx hi
      have hhold : Hold ⟨B.n, w2, (RJ tl td q (w.heap.size + 1) w.heap.size (I i) none).has, G⟩ ⟨Env.ps ps (enc x) e, [], RJ tl td q (w.heap.size + 1) w.heap.size (I i) none, G⟩
          { tmps := (q.params.zip (enc x).toArray).foldl (fun tmps (t, a) => tmps.setIfInBounds t a) q.tmps, defers := [] } w2 := by
        refine ⟨?_, rfl, ?_, hw2, Upd.refl _ _, fun t b o hx => .inr ⟨t, o, hx⟩, Imm.le_refl _, fun b h1 h2 => (h1 h2).elim⟩
        · show ((q.params.zip (enc x).toArray).foldl _ q.tmps).size = B.n
          rw [hq2.1, hq2.2.1]
          have := hz.1
          simpa using this
        · intro i v hv
          show ((q.params.zip (enc x).toArray).foldl _ q.tmps)[i]? = some v
          rw [hq2.1, hq2.2.1]
          have := hz.2 i v hv
          simpa using this
      have h := hr _ w2 hhold
      show q.assign.wpIn (FF (some (w.heap.size + 1))) 0 P (RoundQ P (w.heap.size + 1) q.body _) _ _
      rw [hq2.2.2.1, hq2.2.2.2]
      exact h
end stmt
end
end Go.Sl
set_option linter.unusedVariables false
namespace Go.Sl
open Go
section
variable {P : Program} {e : Env} {H : Hp} {G : Imm} {ty : TypeId}
end
section
variable {P : Program} {B : Bs} {e : Env} {D : List Deferred} {H : Hp} {G : Imm}
theorem Hold.base {a : Act} {w : World} (hh : Hold B ⟨e, D, H, G⟩ a w) : Hold B ⟨e, D, H, B.G0⟩ a w := by
  refine ⟨hh.size, hh.defers, hh.env, ⟨hh.mem.own, hh.mem.one, fun b o h => hh.mem.imm b o (hh.le b o h), fun t b o h => ?_⟩, hh.upd, hh.mine, Imm.le_refl _, fun b h h0 => (h h0).elim⟩
  have h1 : G b = none := hh.mem.off t b o h
  show B.G0 b = none
  cases hg : B.G0 b with
  | none => rfl
  | some x => have h2 : G b = some x := hh.le b x hg; rw [h1] at h2; cases h2
theorem Ar.base {Q : Exit → Act → World → Prop} {x : Exit} (h : Ar Q x B ⟨e, D, H, B.G0⟩) : Ar Q x B ⟨e, D, H, G⟩ := fun a w hh => h a w hh.base
theorem Wc.base {r : Option Nat} {c : Code} {Q : Exit → Act → World → Prop} (h : Wc r P c B ⟨e, D, H, B.G0⟩ Q) : Wc r P c B ⟨e, D, H, G⟩ Q := fun a w hh => h a w hh.base
theorem HoldH.less {Hi : Hp} {G G' : Imm} {w : World} (hw : HoldH Hi G' w) (hl : G.le G') : HoldH Hi G w := by
  refine ⟨hw.own, hw.one, fun b o h => hw.imm b o (hl b o h), fun t b o h => ?_⟩
  have h1 := hw.off t b o h
  cases hg : G b with
  | none => rfl
  | some x => have := hl b x hg; rw [h1] at this; cases this
theorem DoesPost.up {G G' : Imm} {Hi : Hp} {w w' : World} {q : Value → Hp → Prop} (hw : HoldH Hi G' w) {x : Ending} (h : DoesPost G Hi w (fun v G1 Ho => G1 = G ∧ q v Ho) x w') :
    DoesPost G' Hi w (fun v G1 Ho => G1 = G' ∧ q v Ho) x w' := by
  obtain ⟨v, G1, Ho, h1, h2, h3, h4, h5, h6, h7, h8⟩ := h
  have hnot : ∀ b o, G' b = some o → ¬ Hi.has b := fun b o hb ⟨t, o', ht⟩ => by have := hw.off t b o' ht; rw [hb] at this; cases this
  refine ⟨v, G', Ho, h1, ⟨h2.own, h2.one, fun b o hb => ?_, fun t b o ht => ?_⟩, Imm.le_refl _, h4, fun b h0 h0' => (h0 h0').elim, h6, rfl, h8⟩
  · rw [h4.same b (hw.ltG hb) (hnot b o hb)]; exact hw.imm b o hb
  · cases hg : G' b with
    | none => rfl
    | some y =>
      rcases h6 t b o ht with h | h
      · have : b < w.heap.size := hw.ltG hg; omega
      · exact (hnot b y hg h).elim
theorem YieldDoes.up {l : Nat} {vs : List Value} {G G' : Imm} {Hi : Hp} {q : Value → Hp → Prop} (hl : G.le G') (h : YieldDoes P l vs G Hi (fun v G1 Ho => G1 = G ∧ q v Ho)) : YieldDoes P l vs G' Hi (fun v G1 Ho => G1 = G' ∧ q v Ho) := by
  intro w hw
  obtain ⟨f, tmps, assign, body, h1, h2⟩ := h w (hw.less hl)
  exact ⟨f, tmps, assign, body, h1, h2.mono fun x w' hp => hp.up hw⟩
theorem Does.up {f : FuncId} {args : List Value} {G G' : Imm} {Hi : Hp} {q : Value → Hp → Prop} (hl : G.le G') (h : Does P f args G Hi (fun v G1 Ho => G1 = G ∧ q v Ho)) : Does P f args G' Hi (fun v G1 Ho => G1 = G' ∧ q v Ho) := by
  intro w hw
  exact (h w (hw.less hl)).mono fun x w' hp => hp.up hw
end
def AtLoop (r : Option Nat) (P : Program) (c : Code) (Q : Exit → Act → World → Prop) (a : Act) (w : World) : Prop :=
  ∀ (b : Frame) (k : List Item) (cs : List Frame), b.roundOf = (FF r).round → (FF r).fn b.fn → (FF r).room (cs.length + 1 + 0) →
    ∃ e a' w', Q e a' w' ∧ ArrivesIn (Machine.fenced P (FF r)) P (lone (b.atR a (.code c :: .inLoop c :: k)) cs w) b k cs e a' w'
def La (r : Option Nat) (P : Program) (c : Code) (B : Bs) (S : St) (Q : Exit → Act → World → Prop) : Prop := ∀ a w, Hold B S a w → AtLoop r P c Q a w
section
variable {r : Option Nat} {P : Program} {B : Bs} {S : St} {Q : Exit → Act → World → Prop} {c : Code}
theorem La.round (h : Wc r P c B S (Exit.then (AtLoop r P c Q) Q)) : La r P c B S Q := by
  intro a w hh b k cs hro hb' hr
  obtain ⟨x, a₁, w₁, hq, harr⟩ := h a w hh b (.inLoop c :: k) cs hro hb' hr
  cases x with
  | normal =>
    obtain ⟨e₂, a₂, w₂, hq₂, harr₂⟩ := hq b k cs hro hb' hr
    exact ⟨e₂, a₂, w₂, hq₂, .of_steps (StepsIn.trans harr (.one (fenced_calm hb' hr rfl) stepR_inLoop)) harr₂⟩
  | exit id => exact ⟨_, a₁, w₁, hq, .pass (x := .inLoop c) rfl (fun _ _ => .inl (by simp)) harr⟩
  | goto l => exact ⟨_, a₁, w₁, hq, .pass (x := .inLoop c) rfl (fun _ _ => .inl (by simp)) harr⟩
  | ret => exact ⟨_, a₁, w₁, hq, .pass (x := .inLoop c) rfl (fun _ _ => .inl (by simp)) harr⟩
  | panic ch => exact ⟨_, a₁, w₁, hq, .pass (x := .inLoop c) rfl (fun _ _ => .inl (by simp)) harr⟩
  | outgrown => exact ⟨_, a₁, w₁, hq, .pass (x := .inLoop c) rfl (fun _ _ => .inl (by simp)) harr⟩
end
end Go.Sl
set_option linter.unusedVariables false
namespace Go.Sl
open Go
theorem HoldH.freezeRow {α : Type} [Cells α] {H : Hp} {G : Imm} {w : World} (hh : HoldH H G w) {t : Nat} {ad : Option Addr} {c : Nat} {E : TypeId} {xs : List α} {junk : List Value} (ht : H.get t = some (ad.map (·.block), Row E xs junk)) (ho : OwnA ad c xs junk) :
    ∃ G', G.le G' ∧ Arr G' ad xs ∧ HoldH ((t, none, default) :: H) G' w ∧ ∀ b, G' b ≠ none → G b = none → ∃ o, H.get t = some (some b, o) := by
  have hB : Hold ⟨0, w, fun b => H.has b, G⟩ ⟨[], [], H, G⟩ { tmps := #[], defers := [] } w :=
    ⟨rfl, rfl, fun i v h => by simp [Env.get] at h, hh, Upd.refl _ _, fun t b o h => .inr ⟨t, o, h⟩, Imm.le_refl _, fun b h h0 => (h h0).elim⟩
  rcases ho with ⟨rfl, rfl, rfl, _⟩ | ⟨b, rfl, hrest⟩
  · exact ⟨G, Imm.le_refl _, Arr.nil G, (hB.noBlock t default).mem, fun b h h0 => (h h0).elim⟩
  · have ht' : H.get t = some (some b, Row E xs junk) := ht
    obtain ⟨h1, h2⟩ := hB.freeze ht'
    refine ⟨_, h2, row_arr (E := E) (junk := junk) (by simp [Imm.with]), h1.mem, fun b' hb h0 => ?_⟩
    have hb' : (if b' = b then some (Row E xs junk) else G b') ≠ none := hb
    split at hb'
    · rename_i h; subst h; exact ⟨_, ht'⟩
    · exact (hb' h0).elim
end Go.Sl
set_option linter.unusedVariables false
namespace Go.Sl
open Go
section
variable {P : Program} {e : Env} {H : Hp} {G : Imm} {ty : TypeId} {t t' : TypeId} {x y : Operand} {m n : Int}
theorem Qy.uadd32 (hx : e.ev x = some (.int .u32 m)) (hy : e.ev y = some (.int .u32 n)) (hb : 0 ≤ m + n ∧ m + n ≤ 4294967295) : Qy P (.binOp .add t x y t') ty e H G (.int .u32 (m + n)) := by
  have := Qy.addW (P := P) (H := H) (G := G) (ty := ty) (t := t) (t' := t') hx hy; rwa [IntWalk.u32_in _ hb] at this
theorem Qy.uadd64 (hx : e.ev x = some (.int .u64 m)) (hy : e.ev y = some (.int .u64 n)) (hb : 0 ≤ m + n ∧ m + n ≤ 18446744073709551615) : Qy P (.binOp .add t x y t') ty e H G (.int .u64 (m + n)) := by
  have := Qy.addW (P := P) (H := H) (G := G) (ty := ty) (t := t) (t' := t') hx hy; rwa [IntWalk.u64_in _ hb] at this
theorem Qy.usub32 (hx : e.ev x = some (.int .u32 m)) (hy : e.ev y = some (.int .u32 n)) (hb : 0 ≤ m - n ∧ m - n ≤ 4294967295) : Qy P (.binOp .sub t x y t') ty e H G (.int .u32 (m - n)) := by
  have := Qy.subW (P := P) (H := H) (G := G) (ty := ty) (t := t) (t' := t') hx hy; rwa [IntWalk.u32_in _ hb] at this
theorem Qy.umul32 (hx : e.ev x = some (.int .u32 m)) (hy : e.ev y = some (.int .u32 n)) (hb : 0 ≤ m * n ∧ m * n ≤ 4294967295) : Qy P (.binOp .mul t x y t') ty e H G (.int .u32 (m * n)) := by
  have := Qy.mulW (P := P) (H := H) (G := G) (ty := ty) (t := t) (t' := t') hx hy; rwa [IntWalk.u32_in _ hb] at this
theorem Qy.umul64 (hx : e.ev x = some (.int .u64 m)) (hy : e.ev y = some (.int .u64 n)) (hb : 0 ≤ m * n ∧ m * n ≤ 18446744073709551615) : Qy P (.binOp .mul t x y t') ty e H G (.int .u64 (m * n)) := by
  have := Qy.mulW (P := P) (H := H) (G := G) (ty := ty) (t := t) (t' := t') hx hy; rwa [IntWalk.u64_in _ hb] at this
theorem tdiv_pos {m n : Int} (h : 0 ≤ m) : m.tdiv n = m / n := Int.tdiv_eq_ediv_of_nonneg h
theorem tmod_pos {m n : Int} (h : 0 ≤ m) : m.tmod n = m % n := Int.tmod_eq_emod_of_nonneg h
theorem div_le {m n : Int} (h : 0 ≤ m) (hn : 0 < n) : 0 ≤ m / n ∧ m / n ≤ m := ⟨Int.ediv_nonneg h (Int.le_of_lt hn), Int.ediv_le_self _ h⟩
theorem Qy.uquo32 (hx : e.ev x = some (.int .u32 m)) (hy : e.ev y = some (.int .u32 n)) (hb : 0 ≤ m ∧ m ≤ 4294967295 ∧ 0 < n) : Qy P (.binOp .quo t x y t') ty e H G (.int .u32 (m / n)) := by
  have := Qy.quoW (P := P) (H := H) (G := G) (ty := ty) (t := t) (t' := t') hx hy (by omega)
  have h1 := div_le hb.1 hb.2.2
  rwa [tdiv_pos hb.1, IntWalk.u32_in _ ⟨h1.1, Int.le_trans h1.2 hb.2.1⟩] at this
theorem Qy.uquo64 (hx : e.ev x = some (.int .u64 m)) (hy : e.ev y = some (.int .u64 n)) (hb : 0 ≤ m ∧ m ≤ 18446744073709551615 ∧ 0 < n) : Qy P (.binOp .quo t x y t') ty e H G (.int .u64 (m / n)) := by
  have := Qy.quoW (P := P) (H := H) (G := G) (ty := ty) (t := t) (t' := t') hx hy (by omega)
  have h1 := div_le hb.1 hb.2.2
  rwa [tdiv_pos hb.1, IntWalk.u64_in _ ⟨h1.1, Int.le_trans h1.2 hb.2.1⟩] at this
theorem Qy.quoP (hx : e.ev x = some (.int .i64 m)) (hy : e.ev y = some (.int .i64 n)) (hb : 0 ≤ m ∧ m ≤ 9223372036854775807 ∧ 0 < n) : Qy P (.binOp .quo t x y t') ty e H G (.int .i64 (m / n)) := by
  have h1 := div_le hb.1 hb.2.2
  have h2 : m.tdiv n = m / n := tdiv_pos hb.1
  have := Qy.quo (P := P) (H := H) (G := G) (ty := ty) (t := t) (t' := t') hx hy (by omega) (by rw [h2]; exact ⟨by omega, by omega⟩)
  rwa [h2] at this
theorem Qy.urem {k : IntKind} (hx : e.ev x = some (.int k m)) (hy : e.ev y = some (.int k n)) (hb : 0 ≤ m ∧ 0 < n) : Qy P (.binOp .rem t x y t') ty e H G (.int k (m % n)) := by
  have := Qy.rem (P := P) (H := H) (G := G) (ty := ty) (t := t) (t' := t') hx hy (by omega)
  rwa [tmod_pos hb.1] at this
theorem Qy.conv32 {s : TypeId} {k : IntKind} (hs : (P.underlying s).isSome = true) (ht : P.underlying t = some (.int .u32)) (hx : e.ev x = some (.int k m)) (hb : 0 ≤ m ∧ m ≤ 4294967295) : Qy P (.convert s t x) ty e H G (.int .u32 m) := by
  have := Qy.conv (P := P) (H := H) (G := G) (ty := ty) hs ht hx
  rwa [IntWalk.u32_in _ hb] at this
theorem Qy.conv64 {s : TypeId} {k : IntKind} (hs : (P.underlying s).isSome = true) (ht : P.underlying t = some (.int .u64)) (hx : e.ev x = some (.int k m)) (hb : 0 ≤ m ∧ m ≤ 18446744073709551615) : Qy P (.convert s t x) ty e H G (.int .u64 m) := by
  have := Qy.conv (P := P) (H := H) (G := G) (ty := ty) hs ht hx
  rwa [IntWalk.u64_in _ hb] at this
end
theorem Qy.fieldR {P : Program} {e : Env} {H : Hp} {G : Imm} {ty T : TypeId} {x : Operand} {i : Nat} {v0 v1 v : Value} (h : ∀ (w : World) (v0 v1 : Value), (Instr.field T (.agg #[v0, v1]) i).run P w = .ok (#[v0, v1][i]?.getD undef) w)
    (hx : e.ev x = some (.agg #[v0, v1])) (hv : #[v0, v1][i]?.getD undef = v) : Qy P (.field T x i) ty e H G v := fun a w _ _ _ _ hh => by
  subst hv
  simp [execOp, hh.eval hx, h]
theorem bits_and_u32_nat (a b : Nat) (ha : a < 4294967296) (hb : b < 4294967296) : bits .and .u32 (a : Int) (b : Int) = ((a &&& b : Nat) : Int) := by
  have hx : a &&& b < 2 ^ 32 := Nat.and_lt_two_pow _ (by omega)
  have h1 : (BitVec.ofInt 32 (a : Int)).toNat = a := by
    rw [BitVec.ofInt_natCast, BitVec.toNat_ofNat]; exact Nat.mod_eq_of_lt (by omega)
  have h2 : (BitVec.ofInt 32 (b : Int)).toNat = b := by
    rw [BitVec.ofInt_natCast, BitVec.toNat_ofNat]; exact Nat.mod_eq_of_lt (by omega)
  show IntKind.u32.wrap ((BitVec.ofInt 32 (a : Int) &&& BitVec.ofInt 32 (b : Int)).toNat : Int) = _
  rw [BitVec.toNat_and, h1, h2, IntKind.wrap_u32]
  omega
theorem bits_or_u32_nat (a b : Nat) (ha : a < 4294967296) (hb : b < 4294967296) : bits .or .u32 (a : Int) (b : Int) = ((a ||| b : Nat) : Int) := by
  have hx : a ||| b < 2 ^ 32 := Nat.or_lt_two_pow (by omega) (by omega)
  have h1 : (BitVec.ofInt 32 (a : Int)).toNat = a := by
    rw [BitVec.ofInt_natCast, BitVec.toNat_ofNat]; exact Nat.mod_eq_of_lt (by omega)
  have h2 : (BitVec.ofInt 32 (b : Int)).toNat = b := by
    rw [BitVec.ofInt_natCast, BitVec.toNat_ofNat]; exact Nat.mod_eq_of_lt (by omega)
  show IntKind.u32.wrap ((BitVec.ofInt 32 (a : Int) ||| BitVec.ofInt 32 (b : Int)).toNat : Int) = _
  rw [BitVec.toNat_or, h1, h2, IntKind.wrap_u32]
  omega
/-- 'x & 1' -/
theorem and_one_u32 (x : Int) (h : 0 ≤ x ∧ x < 4294967296) : bits .and .u32 x 1 = x % 2 := by
  have h1 := bits_and_u32_nat x.toNat 1 (by omega) (by omega)
  rw [Nat.and_one_is_mod, Int.toNat_of_nonneg h.1] at h1
  have h2 : ((x.toNat % 2 : Nat) : Int) = x % 2 := by omega
  exact h1.trans h2
/-- a bit is laid where none is, and none below -/
theorem or_bit_u32 (x : Int) (s : Nat) (hx : 0 ≤ x ∧ x < 65536) (hs : s < 16) (hz : x % ((2 ^ (s + 1) : Nat) : Int) = 0) : bits .or .u32 x ((2 ^ s : Nat) : Int) = x + ((2 ^ s : Nat) : Int) := by
  have hp : 2 ^ s < 4294967296 := Nat.lt_of_lt_of_le (Nat.pow_lt_pow_right (by decide) hs) (by decide)
  have h1 := bits_or_u32_nat x.toNat (2 ^ s) (by omega) hp
  rw [Int.toNat_of_nonneg hx.1] at h1
  rw [h1]
  have hz' : x.toNat % 2 ^ (s + 1) = 0 := by
    have h2 : ((x.toNat % 2 ^ (s + 1) : Nat) : Int) = 0 := by rw [Int.natCast_emod, Int.toNat_of_nonneg hx.1]; exact hz
    exact Int.ofNat_eq_zero.1 h2
  have h3 := Nat.div_add_mod x.toNat (2 ^ (s + 1))
  rw [hz', Nat.add_zero] at h3
  have h4 := Nat.two_pow_add_eq_or_of_lt (b := 2 ^ s) (i := s + 1) (Nat.pow_lt_pow_right (by decide) (Nat.lt_succ_self s)) (x.toNat / 2 ^ (s + 1))
  rw [h3] at h4
  rw [← h4, Int.natCast_add, Int.toNat_of_nonneg hx.1]
/-- a whole number's handle -/
structure IV where
  neg : Bool
  a : Option Addr
  n : Nat
  c : Nat
instance : Inhabited IV := ⟨⟨false, none, 0, 0⟩⟩
instance : Cells IV := ⟨2, fun x => [.bool x.neg, .slice x.a x.n x.c], fun _ => rfl, fun _ => rfl⟩
/-- a slice's handle -/
structure SV where
  a : Option Addr
  n : Nat
  c : Nat
instance : Inhabited SV := ⟨⟨none, 0, 0⟩⟩
instance : Cells SV := ⟨1, fun x => [.slice x.a x.n x.c], fun _ => rfl, fun _ => rfl⟩
end Go.Sl
set_option linter.unusedVariables false
namespace Go.Sl
open Go
def Digs (l : List U32) : Prop := ∀ d ∈ l, 0 ≤ d.v ∧ d.v < 65536
def valL : List U32 → Int
  | [] => 0
  | d :: l => d.v + 65536 * valL l
def pw (n : Nat) : Int := ((65536 ^ n : Nat) : Int)
theorem pw_zero : pw 0 = 1 := rfl
theorem pw_succ (n : Nat) : pw (n + 1) = 65536 * pw n := by unfold pw; rw [Nat.pow_succ, Nat.mul_comm, Int.natCast_mul]; rfl
theorem pw_pos (n : Nat) : 0 < pw n := by unfold pw; exact Int.ofNat_lt.2 (Nat.pow_pos (by decide))
theorem pw_add (m n : Nat) : pw (m + n) = pw m * pw n := by unfold pw; rw [Nat.pow_add, Int.natCast_mul]
theorem pw_le {m n : Nat} (h : m ≤ n) : pw m ≤ pw n := by unfold pw; exact Int.ofNat_le.2 (Nat.pow_le_pow_right (by decide) h)
theorem valL_nil : valL [] = 0 := rfl
theorem valL_cons (d : U32) (l : List U32) : valL (d :: l) = d.v + 65536 * valL l := rfl
theorem Digs.nil : Digs [] := fun d h => by simp at h
theorem Digs.tail {d : U32} {l : List U32} (h : Digs (d :: l)) : Digs l := fun x hx => h x (List.mem_cons_of_mem _ hx)
theorem Digs.head {d : U32} {l : List U32} (h : Digs (d :: l)) : 0 ≤ d.v ∧ d.v < 65536 := h d List.mem_cons_self
theorem Digs.append {l m : List U32} (h : Digs l) (h' : Digs m) : Digs (l ++ m) := fun x hx => by
  rcases List.mem_append.1 hx with h1 | h1
  · exact h x h1
  · exact h' x h1
theorem Digs.one {d : Int} (h : 0 ≤ d ∧ d < 65536) : Digs [⟨d⟩] := fun x hx => by
  have : x = ⟨d⟩ := by simpa using hx
  subst this; exact h
theorem Digs.take {l : List U32} (h : Digs l) (n : Nat) : Digs (l.take n) := fun x hx => h x (List.mem_of_mem_take hx)
theorem Digs.at {l : List U32} (h : Digs l) {m : Int} (hm : 0 ≤ m ∧ m < l.length) : 0 ≤ (l[m.toNat]?.getD default).v ∧ (l[m.toNat]?.getD default).v < 65536 := by
  have hl : m.toNat < l.length := by omega
  rw [List.getElem?_eq_getElem hl]; exact h _ (List.getElem_mem hl)
theorem valL_nonneg : ∀ {l : List U32}, Digs l → 0 ≤ valL l
  | [], _ => Int.le_refl 0
  | d :: l, h => by
    have h1 := valL_nonneg h.tail
    have h2 := h.head
    rw [valL_cons]; omega
theorem valL_lt : ∀ {l : List U32}, Digs l → valL l < pw l.length
  | [], _ => by decide
  | d :: l, h => by
    have h1 := valL_lt h.tail
    have h2 := h.head
    rw [valL_cons, List.length_cons, pw_succ]; omega
theorem valL_append : ∀ (l m : List U32), valL (l ++ m) = valL l + pw l.length * valL m
  | [], m => by rw [List.nil_append, valL_nil, List.length_nil, pw_zero]; omega
  | d :: l, m => by
    rw [List.cons_append, valL_cons, valL_cons, valL_append l m, List.length_cons, pw_succ, Int.mul_add, ← Int.mul_assoc]; omega
theorem valL_one (d : U32) : valL [d] = d.v := by rw [valL_cons, valL_nil]; omega
theorem valL_snoc (l : List U32) (d : U32) : valL (l ++ [d]) = valL l + pw l.length * d.v := by rw [valL_append, valL_one]
theorem valL_take_succ {l : List U32} {k : Nat} (h : k < l.length) : valL (l.take (k + 1)) = valL (l.take k) + pw k * (l[((k : Nat) : Int).toNat]?.getD default).v := by
  rw [List.take_add_one, Int.toNat_natCast, List.getElem?_eq_getElem h]
  simp only [Option.toList_some, Option.getD_some]
  rw [valL_snoc, List.length_take, Nat.min_eq_left (Nat.le_of_lt h)]
theorem take_all {α : Type} {l : List α} {k : Nat} (h : l.length ≤ k) : l.take k = l := List.take_of_length_le h
theorem valL_replicate (n : Nat) : valL (List.replicate n ⟨0⟩) = 0 := by
  induction n with
  | zero => rfl
  | succ n ih => rw [List.replicate_succ, valL_cons, ih]; rfl
theorem Digs.zeros (n : Nat) : Digs (List.replicate n ⟨0⟩) := fun x hx => by
  have := List.eq_of_mem_replicate hx
  subst this; exact ⟨by decide, by decide⟩
/-- noughts at the top count nothing -/
theorem valL_trim {l : List U32} {n : Nat} (h : ∀ j, n ≤ j → j < l.length → (l[j]?.getD default).v = 0) : valL (l.take n) = valL l := by
  rcases Nat.lt_or_ge n l.length with hn | hn
  · have e : l = l.take n ++ l.drop n := (List.take_append_drop n l).symm
    have hz : ∀ (m : List U32), (∀ j, j < m.length → (m[j]?.getD default).v = 0) → valL m = 0 := by
      intro m
      induction m with
      | nil => intro _; rfl
      | cons d m ih =>
        intro h0
        have h1 := h0 0 (by simp)
        simp only [List.getElem?_cons_zero, Option.getD_some] at h1
        rw [valL_cons, h1, ih fun j hj => by have := h0 (j + 1) (by simpa using hj); simpa using this]; rfl
    have h2 : valL (l.drop n) = 0 := hz _ fun j hj => by
      rw [List.getElem?_drop]
      exact h (n + j) (by omega) (by rw [List.length_drop] at hj; omega)
    have h3 : valL l = valL (l.take n ++ l.drop n) := by rw [List.take_append_drop]
    rw [h3, valL_append, h2]; omega
  · rw [take_all hn]
/-- without a nought at the top -/
def Top (l : List U32) : Prop := l = [] ∨ (l[l.length - 1]?.getD default).v ≠ 0
theorem Top.nil : Top [] := .inl rfl
theorem top_ge {l : List U32} (hd : Digs l) (ht : Top l) (h0 : l ≠ []) : pw (l.length - 1) ≤ valL l := by
  have hl : 0 < l.length := List.length_pos_iff.2 h0
  have h1 : (l[l.length - 1]?.getD default).v ≠ 0 := by
    rcases ht with h | h
    · exact absurd h h0
    · exact h
  have h2 := valL_take_succ (l := l) (k := l.length - 1) (by omega)
  rw [Nat.sub_add_cancel hl, take_all (Nat.le_refl _), Int.toNat_natCast] at h2
  have h3 := valL_nonneg (hd.take (l.length - 1))
  have h4 : (1 : Int) ≤ (l[l.length - 1]?.getD default).v := by
    have := hd.at (m := ((l.length - 1 : Nat) : Int)) (by omega)
    rw [Int.toNat_natCast] at this
    omega
  have h5 := Int.mul_le_mul_of_nonneg_left h4 (Int.le_of_lt (pw_pos (l.length - 1)))
  omega
theorem top_len {l : List U32} (hd : Digs l) (ht : Top l) {m : Nat} (h : valL l < pw m) : l.length ≤ m := by
  by_cases h0 : l = []
  · subst h0; exact Nat.zero_le _
  · have h1 := top_ge hd ht h0
    rcases Nat.lt_or_ge m l.length with h2 | h2
    · have h3 := pw_le (show m ≤ l.length - 1 by omega)
      omega
    · exact h2
theorem top_pos {l : List U32} (hd : Digs l) (ht : Top l) (h0 : l ≠ []) : 0 < valL l := Int.lt_of_lt_of_le (pw_pos _) (top_ge hd ht h0)
theorem top_lt_len {l m : List U32} (hl : Digs l) (hm : Digs m) (tm : Top m) (h : l.length < m.length) : valL l < valL m := by
  have h1 := valL_lt hl
  have h2 := top_ge hm tm (fun e => by rw [e] at h; simp at h)
  have h3 := pw_le (show l.length ≤ m.length - 1 by omega)
  omega
/-- sign and digits of a whole number -/
structure IsInt (neg : Bool) (l : List U32) (z : Int) : Prop where
  digs : Digs l
  top : Top l
  sign : l = [] → neg = false
  val : z = if neg = true then -valL l else valL l
theorem IsInt.abs {neg : Bool} {l : List U32} {z : Int} (h : IsInt neg l z) : valL l = z.natAbs := by
  have h1 := valL_nonneg h.digs
  have h2 := h.val
  split at h2 <;> omega
theorem IsInt.neg_iff {neg : Bool} {l : List U32} {z : Int} (h : IsInt neg l z) : neg = decide (z < 0) := by
  have h2 := h.val
  by_cases h0 : l = []
  · have h3 := h.sign h0
    subst h0
    rw [h3] at h2 ⊢
    rw [valL_nil] at h2
    have : ¬ z < 0 := by simp at h2; omega
    simp [this]
  · have h1 := top_pos h.digs h.top h0
    cases neg with
    | true =>
      rw [if_pos rfl] at h2
      have : z < 0 := by omega
      simp [this]
    | false =>
      rw [if_neg (by decide)] at h2
      have : ¬ z < 0 := by omega
      simp [this]
theorem IsInt.zero_iff {neg : Bool} {l : List U32} {z : Int} (h : IsInt neg l z) : l.length = 0 ↔ z = 0 := by
  have h2 := h.val
  constructor
  · intro h0
    have h0 := List.eq_nil_of_length_eq_zero h0
    subst h0
    rw [valL_nil] at h2
    split at h2 <;> omega
  · intro hz
    by_cases h0 : l = []
    · rw [h0]; rfl
    · have h1 := top_pos h.digs h.top h0
      split at h2 <;> omega
theorem IsInt.len {neg : Bool} {l : List U32} {z : Int} (h : IsInt neg l z) {m : Nat} (hz : (z.natAbs : Int) < pw m) : l.length ≤ m := by
  refine top_len h.digs h.top ?_
  rw [h.abs]; exact hz
/-- what a handle stands for -/
def Num (G : Imm) (x : IV) (z : Int) : Prop := ∃ l : List U32, l.length = x.n ∧ x.n ≤ x.c ∧ Arr G x.a l ∧ IsInt x.neg l z
theorem Num.up {G G' : Imm} {x : IV} {z : Int} (h : Num G x z) (hl : G.le G') : Num G' x z := by
  obtain ⟨l, h1, h0, h2, h3⟩ := h
  exact ⟨l, h1, h0, h2.up hl, h3⟩
theorem Num.zero (G : Imm) : Num G ⟨false, none, 0, 0⟩ 0 := ⟨[], rfl, Nat.le_refl _, Arr.nil G, ⟨Digs.nil, Top.nil, fun _ => rfl, rfl⟩⟩
end Go.Sl
set_option maxRecDepth 100000
namespace Go.Sl
open Go
section
variable {P : Program} {B : Bs} {D : List Deferred}
/-- a loop under which more and more is frozen -/
theorem Wc.loopG {ι : Type} {r : Option Nat} {c : Code} {Q : Exit → Act → World → Prop} {e : Env} {H : Hp} {G : Imm} (I : ι → Env × Hp) (g : ι → Imm) (φ : ι → Prop) (μ : ι → Nat) (i0 : ι) (h0 : φ i0) (hg : G = g i0)
    (he : e.sub (I i0).1) (hH : H.sub (I i0).2)
    (hb : ∀ i, φ i → Wc r P c B ⟨(I i).1, D, (I i).2, g i⟩ (Exit.then (Again B (fun i => ⟨(I i).1, D, (I i).2, g i⟩) φ μ (μ i)) Q)) : Wc r P (.loop c) B ⟨e, D, H, G⟩ Q :=
  Wc.loopS (fun i => ⟨(I i).1, D, (I i).2, g i⟩) φ μ i0 h0 (fun _ _ h => by rw [hg] at h; exact h.sub he hH) hb
end
/-- numbers in a row -/
def Nums (G : Imm) (l : List IV) (zs : List Int) : Prop := l.length = zs.length ∧ ∀ i : Nat, i < l.length → Num G (l[i]?.getD default) (zs[i]?.getD 0)
theorem Nums.up {G G' : Imm} {l : List IV} {zs : List Int} (h : Nums G l zs) (hl : G.le G') : Nums G' l zs := ⟨h.1, fun i hi => (h.2 i hi).up hl⟩
theorem Nums.nil (G : Imm) : Nums G [] [] := ⟨rfl, fun i hi => by simp at hi⟩
theorem Nums.at {G : Imm} {l : List IV} {zs : List Int} (h : Nums G l zs) {m : Int} (hm : 0 ≤ m ∧ m < l.length) : Num G (l[m.toNat]?.getD default) (zs[m.toNat]?.getD 0) := h.2 _ (by omega)
theorem Nums.snoc {G : Imm} {l : List IV} {zs : List Int} (h : Nums G l zs) {x : IV} {z : Int} (hx : Num G x z) : Nums G (l ++ [x]) (zs ++ [z]) := by
  refine ⟨by simp [h.1], fun i hi => ?_⟩
  rw [List.length_append, List.length_singleton] at hi
  by_cases hc : i < l.length
  · rw [List.getElem?_append_left hc, List.getElem?_append_left (by rw [← h.1]; exact hc)]
    exact h.2 i hc
  · have e : i = l.length := by omega
    subst e
    rw [List.getElem?_concat_length, h.1, List.getElem?_concat_length]
    exact hx
/-- all smaller than m digits -/
def Below (m : Nat) (zs : List Int) : Prop := ∀ z ∈ zs, (z.natAbs : Int) < pw m
theorem Below.at {m : Nat} {zs : List Int} (h : Below m zs) (i : Nat) : ((zs[i]?.getD 0).natAbs : Int) < pw m := by
  cases hx : zs[i]? with
  | none => exact pw_pos m
  | some z => exact h z (List.mem_of_getElem? hx)
theorem Below.mono {m k : Nat} {zs : List Int} (h : Below m zs) (hk : m ≤ k) : Below k zs := fun z hz => Int.lt_of_lt_of_le (h z hz) (pw_le hk)
end Go.Sl
set_option linter.unusedVariables false
namespace Go.Sl
open Go
def Lims (l : List U32) : Prop := ∀ d ∈ l, 0 ≤ d.v ∧ d.v < 4294967296
def valB : List U32 → Int
  | [] => 0
  | d :: l => d.v + 4294967296 * valB l
def pb (n : Nat) : Int := ((4294967296 ^ n : Nat) : Int)
theorem pb_zero : pb 0 = 1 := rfl
theorem pb_succ (n : Nat) : pb (n + 1) = 4294967296 * pb n := by unfold pb; rw [Nat.pow_succ, Nat.mul_comm, Int.natCast_mul]; rfl
theorem pb_pos (n : Nat) : 0 < pb n := by unfold pb; exact Int.ofNat_lt.2 (Nat.pow_pos (by decide))
theorem pb_le {m n : Nat} (h : m ≤ n) : pb m ≤ pb n := by unfold pb; exact Int.ofNat_le.2 (Nat.pow_le_pow_right (by decide) h)
theorem valB_nil : valB [] = 0 := rfl
theorem valB_cons (d : U32) (l : List U32) : valB (d :: l) = d.v + 4294967296 * valB l := rfl
theorem Lims.nil : Lims [] := fun d h => by simp at h
theorem Lims.tail {d : U32} {l : List U32} (h : Lims (d :: l)) : Lims l := fun x hx => h x (List.mem_cons_of_mem _ hx)
theorem Lims.head {d : U32} {l : List U32} (h : Lims (d :: l)) : 0 ≤ d.v ∧ d.v < 4294967296 := h d List.mem_cons_self
theorem Lims.append {l m : List U32} (h : Lims l) (h' : Lims m) : Lims (l ++ m) := fun x hx => by
  rcases List.mem_append.1 hx with h1 | h1
  · exact h x h1
  · exact h' x h1
theorem Lims.one {d : Int} (h : 0 ≤ d ∧ d < 4294967296) : Lims [⟨d⟩] := fun x hx => by
  have : x = ⟨d⟩ := by simpa using hx
  subst this; exact h
theorem Lims.take {l : List U32} (h : Lims l) (n : Nat) : Lims (l.take n) := fun x hx => h x (List.mem_of_mem_take hx)
theorem Lims.at {l : List U32} (h : Lims l) {m : Int} (hm : 0 ≤ m ∧ m < l.length) : 0 ≤ (l[m.toNat]?.getD default).v ∧ (l[m.toNat]?.getD default).v < 4294967296 := by
  have hl : m.toNat < l.length := by omega
  rw [List.getElem?_eq_getElem hl]; exact h _ (List.getElem_mem hl)
theorem valB_nonneg : ∀ {l : List U32}, Lims l → 0 ≤ valB l
  | [], _ => Int.le_refl 0
  | d :: l, h => by
    have h1 := valB_nonneg h.tail
    have h2 := h.head
    rw [valB_cons]; omega
theorem valB_lt : ∀ {l : List U32}, Lims l → valB l < pb l.length
  | [], _ => by decide
  | d :: l, h => by
    have h1 := valB_lt h.tail
    have h2 := h.head
    rw [valB_cons, List.length_cons, pb_succ]; omega
theorem valB_append : ∀ (l m : List U32), valB (l ++ m) = valB l + pb l.length * valB m
  | [], m => by rw [List.nil_append, valB_nil, List.length_nil, pb_zero]; omega
  | d :: l, m => by
    rw [List.cons_append, valB_cons, valB_cons, valB_append l m, List.length_cons, pb_succ, Int.mul_add, ← Int.mul_assoc]; omega
theorem valB_one (d : U32) : valB [d] = d.v := by rw [valB_cons, valB_nil]; omega
theorem valB_snoc (l : List U32) (d : U32) : valB (l ++ [d]) = valB l + pb l.length * d.v := by rw [valB_append, valB_one]
theorem valB_take_succ {l : List U32} {k : Nat} (h : k < l.length) : valB (l.take (k + 1)) = valB (l.take k) + pb k * (l[((k : Nat) : Int).toNat]?.getD default).v := by
  rw [List.take_add_one, Int.toNat_natCast, List.getElem?_eq_getElem h]
  simp only [Option.toList_some, Option.getD_some]
  rw [valB_snoc, List.length_take, Nat.min_eq_left (Nat.le_of_lt h)]
theorem Lims.zeros (n : Nat) : Lims (List.replicate n ⟨0⟩) := fun x hx => by
  have := List.eq_of_mem_replicate hx
  subst this; exact ⟨by decide, by decide⟩
/-- noughts at the top count nothing -/
theorem valB_trim {l : List U32} {n : Nat} (h : ∀ j, n ≤ j → j < l.length → (l[j]?.getD default).v = 0) : valB (l.take n) = valB l := by
  rcases Nat.lt_or_ge n l.length with hn | hn
  · have e : l = l.take n ++ l.drop n := (List.take_append_drop n l).symm
    have hz : ∀ (m : List U32), (∀ j, j < m.length → (m[j]?.getD default).v = 0) → valB m = 0 := by
      intro m
      induction m with
      | nil => intro _; rfl
      | cons d m ih =>
        intro h0
        have h1 := h0 0 (by simp)
        simp only [List.getElem?_cons_zero, Option.getD_some] at h1
        rw [valB_cons, h1, ih fun j hj => by have := h0 (j + 1) (by simpa using hj); simpa using this]; rfl
    have h2 : valB (l.drop n) = 0 := hz _ fun j hj => by
      rw [List.getElem?_drop]
      exact h (n + j) (by omega) (by rw [List.length_drop] at hj; omega)
    have h3 : valB l = valB (l.take n ++ l.drop n) := by rw [List.take_append_drop]
    rw [h3, valB_append, h2]; omega
  · rw [take_all hn]
theorem ltop_ge {l : List U32} (hd : Lims l) (ht : Top l) (h0 : l ≠ []) : pb (l.length - 1) ≤ valB l := by
  have hl : 0 < l.length := List.length_pos_iff.2 h0
  have h1 : (l[l.length - 1]?.getD default).v ≠ 0 := by
    rcases ht with h | h
    · exact absurd h h0
    · exact h
  have h2 := valB_take_succ (l := l) (k := l.length - 1) (by omega)
  rw [Nat.sub_add_cancel hl, take_all (Nat.le_refl _), Int.toNat_natCast] at h2
  have h3 := valB_nonneg (hd.take (l.length - 1))
  have h4 : (1 : Int) ≤ (l[l.length - 1]?.getD default).v := by
    have := hd.at (m := ((l.length - 1 : Nat) : Int)) (by omega)
    rw [Int.toNat_natCast] at this
    omega
  have h5 := Int.mul_le_mul_of_nonneg_left h4 (Int.le_of_lt (pb_pos (l.length - 1)))
  omega
theorem ltop_len {l : List U32} (hd : Lims l) (ht : Top l) {m : Nat} (h : valB l < pb m) : l.length ≤ m := by
  by_cases h0 : l = []
  · subst h0; exact Nat.zero_le _
  · have h1 := ltop_ge hd ht h0
    rcases Nat.lt_or_ge m l.length with h2 | h2
    · have h3 := pb_le (show m ≤ l.length - 1 by omega)
      omega
    · exact h2
theorem ltop_pos {l : List U32} (hd : Lims l) (ht : Top l) (h0 : l ≠ []) : 0 < valB l := Int.lt_of_lt_of_le (pb_pos _) (ltop_ge hd ht h0)
/-- sign and digits of a whole number -/
structure IsBig (neg : Bool) (l : List U32) (z : Int) : Prop where
  digs : Lims l
  top : Top l
  sign : l = [] → neg = false
  val : z = if neg = true then -valB l else valB l
theorem IsBig.abs {neg : Bool} {l : List U32} {z : Int} (h : IsBig neg l z) : valB l = z.natAbs := by
  have h1 := valB_nonneg h.digs
  have h2 := h.val
  split at h2 <;> omega
theorem IsBig.neg_iff {neg : Bool} {l : List U32} {z : Int} (h : IsBig neg l z) : neg = decide (z < 0) := by
  have h2 := h.val
  by_cases h0 : l = []
  · have h3 := h.sign h0
    subst h0
    rw [h3] at h2 ⊢
    rw [valB_nil] at h2
    have : ¬ z < 0 := by simp at h2; omega
    simp [this]
  · have h1 := ltop_pos h.digs h.top h0
    cases neg with
    | true =>
      rw [if_pos rfl] at h2
      have : z < 0 := by omega
      simp [this]
    | false =>
      rw [if_neg (by decide)] at h2
      have : ¬ z < 0 := by omega
      simp [this]
theorem IsBig.zero_iff {neg : Bool} {l : List U32} {z : Int} (h : IsBig neg l z) : l.length = 0 ↔ z = 0 := by
  have h2 := h.val
  constructor
  · intro h0
    have h0 := List.eq_nil_of_length_eq_zero h0
    subst h0
    rw [valB_nil] at h2
    split at h2 <;> omega
  · intro hz
    by_cases h0 : l = []
    · rw [h0]; rfl
    · have h1 := ltop_pos h.digs h.top h0
      split at h2 <;> omega
theorem IsBig.len {neg : Bool} {l : List U32} {z : Int} (h : IsBig neg l z) {m : Nat} (hz : (z.natAbs : Int) < pb m) : l.length ≤ m := by
  refine ltop_len h.digs h.top ?_
  rw [h.abs]; exact hz
/-- what a handle stands for -/
def Big (G : Imm) (x : IV) (z : Int) : Prop := ∃ l : List U32, l.length = x.n ∧ x.n ≤ x.c ∧ Arr G x.a l ∧ IsBig x.neg l z
theorem Big.up {G G' : Imm} {x : IV} {z : Int} (h : Big G x z) (hl : G.le G') : Big G' x z := by
  obtain ⟨l, h1, h0, h2, h3⟩ := h
  exact ⟨l, h1, h0, h2.up hl, h3⟩
theorem Big.zero (G : Imm) : Big G ⟨false, none, 0, 0⟩ 0 := ⟨[], rfl, Nat.le_refl _, Arr.nil G, ⟨Lims.nil, Top.nil, fun _ => rfl, rfl⟩⟩
end Go.Sl
set_option linter.unusedVariables false
namespace Go.Sl
open Go
/-- so many limbs are left, if the noughts at the top are struck -/
def Trim (l : List U32) (n : Nat) : Prop := n ≤ l.length ∧ (∀ j, n ≤ j → j < l.length → (l[j]?.getD default).v = 0) ∧ (n = 0 ∨ (l[n - 1]?.getD default).v ≠ 0)
theorem Trim.val {l : List U32} {n : Nat} (h : Trim l n) : valB (l.take n) = valB l := valB_trim h.2.1
theorem Trim.top {l : List U32} {n : Nat} (h : Trim l n) : Top (l.take n) := by
  obtain ⟨h1, h2, h3⟩ := h
  rcases h3 with h3 | h3
  · subst h3; exact .inl rfl
  · by_cases h0 : n = 0
    · subst h0; exact .inl rfl
    · refine .inr ?_
      rw [List.length_take, Nat.min_eq_left h1, List.getElem?_take, if_pos (by omega)]
      exact h3
theorem Trim.len {l : List U32} {n : Nat} (h : Trim l n) : (l.take n).length = n := by rw [List.length_take, Nat.min_eq_left h.1]
theorem Trim.pos {l : List U32} {n : Nat} (h : Trim l n) (hd : Lims l) : 0 < n ↔ 0 < valB l := by
  rw [← h.val]
  constructor
  · intro h0
    exact ltop_pos (hd.take n) h.top (fun e => by have := h.len; rw [e] at this; simp at this; omega)
  · intro h0
    rcases Nat.eq_zero_or_pos n with h1 | h1
    · rw [h1, List.take_zero, valB_nil] at h0; omega
    · exact h1
theorem barr_sub {α : Type} [Cells α] {G : Imm} {a : Option Addr} {c sz : Nat} {l : List α} (h : Arr G a l) (n : Nat) : Arr G (subA a c 0 sz) (l.take n) := by
  refine ⟨flat_length _, ?_⟩
  rcases h.2 with h0 | ⟨b, o, rfl, hr⟩
  · left; rw [List.length_take]; omega
  · refine .inr ⟨b, o, ?_, fun i v hi => hr i v ?_⟩
    · unfold subA
      split
      · rfl
      · simp [Addr.add]
    · have e : flat l = flat (l.take n) ++ flat (l.drop n) := by rw [← flat_append, List.take_append_drop]
      rw [e, List.getElem?_append_left (List.getElem?_eq_some_iff.1 hi).1]; exact hi
end Go.Sl
set_option linter.unusedVariables false
namespace Go.Sl
open Go
section
variable {B : Bs} {e : Env} {D : List Deferred} {H : Hp} {G : Imm}
/-- a block under another tag -/
theorem retagH {a : Act} {w : World} (hh : Hold B ⟨e, D, H, G⟩ a w) (t t' : Nat) {k : Option Nat} {o : Obj} (ht : H.get t = some (k, o)) (hn : t ≠ t') (hk : H.get t' = none ∨ True) : Hold B ⟨e, D, (t', k, o) :: (t, none, o) :: H, G⟩ a w := by
  have key : ∀ i b o', Hp.get ((t', k, o) :: (t, none, o) :: H) i = some (some b, o') → (i = t' ∧ H.get t = some (some b, o')) ∨ (i ≠ t' ∧ i ≠ t ∧ H.get i = some (some b, o')) := fun i b o' hx => by
    rw [Hp.get_cons] at hx
    split at hx
    · rename_i hi; left; refine ⟨hi.symm, ?_⟩; rw [ht]; exact hx
    · rename_i hi
      rw [Hp.get_cons] at hx
      split at hx
      · simp at hx
      · rename_i hi2; exact .inr ⟨fun h => hi h.symm, fun h => hi2 h.symm, hx⟩
  refine ⟨hh.size, hh.defers, hh.env, ⟨?_, ?_, hh.mem.imm, ?_⟩, hh.upd, ?_, hh.le, hh.new⟩
  · intro i b o' hx
    rcases key i b o' hx with ⟨_, h⟩ | ⟨_, _, h⟩
    · exact hh.mem.own _ b o' h
    · exact hh.mem.own _ b o' h
  · intro i i' b o1 o2 hx hy
    rcases key i b o1 hx with ⟨h1, h2⟩ | ⟨h1, h1', h2⟩ <;> rcases key i' b o2 hy with ⟨h3, h4⟩ | ⟨h3, h3', h4⟩
    · rw [h1, h3]
    · exact absurd (hh.mem.one _ _ b _ _ h2 h4).symm h3'
    · exact absurd (hh.mem.one _ _ b _ _ h2 h4) h1'
    · exact hh.mem.one _ _ b _ _ h2 h4
  · intro i b o' hx
    rcases key i b o' hx with ⟨_, h⟩ | ⟨_, _, h⟩
    · exact hh.mem.off _ b o' h
    · exact hh.mem.off _ b o' h
  · intro i b o' hx
    rcases key i b o' hx with ⟨_, h⟩ | ⟨_, _, h⟩
    · exact hh.mine _ b o' h
    · exact hh.mine _ b o' h
theorem Ar.retag {x : Exit} {Q : Exit → Act → World → Prop} (t t' : Nat) {k : Option Nat} {o : Obj} (ht : H.get t = some (k, o)) (hn : Nat.beq t t' = false) (h : Ar Q x B ⟨e, D, (t', k, o) :: (t, none, o) :: H, G⟩) : Ar Q x B ⟨e, D, H, G⟩ :=
  fun a w hh => h a w (retagH hh t t' ht (fun e => by subst e; simp at hn) (.inr trivial))
end
end Go.Sl
set_option linter.unusedVariables false
namespace Go.Sl
open Go
section
variable {P : Program} {B : Bs} {e : Env} {D : List Deferred} {H H' : Hp} {G : Imm}
end
/-- two blocks ahead of others -/
abbrev Hp.two (x y : Option Nat × Obj) (T : Hp) : Hp := (0, x) :: (1, y) :: T.shift 2
section
variable {P : Program} {ops : Array Oper} {rest : List Oper} {B : Bs} {e : Env} {D : List Deferred} {H : Hp} {G : Imm} {K : Act → World → Prop}
  {ty : TypeId} {pos : String} {after : Array Edge} {d : Nat}
end
section
variable {P : Program} {B : Bs} {e : Env} {D : List Deferred} {H : Hp} {G : Imm}
theorem Ar.againGT {ι : Type} {I : ι → Env × Hp} {T : ι → Hp} {g : ι → Imm} {k : Nat} {φ : ι → Prop} {μ : ι → Nat} {m : Nat} {Q : Exit → Act → World → Prop} (j : ι) (hφ : φ j) (hμ : μ j < m) (hg : G = g j)
    (he : e.sub (I j).1) (hH : H.sub (I j).2) (ht : H.tl k (T j)) : Ar (Exit.then (Again B (fun i => ⟨(I i).1, D, (I i).2 ++ (T i).shift k, g i⟩) φ μ m) Q) .normal B ⟨e, D, H, G⟩ :=
  fun a w hh => ⟨j, hφ, hμ, by rw [hg] at hh; exact hh.cutT he hH ht⟩
end
section stmt
variable {P : Program} {B : Bs} {e : Env} {D : List Deferred} {H : Hp} {G : Imm}
variable {β γ ι : Type} {Q : Exit → Act → World → Prop} {f : FuncId} {caps : List Value} {enc : β → γ → List Value} {o1 o2 : β → γ → Option Nat × Obj} {good : β → γ → Prop} {xs : List β} {ps : List Nat} {assign body : Code} {g : Operand}
end stmt
section
variable {P : Program} {e : Env} {H : Hp} {G : Imm} {ty : TypeId}
end
end Go.Sl
set_option maxRecDepth 100000
set_option linter.unusedVariables false
namespace Go.Proofs.Ytbppmiimeccclaa
open Go Go.Sl
set_option maxHeartbeats 4000000
/-- what a comparison answers -/
def cmpZ (x y : Int) : Int := if x < y then -1 else if y < x then 1 else 0
theorem cmpZ_lt {x y : Int} (h : x < y) : cmpZ x y = -1 := if_pos h
theorem cmpZ_gt {x y : Int} (h : y < x) : cmpZ x y = 1 := by unfold cmpZ; rw [if_neg (by omega), if_pos h]
theorem cmpZ_eq {x y : Int} (h : x = y) : cmpZ x y = 0 := by unfold cmpZ; rw [if_neg (by omega), if_neg (by omega)]
theorem cmpZ_congr {x y u v : Int} (h1 : x < y ↔ u < v) (h2 : y < x ↔ v < u) : cmpZ x y = cmpZ u v := by unfold cmpZ; simp only [h1, h2]
theorem trim_val {l m : List U32} (he : m = l.take m.length) (ht : Trim l m.length) : valB m = valB l := by rw [he]; exact ht.val
theorem trim_top {l m : List U32} (he : m = l.take m.length) (ht : Trim l m.length) : Top m := by rw [he]; exact ht.top
theorem trim_lims {l m : List U32} (he : m = l.take m.length) (hd : Lims l) : Lims m := by rw [he]; exact hd.take _
attribute [local irreducible] valB pb cmpZ
end Go.Proofs.Ytbppmiimeccclaa
set_option maxRecDepth 100000
set_option linter.unusedVariables false
namespace Go.Proofs.Ytbppmiimeccclaa
open Go Go.Sl
set_option maxHeartbeats 4000000
/-- a list of limbs, none a nought at the top, that stays as it is -/
def Nat32 (G : Imm) (v : Value) (z : Int) (n : Nat) : Prop := ∃ (b : Option Addr) (m : List U32), v = .slice b m.length m.length ∧ Arr G b m ∧ Lims m ∧ Top m ∧ valB m = z ∧ m.length ≤ n
theorem Nat32.of {G : Imm} {b : Option Addr} {l m : List U32} {z : Int} {n : Nat} (h : Arr G b m) (he : m = l.take m.length) (ht : Trim l m.length) (hd : Lims l) (hz : valB l = z) (hn : m.length ≤ n) : Nat32 G (.slice b m.length m.length) z n :=
  ⟨b, m, rfl, h, trim_lims he hd, trim_top he ht, (trim_val he ht).trans hz, hn⟩
attribute [local irreducible] valB pb cmpZ
end Go.Proofs.Ytbppmiimeccclaa
set_option maxRecDepth 100000
set_option linter.unusedVariables false
namespace Go.Proofs.Ytbppmiimeccclaa
open Go Go.Sl
set_option maxHeartbeats 4000000
theorem IsBig.make {neg : Bool} {m : List U32} (hd : Lims m) (ht : Top m) : IsBig (neg && decide (0 < m.length)) m (if neg = true then -valB m else valB m) := by
  refine ⟨hd, ht, fun e => by rw [e]; simp, ?_⟩
  by_cases h : 0 < m.length
  · simp [h]
  · have e : m = [] := List.eq_nil_of_length_eq_zero (by omega)
    rw [e]; simp [valB_nil]
theorem Big.make {G : Imm} {b : Option Addr} {c : Nat} {m : List U32} (neg : Bool) (hA : Arr G b m) (hd : Lims m) (ht : Top m) (hc : m.length ≤ c) {z : Int} (hz : z = if neg = true then -valB m else valB m) : Big G ⟨neg && decide (0 < m.length), b, m.length, c⟩ z :=
  ⟨m, rfl, hc, hA, hz ▸ IsBig.make hd ht⟩
theorem Big.len {G : Imm} {x : IV} {z : Int} (h : Big G x z) {m : Nat} (hz : (z.natAbs : Int) < pb m) : x.n ≤ m := by
  obtain ⟨l, h1, _, _, h4⟩ := h
  rw [← h1]; exact h4.len hz
theorem Big.zero_iff {G : Imm} {x : IV} {z : Int} (h : Big G x z) : x.n = 0 ↔ z = 0 := by
  obtain ⟨l, h1, _, _, h4⟩ := h
  rw [← h1]; exact h4.zero_iff
theorem Big.out {G : Imm} {x : IV} {z z' : Int} (h : Big G x z) (e : z = z') : Big G x z' := e ▸ h
/-- the sign -/
def sgZ (z : Int) : Int := if z = 0 then 0 else if z < 0 then -1 else 1
theorem sgZ_lt {z : Int} (h : z < 0) : sgZ z = -1 := by unfold sgZ; rw [if_neg (by omega), if_pos h]
theorem sgZ_gt {z : Int} (h : 0 < z) : sgZ z = 1 := by unfold sgZ; rw [if_neg (by omega), if_neg (by omega)]
theorem sgZ_eq {z : Int} (h : z = 0) : sgZ z = 0 := by unfold sgZ; rw [if_pos h]
attribute [local irreducible] valB pb cmpZ lstWp
end Go.Proofs.Ytbppmiimeccclaa
set_option maxRecDepth 100000
set_option linter.unusedVariables false
namespace Go.Proofs.Ytbppmiimeccclaa
open Go Go.Sl
set_option maxHeartbeats 4000000
theorem wrap_neg {n : Int} (h : -9223372036854775808 ≤ n ∧ n < 0) : IntKind.u64.wrap (0 - IntKind.u64.wrap n) = -n := by
  rw [IntKind.wrap_u64, IntKind.wrap_u64]; omega
theorem Big.lt {G : Imm} {x : IV} {z : Int} (h : Big G x z) : (z.natAbs : Int) < pb x.n := by
  obtain ⟨l, h1, _, _, h4⟩ := h
  rw [← h4.abs, ← h1]; exact valB_lt h4.digs
attribute [local irreducible] valB pb cmpZ lstWp
end Go.Proofs.Ytbppmiimeccclaa
set_option maxRecDepth 100000
set_option linter.unusedVariables false
namespace Go.Proofs.Ytbppmiimeccclaa
open Go Go.Sl
set_option maxHeartbeats 4000000
theorem sgZ_bd (z : Int) : -1 ≤ sgZ z ∧ sgZ z ≤ 1 := by unfold sgZ; split; exact ⟨by omega, by omega⟩; split <;> exact ⟨by omega, by omega⟩
theorem sgZ_bd9 (z : Int) : -9223372036854775808 ≤ sgZ z ∧ sgZ z ≤ 9223372036854775807 := by have := sgZ_bd z; omega
theorem sgZ_mul (z : Int) : sgZ z * z = z.natAbs := by
  unfold sgZ
  split
  · omega
  · split <;> omega
theorem ediv_of {x y q r : Int} (hy : y ≠ 0) (h : x = q * y + r) (h0 : 0 ≤ r) (h1 : r < y.natAbs) : q = x / y ∧ r = x % y := by
  rcases Int.lt_or_gt_of_ne hy with hn | hp
  · have := (Int.ediv_emod_unique' (a := x) (b := y) (r := r) (q := q) hn).2 ⟨by rw [Int.mul_comm y q]; omega, h0, by omega⟩
    exact ⟨this.1.symm, this.2.symm⟩
  · have := (Int.ediv_emod_unique (a := x) (b := y) (r := r) (q := q) hp).2 ⟨by rw [Int.mul_comm y q]; omega, h0, by omega⟩
    exact ⟨this.1.symm, this.2.symm⟩
theorem dm_plain {n1 n2 : Bool} {x y la lb lq lr : Int} (hx : x = if n1 = true then -la else la) (hy : y = if n2 = true then -lb else lb) (hv : la = lq * lb + lr) :
    x = (if decide (n1 ≠ n2) = true then -lq else lq) * y + (if n1 = true then -lr else lr) := by
  subst hx hy hv
  cases n1 <;> cases n2 <;> simp [Int.neg_mul, Int.mul_neg, Int.neg_add]
theorem dm_next {x y q r : Int} (h : x = q * y + r) : x = (q - sgZ y) * y + (r + y.natAbs) := by
  have := sgZ_mul y
  rw [Int.sub_mul, this]; omega
attribute [local irreducible] valB pb cmpZ lstWp
end Go.Proofs.Ytbppmiimeccclaa
set_option maxRecDepth 100000
set_option linter.unusedVariables false
namespace Go.Proofs.Ytbppmiimeccclaa
open Go Go.Sl
set_option maxHeartbeats 4000000
/-- so many digits are left, if the noughts at the top are struck -/
def TrimTo (l : List U32) (n : Nat) : Prop := n ≤ l.length ∧ (∀ j, n ≤ j → j < l.length → (l[j]?.getD default).v = 0) ∧ (n = 0 ∨ (l[n - 1]?.getD default).v ≠ 0)
theorem arr_sub {α : Type} [Cells α] {G : Imm} {a : Option Addr} {c sz : Nat} {l : List α} (h : Arr G a l) (n : Nat) : Arr G (subA a c 0 sz) (l.take n) := by
  refine ⟨flat_length _, ?_⟩
  rcases h.2 with h0 | ⟨b, o, rfl, hr⟩
  · left; rw [List.length_take]; omega
  · refine .inr ⟨b, o, ?_, fun i v hi => hr i v ?_⟩
    · unfold subA
      split
      · rfl
      · simp [Addr.add]
    · have e : flat l = flat (l.take n) ++ flat (l.drop n) := by rw [← flat_append, List.take_append_drop]
      rw [e, List.getElem?_append_left (List.getElem?_eq_some_iff.1 hi).1]; exact hi
theorem c119 (G : Imm) (neg : Bool) (a : Option Addr) (c : Nat) (l : List U32) (hl : Arr G a l) (hb : l.length ≤ 1099511627776) (hc : l.length ≤ c) :
    Does Try.prog 119 [.bool neg, .slice a l.length c] G [] (fun v G' Ho => ∃ n, v = .agg #[.bool (neg && decide (0 < n)), .slice (subA a c 0 1) n c] ∧ TrimTo l n ∧ G' = G ∧ Ho = []) := by
  refine Does.enter Try.func119 rfl Try.ntmps119 rfl (fun w => ?_)
  refine Wc.seq ?_
  refine Wc.region rfl ?_
  refine Wl.alloc 0 rfl T.zero63 (fun b1 => ?_)
  refine Wl.done ?_
  refine Ar.next ?_
  refine Wc.seq ?_
  refine Wc.region rfl ?_
  refine Wl.q rfl (Qy.move rfl) ?_
  refine Wl.q rfl (Qy.len T.sl59 rfl) ?_
  refine Wl.q rfl (Qy.assign rfl) ?_
  refine Wl.done ?_
  refine Ar.next ?_
  refine Wc.seq ?_
  refine Wc.block ?_
  refine Wc.loop (ι := Nat) (fun n => ([(5, .int .i64 (n : Int)), (4, Go.Value.pointer (Option.some (Go.Addr.mk b1 0 Option.none))), (0, Go.Value.bool neg), (1, Go.Value.slice a (List.length l) c)], [(0, Option.some b1, Go.Obj.cells #[Go.Value.bool Bool.false, Go.Value.slice Option.none 0 0] 63)])) (fun n => n ≤ l.length ∧ (∀ j, n ≤ j → j < l.length → (l[j]?.getD default).v = 0)) (fun n => n) (l.length) (⟨Nat.le_refl _, fun j h1 h2 => absurd h2 (by omega)⟩) ⟨rfl, rfl, rfl, rfl, trivial⟩ ⟨rfl, trivial⟩ (fun n => fun (hk : n ≤ l.length ∧ (∀ j, n ≤ j → j < l.length → (l[j]?.getD default).v = 0)) => ?_)
  obtain ⟨hn, hz⟩ := hk
  refine Wc.seq ?_
  refine Wc.seq ?_
  refine Wc.region rfl ?_
  refine Wl.q rfl (Qy.move rfl) ?_
  refine Wl.q rfl (Qy.gtr rfl rfl) ?_
  refine Wl.q rfl (Qy.move rfl) ?_
  apply Wl.joinAnd 7 10 17 rfl
  intro hg1
  refine Wl.want rfl rfl ?_
  refine Wl.q rfl (Qy.move rfl) ?_
  refine Wl.want rfl rfl ?_
  refine Wl.q rfl (Qy.move rfl) ?_
  refine Wl.want rfl rfl ?_
  refine Wl.q rfl (Qy.sub rfl rfl (by omega)) ?_
  refine Wl.want rfl rfl ?_
  refine Wl.q rfl (Qy.at (α := U32) T.sl59 rfl rfl (by assumption) (by omega)) ?_
  refine Wl.want rfl rfl ?_
  refine Wl.q rfl (Qy.loadG T.one153 rfl (Arr.cell (by assumption) (by omega) 0 rfl rfl)) ?_
  refine Wl.want rfl rfl ?_
  refine Wl.q rfl (Qy.eql rfl rfl) ?_
  refine Wl.q rfl (Qy.pick rfl rfl) ?_
  exact Wl.back 7 0 rfl rfl rfl rfl rfl
  intro hg1
  refine Wl.pass rfl rfl rfl ?_
  refine Wl.pass rfl rfl rfl ?_
  refine Wl.pass rfl rfl rfl ?_
  refine Wl.pass rfl rfl rfl ?_
  refine Wl.pass rfl rfl rfl ?_
  refine Wl.pass rfl rfl rfl ?_
  refine Wl.q rfl (Qy.pick rfl rfl) ?_
  exact Wl.back 7 0 rfl rfl rfl rfl rfl
  refine Wl.done ?_
  refine Ar.next ?_
  refine Wc.cond rfl (fun hc1 => ?_) (fun hc1 => ?_)
  refine Wc.skip ?_
  refine Ar.next ?_
  refine Wc.block ?_
  refine Wc.region rfl ?_
  refine Wl.q rfl (Qy.move rfl) ?_
  refine Wl.q rfl (Qy.sub rfl rfl (by omega)) ?_
  refine Wl.q rfl (Qy.assign rfl) ?_
  refine Wl.done ?_
  refine Ar.outNormal ?_
  rotate_left
  refine Wc.exit ?_
  refine Ar.passExit ?_
  refine Ar.passExit ?_
  refine Ar.here ?_
  refine Ar.next ?_
  refine Wc.seq ?_
  refine Wc.region rfl ?_
  refine Wl.q rfl (Qy.move rfl) ?_
  refine Wl.q rfl (Qy.move rfl) ?_
  refine Wl.casesB 21 rfl (fun hg1 => ?_) (fun hg1 => ?_)
  refine Wl.want rfl rfl ?_
  refine Wl.q rfl (Qy.move rfl) ?_
  refine Wl.want rfl rfl ?_
  refine Wl.q rfl (Qy.gtr rfl rfl) ?_
  refine Wl.q rfl (Qy.pick rfl rfl) ?_
  refine Wl.q rfl (Qy.move rfl) ?_
  refine Wl.q rfl (Qy.move rfl) ?_
  refine Wl.q rfl (Qy.cutH T.sl59 rfl rfl (by omega)) ?_
  refine Wl.q rfl (Qy.build (cs := [_, _]) T.st63 rfl rfl rfl) ?_
  refine Wl.storeAll 0 T.size63 rfl rfl rfl rfl rfl rfl ?_
  refine Wl.done ?_
  refine Ar.next ?_
  refine Wc.ret ?_
  refine Ar.out1 (.inr rfl) (Ho := Hp.only _ []) rfl (.agg 0 rfl rfl T.agg63) (Hp.sub_only _ _) ?_
  rotate_left
  refine Wl.pass rfl rfl rfl ?_
  refine Wl.pass rfl rfl rfl ?_
  refine Wl.q rfl (Qy.pick rfl rfl) ?_
  refine Wl.q rfl (Qy.move rfl) ?_
  refine Wl.q rfl (Qy.move rfl) ?_
  refine Wl.q rfl (Qy.cutH T.sl59 rfl rfl (by omega)) ?_
  refine Wl.q rfl (Qy.build (cs := [_, _]) T.st63 rfl rfl rfl) ?_
  refine Wl.storeAll 0 T.size63 rfl rfl rfl rfl rfl rfl ?_
  refine Wl.done ?_
  refine Ar.next ?_
  refine Wc.ret ?_
  refine Ar.out1 (.inr rfl) (Ho := Hp.only _ []) rfl (.agg 0 rfl rfl T.agg63) (Hp.sub_only _ _) ?_
  rotate_left
  · refine Ar.re 5 rfl (show _ = Value.int .i64 ((n - 1 : Nat) : Int) by congr 1; omega) ?_
    refine Ar.again (n - 1) ?_ ?_ rfl ⟨rfl, rfl, rfl, rfl, trivial⟩ ⟨rfl, trivial⟩
    · refine ⟨by omega, fun j h1 h2 => ?_⟩
      rcases Nat.lt_or_ge j n with h3 | h3
      · have e : j = (((n : Nat) : Int) - 1).toNat := by omega
        rw [e]; exact hc1.2
      · exact hz j h3 h2
    · omega
  · refine ⟨n, ?_, ⟨hn, hz, ?_⟩, rfl, rfl⟩
    · rw [hg1]
      have e : ((0 : Int) < (n : Int)) = (0 < n) := by rw [eq_iff_iff]; omega
      simp only [e, Bool.true_and, Int.toNat_natCast]
    · rcases Nat.eq_zero_or_pos n with h | h
      · exact .inl h
      · refine .inr fun h2 => hc1 ⟨by omega, ?_⟩
        have e : (((n : Nat) : Int) - 1).toNat = n - 1 := by omega
        rw [e]; exact h2
  · refine ⟨n, ?_, ⟨hn, hz, ?_⟩, rfl, rfl⟩
    · rw [hg1]
      simp only [Bool.false_and, Int.toNat_natCast]
    · rcases Nat.eq_zero_or_pos n with h | h
      · exact .inl h
      · refine .inr fun h2 => hc1 ⟨by omega, ?_⟩
        have e : (((n : Nat) : Int) - 1).toNat = n - 1 := by omega
        rw [e]; exact h2
theorem TrimTo.val {l : List U32} {n : Nat} (h : TrimTo l n) : valL (l.take n) = valL l := valL_trim h.2.1
theorem TrimTo.top {l : List U32} {n : Nat} (h : TrimTo l n) : Top (l.take n) := by
  obtain ⟨h1, h2, h3⟩ := h
  rcases h3 with h3 | h3
  · subst h3; exact .inl rfl
  · by_cases h0 : n = 0
    · subst h0; exact .inl rfl
    · refine .inr ?_
      rw [List.length_take, Nat.min_eq_left h1, List.getElem?_take, if_pos (by omega)]
      exact h3
theorem TrimTo.len {l : List U32} {n : Nat} (h : TrimTo l n) : (l.take n).length = n := by rw [List.length_take, Nat.min_eq_left h.1]
theorem TrimTo.isInt {l : List U32} {n : Nat} (h : TrimTo l n) (hd : Digs l) (neg : Bool) : IsInt (neg && decide (0 < n)) (l.take n) (if neg = true then -valL l else valL l) := by
  refine ⟨hd.take n, h.top, fun e => ?_, ?_⟩
  · have hl := h.len
    rw [e] at hl
    have : n = 0 := by simpa using hl.symm
    subst this; simp
  · have hv := h.val
    rw [← hv]
    cases neg with
    | false => simp
    | true =>
      by_cases h0 : n = 0
      · subst h0; simp [valL_nil]
      · have : 0 < n := by omega
        simp [this]
/-- a number that is struck of a row that stays -/
theorem TrimTo.num {G : Imm} {a : Option Addr} {c : Nat} {l : List U32} {n : Nat} (h : TrimTo l n) (hd : Digs l) (hl : Arr G a l) (hc : l.length ≤ c) (neg : Bool) : Num G ⟨neg && decide (0 < n), subA a c 0 1, n, c⟩ (if neg = true then -valL l else valL l) := by
  refine ⟨l.take n, h.len, Nat.le_trans h.1 hc, ?_, h.isInt hd neg⟩
  exact arr_sub hl n
end Go.Proofs.Ytbppmiimeccclaa
set_option maxRecDepth 100000
set_option linter.unusedVariables false
namespace Go.Proofs.Ytbppmiimeccclaa
open Go Go.Sl
set_option maxHeartbeats 4000000
theorem carry (P s : Int) : P * (s % 65536) + 65536 * P * (s / 65536) = P * s := by
  have h := Int.emod_add_mul_ediv s 65536
  have e : 65536 * P * (s / 65536) = P * (65536 * (s / 65536)) := by rw [Int.mul_comm 65536 P, Int.mul_assoc]
  rw [e, ← Int.mul_add, h]
/-- a digit, nought behind the end -/
def dg (l : List U32) (i : Nat) : Int := (l[((i : Nat) : Int).toNat]?.getD default).v
theorem dg_lt {l : List U32} (h : Digs l) {i : Nat} (hi : i < l.length) : 0 ≤ dg l i ∧ dg l i < 65536 := h.at (by omega)
theorem dg_end {l : List U32} {i : Nat} (hi : l.length ≤ i) : dg l i = 0 := by
  unfold dg; rw [Int.toNat_natCast, List.getElem?_eq_none hi]; rfl
theorem val_step (l : List U32) (i : Nat) : valL (l.take (i + 1)) = valL (l.take i) + pw i * dg l i := by
  rcases Nat.lt_or_ge i l.length with h | h
  · exact valL_take_succ h
  · rw [take_all h, take_all (by omega), dg_end h, Int.mul_zero, Int.add_zero]
theorem plus_next {la lb r : List U32} {i : Nat} {cy s : Int} (hri : r.length = i) (hv : valL (la.take i) + valL (lb.take i) = valL r + pw i * cy) (hs : s = cy + dg la i + dg lb i) :
    valL (la.take (i + 1)) + valL (lb.take (i + 1)) = valL (r ++ [⟨s % 65536⟩]) + pw (i + 1) * (s / 65536) := by
  rw [val_step, val_step, valL_snoc, hri, pw_succ]
  have h := carry (pw i) s
  rw [hs, Int.mul_add, Int.mul_add] at h
  rw [← hs] at h
  show _ = valL r + pw i * (s % 65536) + 65536 * pw i * (s / 65536)
  omega
theorem digs_snoc {r : List U32} (h : Digs r) (s : Int) : Digs (r ++ [⟨s % 65536⟩]) := h.append (Digs.one ⟨Int.emod_nonneg _ (by decide), Int.emod_lt_of_pos _ (by decide)⟩)
attribute [local irreducible] valL pw
theorem c188 (G : Imm) (a b : Option Addr) (ca cb : Nat) (la lb : List U32) (ha : Arr G a la) (hb : Arr G b lb) (da : Digs la) (db : Digs lb) (h1 : la.length ≤ 1073741824) (h2 : lb.length ≤ 1073741824) :
    Does Try.prog 188 [.slice a la.length ca, .slice b lb.length cb] G [] (fun v G' Ho => ∃ o c r j, v = .slice o r.length c ∧ OwnA o c r j ∧ Ho = [(0, o.map (·.block), Row 153 r j)] ∧ G' = G ∧ Digs r ∧ valL r = valL la + valL lb ∧ r.length ≤ max la.length lb.length + 1) := by
  refine Does.enter Try.func188 rfl Try.ntmps188 rfl (fun w => ?_)
  refine Wc.nilRow 0 (Row 153 ([] : List U32) []) ?_
  refine Wc.seq ?_
  refine Wc.region rfl ?_
  refine Wl.q rfl (Qy.assign rfl) ?_
  refine Wl.done ?_
  refine Ar.next ?_
  refine Wc.seq ?_
  refine Wc.region rfl ?_
  refine Wl.q rfl (Qy.assign rfl) ?_
  refine Wl.done ?_
  refine Ar.next ?_
  refine Wc.seq ?_
  refine Wc.region rfl ?_
  refine Wl.q rfl (Qy.assign rfl) ?_
  refine Wl.done ?_
  refine Ar.next ?_
  refine Wc.seq ?_
  refine Wc.seq ?_
  refine Wc.region rfl ?_
  refine Wl.q rfl (Qy.assign rfl) ?_
  refine Wl.done ?_
  refine Ar.next ?_
  refine Wc.block ?_
  refine Wc.loop (ι := Nat × Int × List U32 × (Option Addr × Nat × List Value)) (fun (i, cy, r, (o, d, j)) => ([(7, .int .i64 (i : Int)), (6, .int .u32 cy), (5, .slice o r.length d), (4, Go.Value.slice Option.none 0 0), (0, Go.Value.slice a (List.length la) ca), (1, Go.Value.slice b (List.length lb) cb)], [(0, o.map (·.block), Row 153 r j)])) (fun (i, cy, r, (o, d, j)) => r.length = i ∧ (i ≤ max la.length lb.length ∨ (i ≤ max la.length lb.length + 1 ∧ cy = 0)) ∧ 0 ≤ cy ∧ cy ≤ 1 ∧ Digs r ∧ valL (la.take i) + valL (lb.take i) = valL r + pw i * cy ∧ OwnA o d r j) (fun (i, cy, r, (o, d, j)) => 2 * (max la.length lb.length - i) + cy.toNat) ((0, 0, [], (none, 0, []))) (⟨rfl, .inl (Nat.zero_le _), by decide, by decide, Digs.nil, by rw [List.take_zero, List.take_zero, Int.mul_zero, Int.add_zero, valL_nil]; rfl, OwnA.nil⟩) ⟨rfl, rfl, rfl, rfl, rfl, rfl, trivial⟩ ⟨rfl, trivial⟩ (fun ⟨i, cy, r, (o, d, j)⟩ => fun (hk : r.length = i ∧ (i ≤ max la.length lb.length ∨ (i ≤ max la.length lb.length + 1 ∧ cy = 0)) ∧ 0 ≤ cy ∧ cy ≤ 1 ∧ Digs r ∧ valL (la.take i) + valL (lb.take i) = valL r + pw i * cy ∧ OwnA o d r j) => ?_)
  obtain ⟨hri, hiM, hc0, hc1, hdr, hv, hob⟩ := hk
  rcases Nat.lt_or_ge i la.length with hia | hia
  · have da1 : 0 ≤ (la[((i : Nat) : Int).toNat]?.getD default).v ∧ (la[((i : Nat) : Int).toNat]?.getD default).v < 65536 := dg_lt da hia
    rcases Nat.lt_or_ge i lb.length with hib | hib
    · have db1 : 0 ≤ (lb[((i : Nat) : Int).toNat]?.getD default).v ∧ (lb[((i : Nat) : Int).toNat]?.getD default).v < 65536 := dg_lt db hib
      refine Wc.seq ?_
      refine Wc.seq ?_
      refine Wc.region rfl ?_
      refine Wl.q rfl (Qy.move rfl) ?_
      refine Wl.q rfl (Qy.move rfl) ?_
      refine Wl.q rfl (Qy.len T.sl59 rfl) ?_
      refine Wl.q rfl (Qy.lss rfl rfl) ?_
      refine Wl.q rfl (Qy.move rfl) ?_
      refine Wl.yes 12 rfl (by first | assumption | omega) ?_
      refine Wl.pass rfl rfl rfl ?_
      refine Wl.pass rfl rfl rfl ?_
      refine Wl.pass rfl rfl rfl ?_
      refine Wl.pass rfl rfl rfl ?_
      refine Wl.q rfl (Qy.pick rfl rfl) ?_
      refine Wl.q rfl (Qy.move rfl) ?_
      refine Wl.pass rfl rfl rfl ?_
      refine Wl.pass rfl rfl rfl ?_
      refine Wl.q rfl (Qy.pick rfl rfl) ?_
      refine Wl.done ?_
      refine Ar.next ?_
      refine Wc.condT rfl ?_
      refine Wc.skip ?_
      refine Ar.next ?_
      refine Wc.seq ?_
      refine Wc.block ?_
      refine Wc.seq ?_
      refine Wc.seq ?_
      refine Wc.region rfl ?_
      refine Wl.q rfl (Qy.move rfl) ?_
      refine Wl.q rfl (Qy.move rfl) ?_
      refine Wl.q rfl (Qy.len T.sl59 rfl) ?_
      refine Wl.q rfl (Qy.lss rfl rfl) ?_
      refine Wl.done ?_
      refine Ar.next ?_
      refine Wc.condP rfl (by first | assumption | omega) ?_
      refine Wc.region rfl ?_
      refine Wl.q rfl (Qy.move rfl) ?_
      refine Wl.q rfl (Qy.move rfl) ?_
      refine Wl.q rfl (Qy.move rfl) ?_
      refine Wl.q rfl (Qy.at (α := U32) T.sl59 rfl rfl (by assumption) (by omega)) ?_
      refine Wl.q rfl (Qy.loadG T.one153 rfl (Arr.cell (by assumption) (by omega) 0 rfl rfl)) ?_
      refine Wl.q rfl (Qy.uadd32 rfl rfl (by omega)) ?_
      refine Wl.q rfl (Qy.assign rfl) ?_
      refine Wl.done ?_
      refine Ar.next ?_
      refine Wc.seq ?_
      refine Wc.seq ?_
      refine Wc.region rfl ?_
      refine Wl.q rfl (Qy.move rfl) ?_
      refine Wl.q rfl (Qy.move rfl) ?_
      refine Wl.q rfl (Qy.len T.sl59 rfl) ?_
      refine Wl.q rfl (Qy.lss rfl rfl) ?_
      refine Wl.done ?_
      refine Ar.next ?_
      refine Wc.condP rfl (by first | assumption | omega) ?_
      refine Wc.region rfl ?_
      refine Wl.q rfl (Qy.move rfl) ?_
      refine Wl.q rfl (Qy.move rfl) ?_
      refine Wl.q rfl (Qy.move rfl) ?_
      refine Wl.q rfl (Qy.at (α := U32) T.sl59 rfl rfl (by assumption) (by omega)) ?_
      refine Wl.q rfl (Qy.loadG T.one153 rfl (Arr.cell (by assumption) (by omega) 0 rfl rfl)) ?_
      refine Wl.q rfl (Qy.uadd32 rfl rfl (by omega)) ?_
      refine Wl.q rfl (Qy.assign rfl) ?_
      refine Wl.done ?_
      refine Ar.next ?_
      refine Wc.seq ?_
      refine Wc.region rfl ?_
      refine Wl.q rfl (Qy.move rfl) ?_
      refine Wl.q rfl (Qy.move rfl) ?_
      refine Wl.q rfl (Qy.urem rfl rfl (by omega)) ?_
      refine Wl.lit (α := U32) 1 [⟨(cy + Go.Sl.U32.v (Option.getD la[Int.toNat (↑i : Int)]? Inhabited.default) + Go.Sl.U32.v (Option.getD lb[Int.toNat (↑i : Int)]? Inhabited.default)) % 65536⟩] rfl T.sl59 T.el153 rfl rfl rfl rfl rfl (fun b1 => ?_)
      refine Wl.append (α := U32) 0 rfl T.sl59 T.el153 rfl rfl rfl (by first | assumption | exact OwnA.nil | exact OwnA.made (by simp)) (Src.row 1 rfl) (by first | omega | (simp only [List.length_append, List.length_cons, List.length_nil, maxLen]; omega)) (by first | omega | (simp only [List.length_append, List.length_cons, List.length_nil, maxLen]; omega)) (fun a1 c1 junk1 ho1 => ?_)
      refine Wl.q rfl (Qy.assign rfl) ?_
      refine Wl.done ?_
      refine Ar.next ?_
      refine Wc.region rfl ?_
      refine Wl.q rfl (Qy.move rfl) ?_
      refine Wl.q rfl (Qy.uquo32 rfl rfl (by omega)) ?_
      refine Wl.q rfl (Qy.assign rfl) ?_
      refine Wl.done ?_
      refine Ar.outNormal ?_
      refine Ar.next ?_
      refine Wc.region rfl ?_
      refine Wl.q rfl (Qy.move rfl) ?_
      refine Wl.q rfl (Qy.add rfl rfl (by omega)) ?_
      refine Wl.q rfl (Qy.assign rfl) ?_
      refine Wl.done ?_
      refine Ar.again ((i + 1, (cy + (la[((i : Nat) : Int).toNat]?.getD default).v + (lb[((i : Nat) : Int).toNat]?.getD default).v) / 65536, _, (a1, c1, junk1))) ?_ ?_ rfl ⟨rfl, rfl, rfl, rfl, rfl, rfl, trivial⟩ ⟨rfl, trivial⟩
      · exact ⟨by rw [List.length_append, hri]; rfl, by omega, by omega, by omega, digs_snoc hdr _, plus_next hri hv (by rfl), ho1⟩
      · show 2 * (max la.length lb.length - (i + 1)) + ((cy + (la[((i : Nat) : Int).toNat]?.getD default).v + (lb[((i : Nat) : Int).toNat]?.getD default).v) / 65536).toNat < 2 * (max la.length lb.length - i) + cy.toNat
        omega
    · have z := dg_end hib
      refine Wc.seq ?_
      refine Wc.seq ?_
      refine Wc.region rfl ?_
      refine Wl.q rfl (Qy.move rfl) ?_
      refine Wl.q rfl (Qy.move rfl) ?_
      refine Wl.q rfl (Qy.len T.sl59 rfl) ?_
      refine Wl.q rfl (Qy.lss rfl rfl) ?_
      refine Wl.q rfl (Qy.move rfl) ?_
      refine Wl.yes 12 rfl (by first | assumption | omega) ?_
      refine Wl.pass rfl rfl rfl ?_
      refine Wl.pass rfl rfl rfl ?_
      refine Wl.pass rfl rfl rfl ?_
      refine Wl.pass rfl rfl rfl ?_
      refine Wl.q rfl (Qy.pick rfl rfl) ?_
      refine Wl.q rfl (Qy.move rfl) ?_
      refine Wl.pass rfl rfl rfl ?_
      refine Wl.pass rfl rfl rfl ?_
      refine Wl.q rfl (Qy.pick rfl rfl) ?_
      refine Wl.done ?_
      refine Ar.next ?_
      refine Wc.condT rfl ?_
      refine Wc.skip ?_
      refine Ar.next ?_
      refine Wc.seq ?_
      refine Wc.block ?_
      refine Wc.seq ?_
      refine Wc.seq ?_
      refine Wc.region rfl ?_
      refine Wl.q rfl (Qy.move rfl) ?_
      refine Wl.q rfl (Qy.move rfl) ?_
      refine Wl.q rfl (Qy.len T.sl59 rfl) ?_
      refine Wl.q rfl (Qy.lss rfl rfl) ?_
      refine Wl.done ?_
      refine Ar.next ?_
      refine Wc.condP rfl (by first | assumption | omega) ?_
      refine Wc.region rfl ?_
      refine Wl.q rfl (Qy.move rfl) ?_
      refine Wl.q rfl (Qy.move rfl) ?_
      refine Wl.q rfl (Qy.move rfl) ?_
      refine Wl.q rfl (Qy.at (α := U32) T.sl59 rfl rfl (by assumption) (by omega)) ?_
      refine Wl.q rfl (Qy.loadG T.one153 rfl (Arr.cell (by assumption) (by omega) 0 rfl rfl)) ?_
      refine Wl.q rfl (Qy.uadd32 rfl rfl (by omega)) ?_
      refine Wl.q rfl (Qy.assign rfl) ?_
      refine Wl.done ?_
      refine Ar.next ?_
      refine Wc.seq ?_
      refine Wc.seq ?_
      refine Wc.region rfl ?_
      refine Wl.q rfl (Qy.move rfl) ?_
      refine Wl.q rfl (Qy.move rfl) ?_
      refine Wl.q rfl (Qy.len T.sl59 rfl) ?_
      refine Wl.q rfl (Qy.lss rfl rfl) ?_
      refine Wl.done ?_
      refine Ar.next ?_
      refine Wc.condN rfl (by first | assumption | omega) ?_
      refine Wc.skip ?_
      refine Ar.next ?_
      refine Wc.seq ?_
      refine Wc.region rfl ?_
      refine Wl.q rfl (Qy.move rfl) ?_
      refine Wl.q rfl (Qy.move rfl) ?_
      refine Wl.q rfl (Qy.urem rfl rfl (by omega)) ?_
      refine Wl.lit (α := U32) 1 [⟨(cy + Go.Sl.U32.v (Option.getD la[Int.toNat (↑i : Int)]? Inhabited.default)) % 65536⟩] rfl T.sl59 T.el153 rfl rfl rfl rfl rfl (fun b1 => ?_)
      refine Wl.append (α := U32) 0 rfl T.sl59 T.el153 rfl rfl rfl (by first | assumption | exact OwnA.nil | exact OwnA.made (by simp)) (Src.row 1 rfl) (by first | omega | (simp only [List.length_append, List.length_cons, List.length_nil, maxLen]; omega)) (by first | omega | (simp only [List.length_append, List.length_cons, List.length_nil, maxLen]; omega)) (fun a1 c1 junk1 ho1 => ?_)
      refine Wl.q rfl (Qy.assign rfl) ?_
      refine Wl.done ?_
      refine Ar.next ?_
      refine Wc.region rfl ?_
      refine Wl.q rfl (Qy.move rfl) ?_
      refine Wl.q rfl (Qy.uquo32 rfl rfl (by omega)) ?_
      refine Wl.q rfl (Qy.assign rfl) ?_
      refine Wl.done ?_
      refine Ar.outNormal ?_
      refine Ar.next ?_
      refine Wc.region rfl ?_
      refine Wl.q rfl (Qy.move rfl) ?_
      refine Wl.q rfl (Qy.add rfl rfl (by omega)) ?_
      refine Wl.q rfl (Qy.assign rfl) ?_
      refine Wl.done ?_
      refine Ar.again ((i + 1, (cy + (la[((i : Nat) : Int).toNat]?.getD default).v) / 65536, _, (a1, c1, junk1))) ?_ ?_ rfl ⟨rfl, rfl, rfl, rfl, rfl, rfl, trivial⟩ ⟨rfl, trivial⟩
      · exact ⟨by rw [List.length_append, hri]; rfl, by omega, by omega, by omega, digs_snoc hdr _, plus_next hri hv (by rw [z, Int.add_zero]; rfl), ho1⟩
      · show 2 * (max la.length lb.length - (i + 1)) + ((cy + (la[((i : Nat) : Int).toNat]?.getD default).v) / 65536).toNat < 2 * (max la.length lb.length - i) + cy.toNat
        omega
  · have z := dg_end hia
    rcases Nat.lt_or_ge i lb.length with hib | hib
    · have db1 : 0 ≤ (lb[((i : Nat) : Int).toNat]?.getD default).v ∧ (lb[((i : Nat) : Int).toNat]?.getD default).v < 65536 := dg_lt db hib
      refine Wc.seq ?_
      refine Wc.seq ?_
      refine Wc.region rfl ?_
      refine Wl.q rfl (Qy.move rfl) ?_
      refine Wl.q rfl (Qy.move rfl) ?_
      refine Wl.q rfl (Qy.len T.sl59 rfl) ?_
      refine Wl.q rfl (Qy.lss rfl rfl) ?_
      refine Wl.q rfl (Qy.move rfl) ?_
      refine Wl.no 12 rfl (by first | assumption | omega) ?_
      refine Wl.want rfl rfl ?_
      refine Wl.q rfl (Qy.move rfl) ?_
      refine Wl.want rfl rfl ?_
      refine Wl.q rfl (Qy.move rfl) ?_
      refine Wl.want rfl rfl ?_
      refine Wl.q rfl (Qy.len T.sl59 rfl) ?_
      refine Wl.want rfl rfl ?_
      refine Wl.q rfl (Qy.lss rfl rfl) ?_
      refine Wl.q rfl (Qy.pick rfl rfl) ?_
      refine Wl.q rfl (Qy.move rfl) ?_
      refine Wl.yes 18 rfl (by first | assumption | omega) ?_
      refine Wl.pass rfl rfl rfl ?_
      refine Wl.pass rfl rfl rfl ?_
      refine Wl.q rfl (Qy.pick rfl rfl) ?_
      refine Wl.done ?_
      refine Ar.next ?_
      refine Wc.condT rfl ?_
      refine Wc.skip ?_
      refine Ar.next ?_
      refine Wc.seq ?_
      refine Wc.block ?_
      refine Wc.seq ?_
      refine Wc.seq ?_
      refine Wc.region rfl ?_
      refine Wl.q rfl (Qy.move rfl) ?_
      refine Wl.q rfl (Qy.move rfl) ?_
      refine Wl.q rfl (Qy.len T.sl59 rfl) ?_
      refine Wl.q rfl (Qy.lss rfl rfl) ?_
      refine Wl.done ?_
      refine Ar.next ?_
      refine Wc.condN rfl (by first | assumption | omega) ?_
      refine Wc.skip ?_
      refine Ar.next ?_
      refine Wc.seq ?_
      refine Wc.seq ?_
      refine Wc.region rfl ?_
      refine Wl.q rfl (Qy.move rfl) ?_
      refine Wl.q rfl (Qy.move rfl) ?_
      refine Wl.q rfl (Qy.len T.sl59 rfl) ?_
      refine Wl.q rfl (Qy.lss rfl rfl) ?_
      refine Wl.done ?_
      refine Ar.next ?_
      refine Wc.condP rfl (by first | assumption | omega) ?_
      refine Wc.region rfl ?_
      refine Wl.q rfl (Qy.move rfl) ?_
      refine Wl.q rfl (Qy.move rfl) ?_
      refine Wl.q rfl (Qy.move rfl) ?_
      refine Wl.q rfl (Qy.at (α := U32) T.sl59 rfl rfl (by assumption) (by omega)) ?_
      refine Wl.q rfl (Qy.loadG T.one153 rfl (Arr.cell (by assumption) (by omega) 0 rfl rfl)) ?_
      refine Wl.q rfl (Qy.uadd32 rfl rfl (by omega)) ?_
      refine Wl.q rfl (Qy.assign rfl) ?_
      refine Wl.done ?_
      refine Ar.next ?_
      refine Wc.seq ?_
      refine Wc.region rfl ?_
      refine Wl.q rfl (Qy.move rfl) ?_
      refine Wl.q rfl (Qy.move rfl) ?_
      refine Wl.q rfl (Qy.urem rfl rfl (by omega)) ?_
      refine Wl.lit (α := U32) 1 [⟨(cy + Go.Sl.U32.v (Option.getD lb[Int.toNat (↑i : Int)]? Inhabited.default)) % 65536⟩] rfl T.sl59 T.el153 rfl rfl rfl rfl rfl (fun b1 => ?_)
      refine Wl.append (α := U32) 0 rfl T.sl59 T.el153 rfl rfl rfl (by first | assumption | exact OwnA.nil | exact OwnA.made (by simp)) (Src.row 1 rfl) (by first | omega | (simp only [List.length_append, List.length_cons, List.length_nil, maxLen]; omega)) (by first | omega | (simp only [List.length_append, List.length_cons, List.length_nil, maxLen]; omega)) (fun a1 c1 junk1 ho1 => ?_)
      refine Wl.q rfl (Qy.assign rfl) ?_
      refine Wl.done ?_
      refine Ar.next ?_
      refine Wc.region rfl ?_
      refine Wl.q rfl (Qy.move rfl) ?_
      refine Wl.q rfl (Qy.uquo32 rfl rfl (by omega)) ?_
      refine Wl.q rfl (Qy.assign rfl) ?_
      refine Wl.done ?_
      refine Ar.outNormal ?_
      refine Ar.next ?_
      refine Wc.region rfl ?_
      refine Wl.q rfl (Qy.move rfl) ?_
      refine Wl.q rfl (Qy.add rfl rfl (by omega)) ?_
      refine Wl.q rfl (Qy.assign rfl) ?_
      refine Wl.done ?_
      refine Ar.again ((i + 1, (cy + (lb[((i : Nat) : Int).toNat]?.getD default).v) / 65536, _, (a1, c1, junk1))) ?_ ?_ rfl ⟨rfl, rfl, rfl, rfl, rfl, rfl, trivial⟩ ⟨rfl, trivial⟩
      · exact ⟨by rw [List.length_append, hri]; rfl, by omega, by omega, by omega, digs_snoc hdr _, plus_next hri hv (by rw [z, Int.add_zero]; rfl), ho1⟩
      · show 2 * (max la.length lb.length - (i + 1)) + ((cy + (lb[((i : Nat) : Int).toNat]?.getD default).v) / 65536).toNat < 2 * (max la.length lb.length - i) + cy.toNat
        omega
    · have z2 := dg_end hib
      by_cases hcy : 0 < cy
      · refine Wc.seq ?_
        refine Wc.seq ?_
        refine Wc.region rfl ?_
        refine Wl.q rfl (Qy.move rfl) ?_
        refine Wl.q rfl (Qy.move rfl) ?_
        refine Wl.q rfl (Qy.len T.sl59 rfl) ?_
        refine Wl.q rfl (Qy.lss rfl rfl) ?_
        refine Wl.q rfl (Qy.move rfl) ?_
        refine Wl.no 12 rfl (by first | assumption | omega) ?_
        refine Wl.want rfl rfl ?_
        refine Wl.q rfl (Qy.move rfl) ?_
        refine Wl.want rfl rfl ?_
        refine Wl.q rfl (Qy.move rfl) ?_
        refine Wl.want rfl rfl ?_
        refine Wl.q rfl (Qy.len T.sl59 rfl) ?_
        refine Wl.want rfl rfl ?_
        refine Wl.q rfl (Qy.lss rfl rfl) ?_
        refine Wl.q rfl (Qy.pick rfl rfl) ?_
        refine Wl.q rfl (Qy.move rfl) ?_
        refine Wl.no 18 rfl (by first | assumption | omega) ?_
        refine Wl.want rfl rfl ?_
        refine Wl.q rfl (Qy.move rfl) ?_
        refine Wl.want rfl rfl ?_
        refine Wl.q rfl (Qy.gtr rfl rfl) ?_
        refine Wl.q rfl (Qy.pick rfl rfl) ?_
        refine Wl.done ?_
        refine Ar.next ?_
        refine Wc.condP rfl (by first | assumption | omega) ?_
        refine Wc.skip ?_
        refine Ar.next ?_
        refine Wc.seq ?_
        refine Wc.block ?_
        refine Wc.seq ?_
        refine Wc.seq ?_
        refine Wc.region rfl ?_
        refine Wl.q rfl (Qy.move rfl) ?_
        refine Wl.q rfl (Qy.move rfl) ?_
        refine Wl.q rfl (Qy.len T.sl59 rfl) ?_
        refine Wl.q rfl (Qy.lss rfl rfl) ?_
        refine Wl.done ?_
        refine Ar.next ?_
        refine Wc.condN rfl (by first | assumption | omega) ?_
        refine Wc.skip ?_
        refine Ar.next ?_
        refine Wc.seq ?_
        refine Wc.seq ?_
        refine Wc.region rfl ?_
        refine Wl.q rfl (Qy.move rfl) ?_
        refine Wl.q rfl (Qy.move rfl) ?_
        refine Wl.q rfl (Qy.len T.sl59 rfl) ?_
        refine Wl.q rfl (Qy.lss rfl rfl) ?_
        refine Wl.done ?_
        refine Ar.next ?_
        refine Wc.condN rfl (by first | assumption | omega) ?_
        refine Wc.skip ?_
        refine Ar.next ?_
        refine Wc.seq ?_
        refine Wc.region rfl ?_
        refine Wl.q rfl (Qy.move rfl) ?_
        refine Wl.q rfl (Qy.move rfl) ?_
        refine Wl.q rfl (Qy.urem rfl rfl (by omega)) ?_
        refine Wl.lit (α := U32) 1 [⟨cy % 65536⟩] rfl T.sl59 T.el153 rfl rfl rfl rfl rfl (fun b1 => ?_)
        refine Wl.append (α := U32) 0 rfl T.sl59 T.el153 rfl rfl rfl (by first | assumption | exact OwnA.nil | exact OwnA.made (by simp)) (Src.row 1 rfl) (by first | omega | (simp only [List.length_append, List.length_cons, List.length_nil, maxLen]; omega)) (by first | omega | (simp only [List.length_append, List.length_cons, List.length_nil, maxLen]; omega)) (fun a1 c1 junk1 ho1 => ?_)
        refine Wl.q rfl (Qy.assign rfl) ?_
        refine Wl.done ?_
        refine Ar.next ?_
        refine Wc.region rfl ?_
        refine Wl.q rfl (Qy.move rfl) ?_
        refine Wl.q rfl (Qy.uquo32 rfl rfl (by omega)) ?_
        refine Wl.q rfl (Qy.assign rfl) ?_
        refine Wl.done ?_
        refine Ar.outNormal ?_
        refine Ar.next ?_
        refine Wc.region rfl ?_
        refine Wl.q rfl (Qy.move rfl) ?_
        refine Wl.q rfl (Qy.add rfl rfl (by omega)) ?_
        refine Wl.q rfl (Qy.assign rfl) ?_
        refine Wl.done ?_
        refine Ar.again ((i + 1, (cy) / 65536, _, (a1, c1, junk1))) ?_ ?_ rfl ⟨rfl, rfl, rfl, rfl, rfl, rfl, trivial⟩ ⟨rfl, trivial⟩
        · exact ⟨by rw [List.length_append, hri]; rfl, by omega, by omega, by omega, digs_snoc hdr _, plus_next hri hv (by rw [z, z2]; omega), ho1⟩
        · show 2 * (max la.length lb.length - (i + 1)) + ((cy) / 65536).toNat < 2 * (max la.length lb.length - i) + cy.toNat
          omega
      · have e0 : cy = 0 := by omega
        subst e0
        rw [take_all hia, take_all hib, Int.mul_zero, Int.add_zero] at hv
        refine Wc.seq ?_
        refine Wc.seq ?_
        refine Wc.region rfl ?_
        refine Wl.q rfl (Qy.move rfl) ?_
        refine Wl.q rfl (Qy.move rfl) ?_
        refine Wl.q rfl (Qy.len T.sl59 rfl) ?_
        refine Wl.q rfl (Qy.lss rfl rfl) ?_
        refine Wl.q rfl (Qy.move rfl) ?_
        refine Wl.no 12 rfl (by first | assumption | omega) ?_
        refine Wl.want rfl rfl ?_
        refine Wl.q rfl (Qy.move rfl) ?_
        refine Wl.want rfl rfl ?_
        refine Wl.q rfl (Qy.move rfl) ?_
        refine Wl.want rfl rfl ?_
        refine Wl.q rfl (Qy.len T.sl59 rfl) ?_
        refine Wl.want rfl rfl ?_
        refine Wl.q rfl (Qy.lss rfl rfl) ?_
        refine Wl.q rfl (Qy.pick rfl rfl) ?_
        refine Wl.q rfl (Qy.move rfl) ?_
        refine Wl.no 18 rfl (by first | assumption | omega) ?_
        refine Wl.want rfl rfl ?_
        refine Wl.q rfl (Qy.move rfl) ?_
        refine Wl.want rfl rfl ?_
        refine Wl.q rfl (Qy.gtr rfl rfl) ?_
        refine Wl.q rfl (Qy.pick rfl rfl) ?_
        refine Wl.done ?_
        refine Ar.next ?_
        refine Wc.condN rfl (by first | assumption | omega) ?_
        refine Wc.exit ?_
        refine Ar.passExit ?_
        refine Ar.passExit ?_
        refine Ar.here ?_
        refine Ar.next ?_
        refine Wc.seq ?_
        refine Wc.region rfl ?_
        refine Wl.q rfl (Qy.move rfl) ?_
        refine Wl.q rfl (Qy.assign rfl) ?_
        refine Wl.done ?_
        refine Ar.next ?_
        refine Wc.ret ?_
        refine Ar.out1 (.inr rfl) (Ho := Hp.only _ [0]) rfl (.tmp rfl) (Hp.sub_only _ _) ?_
        exact ⟨_, _, _, _, rfl, hob, rfl, rfl, hdr, hv.symm, by omega⟩
theorem minus_next {la lb r : List U32} {i : Nat} {cy cy' s : Int} (hri : r.length = i) (hv : valL (la.take i) - valL (lb.take i) = valL r - pw i * cy) (hs : s = dg la i - dg lb i - cy + 65536 * cy') :
    valL (la.take (i + 1)) - valL (lb.take (i + 1)) = valL (r ++ [⟨s⟩]) - pw (i + 1) * cy' := by
  rw [val_step, val_step, valL_snoc, hri, pw_succ]
  have h : pw i * s = pw i * dg la i - pw i * dg lb i - pw i * cy + 65536 * pw i * cy' := by
    rw [hs, Int.mul_add, Int.mul_sub, Int.mul_sub, ← Int.mul_assoc, Int.mul_comm (pw i) 65536]
  show _ = valL r + pw i * s - 65536 * pw i * cy'
  omega
theorem minus_end {la lb r : List U32} {n : Nat} {cy : Int} (hn : n = la.length) (hb : lb.length ≤ la.length) (hle : valL lb ≤ valL la) (hri : r.length = n) (hd : Digs r) (hc : 0 ≤ cy ∧ cy ≤ 1) (hv : valL (la.take n) - valL (lb.take n) = valL r - pw n * cy) : valL r = valL la - valL lb := by
  rw [take_all (by omega), take_all (by omega)] at hv
  have h := valL_lt hd
  rw [hri] at h
  have hcy : cy = 0 := by
    rcases (show cy = 0 ∨ cy = 1 by omega) with h1 | h1
    · exact h1
    · rw [h1, Int.mul_one] at hv; omega
  rw [hcy, Int.mul_zero] at hv
  omega
theorem c189 (G : Imm) (a b : Option Addr) (ca cb : Nat) (la lb : List U32) (ha : Arr G a la) (hb : Arr G b lb) (da : Digs la) (db : Digs lb) (h1 : la.length ≤ 1073741824) (h2 : lb.length ≤ la.length) (hle : valL lb ≤ valL la) :
    Does Try.prog 189 [.slice a la.length ca, .slice b lb.length cb] G [] (fun v G' Ho => ∃ o c r j, v = .slice o r.length c ∧ OwnA o c r j ∧ Ho = [(0, o.map (·.block), Row 153 r j)] ∧ G' = G ∧ Digs r ∧ valL r = valL la - valL lb ∧ r.length = la.length) := by
  refine Does.enter Try.func189 rfl Try.ntmps189 rfl (fun w => ?_)
  refine Wc.nilRow 0 (Row 153 ([] : List U32) []) ?_
  refine Wc.seq ?_
  refine Wc.region rfl ?_
  refine Wl.q rfl (Qy.assign rfl) ?_
  refine Wl.done ?_
  refine Ar.next ?_
  refine Wc.seq ?_
  refine Wc.region rfl ?_
  refine Wl.q rfl (Qy.assign rfl) ?_
  refine Wl.done ?_
  refine Ar.next ?_
  refine Wc.seq ?_
  refine Wc.region rfl ?_
  refine Wl.q rfl (Qy.assign rfl) ?_
  refine Wl.done ?_
  refine Ar.next ?_
  refine Wc.seq ?_
  refine Wc.seq ?_
  refine Wc.region rfl ?_
  refine Wl.q rfl (Qy.assign rfl) ?_
  refine Wl.done ?_
  refine Ar.next ?_
  refine Wc.block ?_
  refine Wc.loop (ι := Nat × Int × List U32 × (Option Addr × Nat × List Value)) (fun (i, cy, r, (o, d, j)) => ([(7, .int .i64 (i : Int)), (6, .int .u32 cy), (5, .slice o r.length d), (4, Go.Value.slice Option.none 0 0), (0, Go.Value.slice a (List.length la) ca), (1, Go.Value.slice b (List.length lb) cb)], [(0, o.map (·.block), Row 153 r j)])) (fun (i, cy, r, (o, d, j)) => r.length = i ∧ i ≤ la.length ∧ 0 ≤ cy ∧ cy ≤ 1 ∧ Digs r ∧ valL (la.take i) - valL (lb.take i) = valL r - pw i * cy ∧ OwnA o d r j) (fun (i, cy, r, (o, d, j)) => la.length - i) ((0, 0, [], (none, 0, []))) (⟨rfl, Nat.zero_le _, by decide, by decide, Digs.nil, by rw [List.take_zero, List.take_zero, Int.mul_zero, Int.sub_zero, Int.sub_self, valL_nil], OwnA.nil⟩) ⟨rfl, rfl, rfl, rfl, rfl, rfl, trivial⟩ ⟨rfl, trivial⟩ (fun ⟨i, cy, r, (o, d, j)⟩ => fun (hk : r.length = i ∧ i ≤ la.length ∧ 0 ≤ cy ∧ cy ≤ 1 ∧ Digs r ∧ valL (la.take i) - valL (lb.take i) = valL r - pw i * cy ∧ OwnA o d r j) => ?_)
  obtain ⟨hri, hiM, hc0, hc1, hdr, hv, hob⟩ := hk
  rcases Nat.lt_or_ge i la.length with hia | hia
  · have da1 : 0 ≤ (la[((i : Nat) : Int).toNat]?.getD default).v ∧ (la[((i : Nat) : Int).toNat]?.getD default).v < 65536 := dg_lt da hia
    rcases Nat.lt_or_ge i lb.length with hib | hib
    · have db1 : 0 ≤ (lb[((i : Nat) : Int).toNat]?.getD default).v ∧ (lb[((i : Nat) : Int).toNat]?.getD default).v < 65536 := dg_lt db hib
      by_cases hlt : (la[((i : Nat) : Int).toNat]?.getD default).v < cy + (lb[((i : Nat) : Int).toNat]?.getD default).v
      · refine Wc.seq ?_
        refine Wc.seq ?_
        refine Wc.region rfl ?_
        refine Wl.q rfl (Qy.move rfl) ?_
        refine Wl.q rfl (Qy.move rfl) ?_
        refine Wl.q rfl (Qy.len T.sl59 rfl) ?_
        refine Wl.q rfl (Qy.lss rfl rfl) ?_
        refine Wl.done ?_
        refine Ar.next ?_
        refine Wc.condP rfl (by first | assumption | omega) ?_
        refine Wc.skip ?_
        refine Ar.next ?_
        refine Wc.seq ?_
        refine Wc.block ?_
        refine Wc.seq ?_
        refine Wc.region rfl ?_
        refine Wl.q rfl (Qy.move rfl) ?_
        refine Wl.q rfl (Qy.assign rfl) ?_
        refine Wl.done ?_
        refine Ar.next ?_
        refine Wc.seq ?_
        refine Wc.seq ?_
        refine Wc.region rfl ?_
        refine Wl.q rfl (Qy.move rfl) ?_
        refine Wl.q rfl (Qy.move rfl) ?_
        refine Wl.q rfl (Qy.len T.sl59 rfl) ?_
        refine Wl.q rfl (Qy.lss rfl rfl) ?_
        refine Wl.done ?_
        refine Ar.next ?_
        refine Wc.condP rfl (by first | assumption | omega) ?_
        refine Wc.region rfl ?_
        refine Wl.q rfl (Qy.move rfl) ?_
        refine Wl.q rfl (Qy.move rfl) ?_
        refine Wl.q rfl (Qy.move rfl) ?_
        refine Wl.q rfl (Qy.at (α := U32) T.sl59 rfl rfl (by assumption) (by omega)) ?_
        refine Wl.q rfl (Qy.loadG T.one153 rfl (Arr.cell (by assumption) (by omega) 0 rfl rfl)) ?_
        refine Wl.q rfl (Qy.uadd32 rfl rfl (by omega)) ?_
        refine Wl.q rfl (Qy.assign rfl) ?_
        refine Wl.done ?_
        refine Ar.next ?_
        refine Wc.seq ?_
        refine Wc.region rfl ?_
        refine Wl.q rfl (Qy.assign rfl) ?_
        refine Wl.done ?_
        refine Ar.next ?_
        refine Wc.seq ?_
        refine Wc.region rfl ?_
        refine Wl.q rfl (Qy.move rfl) ?_
        refine Wl.q rfl (Qy.move rfl) ?_
        refine Wl.q rfl (Qy.at (α := U32) T.sl59 rfl rfl (by assumption) (by omega)) ?_
        refine Wl.q rfl (Qy.loadG T.one153 rfl (Arr.cell (by assumption) (by omega) 0 rfl rfl)) ?_
        refine Wl.q rfl (Qy.assign rfl) ?_
        refine Wl.done ?_
        refine Ar.next ?_
        refine Wc.seq ?_
        refine Wc.seq ?_
        refine Wc.region rfl ?_
        refine Wl.q rfl (Qy.move rfl) ?_
        refine Wl.q rfl (Qy.move rfl) ?_
        refine Wl.q rfl (Qy.lss rfl rfl) ?_
        refine Wl.done ?_
        refine Ar.next ?_
        refine Wc.condP rfl (by first | assumption | omega) ?_
        refine Wc.seq ?_
        refine Wc.region rfl ?_
        refine Wl.q rfl (Qy.move rfl) ?_
        refine Wl.q rfl (Qy.uadd32 rfl rfl (by omega)) ?_
        refine Wl.q rfl (Qy.assign rfl) ?_
        refine Wl.done ?_
        refine Ar.next ?_
        refine Wc.region rfl ?_
        refine Wl.q rfl (Qy.assign rfl) ?_
        refine Wl.done ?_
        refine Ar.next ?_
        refine Wc.region rfl ?_
        refine Wl.q rfl (Qy.move rfl) ?_
        refine Wl.q rfl (Qy.move rfl) ?_
        refine Wl.q rfl (Qy.move rfl) ?_
        refine Wl.q rfl (Qy.usub32 rfl rfl (by omega)) ?_
        refine Wl.lit (α := U32) 1 [⟨Go.Sl.U32.v (Option.getD la[Int.toNat (↑i : Int)]? Inhabited.default) + 65536 - (cy + Go.Sl.U32.v (Option.getD lb[Int.toNat (↑i : Int)]? Inhabited.default))⟩] rfl T.sl59 T.el153 rfl rfl rfl rfl rfl (fun b1 => ?_)
        refine Wl.append (α := U32) 0 rfl T.sl59 T.el153 rfl rfl rfl (by first | assumption | exact OwnA.nil | exact OwnA.made (by simp)) (Src.row 1 rfl) (by first | omega | (simp only [List.length_append, List.length_cons, List.length_nil, maxLen]; omega)) (by first | omega | (simp only [List.length_append, List.length_cons, List.length_nil, maxLen]; omega)) (fun a1 c1 junk1 ho1 => ?_)
        refine Wl.q rfl (Qy.assign rfl) ?_
        refine Wl.done ?_
        refine Ar.outNormal ?_
        refine Ar.next ?_
        refine Wc.region rfl ?_
        refine Wl.q rfl (Qy.move rfl) ?_
        refine Wl.q rfl (Qy.add rfl rfl (by omega)) ?_
        refine Wl.q rfl (Qy.assign rfl) ?_
        refine Wl.done ?_
        refine Ar.again ((i + 1, 1, _, (a1, c1, junk1))) ?_ ?_ rfl ⟨rfl, rfl, rfl, rfl, rfl, rfl, trivial⟩ ⟨rfl, trivial⟩
        · exact ⟨by rw [List.length_append, hri]; rfl, by omega, by decide, by decide, hdr.append (Digs.one (by omega)), minus_next hri hv (by unfold dg; omega), ho1⟩
        · show la.length - (i + 1) < la.length - i
          omega
      · refine Wc.seq ?_
        refine Wc.seq ?_
        refine Wc.region rfl ?_
        refine Wl.q rfl (Qy.move rfl) ?_
        refine Wl.q rfl (Qy.move rfl) ?_
        refine Wl.q rfl (Qy.len T.sl59 rfl) ?_
        refine Wl.q rfl (Qy.lss rfl rfl) ?_
        refine Wl.done ?_
        refine Ar.next ?_
        refine Wc.condP rfl (by first | assumption | omega) ?_
        refine Wc.skip ?_
        refine Ar.next ?_
        refine Wc.seq ?_
        refine Wc.block ?_
        refine Wc.seq ?_
        refine Wc.region rfl ?_
        refine Wl.q rfl (Qy.move rfl) ?_
        refine Wl.q rfl (Qy.assign rfl) ?_
        refine Wl.done ?_
        refine Ar.next ?_
        refine Wc.seq ?_
        refine Wc.seq ?_
        refine Wc.region rfl ?_
        refine Wl.q rfl (Qy.move rfl) ?_
        refine Wl.q rfl (Qy.move rfl) ?_
        refine Wl.q rfl (Qy.len T.sl59 rfl) ?_
        refine Wl.q rfl (Qy.lss rfl rfl) ?_
        refine Wl.done ?_
        refine Ar.next ?_
        refine Wc.condP rfl (by first | assumption | omega) ?_
        refine Wc.region rfl ?_
        refine Wl.q rfl (Qy.move rfl) ?_
        refine Wl.q rfl (Qy.move rfl) ?_
        refine Wl.q rfl (Qy.move rfl) ?_
        refine Wl.q rfl (Qy.at (α := U32) T.sl59 rfl rfl (by assumption) (by omega)) ?_
        refine Wl.q rfl (Qy.loadG T.one153 rfl (Arr.cell (by assumption) (by omega) 0 rfl rfl)) ?_
        refine Wl.q rfl (Qy.uadd32 rfl rfl (by omega)) ?_
        refine Wl.q rfl (Qy.assign rfl) ?_
        refine Wl.done ?_
        refine Ar.next ?_
        refine Wc.seq ?_
        refine Wc.region rfl ?_
        refine Wl.q rfl (Qy.assign rfl) ?_
        refine Wl.done ?_
        refine Ar.next ?_
        refine Wc.seq ?_
        refine Wc.region rfl ?_
        refine Wl.q rfl (Qy.move rfl) ?_
        refine Wl.q rfl (Qy.move rfl) ?_
        refine Wl.q rfl (Qy.at (α := U32) T.sl59 rfl rfl (by assumption) (by omega)) ?_
        refine Wl.q rfl (Qy.loadG T.one153 rfl (Arr.cell (by assumption) (by omega) 0 rfl rfl)) ?_
        refine Wl.q rfl (Qy.assign rfl) ?_
        refine Wl.done ?_
        refine Ar.next ?_
        refine Wc.seq ?_
        refine Wc.seq ?_
        refine Wc.region rfl ?_
        refine Wl.q rfl (Qy.move rfl) ?_
        refine Wl.q rfl (Qy.move rfl) ?_
        refine Wl.q rfl (Qy.lss rfl rfl) ?_
        refine Wl.done ?_
        refine Ar.next ?_
        refine Wc.condN rfl (by first | assumption | omega) ?_
        refine Wc.skip ?_
        refine Ar.next ?_
        refine Wc.region rfl ?_
        refine Wl.q rfl (Qy.move rfl) ?_
        refine Wl.q rfl (Qy.move rfl) ?_
        refine Wl.q rfl (Qy.move rfl) ?_
        refine Wl.q rfl (Qy.usub32 rfl rfl (by omega)) ?_
        refine Wl.lit (α := U32) 1 [⟨Go.Sl.U32.v (Option.getD la[Int.toNat (↑i : Int)]? Inhabited.default) - (cy + Go.Sl.U32.v (Option.getD lb[Int.toNat (↑i : Int)]? Inhabited.default))⟩] rfl T.sl59 T.el153 rfl rfl rfl rfl rfl (fun b1 => ?_)
        refine Wl.append (α := U32) 0 rfl T.sl59 T.el153 rfl rfl rfl (by first | assumption | exact OwnA.nil | exact OwnA.made (by simp)) (Src.row 1 rfl) (by first | omega | (simp only [List.length_append, List.length_cons, List.length_nil, maxLen]; omega)) (by first | omega | (simp only [List.length_append, List.length_cons, List.length_nil, maxLen]; omega)) (fun a1 c1 junk1 ho1 => ?_)
        refine Wl.q rfl (Qy.assign rfl) ?_
        refine Wl.done ?_
        refine Ar.outNormal ?_
        refine Ar.next ?_
        refine Wc.region rfl ?_
        refine Wl.q rfl (Qy.move rfl) ?_
        refine Wl.q rfl (Qy.add rfl rfl (by omega)) ?_
        refine Wl.q rfl (Qy.assign rfl) ?_
        refine Wl.done ?_
        refine Ar.again ((i + 1, 0, _, (a1, c1, junk1))) ?_ ?_ rfl ⟨rfl, rfl, rfl, rfl, rfl, rfl, trivial⟩ ⟨rfl, trivial⟩
        · exact ⟨by rw [List.length_append, hri]; rfl, by omega, by decide, by decide, hdr.append (Digs.one (by omega)), minus_next hri hv (by unfold dg; omega), ho1⟩
        · show la.length - (i + 1) < la.length - i
          omega
    · have z := dg_end hib
      by_cases hlt : (la[((i : Nat) : Int).toNat]?.getD default).v < cy
      · refine Wc.seq ?_
        refine Wc.seq ?_
        refine Wc.region rfl ?_
        refine Wl.q rfl (Qy.move rfl) ?_
        refine Wl.q rfl (Qy.move rfl) ?_
        refine Wl.q rfl (Qy.len T.sl59 rfl) ?_
        refine Wl.q rfl (Qy.lss rfl rfl) ?_
        refine Wl.done ?_
        refine Ar.next ?_
        refine Wc.condP rfl (by first | assumption | omega) ?_
        refine Wc.skip ?_
        refine Ar.next ?_
        refine Wc.seq ?_
        refine Wc.block ?_
        refine Wc.seq ?_
        refine Wc.region rfl ?_
        refine Wl.q rfl (Qy.move rfl) ?_
        refine Wl.q rfl (Qy.assign rfl) ?_
        refine Wl.done ?_
        refine Ar.next ?_
        refine Wc.seq ?_
        refine Wc.seq ?_
        refine Wc.region rfl ?_
        refine Wl.q rfl (Qy.move rfl) ?_
        refine Wl.q rfl (Qy.move rfl) ?_
        refine Wl.q rfl (Qy.len T.sl59 rfl) ?_
        refine Wl.q rfl (Qy.lss rfl rfl) ?_
        refine Wl.done ?_
        refine Ar.next ?_
        refine Wc.condN rfl (by first | assumption | omega) ?_
        refine Wc.skip ?_
        refine Ar.next ?_
        refine Wc.seq ?_
        refine Wc.region rfl ?_
        refine Wl.q rfl (Qy.assign rfl) ?_
        refine Wl.done ?_
        refine Ar.next ?_
        refine Wc.seq ?_
        refine Wc.region rfl ?_
        refine Wl.q rfl (Qy.move rfl) ?_
        refine Wl.q rfl (Qy.move rfl) ?_
        refine Wl.q rfl (Qy.at (α := U32) T.sl59 rfl rfl (by assumption) (by omega)) ?_
        refine Wl.q rfl (Qy.loadG T.one153 rfl (Arr.cell (by assumption) (by omega) 0 rfl rfl)) ?_
        refine Wl.q rfl (Qy.assign rfl) ?_
        refine Wl.done ?_
        refine Ar.next ?_
        refine Wc.seq ?_
        refine Wc.seq ?_
        refine Wc.region rfl ?_
        refine Wl.q rfl (Qy.move rfl) ?_
        refine Wl.q rfl (Qy.move rfl) ?_
        refine Wl.q rfl (Qy.lss rfl rfl) ?_
        refine Wl.done ?_
        refine Ar.next ?_
        refine Wc.condP rfl (by first | assumption | omega) ?_
        refine Wc.seq ?_
        refine Wc.region rfl ?_
        refine Wl.q rfl (Qy.move rfl) ?_
        refine Wl.q rfl (Qy.uadd32 rfl rfl (by omega)) ?_
        refine Wl.q rfl (Qy.assign rfl) ?_
        refine Wl.done ?_
        refine Ar.next ?_
        refine Wc.region rfl ?_
        refine Wl.q rfl (Qy.assign rfl) ?_
        refine Wl.done ?_
        refine Ar.next ?_
        refine Wc.region rfl ?_
        refine Wl.q rfl (Qy.move rfl) ?_
        refine Wl.q rfl (Qy.move rfl) ?_
        refine Wl.q rfl (Qy.move rfl) ?_
        refine Wl.q rfl (Qy.usub32 rfl rfl (by omega)) ?_
        refine Wl.lit (α := U32) 1 [⟨Go.Sl.U32.v (Option.getD la[Int.toNat (↑i : Int)]? Inhabited.default) + 65536 - cy⟩] rfl T.sl59 T.el153 rfl rfl rfl rfl rfl (fun b1 => ?_)
        refine Wl.append (α := U32) 0 rfl T.sl59 T.el153 rfl rfl rfl (by first | assumption | exact OwnA.nil | exact OwnA.made (by simp)) (Src.row 1 rfl) (by first | omega | (simp only [List.length_append, List.length_cons, List.length_nil, maxLen]; omega)) (by first | omega | (simp only [List.length_append, List.length_cons, List.length_nil, maxLen]; omega)) (fun a1 c1 junk1 ho1 => ?_)
        refine Wl.q rfl (Qy.assign rfl) ?_
        refine Wl.done ?_
        refine Ar.outNormal ?_
        refine Ar.next ?_
        refine Wc.region rfl ?_
        refine Wl.q rfl (Qy.move rfl) ?_
        refine Wl.q rfl (Qy.add rfl rfl (by omega)) ?_
        refine Wl.q rfl (Qy.assign rfl) ?_
        refine Wl.done ?_
        refine Ar.again ((i + 1, 1, _, (a1, c1, junk1))) ?_ ?_ rfl ⟨rfl, rfl, rfl, rfl, rfl, rfl, trivial⟩ ⟨rfl, trivial⟩
        · exact ⟨by rw [List.length_append, hri]; rfl, by omega, by decide, by decide, hdr.append (Digs.one (by omega)), minus_next hri hv (by rw [z]; unfold dg; omega), ho1⟩
        · show la.length - (i + 1) < la.length - i
          omega
      · refine Wc.seq ?_
        refine Wc.seq ?_
        refine Wc.region rfl ?_
        refine Wl.q rfl (Qy.move rfl) ?_
        refine Wl.q rfl (Qy.move rfl) ?_
        refine Wl.q rfl (Qy.len T.sl59 rfl) ?_
        refine Wl.q rfl (Qy.lss rfl rfl) ?_
        refine Wl.done ?_
        refine Ar.next ?_
        refine Wc.condP rfl (by first | assumption | omega) ?_
        refine Wc.skip ?_
        refine Ar.next ?_
        refine Wc.seq ?_
        refine Wc.block ?_
        refine Wc.seq ?_
        refine Wc.region rfl ?_
        refine Wl.q rfl (Qy.move rfl) ?_
        refine Wl.q rfl (Qy.assign rfl) ?_
        refine Wl.done ?_
        refine Ar.next ?_
        refine Wc.seq ?_
        refine Wc.seq ?_
        refine Wc.region rfl ?_
        refine Wl.q rfl (Qy.move rfl) ?_
        refine Wl.q rfl (Qy.move rfl) ?_
        refine Wl.q rfl (Qy.len T.sl59 rfl) ?_
        refine Wl.q rfl (Qy.lss rfl rfl) ?_
        refine Wl.done ?_
        refine Ar.next ?_
        refine Wc.condN rfl (by first | assumption | omega) ?_
        refine Wc.skip ?_
        refine Ar.next ?_
        refine Wc.seq ?_
        refine Wc.region rfl ?_
        refine Wl.q rfl (Qy.assign rfl) ?_
        refine Wl.done ?_
        refine Ar.next ?_
        refine Wc.seq ?_
        refine Wc.region rfl ?_
        refine Wl.q rfl (Qy.move rfl) ?_
        refine Wl.q rfl (Qy.move rfl) ?_
        refine Wl.q rfl (Qy.at (α := U32) T.sl59 rfl rfl (by assumption) (by omega)) ?_
        refine Wl.q rfl (Qy.loadG T.one153 rfl (Arr.cell (by assumption) (by omega) 0 rfl rfl)) ?_
        refine Wl.q rfl (Qy.assign rfl) ?_
        refine Wl.done ?_
        refine Ar.next ?_
        refine Wc.seq ?_
        refine Wc.seq ?_
        refine Wc.region rfl ?_
        refine Wl.q rfl (Qy.move rfl) ?_
        refine Wl.q rfl (Qy.move rfl) ?_
        refine Wl.q rfl (Qy.lss rfl rfl) ?_
        refine Wl.done ?_
        refine Ar.next ?_
        refine Wc.condN rfl (by first | assumption | omega) ?_
        refine Wc.skip ?_
        refine Ar.next ?_
        refine Wc.region rfl ?_
        refine Wl.q rfl (Qy.move rfl) ?_
        refine Wl.q rfl (Qy.move rfl) ?_
        refine Wl.q rfl (Qy.move rfl) ?_
        refine Wl.q rfl (Qy.usub32 rfl rfl (by omega)) ?_
        refine Wl.lit (α := U32) 1 [⟨Go.Sl.U32.v (Option.getD la[Int.toNat (↑i : Int)]? Inhabited.default) - cy⟩] rfl T.sl59 T.el153 rfl rfl rfl rfl rfl (fun b1 => ?_)
        refine Wl.append (α := U32) 0 rfl T.sl59 T.el153 rfl rfl rfl (by first | assumption | exact OwnA.nil | exact OwnA.made (by simp)) (Src.row 1 rfl) (by first | omega | (simp only [List.length_append, List.length_cons, List.length_nil, maxLen]; omega)) (by first | omega | (simp only [List.length_append, List.length_cons, List.length_nil, maxLen]; omega)) (fun a1 c1 junk1 ho1 => ?_)
        refine Wl.q rfl (Qy.assign rfl) ?_
        refine Wl.done ?_
        refine Ar.outNormal ?_
        refine Ar.next ?_
        refine Wc.region rfl ?_
        refine Wl.q rfl (Qy.move rfl) ?_
        refine Wl.q rfl (Qy.add rfl rfl (by omega)) ?_
        refine Wl.q rfl (Qy.assign rfl) ?_
        refine Wl.done ?_
        refine Ar.again ((i + 1, 0, _, (a1, c1, junk1))) ?_ ?_ rfl ⟨rfl, rfl, rfl, rfl, rfl, rfl, trivial⟩ ⟨rfl, trivial⟩
        · exact ⟨by rw [List.length_append, hri]; rfl, by omega, by decide, by decide, hdr.append (Digs.one (by omega)), minus_next hri hv (by rw [z]; unfold dg; omega), ho1⟩
        · show la.length - (i + 1) < la.length - i
          omega
  · refine Wc.seq ?_
    refine Wc.seq ?_
    refine Wc.region rfl ?_
    refine Wl.q rfl (Qy.move rfl) ?_
    refine Wl.q rfl (Qy.move rfl) ?_
    refine Wl.q rfl (Qy.len T.sl59 rfl) ?_
    refine Wl.q rfl (Qy.lss rfl rfl) ?_
    refine Wl.done ?_
    refine Ar.next ?_
    refine Wc.condN rfl (by first | assumption | omega) ?_
    refine Wc.exit ?_
    refine Ar.passExit ?_
    refine Ar.passExit ?_
    refine Ar.here ?_
    refine Ar.next ?_
    refine Wc.seq ?_
    refine Wc.region rfl ?_
    refine Wl.q rfl (Qy.move rfl) ?_
    refine Wl.q rfl (Qy.assign rfl) ?_
    refine Wl.done ?_
    refine Ar.next ?_
    refine Wc.ret ?_
    refine Ar.out1 (.inr rfl) (Ho := Hp.only _ [0]) rfl (.tmp rfl) (Hp.sub_only _ _) ?_
    exact ⟨_, _, _, _, rfl, hob, rfl, rfl, hdr, minus_end (by omega) h2 hle hri hdr ⟨hc0, hc1⟩ hv, by omega⟩
end Go.Proofs.Ytbppmiimeccclaa
set_option maxRecDepth 100000
set_option linter.unusedVariables false
namespace Go.Proofs.Ytbppmiimeccclaa
open Go Go.Sl
set_option maxHeartbeats 4000000
theorem val_split (l : List U32) {m : Nat} (h : m ≤ l.length) : valL l = valL (l.take m) + pw m * valL (l.drop m) := by
  have e : valL l = valL (l.take m ++ l.drop m) := by rw [List.take_append_drop]
  rw [e, valL_append, List.length_take, Nat.min_eq_left h]
theorem u32_eq {x y : U32} (h : x.v = y.v) : x = y := by cases x; cases y; simp only at h; rw [h]
theorem drop_same {la lb : List U32} {k : Nat} (hn : la.length = lb.length) (h : ∀ j, k ≤ j → j < la.length → dg la j = dg lb j) : la.drop k = lb.drop k := by
  apply List.ext_getElem?
  intro j
  rw [List.getElem?_drop, List.getElem?_drop]
  rcases Nat.lt_or_ge (k + j) la.length with hj | hj
  · have := h (k + j) (by omega) hj
    unfold dg at this
    rw [Int.toNat_natCast, List.getElem?_eq_getElem hj, List.getElem?_eq_getElem (by omega)] at this
    rw [List.getElem?_eq_getElem hj, List.getElem?_eq_getElem (by omega)]; exact congrArg some (u32_eq this)
  · rw [List.getElem?_eq_none hj, List.getElem?_eq_none (by omega)]
theorem high_lt {la lb : List U32} {k : Nat} (hn : la.length = lb.length) (hk : k < la.length) (da : Digs la) (db : Digs lb) (h : ∀ j, k + 1 ≤ j → j < la.length → dg la j = dg lb j) (hlt : dg la k < dg lb k) : valL la < valL lb := by
  have e1 := val_split la (m := k + 1) (by omega)
  have e2 := val_split lb (m := k + 1) (by omega)
  rw [val_step, drop_same hn h] at e1
  rw [val_step] at e2
  have h1 := valL_lt (da.take k)
  have h2 := valL_nonneg (db.take k)
  rw [List.length_take, Nat.min_eq_left (by omega)] at h1
  have h3 := Int.mul_le_mul_of_nonneg_left (show dg la k + 1 ≤ dg lb k by omega) (Int.le_of_lt (pw_pos k))
  rw [Int.mul_add, Int.mul_one] at h3
  omega
attribute [local irreducible] valL pw cmpZ
theorem c156 (G : Imm) (a b : Option Addr) (ca cb : Nat) (la lb : List U32) (ha : Arr G a la) (hb : Arr G b lb) (da : Digs la) (db : Digs lb) (ta : Top la) (tb : Top lb) (h1 : la.length ≤ 1073741824) (h2 : lb.length ≤ 1073741824) :
    Does Try.prog 156 [.slice a la.length ca, .slice b lb.length cb] G [] (fun v G' Ho => v = .int .i64 (cmpZ (valL la) (valL lb)) ∧ G' = G ∧ Ho = []) := by
  refine Does.enter Try.func156 rfl Try.ntmps156 rfl (fun w => ?_)
  by_cases hn : la.length = lb.length
  · refine Wc.seq ?_
    refine Wc.region rfl ?_
    refine Wl.q rfl (Qy.assign rfl) ?_
    refine Wl.done ?_
    refine Ar.next ?_
    refine Wc.seq ?_
    refine Wc.seq ?_
    refine Wc.region rfl ?_
    refine Wl.q rfl (Qy.move rfl) ?_
    refine Wl.q rfl (Qy.len T.sl59 rfl) ?_
    refine Wl.q rfl (Qy.move rfl) ?_
    refine Wl.q rfl (Qy.len T.sl59 rfl) ?_
    refine Wl.q rfl (Qy.neq rfl rfl) ?_
    refine Wl.done ?_
    refine Ar.next ?_
    refine Wc.condN rfl (by first | assumption | omega) ?_
    refine Wc.skip ?_
    refine Ar.next ?_
    refine Wc.seq ?_
    refine Wc.seq ?_
    refine Wc.region rfl ?_
    refine Wl.q rfl (Qy.move rfl) ?_
    refine Wl.q rfl (Qy.len T.sl59 rfl) ?_
    refine Wl.q rfl (Qy.sub rfl rfl (by omega)) ?_
    refine Wl.q rfl (Qy.assign rfl) ?_
    refine Wl.done ?_
    refine Ar.next ?_
    refine Wc.block ?_
    refine Wc.loop (ι := Nat) (fun k => ([(5, .int .i64 ((k : Int) - 1)), (0, Go.Value.slice a (List.length la) ca), (1, Go.Value.slice b (List.length lb) cb)], [])) (fun k => k ≤ la.length ∧ ∀ j, k ≤ j → j < la.length → dg la j = dg lb j) (fun k => k) (la.length) (⟨Nat.le_refl _, fun j h1 h2 => absurd h2 (by omega)⟩) ⟨rfl, rfl, rfl, trivial⟩ trivial (fun k => fun (hk : k ≤ la.length ∧ ∀ j, k ≤ j → j < la.length → dg la j = dg lb j) => ?_)
    obtain ⟨hk1, hz⟩ := hk
    rcases Nat.eq_zero_or_pos k with rfl | hpos
    · refine Wc.seq ?_
      refine Wc.seq ?_
      refine Wc.region rfl ?_
      refine Wl.q rfl (Qy.move rfl) ?_
      refine Wl.q rfl (Qy.geq rfl rfl) ?_
      refine Wl.done ?_
      refine Ar.next ?_
      refine Wc.condN rfl (by first | assumption | omega) ?_
      refine Wc.exit ?_
      refine Ar.passExit ?_
      refine Ar.passExit ?_
      refine Ar.here ?_
      refine Ar.next ?_
      refine Wc.seq ?_
      refine Wc.region rfl ?_
      refine Wl.q rfl (Qy.assign rfl) ?_
      refine Wl.done ?_
      refine Ar.next ?_
      refine Wc.ret ?_
      refine Ar.out1 (.inr rfl) (Ho := Hp.only _ []) rfl (.tmp rfl) (Hp.sub_only _ _) ?_
      have e : la = lb := by
        have := drop_same (k := 0) hn hz
        simpa using this
      exact ⟨by rw [e, cmpZ_eq rfl], rfl, rfl⟩
    · have e1 : (la[(((k : Nat) : Int) - 1).toNat]?.getD default).v = dg la (k - 1) := by
        unfold dg; rw [show (((k : Nat) : Int) - 1).toNat = ((k - 1 : Nat) : Int).toNat by omega]
      have e2 : (lb[(((k : Nat) : Int) - 1).toNat]?.getD default).v = dg lb (k - 1) := by
        unfold dg; rw [show (((k : Nat) : Int) - 1).toNat = ((k - 1 : Nat) : Int).toNat by omega]
      have hz' : ∀ j, (k - 1) + 1 ≤ j → j < la.length → dg la j = dg lb j := fun j h1 h2 => hz j (by omega) h2
      refine Wc.seq ?_
      refine Wc.seq ?_
      refine Wc.region rfl ?_
      refine Wl.q rfl (Qy.move rfl) ?_
      refine Wl.q rfl (Qy.geq rfl rfl) ?_
      refine Wl.done ?_
      refine Ar.next ?_
      refine Wc.condP rfl (by first | assumption | omega) ?_
      refine Wc.skip ?_
      refine Ar.next ?_
      refine Wc.seq ?_
      refine Wc.block ?_
      refine Wc.seq ?_
      refine Wc.seq ?_
      refine Wc.draw [] [] T.mixed rfl ?_
      refine Gm.q 0 [] (by kernel_rfl) rfl rfl (Qy.move rfl) ?_
      refine Gm.q 1 [] (by kernel_rfl) rfl rfl (Qy.move rfl) ?_
      refine Gm.q 2 [] (by kernel_rfl) rfl rfl (Qy.at (α := U32) T.sl59 rfl rfl (by assumption) (by omega)) ?_
      refine Gm.q 3 [] (by kernel_rfl) rfl rfl (Qy.loadG T.one153 rfl (Arr.cell (by assumption) (by omega) 0 rfl rfl)) ?_
      refine Gm.q 4 [] (by kernel_rfl) rfl rfl (Qy.move rfl) ?_
      refine Gm.q 5 [] (by kernel_rfl) rfl rfl (Qy.move rfl) ?_
      refine Gm.q 6 [] (by kernel_rfl) rfl rfl (Qy.at (α := U32) T.sl59 rfl rfl (by assumption) (by omega)) ?_
      refine Gm.q 7 [] (by kernel_rfl) rfl rfl (Qy.loadG T.one153 rfl (Arr.cell (by assumption) (by omega) 0 rfl rfl)) ?_
      refine Gm.q 8 [] (by kernel_rfl) rfl rfl (Qy.lss rfl rfl) ?_
      refine Gm.doneA (by kernel_rfl) trivial (by first | exact Imm.le_refl _ | assumption) ?_
      refine Ar.next ?_
      refine Wc.cond rfl (fun hc1 => ?_) (fun hc1 => ?_)
      refine Wc.seq ?_
      refine Wc.region rfl ?_
      refine Wl.q rfl (Qy.assign rfl) ?_
      refine Wl.done ?_
      refine Ar.next ?_
      refine Wc.ret ?_
      refine Ar.passRet ?_
      refine Ar.outRet ?_
      refine Ar.passRet ?_
      refine Ar.passRet ?_
      refine Ar.outRet ?_
      refine Ar.passRet ?_
      refine Ar.out1 (.inr rfl) (Ho := Hp.only _ []) rfl (.tmp rfl) (Hp.sub_only _ _) ?_
      rotate_left
      refine Wc.skip ?_
      refine Ar.next ?_
      refine Wc.seq ?_
      refine Wc.draw [] [] T.mixed rfl ?_
      refine Gm.q 0 [] (by kernel_rfl) rfl rfl (Qy.move rfl) ?_
      refine Gm.q 1 [] (by kernel_rfl) rfl rfl (Qy.move rfl) ?_
      refine Gm.q 2 [] (by kernel_rfl) rfl rfl (Qy.at (α := U32) T.sl59 rfl rfl (by assumption) (by omega)) ?_
      refine Gm.q 3 [] (by kernel_rfl) rfl rfl (Qy.loadG T.one153 rfl (Arr.cell (by assumption) (by omega) 0 rfl rfl)) ?_
      refine Gm.q 4 [] (by kernel_rfl) rfl rfl (Qy.move rfl) ?_
      refine Gm.q 5 [] (by kernel_rfl) rfl rfl (Qy.move rfl) ?_
      refine Gm.q 6 [] (by kernel_rfl) rfl rfl (Qy.at (α := U32) T.sl59 rfl rfl (by assumption) (by omega)) ?_
      refine Gm.q 7 [] (by kernel_rfl) rfl rfl (Qy.loadG T.one153 rfl (Arr.cell (by assumption) (by omega) 0 rfl rfl)) ?_
      refine Gm.q 8 [] (by kernel_rfl) rfl rfl (Qy.gtr rfl rfl) ?_
      refine Gm.doneA (by kernel_rfl) trivial (by first | exact Imm.le_refl _ | assumption) ?_
      refine Ar.next ?_
      refine Wc.cond rfl (fun hc2 => ?_) (fun hc2 => ?_)
      refine Wc.seq ?_
      refine Wc.region rfl ?_
      refine Wl.q rfl (Qy.assign rfl) ?_
      refine Wl.done ?_
      refine Ar.next ?_
      refine Wc.ret ?_
      refine Ar.outRet ?_
      refine Ar.passRet ?_
      refine Ar.passRet ?_
      refine Ar.outRet ?_
      refine Ar.passRet ?_
      refine Ar.out1 (.inr rfl) (Ho := Hp.only _ []) rfl (.tmp rfl) (Hp.sub_only _ _) ?_
      rotate_left
      refine Wc.skip ?_
      refine Ar.outNormal ?_
      refine Ar.next ?_
      refine Wc.region rfl ?_
      refine Wl.q rfl (Qy.move rfl) ?_
      refine Wl.q rfl (Qy.sub rfl rfl (by omega)) ?_
      refine Wl.q rfl (Qy.assign rfl) ?_
      refine Wl.done ?_
      rotate_left
      · exact ⟨by rw [cmpZ_lt (high_lt hn (by omega) da db hz' (by omega))], rfl, rfl⟩
      · exact ⟨by rw [cmpZ_gt (high_lt hn.symm (by omega) db da (fun j h1 h2 => (hz' j h1 (by omega)).symm) (by omega))], rfl, rfl⟩
      · refine Ar.re 5 rfl (show _ = Value.int .i64 (((k - 1 : Nat) : Int) - 1) by congr 1; omega) ?_
        refine Ar.again (k - 1) ?_ ?_ rfl ⟨rfl, rfl, rfl, trivial⟩ trivial
        · refine ⟨by omega, fun j h1 h2 => ?_⟩
          rcases Nat.lt_or_ge j k with h3 | h3
          · have e : j = k - 1 := by omega
            rw [e]; omega
          · exact hz j h3 h2
        · omega
  · by_cases hlt : la.length < lb.length
    · refine Wc.seq ?_
      refine Wc.region rfl ?_
      refine Wl.q rfl (Qy.assign rfl) ?_
      refine Wl.done ?_
      refine Ar.next ?_
      refine Wc.seq ?_
      refine Wc.seq ?_
      refine Wc.region rfl ?_
      refine Wl.q rfl (Qy.move rfl) ?_
      refine Wl.q rfl (Qy.len T.sl59 rfl) ?_
      refine Wl.q rfl (Qy.move rfl) ?_
      refine Wl.q rfl (Qy.len T.sl59 rfl) ?_
      refine Wl.q rfl (Qy.neq rfl rfl) ?_
      refine Wl.done ?_
      refine Ar.next ?_
      refine Wc.condP rfl (by first | assumption | omega) ?_
      refine Wc.seq ?_
      refine Wc.seq ?_
      refine Wc.region rfl ?_
      refine Wl.q rfl (Qy.move rfl) ?_
      refine Wl.q rfl (Qy.len T.sl59 rfl) ?_
      refine Wl.q rfl (Qy.move rfl) ?_
      refine Wl.q rfl (Qy.len T.sl59 rfl) ?_
      refine Wl.q rfl (Qy.lss rfl rfl) ?_
      refine Wl.done ?_
      refine Ar.next ?_
      refine Wc.condP rfl (by first | assumption | omega) ?_
      refine Wc.seq ?_
      refine Wc.region rfl ?_
      refine Wl.q rfl (Qy.assign rfl) ?_
      refine Wl.done ?_
      refine Ar.next ?_
      refine Wc.ret ?_
      refine Ar.passRet ?_
      refine Ar.passRet ?_
      refine Ar.out1 (.inr rfl) (Ho := Hp.only _ []) rfl (.tmp rfl) (Hp.sub_only _ _) ?_
      exact ⟨by rw [cmpZ_lt (top_lt_len da db tb hlt)], rfl, rfl⟩
    · refine Wc.seq ?_
      refine Wc.region rfl ?_
      refine Wl.q rfl (Qy.assign rfl) ?_
      refine Wl.done ?_
      refine Ar.next ?_
      refine Wc.seq ?_
      refine Wc.seq ?_
      refine Wc.region rfl ?_
      refine Wl.q rfl (Qy.move rfl) ?_
      refine Wl.q rfl (Qy.len T.sl59 rfl) ?_
      refine Wl.q rfl (Qy.move rfl) ?_
      refine Wl.q rfl (Qy.len T.sl59 rfl) ?_
      refine Wl.q rfl (Qy.neq rfl rfl) ?_
      refine Wl.done ?_
      refine Ar.next ?_
      refine Wc.condP rfl (by first | assumption | omega) ?_
      refine Wc.seq ?_
      refine Wc.seq ?_
      refine Wc.region rfl ?_
      refine Wl.q rfl (Qy.move rfl) ?_
      refine Wl.q rfl (Qy.len T.sl59 rfl) ?_
      refine Wl.q rfl (Qy.move rfl) ?_
      refine Wl.q rfl (Qy.len T.sl59 rfl) ?_
      refine Wl.q rfl (Qy.lss rfl rfl) ?_
      refine Wl.done ?_
      refine Ar.next ?_
      refine Wc.condN rfl (by first | assumption | omega) ?_
      refine Wc.skip ?_
      refine Ar.next ?_
      refine Wc.seq ?_
      refine Wc.region rfl ?_
      refine Wl.q rfl (Qy.assign rfl) ?_
      refine Wl.done ?_
      refine Ar.next ?_
      refine Wc.ret ?_
      refine Ar.passRet ?_
      refine Ar.out1 (.inr rfl) (Ho := Hp.only _ []) rfl (.tmp rfl) (Hp.sub_only _ _) ?_
      exact ⟨by rw [cmpZ_gt (top_lt_len db da ta (by omega))], rfl, rfl⟩
theorem c155 (G : Imm) (neg : Bool) (a : Option Addr) (c : Nat) (l : List U32) (z : Int) (h : IsInt neg l z) (h1 : l.length ≤ 1073741824) :
    Does Try.prog 155 [.agg #[.bool neg, .slice a l.length c]] G [] (fun v G' Ho => v = .int .i64 (sgZ z) ∧ G' = G ∧ Ho = []) := by
  have hz := h.zero_iff
  have hn := h.neg_iff
  refine Does.enter Try.func155 rfl Try.ntmps155 rfl (fun w => ?_)
  by_cases h0 : l.length = 0
  · have hz0 := hz.1 h0
    refine Wc.seq ?_
    refine Wc.region rfl ?_
    refine Wl.box 0 rfl rfl rfl (fun b1 => ?_)
    refine Wl.q rfl (Qy.assign rfl) ?_
    refine Wl.done ?_
    refine Ar.next ?_
    refine Wc.seq ?_
    refine Wc.seq ?_
    refine Wc.region rfl ?_
    refine Wl.q rfl (Qy.fieldAddr T.fa63_1 rfl) ?_
    refine Wl.q rfl (Qy.load 0 T.one59 rfl rfl rfl) ?_
    refine Wl.q rfl (Qy.len T.sl59 rfl) ?_
    refine Wl.q rfl (Qy.eql rfl rfl) ?_
    refine Wl.done ?_
    refine Ar.next ?_
    refine Wc.condP rfl (by first | assumption | omega) ?_
    refine Wc.seq ?_
    refine Wc.region rfl ?_
    refine Wl.q rfl (Qy.assign rfl) ?_
    refine Wl.done ?_
    refine Ar.next ?_
    refine Wc.ret ?_
    refine Ar.passRet ?_
    refine Ar.out1 (.inr rfl) (Ho := Hp.only _ []) rfl (.tmp rfl) (Hp.sub_only _ _) ?_
    exact ⟨by rw [hz0]; rfl, rfl, rfl⟩
  · have hz0 : z ≠ 0 := fun e => h0 (hz.2 e)
    by_cases hs : z < 0
    · rw [hn, decide_eq_true hs]
      refine Wc.seq ?_
      refine Wc.region rfl ?_
      refine Wl.box 0 rfl rfl rfl (fun b1 => ?_)
      refine Wl.q rfl (Qy.assign rfl) ?_
      refine Wl.done ?_
      refine Ar.next ?_
      refine Wc.seq ?_
      refine Wc.seq ?_
      refine Wc.region rfl ?_
      refine Wl.q rfl (Qy.fieldAddr T.fa63_1 rfl) ?_
      refine Wl.q rfl (Qy.load 0 T.one59 rfl rfl rfl) ?_
      refine Wl.q rfl (Qy.len T.sl59 rfl) ?_
      refine Wl.q rfl (Qy.eql rfl rfl) ?_
      refine Wl.done ?_
      refine Ar.next ?_
      refine Wc.condN rfl (by first | assumption | omega) ?_
      refine Wc.skip ?_
      refine Ar.next ?_
      refine Wc.seq ?_
      refine Wc.seq ?_
      refine Wc.region rfl ?_
      refine Wl.q rfl (Qy.fieldAddr T.fa63_0 rfl) ?_
      refine Wl.q rfl (Qy.load 0 T.one4 rfl rfl rfl) ?_
      refine Wl.done ?_
      refine Ar.next ?_
      refine Wc.condT rfl ?_
      refine Wc.seq ?_
      refine Wc.region rfl ?_
      refine Wl.q rfl (Qy.assign rfl) ?_
      refine Wl.done ?_
      refine Ar.next ?_
      refine Wc.ret ?_
      refine Ar.passRet ?_
      refine Ar.out1 (.inr rfl) (Ho := Hp.only _ []) rfl (.tmp rfl) (Hp.sub_only _ _) ?_
      exact ⟨by unfold sgZ; rw [if_neg hz0, if_pos hs], rfl, rfl⟩
    · rw [hn, decide_eq_false hs]
      refine Wc.seq ?_
      refine Wc.region rfl ?_
      refine Wl.box 0 rfl rfl rfl (fun b1 => ?_)
      refine Wl.q rfl (Qy.assign rfl) ?_
      refine Wl.done ?_
      refine Ar.next ?_
      refine Wc.seq ?_
      refine Wc.seq ?_
      refine Wc.region rfl ?_
      refine Wl.q rfl (Qy.fieldAddr T.fa63_1 rfl) ?_
      refine Wl.q rfl (Qy.load 0 T.one59 rfl rfl rfl) ?_
      refine Wl.q rfl (Qy.len T.sl59 rfl) ?_
      refine Wl.q rfl (Qy.eql rfl rfl) ?_
      refine Wl.done ?_
      refine Ar.next ?_
      refine Wc.condN rfl (by first | assumption | omega) ?_
      refine Wc.skip ?_
      refine Ar.next ?_
      refine Wc.seq ?_
      refine Wc.seq ?_
      refine Wc.region rfl ?_
      refine Wl.q rfl (Qy.fieldAddr T.fa63_0 rfl) ?_
      refine Wl.q rfl (Qy.load 0 T.one4 rfl rfl rfl) ?_
      refine Wl.done ?_
      refine Ar.next ?_
      refine Wc.condF rfl ?_
      refine Wc.skip ?_
      refine Ar.next ?_
      refine Wc.seq ?_
      refine Wc.region rfl ?_
      refine Wl.q rfl (Qy.assign rfl) ?_
      refine Wl.done ?_
      refine Ar.next ?_
      refine Wc.ret ?_
      refine Ar.out1 (.inr rfl) (Ho := Hp.only _ []) rfl (.tmp rfl) (Hp.sub_only _ _) ?_
      exact ⟨by unfold sgZ; rw [if_neg hz0, if_neg hs], rfl, rfl⟩
theorem c118 (G : Imm) (n1 n2 : Bool) (a b : Option Addr) (ca cb : Nat) (la lb : List U32) (x y : Int) (ha : Arr G a la) (hb : Arr G b lb) (hx : IsInt n1 la x) (hy : IsInt n2 lb y) (h1 : la.length ≤ 1073741824) (h2 : lb.length ≤ 1073741824) :
    Does Try.prog 118 [.agg #[.bool n1, .slice a la.length ca], .agg #[.bool n2, .slice b lb.length cb]] G [] (fun v G' Ho => v = .int .i64 (cmpZ x y) ∧ G' = G ∧ Ho = []) := by
  have da := hx.digs
  have db := hy.digs
  have ta := hx.top
  have tb := hy.top
  have va := hx.abs
  have vb := hy.abs
  have cs : ∀ u v : Int, u < v → cmpZ u v = -1 := fun u v h => cmpZ_lt h
  have cg : ∀ u v : Int, v < u → cmpZ u v = 1 := fun u v h => cmpZ_gt h
  refine Does.enter Try.func118 rfl Try.ntmps118 rfl (fun w => ?_)
  have sx : (sgZ x = -1 ∧ x < 0) ∨ (sgZ x = 0 ∧ x = 0) ∨ (sgZ x = 1 ∧ 0 < x) := by
    rcases Int.lt_trichotomy x 0 with h | h | h
    · exact .inl ⟨sgZ_lt h, h⟩
    · exact .inr (.inl ⟨sgZ_eq h, h⟩)
    · exact .inr (.inr ⟨sgZ_gt h, h⟩)
  have sy : (sgZ y = -1 ∧ y < 0) ∨ (sgZ y = 0 ∧ y = 0) ∨ (sgZ y = 1 ∧ 0 < y) := by
    rcases Int.lt_trichotomy y 0 with h | h | h
    · exact .inl ⟨sgZ_lt h, h⟩
    · exact .inr (.inl ⟨sgZ_eq h, h⟩)
    · exact .inr (.inr ⟨sgZ_gt h, h⟩)
  refine Wc.seq ?_
  refine Wc.region rfl ?_
  refine Wl.box 0 rfl rfl rfl (fun b1 => ?_)
  refine Wl.box 1 rfl rfl rfl (fun b2 => ?_)
  refine Wl.q rfl (Qy.assign rfl) ?_
  refine Wl.done ?_
  refine Ar.next ?_
  refine Wc.seq ?_
  refine Wc.draw [0, 1] [] T.mixed rfl ?_
  refine Gm.q 0 [0] (by kernel_rfl) rfl rfl (Qy.loadAll 0 T.agg63 rfl rfl rfl) ?_
  refine Gm.q 2 [1] (by kernel_rfl) rfl rfl (Qy.loadAll 1 T.agg63 rfl rfl rfl) ?_
  refine Gm.one 1 ⟨rfl, rfl, trivial⟩ (by first | exact Imm.le_refl _ | assumption) (by kernel_rfl) rfl ?_
  refine Wl.call0 rfl T.fn155 rfl (c155 _ _ _ _ _ _ (by assumption) (by assumption)) ?_
  refine Wl.on0 ?_
  refine Gm.one 3 ⟨rfl, rfl, trivial⟩ (by first | exact Imm.le_refl _ | assumption) (by kernel_rfl) rfl ?_
  refine Wl.call0 rfl T.fn155 rfl (c155 _ _ _ _ _ _ (by assumption) (by assumption)) ?_
  refine Wl.on0 ?_
  refine Gm.q 4 [] (by kernel_rfl) rfl rfl (Qy.assign rfl) ?_
  refine Gm.q 5 [] (by kernel_rfl) rfl rfl (Qy.assign rfl) ?_
  refine Gm.doneA (by kernel_rfl) ⟨rfl, rfl, trivial⟩ (by first | exact Imm.le_refl _ | assumption) ?_
  refine Ar.next ?_
  refine Wc.seq ?_
  refine Wc.seq ?_
  refine Wc.region rfl ?_
  refine Wl.q rfl (Qy.move rfl) ?_
  refine Wl.q rfl (Qy.move rfl) ?_
  refine Wl.q rfl (Qy.neq rfl rfl) ?_
  refine Wl.done ?_
  refine Ar.next ?_
  refine Wc.cond rfl (fun hc1 => ?_) (fun hc1 => ?_)
  refine Wc.seq ?_
  refine Wc.seq ?_
  refine Wc.region rfl ?_
  refine Wl.q rfl (Qy.move rfl) ?_
  refine Wl.q rfl (Qy.move rfl) ?_
  refine Wl.q rfl (Qy.lss rfl rfl) ?_
  refine Wl.done ?_
  refine Ar.next ?_
  refine Wc.cond rfl (fun hc2 => ?_) (fun hc2 => ?_)
  refine Wc.seq ?_
  refine Wc.region rfl ?_
  refine Wl.q rfl (Qy.assign rfl) ?_
  refine Wl.done ?_
  refine Ar.next ?_
  refine Wc.ret ?_
  refine Ar.passRet ?_
  refine Ar.passRet ?_
  refine Ar.out1 (.inr rfl) (Ho := Hp.only _ []) rfl (.tmp rfl) (Hp.sub_only _ _) ?_
  rotate_left
  refine Wc.skip ?_
  refine Ar.next ?_
  refine Wc.seq ?_
  refine Wc.region rfl ?_
  refine Wl.q rfl (Qy.assign rfl) ?_
  refine Wl.done ?_
  refine Ar.next ?_
  refine Wc.ret ?_
  refine Ar.passRet ?_
  refine Ar.out1 (.inr rfl) (Ho := Hp.only _ []) rfl (.tmp rfl) (Hp.sub_only _ _) ?_
  rotate_left
  refine Wc.skip ?_
  refine Ar.next ?_
  refine Wc.seq ?_
  refine Wc.seq ?_
  refine Wc.region rfl ?_
  refine Wl.q rfl (Qy.move rfl) ?_
  refine Wl.q rfl (Qy.lss rfl rfl) ?_
  refine Wl.done ?_
  refine Ar.next ?_
  refine Wc.cond rfl (fun hc2 => ?_) (fun hc2 => ?_)
  refine Wc.seq ?_
  refine Wc.region rfl ?_
  refine Wl.q rfl (Qy.fieldAddr T.fa63_1 rfl) ?_
  refine Wl.q rfl (Qy.load 1 T.one59 rfl rfl rfl) ?_
  refine Wl.q rfl (Qy.fieldAddr T.fa63_1 rfl) ?_
  refine Wl.q rfl (Qy.load 0 T.one59 rfl rfl rfl) ?_
  refine Wl.call0 rfl T.fn156 rfl (c156 _ _ _ _ _ _ _ (by assumption) (by assumption) (by assumption) (by assumption) (by assumption) (by assumption) (by assumption) (by assumption)) ?_
  refine Wl.q rfl (Qy.assign rfl) ?_
  refine Wl.done ?_
  refine Ar.next ?_
  refine Wc.ret ?_
  refine Ar.passRet ?_
  refine Ar.out1 (.inr rfl) (Ho := Hp.only _ []) rfl (.tmp rfl) (Hp.sub_only _ _) ?_
  rotate_left
  refine Wc.skip ?_
  refine Ar.next ?_
  refine Wc.seq ?_
  refine Wc.region rfl ?_
  refine Wl.q rfl (Qy.fieldAddr T.fa63_1 rfl) ?_
  refine Wl.q rfl (Qy.load 0 T.one59 rfl rfl rfl) ?_
  refine Wl.q rfl (Qy.fieldAddr T.fa63_1 rfl) ?_
  refine Wl.q rfl (Qy.load 1 T.one59 rfl rfl rfl) ?_
  refine Wl.call0 rfl T.fn156 rfl (c156 _ _ _ _ _ _ _ (by assumption) (by assumption) (by assumption) (by assumption) (by assumption) (by assumption) (by assumption) (by assumption)) ?_
  refine Wl.q rfl (Qy.assign rfl) ?_
  refine Wl.done ?_
  refine Ar.next ?_
  refine Wc.ret ?_
  refine Ar.out1 (.inr rfl) (Ho := Hp.only _ []) rfl (.tmp rfl) (Hp.sub_only _ _) ?_
  rotate_left
  · exact ⟨by rw [cs x y (by omega)], rfl, rfl⟩
  · exact ⟨by rw [cg x y (by omega)], rfl, rfl⟩
  · exact ⟨by rw [cmpZ_congr (x := valL lb) (y := valL la) (u := x) (v := y) (by omega) (by omega)], rfl, rfl⟩
  · exact ⟨by rw [cmpZ_congr (x := valL la) (y := valL lb) (u := x) (v := y) (by omega) (by omega)], rfl, rfl⟩
end Go.Proofs.Ytbppmiimeccclaa
