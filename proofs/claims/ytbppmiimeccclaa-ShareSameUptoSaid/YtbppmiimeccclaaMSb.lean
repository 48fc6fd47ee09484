/- Parts of the proof (part 2): what the rows' text needs of the texts that lead to it. -/
import Derived.Test.YtbppmiimeccclaaMSa
namespace Go.Proofs.Ytbppmiimeccclaa
open Go Go.Sl
set_option maxRecDepth 100000
theorem c130 (G : Imm) (op : Int) : Does Try.prog 130 [.int .i64 op] G [] (fun v G' Ho => v = .bool (decide (op = 3 ∨ op = 4)) ∧ G' = G ∧ Ho = []) := by
  refine Does.enter Try.func130 rfl Try.ntmps130 rfl (fun w => ?_)
  refine Wc.seq ?_
  refine Wc.region rfl ?_
  refine Wl.q rfl (Qy.assign rfl) ?_
  refine Wl.done ?_
  refine Ar.next ?_
  refine Wc.seq ?_
  refine Wc.region rfl ?_
  refine Wl.q rfl (Qy.move rfl) ?_
  refine Wl.q rfl (Qy.eql rfl rfl) ?_
  refine Wl.q rfl (Qy.move rfl) ?_
  apply Wl.joinOr 3 5 8 rfl
  intro hg1
  refine Wl.want rfl rfl ?_
  refine Wl.q rfl (Qy.move rfl) ?_
  refine Wl.want rfl rfl ?_
  refine Wl.q rfl (Qy.eql rfl rfl) ?_
  refine Wl.q rfl (Qy.pick rfl rfl) ?_
  exact Wl.back 3 0 rfl rfl rfl rfl rfl
  intro hg1
  refine Wl.pass rfl rfl rfl ?_
  refine Wl.pass rfl rfl rfl ?_
  refine Wl.q rfl (Qy.pick rfl rfl) ?_
  exact Wl.back 3 0 rfl rfl rfl rfl rfl
  refine Wl.q rfl (Qy.assign rfl) ?_
  refine Wl.done ?_
  refine Ar.next ?_
  refine Wc.ret ?_
  refine Ar.out1 (.inr rfl) (Ho := Hp.only _ []) rfl (.tmp rfl) (Hp.sub_only _ _) ?_
  exact ⟨by simp, rfl, rfl⟩
def constOk (op c : Int) : Bool :=
  if op = 5 ∨ op = 6 then decide (c ≠ 0 ∧ -512 ≤ c ∧ c ≤ 512) else if op = 7 ∨ op = 8 then decide (1 ≤ c ∧ c ≤ 64) else decide (c = 0)
theorem c131 (G : Imm) (i : Sl.Instr) : Does Try.prog 131 [.agg (Cells.enc i).toArray] G [] (fun v G' Ho => v = .bool (decide (constOk i.op i.c = true)) ∧ G' = G ∧ Ho = []) := by
  refine Does.enter Try.func131 rfl Try.ntmps131 rfl (fun w => ?_)
  refine Wc.seq ?_
  refine Wc.region rfl ?_
  refine Wl.box 0 rfl rfl rfl (fun b1 => ?_)
  refine Wl.q rfl (Qy.assign rfl) ?_
  refine Wl.done ?_
  refine Ar.next ?_
  refine Wc.seq ?_
  refine Wc.seq ?_
  refine Wc.region rfl ?_
  refine Wl.q rfl (Qy.fieldAddr T.fa72_0 rfl) ?_
  refine Wl.q rfl (Qy.load 0 T.one3 rfl rfl rfl) ?_
  refine Wl.done ?_
  refine Ar.next ?_
  refine Wc.block ?_
  refine Wc.seq ?_
  refine Wc.seq ?_
  refine Wc.region rfl ?_
  refine Wl.q rfl (Qy.eql rfl rfl) ?_
  refine Wl.q rfl (Qy.assign rfl) ?_
  refine Wl.done ?_
  refine Ar.next ?_
  refine Wc.cond rfl (fun hc1 => ?_) (fun hc1 => ?_)
  refine Wc.skip ?_
  refine Ar.next ?_
  refine Wc.condP rfl (by first | assumption | omega) ?_
  refine Wc.seq ?_
  refine Wc.region rfl ?_
  refine Wl.q rfl (Qy.fieldAddr T.fa72_4 rfl) ?_
  refine Wl.q rfl (Qy.load 0 T.one3 rfl rfl rfl) ?_
  refine Wl.q rfl (Qy.neq rfl rfl) ?_
  refine Wl.q rfl (Qy.move rfl) ?_
  apply Wl.joinAnd 4 11 15 rfl
  intro hg1
  refine Wl.want rfl rfl ?_
  refine Wl.q rfl (Qy.fieldAddr T.fa72_4 rfl) ?_
  refine Wl.want rfl rfl ?_
  refine Wl.q rfl (Qy.load 0 T.one3 rfl rfl rfl) ?_
  refine Wl.want rfl rfl ?_
  refine Wl.q rfl (Qy.geq rfl rfl) ?_
  refine Wl.q rfl (Qy.pick rfl rfl) ?_
  exact Wl.back 4 0 rfl rfl rfl rfl rfl
  intro hg1
  refine Wl.pass rfl rfl rfl ?_
  refine Wl.pass rfl rfl rfl ?_
  refine Wl.pass rfl rfl rfl ?_
  refine Wl.q rfl (Qy.pick rfl rfl) ?_
  exact Wl.back 4 0 rfl rfl rfl rfl rfl
  refine Wl.q rfl (Qy.move rfl) ?_
  apply Wl.joinAnd 4 16 20 rfl
  intro hg1
  refine Wl.want rfl rfl ?_
  refine Wl.q rfl (Qy.fieldAddr T.fa72_4 rfl) ?_
  refine Wl.want rfl rfl ?_
  refine Wl.q rfl (Qy.load 0 T.one3 rfl rfl rfl) ?_
  refine Wl.want rfl rfl ?_
  refine Wl.q rfl (Qy.leq rfl rfl) ?_
  refine Wl.q rfl (Qy.pick rfl rfl) ?_
  exact Wl.back 4 0 rfl rfl rfl rfl rfl
  intro hg1
  refine Wl.pass rfl rfl rfl ?_
  refine Wl.pass rfl rfl rfl ?_
  refine Wl.pass rfl rfl rfl ?_
  refine Wl.q rfl (Qy.pick rfl rfl) ?_
  exact Wl.back 4 0 rfl rfl rfl rfl rfl
  refine Wl.q rfl (Qy.assign rfl) ?_
  refine Wl.done ?_
  refine Ar.next ?_
  refine Wc.ret ?_
  refine Ar.outRet ?_
  refine Ar.passRet ?_
  refine Ar.out1 (.inr rfl) (Ho := Hp.only _ []) rfl (.tmp rfl) (Hp.sub_only _ _) ?_
  rotate_left
  refine Wc.region rfl ?_
  refine Wl.q rfl (Qy.eql rfl rfl) ?_
  refine Wl.q rfl (Qy.assign rfl) ?_
  refine Wl.done ?_
  refine Ar.next ?_
  refine Wc.cond rfl (fun hc2 => ?_) (fun hc2 => ?_)
  refine Wc.seq ?_
  refine Wc.region rfl ?_
  refine Wl.q rfl (Qy.fieldAddr T.fa72_4 rfl) ?_
  refine Wl.q rfl (Qy.load 0 T.one3 rfl rfl rfl) ?_
  refine Wl.q rfl (Qy.neq rfl rfl) ?_
  refine Wl.q rfl (Qy.move rfl) ?_
  apply Wl.joinAnd 4 11 15 rfl
  intro hg1
  refine Wl.want rfl rfl ?_
  refine Wl.q rfl (Qy.fieldAddr T.fa72_4 rfl) ?_
  refine Wl.want rfl rfl ?_
  refine Wl.q rfl (Qy.load 0 T.one3 rfl rfl rfl) ?_
  refine Wl.want rfl rfl ?_
  refine Wl.q rfl (Qy.geq rfl rfl) ?_
  refine Wl.q rfl (Qy.pick rfl rfl) ?_
  exact Wl.back 4 0 rfl rfl rfl rfl rfl
  intro hg1
  refine Wl.pass rfl rfl rfl ?_
  refine Wl.pass rfl rfl rfl ?_
  refine Wl.pass rfl rfl rfl ?_
  refine Wl.q rfl (Qy.pick rfl rfl) ?_
  exact Wl.back 4 0 rfl rfl rfl rfl rfl
  refine Wl.q rfl (Qy.move rfl) ?_
  apply Wl.joinAnd 4 16 20 rfl
  intro hg1
  refine Wl.want rfl rfl ?_
  refine Wl.q rfl (Qy.fieldAddr T.fa72_4 rfl) ?_
  refine Wl.want rfl rfl ?_
  refine Wl.q rfl (Qy.load 0 T.one3 rfl rfl rfl) ?_
  refine Wl.want rfl rfl ?_
  refine Wl.q rfl (Qy.leq rfl rfl) ?_
  refine Wl.q rfl (Qy.pick rfl rfl) ?_
  exact Wl.back 4 0 rfl rfl rfl rfl rfl
  intro hg1
  refine Wl.pass rfl rfl rfl ?_
  refine Wl.pass rfl rfl rfl ?_
  refine Wl.pass rfl rfl rfl ?_
  refine Wl.q rfl (Qy.pick rfl rfl) ?_
  exact Wl.back 4 0 rfl rfl rfl rfl rfl
  refine Wl.q rfl (Qy.assign rfl) ?_
  refine Wl.done ?_
  refine Ar.next ?_
  refine Wc.ret ?_
  refine Ar.outRet ?_
  refine Ar.passRet ?_
  refine Ar.out1 (.inr rfl) (Ho := Hp.only _ []) rfl (.tmp rfl) (Hp.sub_only _ _) ?_
  rotate_left
  refine Wc.seq ?_
  refine Wc.seq ?_
  refine Wc.region rfl ?_
  refine Wl.q rfl (Qy.eql rfl rfl) ?_
  refine Wl.q rfl (Qy.assign rfl) ?_
  refine Wl.done ?_
  refine Ar.next ?_
  refine Wc.cond rfl (fun hc3 => ?_) (fun hc3 => ?_)
  refine Wc.skip ?_
  refine Ar.next ?_
  refine Wc.condP rfl (by first | assumption | omega) ?_
  refine Wc.seq ?_
  refine Wc.region rfl ?_
  refine Wl.q rfl (Qy.fieldAddr T.fa72_4 rfl) ?_
  refine Wl.q rfl (Qy.load 0 T.one3 rfl rfl rfl) ?_
  refine Wl.q rfl (Qy.geq rfl rfl) ?_
  refine Wl.q rfl (Qy.move rfl) ?_
  apply Wl.joinAnd 4 27 31 rfl
  intro hg1
  refine Wl.want rfl rfl ?_
  refine Wl.q rfl (Qy.fieldAddr T.fa72_4 rfl) ?_
  refine Wl.want rfl rfl ?_
  refine Wl.q rfl (Qy.load 0 T.one3 rfl rfl rfl) ?_
  refine Wl.want rfl rfl ?_
  refine Wl.q rfl (Qy.leq rfl rfl) ?_
  refine Wl.q rfl (Qy.pick rfl rfl) ?_
  exact Wl.back 4 0 rfl rfl rfl rfl rfl
  intro hg1
  refine Wl.pass rfl rfl rfl ?_
  refine Wl.pass rfl rfl rfl ?_
  refine Wl.pass rfl rfl rfl ?_
  refine Wl.q rfl (Qy.pick rfl rfl) ?_
  exact Wl.back 4 0 rfl rfl rfl rfl rfl
  refine Wl.q rfl (Qy.assign rfl) ?_
  refine Wl.done ?_
  refine Ar.next ?_
  refine Wc.ret ?_
  refine Ar.outRet ?_
  refine Ar.passRet ?_
  refine Ar.out1 (.inr rfl) (Ho := Hp.only _ []) rfl (.tmp rfl) (Hp.sub_only _ _) ?_
  rotate_left
  refine Wc.region rfl ?_
  refine Wl.q rfl (Qy.eql rfl rfl) ?_
  refine Wl.q rfl (Qy.assign rfl) ?_
  refine Wl.done ?_
  refine Ar.next ?_
  refine Wc.cond rfl (fun hc4 => ?_) (fun hc4 => ?_)
  refine Wc.seq ?_
  refine Wc.region rfl ?_
  refine Wl.q rfl (Qy.fieldAddr T.fa72_4 rfl) ?_
  refine Wl.q rfl (Qy.load 0 T.one3 rfl rfl rfl) ?_
  refine Wl.q rfl (Qy.geq rfl rfl) ?_
  refine Wl.q rfl (Qy.move rfl) ?_
  apply Wl.joinAnd 4 27 31 rfl
  intro hg1
  refine Wl.want rfl rfl ?_
  refine Wl.q rfl (Qy.fieldAddr T.fa72_4 rfl) ?_
  refine Wl.want rfl rfl ?_
  refine Wl.q rfl (Qy.load 0 T.one3 rfl rfl rfl) ?_
  refine Wl.want rfl rfl ?_
  refine Wl.q rfl (Qy.leq rfl rfl) ?_
  refine Wl.q rfl (Qy.pick rfl rfl) ?_
  exact Wl.back 4 0 rfl rfl rfl rfl rfl
  intro hg1
  refine Wl.pass rfl rfl rfl ?_
  refine Wl.pass rfl rfl rfl ?_
  refine Wl.pass rfl rfl rfl ?_
  refine Wl.q rfl (Qy.pick rfl rfl) ?_
  exact Wl.back 4 0 rfl rfl rfl rfl rfl
  refine Wl.q rfl (Qy.assign rfl) ?_
  refine Wl.done ?_
  refine Ar.next ?_
  refine Wc.ret ?_
  refine Ar.outRet ?_
  refine Ar.passRet ?_
  refine Ar.out1 (.inr rfl) (Ho := Hp.only _ []) rfl (.tmp rfl) (Hp.sub_only _ _) ?_
  rotate_left
  refine Wc.skip ?_
  refine Ar.outNormal ?_
  refine Ar.next ?_
  refine Wc.seq ?_
  refine Wc.region rfl ?_
  refine Wl.q rfl (Qy.fieldAddr T.fa72_4 rfl) ?_
  refine Wl.q rfl (Qy.load 0 T.one3 rfl rfl rfl) ?_
  refine Wl.q rfl (Qy.eql rfl rfl) ?_
  refine Wl.q rfl (Qy.assign rfl) ?_
  refine Wl.done ?_
  refine Ar.next ?_
  refine Wc.ret ?_
  refine Ar.out1 (.inr rfl) (Ho := Hp.only _ []) rfl (.tmp rfl) (Hp.sub_only _ _) ?_
  rotate_left
  all_goals refine ⟨?_, rfl, rfl⟩
  all_goals simp [constOk, *]
  all_goals first | (split <;> first | rfl | omega) | omega | (simp only [Bool.and_assoc]; rfl) | (simp only [Bool.and_assoc]) | skip
def asks (i : Sl.Instr) : List Int := if i.op = 3 ∨ i.op = 4 then [i.a, i.b] else if 1 ≤ i.op ∧ i.op ≤ 8 then [i.a] else []
theorem c59 (G : Imm) (i : Sl.Instr) : Does Try.prog 59 [.agg (Cells.enc i).toArray] G [] (fun v G' Ho => ∃ a c junk, v = .slice a (asks i).length c ∧ OwnA a c (asks i) junk ∧ Ho = [(1, a.map (·.block), Row 3 (asks i) junk)] ∧ G' = G) := by
  refine Does.enter Try.func59 rfl Try.ntmps59 rfl (fun w => ?_)
  refine Wc.seq ?_
  refine Wc.region rfl ?_
  refine Wl.box 0 rfl rfl rfl (fun b1 => ?_)
  refine Wl.q rfl (Qy.assign rfl) ?_
  refine Wl.done ?_
  refine Ar.next ?_
  refine Wc.seq ?_
  refine Wc.seq ?_
  refine Wc.region rfl ?_
  refine Wl.q rfl (Qy.fieldAddr T.fa72_0 rfl) ?_
  refine Wl.q rfl (Qy.load 0 T.one3 rfl rfl rfl) ?_
  refine Wl.done ?_
  refine Ar.next ?_
  refine Wc.block ?_
  refine Wc.seq ?_
  refine Wc.seq ?_
  refine Wc.region rfl ?_
  refine Wl.q rfl (Qy.eql rfl rfl) ?_
  refine Wl.q rfl (Qy.assign rfl) ?_
  refine Wl.done ?_
  refine Ar.next ?_
  refine Wc.cond rfl (fun hc1 => ?_) (fun hc1 => ?_)
  refine Wc.skip ?_
  refine Ar.next ?_
  refine Wc.condP rfl (by first | assumption | omega) ?_
  refine Wc.seq ?_
  refine Wc.region rfl ?_
  refine Wl.q rfl (Qy.fieldAddr T.fa72_2 rfl) ?_
  refine Wl.q rfl (Qy.load 0 T.one3 rfl rfl rfl) ?_
  refine Wl.q rfl (Qy.fieldAddr T.fa72_3 rfl) ?_
  refine Wl.q rfl (Qy.load 0 T.one3 rfl rfl rfl) ?_
  refine Wl.lit (α := Int) 1 [(Go.Sl.Instr.a i), (Go.Sl.Instr.b i)] rfl T.sl23 T.el3 rfl rfl rfl rfl rfl (fun b2 => ?_)
  refine Wl.q rfl (Qy.assign rfl) ?_
  refine Wl.done ?_
  refine Ar.next ?_
  refine Wc.ret ?_
  refine Ar.outRet ?_
  refine Ar.passRet ?_
  rotate_left
  refine Wc.region rfl ?_
  refine Wl.q rfl (Qy.eql rfl rfl) ?_
  refine Wl.q rfl (Qy.assign rfl) ?_
  refine Wl.done ?_
  refine Ar.next ?_
  refine Wc.cond rfl (fun hc2 => ?_) (fun hc2 => ?_)
  refine Wc.seq ?_
  refine Wc.region rfl ?_
  refine Wl.q rfl (Qy.fieldAddr T.fa72_2 rfl) ?_
  refine Wl.q rfl (Qy.load 0 T.one3 rfl rfl rfl) ?_
  refine Wl.q rfl (Qy.fieldAddr T.fa72_3 rfl) ?_
  refine Wl.q rfl (Qy.load 0 T.one3 rfl rfl rfl) ?_
  refine Wl.lit (α := Int) 1 [(Go.Sl.Instr.a i), (Go.Sl.Instr.b i)] rfl T.sl23 T.el3 rfl rfl rfl rfl rfl (fun b2 => ?_)
  refine Wl.q rfl (Qy.assign rfl) ?_
  refine Wl.done ?_
  refine Ar.next ?_
  refine Wc.ret ?_
  refine Ar.outRet ?_
  refine Ar.passRet ?_
  rotate_left
  refine Wc.seq ?_
  refine Wc.seq ?_
  refine Wc.region rfl ?_
  refine Wl.q rfl (Qy.eql rfl rfl) ?_
  refine Wl.q rfl (Qy.assign rfl) ?_
  refine Wl.done ?_
  refine Ar.next ?_
  refine Wc.cond rfl (fun hc3 => ?_) (fun hc3 => ?_)
  refine Wc.skip ?_
  refine Ar.next ?_
  refine Wc.condP rfl (by first | assumption | omega) ?_
  refine Wc.seq ?_
  refine Wc.region rfl ?_
  refine Wl.q rfl (Qy.fieldAddr T.fa72_2 rfl) ?_
  refine Wl.q rfl (Qy.load 0 T.one3 rfl rfl rfl) ?_
  refine Wl.lit (α := Int) 1 [(Go.Sl.Instr.a i)] rfl T.sl23 T.el3 rfl rfl rfl rfl rfl (fun b2 => ?_)
  refine Wl.q rfl (Qy.assign rfl) ?_
  refine Wl.done ?_
  refine Ar.next ?_
  refine Wc.ret ?_
  refine Ar.outRet ?_
  refine Ar.passRet ?_
  rotate_left
  refine Wc.seq ?_
  refine Wc.region rfl ?_
  refine Wl.q rfl (Qy.eql rfl rfl) ?_
  refine Wl.q rfl (Qy.assign rfl) ?_
  refine Wl.done ?_
  refine Ar.next ?_
  refine Wc.cond rfl (fun hc4 => ?_) (fun hc4 => ?_)
  refine Wc.skip ?_
  refine Ar.next ?_
  refine Wc.condP rfl (by first | assumption | omega) ?_
  refine Wc.seq ?_
  refine Wc.region rfl ?_
  refine Wl.q rfl (Qy.fieldAddr T.fa72_2 rfl) ?_
  refine Wl.q rfl (Qy.load 0 T.one3 rfl rfl rfl) ?_
  refine Wl.lit (α := Int) 1 [(Go.Sl.Instr.a i)] rfl T.sl23 T.el3 rfl rfl rfl rfl rfl (fun b2 => ?_)
  refine Wl.q rfl (Qy.assign rfl) ?_
  refine Wl.done ?_
  refine Ar.next ?_
  refine Wc.ret ?_
  refine Ar.outRet ?_
  refine Ar.passRet ?_
  rotate_left
  refine Wc.seq ?_
  refine Wc.region rfl ?_
  refine Wl.q rfl (Qy.eql rfl rfl) ?_
  refine Wl.q rfl (Qy.assign rfl) ?_
  refine Wl.done ?_
  refine Ar.next ?_
  refine Wc.cond rfl (fun hc5 => ?_) (fun hc5 => ?_)
  refine Wc.skip ?_
  refine Ar.next ?_
  refine Wc.condP rfl (by first | assumption | omega) ?_
  refine Wc.seq ?_
  refine Wc.region rfl ?_
  refine Wl.q rfl (Qy.fieldAddr T.fa72_2 rfl) ?_
  refine Wl.q rfl (Qy.load 0 T.one3 rfl rfl rfl) ?_
  refine Wl.lit (α := Int) 1 [(Go.Sl.Instr.a i)] rfl T.sl23 T.el3 rfl rfl rfl rfl rfl (fun b2 => ?_)
  refine Wl.q rfl (Qy.assign rfl) ?_
  refine Wl.done ?_
  refine Ar.next ?_
  refine Wc.ret ?_
  refine Ar.outRet ?_
  refine Ar.passRet ?_
  rotate_left
  refine Wc.seq ?_
  refine Wc.region rfl ?_
  refine Wl.q rfl (Qy.eql rfl rfl) ?_
  refine Wl.q rfl (Qy.assign rfl) ?_
  refine Wl.done ?_
  refine Ar.next ?_
  refine Wc.cond rfl (fun hc6 => ?_) (fun hc6 => ?_)
  refine Wc.skip ?_
  refine Ar.next ?_
  refine Wc.condP rfl (by first | assumption | omega) ?_
  refine Wc.seq ?_
  refine Wc.region rfl ?_
  refine Wl.q rfl (Qy.fieldAddr T.fa72_2 rfl) ?_
  refine Wl.q rfl (Qy.load 0 T.one3 rfl rfl rfl) ?_
  refine Wl.lit (α := Int) 1 [(Go.Sl.Instr.a i)] rfl T.sl23 T.el3 rfl rfl rfl rfl rfl (fun b2 => ?_)
  refine Wl.q rfl (Qy.assign rfl) ?_
  refine Wl.done ?_
  refine Ar.next ?_
  refine Wc.ret ?_
  refine Ar.outRet ?_
  refine Ar.passRet ?_
  rotate_left
  refine Wc.seq ?_
  refine Wc.region rfl ?_
  refine Wl.q rfl (Qy.eql rfl rfl) ?_
  refine Wl.q rfl (Qy.assign rfl) ?_
  refine Wl.done ?_
  refine Ar.next ?_
  refine Wc.cond rfl (fun hc7 => ?_) (fun hc7 => ?_)
  refine Wc.skip ?_
  refine Ar.next ?_
  refine Wc.condP rfl (by first | assumption | omega) ?_
  refine Wc.seq ?_
  refine Wc.region rfl ?_
  refine Wl.q rfl (Qy.fieldAddr T.fa72_2 rfl) ?_
  refine Wl.q rfl (Qy.load 0 T.one3 rfl rfl rfl) ?_
  refine Wl.lit (α := Int) 1 [(Go.Sl.Instr.a i)] rfl T.sl23 T.el3 rfl rfl rfl rfl rfl (fun b2 => ?_)
  refine Wl.q rfl (Qy.assign rfl) ?_
  refine Wl.done ?_
  refine Ar.next ?_
  refine Wc.ret ?_
  refine Ar.outRet ?_
  refine Ar.passRet ?_
  rotate_left
  refine Wc.region rfl ?_
  refine Wl.q rfl (Qy.eql rfl rfl) ?_
  refine Wl.q rfl (Qy.assign rfl) ?_
  refine Wl.done ?_
  refine Ar.next ?_
  refine Wc.cond rfl (fun hc8 => ?_) (fun hc8 => ?_)
  refine Wc.seq ?_
  refine Wc.region rfl ?_
  refine Wl.q rfl (Qy.fieldAddr T.fa72_2 rfl) ?_
  refine Wl.q rfl (Qy.load 0 T.one3 rfl rfl rfl) ?_
  refine Wl.lit (α := Int) 1 [(Go.Sl.Instr.a i)] rfl T.sl23 T.el3 rfl rfl rfl rfl rfl (fun b2 => ?_)
  refine Wl.q rfl (Qy.assign rfl) ?_
  refine Wl.done ?_
  refine Ar.next ?_
  refine Wc.ret ?_
  refine Ar.outRet ?_
  refine Ar.passRet ?_
  rotate_left
  refine Wc.skip ?_
  refine Ar.outNormal ?_
  refine Ar.next ?_
  refine Wc.seq ?_
  refine Wc.region rfl ?_
  refine Wl.q rfl (Qy.assign rfl) ?_
  refine Wl.done ?_
  refine Ar.next ?_
  refine Wc.ret ?_
  rotate_left
  rotate_right
  · have h : asks i = [] := by unfold asks; rw [if_neg (by omega), if_neg (by omega)]
    refine Ar.nilRow 1 (Row 3 ([] : List Int) []) ?_
    refine Ar.out1 (.inr rfl) (Ho := Hp.only _ [1]) rfl (.tmp rfl) (Hp.sub_only _ _) ?_
    rw [h]; exact ⟨_, _, _, rfl, OwnA.nil, rfl, rfl⟩
  all_goals first | refine Ar.out1 (.inr rfl) (Ho := Hp.only _ [1]) rfl (.tmp rfl) (Hp.sub_only _ _) ?_
  all_goals first
    | (have h : asks i = [i.a, i.b] := by unfold asks; rw [if_pos (by omega)]
       rw [h]; exact ⟨_, _, _, rfl, OwnA.made (by simp [maxLen]), rfl, rfl⟩)
    | (have h : asks i = [i.a] := by unfold asks; rw [if_neg (by omega), if_pos (by omega)]
       rw [h]; exact ⟨_, _, _, rfl, OwnA.made (by simp [maxLen]), rfl, rfl⟩)
    | skip
def mayOk (i : Sl.Instr) (regs : Int) : Bool :=
  decide (1 ≤ i.op ∧ i.op ≤ 8 ∧ 0 ≤ i.to ∧ i.to < regs ∧ (i.op = 3 ∨ i.op = 4 ∨ i.b = 0)) && constOk i.op i.c && (asks i).all fun r => decide (0 ≤ r ∧ r < regs)
theorem all_step {α : Type} [Inhabited α] (p : α → Bool) {l : List α} {k : Nat} (h : k < l.length) : (l.take (k + 1)).all p = ((l.take k).all p && p (l[((k : Nat) : Int).toNat]?.getD default)) := by
  have : l.take (k + 1) = l.take k ++ [l[((k : Nat) : Int).toNat]?.getD default] := by
    rw [List.take_add_one, Int.toNat_natCast, List.getElem?_eq_getElem h]; rfl
  rw [this, List.all_append]; simp
theorem c88 (G : Imm) (i : Sl.Instr) (regs : Int) : Does Try.prog 88 [.agg (Cells.enc i).toArray, .int .i64 regs] G [] (fun v G' Ho => v = .bool (decide (mayOk i regs = true)) ∧ G' = G ∧ Ho = []) := by
  refine Does.enter Try.func88 rfl Try.ntmps88 rfl (fun w => ?_)
  refine Wc.seq ?_
  refine Wc.region rfl ?_
  refine Wl.box 0 rfl rfl rfl (fun b1 => ?_)
  refine Wl.q rfl (Qy.assign rfl) ?_
  refine Wl.done ?_
  refine Ar.next ?_
  refine Wc.seq ?_
  refine Wc.seq ?_
  refine Wc.region rfl ?_
  refine Wl.q rfl (Qy.fieldAddr T.fa72_0 rfl) ?_
  refine Wl.q rfl (Qy.load 0 T.one3 rfl rfl rfl) ?_
  refine Wl.q rfl (Qy.lss rfl rfl) ?_
  refine Wl.q rfl (Qy.move rfl) ?_
  apply Wl.joinOr 4 10 14 rfl
  intro hg1
  refine Wl.want rfl rfl ?_
  refine Wl.q rfl (Qy.fieldAddr T.fa72_0 rfl) ?_
  refine Wl.want rfl rfl ?_
  refine Wl.q rfl (Qy.load 0 T.one3 rfl rfl rfl) ?_
  refine Wl.want rfl rfl ?_
  refine Wl.q rfl (Qy.gtr rfl rfl) ?_
  refine Wl.q rfl (Qy.pick rfl rfl) ?_
  exact Wl.back 4 0 rfl rfl rfl rfl rfl
  intro hg1
  refine Wl.pass rfl rfl rfl ?_
  refine Wl.pass rfl rfl rfl ?_
  refine Wl.pass rfl rfl rfl ?_
  refine Wl.q rfl (Qy.pick rfl rfl) ?_
  exact Wl.back 4 0 rfl rfl rfl rfl rfl
  refine Wl.q rfl (Qy.move rfl) ?_
  apply Wl.joinOr 4 15 19 rfl
  intro hg1
  refine Wl.want rfl rfl ?_
  refine Wl.q rfl (Qy.fieldAddr T.fa72_1 rfl) ?_
  refine Wl.want rfl rfl ?_
  refine Wl.q rfl (Qy.load 0 T.one3 rfl rfl rfl) ?_
  refine Wl.want rfl rfl ?_
  refine Wl.q rfl (Qy.lss rfl rfl) ?_
  refine Wl.q rfl (Qy.pick rfl rfl) ?_
  exact Wl.back 4 0 rfl rfl rfl rfl rfl
  intro hg1
  refine Wl.pass rfl rfl rfl ?_
  refine Wl.pass rfl rfl rfl ?_
  refine Wl.pass rfl rfl rfl ?_
  refine Wl.q rfl (Qy.pick rfl rfl) ?_
  exact Wl.back 4 0 rfl rfl rfl rfl rfl
  refine Wl.q rfl (Qy.move rfl) ?_
  apply Wl.joinOr 5 20 25 rfl
  intro hg1
  refine Wl.want rfl rfl ?_
  refine Wl.q rfl (Qy.fieldAddr T.fa72_1 rfl) ?_
  refine Wl.want rfl rfl ?_
  refine Wl.q rfl (Qy.load 0 T.one3 rfl rfl rfl) ?_
  refine Wl.want rfl rfl ?_
  refine Wl.q rfl (Qy.move rfl) ?_
  refine Wl.want rfl rfl ?_
  refine Wl.q rfl (Qy.geq rfl rfl) ?_
  refine Wl.q rfl (Qy.pick rfl rfl) ?_
  exact Wl.back 5 0 rfl rfl rfl rfl rfl
  intro hg1
  refine Wl.pass rfl rfl rfl ?_
  refine Wl.pass rfl rfl rfl ?_
  refine Wl.pass rfl rfl rfl ?_
  refine Wl.pass rfl rfl rfl ?_
  refine Wl.q rfl (Qy.pick rfl rfl) ?_
  exact Wl.back 5 0 rfl rfl rfl rfl rfl
  refine Wl.q rfl (Qy.move rfl) ?_
  apply Wl.joinOr 10 26 36 rfl
  intro hg1
  refine Wl.want rfl rfl ?_
  refine Wl.q rfl (Qy.fieldAddr T.fa72_0 rfl) ?_
  refine Wl.want rfl rfl ?_
  refine Wl.q rfl (Qy.load 0 T.one3 rfl rfl rfl) ?_
  refine Wl.want rfl rfl ?_
  refine Wl.call0 rfl T.fn130 rfl (c130 _ _) ?_
  refine Wl.want rfl rfl ?_
  refine Wl.q rfl (Qy.notD rfl) ?_
  refine Wl.want rfl rfl ?_
  refine Wl.q rfl (Qy.move rfl) ?_
  apply Wl.joinAnd 4 31 35 rfl
  intro hg1
  refine Wl.want rfl rfl ?_
  refine Wl.q rfl (Qy.fieldAddr T.fa72_3 rfl) ?_
  refine Wl.want rfl rfl ?_
  refine Wl.q rfl (Qy.load 0 T.one3 rfl rfl rfl) ?_
  refine Wl.want rfl rfl ?_
  refine Wl.q rfl (Qy.neq rfl rfl) ?_
  refine Wl.want rfl rfl ?_
  refine Wl.q rfl (Qy.pick rfl rfl) ?_
  exact Wl.back 4 0 rfl rfl rfl rfl rfl
  intro hg1
  refine Wl.pass rfl rfl rfl ?_
  refine Wl.pass rfl rfl rfl ?_
  refine Wl.pass rfl rfl rfl ?_
  refine Wl.want rfl rfl ?_
  refine Wl.q rfl (Qy.pick rfl rfl) ?_
  exact Wl.back 4 0 rfl rfl rfl rfl rfl
  refine Wl.q rfl (Qy.pick rfl rfl) ?_
  exact Wl.back 7 0 rfl rfl rfl rfl rfl
  intro hg1
  refine Wl.pass rfl rfl rfl ?_
  refine Wl.pass rfl rfl rfl ?_
  refine Wl.pass rfl rfl rfl ?_
  refine Wl.pass rfl rfl rfl ?_
  refine Wl.pass rfl rfl rfl ?_
  refine Wl.passU rfl rfl rfl ?_
  refine Wl.passU rfl rfl rfl ?_
  refine Wl.passU rfl rfl rfl ?_
  refine Wl.pass rfl rfl rfl ?_
  refine Wl.q rfl (Qy.pick rfl rfl) ?_
  exact Wl.back 10 0 rfl rfl rfl rfl rfl
  refine Wl.q rfl (Qy.move rfl) ?_
  apply Wl.joinOr 4 37 41 rfl
  intro hg1
  refine Wl.want rfl rfl ?_
  refine Wl.q rfl (Qy.loadAll 0 T.agg72 rfl rfl rfl) ?_
  refine Wl.want rfl rfl ?_
  refine Wl.call0 rfl T.fn131 rfl (c131 _ _) ?_
  refine Wl.want rfl rfl ?_
  refine Wl.q rfl (Qy.notD rfl) ?_
  refine Wl.q rfl (Qy.pick rfl rfl) ?_
  exact Wl.back 4 0 rfl rfl rfl rfl rfl
  intro hg1
  refine Wl.pass rfl rfl rfl ?_
  refine Wl.pass rfl rfl rfl ?_
  refine Wl.pass rfl rfl rfl ?_
  refine Wl.q rfl (Qy.pick rfl rfl) ?_
  exact Wl.back 4 0 rfl rfl rfl rfl rfl
  refine Wl.done ?_
  refine Ar.next ?_
  refine Wc.cond rfl (fun hc1 => ?_) (fun hc1 => ?_)
  refine Wc.seq ?_
  refine Wc.region rfl ?_
  refine Wl.q rfl (Qy.assign rfl) ?_
  refine Wl.done ?_
  refine Ar.next ?_
  refine Wc.ret ?_
  refine Ar.passRet ?_
  refine Ar.out1 (.inr rfl) (Ho := Hp.only _ []) rfl (.tmp rfl) (Hp.sub_only _ _) ?_
  rotate_left
  refine Wc.skip ?_
  refine Ar.next ?_
  refine Wc.seq ?_
  refine Wc.seq ?_
  refine Wc.region rfl ?_
  refine Wl.q rfl (Qy.loadAll 0 T.agg72 rfl rfl rfl) ?_
  refine Wl.call 1 rfl T.fn59 rfl (c59 _ _) (tags_of trivial) (fun v1 G1 Ho1 hle1 hp => ?_)
  obtain ⟨ad1, cd1, junk1, rfl, hoa1, rfl, rfl⟩ := hp
  refine Wl.q rfl (Qy.len T.sl23 rfl) ?_
  refine Wl.q rfl (Qy.move rfl) ?_
  refine Wl.done ?_
  refine Ar.next ?_
  refine Wc.block ?_
  rotate_left
  · refine ⟨?_, rfl, rfl⟩
    have : mayOk i regs = false := by
      unfold mayOk
      rcases hc1 with ((((h | h) | h) | h) | h) | h
      all_goals first | (rw [decide_eq_false (by omega)]; rfl) | simp [h]
    simp [this]
  · have hasks : (asks i).length ≤ 2 := by unfold asks; split <;> (try split) <;> simp
    refine Wc.loop (ι := Nat) (fun k => ([(45, .int .i64 (k : Int)), (44, Go.Value.int Go.IntKind.i64 (↑(List.length (Go.Proofs.Ytbppmiimeccclaa.asks i)) : Int)), (43, Go.Value.slice ad1 (List.length (Go.Proofs.Ytbppmiimeccclaa.asks i)) cd1), (1, Go.Value.int Go.IntKind.i64 regs)], [(2, Option.map (fun x => Go.Addr.block x) ad1, Go.Sl.Row (α := Int) 3 (Go.Proofs.Ytbppmiimeccclaa.asks i) (junk1)), (0, Option.some b1, Go.Obj.cells (List.toArray (Go.Sl.Cells.enc i)) 72)])) (fun k => k ≤ (asks i).length ∧ ((asks i).take k).all (fun r => decide (0 ≤ r ∧ r < regs)) = true) (fun k => (asks i).length - k) (0) (⟨Nat.zero_le _, rfl⟩) ⟨rfl, rfl, rfl, rfl, trivial⟩ ⟨rfl, rfl, trivial⟩ (fun k => fun (hk : k ≤ (asks i).length ∧ ((asks i).take k).all (fun r => decide (0 ≤ r ∧ r < regs)) = true) => ?_)
    obtain ⟨hk1, hk2⟩ := hk
    refine Wc.seq ?_
    refine Wc.region rfl ?_
    refine Wl.q rfl (Qy.lss rfl rfl) ?_
    refine Wl.done ?_
    refine Ar.next ?_
    refine Wc.seq ?_
    refine Wc.cond rfl (fun hc2 => ?_) (fun hc2 => ?_)
    refine Wc.skip ?_
    refine Ar.next ?_
    refine Wc.seq ?_
    refine Wc.block ?_
    refine Wc.seq ?_
    refine Wc.region rfl ?_
    refine Wl.q rfl (Qy.indexAddrO (α := Int) T.sl23 rfl rfl (by assumption) (by omega)) ?_
    refine Wl.q rfl (Qy.loadO 2 0 T.one3 rfl rfl (by assumption) (by omega) rfl rfl) ?_
    refine Wl.q rfl (Qy.assign rfl) ?_
    refine Wl.done ?_
    refine Ar.next ?_
    refine Wc.seq ?_
    refine Wc.region rfl ?_
    refine Wl.q rfl (Qy.move rfl) ?_
    refine Wl.q rfl (Qy.lss rfl rfl) ?_
    refine Wl.q rfl (Qy.move rfl) ?_
    apply Wl.joinOr 4 51 55 rfl
    intro hg1
    refine Wl.want rfl rfl ?_
    refine Wl.q rfl (Qy.move rfl) ?_
    refine Wl.want rfl rfl ?_
    refine Wl.q rfl (Qy.move rfl) ?_
    refine Wl.want rfl rfl ?_
    refine Wl.q rfl (Qy.geq rfl rfl) ?_
    refine Wl.q rfl (Qy.pick rfl rfl) ?_
    exact Wl.back 4 0 rfl rfl rfl rfl rfl
    intro hg1
    refine Wl.pass rfl rfl rfl ?_
    refine Wl.pass rfl rfl rfl ?_
    refine Wl.pass rfl rfl rfl ?_
    refine Wl.q rfl (Qy.pick rfl rfl) ?_
    exact Wl.back 4 0 rfl rfl rfl rfl rfl
    refine Wl.done ?_
    refine Ar.next ?_
    refine Wc.cond rfl (fun hc3 => ?_) (fun hc3 => ?_)
    refine Wc.seq ?_
    refine Wc.region rfl ?_
    refine Wl.q rfl (Qy.assign rfl) ?_
    refine Wl.done ?_
    refine Ar.next ?_
    refine Wc.ret ?_
    refine Ar.outRet ?_
    refine Ar.passRet ?_
    refine Ar.passRet ?_
    refine Ar.outRet ?_
    refine Ar.passRet ?_
    refine Ar.out1 (.inr rfl) (Ho := Hp.only _ []) rfl (.tmp rfl) (Hp.sub_only _ _) ?_
    rotate_left
    refine Wc.skip ?_
    refine Ar.outNormal ?_
    refine Ar.next ?_
    refine Wc.region rfl ?_
    refine Wl.q rfl (Qy.add rfl rfl (by omega)) ?_
    refine Wl.q rfl (Qy.move rfl) ?_
    refine Wl.done ?_
    rotate_left
    refine Wc.exit ?_
    refine Ar.passExit ?_
    refine Ar.passExit ?_
    refine Ar.here ?_
    refine Ar.next ?_
    refine Wc.seq ?_
    refine Wc.region rfl ?_
    refine Wl.q rfl (Qy.assign rfl) ?_
    refine Wl.done ?_
    refine Ar.next ?_
    refine Wc.ret ?_
    refine Ar.out1 (.inr rfl) (Ho := Hp.only _ []) rfl (.tmp rfl) (Hp.sub_only _ _) ?_
    rotate_left
    · refine ⟨?_, rfl, rfl⟩
      have hl : k < (asks i).length := by omega
      have hx : (asks i)[((k : Nat) : Int).toNat]?.getD default ∈ asks i := by rw [Int.toNat_natCast, List.getElem?_eq_getElem hl]; simp
      have hf : ((asks i).all fun r => decide (0 ≤ r ∧ r < regs)) = false := by
        rw [List.all_eq_false]
        exact ⟨_, hx, by simp only [decide_eq_true_eq]; omega⟩
      have : mayOk i regs = false := by unfold mayOk; rw [hf]; simp
      simp [this]
    · refine Ar.again (k + 1) ?_ ?_ rfl ⟨rfl, rfl, rfl, rfl, trivial⟩ ⟨rfl, rfl, trivial⟩
      · refine ⟨by omega, ?_⟩
        rw [all_step _ (by omega), hk2]
        simp only [Bool.true_and, decide_eq_true_eq]
        omega
      · omega
    · refine ⟨?_, rfl, rfl⟩
      have hk : k = (asks i).length := by omega
      subst hk
      rw [List.take_length] at hk2
      have : mayOk i regs = true := by
        unfold mayOk
        rw [hk2]
        simp only [not_or] at hc1
        simp only [Bool.and_true, Bool.and_eq_true, decide_eq_true_eq]
        refine ⟨by omega, ?_⟩
        have := hc1.2
        simpa using this
      simp [this]
structure PV where
  ins : Int
  regs : Int
  code : List Sl.Instr
  outs : List Int
def headOk (p : PV) : Bool := decide (1 ≤ p.ins ∧ p.ins ≤ p.regs ∧ p.regs ≤ 128 ∧ p.code.length ≤ 16384 ∧ 1 ≤ p.outs.length ∧ p.outs.length ≤ 128) && p.outs.all fun r => decide (0 ≤ r ∧ r < p.regs)
def badAt (p : PV) : Option Nat := p.code.findIdx? fun i => !mayOk i p.regs
/-- which instruction is the first that may not be, and whether there is one -/
def checkP (p : PV) : Int × Bool := if headOk p = false then (-1, true) else match badAt p with | some k => (k, true) | none => (0, false)
theorem find_bad {α : Type} [Inhabited α] {p : α → Bool} {l : List α} {k : Nat} (h : k < l.length) (h1 : (l.take k).all p = true) (h2 : ¬ p (l[((k : Nat) : Int).toNat]?.getD default) = true) : l.findIdx? (fun i => !p i) = some k := by
  rw [List.findIdx?_eq_some_iff_getElem]
  rw [Int.toNat_natCast, List.getElem?_eq_getElem h, Option.getD_some] at h2
  refine ⟨h, by simpa using h2, fun j hj => ?_⟩
  have hm : l[j]'(by omega) ∈ l.take k := by rw [List.mem_take_iff_getElem]; exact ⟨j, by omega, rfl⟩
  have := List.all_eq_true.1 h1 _ hm
  simpa using this
theorem find_none {α : Type} {p : α → Bool} {l : List α} (h1 : l.all p = true) : l.findIdx? (fun i => !p i) = none := by
  rw [List.findIdx?_eq_none_iff]
  intro x hx
  simpa using List.all_eq_true.1 h1 x hx
theorem c40 (G : Imm) (p : PV) (ac ao : Option Addr) (cc co : Nat) (hc : Arr G ac p.code) (ho : Arr G ao p.outs) (h1 : p.code.length ≤ 1099511627776) (h2 : p.outs.length ≤ 1099511627776) :
    Does Try.prog 40 [.agg #[.int .i64 p.ins, .int .i64 p.regs, .slice ac p.code.length cc, .slice ao p.outs.length co]] G [] (fun v G' Ho => v = .tuple #[.int .i64 (checkP p).1, .int .i64 (if (checkP p).2 then 80 else 0)] ∧ G' = G ∧ Ho = []) := by
  refine Does.enter Try.func40 rfl Try.ntmps40 rfl (fun w => ?_)
  refine Wc.seq ?_
  refine Wc.region rfl ?_
  refine Wl.box 0 rfl rfl rfl (fun b1 => ?_)
  refine Wl.q rfl (Qy.assign rfl) ?_
  refine Wl.q rfl (Qy.assign rfl) ?_
  refine Wl.done ?_
  refine Ar.next ?_
  refine Wc.seq ?_
  refine Wc.seq ?_
  refine Wc.region rfl ?_
  refine Wl.q rfl (Qy.fieldAddr T.fa25_0 rfl) ?_
  refine Wl.q rfl (Qy.load 0 T.one3 rfl rfl rfl) ?_
  refine Wl.q rfl (Qy.lss rfl rfl) ?_
  refine Wl.q rfl (Qy.move rfl) ?_
  apply Wl.joinOr 6 11 17 rfl
  intro hg1
  refine Wl.want rfl rfl ?_
  refine Wl.q rfl (Qy.fieldAddr T.fa25_0 rfl) ?_
  refine Wl.want rfl rfl ?_
  refine Wl.q rfl (Qy.load 0 T.one3 rfl rfl rfl) ?_
  refine Wl.want rfl rfl ?_
  refine Wl.q rfl (Qy.fieldAddr T.fa25_1 rfl) ?_
  refine Wl.want rfl rfl ?_
  refine Wl.q rfl (Qy.load 0 T.one3 rfl rfl rfl) ?_
  refine Wl.want rfl rfl ?_
  refine Wl.q rfl (Qy.gtr rfl rfl) ?_
  refine Wl.q rfl (Qy.pick rfl rfl) ?_
  exact Wl.back 6 0 rfl rfl rfl rfl rfl
  intro hg1
  refine Wl.pass rfl rfl rfl ?_
  refine Wl.pass rfl rfl rfl ?_
  refine Wl.pass rfl rfl rfl ?_
  refine Wl.pass rfl rfl rfl ?_
  refine Wl.pass rfl rfl rfl ?_
  refine Wl.q rfl (Qy.pick rfl rfl) ?_
  exact Wl.back 6 0 rfl rfl rfl rfl rfl
  refine Wl.q rfl (Qy.move rfl) ?_
  apply Wl.joinOr 4 18 22 rfl
  intro hg1
  refine Wl.want rfl rfl ?_
  refine Wl.q rfl (Qy.fieldAddr T.fa25_1 rfl) ?_
  refine Wl.want rfl rfl ?_
  refine Wl.q rfl (Qy.load 0 T.one3 rfl rfl rfl) ?_
  refine Wl.want rfl rfl ?_
  refine Wl.q rfl (Qy.gtr rfl rfl) ?_
  refine Wl.q rfl (Qy.pick rfl rfl) ?_
  exact Wl.back 4 0 rfl rfl rfl rfl rfl
  intro hg1
  refine Wl.pass rfl rfl rfl ?_
  refine Wl.pass rfl rfl rfl ?_
  refine Wl.pass rfl rfl rfl ?_
  refine Wl.q rfl (Qy.pick rfl rfl) ?_
  exact Wl.back 4 0 rfl rfl rfl rfl rfl
  refine Wl.q rfl (Qy.move rfl) ?_
  apply Wl.joinOr 5 23 28 rfl
  intro hg1
  refine Wl.want rfl rfl ?_
  refine Wl.q rfl (Qy.fieldAddr T.fa25_2 rfl) ?_
  refine Wl.want rfl rfl ?_
  refine Wl.q rfl (Qy.load 0 T.one22 rfl rfl rfl) ?_
  refine Wl.want rfl rfl ?_
  refine Wl.q rfl (Qy.len T.sl22 rfl) ?_
  refine Wl.want rfl rfl ?_
  refine Wl.q rfl (Qy.gtr rfl rfl) ?_
  refine Wl.q rfl (Qy.pick rfl rfl) ?_
  exact Wl.back 5 0 rfl rfl rfl rfl rfl
  intro hg1
  refine Wl.pass rfl rfl rfl ?_
  refine Wl.pass rfl rfl rfl ?_
  refine Wl.pass rfl rfl rfl ?_
  refine Wl.pass rfl rfl rfl ?_
  refine Wl.q rfl (Qy.pick rfl rfl) ?_
  exact Wl.back 5 0 rfl rfl rfl rfl rfl
  refine Wl.q rfl (Qy.move rfl) ?_
  apply Wl.joinOr 5 29 34 rfl
  intro hg1
  refine Wl.want rfl rfl ?_
  refine Wl.q rfl (Qy.fieldAddr T.fa25_3 rfl) ?_
  refine Wl.want rfl rfl ?_
  refine Wl.q rfl (Qy.load 0 T.one23 rfl rfl rfl) ?_
  refine Wl.want rfl rfl ?_
  refine Wl.q rfl (Qy.len T.sl23 rfl) ?_
  refine Wl.want rfl rfl ?_
  refine Wl.q rfl (Qy.lss rfl rfl) ?_
  refine Wl.q rfl (Qy.pick rfl rfl) ?_
  exact Wl.back 5 0 rfl rfl rfl rfl rfl
  intro hg1
  refine Wl.pass rfl rfl rfl ?_
  refine Wl.pass rfl rfl rfl ?_
  refine Wl.pass rfl rfl rfl ?_
  refine Wl.pass rfl rfl rfl ?_
  refine Wl.q rfl (Qy.pick rfl rfl) ?_
  exact Wl.back 5 0 rfl rfl rfl rfl rfl
  refine Wl.q rfl (Qy.move rfl) ?_
  apply Wl.joinOr 5 35 40 rfl
  intro hg1
  refine Wl.want rfl rfl ?_
  refine Wl.q rfl (Qy.fieldAddr T.fa25_3 rfl) ?_
  refine Wl.want rfl rfl ?_
  refine Wl.q rfl (Qy.load 0 T.one23 rfl rfl rfl) ?_
  refine Wl.want rfl rfl ?_
  refine Wl.q rfl (Qy.len T.sl23 rfl) ?_
  refine Wl.want rfl rfl ?_
  refine Wl.q rfl (Qy.gtr rfl rfl) ?_
  refine Wl.q rfl (Qy.pick rfl rfl) ?_
  exact Wl.back 5 0 rfl rfl rfl rfl rfl
  intro hg1
  refine Wl.pass rfl rfl rfl ?_
  refine Wl.pass rfl rfl rfl ?_
  refine Wl.pass rfl rfl rfl ?_
  refine Wl.pass rfl rfl rfl ?_
  refine Wl.q rfl (Qy.pick rfl rfl) ?_
  exact Wl.back 5 0 rfl rfl rfl rfl rfl
  refine Wl.done ?_
  refine Ar.next ?_
  refine Wc.cond rfl (fun hc1 => ?_) (fun hc1 => ?_)
  refine Wc.seq ?_
  refine Wc.region rfl ?_
  refine Wl.q rfl (Qy.assign rfl) ?_
  refine Wl.q rfl (Qy.assign rfl) ?_
  refine Wl.done ?_
  refine Ar.next ?_
  refine Wc.ret ?_
  refine Ar.passRet ?_
  refine Ar.out2 (.inr rfl) (Ho := Hp.only _ []) rfl (.tmp rfl) (.tmp rfl) (Hp.sub_only _ _) ?_
  rotate_left
  refine Wc.skip ?_
  refine Ar.next ?_
  refine Wc.seq ?_
  refine Wc.seq ?_
  refine Wc.region rfl ?_
  refine Wl.q rfl (Qy.fieldAddr T.fa25_3 rfl) ?_
  refine Wl.q rfl (Qy.load 0 T.one23 rfl rfl rfl) ?_
  refine Wl.q rfl (Qy.len T.sl23 rfl) ?_
  refine Wl.q rfl (Qy.move rfl) ?_
  refine Wl.done ?_
  refine Ar.next ?_
  refine Wc.block ?_
  rotate_left
  · refine ⟨?_, rfl, rfl⟩
    have : headOk p = false := by unfold headOk; rw [decide_eq_false (by omega)]; rfl
    simp [checkP, this]
  · refine Wc.loop (ι := Nat) (fun k => ([(44, .int .i64 (k : Int)), (43, Go.Value.int Go.IntKind.i64 (↑(List.length (Go.Proofs.Ytbppmiimeccclaa.PV.outs p)) : Int)), (42, Go.Value.slice ao (List.length (Go.Proofs.Ytbppmiimeccclaa.PV.outs p)) co), (1, Go.Value.pointer (Option.some (Go.Addr.mk b1 0 Option.none)))], [(0, Option.some b1, Go.Obj.cells #[Go.Value.int Go.IntKind.i64 (Go.Proofs.Ytbppmiimeccclaa.PV.ins p), Go.Value.int Go.IntKind.i64 (Go.Proofs.Ytbppmiimeccclaa.PV.regs p), Go.Value.slice ac (List.length (Go.Proofs.Ytbppmiimeccclaa.PV.code p)) cc, Go.Value.slice ao (List.length (Go.Proofs.Ytbppmiimeccclaa.PV.outs p)) co] 25)])) (fun k => k ≤ p.outs.length ∧ (p.outs.take k).all (fun r => decide (0 ≤ r ∧ r < p.regs)) = true) (fun k => p.outs.length - k) (0) (⟨Nat.zero_le _, rfl⟩) ⟨rfl, rfl, rfl, rfl, trivial⟩ ⟨rfl, trivial⟩ (fun k => fun (hk : k ≤ p.outs.length ∧ (p.outs.take k).all (fun r => decide (0 ≤ r ∧ r < p.regs)) = true) => ?_)
    obtain ⟨hk1, hk2⟩ := hk
    refine Wc.seq ?_
    refine Wc.region rfl ?_
    refine Wl.q rfl (Qy.lss rfl rfl) ?_
    refine Wl.done ?_
    refine Ar.next ?_
    refine Wc.seq ?_
    refine Wc.cond rfl (fun hc2 => ?_) (fun hc2 => ?_)
    refine Wc.skip ?_
    refine Ar.next ?_
    refine Wc.seq ?_
    refine Wc.block ?_
    refine Wc.seq ?_
    refine Wc.region rfl ?_
    refine Wl.q rfl (Qy.at (α := Int) T.sl23 rfl rfl (by assumption) (by omega)) ?_
    refine Wl.q rfl (Qy.loadG T.one3 rfl (Arr.cell (by assumption) (by omega) 0 rfl rfl)) ?_
    refine Wl.q rfl (Qy.assign rfl) ?_
    refine Wl.done ?_
    refine Ar.next ?_
    refine Wc.seq ?_
    refine Wc.region rfl ?_
    refine Wl.q rfl (Qy.move rfl) ?_
    refine Wl.q rfl (Qy.lss rfl rfl) ?_
    refine Wl.q rfl (Qy.move rfl) ?_
    apply Wl.joinOr 5 50 55 rfl
    intro hg1
    refine Wl.want rfl rfl ?_
    refine Wl.q rfl (Qy.move rfl) ?_
    refine Wl.want rfl rfl ?_
    refine Wl.q rfl (Qy.fieldAddr T.fa25_1 rfl) ?_
    refine Wl.want rfl rfl ?_
    refine Wl.q rfl (Qy.load 0 T.one3 rfl rfl rfl) ?_
    refine Wl.want rfl rfl ?_
    refine Wl.q rfl (Qy.geq rfl rfl) ?_
    refine Wl.q rfl (Qy.pick rfl rfl) ?_
    exact Wl.back 5 0 rfl rfl rfl rfl rfl
    intro hg1
    refine Wl.pass rfl rfl rfl ?_
    refine Wl.pass rfl rfl rfl ?_
    refine Wl.pass rfl rfl rfl ?_
    refine Wl.pass rfl rfl rfl ?_
    refine Wl.q rfl (Qy.pick rfl rfl) ?_
    exact Wl.back 5 0 rfl rfl rfl rfl rfl
    refine Wl.done ?_
    refine Ar.next ?_
    refine Wc.cond rfl (fun hc3 => ?_) (fun hc3 => ?_)
    refine Wc.seq ?_
    refine Wc.region rfl ?_
    refine Wl.q rfl (Qy.assign rfl) ?_
    refine Wl.q rfl (Qy.assign rfl) ?_
    refine Wl.done ?_
    refine Ar.next ?_
    refine Wc.ret ?_
    refine Ar.outRet ?_
    refine Ar.passRet ?_
    refine Ar.passRet ?_
    refine Ar.outRet ?_
    refine Ar.passRet ?_
    refine Ar.out2 (.inr rfl) (Ho := Hp.only _ []) rfl (.tmp rfl) (.tmp rfl) (Hp.sub_only _ _) ?_
    rotate_left
    refine Wc.skip ?_
    refine Ar.outNormal ?_
    refine Ar.next ?_
    refine Wc.region rfl ?_
    refine Wl.q rfl (Qy.add rfl rfl (by omega)) ?_
    refine Wl.q rfl (Qy.move rfl) ?_
    refine Wl.done ?_
    rotate_left
    refine Wc.exit ?_
    refine Ar.passExit ?_
    refine Ar.passExit ?_
    refine Ar.here ?_
    refine Ar.next ?_
    refine Wc.seq ?_
    refine Wc.seq ?_
    refine Wc.region rfl ?_
    refine Wl.q rfl (Qy.fieldAddr T.fa25_2 rfl) ?_
    refine Wl.q rfl (Qy.load 0 T.one22 rfl rfl rfl) ?_
    refine Wl.q rfl (Qy.len T.sl22 rfl) ?_
    refine Wl.q rfl (Qy.move rfl) ?_
    refine Wl.done ?_
    refine Ar.next ?_
    refine Wc.block ?_
    rotate_left
    · refine ⟨?_, rfl, rfl⟩
      have hl : k < p.outs.length := by omega
      have hx : p.outs[((k : Nat) : Int).toNat]?.getD default ∈ p.outs := by rw [Int.toNat_natCast, List.getElem?_eq_getElem hl]; simp
      have hf : (p.outs.all fun r => decide (0 ≤ r ∧ r < p.regs)) = false := by
        rw [List.all_eq_false]
        exact ⟨_, hx, by simp only [decide_eq_true_eq]; omega⟩
      have : headOk p = false := by unfold headOk; rw [hf, Bool.and_false]
      simp [checkP, this]
    · refine Ar.again (k + 1) ?_ ?_ rfl ⟨rfl, rfl, rfl, rfl, trivial⟩ ⟨rfl, trivial⟩
      · refine ⟨by omega, ?_⟩
        rw [all_step _ (by omega), hk2]
        simp only [Bool.true_and, decide_eq_true_eq]
        omega
      · omega
    · have hk : k = p.outs.length := by omega
      subst hk
      rw [List.take_length] at hk2
      have hh : headOk p = true := by
        unfold headOk
        rw [hk2, Bool.and_true, decide_eq_true_eq]
        omega
      clear hk1 hk2 hc2
      refine Wc.loop (ι := Nat) (fun k => ([(60, .int .i64 (k : Int)), (59, Go.Value.int Go.IntKind.i64 (↑(List.length (Go.Proofs.Ytbppmiimeccclaa.PV.code p)) : Int)), (58, Go.Value.slice ac (List.length (Go.Proofs.Ytbppmiimeccclaa.PV.code p)) cc), (1, Go.Value.pointer (Option.some (Go.Addr.mk b1 0 Option.none)))], [(0, Option.some b1, Go.Obj.cells #[Go.Value.int Go.IntKind.i64 (Go.Proofs.Ytbppmiimeccclaa.PV.ins p), Go.Value.int Go.IntKind.i64 (Go.Proofs.Ytbppmiimeccclaa.PV.regs p), Go.Value.slice ac (List.length (Go.Proofs.Ytbppmiimeccclaa.PV.code p)) cc, Go.Value.slice ao (List.length (Go.Proofs.Ytbppmiimeccclaa.PV.outs p)) co] 25)])) (fun k => k ≤ p.code.length ∧ (p.code.take k).all (fun i => mayOk i p.regs) = true) (fun k => p.code.length - k) (0) (⟨Nat.zero_le _, rfl⟩) ⟨rfl, rfl, rfl, rfl, trivial⟩ ⟨rfl, trivial⟩ (fun k => fun (hk : k ≤ p.code.length ∧ (p.code.take k).all (fun i => mayOk i p.regs) = true) => ?_)
      obtain ⟨hk1, hk2⟩ := hk
      refine Wc.seq ?_
      refine Wc.region rfl ?_
      refine Wl.q rfl (Qy.lss rfl rfl) ?_
      refine Wl.done ?_
      refine Ar.next ?_
      refine Wc.seq ?_
      refine Wc.cond rfl (fun hc2 => ?_) (fun hc2 => ?_)
      refine Wc.skip ?_
      refine Ar.next ?_
      refine Wc.seq ?_
      refine Wc.block ?_
      refine Wc.seq ?_
      refine Wc.region rfl ?_
      refine Wl.q rfl (Qy.move rfl) ?_
      refine Wl.q rfl (Qy.at (α := Instr) T.sl22 rfl rfl (by assumption) (by omega)) ?_
      refine Wl.q rfl (Qy.loadsG T.agg72 rfl (Arr.elem (by assumption) (by omega)) rfl) ?_
      refine Wl.alloc 1 rfl T.zero72 (fun b2 => ?_)
      refine Wl.q rfl (Qy.assign rfl) ?_
      refine Wl.storeAll 1 T.size72 rfl rfl rfl rfl rfl rfl ?_
      refine Wl.done ?_
      refine Ar.next ?_
      refine Wc.seq ?_
      refine Wc.region rfl ?_
      refine Wl.q rfl (Qy.loadAll 1 T.agg72 rfl rfl rfl) ?_
      refine Wl.q rfl (Qy.fieldAddr T.fa25_1 rfl) ?_
      refine Wl.q rfl (Qy.load 0 T.one3 rfl rfl rfl) ?_
      refine Wl.call0 rfl T.fn88 rfl (c88 _ _ _) ?_
      refine Wl.q rfl (Qy.notD rfl) ?_
      refine Wl.done ?_
      refine Ar.next ?_
      refine Wc.cond rfl (fun hc3 => ?_) (fun hc3 => ?_)
      refine Wc.seq ?_
      refine Wc.region rfl ?_
      refine Wl.q rfl (Qy.move rfl) ?_
      refine Wl.q rfl (Qy.assign rfl) ?_
      refine Wl.q rfl (Qy.assign rfl) ?_
      refine Wl.done ?_
      refine Ar.next ?_
      refine Wc.ret ?_
      refine Ar.outRet ?_
      refine Ar.passRet ?_
      refine Ar.passRet ?_
      refine Ar.outRet ?_
      refine Ar.passRet ?_
      refine Ar.out2 (.inr rfl) (Ho := Hp.only _ []) rfl (.tmp rfl) (.tmp rfl) (Hp.sub_only _ _) ?_
      rotate_left
      refine Wc.skip ?_
      refine Ar.outNormal ?_
      refine Ar.next ?_
      refine Wc.region rfl ?_
      refine Wl.q rfl (Qy.add rfl rfl (by omega)) ?_
      refine Wl.q rfl (Qy.move rfl) ?_
      refine Wl.done ?_
      rotate_left
      refine Wc.exit ?_
      refine Ar.passExit ?_
      refine Ar.passExit ?_
      refine Ar.here ?_
      refine Ar.next ?_
      refine Wc.seq ?_
      refine Wc.region rfl ?_
      refine Wl.q rfl (Qy.assign rfl) ?_
      refine Wl.q rfl (Qy.assign rfl) ?_
      refine Wl.done ?_
      refine Ar.next ?_
      refine Wc.ret ?_
      refine Ar.out2 (.inr rfl) (Ho := Hp.only _ []) rfl (.tmp rfl) (.tmp rfl) (Hp.sub_only _ _) ?_
      rotate_left
      · refine ⟨?_, rfl, rfl⟩
        have hl : k < p.code.length := by omega
        have : badAt p = some k := find_bad hl hk2 hc3
        simp [checkP, hh, this]
      · refine Ar.again (k + 1) ?_ ?_ rfl ⟨rfl, rfl, rfl, rfl, trivial⟩ ⟨rfl, trivial⟩
        · refine ⟨by omega, ?_⟩
          rw [all_step _ (by omega), hk2]
          simpa using hc3
        · omega
      · refine ⟨?_, rfl, rfl⟩
        have hk : k = p.code.length := by omega
        subst hk
        rw [List.take_length] at hk2
        have : badAt p = none := find_none hk2
        simp [checkP, hh, this]
def rightP (p : PV) : Bool := !(checkP p).2
theorem mayOk_iff (i : Sl.Instr) (regs : Int) : mayOk i regs = true ↔ (1 ≤ i.op ∧ i.op ≤ 8 ∧ 0 ≤ i.to ∧ i.to < regs ∧ 0 ≤ i.a ∧ i.a < regs) ∧
    (if i.op = 3 ∨ i.op = 4 then 0 ≤ i.b ∧ i.b < regs ∧ i.c = 0 else i.b = 0 ∧ (if i.op = 5 ∨ i.op = 6 then i.c ≠ 0 ∧ -512 ≤ i.c ∧ i.c ≤ 512 else if i.op = 7 ∨ i.op = 8 then 1 ≤ i.c ∧ i.c ≤ 64 else i.c = 0)) := by
  unfold mayOk constOk asks
  by_cases h3 : i.op = 3 ∨ i.op = 4
  · have h5 : ¬ (i.op = 5 ∨ i.op = 6) := by omega
    have h7 : ¬ (i.op = 7 ∨ i.op = 8) := by omega
    simp only [if_pos h3, if_neg h5, if_neg h7, List.all_cons, List.all_nil, Bool.and_true, Bool.and_eq_true, decide_eq_true_eq]
    omega
  · by_cases h1 : 1 ≤ i.op ∧ i.op ≤ 8
    · simp only [if_neg h3, if_pos h1, List.all_cons, List.all_nil, Bool.and_true, Bool.and_eq_true, decide_eq_true_eq]
      by_cases h5 : i.op = 5 ∨ i.op = 6
      · simp only [if_pos h5, decide_eq_true_eq]; omega
      · by_cases h7 : i.op = 7 ∨ i.op = 8
        · simp only [if_neg h5, if_pos h7, decide_eq_true_eq]; omega
        · simp only [if_neg h5, if_neg h7, decide_eq_true_eq]; omega
    · simp only [if_neg h3, if_neg h1, List.all_nil, Bool.and_true, Bool.and_eq_true, decide_eq_true_eq]
      constructor <;> (intro h; omega)
theorem c89 (G : Imm) (i : Sl.Instr) (regs : Int) : Does Try.prog 89 [.agg (Cells.enc i).toArray, .int .i64 regs] G [] (fun v G' Ho => v = .bool (decide (mayOk i regs = true)) ∧ G' = G ∧ Ho = []) := by
  refine Does.enter Try.func89 rfl Try.ntmps89 rfl (fun w => ?_)
  refine Wc.seq ?_
  refine Wc.region rfl ?_
  refine Wl.box 0 rfl rfl rfl (fun b1 => ?_)
  refine Wl.q rfl (Qy.assign rfl) ?_
  refine Wl.done ?_
  refine Ar.next ?_
  refine Wc.seq ?_
  refine Wc.seq ?_
  refine Wc.region rfl ?_
  refine Wl.q rfl (Qy.fieldAddr T.fa72_0 rfl) ?_
  refine Wl.q rfl (Qy.load 0 T.one3 rfl rfl rfl) ?_
  refine Wl.q rfl (Qy.lss rfl rfl) ?_
  refine Wl.q rfl (Qy.move rfl) ?_
  apply Wl.joinOr 4 8 12 rfl
  intro hg1
  refine Wl.want rfl rfl ?_
  refine Wl.q rfl (Qy.fieldAddr T.fa72_0 rfl) ?_
  refine Wl.want rfl rfl ?_
  refine Wl.q rfl (Qy.load 0 T.one3 rfl rfl rfl) ?_
  refine Wl.want rfl rfl ?_
  refine Wl.q rfl (Qy.gtr rfl rfl) ?_
  refine Wl.q rfl (Qy.pick rfl rfl) ?_
  exact Wl.back 4 0 rfl rfl rfl rfl rfl
  intro hg1
  refine Wl.pass rfl rfl rfl ?_
  refine Wl.pass rfl rfl rfl ?_
  refine Wl.pass rfl rfl rfl ?_
  refine Wl.q rfl (Qy.pick rfl rfl) ?_
  exact Wl.back 4 0 rfl rfl rfl rfl rfl
  refine Wl.q rfl (Qy.move rfl) ?_
  apply Wl.joinOr 4 13 17 rfl
  intro hg1
  refine Wl.want rfl rfl ?_
  refine Wl.q rfl (Qy.fieldAddr T.fa72_1 rfl) ?_
  refine Wl.want rfl rfl ?_
  refine Wl.q rfl (Qy.load 0 T.one3 rfl rfl rfl) ?_
  refine Wl.want rfl rfl ?_
  refine Wl.q rfl (Qy.lss rfl rfl) ?_
  refine Wl.q rfl (Qy.pick rfl rfl) ?_
  exact Wl.back 4 0 rfl rfl rfl rfl rfl
  intro hg1
  refine Wl.pass rfl rfl rfl ?_
  refine Wl.pass rfl rfl rfl ?_
  refine Wl.pass rfl rfl rfl ?_
  refine Wl.q rfl (Qy.pick rfl rfl) ?_
  exact Wl.back 4 0 rfl rfl rfl rfl rfl
  refine Wl.q rfl (Qy.move rfl) ?_
  apply Wl.joinOr 5 18 23 rfl
  intro hg1
  refine Wl.want rfl rfl ?_
  refine Wl.q rfl (Qy.fieldAddr T.fa72_1 rfl) ?_
  refine Wl.want rfl rfl ?_
  refine Wl.q rfl (Qy.load 0 T.one3 rfl rfl rfl) ?_
  refine Wl.want rfl rfl ?_
  refine Wl.q rfl (Qy.move rfl) ?_
  refine Wl.want rfl rfl ?_
  refine Wl.q rfl (Qy.geq rfl rfl) ?_
  refine Wl.q rfl (Qy.pick rfl rfl) ?_
  exact Wl.back 5 0 rfl rfl rfl rfl rfl
  intro hg1
  refine Wl.pass rfl rfl rfl ?_
  refine Wl.pass rfl rfl rfl ?_
  refine Wl.pass rfl rfl rfl ?_
  refine Wl.pass rfl rfl rfl ?_
  refine Wl.q rfl (Qy.pick rfl rfl) ?_
  exact Wl.back 5 0 rfl rfl rfl rfl rfl
  refine Wl.q rfl (Qy.move rfl) ?_
  apply Wl.joinOr 4 24 28 rfl
  intro hg1
  refine Wl.want rfl rfl ?_
  refine Wl.q rfl (Qy.fieldAddr T.fa72_2 rfl) ?_
  refine Wl.want rfl rfl ?_
  refine Wl.q rfl (Qy.load 0 T.one3 rfl rfl rfl) ?_
  refine Wl.want rfl rfl ?_
  refine Wl.q rfl (Qy.lss rfl rfl) ?_
  refine Wl.q rfl (Qy.pick rfl rfl) ?_
  exact Wl.back 4 0 rfl rfl rfl rfl rfl
  intro hg1
  refine Wl.pass rfl rfl rfl ?_
  refine Wl.pass rfl rfl rfl ?_
  refine Wl.pass rfl rfl rfl ?_
  refine Wl.q rfl (Qy.pick rfl rfl) ?_
  exact Wl.back 4 0 rfl rfl rfl rfl rfl
  refine Wl.q rfl (Qy.move rfl) ?_
  apply Wl.joinOr 5 29 34 rfl
  intro hg1
  refine Wl.want rfl rfl ?_
  refine Wl.q rfl (Qy.fieldAddr T.fa72_2 rfl) ?_
  refine Wl.want rfl rfl ?_
  refine Wl.q rfl (Qy.load 0 T.one3 rfl rfl rfl) ?_
  refine Wl.want rfl rfl ?_
  refine Wl.q rfl (Qy.move rfl) ?_
  refine Wl.want rfl rfl ?_
  refine Wl.q rfl (Qy.geq rfl rfl) ?_
  refine Wl.q rfl (Qy.pick rfl rfl) ?_
  exact Wl.back 5 0 rfl rfl rfl rfl rfl
  intro hg1
  refine Wl.pass rfl rfl rfl ?_
  refine Wl.pass rfl rfl rfl ?_
  refine Wl.pass rfl rfl rfl ?_
  refine Wl.pass rfl rfl rfl ?_
  refine Wl.q rfl (Qy.pick rfl rfl) ?_
  exact Wl.back 5 0 rfl rfl rfl rfl rfl
  refine Wl.done ?_
  refine Ar.next ?_
  refine Wc.cond rfl (fun hc1 => ?_) (fun hc1 => ?_)
  refine Wc.seq ?_
  refine Wc.region rfl ?_
  refine Wl.q rfl (Qy.assign rfl) ?_
  refine Wl.done ?_
  refine Ar.next ?_
  refine Wc.ret ?_
  refine Ar.passRet ?_
  refine Ar.out1 (.inr rfl) (Ho := Hp.only _ []) rfl (.tmp rfl) (Hp.sub_only _ _) ?_
  rotate_left
  refine Wc.skip ?_
  refine Ar.next ?_
  refine Wc.seq ?_
  refine Wc.seq ?_
  refine Wc.region rfl ?_
  refine Wl.q rfl (Qy.fieldAddr T.fa72_0 rfl) ?_
  refine Wl.q rfl (Qy.load 0 T.one3 rfl rfl rfl) ?_
  refine Wl.q rfl (Qy.eql rfl rfl) ?_
  refine Wl.q rfl (Qy.move rfl) ?_
  apply Wl.joinOr 4 38 42 rfl
  intro hg1
  refine Wl.want rfl rfl ?_
  refine Wl.q rfl (Qy.fieldAddr T.fa72_0 rfl) ?_
  refine Wl.want rfl rfl ?_
  refine Wl.q rfl (Qy.load 0 T.one3 rfl rfl rfl) ?_
  refine Wl.want rfl rfl ?_
  refine Wl.q rfl (Qy.eql rfl rfl) ?_
  refine Wl.q rfl (Qy.pick rfl rfl) ?_
  exact Wl.back 4 0 rfl rfl rfl rfl rfl
  intro hg1
  refine Wl.pass rfl rfl rfl ?_
  refine Wl.pass rfl rfl rfl ?_
  refine Wl.pass rfl rfl rfl ?_
  refine Wl.q rfl (Qy.pick rfl rfl) ?_
  exact Wl.back 4 0 rfl rfl rfl rfl rfl
  refine Wl.done ?_
  refine Ar.next ?_
  refine Wc.cond rfl (fun hc2 => ?_) (fun hc2 => ?_)
  refine Wc.seq ?_
  refine Wc.region rfl ?_
  refine Wl.q rfl (Qy.fieldAddr T.fa72_3 rfl) ?_
  refine Wl.q rfl (Qy.load 0 T.one3 rfl rfl rfl) ?_
  refine Wl.q rfl (Qy.geq rfl rfl) ?_
  refine Wl.q rfl (Qy.move rfl) ?_
  apply Wl.joinAnd 5 46 51 rfl
  intro hg1
  refine Wl.want rfl rfl ?_
  refine Wl.q rfl (Qy.fieldAddr T.fa72_3 rfl) ?_
  refine Wl.want rfl rfl ?_
  refine Wl.q rfl (Qy.load 0 T.one3 rfl rfl rfl) ?_
  refine Wl.want rfl rfl ?_
  refine Wl.q rfl (Qy.move rfl) ?_
  refine Wl.want rfl rfl ?_
  refine Wl.q rfl (Qy.lss rfl rfl) ?_
  refine Wl.q rfl (Qy.pick rfl rfl) ?_
  exact Wl.back 5 0 rfl rfl rfl rfl rfl
  intro hg1
  refine Wl.pass rfl rfl rfl ?_
  refine Wl.pass rfl rfl rfl ?_
  refine Wl.pass rfl rfl rfl ?_
  refine Wl.pass rfl rfl rfl ?_
  refine Wl.q rfl (Qy.pick rfl rfl) ?_
  exact Wl.back 5 0 rfl rfl rfl rfl rfl
  refine Wl.q rfl (Qy.move rfl) ?_
  apply Wl.joinAnd 4 52 56 rfl
  intro hg1
  refine Wl.want rfl rfl ?_
  refine Wl.q rfl (Qy.fieldAddr T.fa72_4 rfl) ?_
  refine Wl.want rfl rfl ?_
  refine Wl.q rfl (Qy.load 0 T.one3 rfl rfl rfl) ?_
  refine Wl.want rfl rfl ?_
  refine Wl.q rfl (Qy.eql rfl rfl) ?_
  refine Wl.q rfl (Qy.pick rfl rfl) ?_
  exact Wl.back 4 0 rfl rfl rfl rfl rfl
  intro hg1
  refine Wl.pass rfl rfl rfl ?_
  refine Wl.pass rfl rfl rfl ?_
  refine Wl.pass rfl rfl rfl ?_
  refine Wl.q rfl (Qy.pick rfl rfl) ?_
  exact Wl.back 4 0 rfl rfl rfl rfl rfl
  refine Wl.q rfl (Qy.assign rfl) ?_
  refine Wl.done ?_
  refine Ar.next ?_
  refine Wc.ret ?_
  refine Ar.passRet ?_
  refine Ar.out1 (.inr rfl) (Ho := Hp.only _ []) rfl (.tmp rfl) (Hp.sub_only _ _) ?_
  rotate_left
  refine Wc.skip ?_
  refine Ar.next ?_
  refine Wc.seq ?_
  refine Wc.seq ?_
  refine Wc.region rfl ?_
  refine Wl.q rfl (Qy.fieldAddr T.fa72_3 rfl) ?_
  refine Wl.q rfl (Qy.load 0 T.one3 rfl rfl rfl) ?_
  refine Wl.q rfl (Qy.neq rfl rfl) ?_
  refine Wl.done ?_
  refine Ar.next ?_
  refine Wc.cond rfl (fun hc3 => ?_) (fun hc3 => ?_)
  refine Wc.seq ?_
  refine Wc.region rfl ?_
  refine Wl.q rfl (Qy.assign rfl) ?_
  refine Wl.done ?_
  refine Ar.next ?_
  refine Wc.ret ?_
  refine Ar.passRet ?_
  refine Ar.out1 (.inr rfl) (Ho := Hp.only _ []) rfl (.tmp rfl) (Hp.sub_only _ _) ?_
  rotate_left
  refine Wc.skip ?_
  refine Ar.next ?_
  refine Wc.seq ?_
  refine Wc.seq ?_
  refine Wc.region rfl ?_
  refine Wl.q rfl (Qy.fieldAddr T.fa72_0 rfl) ?_
  refine Wl.q rfl (Qy.load 0 T.one3 rfl rfl rfl) ?_
  refine Wl.q rfl (Qy.eql rfl rfl) ?_
  refine Wl.q rfl (Qy.move rfl) ?_
  apply Wl.joinOr 4 63 67 rfl
  intro hg1
  refine Wl.want rfl rfl ?_
  refine Wl.q rfl (Qy.fieldAddr T.fa72_0 rfl) ?_
  refine Wl.want rfl rfl ?_
  refine Wl.q rfl (Qy.load 0 T.one3 rfl rfl rfl) ?_
  refine Wl.want rfl rfl ?_
  refine Wl.q rfl (Qy.eql rfl rfl) ?_
  refine Wl.q rfl (Qy.pick rfl rfl) ?_
  exact Wl.back 4 0 rfl rfl rfl rfl rfl
  intro hg1
  refine Wl.pass rfl rfl rfl ?_
  refine Wl.pass rfl rfl rfl ?_
  refine Wl.pass rfl rfl rfl ?_
  refine Wl.q rfl (Qy.pick rfl rfl) ?_
  exact Wl.back 4 0 rfl rfl rfl rfl rfl
  refine Wl.done ?_
  refine Ar.next ?_
  refine Wc.cond rfl (fun hc4 => ?_) (fun hc4 => ?_)
  refine Wc.seq ?_
  refine Wc.region rfl ?_
  refine Wl.q rfl (Qy.fieldAddr T.fa72_4 rfl) ?_
  refine Wl.q rfl (Qy.load 0 T.one3 rfl rfl rfl) ?_
  refine Wl.q rfl (Qy.neq rfl rfl) ?_
  refine Wl.q rfl (Qy.move rfl) ?_
  apply Wl.joinAnd 4 71 75 rfl
  intro hg1
  refine Wl.want rfl rfl ?_
  refine Wl.q rfl (Qy.fieldAddr T.fa72_4 rfl) ?_
  refine Wl.want rfl rfl ?_
  refine Wl.q rfl (Qy.load 0 T.one3 rfl rfl rfl) ?_
  refine Wl.want rfl rfl ?_
  refine Wl.q rfl (Qy.geq rfl rfl) ?_
  refine Wl.q rfl (Qy.pick rfl rfl) ?_
  exact Wl.back 4 0 rfl rfl rfl rfl rfl
  intro hg1
  refine Wl.pass rfl rfl rfl ?_
  refine Wl.pass rfl rfl rfl ?_
  refine Wl.pass rfl rfl rfl ?_
  refine Wl.q rfl (Qy.pick rfl rfl) ?_
  exact Wl.back 4 0 rfl rfl rfl rfl rfl
  refine Wl.q rfl (Qy.move rfl) ?_
  apply Wl.joinAnd 4 76 80 rfl
  intro hg1
  refine Wl.want rfl rfl ?_
  refine Wl.q rfl (Qy.fieldAddr T.fa72_4 rfl) ?_
  refine Wl.want rfl rfl ?_
  refine Wl.q rfl (Qy.load 0 T.one3 rfl rfl rfl) ?_
  refine Wl.want rfl rfl ?_
  refine Wl.q rfl (Qy.leq rfl rfl) ?_
  refine Wl.q rfl (Qy.pick rfl rfl) ?_
  exact Wl.back 4 0 rfl rfl rfl rfl rfl
  intro hg1
  refine Wl.pass rfl rfl rfl ?_
  refine Wl.pass rfl rfl rfl ?_
  refine Wl.pass rfl rfl rfl ?_
  refine Wl.q rfl (Qy.pick rfl rfl) ?_
  exact Wl.back 4 0 rfl rfl rfl rfl rfl
  refine Wl.q rfl (Qy.assign rfl) ?_
  refine Wl.done ?_
  refine Ar.next ?_
  refine Wc.ret ?_
  refine Ar.passRet ?_
  refine Ar.out1 (.inr rfl) (Ho := Hp.only _ []) rfl (.tmp rfl) (Hp.sub_only _ _) ?_
  rotate_left
  refine Wc.skip ?_
  refine Ar.next ?_
  refine Wc.seq ?_
  refine Wc.seq ?_
  refine Wc.region rfl ?_
  refine Wl.q rfl (Qy.fieldAddr T.fa72_0 rfl) ?_
  refine Wl.q rfl (Qy.load 0 T.one3 rfl rfl rfl) ?_
  refine Wl.q rfl (Qy.eql rfl rfl) ?_
  refine Wl.q rfl (Qy.move rfl) ?_
  apply Wl.joinOr 4 84 88 rfl
  intro hg1
  refine Wl.want rfl rfl ?_
  refine Wl.q rfl (Qy.fieldAddr T.fa72_0 rfl) ?_
  refine Wl.want rfl rfl ?_
  refine Wl.q rfl (Qy.load 0 T.one3 rfl rfl rfl) ?_
  refine Wl.want rfl rfl ?_
  refine Wl.q rfl (Qy.eql rfl rfl) ?_
  refine Wl.q rfl (Qy.pick rfl rfl) ?_
  exact Wl.back 4 0 rfl rfl rfl rfl rfl
  intro hg1
  refine Wl.pass rfl rfl rfl ?_
  refine Wl.pass rfl rfl rfl ?_
  refine Wl.pass rfl rfl rfl ?_
  refine Wl.q rfl (Qy.pick rfl rfl) ?_
  exact Wl.back 4 0 rfl rfl rfl rfl rfl
  refine Wl.done ?_
  refine Ar.next ?_
  refine Wc.cond rfl (fun hc5 => ?_) (fun hc5 => ?_)
  refine Wc.seq ?_
  refine Wc.region rfl ?_
  refine Wl.q rfl (Qy.fieldAddr T.fa72_4 rfl) ?_
  refine Wl.q rfl (Qy.load 0 T.one3 rfl rfl rfl) ?_
  refine Wl.q rfl (Qy.geq rfl rfl) ?_
  refine Wl.q rfl (Qy.move rfl) ?_
  apply Wl.joinAnd 4 92 96 rfl
  intro hg1
  refine Wl.want rfl rfl ?_
  refine Wl.q rfl (Qy.fieldAddr T.fa72_4 rfl) ?_
  refine Wl.want rfl rfl ?_
  refine Wl.q rfl (Qy.load 0 T.one3 rfl rfl rfl) ?_
  refine Wl.want rfl rfl ?_
  refine Wl.q rfl (Qy.leq rfl rfl) ?_
  refine Wl.q rfl (Qy.pick rfl rfl) ?_
  exact Wl.back 4 0 rfl rfl rfl rfl rfl
  intro hg1
  refine Wl.pass rfl rfl rfl ?_
  refine Wl.pass rfl rfl rfl ?_
  refine Wl.pass rfl rfl rfl ?_
  refine Wl.q rfl (Qy.pick rfl rfl) ?_
  exact Wl.back 4 0 rfl rfl rfl rfl rfl
  refine Wl.q rfl (Qy.assign rfl) ?_
  refine Wl.done ?_
  refine Ar.next ?_
  refine Wc.ret ?_
  refine Ar.passRet ?_
  refine Ar.out1 (.inr rfl) (Ho := Hp.only _ []) rfl (.tmp rfl) (Hp.sub_only _ _) ?_
  rotate_left
  refine Wc.skip ?_
  refine Ar.next ?_
  refine Wc.seq ?_
  refine Wc.region rfl ?_
  refine Wl.q rfl (Qy.fieldAddr T.fa72_4 rfl) ?_
  refine Wl.q rfl (Qy.load 0 T.one3 rfl rfl rfl) ?_
  refine Wl.q rfl (Qy.eql rfl rfl) ?_
  refine Wl.q rfl (Qy.assign rfl) ?_
  refine Wl.done ?_
  refine Ar.next ?_
  refine Wc.ret ?_
  refine Ar.out1 (.inr rfl) (Ho := Hp.only _ []) rfl (.tmp rfl) (Hp.sub_only _ _) ?_
  rotate_left
  all_goals refine ⟨?_, rfl, rfl⟩
  all_goals simp only [mayOk_iff, Value.bool.injEq]
  all_goals first | rw [decide_eq_decide] | (symm; rw [decide_eq_false_iff_not])
  all_goals try simp only [*, if_true, if_false, not_false_eq_true]
  all_goals first | omega | (rintro ⟨_, h, _⟩; first | exact h | exact hc3 h)
theorem head_out {p : PV} {k : Nat} (h : k ≤ p.outs.length) (h' : (k : Int) < (p.outs.length : Int)) (hb : p.outs[((k : Nat) : Int).toNat]?.getD default < 0 ∨ p.regs ≤ p.outs[((k : Nat) : Int).toNat]?.getD default) : headOk p = false := by
  have hl : k < p.outs.length := by omega
  have hx : p.outs[((k : Nat) : Int).toNat]?.getD default ∈ p.outs := by rw [Int.toNat_natCast, List.getElem?_eq_getElem hl]; simp
  have hf : (p.outs.all fun r => decide (0 ≤ r ∧ r < p.regs)) = false := by
    rw [List.all_eq_false]
    exact ⟨_, hx, by simp only [decide_eq_true_eq]; omega⟩
  unfold headOk; rw [hf, Bool.and_false]
theorem c42 (G : Imm) (p : PV) (ac ao : Option Addr) (cc co : Nat) (hc : Arr G ac p.code) (ho : Arr G ao p.outs) (h1 : p.code.length ≤ 1099511627776) (h2 : p.outs.length ≤ 1099511627776) :
    Does Try.prog 42 [.agg #[.int .i64 p.ins, .int .i64 p.regs, .slice ac p.code.length cc, .slice ao p.outs.length co]] G [] (fun v G' Ho => v = .tuple #[.int .i64 (checkP p).1, .bool (decide ((checkP p).2 = true))] ∧ G' = G ∧ Ho = []) := by
  refine Does.enter Try.func42 rfl Try.ntmps42 rfl (fun w => ?_)
  refine Wc.seq ?_
  refine Wc.region rfl ?_
  refine Wl.box 0 rfl rfl rfl (fun b1 => ?_)
  refine Wl.q rfl (Qy.assign rfl) ?_
  refine Wl.q rfl (Qy.assign rfl) ?_
  refine Wl.done ?_
  refine Ar.next ?_
  refine Wc.seq ?_
  refine Wc.seq ?_
  refine Wc.region rfl ?_
  refine Wl.q rfl (Qy.fieldAddr T.fa25_0 rfl) ?_
  refine Wl.q rfl (Qy.load 0 T.one3 rfl rfl rfl) ?_
  refine Wl.q rfl (Qy.lss rfl rfl) ?_
  refine Wl.q rfl (Qy.move rfl) ?_
  apply Wl.joinOr 6 9 15 rfl
  intro hg1
  refine Wl.want rfl rfl ?_
  refine Wl.q rfl (Qy.fieldAddr T.fa25_0 rfl) ?_
  refine Wl.want rfl rfl ?_
  refine Wl.q rfl (Qy.load 0 T.one3 rfl rfl rfl) ?_
  refine Wl.want rfl rfl ?_
  refine Wl.q rfl (Qy.fieldAddr T.fa25_1 rfl) ?_
  refine Wl.want rfl rfl ?_
  refine Wl.q rfl (Qy.load 0 T.one3 rfl rfl rfl) ?_
  refine Wl.want rfl rfl ?_
  refine Wl.q rfl (Qy.gtr rfl rfl) ?_
  refine Wl.q rfl (Qy.pick rfl rfl) ?_
  exact Wl.back 6 0 rfl rfl rfl rfl rfl
  intro hg1
  refine Wl.pass rfl rfl rfl ?_
  refine Wl.pass rfl rfl rfl ?_
  refine Wl.pass rfl rfl rfl ?_
  refine Wl.pass rfl rfl rfl ?_
  refine Wl.pass rfl rfl rfl ?_
  refine Wl.q rfl (Qy.pick rfl rfl) ?_
  exact Wl.back 6 0 rfl rfl rfl rfl rfl
  refine Wl.q rfl (Qy.move rfl) ?_
  apply Wl.joinOr 4 16 20 rfl
  intro hg1
  refine Wl.want rfl rfl ?_
  refine Wl.q rfl (Qy.fieldAddr T.fa25_1 rfl) ?_
  refine Wl.want rfl rfl ?_
  refine Wl.q rfl (Qy.load 0 T.one3 rfl rfl rfl) ?_
  refine Wl.want rfl rfl ?_
  refine Wl.q rfl (Qy.gtr rfl rfl) ?_
  refine Wl.q rfl (Qy.pick rfl rfl) ?_
  exact Wl.back 4 0 rfl rfl rfl rfl rfl
  intro hg1
  refine Wl.pass rfl rfl rfl ?_
  refine Wl.pass rfl rfl rfl ?_
  refine Wl.pass rfl rfl rfl ?_
  refine Wl.q rfl (Qy.pick rfl rfl) ?_
  exact Wl.back 4 0 rfl rfl rfl rfl rfl
  refine Wl.q rfl (Qy.move rfl) ?_
  apply Wl.joinOr 5 21 26 rfl
  intro hg1
  refine Wl.want rfl rfl ?_
  refine Wl.q rfl (Qy.fieldAddr T.fa25_2 rfl) ?_
  refine Wl.want rfl rfl ?_
  refine Wl.q rfl (Qy.load 0 T.one22 rfl rfl rfl) ?_
  refine Wl.want rfl rfl ?_
  refine Wl.q rfl (Qy.len T.sl22 rfl) ?_
  refine Wl.want rfl rfl ?_
  refine Wl.q rfl (Qy.gtr rfl rfl) ?_
  refine Wl.q rfl (Qy.pick rfl rfl) ?_
  exact Wl.back 5 0 rfl rfl rfl rfl rfl
  intro hg1
  refine Wl.pass rfl rfl rfl ?_
  refine Wl.pass rfl rfl rfl ?_
  refine Wl.pass rfl rfl rfl ?_
  refine Wl.pass rfl rfl rfl ?_
  refine Wl.q rfl (Qy.pick rfl rfl) ?_
  exact Wl.back 5 0 rfl rfl rfl rfl rfl
  refine Wl.q rfl (Qy.move rfl) ?_
  apply Wl.joinOr 5 27 32 rfl
  intro hg1
  refine Wl.want rfl rfl ?_
  refine Wl.q rfl (Qy.fieldAddr T.fa25_3 rfl) ?_
  refine Wl.want rfl rfl ?_
  refine Wl.q rfl (Qy.load 0 T.one23 rfl rfl rfl) ?_
  refine Wl.want rfl rfl ?_
  refine Wl.q rfl (Qy.len T.sl23 rfl) ?_
  refine Wl.want rfl rfl ?_
  refine Wl.q rfl (Qy.lss rfl rfl) ?_
  refine Wl.q rfl (Qy.pick rfl rfl) ?_
  exact Wl.back 5 0 rfl rfl rfl rfl rfl
  intro hg1
  refine Wl.pass rfl rfl rfl ?_
  refine Wl.pass rfl rfl rfl ?_
  refine Wl.pass rfl rfl rfl ?_
  refine Wl.pass rfl rfl rfl ?_
  refine Wl.q rfl (Qy.pick rfl rfl) ?_
  exact Wl.back 5 0 rfl rfl rfl rfl rfl
  refine Wl.q rfl (Qy.move rfl) ?_
  apply Wl.joinOr 5 33 38 rfl
  intro hg1
  refine Wl.want rfl rfl ?_
  refine Wl.q rfl (Qy.fieldAddr T.fa25_3 rfl) ?_
  refine Wl.want rfl rfl ?_
  refine Wl.q rfl (Qy.load 0 T.one23 rfl rfl rfl) ?_
  refine Wl.want rfl rfl ?_
  refine Wl.q rfl (Qy.len T.sl23 rfl) ?_
  refine Wl.want rfl rfl ?_
  refine Wl.q rfl (Qy.gtr rfl rfl) ?_
  refine Wl.q rfl (Qy.pick rfl rfl) ?_
  exact Wl.back 5 0 rfl rfl rfl rfl rfl
  intro hg1
  refine Wl.pass rfl rfl rfl ?_
  refine Wl.pass rfl rfl rfl ?_
  refine Wl.pass rfl rfl rfl ?_
  refine Wl.pass rfl rfl rfl ?_
  refine Wl.q rfl (Qy.pick rfl rfl) ?_
  exact Wl.back 5 0 rfl rfl rfl rfl rfl
  refine Wl.done ?_
  refine Ar.next ?_
  refine Wc.cond rfl (fun hc1 => ?_) (fun hc1 => ?_)
  refine Wc.seq ?_
  refine Wc.region rfl ?_
  refine Wl.q rfl (Qy.assign rfl) ?_
  refine Wl.q rfl (Qy.assign rfl) ?_
  refine Wl.done ?_
  refine Ar.next ?_
  refine Wc.ret ?_
  refine Ar.passRet ?_
  refine Ar.out2 (.inr rfl) (Ho := Hp.only _ []) rfl (.tmp rfl) (.tmp rfl) (Hp.sub_only _ _) ?_
  rotate_left
  refine Wc.skip ?_
  refine Ar.next ?_
  refine Wc.seq ?_
  refine Wc.seq ?_
  refine Wc.region rfl ?_
  refine Wl.q rfl (Qy.assign rfl) ?_
  refine Wl.done ?_
  refine Ar.next ?_
  refine Wc.block ?_
  rotate_left
  · refine ⟨?_, rfl, rfl⟩
    have : headOk p = false := by unfold headOk; rw [decide_eq_false (by omega)]; rfl
    simp [checkP, this]
  · refine Wc.loop (ι := Nat) (fun k => ([(4, .int .i64 (k : Int)), (1, Go.Value.pointer (Option.some (Go.Addr.mk b1 0 Option.none)))], [(0, Option.some b1, Go.Obj.cells #[Go.Value.int Go.IntKind.i64 (Go.Proofs.Ytbppmiimeccclaa.PV.ins p), Go.Value.int Go.IntKind.i64 (Go.Proofs.Ytbppmiimeccclaa.PV.regs p), Go.Value.slice ac (List.length (Go.Proofs.Ytbppmiimeccclaa.PV.code p)) cc, Go.Value.slice ao (List.length (Go.Proofs.Ytbppmiimeccclaa.PV.outs p)) co] 25)])) (fun k => k ≤ p.outs.length ∧ (p.outs.take k).all (fun r => decide (0 ≤ r ∧ r < p.regs)) = true) (fun k => p.outs.length - k) (0) (⟨Nat.zero_le _, rfl⟩) ⟨rfl, rfl, trivial⟩ ⟨rfl, trivial⟩ (fun k => fun (hk : k ≤ p.outs.length ∧ (p.outs.take k).all (fun r => decide (0 ≤ r ∧ r < p.regs)) = true) => ?_)
    obtain ⟨hk1, hk2⟩ := hk
    refine Wc.seq ?_
    refine Wc.seq ?_
    refine Wc.region rfl ?_
    refine Wl.q rfl (Qy.move rfl) ?_
    refine Wl.q rfl (Qy.fieldAddr T.fa25_3 rfl) ?_
    refine Wl.q rfl (Qy.load 0 T.one23 rfl rfl rfl) ?_
    refine Wl.q rfl (Qy.len T.sl23 rfl) ?_
    refine Wl.q rfl (Qy.lss rfl rfl) ?_
    refine Wl.done ?_
    refine Ar.next ?_
    refine Wc.cond rfl (fun hc2 => ?_) (fun hc2 => ?_)
    refine Wc.skip ?_
    refine Ar.next ?_
    refine Wc.seq ?_
    refine Wc.block ?_
    refine Wc.seq ?_
    refine Wc.draw [0] [] T.mixed rfl ?_
    refine Gm.q 0 [] (by kernel_rfl) rfl rfl (Qy.fieldAddr T.fa25_3 rfl) ?_
    refine Gm.q 1 [0] (by kernel_rfl) rfl rfl (Qy.load 0 T.one23 rfl rfl rfl) ?_
    refine Gm.q 2 [] (by kernel_rfl) rfl rfl (Qy.move rfl) ?_
    refine Gm.q 3 [] (by kernel_rfl) rfl rfl (Qy.at (α := Int) T.sl23 rfl rfl (by assumption) (by omega)) ?_
    refine Gm.q 4 [0] (by kernel_rfl) rfl rfl (Qy.loadG T.one3 rfl (Arr.cell (by assumption) (by omega) 0 rfl rfl)) ?_
    refine Gm.q 5 [] (by kernel_rfl) rfl rfl (Qy.lss rfl rfl) ?_
    refine Gm.q 6 [] (by kernel_rfl) rfl rfl (Qy.move rfl) ?_
    refine Gm.cases 52 rfl (fun hg1 => ?_) (fun hg1 => ?_)
    refine Gm.qNo 7 (by kernel_rfl) rfl rfl rfl rfl ?_
    refine Gm.qNo 8 (by kernel_rfl) rfl rfl rfl rfl ?_
    refine Gm.qNo 9 (by kernel_rfl) rfl rfl rfl rfl ?_
    refine Gm.qNo 10 (by kernel_rfl) rfl rfl rfl rfl ?_
    refine Gm.qNo 11 (by kernel_rfl) rfl rfl rfl rfl ?_
    refine Gm.qNo 12 (by kernel_rfl) rfl rfl rfl rfl ?_
    refine Gm.qNo 13 (by kernel_rfl) rfl rfl rfl rfl ?_
    refine Gm.qNo 14 (by kernel_rfl) rfl rfl rfl rfl ?_
    refine Gm.q 15 [] (by kernel_rfl) rfl rfl (Qy.pick rfl rfl) ?_
    refine Gm.doneA (by kernel_rfl) ⟨rfl, trivial⟩ (by first | exact Imm.le_refl _ | assumption | (refine Imm.le_trans ?_ (by assumption); first | assumption | (refine Imm.le_trans ?_ (by assumption); assumption))) ?_
    refine Ar.next ?_
    refine Wc.condT rfl ?_
    refine Wc.seq ?_
    refine Wc.region rfl ?_
    refine Wl.q rfl (Qy.assign rfl) ?_
    refine Wl.q rfl (Qy.assign rfl) ?_
    refine Wl.done ?_
    refine Ar.next ?_
    refine Wc.ret ?_
    refine Ar.outRet ?_
    refine Ar.passRet ?_
    refine Ar.passRet ?_
    refine Ar.outRet ?_
    refine Ar.passRet ?_
    refine Ar.out2 (.inr rfl) (Ho := Hp.only _ []) rfl (.tmp rfl) (.tmp rfl) (Hp.sub_only _ _) ?_
    rotate_left
    refine Gm.qYes 7 [] (by kernel_rfl) rfl rfl rfl rfl (Qy.fieldAddr T.fa25_3 rfl) ?_
    refine Gm.qYes 8 [0] (by kernel_rfl) rfl rfl rfl rfl (Qy.load 0 T.one23 rfl rfl rfl) ?_
    refine Gm.qYes 9 [] (by kernel_rfl) rfl rfl rfl rfl (Qy.move rfl) ?_
    refine Gm.qYes 10 [] (by kernel_rfl) rfl rfl rfl rfl (Qy.at (α := Int) T.sl23 rfl rfl (by assumption) (by omega)) ?_
    refine Gm.qYes 11 [0] (by kernel_rfl) rfl rfl rfl rfl (Qy.loadG T.one3 rfl (Arr.cell (by assumption) (by omega) 0 rfl rfl)) ?_
    refine Gm.qYes 12 [] (by kernel_rfl) rfl rfl rfl rfl (Qy.fieldAddr T.fa25_1 rfl) ?_
    refine Gm.qYes 13 [0] (by kernel_rfl) rfl rfl rfl rfl (Qy.load 0 T.one3 rfl rfl rfl) ?_
    refine Gm.qYes 14 [] (by kernel_rfl) rfl rfl rfl rfl (Qy.geq rfl rfl) ?_
    refine Gm.q 15 [] (by kernel_rfl) rfl rfl (Qy.pick rfl rfl) ?_
    refine Gm.doneA (by kernel_rfl) ⟨rfl, trivial⟩ (by first | exact Imm.le_refl _ | assumption | (refine Imm.le_trans ?_ (by assumption); first | assumption | (refine Imm.le_trans ?_ (by assumption); assumption))) ?_
    refine Ar.next ?_
    refine Wc.cond rfl (fun hc3 => ?_) (fun hc3 => ?_)
    refine Wc.seq ?_
    refine Wc.region rfl ?_
    refine Wl.q rfl (Qy.assign rfl) ?_
    refine Wl.q rfl (Qy.assign rfl) ?_
    refine Wl.done ?_
    refine Ar.next ?_
    refine Wc.ret ?_
    refine Ar.outRet ?_
    refine Ar.passRet ?_
    refine Ar.passRet ?_
    refine Ar.outRet ?_
    refine Ar.passRet ?_
    refine Ar.out2 (.inr rfl) (Ho := Hp.only _ []) rfl (.tmp rfl) (.tmp rfl) (Hp.sub_only _ _) ?_
    rotate_left
    refine Wc.skip ?_
    refine Ar.outNormal ?_
    refine Ar.next ?_
    refine Wc.region rfl ?_
    refine Wl.q rfl (Qy.move rfl) ?_
    refine Wl.q rfl (Qy.add rfl rfl (by omega)) ?_
    refine Wl.q rfl (Qy.assign rfl) ?_
    refine Wl.done ?_
    rotate_left
    refine Wc.exit ?_
    refine Ar.passExit ?_
    refine Ar.passExit ?_
    refine Ar.here ?_
    refine Ar.next ?_
    refine Wc.seq ?_
    refine Wc.seq ?_
    refine Wc.region rfl ?_
    refine Wl.q rfl (Qy.assign rfl) ?_
    refine Wl.done ?_
    refine Ar.next ?_
    refine Wc.block ?_
    rotate_left
    · refine ⟨?_, rfl, rfl⟩
      simp [checkP, head_out hk1 hc2 (.inl hg1)]
    · refine ⟨?_, rfl, rfl⟩
      simp [checkP, head_out hk1 hc2 (.inr hc3)]
    · refine Ar.again (k + 1) ?_ ?_ rfl ⟨rfl, rfl, trivial⟩ ⟨rfl, trivial⟩
      · refine ⟨by omega, ?_⟩
        rw [all_step _ (by omega), hk2]
        simp only [Bool.true_and, decide_eq_true_eq]
        omega
      · omega
    · have hk : k = p.outs.length := by omega
      subst hk
      rw [List.take_length] at hk2
      have hh : headOk p = true := by
        unfold headOk
        rw [hk2, Bool.and_true, decide_eq_true_eq]
        omega
      clear hk1 hk2 hc2
      refine Wc.loop (ι := Nat) (fun k => ([(5, .int .i64 (k : Int)), (1, Go.Value.pointer (Option.some (Go.Addr.mk b1 0 Option.none)))], [(0, Option.some b1, Go.Obj.cells #[Go.Value.int Go.IntKind.i64 (Go.Proofs.Ytbppmiimeccclaa.PV.ins p), Go.Value.int Go.IntKind.i64 (Go.Proofs.Ytbppmiimeccclaa.PV.regs p), Go.Value.slice ac (List.length (Go.Proofs.Ytbppmiimeccclaa.PV.code p)) cc, Go.Value.slice ao (List.length (Go.Proofs.Ytbppmiimeccclaa.PV.outs p)) co] 25)])) (fun k => k ≤ p.code.length ∧ (p.code.take k).all (fun i => mayOk i p.regs) = true) (fun k => p.code.length - k) (0) (⟨Nat.zero_le _, rfl⟩) ⟨rfl, rfl, trivial⟩ ⟨rfl, trivial⟩ (fun k => fun (hk : k ≤ p.code.length ∧ (p.code.take k).all (fun i => mayOk i p.regs) = true) => ?_)
      obtain ⟨hk1, hk2⟩ := hk
      refine Wc.seq ?_
      refine Wc.seq ?_
      refine Wc.region rfl ?_
      refine Wl.q rfl (Qy.move rfl) ?_
      refine Wl.q rfl (Qy.fieldAddr T.fa25_2 rfl) ?_
      refine Wl.q rfl (Qy.load 0 T.one22 rfl rfl rfl) ?_
      refine Wl.q rfl (Qy.len T.sl22 rfl) ?_
      refine Wl.q rfl (Qy.lss rfl rfl) ?_
      refine Wl.done ?_
      refine Ar.next ?_
      refine Wc.cond rfl (fun hc2 => ?_) (fun hc2 => ?_)
      refine Wc.skip ?_
      refine Ar.next ?_
      refine Wc.seq ?_
      refine Wc.block ?_
      refine Wc.seq ?_
      refine Wc.draw [0] [] T.mixed rfl ?_
      refine Gm.q 0 [] (by kernel_rfl) rfl rfl (Qy.fieldAddr T.fa25_2 rfl) ?_
      refine Gm.q 1 [0] (by kernel_rfl) rfl rfl (Qy.load 0 T.one22 rfl rfl rfl) ?_
      refine Gm.q 2 [] (by kernel_rfl) rfl rfl (Qy.move rfl) ?_
      refine Gm.q 3 [] (by kernel_rfl) rfl rfl (Qy.at (α := Instr) T.sl22 rfl rfl (by assumption) (by omega)) ?_
      refine Gm.q 4 [] (by kernel_rfl) rfl rfl (Qy.loadsG T.agg72 rfl (Arr.elem (by assumption) (by omega)) rfl) ?_
      refine Gm.q 5 [] (by kernel_rfl) rfl rfl (Qy.fieldAddr T.fa25_1 rfl) ?_
      refine Gm.q 6 [0] (by kernel_rfl) rfl rfl (Qy.load 0 T.one3 rfl rfl rfl) ?_
      refine Gm.one 7 ⟨rfl, trivial⟩ (by first | exact Imm.le_refl _ | assumption | (refine Imm.le_trans ?_ (by assumption); first | assumption | (refine Imm.le_trans ?_ (by assumption); assumption))) (by kernel_rfl) rfl ?_
      refine Wl.call0 rfl T.fn89 rfl (c89 _ _ _) ?_
      refine Wl.on0 ?_
      refine Gm.q 8 [] (by kernel_rfl) rfl rfl (Qy.notD rfl) ?_
      refine Gm.doneA (by kernel_rfl) ⟨rfl, trivial⟩ (by first | exact Imm.le_refl _ | assumption | (refine Imm.le_trans ?_ (by assumption); first | assumption | (refine Imm.le_trans ?_ (by assumption); assumption))) ?_
      refine Ar.next ?_
      refine Wc.cond rfl (fun hc3 => ?_) (fun hc3 => ?_)
      refine Wc.seq ?_
      refine Wc.region rfl ?_
      refine Wl.q rfl (Qy.move rfl) ?_
      refine Wl.q rfl (Qy.assign rfl) ?_
      refine Wl.q rfl (Qy.assign rfl) ?_
      refine Wl.done ?_
      refine Ar.next ?_
      refine Wc.ret ?_
      refine Ar.outRet ?_
      refine Ar.passRet ?_
      refine Ar.passRet ?_
      refine Ar.outRet ?_
      refine Ar.passRet ?_
      refine Ar.out2 (.inr rfl) (Ho := Hp.only _ []) rfl (.tmp rfl) (.tmp rfl) (Hp.sub_only _ _) ?_
      rotate_left
      refine Wc.skip ?_
      refine Ar.outNormal ?_
      refine Ar.next ?_
      refine Wc.region rfl ?_
      refine Wl.q rfl (Qy.move rfl) ?_
      refine Wl.q rfl (Qy.add rfl rfl (by omega)) ?_
      refine Wl.q rfl (Qy.assign rfl) ?_
      refine Wl.done ?_
      rotate_left
      refine Wc.exit ?_
      refine Ar.passExit ?_
      refine Ar.passExit ?_
      refine Ar.here ?_
      refine Ar.next ?_
      refine Wc.seq ?_
      refine Wc.region rfl ?_
      refine Wl.q rfl (Qy.assign rfl) ?_
      refine Wl.q rfl (Qy.assign rfl) ?_
      refine Wl.done ?_
      refine Ar.next ?_
      refine Wc.ret ?_
      refine Ar.out2 (.inr rfl) (Ho := Hp.only _ []) rfl (.tmp rfl) (.tmp rfl) (Hp.sub_only _ _) ?_
      rotate_left
      · refine ⟨?_, rfl, rfl⟩
        have hl : k < p.code.length := by omega
        have : badAt p = some k := find_bad hl hk2 hc3
        simp [checkP, hh, this]
      · refine Ar.again (k + 1) ?_ ?_ rfl ⟨rfl, rfl, trivial⟩ ⟨rfl, trivial⟩
        · refine ⟨by omega, ?_⟩
          rw [all_step _ (by omega), hk2]
          simpa using hc3
        · omega
      · refine ⟨?_, rfl, rfl⟩
        have hk : k = p.code.length := by omega
        subst hk
        rw [List.take_length] at hk2
        have : badAt p = none := find_none hk2
        simp [checkP, hh, this]
theorem c10 (G : Imm) (p : PV) (ac ao : Option Addr) (cc co : Nat) (hc : Arr G ac p.code) (ho : Arr G ao p.outs) (h1 : p.code.length ≤ 1099511627776) (h2 : p.outs.length ≤ 1099511627776) :
    Does Try.prog 10 [.agg #[.int .i64 p.ins, .int .i64 p.regs, .slice ac p.code.length cc, .slice ao p.outs.length co]] G [] (fun v G' Ho => v = .bool (decide (rightP p = true)) ∧ G' = G ∧ Ho = []) := by
  refine Does.enter Try.func10 rfl Try.ntmps10 rfl (fun w => ?_)
  refine Wc.seq ?_
  refine Wc.region rfl ?_
  refine Wl.box 0 rfl rfl rfl (fun b1 => ?_)
  refine Wl.q rfl (Qy.assign rfl) ?_
  refine Wl.done ?_
  refine Ar.next ?_
  refine Wc.seq ?_
  refine Wc.region rfl ?_
  refine Wl.q rfl (Qy.loadAll 0 T.agg25 rfl rfl rfl) ?_
  refine Wl.call0 rfl T.fn42 rfl (c42 _ _ _ _ _ _ (by assumption) (by assumption) (by omega) (by omega)) ?_
  refine Wl.q rfl (Qy.move rfl) ?_
  refine Wl.q rfl (Qy.extract rfl rfl) ?_
  refine Wl.q rfl (Qy.extract rfl rfl) ?_
  refine Wl.q rfl (Qy.assign rfl) ?_
  refine Wl.q rfl (Qy.assign rfl) ?_
  refine Wl.done ?_
  refine Ar.next ?_
  refine Wc.seq ?_
  refine Wc.region rfl ?_
  refine Wl.q rfl (Qy.move rfl) ?_
  refine Wl.q rfl (Qy.notD rfl) ?_
  refine Wl.q rfl (Qy.assign rfl) ?_
  refine Wl.done ?_
  refine Ar.next ?_
  refine Wc.ret ?_
  refine Ar.out1 (.inr rfl) (Ho := Hp.only _ []) rfl (.tmp rfl) (Hp.sub_only _ _) ?_
  refine ⟨?_, rfl, rfl⟩
  cases h : (checkP p).2 <;> simp [rightP, h]
end Go.Proofs.Ytbppmiimeccclaa
namespace Go.Proofs.Ytbppmiimeccclaa
open Go Go.Sl Go.ChangeShapes Go.WideShapes Go.RowKit Go.Joins
set_option linter.unusedVariables false
set_option maxRecDepth 100000
theorem bulk_one {H : Type} (d : DataW H) : 1 ≤ Rows.uptoBulk d := by
  cases d with
  | lit l => cases l <;> simp [Rows.uptoBulk]
  | nil => simp [Rows.uptoBulk]
  | ptr d => simp [Rows.uptoBulk]
  | slice elems spare => simp [Rows.uptoBulk]
  | agg parts => simp [Rows.uptoBulk]
  | iface t d => simp [Rows.uptoBulk]
  | map entries => simp [Rows.uptoBulk]
  | held h => simp [Rows.uptoBulk]
theorem bulk_len {H : Type} (l : List (DataW H)) : l.length ≤ Rows.uptoBulkAll l := by
  induction l with
  | nil => simp [Rows.uptoBulkAll]
  | cons x r ih => have := bulk_one x; simp only [Rows.uptoBulkAll, List.length_cons]; omega
theorem bulk_slice {H : Type} (l r : List (DataW H)) : l.length ≤ Rows.uptoBulk (.slice l r) := by
  have := bulk_len l
  simp only [Rows.uptoBulk]; omega
theorem und3 : Try.prog.underlying 3 = some (.int .i64) := by kernel_rfl
theorem und4 : Try.prog.underlying 4 = some .bool := by kernel_rfl
theorem laidOut : laidOutB Try.prog = true := by kernel_rfl
theorem cells3 : Try.prog.cellsOf 3 = 1 := by kernel_rfl
theorem cells25 : Try.prog.cellsOf 25 = 4 := by kernel_rfl
theorem cells72 : Try.prog.cellsOf 72 = 5 := by kernel_rfl
theorem fields25 : Deep.oneCellFields Try.prog #[{ name := "Ins", type := 3, offset := 0, embedded := false, tag := "", pkgPath := "", byteOffset := 0 },
        { name := "Regs", type := 3, offset := 1, embedded := false, tag := "", pkgPath := "", byteOffset := 8 },
        { name := "Code", type := 22, offset := 2, embedded := false, tag := "", pkgPath := "", byteOffset := 16 },
        { name := "Outs", type := 23, offset := 3, embedded := false, tag := "", pkgPath := "", byteOffset := 40 }] = true := by kernel_rfl
section
variable {H : Type} {enc : TypeId × Value → H}
theorem open_prog {W : World} {r : Reach} {b0 : Nat} {v : Value} {d : DataW H} {ps : List MemPlace} (hv : Value.okWide Try.prog W r b0 25 v) (h : DataW.Trod enc Try.prog W 0 (fun _ => true) true 25 v d ps) :
    ∃ (p : PV) (ac ao : Option Addr) (cc co : Nat), v = .agg #[.int .i64 p.ins, .int .i64 p.regs, .slice ac p.code.length cc, .slice ao p.outs.length co] ∧ Arr (heapG W) ac p.code ∧ Arr (heapG W) ao p.outs ∧
      p.code.length + p.outs.length ≤ Rows.uptoBulk d := by
  obtain ⟨v0, v1, v2, v3, y0, y1, y2, y3, n, rfl, rfl, rfl, h0, h1, h2, h3⟩ := open_agg4 Try.underlying25 fields25 cells25 hv h
  obtain ⟨k0, e0, _, _⟩ := DataW.trod_int und3 h0
  obtain ⟨k1, e1, _, _⟩ := DataW.trod_int und3 h1
  obtain ⟨a2, c2, xs, e2, ha2, hl2, hd2⟩ := open_arr (α := Sl.Instr) Try.underlying22 cells72 (by decide) (dec_instr und3 Try.underlying72 ⟨rfl, rfl⟩ ⟨rfl, rfl⟩ ⟨rfl, rfl⟩ ⟨rfl, rfl⟩ ⟨rfl, rfl⟩ cells3 cells72) h2
  obtain ⟨a3, c3, ys, e3, ha3, hl3, hd3⟩ := open_arr (α := Int) Try.underlying23 cells3 (by decide) (dec_int und3) h3
  simp only [List.cons.injEq, and_true] at e0 e1 e2 e3
  subst e0 e1 e2 e3
  refine ⟨⟨k0, k1, xs, ys⟩, a2, a3, c2, c3, rfl, ha2, ha3, ?_⟩
  have b2 : xs.length ≤ Rows.uptoBulk y2.1 := by
    rcases hd2 with ⟨_, rfl⟩ | ⟨l, r, e, hl, _⟩
    · exact Nat.zero_le _
    · rw [e, ← hl]; exact bulk_slice l r
  have b3 : ys.length ≤ Rows.uptoBulk y3.1 := by
    rcases hd3 with ⟨_, rfl⟩ | ⟨l, r, e, hl, _⟩
    · exact Nat.zero_le _
    · rw [e, ← hl]; exact bulk_slice l r
  simp only [Rows.uptoBulk, Rows.uptoBulkAll]
  omega
theorem und2 : Try.prog.underlying 2 = some (.int .i64) := by kernel_rfl
theorem und26 : Try.prog.underlying 26 = some (.slice 2) := by kernel_rfl
theorem cells2 : Try.prog.cellsOf 2 = 1 := by kernel_rfl
theorem open_ints {W : World} {r : Reach} {b0 : Nat} {v : Value} {d : DataW H} {ps : List MemPlace} (hv : Value.okWide Try.prog W r b0 26 v) (h : DataW.Trod enc Try.prog W 0 (fun _ => true) true 26 v d ps) :
    ∃ (a : Option Addr) (c : Nat) (l : List Int), v = .slice a l.length c ∧ Arr (heapG W) a l ∧ (∀ x ∈ l, -9223372036854775808 ≤ x ∧ x ≤ 9223372036854775807) ∧ l.length ≤ Rows.uptoBulk d := by
  obtain ⟨a0, n0, c0, rfl⟩ := okWide_slice und26 hv
  obtain ⟨n, h⟩ := h
  obtain ⟨a, c, xs, e, hA, hl, hd⟩ := open_arr (α := Int) und26 cells2 (by decide) (dec_int und2) h
  have e' : [Value.slice a0 n0 c0] = [.slice a xs.length c] := e
  simp only [List.cons.injEq, and_true] at e'
  refine ⟨a, c, xs, e', hA, fun y hy => ?_, ?_⟩
  · rcases hd with ⟨_, rfl⟩ | ⟨l, r, e, hl, hi⟩
    · cases hy
    · obtain ⟨i, hi1, rfl⟩ := List.mem_iff_getElem.1 hy
      obtain ⟨d, _, _, hw⟩ := hi i hi1
      rw [List.getElem?_eq_getElem hi1] at hw
      unfold Lit.wf at hw
      rw [Bool.and_eq_true, decide_eq_true_eq, decide_eq_true_eq] at hw
      exact hw
  · rcases hd with ⟨_, rfl⟩ | ⟨l, r, e, hl, _⟩
    · exact Nat.zero_le _
    · have e2 : d = .slice l r := e
      rw [e2, ← hl]; exact bulk_slice l r
end
theorem own : ownKnob Try.prog.godebug = none := by kernel_rfl
end Go.Proofs.Ytbppmiimeccclaa
namespace Go.Proofs.Ytbppmiimeccclaa
open Go Go.Sl
set_option maxRecDepth 100000
instance : DecidableEq PV := fun a b => by
  cases a; cases b; simp only [PV.mk.injEq]; infer_instance
/-- the table: what registers hold, what is known, who was first, the next value -/
structure Tab where
  held : List Int
  known : List (K4 × Int)
  first : List (K4 × Int)
  next : Int
def TabH (t : Tab) (bt bk bf : Nat) (a : Option Addr) (c : Nat) (junk : List Value) : Hp :=
  [(0, some bt, .cells #[.slice a t.held.length c, .map (some bk), .map (some bf), .int .i64 t.next] 88), (1, a.map (·.block), Row 3 t.held junk), (2, some bk, mapObj t.known), (3, some bf, mapObj t.first)]
def start (p : PV) : List Int := (List.range p.regs.toNat).map fun r => if (p.ins : Int) < ((r : Nat) : Int) then p.ins else ((r : Nat) : Int)
/-- the first that holds a value; -1: none does -/
def holder (l : List Int) (v : Int) : Int := match l.findIdx? (fun x => decide (x = v)) with | some k => (k : Int) | none => -1
theorem c43 (G : Imm) (p : PV) (ac ao : Option Addr) (cc co : Nat) (hr : 0 ≤ p.ins ∧ p.ins ≤ p.regs ∧ p.regs ≤ 128) :
    Does Try.prog 43 [.agg #[.int .i64 p.ins, .int .i64 p.regs, .slice ac p.code.length cc, .slice ao p.outs.length co]] G [] (fun v G' Ho => ∃ bt bk bf a c junk, v = .pointer (some ⟨bt, 0, none⟩) ∧
      OwnA a c (start p) junk ∧ Ho = TabH ⟨start p, [], [], p.ins + 1⟩ bt bk bf a c junk ∧ G' = G) := by
  refine Does.enter Try.func43 rfl Try.ntmps43 rfl (fun w => ?_)
  refine Wc.nilRow 1 (Row 3 ([] : List Int) []) ?_
  refine Wc.seq ?_
  refine Wc.region rfl ?_
  refine Wl.box 2 rfl rfl rfl (fun b1 => ?_)
  refine Wl.q rfl (Qy.assign rfl) ?_
  refine Wl.done ?_
  refine Ar.next ?_
  refine Wc.seq ?_
  refine Wc.region rfl ?_
  refine Wl.makeMap (κ := K4) 3 rfl (fun b2 => ?_)
  refine Wl.makeMap (κ := K4) 4 rfl (fun b3 => ?_)
  refine Wl.q rfl (Qy.fieldAddr T.fa25_0 rfl) ?_
  refine Wl.q rfl (Qy.load 2 T.one3 rfl rfl rfl) ?_
  refine Wl.q rfl (Qy.add rfl rfl (by omega)) ?_
  refine Wl.q rfl (Qy.build (cs := [_, _, _, _]) T.st88 rfl rfl rfl) ?_
  refine Wl.box 5 rfl rfl rfl (fun b4 => ?_)
  refine Wl.q rfl (Qy.assign rfl) ?_
  refine Wl.done ?_
  refine Ar.next ?_
  refine Wc.seq ?_
  refine Wc.seq ?_
  refine Wc.region rfl ?_
  refine Wl.q rfl (Qy.fieldAddr T.fa25_1 rfl) ?_
  refine Wl.q rfl (Qy.load 2 T.one3 rfl rfl rfl) ?_
  refine Wl.q rfl (Qy.move rfl) ?_
  refine Wl.done ?_
  refine Ar.next ?_
  refine Wc.block ?_
  have hsl : (start p).length = p.regs.toNat := by simp [start]
  refine Wc.loop (ι := Nat × List Int × Option Addr × Nat × List Value) (fun (k, xs, a, c, junk) => ([(14, .int .i64 (k : Int)), (13, Go.Value.int Go.IntKind.i64 (Go.Proofs.Ytbppmiimeccclaa.PV.regs p)), (3, Go.Value.pointer (Option.some (Go.Addr.mk b4 0 Option.none))), (2, Go.Value.pointer Option.none), (1, Go.Value.pointer (Option.some (Go.Addr.mk b1 0 Option.none)))], [(1, a.map (·.block), Row 3 xs junk), (5, some b4, .cells #[.slice a xs.length c, .map (some b2), .map (some b3), .int .i64 (p.ins + 1)] 88), (4, Option.some b3, Go.Sl.mapObj (κ := Go.Sl.K4) ([])), (3, Option.some b2, Go.Sl.mapObj (κ := Go.Sl.K4) ([])), (2, Option.some b1, Go.Obj.cells #[Go.Value.int Go.IntKind.i64 (Go.Proofs.Ytbppmiimeccclaa.PV.ins p), Go.Value.int Go.IntKind.i64 (Go.Proofs.Ytbppmiimeccclaa.PV.regs p), Go.Value.slice ac (List.length (Go.Proofs.Ytbppmiimeccclaa.PV.code p)) cc, Go.Value.slice ao (List.length (Go.Proofs.Ytbppmiimeccclaa.PV.outs p)) co] 25)])) (fun (k, xs, a, c, junk) => k ≤ p.regs.toNat ∧ xs = (start p).take k ∧ OwnA a c xs junk) (fun (k, xs, a, c, junk) => p.regs.toNat - k) ((0, [], none, 0, [])) (⟨Nat.zero_le _, rfl, OwnA.nil⟩) ⟨rfl, rfl, rfl, rfl, rfl, trivial⟩ ⟨rfl, rfl, rfl, rfl, rfl, trivial⟩ (fun ⟨k, xs, a, c, junk⟩ => fun (hk : k ≤ p.regs.toNat ∧ xs = (start p).take k ∧ OwnA a c xs junk) => ?_)
  obtain ⟨hk1, hxs, ho⟩ := hk
  have hlen : xs.length = k := by rw [hxs, List.length_take]; omega
  refine Wc.seq ?_
  refine Wc.region rfl ?_
  refine Wl.q rfl (Qy.lss rfl rfl) ?_
  refine Wl.done ?_
  refine Ar.next ?_
  refine Wc.seq ?_
  refine Wc.cond rfl (fun hc1 => ?_) (fun hc1 => ?_)
  refine Wc.skip ?_
  refine Ar.next ?_
  refine Wc.seq ?_
  refine Wc.block ?_
  refine Wc.seq ?_
  refine Wc.region rfl ?_
  refine Wl.q rfl (Qy.move rfl) ?_
  refine Wl.q rfl (Qy.assign rfl) ?_
  refine Wl.done ?_
  refine Ar.next ?_
  refine Wc.draw [2, 3, 4, 5, 1] [(5, 13), (1, 10)] T.mixed rfl ?_
  refine Gm.q 0 [] (by kernel_rfl) rfl rfl (Qy.move rfl) ?_
  refine Gm.q 1 [] (by kernel_rfl) rfl rfl (Qy.move rfl) ?_
  refine Gm.q 2 [] (by kernel_rfl) rfl rfl (Qy.nilCheck rfl) ?_
  refine Gm.q 3 [] (by kernel_rfl) rfl rfl (Qy.fieldAddr T.fa88_0 rfl) ?_
  refine Gm.q 4 [5] (by kernel_rfl) rfl rfl (Qy.load 5 T.one23 rfl rfl rfl) ?_
  refine Gm.q 5 [] (by kernel_rfl) rfl rfl (Qy.move rfl) ?_
  refine Gm.q 6 [] (by kernel_rfl) rfl rfl (Qy.fieldAddr T.fa25_0 rfl) ?_
  refine Gm.q 7 [2] (by kernel_rfl) rfl rfl (Qy.load 2 T.one3 rfl rfl rfl) ?_
  refine Gm.q 8 [] (by kernel_rfl) rfl rfl (Qy.min rfl rfl) ?_
  refine Gm.one 9 ⟨rfl, rfl, rfl, rfl, rfl, trivial⟩ (by first | exact Imm.le_refl _ | assumption | (refine Imm.le_trans ?_ (by assumption); first | assumption | (refine Imm.le_trans ?_ (by assumption); assumption))) (by kernel_rfl) rfl ?_
  refine Wl.lit (α := Int) 6 [(if Go.Proofs.Ytbppmiimeccclaa.PV.ins p < (↑k : Int) then Go.Proofs.Ytbppmiimeccclaa.PV.ins p else (↑k : Int))] rfl T.sl23 T.el3 rfl rfl rfl rfl rfl (fun b5 => ?_)
  refine Wl.on0 ?_
  refine Gm.one 10 ⟨rfl, rfl, rfl, rfl, rfl, trivial⟩ (by first | exact Imm.le_refl _ | assumption | (refine Imm.le_trans ?_ (by assumption); first | assumption | (refine Imm.le_trans ?_ (by assumption); assumption))) (by kernel_rfl) rfl ?_
  refine Wl.append (α := Int) 1 rfl T.sl23 T.el3 rfl rfl rfl (by first | assumption | exact OwnA.nil | exact OwnA.made (by simp)) (Src.row 6 rfl) (by first | omega | (simp only [List.length_append, List.length_cons, List.length_nil, maxLen]; omega)) (by first | omega | (simp only [List.length_append, List.length_cons, List.length_nil, maxLen]; omega)) (fun a1 c1 junk1 ho1 => ?_)
  refine Wl.on0 ?_
  refine Gm.q 11 [] (by kernel_rfl) rfl rfl (Qy.nilCheck rfl) ?_
  refine Gm.q 12 [] (by kernel_rfl) rfl rfl (Qy.fieldAddr T.fa88_0 rfl) ?_
  refine Gm.one 13 ⟨rfl, rfl, rfl, rfl, trivial⟩ (by first | exact Imm.le_refl _ | assumption | (refine Imm.le_trans ?_ (by assumption); first | assumption | (refine Imm.le_trans ?_ (by assumption); assumption))) (by kernel_rfl) rfl ?_
  refine Wl.store 5 T.one23 rfl rfl rfl rfl rfl ?_
  refine Wl.on0 ?_
  refine Gm.doneA (by kernel_rfl) ⟨rfl, rfl, rfl, trivial⟩ (by first | exact Imm.le_refl _ | assumption | (refine Imm.le_trans ?_ (by assumption); first | assumption | (refine Imm.le_trans ?_ (by assumption); assumption))) ?_
  refine Ar.outNormal ?_
  refine Ar.next ?_
  refine Wc.region rfl ?_
  refine Wl.q rfl (Qy.add rfl rfl (by omega)) ?_
  refine Wl.q rfl (Qy.move rfl) ?_
  refine Wl.done ?_
  rotate_left
  refine Wc.exit ?_
  refine Ar.passExit ?_
  refine Ar.passExit ?_
  refine Ar.here ?_
  refine Ar.next ?_
  refine Wc.seq ?_
  refine Wc.region rfl ?_
  refine Wl.q rfl (Qy.move rfl) ?_
  refine Wl.q rfl (Qy.assign rfl) ?_
  refine Wl.done ?_
  refine Ar.next ?_
  refine Wc.ret ?_
  refine Ar.pick [5, 1, 3, 4] (by decide) (Ar.out1 (.inr rfl) rfl (.tmp rfl) (Hp.sub_self 0 _) ?_)
  rotate_left
  · refine Ar.again ((k + 1, _, a1, c1, junk1)) ?_ ?_ rfl ⟨rfl, rfl, rfl, rfl, rfl, trivial⟩ ⟨rfl, rfl, rfl, rfl, rfl, trivial⟩
    · have hst : (start p).take (k + 1) = (start p).take k ++ [if p.ins < ((k : Nat) : Int) then p.ins else ((k : Nat) : Int)] := by
        rw [List.take_add_one]
        have hkl : k < p.regs.toNat := by omega
        simp [start, hkl]
      refine ⟨by omega, ?_, ho1⟩
      rw [hst, hxs]
    · show p.regs.toNat - (k + 1) < p.regs.toNat - k
      omega
  · have hk : k = p.regs.toNat := by omega
    have htk : xs = start p := by rw [hxs]; exact List.take_of_length_le (by omega)
    rw [htk] at ho ⊢
    exact ⟨b4, b2, b3, a, c, junk, rfl, ho, rfl, rfl⟩
theorem c46 (G : Imm) (t : Tab) (bt bk bf : Nat) (a : Option Addr) (c : Nat) (junk : List Value) (v : Int) (ho : OwnA a c t.held junk) (hl : t.held.length ≤ 128) :
    Does Try.prog 46 [.pointer (some ⟨bt, 0, none⟩), .int .i64 v] G (TabH t bt bk bf a c junk) (fun r G' Ho => r = .int .i64 (holder t.held v) ∧ G' = G ∧ Ho = TabH t bt bk bf a c junk) := by
  refine Does.enter Try.func46 rfl Try.ntmps46 rfl (fun w => ?_)
  refine Wc.seq ?_
  refine Wc.region rfl ?_
  refine Wl.q rfl (Qy.assign rfl) ?_
  refine Wl.done ?_
  refine Ar.next ?_
  refine Wc.scope ?_
  refine Wc.seq ?_
  refine Wc.label ?_
  refine Ar.next ?_
  refine Wc.seq ?_
  refine Wc.seq ?_
  refine Wc.region rfl ?_
  refine Wl.q rfl (Qy.move rfl) ?_
  refine Wl.q rfl (Qy.nilCheck rfl) ?_
  refine Wl.q rfl (Qy.fieldAddr T.fa88_0 rfl) ?_
  refine Wl.q rfl (Qy.load 0 T.one23 rfl rfl rfl) ?_
  refine Wl.q rfl (Qy.len T.sl23 rfl) ?_
  refine Wl.q rfl (Qy.move rfl) ?_
  refine Wl.done ?_
  refine Ar.next ?_
  refine Wc.block ?_
  refine Wc.loop (ι := Nat) (fun k => ([(12, .int .i64 (k : Int)), (11, Go.Value.int Go.IntKind.i64 (↑(List.length (Go.Proofs.Ytbppmiimeccclaa.Tab.held t)) : Int)), (10, Go.Value.slice a (List.length (Go.Proofs.Ytbppmiimeccclaa.Tab.held t)) c), (1, Go.Value.int Go.IntKind.i64 v)], [(0, Option.some bt, Go.Obj.cells #[Go.Value.slice a (List.length (Go.Proofs.Ytbppmiimeccclaa.Tab.held t)) c, Go.Value.map (Option.some bk), Go.Value.map (Option.some bf), Go.Value.int Go.IntKind.i64 (Go.Proofs.Ytbppmiimeccclaa.Tab.next t)] 88), (1, Option.map (fun x => Go.Addr.block x) a, Go.Sl.Row (α := Int) 3 (Go.Proofs.Ytbppmiimeccclaa.Tab.held t) (junk)), (2, Option.some bk, Go.Sl.mapObj (κ := Go.Sl.K4) (Go.Proofs.Ytbppmiimeccclaa.Tab.known t)), (3, Option.some bf, Go.Sl.mapObj (κ := Go.Sl.K4) (Go.Proofs.Ytbppmiimeccclaa.Tab.first t))])) (fun k => k ≤ t.held.length ∧ (t.held.take k).all (fun x => !decide (x = v)) = true) (fun k => t.held.length - k) (0) (⟨Nat.zero_le _, rfl⟩) ⟨rfl, rfl, rfl, rfl, trivial⟩ ⟨rfl, rfl, rfl, rfl, trivial⟩ (fun k => fun (hk : k ≤ t.held.length ∧ (t.held.take k).all (fun x => !decide (x = v)) = true) => ?_)
  obtain ⟨hk1, hk2⟩ := hk
  refine Wc.seq ?_
  refine Wc.region rfl ?_
  refine Wl.q rfl (Qy.lss rfl rfl) ?_
  refine Wl.done ?_
  refine Ar.next ?_
  refine Wc.seq ?_
  refine Wc.cond rfl (fun hc1 => ?_) (fun hc1 => ?_)
  refine Wc.skip ?_
  refine Ar.next ?_
  refine Wc.seq ?_
  refine Wc.block ?_
  refine Wc.seq ?_
  refine Wc.region rfl ?_
  refine Wl.q rfl (Qy.move rfl) ?_
  refine Wl.q rfl (Qy.indexAddrO (α := Int) T.sl23 rfl rfl (by assumption) (by omega)) ?_
  refine Wl.q rfl (Qy.loadO 1 0 T.one3 rfl rfl (by assumption) (by omega) rfl rfl) ?_
  refine Wl.q rfl (Qy.assign rfl) ?_
  refine Wl.q rfl (Qy.assign rfl) ?_
  refine Wl.done ?_
  refine Ar.next ?_
  refine Wc.seq ?_
  refine Wc.seq ?_
  refine Wc.region rfl ?_
  refine Wl.q rfl (Qy.move rfl) ?_
  refine Wl.q rfl (Qy.move rfl) ?_
  refine Wl.q rfl (Qy.neq rfl rfl) ?_
  refine Wl.done ?_
  refine Ar.next ?_
  refine Wc.cond rfl (fun hc2 => ?_) (fun hc2 => ?_)
  refine Wc.exit ?_
  refine Ar.passExit ?_
  refine Ar.here ?_
  refine Ar.next ?_
  refine Wc.region rfl ?_
  refine Wl.q rfl (Qy.add rfl rfl (by omega)) ?_
  refine Wl.q rfl (Qy.move rfl) ?_
  refine Wl.done ?_
  rotate_left
  refine Wc.skip ?_
  refine Ar.next ?_
  refine Wc.seq ?_
  refine Wc.region rfl ?_
  refine Wl.q rfl (Qy.move rfl) ?_
  refine Wl.q rfl (Qy.assign rfl) ?_
  refine Wl.done ?_
  refine Ar.next ?_
  refine Wc.ret ?_
  refine Ar.outRet ?_
  refine Ar.passRet ?_
  refine Ar.passRet ?_
  refine Ar.outRet ?_
  refine Ar.passRet ?_
  refine Ar.scopeR ?_
  refine Ar.out1 (.inr rfl) (Ho := Hp.only _ [0, 1, 2, 3]) rfl (.tmp rfl) (Hp.sub_only _ _) ?_
  rotate_left
  refine Wc.exit ?_
  refine Ar.passExit ?_
  refine Ar.passExit ?_
  refine Ar.here ?_
  refine Ar.next ?_
  refine Wc.seq ?_
  refine Wc.region rfl ?_
  refine Wl.q rfl (Qy.assign rfl) ?_
  refine Wl.done ?_
  refine Ar.next ?_
  refine Wc.ret ?_
  refine Ar.scopeR ?_
  refine Ar.out1 (.inr rfl) (Ho := Hp.only _ [0, 1, 2, 3]) rfl (.tmp rfl) (Hp.sub_only _ _) ?_
  rotate_left
  · refine Ar.again (k + 1) ?_ ?_ rfl ⟨rfl, rfl, rfl, rfl, trivial⟩ ⟨rfl, rfl, rfl, rfl, trivial⟩
    · refine ⟨by omega, ?_⟩
      rw [all_step _ (by omega), hk2]
      simpa using hc2
    · omega
  · refine ⟨?_, rfl, rfl⟩
    have := find_bad (p := fun x => !decide (x = v)) (l := t.held) (k := k) (by omega) hk2 (by simpa using hc2)
    simp only [Bool.not_not] at this
    simp [holder, this]
  · refine ⟨?_, rfl, rfl⟩
    have hk : k = t.held.length := by omega
    subst hk
    rw [List.take_length] at hk2
    have := find_none hk2
    simp only [Bool.not_not] at this
    simp [holder, this]
/-- an instruction's key -/
def keyOf (held : List Int) (i : Sl.Instr) : K4 :=
  let a := held[i.a.toNat]?.getD default
  if i.op = 3 ∨ i.op = 4 then
    let b := held[i.b.toNat]?.getD default
    if i.op = 3 ∧ b < a then ⟨i.op, b, a, i.c⟩ else ⟨i.op, a, b, i.c⟩
  else ⟨i.op, a, -1, i.c⟩
theorem asks_two (i : Sl.Instr) : (1 < ((asks i).length : Int)) ↔ (i.op = 3 ∨ i.op = 4) := by
  unfold asks
  by_cases h : i.op = 3 ∨ i.op = 4
  · simp [h]
  · rw [if_neg h]; split <;> simp [h]
theorem c90 (G : Imm) (t : Tab) (bt bk bf : Nat) (a : Option Addr) (c : Nat) (junk : List Value) (i : Sl.Instr) (ho : OwnA a c t.held junk) (hl : t.held.length ≤ 128) (hm : mayOk i t.held.length = true) :
    Does Try.prog 90 [.pointer (some ⟨bt, 0, none⟩), .agg (Cells.enc i).toArray] G (TabH t bt bk bf a c junk) (fun r G' Ho => r = OneVal.val (keyOf t.held i) ∧ G' = G ∧ Ho = TabH t bt bk bf a c junk) := by
  rw [mayOk_iff] at hm
  obtain ⟨⟨hop1, hop2, hto1, hto2, ha1, ha2⟩, hb⟩ := hm
  have hb : i.op = 3 ∨ i.op = 4 → 0 ≤ i.b ∧ i.b < t.held.length := fun h => by rw [if_pos h] at hb; omega
  have two := asks_two i
  refine Does.enter Try.func90 rfl Try.ntmps90 rfl (fun w => ?_)
  refine Wc.seq ?_
  refine Wc.region rfl ?_
  refine Wl.box 4 rfl rfl rfl (fun b1 => ?_)
  refine Wl.alloc 5 rfl T.zero143 (fun b2 => ?_)
  refine Wl.done ?_
  refine Ar.next ?_
  refine Wc.seq ?_
  refine Wc.draw [3, 2, 1, 0, 4, 5] [] T.mixed rfl ?_
  refine Gm.q 0 [] (by kernel_rfl) rfl rfl (Qy.fieldAddr T.fa72_0 rfl) ?_
  refine Gm.q 1 [4] (by kernel_rfl) rfl rfl (Qy.load 4 T.one3 rfl rfl rfl) ?_
  refine Gm.q 2 [] (by kernel_rfl) rfl rfl (Qy.move rfl) ?_
  refine Gm.q 3 [] (by kernel_rfl) rfl rfl (Qy.nilCheck rfl) ?_
  refine Gm.q 4 [] (by kernel_rfl) rfl rfl (Qy.fieldAddr T.fa88_0 rfl) ?_
  refine Gm.q 5 [0] (by kernel_rfl) rfl rfl (Qy.load 0 T.one23 rfl rfl rfl) ?_
  refine Gm.q 6 [] (by kernel_rfl) rfl rfl (Qy.fieldAddr T.fa72_2 rfl) ?_
  refine Gm.q 7 [4] (by kernel_rfl) rfl rfl (Qy.load 4 T.one3 rfl rfl rfl) ?_
  refine Gm.q 8 [] (by kernel_rfl) rfl rfl (Qy.indexAddrO (α := Int) T.sl23 rfl rfl (by assumption) (by omega)) ?_
  refine Gm.q 9 [1, 0] (by kernel_rfl) rfl rfl (Qy.loadO 1 0 T.one3 rfl rfl (by assumption) (by omega) rfl rfl) ?_
  refine Gm.q 10 [] (by kernel_rfl) rfl rfl (Qy.fieldAddr T.fa72_4 rfl) ?_
  refine Gm.q 11 [4] (by kernel_rfl) rfl rfl (Qy.load 4 T.one3 rfl rfl rfl) ?_
  refine Gm.q 12 [] (by kernel_rfl) rfl rfl (Qy.build (cs := [_, _, _, _]) T.st143 rfl rfl rfl) ?_
  refine Gm.one 13 ⟨rfl, rfl, rfl, rfl, rfl, rfl, trivial⟩ (by first | exact Imm.le_refl _ | assumption | (refine Imm.le_trans ?_ (by assumption); first | assumption | (refine Imm.le_trans ?_ (by assumption); assumption))) (by kernel_rfl) rfl ?_
  refine Wl.alloc 6 rfl T.zero143 (fun b3 => ?_)
  refine Wl.on0 ?_
  refine Gm.one 14 ⟨rfl, rfl, rfl, rfl, rfl, rfl, trivial⟩ (by first | exact Imm.le_refl _ | assumption | (refine Imm.le_trans ?_ (by assumption); first | assumption | (refine Imm.le_trans ?_ (by assumption); assumption))) (by kernel_rfl) rfl ?_
  refine Wl.storeAll 6 T.size143 rfl rfl rfl rfl rfl rfl ?_
  refine Wl.on0 ?_
  refine Gm.doneA (by kernel_rfl) ⟨rfl, rfl, rfl, rfl, rfl, rfl, trivial⟩ (by first | exact Imm.le_refl _ | assumption | (refine Imm.le_trans ?_ (by assumption); first | assumption | (refine Imm.le_trans ?_ (by assumption); assumption))) ?_
  refine Ar.next ?_
  refine Wc.seq ?_
  refine Wc.seq ?_
  refine Wc.region rfl ?_
  refine Wl.q rfl (Qy.loadAll 4 T.agg72 rfl rfl rfl) ?_
  refine Wl.call 7 rfl T.fn59 rfl (c59 _ _) (tags_of trivial) (fun v1 G1 Ho1 hle1 hp => ?_)
  obtain ⟨ad1, cd1, junk1, rfl, hoa1, rfl, rfl⟩ := hp
  refine Wl.q rfl (Qy.len T.sl23 rfl) ?_
  refine Wl.q rfl (Qy.gtr rfl rfl) ?_
  refine Wl.done ?_
  refine Ar.next ?_
  refine Wc.cond rfl (fun hc1 => ?_) (fun hc1 => ?_)
  refine Wc.draw [3, 2, 1, 0, 4, 5, 6, 8] [(6, 9)] T.mixed rfl ?_
  refine Gm.q 0 [] (by kernel_rfl) rfl rfl (Qy.move rfl) ?_
  refine Gm.q 1 [] (by kernel_rfl) rfl rfl (Qy.nilCheck rfl) ?_
  refine Gm.q 2 [] (by kernel_rfl) rfl rfl (Qy.fieldAddr T.fa88_0 rfl) ?_
  refine Gm.q 3 [0] (by kernel_rfl) rfl rfl (Qy.load 0 T.one23 rfl rfl rfl) ?_
  refine Gm.q 4 [] (by kernel_rfl) rfl rfl (Qy.fieldAddr T.fa72_3 rfl) ?_
  refine Gm.q 5 [4] (by kernel_rfl) rfl rfl (Qy.load 4 T.one3 rfl rfl rfl) ?_
  refine Gm.q 6 [] (by kernel_rfl) rfl rfl (Qy.indexAddrO (α := Int) T.sl23 rfl rfl (by assumption) (by omega)) ?_
  refine Gm.q 7 [1, 0] (by kernel_rfl) rfl rfl (Qy.loadO 1 0 T.one3 rfl rfl (by assumption) (by omega) rfl rfl) ?_
  refine Gm.q 8 [] (by kernel_rfl) rfl rfl (Qy.fieldAddr T.fa143_2 rfl) ?_
  refine Gm.one 9 ⟨rfl, rfl, rfl, rfl, rfl, rfl, rfl, rfl, trivial⟩ (by first | exact Imm.le_refl _ | assumption | (refine Imm.le_trans ?_ (by assumption); first | assumption | (refine Imm.le_trans ?_ (by assumption); assumption))) (by kernel_rfl) rfl ?_
  refine Wl.store 6 T.one3 rfl rfl rfl rfl rfl ?_
  refine Wl.on0 ?_
  refine Gm.doneA (by kernel_rfl) ⟨rfl, rfl, rfl, rfl, rfl, rfl, rfl, trivial⟩ (by first | exact Imm.le_refl _ | assumption | (refine Imm.le_trans ?_ (by assumption); first | assumption | (refine Imm.le_trans ?_ (by assumption); assumption))) ?_
  refine Ar.next ?_
  refine Wc.seq ?_
  refine Wc.seq ?_
  refine Wc.region rfl ?_
  refine Wl.q rfl (Qy.fieldAddr T.fa72_0 rfl) ?_
  refine Wl.q rfl (Qy.load 4 T.one3 rfl rfl rfl) ?_
  refine Wl.q rfl (Qy.eql rfl rfl) ?_
  refine Wl.q rfl (Qy.move rfl) ?_
  apply Wl.joinAnd 6 35 41 rfl
  intro hg1
  refine Wl.want rfl rfl ?_
  refine Wl.q rfl (Qy.fieldAddr T.fa143_2 rfl) ?_
  refine Wl.want rfl rfl ?_
  refine Wl.q rfl (Qy.load 6 T.one3 rfl rfl rfl) ?_
  refine Wl.want rfl rfl ?_
  refine Wl.q rfl (Qy.fieldAddr T.fa143_1 rfl) ?_
  refine Wl.want rfl rfl ?_
  refine Wl.q rfl (Qy.load 6 T.one3 rfl rfl rfl) ?_
  refine Wl.want rfl rfl ?_
  refine Wl.q rfl (Qy.lss rfl rfl) ?_
  refine Wl.q rfl (Qy.pick rfl rfl) ?_
  exact Wl.back 6 0 rfl rfl rfl rfl rfl
  intro hg1
  refine Wl.pass rfl rfl rfl ?_
  refine Wl.pass rfl rfl rfl ?_
  refine Wl.pass rfl rfl rfl ?_
  refine Wl.pass rfl rfl rfl ?_
  refine Wl.pass rfl rfl rfl ?_
  refine Wl.q rfl (Qy.pick rfl rfl) ?_
  exact Wl.back 6 0 rfl rfl rfl rfl rfl
  refine Wl.done ?_
  refine Ar.next ?_
  refine Wc.cond rfl (fun hc2 => ?_) (fun hc2 => ?_)
  refine Wc.region rfl ?_
  refine Wl.q rfl (Qy.fieldAddr T.fa143_2 rfl) ?_
  refine Wl.q rfl (Qy.load 6 T.one3 rfl rfl rfl) ?_
  refine Wl.q rfl (Qy.fieldAddr T.fa143_1 rfl) ?_
  refine Wl.q rfl (Qy.load 6 T.one3 rfl rfl rfl) ?_
  refine Wl.q rfl (Qy.fieldAddr T.fa143_1 rfl) ?_
  refine Wl.store 6 T.one3 rfl rfl rfl rfl rfl ?_
  refine Wl.q rfl (Qy.fieldAddr T.fa143_2 rfl) ?_
  refine Wl.store 6 T.one3 rfl rfl rfl rfl rfl ?_
  refine Wl.done ?_
  refine Ar.next ?_
  refine Wc.seq ?_
  refine Wc.region rfl ?_
  refine Wl.q rfl (Qy.loadAll 6 T.agg143 rfl rfl rfl) ?_
  refine Wl.storeAll 5 T.size143 rfl rfl rfl rfl rfl rfl ?_
  refine Wl.done ?_
  refine Ar.next ?_
  refine Wc.ret ?_
  refine Ar.out1 (.inr rfl) (Ho := Hp.only _ [0, 1, 2, 3]) rfl (.agg 5 rfl rfl T.agg143) (Hp.sub_only _ _) ?_
  rotate_left
  refine Wc.skip ?_
  refine Ar.next ?_
  refine Wc.seq ?_
  refine Wc.region rfl ?_
  refine Wl.q rfl (Qy.loadAll 6 T.agg143 rfl rfl rfl) ?_
  refine Wl.storeAll 5 T.size143 rfl rfl rfl rfl rfl rfl ?_
  refine Wl.done ?_
  refine Ar.next ?_
  refine Wc.ret ?_
  refine Ar.out1 (.inr rfl) (Ho := Hp.only _ [0, 1, 2, 3]) rfl (.agg 5 rfl rfl T.agg143) (Hp.sub_only _ _) ?_
  rotate_left
  refine Wc.skip ?_
  refine Ar.next ?_
  refine Wc.seq ?_
  refine Wc.seq ?_
  refine Wc.region rfl ?_
  refine Wl.q rfl (Qy.fieldAddr T.fa72_0 rfl) ?_
  refine Wl.q rfl (Qy.load 4 T.one3 rfl rfl rfl) ?_
  refine Wl.q rfl (Qy.eql rfl rfl) ?_
  refine Wl.q rfl (Qy.move rfl) ?_
  refine Wl.no 35 rfl (by first | assumption | omega) ?_
  refine Wl.pass rfl rfl rfl ?_
  refine Wl.pass rfl rfl rfl ?_
  refine Wl.pass rfl rfl rfl ?_
  refine Wl.pass rfl rfl rfl ?_
  refine Wl.pass rfl rfl rfl ?_
  refine Wl.q rfl (Qy.pick rfl rfl) ?_
  refine Wl.done ?_
  refine Ar.next ?_
  refine Wc.condF rfl ?_
  refine Wc.skip ?_
  refine Ar.next ?_
  refine Wc.seq ?_
  refine Wc.region rfl ?_
  refine Wl.q rfl (Qy.loadAll 6 T.agg143 rfl rfl rfl) ?_
  refine Wl.storeAll 5 T.size143 rfl rfl rfl rfl rfl rfl ?_
  refine Wl.done ?_
  refine Ar.next ?_
  refine Wc.ret ?_
  refine Ar.out1 (.inr rfl) (Ho := Hp.only _ [0, 1, 2, 3]) rfl (.agg 5 rfl rfl T.agg143) (Hp.sub_only _ _) ?_
  rotate_left
  · refine ⟨?_, rfl, rfl⟩
    have h : keyOf t.held i = ⟨i.op, t.held[i.b.toNat]?.getD default, t.held[i.a.toNat]?.getD default, i.c⟩ := by
      unfold keyOf; rw [if_pos (by omega)]; exact if_pos hc2
    rw [h]; rfl
  · refine ⟨?_, rfl, rfl⟩
    have h : keyOf t.held i = ⟨i.op, t.held[i.a.toNat]?.getD default, t.held[i.b.toNat]?.getD default, i.c⟩ := by
      unfold keyOf; rw [if_pos (by omega)]; exact if_neg hc2
    rw [h]; rfl
  · refine ⟨?_, rfl, rfl⟩
    have h : keyOf t.held i = ⟨i.op, t.held[i.a.toNat]?.getD default, -1, i.c⟩ := by
      unfold keyOf; rw [if_neg (by omega)]
    rw [h]; rfl
/-- the value that an instruction reckons, the first that did; the table behind it -/
def reckonP (t : Tab) (n : Int) (i : Sl.Instr) : (Int × Int) × Tab :=
  if i.op = 1 then ((t.held[i.a.toNat]?.getD default, -1), t)
  else match mget t.known (keyOf t.held i) with
    | none => ((t.next, n), { t with known := t.known ++ [(keyOf t.held i, t.next)], first := t.first ++ [(keyOf t.held i, n)], next := t.next + 1 })
    | some v => ((v, (mget t.first (keyOf t.held i)).getD 0), t)
end Go.Proofs.Ytbppmiimeccclaa
namespace Go.Proofs.Ytbppmiimeccclaa
open Go Go.Sl
set_option maxRecDepth 100000
set_option maxHeartbeats 2000000
theorem mget_push {xs : List (K4 × Int)} {k : K4} {v : Int} (h : mget xs k = none) : mget (xs ++ [(k, v)]) k = some v := by
  rw [← mput_none xs k v h, mget_mput, if_pos rfl]
theorem c44 (G : Imm) (t : Tab) (bt bk bf : Nat) (a : Option Addr) (c : Nat) (junk : List Value) (n : Int) (i : Sl.Instr) (ho : OwnA a c t.held junk) (hl : t.held.length ≤ 128) (hm : mayOk i t.held.length = true)
    (hkf : ∀ k, mget t.known k = none → mget t.first k = none) (hn : 0 ≤ t.next ∧ t.next ≤ 1000000) :
    Does Try.prog 44 [.pointer (some ⟨bt, 0, none⟩), .int .i64 n, .agg (Cells.enc i).toArray] G (TabH t bt bk bf a c junk)
      (fun r G' Ho => r = .tuple #[.int .i64 (reckonP t n i).1.1, .int .i64 (reckonP t n i).1.2] ∧ G' = G ∧ Ho = TabH (reckonP t n i).2 bt bk bf a c junk) := by
  have hm' := hm
  rw [mayOk_iff] at hm'
  obtain ⟨⟨hop1, hop2, hto1, hto2, ha1, ha2⟩, -⟩ := hm'
  refine Does.enter Try.func44 rfl Try.ntmps44 rfl (fun w => ?_)
  rcases hk0 : mget t.known (keyOf t.held i) with _ | v
  · have hf0 := hkf _ hk0
    refine Wc.seq ?_
    refine Wc.region rfl ?_
    refine Wl.box 4 rfl rfl rfl (fun b1 => ?_)
    refine Wl.q rfl (Qy.assign rfl) ?_
    refine Wl.q rfl (Qy.assign rfl) ?_
    refine Wl.done ?_
    refine Ar.next ?_
    refine Wc.seq ?_
    refine Wc.seq ?_
    refine Wc.region rfl ?_
    refine Wl.q rfl (Qy.fieldAddr T.fa72_0 rfl) ?_
    refine Wl.q rfl (Qy.load 4 T.one3 rfl rfl rfl) ?_
    refine Wl.q rfl (Qy.eql rfl rfl) ?_
    refine Wl.done ?_
    refine Ar.next ?_
    refine Wc.cond rfl (fun hc1 => ?_) (fun hc1 => ?_)
    refine Wc.seq ?_
    refine Wc.draw [3, 2, 1, 0, 4] [] T.mixed rfl ?_
    refine Gm.q 0 [] (by kernel_rfl) rfl rfl (Qy.move rfl) ?_
    refine Gm.q 1 [] (by kernel_rfl) rfl rfl (Qy.nilCheck rfl) ?_
    refine Gm.q 2 [] (by kernel_rfl) rfl rfl (Qy.fieldAddr T.fa88_0 rfl) ?_
    refine Gm.q 3 [0] (by kernel_rfl) rfl rfl (Qy.load 0 T.one23 rfl rfl rfl) ?_
    refine Gm.q 4 [] (by kernel_rfl) rfl rfl (Qy.fieldAddr T.fa72_2 rfl) ?_
    refine Gm.q 5 [4] (by kernel_rfl) rfl rfl (Qy.load 4 T.one3 rfl rfl rfl) ?_
    refine Gm.q 6 [] (by kernel_rfl) rfl rfl (Qy.indexAddrO (α := Int) T.sl23 rfl rfl (by assumption) (by omega)) ?_
    refine Gm.q 7 [1, 0] (by kernel_rfl) rfl rfl (Qy.loadO 1 0 T.one3 rfl rfl (by assumption) (by omega) rfl rfl) ?_
    refine Gm.q 8 [] (by kernel_rfl) rfl rfl (Qy.assign rfl) ?_
    refine Gm.q 9 [] (by kernel_rfl) rfl rfl (Qy.assign rfl) ?_
    refine Gm.doneA (by kernel_rfl) ⟨rfl, rfl, rfl, rfl, rfl, trivial⟩ (by first | exact Imm.le_refl _ | assumption | (refine Imm.le_trans ?_ (by assumption); first | assumption | (refine Imm.le_trans ?_ (by assumption); assumption))) ?_
    refine Ar.next ?_
    refine Wc.ret ?_
    refine Ar.passRet ?_
    refine Ar.out2 (.inr rfl) (Ho := Hp.only _ [0, 1, 2, 3]) rfl (.tmp rfl) (.tmp rfl) (Hp.sub_only _ _) ?_
    rotate_left
    refine Wc.skip ?_
    refine Ar.next ?_
    refine Wc.seq ?_
    refine Wc.region rfl ?_
    refine Wl.q rfl (Qy.move rfl) ?_
    refine Wl.q rfl (Qy.loadAll 4 T.agg72 rfl rfl rfl) ?_
    refine Wl.call1 0 rfl T.fn90 rfl (c90 _ _ _ _ _ _ _ _ _ (by assumption) (by omega) (by assumption)) (tags_of ⟨rfl, rfl, rfl, rfl, trivial⟩) ?_
    refine Wl.alloc 5 rfl T.zero143 (fun b2 => ?_)
    refine Wl.storeAll 5 T.size143 rfl rfl rfl rfl rfl rfl ?_
    refine Wl.done ?_
    refine Ar.next ?_
    refine Wc.seq ?_
    refine Wc.seq ?_
    refine Wc.draw [3, 2, 1, 0, 4, 5] [] T.mixed rfl ?_
    refine Gm.q 0 [] (by kernel_rfl) rfl rfl (Qy.move rfl) ?_
    refine Gm.q 1 [] (by kernel_rfl) rfl rfl (Qy.nilCheck rfl) ?_
    refine Gm.q 2 [] (by kernel_rfl) rfl rfl (Qy.fieldAddr T.fa88_1 rfl) ?_
    refine Gm.q 3 [0] (by kernel_rfl) rfl rfl (Qy.load 0 T.one86 rfl rfl rfl) ?_
    refine Gm.q 4 [5] (by kernel_rfl) rfl rfl (Qy.loadAll 5 T.agg143 rfl rfl rfl) ?_
    refine Gm.q 5 [2] (by kernel_rfl) rfl rfl (Qy.lookup2 2 T.mp86 rfl rfl rfl) ?_
    refine Gm.q 6 [] (by kernel_rfl) rfl rfl (Qy.move rfl) ?_
    refine Gm.q 7 [] (by kernel_rfl) rfl rfl (Qy.extract rfl rfl) ?_
    refine Gm.q 8 [] (by kernel_rfl) rfl rfl (Qy.extract rfl rfl) ?_
    refine Gm.q 9 [] (by kernel_rfl) rfl rfl (Qy.assign rfl) ?_
    refine Gm.q 10 [] (by kernel_rfl) rfl rfl (Qy.assign rfl) ?_
    refine Gm.doneA (by kernel_rfl) ⟨rfl, rfl, rfl, rfl, rfl, rfl, trivial⟩ (by first | exact Imm.le_refl _ | assumption | (refine Imm.le_trans ?_ (by assumption); first | assumption | (refine Imm.le_trans ?_ (by assumption); assumption))) ?_
    refine Ar.next ?_
    refine Wc.seq ?_
    refine Wc.region rfl ?_
    refine Wl.q rfl (Qy.move rfl) ?_
    refine Wl.q rfl (Qy.not rfl) ?_
    refine Wl.done ?_
    refine Ar.next ?_
    refine Wc.ite rfl (fun hc2 => ?_) (fun hc2 => ?_)
    refine Wc.seq ?_
    refine Wc.draw [3, 2, 1, 0, 4, 5] [(2, 20), (3, 20), (2, 18), (3, 18), (2, 17), (3, 17), (2, 15), (3, 15)] T.mixed rfl ?_
    refine Gm.q 0 [] (by kernel_rfl) rfl rfl (Qy.move rfl) ?_
    refine Gm.q 1 [] (by kernel_rfl) rfl rfl (Qy.nilCheck rfl) ?_
    refine Gm.q 2 [] (by kernel_rfl) rfl rfl (Qy.fieldAddr T.fa88_1 rfl) ?_
    refine Gm.q 3 [0] (by kernel_rfl) rfl rfl (Qy.load 0 T.one86 rfl rfl rfl) ?_
    refine Gm.q 4 [5] (by kernel_rfl) rfl rfl (Qy.loadAll 5 T.agg143 rfl rfl rfl) ?_
    refine Gm.q 5 [] (by kernel_rfl) rfl rfl (Qy.move rfl) ?_
    refine Gm.q 6 [] (by kernel_rfl) rfl rfl (Qy.nilCheck rfl) ?_
    refine Gm.q 7 [] (by kernel_rfl) rfl rfl (Qy.fieldAddr T.fa88_2 rfl) ?_
    refine Gm.q 8 [0] (by kernel_rfl) rfl rfl (Qy.load 0 T.one86 rfl rfl rfl) ?_
    refine Gm.q 9 [5] (by kernel_rfl) rfl rfl (Qy.loadAll 5 T.agg143 rfl rfl rfl) ?_
    refine Gm.q 10 [] (by kernel_rfl) rfl rfl (Qy.move rfl) ?_
    refine Gm.q 11 [] (by kernel_rfl) rfl rfl (Qy.nilCheck rfl) ?_
    refine Gm.q 12 [] (by kernel_rfl) rfl rfl (Qy.fieldAddr T.fa88_3 rfl) ?_
    refine Gm.q 13 [0] (by kernel_rfl) rfl rfl (Qy.load 0 T.one3 rfl rfl rfl) ?_
    refine Gm.q 14 [] (by kernel_rfl) rfl rfl (Qy.move rfl) ?_
    refine Gm.one 15 ⟨rfl, rfl, rfl, rfl, rfl, rfl, trivial⟩ (by first | exact Imm.le_refl _ | assumption | (refine Imm.le_trans ?_ (by assumption); first | assumption | (refine Imm.le_trans ?_ (by assumption); assumption))) (by kernel_rfl) rfl ?_
    refine Wl.mapEntry 2 rfl T.mp86 rfl rfl rfl (by assumption) ?_
    refine Wl.on0 ?_
    refine Gm.q 16 [] (by kernel_rfl) rfl rfl (Qy.extract rfl rfl) ?_
    refine Gm.one 17 ⟨rfl, rfl, rfl, rfl, trivial⟩ (by first | exact Imm.le_refl _ | assumption | (refine Imm.le_trans ?_ (by assumption); first | assumption | (refine Imm.le_trans ?_ (by assumption); assumption))) (by kernel_rfl) rfl ?_
    refine Wl.entryStore 2 rfl rfl rfl rfl ?_
    refine Wl.on0 ?_
    refine Gm.one 18 ⟨rfl, rfl, rfl, rfl, trivial⟩ (by first | exact Imm.le_refl _ | assumption | (refine Imm.le_trans ?_ (by assumption); first | assumption | (refine Imm.le_trans ?_ (by assumption); assumption))) (by kernel_rfl) rfl ?_
    refine Wl.mapEntry 3 rfl T.mp86 rfl rfl rfl (by assumption) ?_
    refine Wl.on0 ?_
    refine Gm.q 19 [] (by kernel_rfl) rfl rfl (Qy.extract rfl rfl) ?_
    refine Gm.one 20 ⟨rfl, rfl, rfl, rfl, trivial⟩ (by first | exact Imm.le_refl _ | assumption | (refine Imm.le_trans ?_ (by assumption); first | assumption | (refine Imm.le_trans ?_ (by assumption); assumption))) (by kernel_rfl) rfl ?_
    refine Wl.entryStore 3 rfl rfl rfl rfl ?_
    refine Wl.on0 ?_
    refine Gm.doneA (by kernel_rfl) ⟨rfl, rfl, rfl, rfl, trivial⟩ (by first | exact Imm.le_refl _ | assumption | (refine Imm.le_trans ?_ (by assumption); first | assumption | (refine Imm.le_trans ?_ (by assumption); assumption))) ?_
    refine Ar.next ?_
    refine Wc.region rfl ?_
    refine Wl.q rfl (Qy.move rfl) ?_
    refine Wl.q rfl (Qy.nilCheck rfl) ?_
    refine Wl.q rfl (Qy.fieldAddr T.fa88_3 rfl) ?_
    refine Wl.q rfl (Qy.load 0 T.one3 rfl rfl rfl) ?_
    refine Wl.q rfl (Qy.add rfl rfl (by omega)) ?_
    refine Wl.q rfl (Qy.nilCheck rfl) ?_
    refine Wl.q rfl (Qy.fieldAddr T.fa88_3 rfl) ?_
    refine Wl.store 0 T.one3 rfl rfl rfl rfl rfl ?_
    refine Wl.done ?_
    refine Ar.next ?_
    refine Wc.seq ?_
    refine Wc.draw [1, 4, 5, 2, 3, 0] [] T.mixed rfl ?_
    refine Gm.q 0 [] (by kernel_rfl) rfl rfl (Qy.move rfl) ?_
    refine Gm.q 1 [] (by kernel_rfl) rfl rfl (Qy.nilCheck rfl) ?_
    refine Gm.q 2 [] (by kernel_rfl) rfl rfl (Qy.fieldAddr T.fa88_1 rfl) ?_
    refine Gm.q 3 [0] (by kernel_rfl) rfl rfl (Qy.load 0 T.one86 rfl rfl rfl) ?_
    refine Gm.q 4 [5] (by kernel_rfl) rfl rfl (Qy.loadAll 5 T.agg143 rfl rfl rfl) ?_
    refine Gm.q 5 [2] (by kernel_rfl) rfl rfl (Qy.lookup1 2 T.mp86 rfl rfl rfl) ?_
    refine Gm.q 6 [] (by kernel_rfl) rfl rfl (Qy.move rfl) ?_
    refine Gm.q 7 [] (by kernel_rfl) rfl rfl (Qy.nilCheck rfl) ?_
    refine Gm.q 8 [] (by kernel_rfl) rfl rfl (Qy.fieldAddr T.fa88_2 rfl) ?_
    refine Gm.q 9 [0] (by kernel_rfl) rfl rfl (Qy.load 0 T.one86 rfl rfl rfl) ?_
    refine Gm.q 10 [5] (by kernel_rfl) rfl rfl (Qy.loadAll 5 T.agg143 rfl rfl rfl) ?_
    refine Gm.q 11 [3] (by kernel_rfl) rfl rfl (Qy.lookup1 3 T.mp86 rfl rfl rfl) ?_
    refine Gm.q 12 [] (by kernel_rfl) rfl rfl (Qy.assign rfl) ?_
    refine Gm.q 13 [] (by kernel_rfl) rfl rfl (Qy.assign rfl) ?_
    refine Gm.doneA (by kernel_rfl) ⟨rfl, rfl, rfl, rfl, rfl, rfl, trivial⟩ (by first | exact Imm.le_refl _ | assumption | (refine Imm.le_trans ?_ (by assumption); first | assumption | (refine Imm.le_trans ?_ (by assumption); assumption))) ?_
    refine Ar.next ?_
    refine Wc.ret ?_
    refine Ar.out2 (.inr rfl) (Ho := Hp.only _ [0, 1, 2, 3]) rfl (.tmp rfl) (.tmp rfl) (Hp.sub_only _ _) ?_
    rotate_left
    refine Wc.skip ?_
    refine Ar.next ?_
    refine Wc.seq ?_
    refine Wc.draw [3, 2, 1, 0, 4, 5] [] T.mixed rfl ?_
    refine Gm.q 0 [] (by kernel_rfl) rfl rfl (Qy.move rfl) ?_
    refine Gm.q 1 [] (by kernel_rfl) rfl rfl (Qy.nilCheck rfl) ?_
    refine Gm.q 2 [] (by kernel_rfl) rfl rfl (Qy.fieldAddr T.fa88_1 rfl) ?_
    refine Gm.q 3 [0] (by kernel_rfl) rfl rfl (Qy.load 0 T.one86 rfl rfl rfl) ?_
    refine Gm.q 4 [5] (by kernel_rfl) rfl rfl (Qy.loadAll 5 T.agg143 rfl rfl rfl) ?_
    refine Gm.q 5 [2] (by kernel_rfl) rfl rfl (Qy.lookup1 2 T.mp86 rfl rfl rfl) ?_
    refine Gm.q 6 [] (by kernel_rfl) rfl rfl (Qy.move rfl) ?_
    refine Gm.q 7 [] (by kernel_rfl) rfl rfl (Qy.nilCheck rfl) ?_
    refine Gm.q 8 [] (by kernel_rfl) rfl rfl (Qy.fieldAddr T.fa88_2 rfl) ?_
    refine Gm.q 9 [0] (by kernel_rfl) rfl rfl (Qy.load 0 T.one86 rfl rfl rfl) ?_
    refine Gm.q 10 [5] (by kernel_rfl) rfl rfl (Qy.loadAll 5 T.agg143 rfl rfl rfl) ?_
    refine Gm.q 11 [3] (by kernel_rfl) rfl rfl (Qy.lookup1 3 T.mp86 rfl rfl rfl) ?_
    refine Gm.q 12 [] (by kernel_rfl) rfl rfl (Qy.assign rfl) ?_
    refine Gm.q 13 [] (by kernel_rfl) rfl rfl (Qy.assign rfl) ?_
    refine Gm.doneA (by kernel_rfl) ⟨rfl, rfl, rfl, rfl, rfl, rfl, trivial⟩ (by first | exact Imm.le_refl _ | assumption | (refine Imm.le_trans ?_ (by assumption); first | assumption | (refine Imm.le_trans ?_ (by assumption); assumption))) ?_
    refine Ar.next ?_
    refine Wc.ret ?_
    refine Ar.out2 (.inr rfl) (Ho := Hp.only _ [0, 1, 2, 3]) rfl (.tmp rfl) (.tmp rfl) (Hp.sub_only _ _) ?_
    rotate_left
    · have h : reckonP t n i = ((t.held[i.a.toNat]?.getD default, -1), t) := by unfold reckonP; rw [if_pos hc1]
      rw [h]; exact ⟨rfl, rfl, rfl⟩
    · have h : reckonP t n i = ((t.next, n), { t with known := t.known ++ [(keyOf t.held i, t.next)], first := t.first ++ [(keyOf t.held i, n)], next := t.next + 1 }) := by unfold reckonP; rw [if_neg hc1, hk0]
      rw [h, mget_push hk0, mget_push hf0]; exact ⟨rfl, rfl, rfl⟩
    · rw [hk0] at hc2; cases hc2
  · refine Wc.seq ?_
    refine Wc.region rfl ?_
    refine Wl.box 4 rfl rfl rfl (fun b1 => ?_)
    refine Wl.q rfl (Qy.assign rfl) ?_
    refine Wl.q rfl (Qy.assign rfl) ?_
    refine Wl.done ?_
    refine Ar.next ?_
    refine Wc.seq ?_
    refine Wc.seq ?_
    refine Wc.region rfl ?_
    refine Wl.q rfl (Qy.fieldAddr T.fa72_0 rfl) ?_
    refine Wl.q rfl (Qy.load 4 T.one3 rfl rfl rfl) ?_
    refine Wl.q rfl (Qy.eql rfl rfl) ?_
    refine Wl.done ?_
    refine Ar.next ?_
    refine Wc.cond rfl (fun hc1 => ?_) (fun hc1 => ?_)
    refine Wc.seq ?_
    refine Wc.draw [3, 2, 1, 0, 4] [] T.mixed rfl ?_
    refine Gm.q 0 [] (by kernel_rfl) rfl rfl (Qy.move rfl) ?_
    refine Gm.q 1 [] (by kernel_rfl) rfl rfl (Qy.nilCheck rfl) ?_
    refine Gm.q 2 [] (by kernel_rfl) rfl rfl (Qy.fieldAddr T.fa88_0 rfl) ?_
    refine Gm.q 3 [0] (by kernel_rfl) rfl rfl (Qy.load 0 T.one23 rfl rfl rfl) ?_
    refine Gm.q 4 [] (by kernel_rfl) rfl rfl (Qy.fieldAddr T.fa72_2 rfl) ?_
    refine Gm.q 5 [4] (by kernel_rfl) rfl rfl (Qy.load 4 T.one3 rfl rfl rfl) ?_
    refine Gm.q 6 [] (by kernel_rfl) rfl rfl (Qy.indexAddrO (α := Int) T.sl23 rfl rfl (by assumption) (by omega)) ?_
    refine Gm.q 7 [1, 0] (by kernel_rfl) rfl rfl (Qy.loadO 1 0 T.one3 rfl rfl (by assumption) (by omega) rfl rfl) ?_
    refine Gm.q 8 [] (by kernel_rfl) rfl rfl (Qy.assign rfl) ?_
    refine Gm.q 9 [] (by kernel_rfl) rfl rfl (Qy.assign rfl) ?_
    refine Gm.doneA (by kernel_rfl) ⟨rfl, rfl, rfl, rfl, rfl, trivial⟩ (by first | exact Imm.le_refl _ | assumption | (refine Imm.le_trans ?_ (by assumption); first | assumption | (refine Imm.le_trans ?_ (by assumption); assumption))) ?_
    refine Ar.next ?_
    refine Wc.ret ?_
    refine Ar.passRet ?_
    refine Ar.out2 (.inr rfl) (Ho := Hp.only _ [0, 1, 2, 3]) rfl (.tmp rfl) (.tmp rfl) (Hp.sub_only _ _) ?_
    rotate_left
    refine Wc.skip ?_
    refine Ar.next ?_
    refine Wc.seq ?_
    refine Wc.region rfl ?_
    refine Wl.q rfl (Qy.move rfl) ?_
    refine Wl.q rfl (Qy.loadAll 4 T.agg72 rfl rfl rfl) ?_
    refine Wl.call1 0 rfl T.fn90 rfl (c90 _ _ _ _ _ _ _ _ _ (by assumption) (by omega) (by assumption)) (tags_of ⟨rfl, rfl, rfl, rfl, trivial⟩) ?_
    refine Wl.alloc 5 rfl T.zero143 (fun b2 => ?_)
    refine Wl.storeAll 5 T.size143 rfl rfl rfl rfl rfl rfl ?_
    refine Wl.done ?_
    refine Ar.next ?_
    refine Wc.seq ?_
    refine Wc.seq ?_
    refine Wc.draw [3, 2, 1, 0, 4, 5] [] T.mixed rfl ?_
    refine Gm.q 0 [] (by kernel_rfl) rfl rfl (Qy.move rfl) ?_
    refine Gm.q 1 [] (by kernel_rfl) rfl rfl (Qy.nilCheck rfl) ?_
    refine Gm.q 2 [] (by kernel_rfl) rfl rfl (Qy.fieldAddr T.fa88_1 rfl) ?_
    refine Gm.q 3 [0] (by kernel_rfl) rfl rfl (Qy.load 0 T.one86 rfl rfl rfl) ?_
    refine Gm.q 4 [5] (by kernel_rfl) rfl rfl (Qy.loadAll 5 T.agg143 rfl rfl rfl) ?_
    refine Gm.q 5 [2] (by kernel_rfl) rfl rfl (Qy.lookup2 2 T.mp86 rfl rfl rfl) ?_
    refine Gm.q 6 [] (by kernel_rfl) rfl rfl (Qy.move rfl) ?_
    refine Gm.q 7 [] (by kernel_rfl) rfl rfl (Qy.extract rfl rfl) ?_
    refine Gm.q 8 [] (by kernel_rfl) rfl rfl (Qy.extract rfl rfl) ?_
    refine Gm.q 9 [] (by kernel_rfl) rfl rfl (Qy.assign rfl) ?_
    refine Gm.q 10 [] (by kernel_rfl) rfl rfl (Qy.assign rfl) ?_
    refine Gm.doneA (by kernel_rfl) ⟨rfl, rfl, rfl, rfl, rfl, rfl, trivial⟩ (by first | exact Imm.le_refl _ | assumption | (refine Imm.le_trans ?_ (by assumption); first | assumption | (refine Imm.le_trans ?_ (by assumption); assumption))) ?_
    refine Ar.next ?_
    refine Wc.seq ?_
    refine Wc.region rfl ?_
    refine Wl.q rfl (Qy.move rfl) ?_
    refine Wl.q rfl (Qy.not rfl) ?_
    refine Wl.done ?_
    refine Ar.next ?_
    refine Wc.ite rfl (fun hc2 => ?_) (fun hc2 => ?_)
    refine Wc.seq ?_
    refine Wc.draw [3, 2, 1, 0, 4, 5] [(2, 20), (3, 20), (2, 18), (3, 18), (2, 17), (3, 17), (2, 15), (3, 15)] T.mixed rfl ?_
    refine Gm.q 0 [] (by kernel_rfl) rfl rfl (Qy.move rfl) ?_
    refine Gm.q 1 [] (by kernel_rfl) rfl rfl (Qy.nilCheck rfl) ?_
    refine Gm.q 2 [] (by kernel_rfl) rfl rfl (Qy.fieldAddr T.fa88_1 rfl) ?_
    refine Gm.q 3 [0] (by kernel_rfl) rfl rfl (Qy.load 0 T.one86 rfl rfl rfl) ?_
    refine Gm.q 4 [5] (by kernel_rfl) rfl rfl (Qy.loadAll 5 T.agg143 rfl rfl rfl) ?_
    refine Gm.q 5 [] (by kernel_rfl) rfl rfl (Qy.move rfl) ?_
    refine Gm.q 6 [] (by kernel_rfl) rfl rfl (Qy.nilCheck rfl) ?_
    refine Gm.q 7 [] (by kernel_rfl) rfl rfl (Qy.fieldAddr T.fa88_2 rfl) ?_
    refine Gm.q 8 [0] (by kernel_rfl) rfl rfl (Qy.load 0 T.one86 rfl rfl rfl) ?_
    refine Gm.q 9 [5] (by kernel_rfl) rfl rfl (Qy.loadAll 5 T.agg143 rfl rfl rfl) ?_
    refine Gm.q 10 [] (by kernel_rfl) rfl rfl (Qy.move rfl) ?_
    refine Gm.q 11 [] (by kernel_rfl) rfl rfl (Qy.nilCheck rfl) ?_
    refine Gm.q 12 [] (by kernel_rfl) rfl rfl (Qy.fieldAddr T.fa88_3 rfl) ?_
    refine Gm.q 13 [0] (by kernel_rfl) rfl rfl (Qy.load 0 T.one3 rfl rfl rfl) ?_
    refine Gm.q 14 [] (by kernel_rfl) rfl rfl (Qy.move rfl) ?_
    refine Gm.one 15 ⟨rfl, rfl, rfl, rfl, rfl, rfl, trivial⟩ (by first | exact Imm.le_refl _ | assumption | (refine Imm.le_trans ?_ (by assumption); first | assumption | (refine Imm.le_trans ?_ (by assumption); assumption))) (by kernel_rfl) rfl ?_
    rotate_left
    refine Wc.skip ?_
    refine Ar.next ?_
    refine Wc.seq ?_
    refine Wc.draw [3, 2, 1, 0, 4, 5] [] T.mixed rfl ?_
    refine Gm.q 0 [] (by kernel_rfl) rfl rfl (Qy.move rfl) ?_
    refine Gm.q 1 [] (by kernel_rfl) rfl rfl (Qy.nilCheck rfl) ?_
    refine Gm.q 2 [] (by kernel_rfl) rfl rfl (Qy.fieldAddr T.fa88_1 rfl) ?_
    refine Gm.q 3 [0] (by kernel_rfl) rfl rfl (Qy.load 0 T.one86 rfl rfl rfl) ?_
    refine Gm.q 4 [5] (by kernel_rfl) rfl rfl (Qy.loadAll 5 T.agg143 rfl rfl rfl) ?_
    refine Gm.q 5 [2] (by kernel_rfl) rfl rfl (Qy.lookup1 2 T.mp86 rfl rfl rfl) ?_
    refine Gm.q 6 [] (by kernel_rfl) rfl rfl (Qy.move rfl) ?_
    refine Gm.q 7 [] (by kernel_rfl) rfl rfl (Qy.nilCheck rfl) ?_
    refine Gm.q 8 [] (by kernel_rfl) rfl rfl (Qy.fieldAddr T.fa88_2 rfl) ?_
    refine Gm.q 9 [0] (by kernel_rfl) rfl rfl (Qy.load 0 T.one86 rfl rfl rfl) ?_
    refine Gm.q 10 [5] (by kernel_rfl) rfl rfl (Qy.loadAll 5 T.agg143 rfl rfl rfl) ?_
    refine Gm.q 11 [3] (by kernel_rfl) rfl rfl (Qy.lookup1 3 T.mp86 rfl rfl rfl) ?_
    refine Gm.q 12 [] (by kernel_rfl) rfl rfl (Qy.assign rfl) ?_
    refine Gm.q 13 [] (by kernel_rfl) rfl rfl (Qy.assign rfl) ?_
    refine Gm.doneA (by kernel_rfl) ⟨rfl, rfl, rfl, rfl, rfl, rfl, trivial⟩ (by first | exact Imm.le_refl _ | assumption | (refine Imm.le_trans ?_ (by assumption); first | assumption | (refine Imm.le_trans ?_ (by assumption); assumption))) ?_
    refine Ar.next ?_
    refine Wc.ret ?_
    refine Ar.out2 (.inr rfl) (Ho := Hp.only _ [0, 1, 2, 3]) rfl (.tmp rfl) (.tmp rfl) (Hp.sub_only _ _) ?_
    rotate_left
    · have h : reckonP t n i = ((t.held[i.a.toNat]?.getD default, -1), t) := by unfold reckonP; rw [if_pos hc1]
      rw [h]; exact ⟨rfl, rfl, rfl⟩
    · rw [hk0] at hc2; cases hc2
    · have h : reckonP t n i = ((v, (mget t.first (keyOf t.held i)).getD 0), t) := by unfold reckonP; rw [if_neg hc1, hk0]
      rw [h, hk0]; exact ⟨rfl, rfl, rfl⟩
/-- an instruction that asks the first holders -/
def askedP (held : List Int) (i : Sl.Instr) : Sl.Instr :=
  { i with a := holder held (held[i.a.toNat]?.getD default), b := if i.op = 3 ∨ i.op = 4 then holder held (held[i.b.toNat]?.getD default) else i.b }
theorem c45 (G : Imm) (t : Tab) (bt bk bf : Nat) (a : Option Addr) (c : Nat) (junk : List Value) (i : Sl.Instr) (ho : OwnA a c t.held junk) (hl : t.held.length ≤ 128) (hm : mayOk i t.held.length = true) :
    Does Try.prog 45 [.pointer (some ⟨bt, 0, none⟩), .agg (Cells.enc i).toArray] G (TabH t bt bk bf a c junk) (fun r G' Ho => r = .agg (Cells.enc (askedP t.held i)).toArray ∧ G' = G ∧ Ho = TabH t bt bk bf a c junk) := by
  rw [mayOk_iff] at hm
  obtain ⟨⟨hop1, hop2, hto1, hto2, ha1, ha2⟩, hb⟩ := hm
  have hb : i.op = 3 ∨ i.op = 4 → 0 ≤ i.b ∧ i.b < t.held.length := fun h => by rw [if_pos h] at hb; omega
  have two := asks_two i
  refine Does.enter Try.func45 rfl Try.ntmps45 rfl (fun w => ?_)
  refine Wc.seq ?_
  refine Wc.region rfl ?_
  refine Wl.box 4 rfl rfl rfl (fun b1 => ?_)
  refine Wl.alloc 5 rfl T.zero72 (fun b2 => ?_)
  refine Wl.done ?_
  refine Ar.next ?_
  refine Wc.seq ?_
  refine Wc.region rfl ?_
  refine Wl.q rfl (Qy.loadAll 4 T.agg72 rfl rfl rfl) ?_
  refine Wl.call 6 rfl T.fn59 rfl (c59 _ _) (tags_of trivial) (fun v1 G1 Ho1 hle1 hp => ?_)
  obtain ⟨ad1, cd1, junk1, rfl, hoa1, rfl, rfl⟩ := hp
  refine Wl.q rfl (Qy.len T.sl23 rfl) ?_
  refine Wl.q rfl (Qy.gtr rfl rfl) ?_
  refine Wl.q rfl (Qy.assign rfl) ?_
  refine Wl.done ?_
  refine Ar.next ?_
  refine Wc.seq ?_
  refine Wc.draw [3, 2, 1, 0, 4, 5, 7] [(4, 11)] T.mixed rfl ?_
  refine Gm.q 0 [] (by kernel_rfl) rfl rfl (Qy.move rfl) ?_
  refine Gm.q 1 [] (by kernel_rfl) rfl rfl (Qy.move rfl) ?_
  refine Gm.q 2 [] (by kernel_rfl) rfl rfl (Qy.nilCheck rfl) ?_
  refine Gm.q 3 [] (by kernel_rfl) rfl rfl (Qy.fieldAddr T.fa88_0 rfl) ?_
  refine Gm.q 4 [0] (by kernel_rfl) rfl rfl (Qy.load 0 T.one23 rfl rfl rfl) ?_
  refine Gm.q 5 [] (by kernel_rfl) rfl rfl (Qy.fieldAddr T.fa72_2 rfl) ?_
  refine Gm.q 6 [4] (by kernel_rfl) rfl rfl (Qy.load 4 T.one3 rfl rfl rfl) ?_
  refine Gm.q 7 [] (by kernel_rfl) rfl rfl (Qy.indexAddrO (α := Int) T.sl23 rfl rfl (by assumption) (by omega)) ?_
  refine Gm.q 8 [1, 0] (by kernel_rfl) rfl rfl (Qy.loadO 1 0 T.one3 rfl rfl (by assumption) (by omega) rfl rfl) ?_
  refine Gm.one 9 ⟨rfl, rfl, rfl, rfl, rfl, rfl, rfl, trivial⟩ (by first | exact Imm.le_refl _ | assumption | (refine Imm.le_trans ?_ (by assumption); first | assumption | (refine Imm.le_trans ?_ (by assumption); assumption))) (by kernel_rfl) rfl ?_
  refine Wl.call1 0 rfl T.fn46 rfl (c46 _ _ _ _ _ _ _ _ _ (by assumption) (by omega)) (tags_of ⟨rfl, rfl, rfl, rfl, trivial⟩) ?_
  refine Wl.on0 ?_
  refine Gm.q 10 [] (by kernel_rfl) rfl rfl (Qy.fieldAddr T.fa72_2 rfl) ?_
  refine Gm.one 11 ⟨rfl, rfl, rfl, rfl, rfl, rfl, rfl, trivial⟩ (by first | exact Imm.le_refl _ | assumption | (refine Imm.le_trans ?_ (by assumption); first | assumption | (refine Imm.le_trans ?_ (by assumption); assumption))) (by kernel_rfl) rfl ?_
  refine Wl.store 4 T.one3 rfl rfl rfl rfl rfl ?_
  refine Wl.on0 ?_
  refine Gm.doneA (by kernel_rfl) ⟨rfl, rfl, rfl, rfl, rfl, rfl, trivial⟩ (by first | exact Imm.le_refl _ | assumption | (refine Imm.le_trans ?_ (by assumption); first | assumption | (refine Imm.le_trans ?_ (by assumption); assumption))) ?_
  refine Ar.next ?_
  refine Wc.seq ?_
  refine Wc.seq ?_
  refine Wc.region rfl ?_
  refine Wl.q rfl (Qy.move rfl) ?_
  refine Wl.done ?_
  refine Ar.next ?_
  refine Wc.cond rfl (fun hc1 => ?_) (fun hc1 => ?_)
  refine Wc.draw [3, 2, 1, 0, 5, 7, 4] [(4, 11)] T.mixed rfl ?_
  refine Gm.q 0 [] (by kernel_rfl) rfl rfl (Qy.move rfl) ?_
  refine Gm.q 1 [] (by kernel_rfl) rfl rfl (Qy.move rfl) ?_
  refine Gm.q 2 [] (by kernel_rfl) rfl rfl (Qy.nilCheck rfl) ?_
  refine Gm.q 3 [] (by kernel_rfl) rfl rfl (Qy.fieldAddr T.fa88_0 rfl) ?_
  refine Gm.q 4 [0] (by kernel_rfl) rfl rfl (Qy.load 0 T.one23 rfl rfl rfl) ?_
  refine Gm.q 5 [] (by kernel_rfl) rfl rfl (Qy.fieldAddr T.fa72_3 rfl) ?_
  refine Gm.q 6 [4] (by kernel_rfl) rfl rfl (Qy.load 4 T.one3 rfl rfl rfl) ?_
  refine Gm.q 7 [] (by kernel_rfl) rfl rfl (Qy.indexAddrO (α := Int) T.sl23 rfl rfl (by assumption) (by omega)) ?_
  refine Gm.q 8 [1, 0] (by kernel_rfl) rfl rfl (Qy.loadO 1 0 T.one3 rfl rfl (by assumption) (by omega) rfl rfl) ?_
  refine Gm.one 9 ⟨rfl, rfl, rfl, rfl, rfl, rfl, rfl, trivial⟩ (by first | exact Imm.le_refl _ | assumption | (refine Imm.le_trans ?_ (by assumption); first | assumption | (refine Imm.le_trans ?_ (by assumption); assumption))) (by kernel_rfl) rfl ?_
  refine Wl.call1 0 rfl T.fn46 rfl (c46 _ _ _ _ _ _ _ _ _ (by assumption) (by omega)) (tags_of ⟨rfl, rfl, rfl, rfl, trivial⟩) ?_
  refine Wl.on0 ?_
  refine Gm.q 10 [] (by kernel_rfl) rfl rfl (Qy.fieldAddr T.fa72_3 rfl) ?_
  refine Gm.one 11 ⟨rfl, rfl, rfl, rfl, rfl, rfl, rfl, trivial⟩ (by first | exact Imm.le_refl _ | assumption | (refine Imm.le_trans ?_ (by assumption); first | assumption | (refine Imm.le_trans ?_ (by assumption); assumption))) (by kernel_rfl) rfl ?_
  refine Wl.store 4 T.one3 rfl rfl rfl rfl rfl ?_
  refine Wl.on0 ?_
  refine Gm.doneA (by kernel_rfl) ⟨rfl, rfl, rfl, rfl, rfl, rfl, trivial⟩ (by first | exact Imm.le_refl _ | assumption | (refine Imm.le_trans ?_ (by assumption); first | assumption | (refine Imm.le_trans ?_ (by assumption); assumption))) ?_
  refine Ar.next ?_
  refine Wc.seq ?_
  refine Wc.region rfl ?_
  refine Wl.q rfl (Qy.loadAll 4 T.agg72 rfl rfl rfl) ?_
  refine Wl.storeAll 5 T.size72 rfl rfl rfl rfl rfl rfl ?_
  refine Wl.done ?_
  refine Ar.next ?_
  refine Wc.ret ?_
  refine Ar.out1 (.inr rfl) (Ho := Hp.only _ [0, 1, 2, 3]) rfl (.agg 5 rfl rfl T.agg72) (Hp.sub_only _ _) ?_
  rotate_left
  refine Wc.skip ?_
  refine Ar.next ?_
  refine Wc.seq ?_
  refine Wc.region rfl ?_
  refine Wl.q rfl (Qy.loadAll 4 T.agg72 rfl rfl rfl) ?_
  refine Wl.storeAll 5 T.size72 rfl rfl rfl rfl rfl rfl ?_
  refine Wl.done ?_
  refine Ar.next ?_
  refine Wc.ret ?_
  refine Ar.out1 (.inr rfl) (Ho := Hp.only _ [0, 1, 2, 3]) rfl (.agg 5 rfl rfl T.agg72) (Hp.sub_only _ _) ?_
  rotate_left
  · refine ⟨?_, rfl, rfl⟩
    have h : askedP t.held i = ⟨i.op, i.to, holder t.held (t.held[i.a.toNat]?.getD default), holder t.held (t.held[i.b.toNat]?.getD default), i.c⟩ := by
      unfold askedP; rw [if_pos (by omega)]
    rw [h]; rfl
  · refine ⟨?_, rfl, rfl⟩
    have h : askedP t.held i = ⟨i.op, i.to, holder t.held (t.held[i.a.toNat]?.getD default), i.b, i.c⟩ := by
      unfold askedP; rw [if_neg (by omega)]
    rw [h]; rfl
end Go.Proofs.Ytbppmiimeccclaa
namespace Go.Proofs.Ytbppmiimeccclaa
open Go Go.Sl
set_option maxRecDepth 100000
set_option maxHeartbeats 2000000
/-- the pass, one instruction: the table, what comes out -/
def passStep (s : Tab × List Sl.Instr) (n : Int) (i : Sl.Instr) : Tab × List Sl.Instr :=
  let v := (reckonP s.1 n i).1.1
  let t := (reckonP s.1 n i).2
  let j := askedP t.held i
  if t.held[i.to.toNat]?.getD default = v then (t, s.2)
  else ({ t with held := t.held.set i.to.toNat v }, s.2 ++ [if 0 ≤ holder t.held v then ⟨1, j.to, holder t.held v, 0, 0⟩ else j])
def passTo (p : PV) : Nat → Tab × List Sl.Instr
  | 0 => (⟨start p, [], [], p.ins + 1⟩, [])
  | k + 1 => passStep (passTo p k) k (p.code[((k : Nat) : Int).toNat]?.getD default)
def passOuts (p : PV) (held : List Int) : List Int := p.outs.map fun r => holder held (held[r.toNat]?.getD default)
def passP (p : PV) : PV := ⟨p.ins, p.regs, (passTo p p.code.length).2, passOuts p (passTo p p.code.length).1.held⟩
theorem right_facts {p : PV} (h : rightP p = true) : 1 ≤ p.ins ∧ p.ins ≤ p.regs ∧ p.regs ≤ 128 ∧ p.code.length ≤ 16384 ∧ 1 ≤ p.outs.length ∧ p.outs.length ≤ 128 ∧ (∀ r ∈ p.outs, 0 ≤ r ∧ r < p.regs) ∧ (∀ i ∈ p.code, mayOk i p.regs = true) := by
  unfold rightP checkP at h
  by_cases hh : headOk p = false
  · rw [if_pos hh] at h; cases h
  · rw [if_neg hh] at h
    have hb : badAt p = none := by
      cases hb : badAt p with
      | none => rfl
      | some k => rw [hb] at h; cases h
    have hh' : headOk p = true := by simpa using hh
    unfold headOk at hh'
    rw [Bool.and_eq_true, decide_eq_true_eq, List.all_eq_true] at hh'
    unfold badAt at hb
    rw [List.findIdx?_eq_none_iff] at hb
    obtain ⟨⟨g1, g2, g3, g4, g5, g6⟩, g7⟩ := hh'
    refine ⟨g1, g2, g3, g4, g5, g6, fun r hr => ?_, fun i hi => ?_⟩
    · have := g7 r hr; rw [decide_eq_true_eq] at this; exact this
    · simpa using hb i hi
theorem reckon_held (t : Tab) (n : Int) (i : Sl.Instr) : (reckonP t n i).2.held = t.held := by
  unfold reckonP; split
  · rfl
  · split <;> rfl
theorem reckon_kf {t : Tab} {n : Int} {i : Sl.Instr} (h : ∀ x, mget t.known x = none → mget t.first x = none) : ∀ x, mget (reckonP t n i).2.known x = none → mget (reckonP t n i).2.first x = none := by
  unfold reckonP
  split
  · exact h
  · split
    · rename_i hk
      intro x hx
      rw [← mput_none _ _ _ hk, mget_mput] at hx
      rw [← mput_none _ _ _ (h _ hk), mget_mput]
      split at hx
      · cases hx
      · rename_i hne; rw [if_neg hne]; exact h _ hx
    · exact h
theorem reckon_next {t : Tab} (h : 0 ≤ t.next) (n : Int) (i : Sl.Instr) : 0 ≤ (reckonP t n i).2.next ∧ (reckonP t n i).2.next ≤ t.next + 1 := by
  unfold reckonP
  split
  · exact ⟨h, by show t.next ≤ _; omega⟩
  · split
    · exact ⟨by show 0 ≤ t.next + 1; omega, Int.le_refl _⟩
    · exact ⟨h, by show t.next ≤ _; omega⟩
section
variable {t : Tab} {out : List Sl.Instr} {n : Int} {i : Sl.Instr}
theorem passStep_same (h : (reckonP t n i).2.held[(askedP (reckonP t n i).2.held i).to.toNat]?.getD default = (reckonP t n i).1.1) : passStep (t, out) n i = ((reckonP t n i).2, out) := if_pos h
theorem passStep_move (h : ¬ (reckonP t n i).2.held[(askedP (reckonP t n i).2.held i).to.toNat]?.getD default = (reckonP t n i).1.1) (h2 : 0 ≤ holder (reckonP t n i).2.held (reckonP t n i).1.1) :
    passStep (t, out) n i = ({ (reckonP t n i).2 with held := (reckonP t n i).2.held.set (askedP (reckonP t n i).2.held i).to.toNat (reckonP t n i).1.1 }, out ++ [⟨1, (askedP (reckonP t n i).2.held i).to, holder (reckonP t n i).2.held (reckonP t n i).1.1, 0, 0⟩]) :=
  (if_neg h).trans (by rw [if_pos h2]; rfl)
theorem passStep_keep (h : ¬ (reckonP t n i).2.held[(askedP (reckonP t n i).2.held i).to.toNat]?.getD default = (reckonP t n i).1.1) (h2 : ¬ 0 ≤ holder (reckonP t n i).2.held (reckonP t n i).1.1) :
    passStep (t, out) n i = ({ (reckonP t n i).2 with held := (reckonP t n i).2.held.set (askedP (reckonP t n i).2.held i).to.toNat (reckonP t n i).1.1 }, out ++ [askedP (reckonP t n i).2.held i]) :=
  (if_neg h).trans (by rw [if_neg h2]; rfl)
end
theorem c13W (G : Imm) (p : PV) (ac ao : Option Addr) (cc co : Nat) (hc : Arr G ac p.code) (ho : Arr G ao p.outs) (h1 : p.code.length ≤ 1099511627776) (h2 : p.outs.length ≤ 1099511627776) (hR : ¬ rightP p = true) :
    Does Try.prog 13 [.agg #[.int .i64 p.ins, .int .i64 p.regs, .slice ac p.code.length cc, .slice ao p.outs.length co]] G [] (fun v G' Ho =>
      v = .tuple #[.agg #[.int .i64 0, .int .i64 0, .slice none 0 0, .slice none 0 0], .int .i64 80] ∧ Ho = [] ∧ G' = G) := by
  have hcheck : (checkP p).2 = true := by simpa [rightP] using hR
  refine Does.enter Try.func13 rfl Try.ntmps13 rfl (fun w => ?_)
  refine Wc.seq ?_
  refine Wc.region rfl ?_
  refine Wl.box 0 rfl rfl rfl (fun b1 => ?_)
  refine Wl.alloc 1 rfl T.zero25 (fun b2 => ?_)
  refine Wl.q rfl (Qy.assign rfl) ?_
  refine Wl.done ?_
  refine Ar.next ?_
  refine Wc.seq ?_
  refine Wc.seq ?_
  refine Wc.region rfl ?_
  refine Wl.q rfl (Qy.loadAll 0 T.agg25 rfl rfl rfl) ?_
  refine Wl.call0 rfl T.fn40 rfl (c40 _ _ _ _ _ _ (by assumption) (by assumption) (by omega) (by omega)) ?_
  refine Wl.q rfl (Qy.move rfl) ?_
  refine Wl.q rfl (Qy.extract rfl rfl) ?_
  refine Wl.q rfl (Qy.extract rfl rfl) ?_
  refine Wl.q rfl (Qy.assign rfl) ?_
  refine Wl.q rfl (Qy.assign rfl) ?_
  refine Wl.done ?_
  refine Ar.next ?_
  refine Wc.seq ?_
  refine Wc.region rfl ?_
  refine Wl.q rfl (Qy.move rfl) ?_
  refine Wl.q rfl (Qy.neq rfl rfl) ?_
  refine Wl.done ?_
  refine Ar.next ?_
  refine Wc.cond rfl (fun hc1 => ?_) (fun hc1 => ?_)
  refine Wc.seq ?_
  refine Wc.region rfl ?_
  refine Wl.q rfl (Qy.build (cs := [_, _, _, _]) T.st25 rfl rfl rfl) ?_
  refine Wl.q rfl (Qy.move rfl) ?_
  refine Wl.storeAll 1 T.size25 rfl rfl rfl rfl rfl rfl ?_
  refine Wl.q rfl (Qy.assign rfl) ?_
  refine Wl.done ?_
  refine Ar.next ?_
  refine Wc.ret ?_
  refine Ar.passRet ?_
  rotate_left
  refine Wc.skip ?_
  refine Ar.next ?_
  refine Wc.seq ?_
  refine Wc.region rfl ?_
  refine Wl.q rfl (Qy.loadAll 0 T.agg25 rfl rfl rfl) ?_
  rotate_left
  · refine Ar.out2 (.inr rfl) (Ho := []) rfl (.agg 1 rfl rfl T.agg25) (.tmp rfl) trivial ?_
    rw [hcheck]; exact ⟨rfl, rfl, rfl⟩
  · rw [hcheck] at hc1; exact absurd (by decide) hc1
theorem c13R (G : Imm) (p : PV) (ac ao : Option Addr) (cc co : Nat) (hc : Arr G ac p.code) (ho : Arr G ao p.outs) (h1 : p.code.length ≤ 1099511627776) (h2 : p.outs.length ≤ 1099511627776) (hR : rightP p = true) :
    Does Try.prog 13 [.agg #[.int .i64 p.ins, .int .i64 p.regs, .slice ac p.code.length cc, .slice ao p.outs.length co]] G [] (fun v G' Ho =>
      ∃ bc bo dc do_ j1 j2, v = .tuple #[.agg #[.int .i64 p.ins, .int .i64 p.regs, .slice bc (passP p).code.length dc, .slice bo (passP p).outs.length do_], .int .i64 0] ∧
        OwnA bc dc (passP p).code j1 ∧ OwnA bo do_ (passP p).outs j2 ∧ Ho = [(0, bc.map (·.block), Row 72 (passP p).code j1), (1, bo.map (·.block), Row 3 (passP p).outs j2)] ∧ G' = G) := by
  obtain ⟨r1, r2, r3, r4, r5, r6, r7, r8⟩ := right_facts hR
  have hcheck : (checkP p).2 = false := by simpa [rightP] using hR
  refine Does.enter Try.func13 rfl Try.ntmps13 rfl (fun w => ?_)
  refine Wc.nilRow 0 (Row 72 ([] : List Sl.Instr) []) (Wc.nilRow 1 (Row 3 ([] : List Int) []) ?_)
  refine Wc.seq ?_
  refine Wc.region rfl ?_
  refine Wl.box 2 rfl rfl rfl (fun b1 => ?_)
  refine Wl.alloc 3 rfl T.zero25 (fun b2 => ?_)
  refine Wl.q rfl (Qy.assign rfl) ?_
  refine Wl.done ?_
  refine Ar.next ?_
  refine Wc.seq ?_
  refine Wc.seq ?_
  refine Wc.region rfl ?_
  refine Wl.q rfl (Qy.loadAll 2 T.agg25 rfl rfl rfl) ?_
  refine Wl.call0 rfl T.fn40 rfl (c40 _ _ _ _ _ _ (by assumption) (by assumption) (by omega) (by omega)) ?_
  refine Wl.q rfl (Qy.move rfl) ?_
  refine Wl.q rfl (Qy.extract rfl rfl) ?_
  refine Wl.q rfl (Qy.extract rfl rfl) ?_
  refine Wl.q rfl (Qy.assign rfl) ?_
  refine Wl.q rfl (Qy.assign rfl) ?_
  refine Wl.done ?_
  refine Ar.next ?_
  refine Wc.seq ?_
  refine Wc.region rfl ?_
  refine Wl.q rfl (Qy.move rfl) ?_
  refine Wl.q rfl (Qy.neq rfl rfl) ?_
  refine Wl.done ?_
  refine Ar.next ?_
  refine Wc.cond rfl (fun hc1 => ?_) (fun hc1 => ?_)
  refine Wc.seq ?_
  refine Wc.region rfl ?_
  refine Wl.q rfl (Qy.build (cs := [_, _, _, _]) T.st25 rfl rfl rfl) ?_
  refine Wl.q rfl (Qy.move rfl) ?_
  refine Wl.storeAll 3 T.size25 rfl rfl rfl rfl rfl rfl ?_
  refine Wl.q rfl (Qy.assign rfl) ?_
  refine Wl.done ?_
  refine Ar.next ?_
  refine Wc.ret ?_
  refine Ar.passRet ?_
  rotate_left
  refine Wc.skip ?_
  refine Ar.next ?_
  refine Wc.seq ?_
  refine Wc.region rfl ?_
  refine Wl.q rfl (Qy.loadAll 2 T.agg25 rfl rfl rfl) ?_
  refine Wl.call 4 rfl T.fn43 rfl (c43 _ _ _ _ _ _ (by omega)) (tags_of trivial) (fun v1 G1 Ho1 hle1 hp => ?_)
  obtain ⟨bt1, bk1, bf1, ta1, tc1, tj1, rfl, hto1, rfl, rfl⟩ := hp
  refine Wl.q rfl (Qy.assign rfl) ?_
  refine Wl.done ?_
  refine Ar.next ?_
  refine Wc.seq ?_
  refine Wc.region rfl ?_
  refine Wl.q rfl (Qy.fieldAddr T.fa25_0 rfl) ?_
  refine Wl.q rfl (Qy.load 2 T.one3 rfl rfl rfl) ?_
  refine Wl.q rfl (Qy.fieldAddr T.fa25_1 rfl) ?_
  refine Wl.q rfl (Qy.load 2 T.one3 rfl rfl rfl) ?_
  refine Wl.q rfl (Qy.build (cs := [_, _, _, _]) T.st25 rfl rfl rfl) ?_
  refine Wl.alloc 8 rfl T.zero25 (fun b3 => ?_)
  refine Wl.storeAll 8 T.size25 rfl rfl rfl rfl rfl rfl ?_
  refine Wl.done ?_
  refine Ar.next ?_
  refine Wc.seq ?_
  refine Wc.seq ?_
  refine Wc.region rfl ?_
  refine Wl.q rfl (Qy.fieldAddr T.fa25_2 rfl) ?_
  refine Wl.q rfl (Qy.load 2 T.one22 rfl rfl rfl) ?_
  refine Wl.q rfl (Qy.len T.sl22 rfl) ?_
  refine Wl.q rfl (Qy.move rfl) ?_
  refine Wl.done ?_
  refine Ar.next ?_
  refine Wc.block ?_
  rotate_left
  · rw [hcheck] at hc1; exact absurd rfl hc1
  refine Wc.loop (ι := Nat × Tab × List Sl.Instr × (Option Addr × Nat × List Value) × (Option Addr × Nat × List Value)) (fun (k, t, out, (a, c, junk), (a', c', junk')) => ([(34, .int .i64 (k : Int)), (33, Go.Value.int Go.IntKind.i64 (↑(List.length (Go.Proofs.Ytbppmiimeccclaa.PV.code p)) : Int)), (32, Go.Value.slice ac (List.length (Go.Proofs.Ytbppmiimeccclaa.PV.code p)) cc), (7, Go.Value.pointer (Option.some (Go.Addr.mk b3 0 Option.none))), (6, Go.Value.pointer (Option.some (Go.Addr.mk bt1 0 Option.none))), (3, Go.Value.int Go.IntKind.i64 0), (2, Go.Value.pointer (Option.some (Go.Addr.mk b2 0 Option.none))), (1, Go.Value.pointer (Option.some (Go.Addr.mk b1 0 Option.none)))], [(4, some bt1, .cells #[.slice a t.held.length c, .map (some bk1), .map (some bf1), .int .i64 t.next] 88), (5, a.map (·.block), Row 3 t.held junk), (6, some bk1, mapObj t.known), (7, some bf1, mapObj t.first), (8, some b3, .cells #[.int .i64 p.ins, .int .i64 p.regs, .slice a' out.length c', .slice none 0 0] 25), (0, a'.map (·.block), Row 72 out junk'), (3, Option.some b2, Go.Obj.cells #[Go.Value.int Go.IntKind.i64 0, Go.Value.int Go.IntKind.i64 0, Go.Value.slice Option.none 0 0, Go.Value.slice Option.none 0 0] 25), (2, Option.some b1, Go.Obj.cells #[Go.Value.int Go.IntKind.i64 (Go.Proofs.Ytbppmiimeccclaa.PV.ins p), Go.Value.int Go.IntKind.i64 (Go.Proofs.Ytbppmiimeccclaa.PV.regs p), Go.Value.slice ac (List.length (Go.Proofs.Ytbppmiimeccclaa.PV.code p)) cc, Go.Value.slice ao (List.length (Go.Proofs.Ytbppmiimeccclaa.PV.outs p)) co] 25), (1, Option.none, Go.Sl.Row (α := Int) 3 ([]) ([]))])) (fun (k, t, out, (a, c, junk), (a', c', junk')) => k ≤ p.code.length ∧ (t, out) = passTo p k ∧ OwnA a c t.held junk ∧ OwnA a' c' out junk' ∧ (t.held.length : Int) = p.regs ∧ out.length ≤ k ∧ (∀ x, mget t.known x = none → mget t.first x = none) ∧ 0 ≤ t.next ∧ t.next ≤ p.ins + 1 + k) (fun (k, t, out, (a, c, junk), (a', c', junk')) => p.code.length - k) ((0, ⟨start p, [], [], p.ins + 1⟩, [], (ta1, tc1, tj1), (none, 0, []))) (⟨Nat.zero_le _, rfl, hto1, OwnA.nil, by simp [start]; omega, Nat.zero_le _, fun _ _ => rfl, by show 0 ≤ p.ins + 1; omega, by show p.ins + 1 ≤ p.ins + 1 + 0; omega⟩) ⟨rfl, rfl, rfl, rfl, rfl, rfl, rfl, rfl, trivial⟩ ⟨rfl, rfl, rfl, rfl, rfl, rfl, rfl, rfl, rfl, trivial⟩ (fun ⟨k, t, out, (a, c, junk), (a', c', junk')⟩ => fun (hk : k ≤ p.code.length ∧ (t, out) = passTo p k ∧ OwnA a c t.held junk ∧ OwnA a' c' out junk' ∧ (t.held.length : Int) = p.regs ∧ out.length ≤ k ∧ (∀ x, mget t.known x = none → mget t.first x = none) ∧ 0 ≤ t.next ∧ t.next ≤ p.ins + 1 + k) => ?_)
  obtain ⟨hk1, hpass, hoa, hoa', hlen, hout, hkf, hn0, hn1⟩ := hk
  rcases Nat.lt_or_ge k p.code.length with hlt | hge
  · have hm : mayOk (p.code[((k : Nat) : Int).toNat]?.getD default) t.held.length = true := by
      rw [hlen]; refine r8 _ ?_
      rw [Int.toNat_natCast, List.getElem?_eq_getElem hlt]; simp
    have hrh := reckon_held t k (p.code[((k : Nat) : Int).toNat]?.getD default)
    have hra : OwnA a c (reckonP t k (p.code[((k : Nat) : Int).toNat]?.getD default)).2.held junk := by rw [hrh]; exact hoa
    have hrl : (reckonP t k (p.code[((k : Nat) : Int).toNat]?.getD default)).2.held.length = t.held.length := by rw [hrh]
    have hrm : mayOk (p.code[((k : Nat) : Int).toNat]?.getD default) (reckonP t k (p.code[((k : Nat) : Int).toNat]?.getD default)).2.held.length = true := by rw [hrl]; exact hm
    have hto : 0 ≤ (askedP (reckonP t k (p.code[((k : Nat) : Int).toNat]?.getD default)).2.held (p.code[((k : Nat) : Int).toNat]?.getD default)).to ∧
      (askedP (reckonP t k (p.code[((k : Nat) : Int).toNat]?.getD default)).2.held (p.code[((k : Nat) : Int).toNat]?.getD default)).to < (reckonP t k (p.code[((k : Nat) : Int).toNat]?.getD default)).2.held.length := by
      rw [mayOk_iff] at hm; unfold askedP; rw [hrl]; exact ⟨hm.1.2.2.1, hm.1.2.2.2.1⟩
    refine Wc.seq ?_
    refine Wc.region rfl ?_
    refine Wl.q rfl (Qy.lss rfl rfl) ?_
    refine Wl.done ?_
    refine Ar.next ?_
    refine Wc.seq ?_
    refine Wc.condP rfl (by first | assumption | omega) ?_
    refine Wc.skip ?_
    refine Ar.next ?_
    refine Wc.seq ?_
    refine Wc.block ?_
    refine Wc.seq ?_
    refine Wc.region rfl ?_
    refine Wl.q rfl (Qy.move rfl) ?_
    refine Wl.q rfl (Qy.at (α := Instr) T.sl22 rfl rfl (by assumption) (by omega)) ?_
    refine Wl.q rfl (Qy.loadsG T.agg72 rfl (Arr.elem (by assumption) (by omega)) rfl) ?_
    refine Wl.alloc 9 rfl T.zero72 (fun b4 => ?_)
    refine Wl.q rfl (Qy.assign rfl) ?_
    refine Wl.storeAll 9 T.size72 rfl rfl rfl rfl rfl rfl ?_
    refine Wl.done ?_
    refine Ar.next ?_
    refine Wc.seq ?_
    refine Wc.region rfl ?_
    refine Wl.q rfl (Qy.move rfl) ?_
    refine Wl.q rfl (Qy.move rfl) ?_
    refine Wl.q rfl (Qy.loadAll 9 T.agg72 rfl rfl rfl) ?_
    refine Wl.call 4 rfl T.fn44 rfl (c44 _ _ _ _ _ _ _ _ _ _ (by assumption) (by omega) (by assumption) (by assumption) (by omega)) (tags_of ⟨rfl, rfl, rfl, rfl, trivial⟩) (fun v2 G2 Ho2 hle2 hp => ?_)
    obtain ⟨rfl, rfl, rfl⟩ := hp
    refine Wl.q rfl (Qy.move rfl) ?_
    refine Wl.q rfl (Qy.extract rfl rfl) ?_
    refine Wl.q rfl (Qy.extract rfl rfl) ?_
    refine Wl.q rfl (Qy.assign rfl) ?_
    refine Wl.q rfl (Qy.assign rfl) ?_
    refine Wl.done ?_
    refine Ar.next ?_
    refine Wc.seq ?_
    refine Wc.region rfl ?_
    refine Wl.q rfl (Qy.move rfl) ?_
    refine Wl.q rfl (Qy.loadAll 9 T.agg72 rfl rfl rfl) ?_
    refine Wl.call1 4 rfl T.fn45 rfl (c45 _ _ _ _ _ _ _ _ _ (by assumption) (by omega) (by assumption)) (tags_of ⟨rfl, rfl, rfl, rfl, trivial⟩) ?_
    refine Wl.storeAll 9 T.size72 rfl rfl rfl rfl rfl rfl ?_
    refine Wl.done ?_
    refine Ar.next ?_
    refine Wc.seq ?_
    refine Wc.seq ?_
    refine Wc.draw [1, 2, 3, 0, 8, 7, 6, 5, 4, 9] [] T.mixed rfl ?_
    refine Gm.q 0 [] (by kernel_rfl) rfl rfl (Qy.move rfl) ?_
    refine Gm.q 1 [] (by kernel_rfl) rfl rfl (Qy.nilCheck rfl) ?_
    refine Gm.q 2 [] (by kernel_rfl) rfl rfl (Qy.fieldAddr T.fa88_0 rfl) ?_
    refine Gm.q 3 [4] (by kernel_rfl) rfl rfl (Qy.load 4 T.one23 rfl rfl rfl) ?_
    refine Gm.q 4 [] (by kernel_rfl) rfl rfl (Qy.fieldAddr T.fa72_1 rfl) ?_
    refine Gm.q 5 [9] (by kernel_rfl) rfl rfl (Qy.load 9 T.one3 rfl rfl rfl) ?_
    refine Gm.q 6 [] (by kernel_rfl) rfl rfl (Qy.indexAddrO (α := Int) T.sl23 rfl rfl (by assumption) (by omega)) ?_
    refine Gm.q 7 [0, 5] (by kernel_rfl) rfl rfl (Qy.loadO 5 0 T.one3 rfl rfl (by assumption) (by omega) rfl rfl) ?_
    refine Gm.q 8 [] (by kernel_rfl) rfl rfl (Qy.move rfl) ?_
    refine Gm.q 9 [] (by kernel_rfl) rfl rfl (Qy.eql rfl rfl) ?_
    refine Gm.doneA (by kernel_rfl) ⟨rfl, rfl, rfl, rfl, rfl, rfl, rfl, rfl, rfl, rfl, trivial⟩ (by first | exact Imm.le_refl _ | assumption | (refine Imm.le_trans ?_ (by assumption); first | assumption | (refine Imm.le_trans ?_ (by assumption); assumption))) ?_
    refine Ar.next ?_
    refine Wc.cond rfl (fun hc2 => ?_) (fun hc2 => ?_)
    refine Wc.exit ?_
    refine Ar.passExit ?_
    refine Ar.here ?_
    refine Ar.next ?_
    refine Wc.region rfl ?_
    refine Wl.q rfl (Qy.add rfl rfl (by omega)) ?_
    refine Wl.q rfl (Qy.move rfl) ?_
    refine Wl.done ?_
    rotate_left
    refine Wc.skip ?_
    refine Ar.next ?_
    refine Wc.seq ?_
    refine Wc.seq ?_
    refine Wc.region rfl ?_
    refine Wl.q rfl (Qy.move rfl) ?_
    refine Wl.q rfl (Qy.move rfl) ?_
    refine Wl.call1 4 rfl T.fn46 rfl (c46 _ _ _ _ _ _ _ _ _ (by assumption) (by omega)) (tags_of ⟨rfl, rfl, rfl, rfl, trivial⟩) ?_
    refine Wl.q rfl (Qy.assign rfl) ?_
    refine Wl.done ?_
    refine Ar.next ?_
    refine Wc.seq ?_
    refine Wc.region rfl ?_
    refine Wl.q rfl (Qy.move rfl) ?_
    refine Wl.q rfl (Qy.geq rfl rfl) ?_
    refine Wl.done ?_
    refine Ar.next ?_
    refine Wc.cond rfl (fun hc3 => ?_) (fun hc3 => ?_)
    refine Wc.region rfl ?_
    refine Wl.q rfl (Qy.fieldAddr T.fa72_1 rfl) ?_
    refine Wl.q rfl (Qy.load 9 T.one3 rfl rfl rfl) ?_
    refine Wl.q rfl (Qy.move rfl) ?_
    refine Wl.q rfl (Qy.build (cs := [_, _, _, _, _]) T.st72 rfl rfl rfl) ?_
    refine Wl.storeAll 9 T.size72 rfl rfl rfl rfl rfl rfl ?_
    refine Wl.done ?_
    refine Ar.next ?_
    refine Wc.seq ?_
    refine Wc.region rfl ?_
    refine Wl.q rfl (Qy.fieldAddr T.fa25_2 rfl) ?_
    refine Wl.q rfl (Qy.load 8 T.one22 rfl rfl rfl) ?_
    refine Wl.q rfl (Qy.loadAll 9 T.agg72 rfl rfl rfl) ?_
    refine Wl.lit (α := Instr) 10 [⟨1, Go.Sl.Instr.to (Go.Proofs.Ytbppmiimeccclaa.askedP (Go.Proofs.Ytbppmiimeccclaa.Tab.held (Prod.snd (Go.Proofs.Ytbppmiimeccclaa.reckonP t (↑k : Int) (Option.getD (Go.Proofs.Ytbppmiimeccclaa.PV.code p)[Int.toNat (↑k : Int)]? Inhabited.default)))) (Option.getD (Go.Proofs.Ytbppmiimeccclaa.PV.code p)[Int.toNat (↑k : Int)]? Inhabited.default)), Go.Proofs.Ytbppmiimeccclaa.holder (Go.Proofs.Ytbppmiimeccclaa.Tab.held (Prod.snd (Go.Proofs.Ytbppmiimeccclaa.reckonP t (↑k : Int) (Option.getD (Go.Proofs.Ytbppmiimeccclaa.PV.code p)[Int.toNat (↑k : Int)]? Inhabited.default)))) (Prod.fst (Prod.fst (Go.Proofs.Ytbppmiimeccclaa.reckonP t (↑k : Int) (Option.getD (Go.Proofs.Ytbppmiimeccclaa.PV.code p)[Int.toNat (↑k : Int)]? Inhabited.default)))), 0, 0⟩] rfl T.sl22 T.el72 rfl rfl rfl rfl rfl (fun b5 => ?_)
    refine Wl.append (α := Instr) 0 rfl T.sl22 T.el72 rfl rfl rfl (by first | assumption | exact OwnA.nil | exact OwnA.made (by simp)) (Src.row 10 rfl) (by first | omega | (simp only [List.length_append, List.length_cons, List.length_nil, maxLen]; omega)) (by first | omega | (simp only [List.length_append, List.length_cons, List.length_nil, maxLen]; omega)) (fun a1 c1 junk1 ho1 => ?_)
    refine Wl.q rfl (Qy.fieldAddr T.fa25_2 rfl) ?_
    refine Wl.store 8 T.one22 rfl rfl rfl rfl rfl ?_
    refine Wl.done ?_
    refine Ar.next ?_
    refine Wc.draw [1, 2, 3, 7, 6, 5, 4, 9, 10, 0, 8] [(8, 8), (0, 8), (10, 8), (9, 8), (4, 8), (5, 8), (3, 8), (2, 8), (1, 8)] T.mixed rfl ?_
    refine Gm.q 0 [] (by kernel_rfl) rfl rfl (Qy.move rfl) ?_
    refine Gm.q 1 [] (by kernel_rfl) rfl rfl (Qy.nilCheck rfl) ?_
    refine Gm.q 2 [] (by kernel_rfl) rfl rfl (Qy.fieldAddr T.fa88_0 rfl) ?_
    refine Gm.q 3 [4] (by kernel_rfl) rfl rfl (Qy.load 4 T.one23 rfl rfl rfl) ?_
    refine Gm.q 4 [] (by kernel_rfl) rfl rfl (Qy.fieldAddr T.fa72_1 rfl) ?_
    refine Gm.q 5 [9] (by kernel_rfl) rfl rfl (Qy.load 9 T.one3 rfl rfl rfl) ?_
    refine Gm.q 6 [] (by kernel_rfl) rfl rfl (Qy.move rfl) ?_
    refine Gm.q 7 [] (by kernel_rfl) rfl rfl (Qy.indexAddrO (α := Int) T.sl23 rfl rfl (by assumption) (by omega)) ?_
    refine Gm.one 8 ⟨rfl, rfl, rfl, rfl, rfl, rfl, rfl, rfl, rfl, rfl, rfl, trivial⟩ (by first | exact Imm.le_refl _ | assumption | (refine Imm.le_trans ?_ (by assumption); first | assumption | (refine Imm.le_trans ?_ (by assumption); assumption))) (by kernel_rfl) rfl ?_
    refine Wl.setO (z := _) 5 T.size3 rfl rfl rfl (by assumption) (by omega) rfl (fun ho2 => ?_)
    refine Wl.on0 ?_
    refine Gm.doneA (by kernel_rfl) ⟨rfl, rfl, trivial⟩ (by first | exact Imm.le_refl _ | assumption | (refine Imm.le_trans ?_ (by assumption); first | assumption | (refine Imm.le_trans ?_ (by assumption); assumption))) ?_
    refine Ar.outNormal ?_
    refine Ar.next ?_
    refine Wc.region rfl ?_
    refine Wl.q rfl (Qy.add rfl rfl (by omega)) ?_
    refine Wl.q rfl (Qy.move rfl) ?_
    refine Wl.done ?_
    rotate_left
    refine Wc.skip ?_
    refine Ar.next ?_
    refine Wc.seq ?_
    refine Wc.region rfl ?_
    refine Wl.q rfl (Qy.fieldAddr T.fa25_2 rfl) ?_
    refine Wl.q rfl (Qy.load 8 T.one22 rfl rfl rfl) ?_
    refine Wl.q rfl (Qy.loadAll 9 T.agg72 rfl rfl rfl) ?_
    refine Wl.lit (α := Instr) 10 [(Go.Proofs.Ytbppmiimeccclaa.askedP (Go.Proofs.Ytbppmiimeccclaa.Tab.held (Prod.snd (Go.Proofs.Ytbppmiimeccclaa.reckonP t (↑k : Int) (Option.getD (Go.Proofs.Ytbppmiimeccclaa.PV.code p)[Int.toNat (↑k : Int)]? Inhabited.default)))) (Option.getD (Go.Proofs.Ytbppmiimeccclaa.PV.code p)[Int.toNat (↑k : Int)]? Inhabited.default))] rfl T.sl22 T.el72 rfl rfl rfl rfl rfl (fun b5 => ?_)
    refine Wl.append (α := Instr) 0 rfl T.sl22 T.el72 rfl rfl rfl (by first | assumption | exact OwnA.nil | exact OwnA.made (by simp)) (Src.row 10 rfl) (by first | omega | (simp only [List.length_append, List.length_cons, List.length_nil, maxLen]; omega)) (by first | omega | (simp only [List.length_append, List.length_cons, List.length_nil, maxLen]; omega)) (fun a1 c1 junk1 ho1 => ?_)
    refine Wl.q rfl (Qy.fieldAddr T.fa25_2 rfl) ?_
    refine Wl.store 8 T.one22 rfl rfl rfl rfl rfl ?_
    refine Wl.done ?_
    refine Ar.next ?_
    refine Wc.draw [1, 2, 3, 7, 6, 5, 4, 9, 10, 0, 8] [(8, 8), (0, 8), (10, 8), (9, 8), (4, 8), (5, 8), (3, 8), (2, 8), (1, 8)] T.mixed rfl ?_
    refine Gm.q 0 [] (by kernel_rfl) rfl rfl (Qy.move rfl) ?_
    refine Gm.q 1 [] (by kernel_rfl) rfl rfl (Qy.nilCheck rfl) ?_
    refine Gm.q 2 [] (by kernel_rfl) rfl rfl (Qy.fieldAddr T.fa88_0 rfl) ?_
    refine Gm.q 3 [4] (by kernel_rfl) rfl rfl (Qy.load 4 T.one23 rfl rfl rfl) ?_
    refine Gm.q 4 [] (by kernel_rfl) rfl rfl (Qy.fieldAddr T.fa72_1 rfl) ?_
    refine Gm.q 5 [9] (by kernel_rfl) rfl rfl (Qy.load 9 T.one3 rfl rfl rfl) ?_
    refine Gm.q 6 [] (by kernel_rfl) rfl rfl (Qy.move rfl) ?_
    refine Gm.q 7 [] (by kernel_rfl) rfl rfl (Qy.indexAddrO (α := Int) T.sl23 rfl rfl (by assumption) (by omega)) ?_
    refine Gm.one 8 ⟨rfl, rfl, rfl, rfl, rfl, rfl, rfl, rfl, rfl, rfl, rfl, trivial⟩ (by first | exact Imm.le_refl _ | assumption | (refine Imm.le_trans ?_ (by assumption); first | assumption | (refine Imm.le_trans ?_ (by assumption); assumption))) (by kernel_rfl) rfl ?_
    refine Wl.setO (z := _) 5 T.size3 rfl rfl rfl (by assumption) (by omega) rfl (fun ho2 => ?_)
    refine Wl.on0 ?_
    refine Gm.doneA (by kernel_rfl) ⟨rfl, rfl, trivial⟩ (by first | exact Imm.le_refl _ | assumption | (refine Imm.le_trans ?_ (by assumption); first | assumption | (refine Imm.le_trans ?_ (by assumption); assumption))) ?_
    refine Ar.outNormal ?_
    refine Ar.next ?_
    refine Wc.region rfl ?_
    refine Wl.q rfl (Qy.add rfl rfl (by omega)) ?_
    refine Wl.q rfl (Qy.move rfl) ?_
    refine Wl.done ?_
    rotate_left
    · generalize hI : p.code[((k : Nat) : Int).toNat]?.getD default = I at *
      refine Ar.again ((k + 1, (reckonP t k I).2, out, (a, c, junk), (a', c', junk'))) ?_ ?_ rfl ⟨rfl, rfl, rfl, rfl, rfl, rfl, rfl, rfl, trivial⟩ ⟨rfl, rfl, rfl, rfl, rfl, rfl, rfl, rfl, rfl, trivial⟩
      · refine ⟨by omega, ?_, hra, hoa', by rw [hrl]; exact hlen, by omega, reckon_kf hkf, (reckon_next hn0 k I).1, ?_⟩
        · show _ = passStep (passTo p k) k (p.code[((k : Nat) : Int).toNat]?.getD default)
          rw [← hpass, hI, passStep_same hc2]
        · have := (reckon_next hn0 k I).2
          omega
      · show p.code.length - (k + 1) < p.code.length - k
        omega
    · generalize hI : p.code[((k : Nat) : Int).toNat]?.getD default = I at *
      refine Ar.reH 4 (.cells #[.slice a ((reckonP t k I).2.held.set (askedP (reckonP t k I).2.held I).to.toNat (reckonP t k I).1.1).length c, .map (some bk1), .map (some bf1), .int .i64 (reckonP t k I).2.next] 88) rfl (by rw [List.length_set]) ?_
      refine Ar.again ((k + 1, { (reckonP t k I).2 with held := (reckonP t k I).2.held.set (askedP (reckonP t k I).2.held I).to.toNat (reckonP t k I).1.1 }, _, (a, c, junk), (a1, c1, junk1))) ?_ ?_ rfl ⟨rfl, rfl, rfl, rfl, rfl, rfl, rfl, rfl, trivial⟩ ⟨rfl, rfl, rfl, rfl, rfl, rfl, rfl, rfl, rfl, trivial⟩
      · refine ⟨by omega, ?_, ho2, ho1, ?_, ?_, reckon_kf hkf, ?_, ?_⟩
        · show _ = passStep (passTo p k) k (p.code[((k : Nat) : Int).toNat]?.getD default)
          rw [← hpass, hI, passStep_move hc2 hc3]
        · show (((reckonP t k I).2.held.set _ _).length : Int) = _
          rw [List.length_set, hrl]; exact hlen
        · rw [List.length_append]; simp only [List.length_cons, List.length_nil]; omega
        · exact (reckon_next hn0 k I).1
        · have := (reckon_next hn0 k I).2
          show (reckonP t k I).2.next ≤ _
          omega
      · show p.code.length - (k + 1) < p.code.length - k
        omega
    · generalize hI : p.code[((k : Nat) : Int).toNat]?.getD default = I at *
      refine Ar.reH 4 (.cells #[.slice a ((reckonP t k I).2.held.set (askedP (reckonP t k I).2.held I).to.toNat (reckonP t k I).1.1).length c, .map (some bk1), .map (some bf1), .int .i64 (reckonP t k I).2.next] 88) rfl (by rw [List.length_set]) ?_
      refine Ar.again ((k + 1, { (reckonP t k I).2 with held := (reckonP t k I).2.held.set (askedP (reckonP t k I).2.held I).to.toNat (reckonP t k I).1.1 }, _, (a, c, junk), (a1, c1, junk1))) ?_ ?_ rfl ⟨rfl, rfl, rfl, rfl, rfl, rfl, rfl, rfl, trivial⟩ ⟨rfl, rfl, rfl, rfl, rfl, rfl, rfl, rfl, rfl, trivial⟩
      · refine ⟨by omega, ?_, ho2, ho1, ?_, ?_, reckon_kf hkf, ?_, ?_⟩
        · show _ = passStep (passTo p k) k (p.code[((k : Nat) : Int).toNat]?.getD default)
          rw [← hpass, hI, passStep_keep hc2 hc3]
        · show (((reckonP t k I).2.held.set _ _).length : Int) = _
          rw [List.length_set, hrl]; exact hlen
        · rw [List.length_append]; simp only [List.length_cons, List.length_nil]; omega
        · exact (reckon_next hn0 k I).1
        · have := (reckon_next hn0 k I).2
          show (reckonP t k I).2.next ≤ _
          omega
      · show p.code.length - (k + 1) < p.code.length - k
        omega
  · have hk : k = p.code.length := by omega
    subst hk
    refine Wc.seq ?_
    refine Wc.region rfl ?_
    refine Wl.q rfl (Qy.lss rfl rfl) ?_
    refine Wl.done ?_
    refine Ar.next ?_
    refine Wc.seq ?_
    refine Wc.condN rfl (by first | assumption | omega) ?_
    refine Wc.exit ?_
    refine Ar.passExit ?_
    refine Ar.passExit ?_
    refine Ar.here ?_
    refine Ar.next ?_
    refine Wc.seq ?_
    refine Wc.seq ?_
    refine Wc.region rfl ?_
    refine Wl.q rfl (Qy.fieldAddr T.fa25_3 rfl) ?_
    refine Wl.q rfl (Qy.load 2 T.one23 rfl rfl rfl) ?_
    refine Wl.q rfl (Qy.len T.sl23 rfl) ?_
    refine Wl.q rfl (Qy.move rfl) ?_
    refine Wl.done ?_
    refine Ar.next ?_
    refine Wc.block ?_
    refine Wc.loop (ι := Nat × List Int × Option Addr × Nat × List Value) (fun (k, os, b, d, j) => ([(86, .int .i64 (k : Int)), (85, Go.Value.int Go.IntKind.i64 (↑(List.length (Go.Proofs.Ytbppmiimeccclaa.PV.outs p)) : Int)), (84, Go.Value.slice ao (List.length (Go.Proofs.Ytbppmiimeccclaa.PV.outs p)) co), (7, Go.Value.pointer (Option.some (Go.Addr.mk b3 0 Option.none))), (6, Go.Value.pointer (Option.some (Go.Addr.mk bt1 0 Option.none))), (3, Go.Value.int Go.IntKind.i64 0), (2, Go.Value.pointer (Option.some (Go.Addr.mk b2 0 Option.none)))], [(8, some b3, .cells #[.int .i64 p.ins, .int .i64 p.regs, .slice a' out.length c', .slice b os.length d] 25), (1, b.map (·.block), Row 3 os j), (4, Option.some bt1, Go.Obj.cells #[Go.Value.slice a (List.length (Go.Proofs.Ytbppmiimeccclaa.Tab.held t)) c, Go.Value.map (Option.some bk1), Go.Value.map (Option.some bf1), Go.Value.int Go.IntKind.i64 (Go.Proofs.Ytbppmiimeccclaa.Tab.next t)] 88), (5, Option.map (fun x => Go.Addr.block x) a, Go.Sl.Row (α := Int) 3 (Go.Proofs.Ytbppmiimeccclaa.Tab.held t) (junk)), (6, Option.some bk1, Go.Sl.mapObj (κ := Go.Sl.K4) (Go.Proofs.Ytbppmiimeccclaa.Tab.known t)), (7, Option.some bf1, Go.Sl.mapObj (κ := Go.Sl.K4) (Go.Proofs.Ytbppmiimeccclaa.Tab.first t)), (0, Option.map (fun x => Go.Addr.block x) a', Go.Sl.Row (α := Go.Sl.Instr) 72 (out) (junk')), (3, Option.some b2, Go.Obj.cells #[Go.Value.int Go.IntKind.i64 0, Go.Value.int Go.IntKind.i64 0, Go.Value.slice Option.none 0 0, Go.Value.slice Option.none 0 0] 25), (2, Option.some b1, Go.Obj.cells #[Go.Value.int Go.IntKind.i64 (Go.Proofs.Ytbppmiimeccclaa.PV.ins p), Go.Value.int Go.IntKind.i64 (Go.Proofs.Ytbppmiimeccclaa.PV.regs p), Go.Value.slice ac (List.length (Go.Proofs.Ytbppmiimeccclaa.PV.code p)) cc, Go.Value.slice ao (List.length (Go.Proofs.Ytbppmiimeccclaa.PV.outs p)) co] 25)])) (fun (k, os, b, d, j) => k ≤ p.outs.length ∧ os = (passOuts p t.held).take k ∧ OwnA b d os j) (fun (k, os, b, d, j) => p.outs.length - k) ((0, [], none, 0, [])) (⟨Nat.zero_le _, rfl, OwnA.nil⟩) ⟨rfl, rfl, rfl, rfl, rfl, rfl, rfl, trivial⟩ ⟨rfl, rfl, rfl, rfl, rfl, rfl, rfl, rfl, rfl, trivial⟩ (fun ⟨k, os, b, d, j⟩ => fun (hk : k ≤ p.outs.length ∧ os = (passOuts p t.held).take k ∧ OwnA b d os j) => ?_)
    obtain ⟨hk2, hos, hob⟩ := hk
    have hosl : os.length ≤ 128 := by rw [hos, List.length_take]; omega
    rcases Nat.lt_or_ge k p.outs.length with hlt | hge
    · have hr : 0 ≤ p.outs[((k : Nat) : Int).toNat]?.getD default ∧ p.outs[((k : Nat) : Int).toNat]?.getD default < t.held.length := by
        rw [hlen]; refine r7 _ ?_
        rw [Int.toNat_natCast, List.getElem?_eq_getElem hlt]; simp
      refine Wc.seq ?_
      refine Wc.region rfl ?_
      refine Wl.q rfl (Qy.lss rfl rfl) ?_
      refine Wl.done ?_
      refine Ar.next ?_
      refine Wc.seq ?_
      refine Wc.condP rfl (by first | assumption | omega) ?_
      refine Wc.skip ?_
      refine Ar.next ?_
      refine Wc.seq ?_
      refine Wc.block ?_
      refine Wc.seq ?_
      refine Wc.region rfl ?_
      refine Wl.q rfl (Qy.at (α := Int) T.sl23 rfl rfl (by assumption) (by omega)) ?_
      refine Wl.q rfl (Qy.loadG T.one3 rfl (Arr.cell (by assumption) (by omega) 0 rfl rfl)) ?_
      refine Wl.q rfl (Qy.assign rfl) ?_
      refine Wl.done ?_
      refine Ar.next ?_
      refine Wc.draw [2, 3, 0, 7, 6, 5, 4, 1, 8] [(8, 14), (1, 12), (5, 12), (0, 12)] T.mixed rfl ?_
      refine Gm.q 0 [] (by kernel_rfl) rfl rfl (Qy.fieldAddr T.fa25_3 rfl) ?_
      refine Gm.q 1 [8] (by kernel_rfl) rfl rfl (Qy.load 8 T.one23 rfl rfl rfl) ?_
      refine Gm.q 2 [] (by kernel_rfl) rfl rfl (Qy.move rfl) ?_
      refine Gm.q 3 [] (by kernel_rfl) rfl rfl (Qy.move rfl) ?_
      refine Gm.q 4 [] (by kernel_rfl) rfl rfl (Qy.nilCheck rfl) ?_
      refine Gm.q 5 [] (by kernel_rfl) rfl rfl (Qy.fieldAddr T.fa88_0 rfl) ?_
      refine Gm.q 6 [4] (by kernel_rfl) rfl rfl (Qy.load 4 T.one23 rfl rfl rfl) ?_
      refine Gm.q 7 [] (by kernel_rfl) rfl rfl (Qy.move rfl) ?_
      refine Gm.q 8 [] (by kernel_rfl) rfl rfl (Qy.indexAddrO (α := Int) T.sl23 rfl rfl (by assumption) (by omega)) ?_
      refine Gm.one 9 ⟨rfl, rfl, rfl, rfl, rfl, rfl, rfl, rfl, rfl, trivial⟩ (by first | exact Imm.le_refl _ | assumption | (refine Imm.le_trans ?_ (by assumption); first | assumption | (refine Imm.le_trans ?_ (by assumption); assumption))) (by kernel_rfl) rfl ?_
      refine Wl.q rfl (Qy.loadO 5 0 T.one3 rfl rfl (by assumption) (by omega) rfl rfl) ?_
      refine Wl.on0 ?_
      refine Gm.one 10 ⟨rfl, rfl, rfl, rfl, rfl, rfl, rfl, rfl, rfl, trivial⟩ (by first | exact Imm.le_refl _ | assumption | (refine Imm.le_trans ?_ (by assumption); first | assumption | (refine Imm.le_trans ?_ (by assumption); assumption))) (by kernel_rfl) rfl ?_
      refine Wl.call1 4 rfl T.fn46 rfl (c46 _ _ _ _ _ _ _ _ _ (by assumption) (by omega)) (tags_of ⟨rfl, rfl, rfl, rfl, trivial⟩) ?_
      refine Wl.on0 ?_
      refine Gm.one 11 ⟨rfl, rfl, rfl, rfl, rfl, rfl, rfl, rfl, rfl, trivial⟩ (by first | exact Imm.le_refl _ | assumption | (refine Imm.le_trans ?_ (by assumption); first | assumption | (refine Imm.le_trans ?_ (by assumption); assumption))) (by kernel_rfl) rfl ?_
      refine Wl.lit (α := Int) 9 [(Go.Proofs.Ytbppmiimeccclaa.holder (Go.Proofs.Ytbppmiimeccclaa.Tab.held t) (Option.getD (Go.Proofs.Ytbppmiimeccclaa.Tab.held t)[Int.toNat (Option.getD (Go.Proofs.Ytbppmiimeccclaa.PV.outs p)[Int.toNat (↑k : Int)]? Inhabited.default)]? Inhabited.default))] rfl T.sl23 T.el3 rfl rfl rfl rfl rfl (fun b4 => ?_)
      refine Wl.on0 ?_
      refine Gm.one 12 ⟨rfl, rfl, rfl, rfl, rfl, rfl, rfl, rfl, rfl, trivial⟩ (by first | exact Imm.le_refl _ | assumption | (refine Imm.le_trans ?_ (by assumption); first | assumption | (refine Imm.le_trans ?_ (by assumption); assumption))) (by kernel_rfl) rfl ?_
      refine Wl.append (α := Int) 1 rfl T.sl23 T.el3 rfl rfl rfl (by first | assumption | exact OwnA.nil | exact OwnA.made (by simp)) (Src.row 9 rfl) (by first | omega | (simp only [List.length_append, List.length_cons, List.length_nil, maxLen]; omega)) (by first | omega | (simp only [List.length_append, List.length_cons, List.length_nil, maxLen]; omega)) (fun a1 c1 junk1 ho1 => ?_)
      refine Wl.on0 ?_
      refine Gm.q 13 [] (by kernel_rfl) rfl rfl (Qy.fieldAddr T.fa25_3 rfl) ?_
      refine Gm.one 14 ⟨rfl, rfl, rfl, rfl, rfl, rfl, trivial⟩ (by first | exact Imm.le_refl _ | assumption | (refine Imm.le_trans ?_ (by assumption); first | assumption | (refine Imm.le_trans ?_ (by assumption); assumption))) (by kernel_rfl) rfl ?_
      refine Wl.store 8 T.one23 rfl rfl rfl rfl rfl ?_
      refine Wl.on0 ?_
      refine Gm.doneA (by kernel_rfl) ⟨rfl, rfl, rfl, rfl, rfl, trivial⟩ (by first | exact Imm.le_refl _ | assumption | (refine Imm.le_trans ?_ (by assumption); first | assumption | (refine Imm.le_trans ?_ (by assumption); assumption))) ?_
      refine Ar.outNormal ?_
      refine Ar.next ?_
      refine Wc.region rfl ?_
      refine Wl.q rfl (Qy.add rfl rfl (by omega)) ?_
      refine Wl.q rfl (Qy.move rfl) ?_
      refine Wl.done ?_
      refine Ar.again ((k + 1, _, a1, c1, junk1)) ?_ ?_ rfl ⟨rfl, rfl, rfl, rfl, rfl, rfl, rfl, trivial⟩ ⟨rfl, rfl, rfl, rfl, rfl, rfl, rfl, rfl, rfl, trivial⟩
      · refine ⟨by omega, ?_, ho1⟩
        have hst : (passOuts p t.held).take (k + 1) = (passOuts p t.held).take k ++ [holder t.held (t.held[(p.outs[((k : Nat) : Int).toNat]?.getD default).toNat]?.getD default)] := by
          rw [List.take_add_one]
          simp [passOuts, hlt]
        rw [hst, hos]
      · show p.outs.length - (k + 1) < p.outs.length - k
        omega
    · refine Wc.seq ?_
      refine Wc.region rfl ?_
      refine Wl.q rfl (Qy.lss rfl rfl) ?_
      refine Wl.done ?_
      refine Ar.next ?_
      refine Wc.seq ?_
      refine Wc.condN rfl (by first | assumption | omega) ?_
      refine Wc.exit ?_
      refine Ar.passExit ?_
      refine Ar.passExit ?_
      refine Ar.here ?_
      refine Ar.next ?_
      refine Wc.seq ?_
      refine Wc.region rfl ?_
      refine Wl.q rfl (Qy.loadAll 8 T.agg25 rfl rfl rfl) ?_
      refine Wl.storeAll 3 T.size25 rfl rfl rfl rfl rfl rfl ?_
      refine Wl.q rfl (Qy.assign rfl) ?_
      refine Wl.done ?_
      refine Ar.next ?_
      refine Wc.ret ?_
      refine Ar.out2 (.inr rfl) (Ho := Hp.only _ [0, 1]) rfl (.agg 3 rfl rfl T.agg25) (.tmp rfl) (Hp.sub_only _ _) ?_
      have ht : t = (passTo p p.code.length).1 := congrArg Prod.fst hpass
      have hou : out = (passP p).code := congrArg Prod.snd hpass
      have hos' : os = (passP p).outs := by
        rw [hos, List.take_of_length_le (by simp [passOuts]; omega), ht]; rfl
      rw [hou] at hoa' ⊢
      rw [hos'] at hob ⊢
      exact ⟨a', b, c', d, junk', j, rfl, hoa', hob, rfl, rfl⟩
end Go.Proofs.Ytbppmiimeccclaa
namespace Go.Proofs.Ytbppmiimeccclaa
open Go Go.Sl
set_option maxRecDepth 100000
set_option maxHeartbeats 2000000
def passE (p : PV) : PV := if rightP p then passP p else ⟨0, 0, [], []⟩
def passErr (p : PV) : Int := if rightP p then 0 else 80
theorem c13B (G : Imm) (p : PV) (ac ao : Option Addr) (cc co : Nat) (hc : Arr G ac p.code) (ho : Arr G ao p.outs) (h1 : p.code.length ≤ 1099511627776) (h2 : p.outs.length ≤ 1099511627776) :
    Does Try.prog 13 [.agg #[.int .i64 p.ins, .int .i64 p.regs, .slice ac p.code.length cc, .slice ao p.outs.length co]] G [] (fun v G' Ho =>
      ∃ q e bc bo dc do_ j1 j2, v = .tuple #[.agg #[.int .i64 q.ins, .int .i64 q.regs, .slice bc q.code.length dc, .slice bo q.outs.length do_], .int .i64 e] ∧ (q = passE p ∧ e = passErr p) ∧
        OwnA bc dc q.code j1 ∧ OwnA bo do_ q.outs j2 ∧ Ho = [(0, bc.map (·.block), Row 72 q.code j1), (1, bo.map (·.block), Row 3 q.outs j2)] ∧ G' = G) := by
  by_cases hR : rightP p = true
  · refine (c13R G p ac ao cc co hc ho h1 h2 hR).mono fun v G' Ho _ ⟨bc, bo, dc, do_, j1, j2, q1, q2, q3, q4, q5⟩ => ?_
    exact ⟨passP p, 0, bc, bo, dc, do_, j1, j2, q1, ⟨(if_pos hR).symm, (if_pos hR).symm⟩, q2, q3, q4, q5⟩
  · intro w hw
    refine (c13W G p ac ao cc co hc ho h1 h2 hR w hw).mono fun x w' ⟨v, G', Ho, g1, g2, g3, g4, g5, g6, q1, q2, q3⟩ => ?_
    subst q2
    refine ⟨v, G', [(0, none, Row 72 ([] : List Sl.Instr) []), (1, none, Row 3 ([] : List Int) [])], g1, ?_, g3, g4, g5, ?_, ⟨0, 0, [], []⟩, 80, none, none, 0, 0, [], [], q1, ⟨(if_neg hR).symm, (if_neg hR).symm⟩, OwnA.nil, OwnA.nil, rfl, q3⟩
    · have hn : ∀ t b o, Hp.get [(0, none, Row 72 ([] : List Sl.Instr) []), (1, none, Row 3 ([] : List Int) [])] t = some (some b, o) → False := fun t b o hx => by
        rw [Hp.get_cons, Hp.get_cons] at hx; split at hx; · cases hx
        split at hx; · cases hx
        · simp [Hp.get] at hx
      exact ⟨fun t b o hx => (hn t b o hx).elim, fun t t' b o o' hx => (hn t b o hx).elim, g2.imm, fun t b o hx => (hn t b o hx).elim⟩
    · intro t b o hx
      rw [Hp.get_cons, Hp.get_cons] at hx; split at hx; · cases hx
      split at hx; · cases hx
      · simp [Hp.get] at hx
theorem c11 (G : Imm) (p : PV) (ac ao : Option Addr) (cc co : Nat) (h1 : p.code.length ≤ 1099511627776) (h2 : p.outs.length ≤ 1099511627776) :
    Does Try.prog 11 [.agg #[.int .i64 p.ins, .int .i64 p.regs, .slice ac p.code.length cc, .slice ao p.outs.length co]] G [] (fun v G' Ho => v = .bool (decide (150 < (p.code.length : Int) ∨ 150 < (p.outs.length : Int))) ∧ G' = G ∧ Ho = []) := by
  refine Does.enter Try.func11 rfl Try.ntmps11 rfl (fun w => ?_)
  refine Wc.seq ?_
  refine Wc.region rfl ?_
  refine Wl.box 0 rfl rfl rfl (fun b1 => ?_)
  refine Wl.q rfl (Qy.assign rfl) ?_
  refine Wl.done ?_
  refine Ar.next ?_
  refine Wc.seq ?_
  refine Wc.region rfl ?_
  refine Wl.q rfl (Qy.fieldAddr T.fa25_2 rfl) ?_
  refine Wl.q rfl (Qy.load 0 T.one22 rfl rfl rfl) ?_
  refine Wl.q rfl (Qy.len T.sl22 rfl) ?_
  refine Wl.q rfl (Qy.gtr rfl rfl) ?_
  refine Wl.q rfl (Qy.move rfl) ?_
  apply Wl.joinOr 5 7 12 rfl
  intro hg1
  refine Wl.want rfl rfl ?_
  refine Wl.q rfl (Qy.fieldAddr T.fa25_3 rfl) ?_
  refine Wl.want rfl rfl ?_
  refine Wl.q rfl (Qy.load 0 T.one23 rfl rfl rfl) ?_
  refine Wl.want rfl rfl ?_
  refine Wl.q rfl (Qy.len T.sl23 rfl) ?_
  refine Wl.want rfl rfl ?_
  refine Wl.q rfl (Qy.gtr rfl rfl) ?_
  refine Wl.q rfl (Qy.pick rfl rfl) ?_
  exact Wl.back 5 0 rfl rfl rfl rfl rfl
  intro hg1
  refine Wl.pass rfl rfl rfl ?_
  refine Wl.pass rfl rfl rfl ?_
  refine Wl.pass rfl rfl rfl ?_
  refine Wl.pass rfl rfl rfl ?_
  refine Wl.q rfl (Qy.pick rfl rfl) ?_
  exact Wl.back 5 0 rfl rfl rfl rfl rfl
  refine Wl.q rfl (Qy.assign rfl) ?_
  refine Wl.done ?_
  refine Ar.next ?_
  refine Wc.ret ?_
  refine Ar.out1 (.inr rfl) (Ho := Hp.only _ []) rfl (.tmp rfl) (Hp.sub_only _ _) ?_
  exact ⟨rfl, rfl, rfl⟩
def Yes : Prop := True
instance : Decidable Yes := .isTrue trivial
theorem yes : Yes := trivial
def exP : PV := ⟨1, 2, [⟨1, 1, 0, 0, 0⟩], [1]⟩
theorem exP_right : rightP exP = true := by decide
theorem exP_pass : passP exP = ⟨1, 2, [⟨1, 1, 0, 0, 0⟩], [0]⟩ := by rfl
theorem c9 (G : Imm) : Does Try.prog 9 [] G [] (fun v G' Ho => v = .bool (decide Yes) ∧ G' = G ∧ Ho = []) := by
  refine Does.enter Try.func9 rfl Try.ntmps9 rfl (fun w => ?_)
  refine Wc.seq ?_
  refine Wc.region rfl ?_
  refine Wl.q rfl (Qy.assign rfl) ?_
  refine Wl.done ?_
  refine Ar.next ?_
  refine Wc.seq ?_
  refine Wc.region rfl ?_
  refine Wl.q rfl (Qy.build (cs := [_, _, _, _, _]) T.st72 rfl rfl rfl) ?_
  refine Wl.lit (α := Instr) 0 [⟨1, 1, 0, 0, 0⟩] rfl T.sl22 T.el72 rfl rfl rfl rfl rfl (fun b1 => ?_)
  refine Wl.lit (α := Int) 1 [(1)] rfl T.sl23 T.el3 rfl rfl rfl rfl rfl (fun b2 => ?_)
  refine Wl.q rfl (Qy.build (cs := [_, _, _, _]) T.st25 rfl rfl rfl) ?_
  refine Wl.callB 2 rfl T.fn13 rfl (fun Gx hGx hgx => c13B Gx exP _ _ _ _ (Arr.own hgx 0 rfl (OwnA.made (by simp [maxLen, exP]))) (Arr.own hgx 1 rfl (OwnA.made (by simp [maxLen, exP]))) (by decide) (by decide)) (fun v1 Gx1 G1 Ho1 hlx1 hp => ?_)
  obtain ⟨q, e, qc, qo, qcc, qoc, qj, qk, rfl, ⟨hq, he⟩, hqc, hqo, rfl, rfl⟩ := hp
  have hq : q = ⟨1, 2, [⟨1, 1, 0, 0, 0⟩], [0]⟩ := by rw [hq]; unfold passE; rw [if_pos exP_right, exP_pass]
  have he : e = 0 := by rw [he]; unfold passErr; rw [if_pos exP_right]
  subst he
  have l1 : (q.code.length : Int) = 1 := by rw [hq]; rfl
  have l2 : (q.outs.length : Int) = 1 := by rw [hq]; rfl
  refine Wl.q rfl (Qy.move rfl) ?_
  refine Wl.q rfl (Qy.extract rfl rfl) ?_
  refine Wl.q rfl (Qy.extract rfl rfl) ?_
  refine Wl.alloc 4 rfl T.zero25 (fun b3 => ?_)
  refine Wl.storeAll 4 T.size25 rfl rfl rfl rfl rfl rfl ?_
  refine Wl.q rfl (Qy.assign rfl) ?_
  refine Wl.done ?_
  refine Ar.next ?_
  refine Wc.seq ?_
  refine Wc.region rfl ?_
  refine Wl.q rfl (Qy.move rfl) ?_
  refine Wl.q rfl (Qy.eql rfl rfl) ?_
  refine Wl.q rfl (Qy.move rfl) ?_
  refine Wl.yes 13 rfl (by first | assumption | omega) ?_
  refine Wl.want rfl rfl ?_
  refine Wl.q rfl (Qy.fieldAddr T.fa25_2 rfl) ?_
  refine Wl.want rfl rfl ?_
  refine Wl.q rfl (Qy.load 4 T.one22 rfl rfl rfl) ?_
  refine Wl.want rfl rfl ?_
  refine Wl.q rfl (Qy.len T.sl22 rfl) ?_
  refine Wl.want rfl rfl ?_
  refine Wl.q rfl (Qy.eql rfl rfl) ?_
  refine Wl.q rfl (Qy.pick rfl rfl) ?_
  refine Wl.q rfl (Qy.move rfl) ?_
  refine Wl.yes 19 rfl (by first | assumption | omega) ?_
  refine Wl.want rfl rfl ?_
  refine Wl.q rfl (Qy.fieldAddr T.fa25_3 rfl) ?_
  refine Wl.want rfl rfl ?_
  refine Wl.q rfl (Qy.load 4 T.one23 rfl rfl rfl) ?_
  refine Wl.want rfl rfl ?_
  refine Wl.q rfl (Qy.len T.sl23 rfl) ?_
  refine Wl.want rfl rfl ?_
  refine Wl.q rfl (Qy.eql rfl rfl) ?_
  refine Wl.q rfl (Qy.pick rfl rfl) ?_
  refine Wl.q rfl (Qy.move rfl) ?_
  refine Wl.yes 25 rfl (by first | assumption | omega) ?_
  refine Wl.want rfl rfl ?_
  refine Wl.q rfl (Qy.fieldAddr T.fa25_3 rfl) ?_
  refine Wl.want rfl rfl ?_
  refine Wl.q rfl (Qy.load 4 T.one23 rfl rfl rfl) ?_
  refine Wl.want rfl rfl ?_
  refine Wl.q rfl (Qy.indexAddrO (α := Int) T.sl23 rfl rfl (by assumption) (by omega)) ?_
  refine Wl.want rfl rfl ?_
  refine Wl.q rfl (Qy.loadO (m := 0) 3 0 T.one3 rfl rfl (by assumption) (by omega) rfl rfl) ?_
  refine Wl.want rfl rfl ?_
  refine Wl.q rfl (Qy.eql rfl rfl) ?_
  refine Wl.q rfl (Qy.pick rfl rfl) ?_
  refine Wl.q rfl (Qy.assign rfl) ?_
  refine Wl.done ?_
  refine Ar.next ?_
  refine Wc.ret ?_
  refine Ar.out1 (.inr rfl) (Ho := Hp.only _ []) rfl (.tmp rfl) (Hp.sub_only _ _) ?_
  refine ⟨?_, rfl, rfl⟩
  have l3 : q.outs[((0 : Int)).toNat]?.getD default = 0 := by rw [hq]; rfl
  rw [l3]
  simp [l1, l2, yes]
end Go.Proofs.Ytbppmiimeccclaa
namespace Go.Proofs.Ytbppmiimeccclaa
open Go Go.Sl
set_option linter.unusedVariables false
theorem holder_some {l : List Int} {v : Int} (h : 0 ≤ holder l v) : holder l v < l.length ∧ l[(holder l v).toNat]?.getD default = v := by
  unfold holder at h ⊢
  cases hk : l.findIdx? (fun x => decide (x = v)) with
  | none => rw [hk] at h; simp at h
  | some k =>
    rw [List.findIdx?_eq_some_iff_getElem] at hk
    obtain ⟨h1, h2, _⟩ := hk
    simp only [decide_eq_true_eq] at h2
    refine ⟨by show (k : Int) < _; omega, ?_⟩
    show l[((k : Nat) : Int).toNat]?.getD default = v
    rw [Int.toNat_natCast, List.getElem?_eq_getElem h1]; exact h2
theorem holder_none {l : List Int} {v : Int} (h : ¬ 0 ≤ holder l v) : holder l v = -1 := by
  unfold holder at h ⊢
  cases hk : l.findIdx? (fun x => decide (x = v)) with
  | none => rfl
  | some k => rw [hk] at h; exact absurd (Int.natCast_nonneg k) h
theorem holder_mem {l : List Int} {v : Int} (h : v ∈ l) : 0 ≤ holder l v := by
  unfold holder
  cases hk : l.findIdx? (fun x => decide (x = v)) with
  | none => rw [List.findIdx?_eq_none_iff] at hk; have := hk v h; simp at this
  | some k => exact Int.natCast_nonneg k
theorem holder_lt {l : List Int} {v n : Int} (hl : ∀ x ∈ l, x < n) (h : n ≤ v) : holder l v = -1 := by
  refine holder_none fun hh => ?_
  obtain ⟨h1, h2⟩ := holder_some hh
  have hm : v ∈ l := by
    have hlt : (holder l v).toNat < l.length := by omega
    rw [List.getElem?_eq_getElem hlt, Option.getD_some] at h2
    rw [← h2]; exact List.getElem_mem hlt
  have := hl v hm; omega
theorem get_mem {l : List Int} {r : Int} (h : 0 ≤ r ∧ r < l.length) : l[r.toNat]?.getD default ∈ l := by
  have hlt : r.toNat < l.length := by omega
  rw [List.getElem?_eq_getElem hlt]; exact List.getElem_mem hlt
/-- asked by its first holder, a register holds what it held -/
theorem holder_get {l : List Int} {r : Int} (h : 0 ≤ r ∧ r < l.length) : 0 ≤ holder l (l[r.toNat]?.getD default) ∧ holder l (l[r.toNat]?.getD default) < l.length ∧
    l[(holder l (l[r.toNat]?.getD default)).toNat]?.getD default = l[r.toNat]?.getD default := by
  have h0 := holder_mem (get_mem h)
  exact ⟨h0, holder_some h0⟩
def Alike (t u : Tab) : Prop := t.held = u.held ∧ t.known = u.known ∧ t.next = u.next
/-- what a table's values keep to -/
structure Sound (t : Tab) (regs : Int) : Prop where
  len : (t.held.length : Int) = regs
  held : ∀ x ∈ t.held, x < t.next
  known : ∀ k v, mget t.known k = some v → v < t.next
theorem asked_key {l : List Int} {i : Sl.Instr} (h : mayOk i l.length = true) : keyOf l (askedP l i) = keyOf l i ∧ askedP l (askedP l i) = askedP l i ∧ mayOk (askedP l i) l.length = true := by
  have h' := h
  rw [mayOk_iff] at h
  obtain ⟨⟨h1, h2, h3, h4, h5, h6⟩, hb⟩ := h
  obtain ⟨a1, a2, a3⟩ := holder_get (l := l) (r := i.a) ⟨h5, h6⟩
  by_cases ht : i.op = 3 ∨ i.op = 4
  · rw [if_pos ht] at hb
    obtain ⟨b1, b2, b3⟩ := holder_get (l := l) (r := i.b) ⟨hb.1, hb.2.1⟩
    have e : askedP l i = ⟨i.op, i.to, holder l (l[i.a.toNat]?.getD default), holder l (l[i.b.toNat]?.getD default), i.c⟩ := by unfold askedP; rw [if_pos ht]
    refine ⟨?_, ?_, ?_⟩
    · rw [e]; unfold keyOf; simp only [a3, b3]
    · rw [e]; unfold askedP; simp only [a3, b3, if_pos ht]
    · rw [e, mayOk_iff, if_pos ht]; exact ⟨⟨h1, h2, h3, h4, a1, a2⟩, b1, b2, hb.2.2⟩
  · rw [if_neg ht] at hb
    have e : askedP l i = ⟨i.op, i.to, holder l (l[i.a.toNat]?.getD default), i.b, i.c⟩ := by unfold askedP; rw [if_neg ht]
    refine ⟨?_, ?_, ?_⟩
    · rw [e]; unfold keyOf; simp only [a3, if_neg ht]
    · rw [e]; unfold askedP; simp only [a3, if_neg ht]
    · rw [e, mayOk_iff, if_neg ht]; exact ⟨⟨h1, h2, h3, h4, a1, a2⟩, hb⟩
/-- the pass over a list, behind n instructions -/
def passL : Tab × List Sl.Instr → Nat → List Sl.Instr → Tab × List Sl.Instr
  | s, _, [] => s
  | s, n, i :: l => passL (passStep s n i) (n + 1) l
theorem passL_append (s : Tab × List Sl.Instr) (n : Nat) (l m : List Sl.Instr) : passL s n (l ++ m) = passL (passL s n l) (n + l.length) m := by
  induction l generalizing s n with
  | nil => rfl
  | cons i l ih => show passL (passStep s n i) (n + 1) (l ++ m) = _; rw [ih, List.length_cons, show n + 1 + l.length = n + (l.length + 1) by omega]; rfl
theorem passTo_eq (p : PV) : ∀ k, k ≤ p.code.length → passTo p k = passL (⟨start p, [], [], p.ins + 1⟩, []) 0 (p.code.take k)
  | 0, _ => rfl
  | k + 1, h => by
    have hk : k < p.code.length := by omega
    show passStep (passTo p k) k (p.code[((k : Nat) : Int).toNat]?.getD default) = _
    rw [passTo_eq p k (by omega), List.take_add_one, Int.toNat_natCast, List.getElem?_eq_getElem hk, passL_append, List.length_take, Nat.min_eq_left (by omega), Nat.zero_add]
    rfl
theorem reckon_alike {t u : Tab} (h : Alike t u) (n m : Int) {i j : Sl.Instr} (ho : i.op = j.op) (ha : t.held[i.a.toNat]?.getD default = t.held[j.a.toNat]?.getD default) (hk : keyOf t.held i = keyOf t.held j) :
    (reckonP u m j).1.1 = (reckonP t n i).1.1 ∧ Alike (reckonP t n i).2 (reckonP u m j).2 := by
  obtain ⟨h1, h2, h3⟩ := h
  unfold reckonP
  rw [← h1, ← h2, ← h3, ← hk, ← ho, ← ha]
  split
  · exact ⟨rfl, h1, h2, h3⟩
  · split
    · exact ⟨rfl, rfl, rfl, rfl⟩
    · exact ⟨rfl, h1, h2, h3⟩
theorem reckon_sound {t : Tab} {regs : Int} (h : Sound t regs) (n : Int) (i : Sl.Instr) (ha : 0 ≤ i.a ∧ i.a < regs) : Sound (reckonP t n i).2 regs ∧ (reckonP t n i).1.1 < (reckonP t n i).2.next := by
  unfold reckonP
  split
  · exact ⟨h, h.held _ (get_mem (by rw [h.len]; exact ha))⟩
  · split
    · rename_i hk
      refine ⟨⟨h.len, fun x hx => ?_, fun k v hv => ?_⟩, ?_⟩
      · have := h.held x hx; show x < t.next + 1; omega
      · show v < t.next + 1
        have hv' : mget (t.known ++ [(keyOf t.held i, t.next)]) k = some v := hv
        rw [← mput_none _ _ _ hk, mget_mput] at hv'
        split at hv'
        · cases hv'; omega
        · have := h.known k v hv'; omega
      · show t.next < t.next + 1; omega
    · rename_i v hk
      exact ⟨h, h.known _ _ hk⟩
/-- either nothing is turned but the table's keys .. -/
theorem reckon_keep (t : Tab) (n : Int) (i : Sl.Instr) : (reckonP t n i).2 = t ∨ (reckonP t n i).1.1 = t.next := by
  unfold reckonP
  split
  · exact .inl rfl
  · split
    · exact .inr rfl
    · exact .inl rfl
theorem set_len {l : List Int} {k : Nat} {v regs : Int} (h : (l.length : Int) = regs) : ((l.set k v).length : Int) = regs := by rw [List.length_set]; exact h
/-- one step, and what the second pass makes of what comes out -/
theorem step_again {t u : Tab} {regs : Int} {i : Sl.Instr} (n m : Int) (o o' : List Sl.Instr) (hs : Sound t regs) (hm : mayOk i regs = true) (ha : Alike t u) :
    Sound (passStep (t, o) n i).1 regs ∧
    (((passStep (t, o) n i).2 = o ∧ Alike (passStep (t, o) n i).1 u) ∨
      ∃ j, (passStep (t, o) n i).2 = o ++ [j] ∧ mayOk j regs = true ∧ (passStep (u, o') m j).2 = o' ++ [j] ∧ Alike (passStep (t, o) n i).1 (passStep (u, o') m j).1) := by
  have hm' := hm
  rw [mayOk_iff] at hm'
  obtain ⟨⟨m1, m2, m3, m4, m5, m6⟩, mb⟩ := hm'
  obtain ⟨s1, s2⟩ := reckon_sound hs n i ⟨m5, m6⟩
  have hh := reckon_held t n i
  have hto : (askedP (reckonP t n i).2.held i).to = i.to := rfl
  by_cases hsame : (reckonP t n i).2.held[(askedP (reckonP t n i).2.held i).to.toNat]?.getD default = (reckonP t n i).1.1
  · rw [passStep_same hsame]
    refine ⟨s1, .inl ⟨rfl, ?_⟩⟩
    rcases reckon_keep t n i with hk | hk
    · rw [show ((reckonP t n i).2, o).1 = t from hk]; exact ha
    · exfalso
      rw [hk, hh] at hsame
      replace hsame : t.held[i.to.toNat]?.getD default = t.next := hsame
      have := hs.held _ (get_mem (l := t.held) (r := i.to) (by rw [hs.len]; exact ⟨m3, m4⟩))
      rw [hsame] at this; omega
  · have hset : ∀ k : Nat, Sound { (reckonP t n i).2 with held := (reckonP t n i).2.held.set k (reckonP t n i).1.1 } regs := fun k =>
      ⟨set_len s1.len, fun x hx => by
        rcases List.mem_or_eq_of_mem_set hx with h | h
        · exact s1.held x h
        · rw [h]; exact s2, s1.known⟩
    have hl' : mayOk i t.held.length = true := by rw [hs.len]; exact hm
    by_cases hmv : 0 ≤ holder (reckonP t n i).2.held (reckonP t n i).1.1
    · rw [passStep_move hsame hmv]
      refine ⟨hset _, .inr ⟨_, rfl, ?_, ?_⟩⟩
      · have h1 := (holder_some hmv).1
        rw [mayOk_iff]
        refine ⟨⟨Int.le_refl 1, by show (1 : Int) ≤ 8; decide, m3, m4, hmv, ?_⟩, ?_⟩
        · rw [← s1.len]; exact h1
        · have n1 : ¬ ((1 : Int) = 3 ∨ (1 : Int) = 4) := by decide
          have n2 : ¬ ((1 : Int) = 5 ∨ (1 : Int) = 6) := by decide
          have n3 : ¬ ((1 : Int) = 7 ∨ (1 : Int) = 8) := by decide
          rw [if_neg n1]
          refine ⟨rfl, ?_⟩
          rw [if_neg n2, if_neg n3]
      · -- nothing new was reckoned
        have hk : (reckonP t n i).2 = t := by
          rcases reckon_keep t n i with hk | hk
          · exact hk
          · exfalso
            rw [hk, hh, holder_lt hs.held (Int.le_refl _)] at hmv
            exact absurd hmv (by decide)
        obtain ⟨ha1, ha2, ha3⟩ := ha
        rw [hk] at hmv hsame ⊢
        generalize hv : (reckonP t n i).1.1 = v at *
        replace hsame : ¬ t.held[i.to.toNat]?.getD default = v := hsame
        have hto2 : (askedP t.held i).to = i.to := rfl
        rw [hto2]
        have hrs := (holder_some hmv).2
        generalize hj : (⟨1, i.to, holder t.held v, 0, 0⟩ : Sl.Instr) = j
        have hj1 : j.op = 1 := by rw [← hj]
        have hj2 : j.to = i.to := by rw [← hj]
        have hj3 : j.a = holder t.held v := by rw [← hj]
        have r1 : reckonP u m j = ((v, -1), u) := by unfold reckonP; rw [if_pos hj1, ← ha1, hj3, hrs]
        have hj4 : (askedP (reckonP u m j).2.held j).to = i.to := hj2
        have d1 : ¬ (reckonP u m j).2.held[(askedP (reckonP u m j).2.held j).to.toNat]?.getD default = (reckonP u m j).1.1 := by rw [hj4, r1]; show ¬ u.held[_]?.getD default = v; rw [← ha1]; exact hsame
        have d2 : 0 ≤ holder (reckonP u m j).2.held (reckonP u m j).1.1 := by rw [r1]; show 0 ≤ holder u.held v; rw [← ha1]; exact hmv
        rw [passStep_move d1 d2, hj4, r1]
        refine ⟨?_, ?_, ha2, ha3⟩
        · show _ ++ [(⟨1, i.to, holder u.held v, 0, 0⟩ : Sl.Instr)] = _
          rw [← ha1, hj]
        · show t.held.set i.to.toNat v = u.held.set i.to.toNat v; rw [ha1]
    · rw [passStep_keep hsame hmv]
      rw [hh] at hsame hmv ⊢
      obtain ⟨k1, k2, k3⟩ := asked_key hl'
      rw [hs.len] at k3
      have hA : t.held[(askedP t.held i).a.toNat]?.getD default = t.held[i.a.toNat]?.getD default := (holder_get (l := t.held) (r := i.a) (by rw [hs.len]; exact ⟨m5, m6⟩)).2.2
      obtain ⟨e1, e2⟩ := reckon_alike ha n m (i := i) (j := askedP t.held i) rfl hA.symm k1.symm
      have hu := reckon_held u m (askedP t.held i)
      have d1 : ¬ (reckonP u m (askedP t.held i)).2.held[(askedP (reckonP u m (askedP t.held i)).2.held (askedP t.held i)).to.toNat]?.getD default = (reckonP u m (askedP t.held i)).1.1 := by
        rw [e1, hu, ← ha.1, k2]; exact hsame
      have d2 : ¬ 0 ≤ holder (reckonP u m (askedP t.held i)).2.held (reckonP u m (askedP t.held i)).1.1 := by rw [e1, hu, ← ha.1]; exact hmv
      refine ⟨by have := hset (askedP t.held i).to.toNat; rw [hh] at this; exact this, .inr ⟨_, rfl, k3, ?_⟩⟩
      rw [passStep_keep d1 d2]
      rw [e1, hu, ← ha.1, k2]
      exact ⟨rfl, rfl, e2.2.1, e2.2.2⟩
theorem pass_again {regs : Int} : ∀ (l : List Sl.Instr) (t u : Tab) (o o' : List Sl.Instr) (n m : Nat), Sound t regs → Alike t u → (∀ i ∈ l, mayOk i regs = true) →
    ∃ new, (passL (t, o) n l).2 = o ++ new ∧ new.length ≤ l.length ∧ (∀ i ∈ new, mayOk i regs = true) ∧ Sound (passL (t, o) n l).1 regs ∧ (passL (u, o') m new).2 = o' ++ new ∧ Alike (passL (t, o) n l).1 (passL (u, o') m new).1
  | [], t, u, o, o', n, m, hs, ha, _ => ⟨[], by simp [passL], Nat.le_refl _, by simp, hs, by simp [passL], ha⟩
  | i :: l, t, u, o, o', n, m, hs, ha, hm => by
    obtain ⟨s1, h⟩ := step_again (n : Int) (m : Int) o o' hs (hm i (by simp)) ha
    rcases h with ⟨h1, h2⟩ | ⟨j, h1, h2, h3, h4⟩
    · obtain ⟨new, q1, q2, q3, q4, q5, q6⟩ := pass_again l (passStep (t, o) n i).1 u o o' (n + 1) m s1 h2 (fun x hx => hm x (by simp [hx]))
      have e : passStep (t, o) n i = ((passStep (t, o) n i).1, o) := Prod.ext rfl h1
      refine ⟨new, ?_, by rw [List.length_cons]; omega, q3, ?_, q5, ?_⟩
      · show (passL (passStep (t, o) n i) (n + 1) l).2 = _; rw [e]; exact q1
      · show Sound (passL (passStep (t, o) n i) (n + 1) l).1 regs; rw [e]; exact q4
      · show Alike (passL (passStep (t, o) n i) (n + 1) l).1 _; rw [e]; exact q6
    · obtain ⟨new, q1, q2, q3, q4, q5, q6⟩ := pass_again l (passStep (t, o) n i).1 (passStep (u, o') m j).1 (o ++ [j]) (o' ++ [j]) (n + 1) (m + 1) s1 h4 (fun x hx => hm x (by simp [hx]))
      have e : passStep (t, o) n i = ((passStep (t, o) n i).1, o ++ [j]) := Prod.ext rfl h1
      have e' : passStep (u, o') m j = ((passStep (u, o') m j).1, o' ++ [j]) := Prod.ext rfl h3
      refine ⟨j :: new, ?_, by rw [List.length_cons, List.length_cons]; omega, ?_, ?_, ?_, ?_⟩
      · show (passL (passStep (t, o) n i) (n + 1) l).2 = _; rw [e, q1]; simp
      · intro x hx
        rcases List.mem_cons.1 hx with rfl | hx
        · exact h2
        · exact q3 x hx
      · show Sound (passL (passStep (t, o) n i) (n + 1) l).1 regs; rw [e]; exact q4
      · show (passL (passStep (u, o') m j) (m + 1) new).2 = _; rw [e', q5]; simp
      · show Alike (passL (passStep (t, o) n i) (n + 1) l).1 (passL (passStep (u, o') m j) (m + 1) new).1; rw [e, e']; exact q6
theorem start_sound {p : PV} (h : 1 ≤ p.ins ∧ p.ins ≤ p.regs) : Sound ⟨start p, [], [], p.ins + 1⟩ p.regs := by
  refine ⟨?_, fun x hx => ?_, fun k v hv => by simp [mget] at hv⟩
  · show ((start p).length : Int) = _; simp [start]; omega
  · simp only [start, List.mem_map, List.mem_range] at hx
    obtain ⟨r, _, rfl⟩ := hx
    show _ < p.ins + 1
    split <;> omega
theorem pass_facts {p : PV} (h : rightP p = true) : ((passP p).code.length ≤ p.code.length) ∧ (∀ i ∈ (passP p).code, mayOk i p.regs = true) ∧ Sound (passTo p p.code.length).1 p.regs ∧
    (passTo (passP p) (passP p).code.length).2 = (passP p).code ∧ (passTo (passP p) (passP p).code.length).1.held = (passTo p p.code.length).1.held := by
  obtain ⟨r1, r2, r3, r4, r5, r6, r7, r8⟩ := right_facts h
  have hs := start_sound (p := p) ⟨r1, r2⟩
  obtain ⟨new, q1, q2, q3, q4, q5, q6⟩ := pass_again p.code ⟨start p, [], [], p.ins + 1⟩ ⟨start p, [], [], p.ins + 1⟩ [] [] 0 0 hs ⟨rfl, rfl, rfl⟩ r8
  have e := passTo_eq p p.code.length (Nat.le_refl _)
  rw [List.take_length] at e
  have hc : (passP p).code = new := by show (passTo p p.code.length).2 = new; rw [e, q1]; rfl
  have e2 := passTo_eq (passP p) (passP p).code.length (Nat.le_refl _)
  rw [List.take_length] at e2
  have hst : start (passP p) = start p := rfl
  rw [hst] at e2
  have hin : (passP p).ins = p.ins := rfl
  rw [hin] at e2
  refine ⟨by rw [hc]; exact q2, by rw [hc]; exact q3, by rw [e]; exact q4, ?_, ?_⟩
  · rw [e2, hc, q5]; rfl
  · rw [e2, hc, e]; exact q6.1.symm
theorem pass_idem {p : PV} (h : rightP p = true) : rightP (passP p) = true ∧ passP (passP p) = passP p := by
  obtain ⟨r1, r2, r3, r4, r5, r6, r7, r8⟩ := right_facts h
  obtain ⟨f1, f2, f3, f4, f5⟩ := pass_facts h
  have hol : ∀ r ∈ p.outs, 0 ≤ r ∧ r < (passTo p p.code.length).1.held.length := fun r hr => by rw [f3.len]; exact r7 r hr
  have hmem : ∀ r ∈ (passP p).outs, 0 ≤ r ∧ r < p.regs := by
    intro r hr
    obtain ⟨x, hx, rfl⟩ := List.mem_map.1 hr
    have := holder_get (hol x hx)
    rw [f3.len] at this
    exact ⟨this.1, this.2.1⟩
  have hlen : (passP p).outs.length = p.outs.length := by simp [passP, passOuts]
  constructor
  · have h1 : headOk (passP p) = true := by
      unfold headOk
      rw [Bool.and_eq_true, decide_eq_true_eq, List.all_eq_true]
      refine ⟨⟨r1, r2, r3, by omega, by rw [hlen]; exact r5, by rw [hlen]; exact r6⟩, fun r hr => ?_⟩
      rw [decide_eq_true_eq]; exact hmem r hr
    have h2 : badAt (passP p) = none := by
      unfold badAt
      rw [List.findIdx?_eq_none_iff]
      intro i hi
      have := f2 i hi
      show (!mayOk i p.regs) = false
      rw [this]; rfl
    unfold rightP checkP
    rw [if_neg (by rw [h1]; decide), h2]; rfl
  · have ho : passOuts (passP p) (passTo (passP p) (passP p).code.length).1.held = (passP p).outs := by
      rw [f5]
      show (passOuts p _).map _ = passOuts p _
      unfold passOuts
      rw [List.map_map]
      refine List.map_congr_left fun r hr => ?_
      show holder _ (_[(holder _ _).toNat]?.getD default) = _
      rw [(holder_get (hol r hr)).2.2]
    show (⟨(passP p).ins, (passP p).regs, (passTo (passP p) (passP p).code.length).2, passOuts (passP p) (passTo (passP p) (passP p).code.length).1.held⟩ : PV) = passP p
    rw [f4, ho]
end Go.Proofs.Ytbppmiimeccclaa
set_option linter.unusedVariables false
namespace Go.Sl
open Go
/-- what one call of yield does -/
def YieldDoes (P : Program) (l : Nat) (vs : List Value) (G : Imm) (Hi : Hp) (post : Value → Imm → Hp → Prop) : Prop :=
  ∀ w, HoldH Hi G w → ∃ f tmps assign body, (Instr.yield l vs.toArray).run P w = .ok (.round l f tmps assign body) w ∧ RoundIn Fence.wide 0 P l f tmps assign body w (DoesPost G Hi w post)
def Hp.below (K : Nat) : Hp → Bool
  | [] => true
  | (t, _) :: h => Nat.ble (t + 1) K && Hp.below K h
theorem Hp.below_get {K : Nat} : ∀ {A : Hp}, Hp.below K A = true → ∀ t, K ≤ t → A.get t = none
  | [], _, t, _ => rfl
  | (i, x) :: A, h, t, ht => by
    simp only [Hp.below, Bool.and_eq_true] at h
    have h1 := Nat.le_of_ble_eq_true h.1
    rw [Hp.get_cons, if_neg (by omega)]
    exact Hp.below_get h.2 t ht
section
variable {P : Program} {ops : Array Oper} {rest : List Oper} {B : Bs} {e : Env} {D : List Deferred} {H : Hp} {G : Imm} {K : Act → World → Prop}
  {ty : TypeId} {pos : String} {after : Array Edge} {d : Nat}
theorem Hp.get_kill_lt (k : Nat) : ∀ (L : Hp) (t : Nat), t < k → (Hp.kill k L).get t = none
  | [], _, _ => rfl
  | (j, z) :: L, t, h => by
    show Hp.get ((k + j, none, default) :: Hp.kill k L) t = none
    rw [Hp.get_cons, if_neg (by omega)]
    exact Hp.get_kill_lt k L t h
/-- behind a call that was lent the tail -/
theorem Hold.tail {a : Act} {w : World} (k : Nat) {A Hi Ho : Hp} {G' : Imm} (hA : Hp.below k A = true) (hh : Hold B ⟨e, D, Ho.shift k ++ (Hi.kill k ++ (A ++ Hi.shift k)), G'⟩ a w) : Hold B ⟨e, D, A ++ Ho.shift k, G'⟩ a w := by
  refine hh.weaken (fun _ _ h => h) (fun t x hx => ?_)
  rw [Hp.get_append] at hx
  rw [Hp.get_append, Hp.get_append, Hp.get_append]
  rcases Nat.lt_or_ge t k with ht | ht
  · have h1 : (Ho.shift k).get t = none := by rw [Hp.get_shift, if_neg (by omega)]
    have h2 : (Hi.shift k).get t = none := by rw [Hp.get_shift, if_neg (by omega)]
    have h3 : (Hi.kill k).get t = none := Hp.get_kill_lt k Hi t ht
    rw [h1, h2, h3]
    rw [h1] at hx
    simpa using hx
  · rw [Hp.below_get hA t ht] at hx
    simp only [Option.none_or] at hx
    rw [hx]; rfl
/-- a call of yield; the tail is what the rounds hold -/
theorem Wl.yield {g : Operand} {l : Nat} {xs : Array Operand} {ats : Array TypeId} {vs : List Value} {A Hi : Hp} {post : Value → Imm → Hp → Prop} (k : Nat)
    (hn : Nat.ble (d + 1) B.n = true) (hg : e.ev g = some (.func (.yield l) #[] #[])) (hx : e.evs xs.toList = some vs) (hH : H = A ++ Hi.shift k) (hA : Hp.below k A = true)
    (hF : YieldDoes P l vs G Hi post) (h : ∀ v G' Ho, G.le G' → post v G' Ho → Wl P ops rest B ⟨(d, v) :: e, D, A ++ Ho.shift k, G'⟩ K) :
    Wl P ops (⟨some d, .call { callee := .value g, args := xs, argTypes := ats }, ty, pos, after, none⟩ :: rest) B ⟨e, D, H, G⟩ K := by
  intro a w hh
  subst hH
  unfold lstWp
  rw [if_pos (by simp [Region.wanted])]
  unfold opWp
  have hHi : ∀ t x, Hi.get t = some x → Hp.get (A ++ Hi.shift k) (k + t) = some x := fun t x hx => by
    rw [Hp.get_append, Hp.below_get hA (k + t) (by omega), Option.none_or, Hp.get_shift, if_pos (by omega), Nat.add_sub_cancel_left]; exact hx
  have hw : HoldH Hi G w := ⟨fun t b o x => hh.mem.own _ b o (hHi _ _ x), fun t t' b o o' x y => by have := hh.mem.one _ _ b _ _ (hHi _ _ x) (hHi _ _ y); omega, hh.mem.imm, fun t b o x => hh.mem.off _ b o (hHi _ _ x)⟩
  obtain ⟨f, tmps, assign, body, hy, hR⟩ := hF w hw
  have hrun : (execOp a.eval ⟨some d, .call { callee := .value g, args := xs, argTypes := ats }, ty, pos, after, none⟩).run P w = .ok (.round l f tmps assign body) w := by
    simp [execOp, resolve, Deferred.ofValue, invoke, hh.eval hg, hh.args hx, hy]
  rw [hrun]
  refine hR.mono fun x w' ⟨v, G', Ho, h1, h2, h3, h4, h5, h6, h7⟩ => ⟨v, h1, ?_⟩
  exact h v G' Ho h3 h7 _ _ (((hh.called k hHi h2 h3 h4 h5 h6).tail k hA).put hn v)
section out
variable {fn : Func} {G0 : Imm} {Hi : Hp} {w0 : World} {post : Value → Imm → Hp → Prop} {x : Exit}
end out
def Env.ps : List Nat → List Value → Env → Env
  | t :: ts, v :: vs, e => Env.ps ts vs ((t, v) :: e)
  | _, _, e => e
section round
variable {ι : Type} {x : Exit} {l n : Nat} {w0 : World} {Hi : Hp} {G0 : Imm} {post : Value → Imm → Hp → Prop} {q : Loop} {p : Option Code}
end round
section stmt
variable {β ι : Type} {Q : Exit → Act → World → Prop} {f : FuncId} {fst caps : List Value} {enc : β → List Value} {xs : List β} {ps : List Nat} {assign body : Code} {g : Operand}
end stmt
end
end Go.Sl
set_option linter.unusedVariables false
namespace Go.Sl
open Go
section
variable {P : Program} {e : Env} {H : Hp} {G : Imm} {ty : TypeId}
/-- an array's element behind a pointer: a known place -/
theorem Qy.indexAddrA {T : TypeId} {x i : Operand} {b o n sz : Nat} {zs : List Value} {k : IntKind} {m : Int} (j : Nat) (hT : ArrayOf P T n sz zs) (hx : e.ev x = some (.pointer (some ⟨b, o, none⟩))) (hi : e.ev i = some (.int k m))
    (hb : decide (0 ≤ m ∧ m < n) = true) (hj : Nat.beq (m.toNat * sz) j = true) : Qy P (.indexAddr T x i) ty e H G (.pointer (some ⟨b, o + j, none⟩)) := fun a w _ _ _ _ hh => by
  obtain ⟨z, E, hu, _, _, hs⟩ := hT
  have hb' := of_decide_eq_true hb
  have hj' := Nat.eq_of_beq_eq_true hj
  simp [execOp, Instr.indexAt, Instr.sureAddr, hh.eval hx, hh.eval hi, asIntOf, run_underlying hu, hb', run_sizeOf w hs, add_lit, hj']
end
section
variable {P : Program} {B : Bs} {e : Env} {D : List Deferred} {H : Hp} {G : Imm}
theorem Hold.base {a : Act} {w : World} (hh : Hold B ⟨e, D, H, G⟩ a w) : Hold B ⟨e, D, H, B.G0⟩ a w := by
  refine ⟨hh.size, hh.defers, hh.env, ⟨hh.mem.own, hh.mem.one, fun b o h => hh.mem.imm b o (hh.le b o h), fun t b o h => ?_⟩, hh.upd, hh.mine, Imm.le_refl _, fun b h h0 => (h h0).elim⟩
  have h1 : G b = none := hh.mem.off t b o h
  show B.G0 b = none
  cases hg : B.G0 b with
  | none => rfl
  | some x => have h2 : G b = some x := hh.le b x hg; rw [h1] at h2; cases h2
theorem Ar.base {Q : Exit → Act → World → Prop} {x : Exit} (h : Ar Q x B ⟨e, D, H, B.G0⟩) : Ar Q x B ⟨e, D, H, G⟩ := fun a w hh => h a w hh.base
theorem Wc.base {r : Option Nat} {c : Code} {Q : Exit → Act → World → Prop} (h : Wc r P c B ⟨e, D, H, B.G0⟩ Q) : Wc r P c B ⟨e, D, H, G⟩ Q := fun a w hh => h a w hh.base
theorem HoldH.less {Hi : Hp} {G G' : Imm} {w : World} (hw : HoldH Hi G' w) (hl : G.le G') : HoldH Hi G w := by
  refine ⟨hw.own, hw.one, fun b o h => hw.imm b o (hl b o h), fun t b o h => ?_⟩
  have h1 := hw.off t b o h
  cases hg : G b with
  | none => rfl
  | some x => have := hl b x hg; rw [h1] at this; cases this
theorem DoesPost.up {G G' : Imm} {Hi : Hp} {w w' : World} {q : Value → Hp → Prop} (hw : HoldH Hi G' w) {x : Ending} (h : DoesPost G Hi w (fun v G1 Ho => G1 = G ∧ q v Ho) x w') :
    DoesPost G' Hi w (fun v G1 Ho => G1 = G' ∧ q v Ho) x w' := by
  obtain ⟨v, G1, Ho, h1, h2, h3, h4, h5, h6, h7, h8⟩ := h
  have hnot : ∀ b o, G' b = some o → ¬ Hi.has b := fun b o hb ⟨t, o', ht⟩ => by have := hw.off t b o' ht; rw [hb] at this; cases this
  refine ⟨v, G', Ho, h1, ⟨h2.own, h2.one, fun b o hb => ?_, fun t b o ht => ?_⟩, Imm.le_refl _, h4, fun b h0 h0' => (h0 h0').elim, h6, rfl, h8⟩
  · rw [h4.same b (hw.ltG hb) (hnot b o hb)]; exact hw.imm b o hb
  · cases hg : G' b with
    | none => rfl
    | some y =>
      rcases h6 t b o ht with h | h
      · have : b < w.heap.size := hw.ltG hg; omega
      · exact (hnot b y hg h).elim
theorem YieldDoes.up {l : Nat} {vs : List Value} {G G' : Imm} {Hi : Hp} {q : Value → Hp → Prop} (hl : G.le G') (h : YieldDoes P l vs G Hi (fun v G1 Ho => G1 = G ∧ q v Ho)) : YieldDoes P l vs G' Hi (fun v G1 Ho => G1 = G' ∧ q v Ho) := by
  intro w hw
  obtain ⟨f, tmps, assign, body, h1, h2⟩ := h w (hw.less hl)
  exact ⟨f, tmps, assign, body, h1, h2.mono fun x w' hp => hp.up hw⟩
theorem Does.up {f : FuncId} {args : List Value} {G G' : Imm} {Hi : Hp} {q : Value → Hp → Prop} (hl : G.le G') (h : Does P f args G Hi (fun v G1 Ho => G1 = G ∧ q v Ho)) : Does P f args G' Hi (fun v G1 Ho => G1 = G' ∧ q v Ho) := by
  intro w hw
  exact (h w (hw.less hl)).mono fun x w' hp => hp.up hw
end
def AtLoop (r : Option Nat) (P : Program) (c : Code) (Q : Exit → Act → World → Prop) (a : Act) (w : World) : Prop :=
  ∀ (b : Frame) (k : List Item) (cs : List Frame), b.roundOf = (FF r).round → (FF r).fn b.fn → (FF r).room (cs.length + 1 + 0) →
    ∃ e a' w', Q e a' w' ∧ ArrivesIn (Machine.fenced P (FF r)) P (lone (b.atR a (.code c :: .inLoop c :: k)) cs w) b k cs e a' w'
def La (r : Option Nat) (P : Program) (c : Code) (B : Bs) (S : St) (Q : Exit → Act → World → Prop) : Prop := ∀ a w, Hold B S a w → AtLoop r P c Q a w
section
variable {r : Option Nat} {P : Program} {B : Bs} {S : St} {Q : Exit → Act → World → Prop} {c : Code}
theorem La.round (h : Wc r P c B S (Exit.then (AtLoop r P c Q) Q)) : La r P c B S Q := by
  intro a w hh b k cs hro hb' hr
  obtain ⟨x, a₁, w₁, hq, harr⟩ := h a w hh b (.inLoop c :: k) cs hro hb' hr
  cases x with
  | normal =>
    obtain ⟨e₂, a₂, w₂, hq₂, harr₂⟩ := hq b k cs hro hb' hr
    exact ⟨e₂, a₂, w₂, hq₂, .of_steps (StepsIn.trans harr (.one (fenced_calm hb' hr rfl) stepR_inLoop)) harr₂⟩
  | exit id => exact ⟨_, a₁, w₁, hq, .pass (x := .inLoop c) rfl (fun _ _ => .inl (by simp)) harr⟩
  | goto l => exact ⟨_, a₁, w₁, hq, .pass (x := .inLoop c) rfl (fun _ _ => .inl (by simp)) harr⟩
  | ret => exact ⟨_, a₁, w₁, hq, .pass (x := .inLoop c) rfl (fun _ _ => .inl (by simp)) harr⟩
  | panic ch => exact ⟨_, a₁, w₁, hq, .pass (x := .inLoop c) rfl (fun _ _ => .inl (by simp)) harr⟩
  | outgrown => exact ⟨_, a₁, w₁, hq, .pass (x := .inLoop c) rfl (fun _ _ => .inl (by simp)) harr⟩
end
end Go.Sl
set_option linter.unusedVariables false
namespace Go.Sl
open Go
theorem HoldH.freezeRow {α : Type} [Cells α] {H : Hp} {G : Imm} {w : World} (hh : HoldH H G w) {t : Nat} {ad : Option Addr} {c : Nat} {E : TypeId} {xs : List α} {junk : List Value} (ht : H.get t = some (ad.map (·.block), Row E xs junk)) (ho : OwnA ad c xs junk) :
    ∃ G', G.le G' ∧ Arr G' ad xs ∧ HoldH ((t, none, default) :: H) G' w ∧ ∀ b, G' b ≠ none → G b = none → ∃ o, H.get t = some (some b, o) := by
  have hB : Hold ⟨0, w, fun b => H.has b, G⟩ ⟨[], [], H, G⟩ { tmps := #[], defers := [] } w :=
    ⟨rfl, rfl, fun i v h => by simp [Env.get] at h, hh, Upd.refl _ _, fun t b o h => .inr ⟨t, o, h⟩, Imm.le_refl _, fun b h h0 => (h h0).elim⟩
  rcases ho with ⟨rfl, rfl, rfl, _⟩ | ⟨b, rfl, hrest⟩
  · exact ⟨G, Imm.le_refl _, Arr.nil G, (hB.noBlock t default).mem, fun b h h0 => (h h0).elim⟩
  · have ht' : H.get t = some (some b, Row E xs junk) := ht
    obtain ⟨h1, h2⟩ := hB.freeze ht'
    refine ⟨_, h2, row_arr (E := E) (junk := junk) (by simp [Imm.with]), h1.mem, fun b' hb h0 => ?_⟩
    have hb' : (if b' = b then some (Row E xs junk) else G b') ≠ none := hb
    split at hb'
    · rename_i h; subst h; exact ⟨_, ht'⟩
    · exact (hb' h0).elim
end Go.Sl
set_option linter.unusedVariables false
namespace Go.Sl
open Go
section
variable {P : Program} {e : Env} {H : Hp} {G : Imm} {ty : TypeId} {t t' : TypeId} {x y : Operand} {m n : Int}
theorem Qy.uadd64 (hx : e.ev x = some (.int .u64 m)) (hy : e.ev y = some (.int .u64 n)) (hb : 0 ≤ m + n ∧ m + n ≤ 18446744073709551615) : Qy P (.binOp .add t x y t') ty e H G (.int .u64 (m + n)) := by
  have := Qy.addW (P := P) (H := H) (G := G) (ty := ty) (t := t) (t' := t') hx hy; rwa [IntWalk.u64_in _ hb] at this
theorem Qy.usub64 (hx : e.ev x = some (.int .u64 m)) (hy : e.ev y = some (.int .u64 n)) (hb : 0 ≤ m - n ∧ m - n ≤ 18446744073709551615) : Qy P (.binOp .sub t x y t') ty e H G (.int .u64 (m - n)) := by
  have := Qy.subW (P := P) (H := H) (G := G) (ty := ty) (t := t) (t' := t') hx hy; rwa [IntWalk.u64_in _ hb] at this
theorem Qy.umul64 (hx : e.ev x = some (.int .u64 m)) (hy : e.ev y = some (.int .u64 n)) (hb : 0 ≤ m * n ∧ m * n ≤ 18446744073709551615) : Qy P (.binOp .mul t x y t') ty e H G (.int .u64 (m * n)) := by
  have := Qy.mulW (P := P) (H := H) (G := G) (ty := ty) (t := t) (t' := t') hx hy; rwa [IntWalk.u64_in _ hb] at this
theorem tdiv_pos {m n : Int} (h : 0 ≤ m) : m.tdiv n = m / n := Int.tdiv_eq_ediv_of_nonneg h
theorem tmod_pos {m n : Int} (h : 0 ≤ m) : m.tmod n = m % n := Int.tmod_eq_emod_of_nonneg h
theorem div_le {m n : Int} (h : 0 ≤ m) (hn : 0 < n) : 0 ≤ m / n ∧ m / n ≤ m := ⟨Int.ediv_nonneg h (Int.le_of_lt hn), Int.ediv_le_self _ h⟩
theorem Qy.uquo64 (hx : e.ev x = some (.int .u64 m)) (hy : e.ev y = some (.int .u64 n)) (hb : 0 ≤ m ∧ m ≤ 18446744073709551615 ∧ 0 < n) : Qy P (.binOp .quo t x y t') ty e H G (.int .u64 (m / n)) := by
  have := Qy.quoW (P := P) (H := H) (G := G) (ty := ty) (t := t) (t' := t') hx hy (by omega)
  have h1 := div_le hb.1 hb.2.2
  rwa [tdiv_pos hb.1, IntWalk.u64_in _ ⟨h1.1, Int.le_trans h1.2 hb.2.1⟩] at this
theorem Qy.quoP (hx : e.ev x = some (.int .i64 m)) (hy : e.ev y = some (.int .i64 n)) (hb : 0 ≤ m ∧ m ≤ 9223372036854775807 ∧ 0 < n) : Qy P (.binOp .quo t x y t') ty e H G (.int .i64 (m / n)) := by
  have h1 := div_le hb.1 hb.2.2
  have h2 : m.tdiv n = m / n := tdiv_pos hb.1
  have := Qy.quo (P := P) (H := H) (G := G) (ty := ty) (t := t) (t' := t') hx hy (by omega) (by rw [h2]; exact ⟨by omega, by omega⟩)
  rwa [h2] at this
theorem Qy.urem {k : IntKind} (hx : e.ev x = some (.int k m)) (hy : e.ev y = some (.int k n)) (hb : 0 ≤ m ∧ 0 < n) : Qy P (.binOp .rem t x y t') ty e H G (.int k (m % n)) := by
  have := Qy.rem (P := P) (H := H) (G := G) (ty := ty) (t := t) (t' := t') hx hy (by omega)
  rwa [tmod_pos hb.1] at this
theorem Qy.conv32 {s : TypeId} {k : IntKind} (hs : (P.underlying s).isSome = true) (ht : P.underlying t = some (.int .u32)) (hx : e.ev x = some (.int k m)) (hb : 0 ≤ m ∧ m ≤ 4294967295) : Qy P (.convert s t x) ty e H G (.int .u32 m) := by
  have := Qy.conv (P := P) (H := H) (G := G) (ty := ty) hs ht hx
  rwa [IntWalk.u32_in _ hb] at this
theorem Qy.conv64 {s : TypeId} {k : IntKind} (hs : (P.underlying s).isSome = true) (ht : P.underlying t = some (.int .u64)) (hx : e.ev x = some (.int k m)) (hb : 0 ≤ m ∧ m ≤ 18446744073709551615) : Qy P (.convert s t x) ty e H G (.int .u64 m) := by
  have := Qy.conv (P := P) (H := H) (G := G) (ty := ty) hs ht hx
  rwa [IntWalk.u64_in _ hb] at this
end
theorem bits_or_u32_nat (a b : Nat) (ha : a < 4294967296) (hb : b < 4294967296) : bits .or .u32 (a : Int) (b : Int) = ((a ||| b : Nat) : Int) := by
  have hx : a ||| b < 2 ^ 32 := Nat.or_lt_two_pow (by omega) (by omega)
  have h1 : (BitVec.ofInt 32 (a : Int)).toNat = a := by
    rw [BitVec.ofInt_natCast, BitVec.toNat_ofNat]; exact Nat.mod_eq_of_lt (by omega)
  have h2 : (BitVec.ofInt 32 (b : Int)).toNat = b := by
    rw [BitVec.ofInt_natCast, BitVec.toNat_ofNat]; exact Nat.mod_eq_of_lt (by omega)
  show IntKind.u32.wrap ((BitVec.ofInt 32 (a : Int) ||| BitVec.ofInt 32 (b : Int)).toNat : Int) = _
  rw [BitVec.toNat_or, h1, h2, IntKind.wrap_u32]
  omega
/-- a whole number's handle -/
structure IV where
  neg : Bool
  a : Option Addr
  n : Nat
  c : Nat
instance : Inhabited IV := ⟨⟨false, none, 0, 0⟩⟩
instance : Cells IV := ⟨2, fun x => [.bool x.neg, .slice x.a x.n x.c], fun _ => rfl, fun _ => rfl⟩
/-- a slice's handle -/
structure SV where
  a : Option Addr
  n : Nat
  c : Nat
instance : Inhabited SV := ⟨⟨none, 0, 0⟩⟩
instance : Cells SV := ⟨1, fun x => [.slice x.a x.n x.c], fun _ => rfl, fun _ => rfl⟩
end Go.Sl
set_option linter.unusedVariables false
namespace Go.Sl
open Go
def Digs (l : List U32) : Prop := ∀ d ∈ l, 0 ≤ d.v ∧ d.v < 65536
def valL : List U32 → Int
  | [] => 0
  | d :: l => d.v + 65536 * valL l
def pw (n : Nat) : Int := ((65536 ^ n : Nat) : Int)
theorem pw_zero : pw 0 = 1 := rfl
theorem pw_succ (n : Nat) : pw (n + 1) = 65536 * pw n := by unfold pw; rw [Nat.pow_succ, Nat.mul_comm, Int.natCast_mul]; rfl
theorem pw_pos (n : Nat) : 0 < pw n := by unfold pw; exact Int.ofNat_lt.2 (Nat.pow_pos (by decide))
theorem pw_le {m n : Nat} (h : m ≤ n) : pw m ≤ pw n := by unfold pw; exact Int.ofNat_le.2 (Nat.pow_le_pow_right (by decide) h)
theorem valL_nil : valL [] = 0 := rfl
theorem valL_cons (d : U32) (l : List U32) : valL (d :: l) = d.v + 65536 * valL l := rfl
theorem Digs.nil : Digs [] := fun d h => by simp at h
theorem Digs.tail {d : U32} {l : List U32} (h : Digs (d :: l)) : Digs l := fun x hx => h x (List.mem_cons_of_mem _ hx)
theorem Digs.head {d : U32} {l : List U32} (h : Digs (d :: l)) : 0 ≤ d.v ∧ d.v < 65536 := h d List.mem_cons_self
theorem Digs.append {l m : List U32} (h : Digs l) (h' : Digs m) : Digs (l ++ m) := fun x hx => by
  rcases List.mem_append.1 hx with h1 | h1
  · exact h x h1
  · exact h' x h1
theorem Digs.one {d : Int} (h : 0 ≤ d ∧ d < 65536) : Digs [⟨d⟩] := fun x hx => by
  have : x = ⟨d⟩ := by simpa using hx
  subst this; exact h
theorem Digs.take {l : List U32} (h : Digs l) (n : Nat) : Digs (l.take n) := fun x hx => h x (List.mem_of_mem_take hx)
theorem Digs.at {l : List U32} (h : Digs l) {m : Int} (hm : 0 ≤ m ∧ m < l.length) : 0 ≤ (l[m.toNat]?.getD default).v ∧ (l[m.toNat]?.getD default).v < 65536 := by
  have hl : m.toNat < l.length := by omega
  rw [List.getElem?_eq_getElem hl]; exact h _ (List.getElem_mem hl)
theorem valL_nonneg : ∀ {l : List U32}, Digs l → 0 ≤ valL l
  | [], _ => Int.le_refl 0
  | d :: l, h => by
    have h1 := valL_nonneg h.tail
    have h2 := h.head
    rw [valL_cons]; omega
theorem valL_append : ∀ (l m : List U32), valL (l ++ m) = valL l + pw l.length * valL m
  | [], m => by rw [List.nil_append, valL_nil, List.length_nil, pw_zero]; omega
  | d :: l, m => by
    rw [List.cons_append, valL_cons, valL_cons, valL_append l m, List.length_cons, pw_succ, Int.mul_add, ← Int.mul_assoc]; omega
theorem valL_one (d : U32) : valL [d] = d.v := by rw [valL_cons, valL_nil]; omega
theorem valL_snoc (l : List U32) (d : U32) : valL (l ++ [d]) = valL l + pw l.length * d.v := by rw [valL_append, valL_one]
theorem valL_take_succ {l : List U32} {k : Nat} (h : k < l.length) : valL (l.take (k + 1)) = valL (l.take k) + pw k * (l[((k : Nat) : Int).toNat]?.getD default).v := by
  rw [List.take_add_one, Int.toNat_natCast, List.getElem?_eq_getElem h]
  simp only [Option.toList_some, Option.getD_some]
  rw [valL_snoc, List.length_take, Nat.min_eq_left (Nat.le_of_lt h)]
theorem take_all {α : Type} {l : List α} {k : Nat} (h : l.length ≤ k) : l.take k = l := List.take_of_length_le h
theorem Digs.zeros (n : Nat) : Digs (List.replicate n ⟨0⟩) := fun x hx => by
  have := List.eq_of_mem_replicate hx
  subst this; exact ⟨by decide, by decide⟩
/-- without a nought at the top -/
def Top (l : List U32) : Prop := l = [] ∨ (l[l.length - 1]?.getD default).v ≠ 0
theorem Top.nil : Top [] := .inl rfl
theorem top_ge {l : List U32} (hd : Digs l) (ht : Top l) (h0 : l ≠ []) : pw (l.length - 1) ≤ valL l := by
  have hl : 0 < l.length := List.length_pos_iff.2 h0
  have h1 : (l[l.length - 1]?.getD default).v ≠ 0 := by
    rcases ht with h | h
    · exact absurd h h0
    · exact h
  have h2 := valL_take_succ (l := l) (k := l.length - 1) (by omega)
  rw [Nat.sub_add_cancel hl, take_all (Nat.le_refl _), Int.toNat_natCast] at h2
  have h3 := valL_nonneg (hd.take (l.length - 1))
  have h4 : (1 : Int) ≤ (l[l.length - 1]?.getD default).v := by
    have := hd.at (m := ((l.length - 1 : Nat) : Int)) (by omega)
    rw [Int.toNat_natCast] at this
    omega
  have h5 := Int.mul_le_mul_of_nonneg_left h4 (Int.le_of_lt (pw_pos (l.length - 1)))
  omega
theorem top_len {l : List U32} (hd : Digs l) (ht : Top l) {m : Nat} (h : valL l < pw m) : l.length ≤ m := by
  by_cases h0 : l = []
  · subst h0; exact Nat.zero_le _
  · have h1 := top_ge hd ht h0
    rcases Nat.lt_or_ge m l.length with h2 | h2
    · have h3 := pw_le (show m ≤ l.length - 1 by omega)
      omega
    · exact h2
theorem top_pos {l : List U32} (hd : Digs l) (ht : Top l) (h0 : l ≠ []) : 0 < valL l := Int.lt_of_lt_of_le (pw_pos _) (top_ge hd ht h0)
/-- sign and digits of a whole number -/
structure IsInt (neg : Bool) (l : List U32) (z : Int) : Prop where
  digs : Digs l
  top : Top l
  sign : l = [] → neg = false
  val : z = if neg = true then -valL l else valL l
theorem IsInt.abs {neg : Bool} {l : List U32} {z : Int} (h : IsInt neg l z) : valL l = z.natAbs := by
  have h1 := valL_nonneg h.digs
  have h2 := h.val
  split at h2 <;> omega
theorem IsInt.neg_iff {neg : Bool} {l : List U32} {z : Int} (h : IsInt neg l z) : neg = decide (z < 0) := by
  have h2 := h.val
  by_cases h0 : l = []
  · have h3 := h.sign h0
    subst h0
    rw [h3] at h2 ⊢
    rw [valL_nil] at h2
    have : ¬ z < 0 := by simp at h2; omega
    simp [this]
  · have h1 := top_pos h.digs h.top h0
    cases neg with
    | true =>
      rw [if_pos rfl] at h2
      have : z < 0 := by omega
      simp [this]
    | false =>
      rw [if_neg (by decide)] at h2
      have : ¬ z < 0 := by omega
      simp [this]
theorem IsInt.zero_iff {neg : Bool} {l : List U32} {z : Int} (h : IsInt neg l z) : l.length = 0 ↔ z = 0 := by
  have h2 := h.val
  constructor
  · intro h0
    have h0 := List.eq_nil_of_length_eq_zero h0
    subst h0
    rw [valL_nil] at h2
    split at h2 <;> omega
  · intro hz
    by_cases h0 : l = []
    · rw [h0]; rfl
    · have h1 := top_pos h.digs h.top h0
      split at h2 <;> omega
theorem IsInt.len {neg : Bool} {l : List U32} {z : Int} (h : IsInt neg l z) {m : Nat} (hz : (z.natAbs : Int) < pw m) : l.length ≤ m := by
  refine top_len h.digs h.top ?_
  rw [h.abs]; exact hz
/-- what a handle stands for -/
def Num (G : Imm) (x : IV) (z : Int) : Prop := ∃ l : List U32, l.length = x.n ∧ x.n ≤ x.c ∧ Arr G x.a l ∧ IsInt x.neg l z
theorem Num.up {G G' : Imm} {x : IV} {z : Int} (h : Num G x z) (hl : G.le G') : Num G' x z := by
  obtain ⟨l, h1, h0, h2, h3⟩ := h
  exact ⟨l, h1, h0, h2.up hl, h3⟩
theorem Num.zero (G : Imm) : Num G ⟨false, none, 0, 0⟩ 0 := ⟨[], rfl, Nat.le_refl _, Arr.nil G, ⟨Digs.nil, Top.nil, fun _ => rfl, rfl⟩⟩
end Go.Sl
set_option maxRecDepth 100000
namespace Go.Sl
open Go
section
variable {P : Program} {B : Bs} {D : List Deferred}
/-- a loop under which more and more is frozen -/
theorem Wc.loopG {ι : Type} {r : Option Nat} {c : Code} {Q : Exit → Act → World → Prop} {e : Env} {H : Hp} {G : Imm} (I : ι → Env × Hp) (g : ι → Imm) (φ : ι → Prop) (μ : ι → Nat) (i0 : ι) (h0 : φ i0) (hg : G = g i0)
    (he : e.sub (I i0).1) (hH : H.sub (I i0).2)
    (hb : ∀ i, φ i → Wc r P c B ⟨(I i).1, D, (I i).2, g i⟩ (Exit.then (Again B (fun i => ⟨(I i).1, D, (I i).2, g i⟩) φ μ (μ i)) Q)) : Wc r P (.loop c) B ⟨e, D, H, G⟩ Q :=
  Wc.loopS (fun i => ⟨(I i).1, D, (I i).2, g i⟩) φ μ i0 h0 (fun _ _ h => by rw [hg] at h; exact h.sub he hH) hb
end
/-- numbers in a row -/
def Nums (G : Imm) (l : List IV) (zs : List Int) : Prop := l.length = zs.length ∧ ∀ i : Nat, i < l.length → Num G (l[i]?.getD default) (zs[i]?.getD 0)
theorem Nums.up {G G' : Imm} {l : List IV} {zs : List Int} (h : Nums G l zs) (hl : G.le G') : Nums G' l zs := ⟨h.1, fun i hi => (h.2 i hi).up hl⟩
theorem Nums.nil (G : Imm) : Nums G [] [] := ⟨rfl, fun i hi => by simp at hi⟩
theorem Nums.at {G : Imm} {l : List IV} {zs : List Int} (h : Nums G l zs) {m : Int} (hm : 0 ≤ m ∧ m < l.length) : Num G (l[m.toNat]?.getD default) (zs[m.toNat]?.getD 0) := h.2 _ (by omega)
theorem Nums.snoc {G : Imm} {l : List IV} {zs : List Int} (h : Nums G l zs) {x : IV} {z : Int} (hx : Num G x z) : Nums G (l ++ [x]) (zs ++ [z]) := by
  refine ⟨by simp [h.1], fun i hi => ?_⟩
  rw [List.length_append, List.length_singleton] at hi
  by_cases hc : i < l.length
  · rw [List.getElem?_append_left hc, List.getElem?_append_left (by rw [← h.1]; exact hc)]
    exact h.2 i hc
  · have e : i = l.length := by omega
    subst e
    rw [List.getElem?_concat_length, h.1, List.getElem?_concat_length]
    exact hx
/-- all smaller than m digits -/
def Below (m : Nat) (zs : List Int) : Prop := ∀ z ∈ zs, (z.natAbs : Int) < pw m
theorem Below.at {m : Nat} {zs : List Int} (h : Below m zs) (i : Nat) : ((zs[i]?.getD 0).natAbs : Int) < pw m := by
  cases hx : zs[i]? with
  | none => exact pw_pos m
  | some z => exact h z (List.mem_of_getElem? hx)
theorem Below.mono {m k : Nat} {zs : List Int} (h : Below m zs) (hk : m ≤ k) : Below k zs := fun z hz => Int.lt_of_lt_of_le (h z hz) (pw_le hk)
end Go.Sl
set_option linter.unusedVariables false
namespace Go.Sl
open Go
def Lims (l : List U32) : Prop := ∀ d ∈ l, 0 ≤ d.v ∧ d.v < 4294967296
def valB : List U32 → Int
  | [] => 0
  | d :: l => d.v + 4294967296 * valB l
def pb (n : Nat) : Int := ((4294967296 ^ n : Nat) : Int)
theorem pb_zero : pb 0 = 1 := rfl
theorem pb_succ (n : Nat) : pb (n + 1) = 4294967296 * pb n := by unfold pb; rw [Nat.pow_succ, Nat.mul_comm, Int.natCast_mul]; rfl
theorem pb_pos (n : Nat) : 0 < pb n := by unfold pb; exact Int.ofNat_lt.2 (Nat.pow_pos (by decide))
theorem pb_add (m n : Nat) : pb (m + n) = pb m * pb n := by unfold pb; rw [Nat.pow_add, Int.natCast_mul]
theorem pb_le {m n : Nat} (h : m ≤ n) : pb m ≤ pb n := by unfold pb; exact Int.ofNat_le.2 (Nat.pow_le_pow_right (by decide) h)
theorem valB_nil : valB [] = 0 := rfl
theorem valB_cons (d : U32) (l : List U32) : valB (d :: l) = d.v + 4294967296 * valB l := rfl
theorem Lims.nil : Lims [] := fun d h => by simp at h
theorem Lims.tail {d : U32} {l : List U32} (h : Lims (d :: l)) : Lims l := fun x hx => h x (List.mem_cons_of_mem _ hx)
theorem Lims.head {d : U32} {l : List U32} (h : Lims (d :: l)) : 0 ≤ d.v ∧ d.v < 4294967296 := h d List.mem_cons_self
theorem Lims.append {l m : List U32} (h : Lims l) (h' : Lims m) : Lims (l ++ m) := fun x hx => by
  rcases List.mem_append.1 hx with h1 | h1
  · exact h x h1
  · exact h' x h1
theorem Lims.one {d : Int} (h : 0 ≤ d ∧ d < 4294967296) : Lims [⟨d⟩] := fun x hx => by
  have : x = ⟨d⟩ := by simpa using hx
  subst this; exact h
theorem Lims.take {l : List U32} (h : Lims l) (n : Nat) : Lims (l.take n) := fun x hx => h x (List.mem_of_mem_take hx)
theorem Lims.at {l : List U32} (h : Lims l) {m : Int} (hm : 0 ≤ m ∧ m < l.length) : 0 ≤ (l[m.toNat]?.getD default).v ∧ (l[m.toNat]?.getD default).v < 4294967296 := by
  have hl : m.toNat < l.length := by omega
  rw [List.getElem?_eq_getElem hl]; exact h _ (List.getElem_mem hl)
theorem valB_nonneg : ∀ {l : List U32}, Lims l → 0 ≤ valB l
  | [], _ => Int.le_refl 0
  | d :: l, h => by
    have h1 := valB_nonneg h.tail
    have h2 := h.head
    rw [valB_cons]; omega
theorem valB_lt : ∀ {l : List U32}, Lims l → valB l < pb l.length
  | [], _ => by decide
  | d :: l, h => by
    have h1 := valB_lt h.tail
    have h2 := h.head
    rw [valB_cons, List.length_cons, pb_succ]; omega
theorem valB_append : ∀ (l m : List U32), valB (l ++ m) = valB l + pb l.length * valB m
  | [], m => by rw [List.nil_append, valB_nil, List.length_nil, pb_zero]; omega
  | d :: l, m => by
    rw [List.cons_append, valB_cons, valB_cons, valB_append l m, List.length_cons, pb_succ, Int.mul_add, ← Int.mul_assoc]; omega
theorem valB_one (d : U32) : valB [d] = d.v := by rw [valB_cons, valB_nil]; omega
theorem valB_snoc (l : List U32) (d : U32) : valB (l ++ [d]) = valB l + pb l.length * d.v := by rw [valB_append, valB_one]
theorem valB_take_succ {l : List U32} {k : Nat} (h : k < l.length) : valB (l.take (k + 1)) = valB (l.take k) + pb k * (l[((k : Nat) : Int).toNat]?.getD default).v := by
  rw [List.take_add_one, Int.toNat_natCast, List.getElem?_eq_getElem h]
  simp only [Option.toList_some, Option.getD_some]
  rw [valB_snoc, List.length_take, Nat.min_eq_left (Nat.le_of_lt h)]
theorem valB_replicate (n : Nat) : valB (List.replicate n ⟨0⟩) = 0 := by
  induction n with
  | zero => rfl
  | succ n ih => rw [List.replicate_succ, valB_cons, ih]; rfl
theorem Lims.zeros (n : Nat) : Lims (List.replicate n ⟨0⟩) := fun x hx => by
  have := List.eq_of_mem_replicate hx
  subst this; exact ⟨by decide, by decide⟩
/-- noughts at the top count nothing -/
theorem valB_trim {l : List U32} {n : Nat} (h : ∀ j, n ≤ j → j < l.length → (l[j]?.getD default).v = 0) : valB (l.take n) = valB l := by
  rcases Nat.lt_or_ge n l.length with hn | hn
  · have e : l = l.take n ++ l.drop n := (List.take_append_drop n l).symm
    have hz : ∀ (m : List U32), (∀ j, j < m.length → (m[j]?.getD default).v = 0) → valB m = 0 := by
      intro m
      induction m with
      | nil => intro _; rfl
      | cons d m ih =>
        intro h0
        have h1 := h0 0 (by simp)
        simp only [List.getElem?_cons_zero, Option.getD_some] at h1
        rw [valB_cons, h1, ih fun j hj => by have := h0 (j + 1) (by simpa using hj); simpa using this]; rfl
    have h2 : valB (l.drop n) = 0 := hz _ fun j hj => by
      rw [List.getElem?_drop]
      exact h (n + j) (by omega) (by rw [List.length_drop] at hj; omega)
    have h3 : valB l = valB (l.take n ++ l.drop n) := by rw [List.take_append_drop]
    rw [h3, valB_append, h2]; omega
  · rw [take_all hn]
theorem ltop_ge {l : List U32} (hd : Lims l) (ht : Top l) (h0 : l ≠ []) : pb (l.length - 1) ≤ valB l := by
  have hl : 0 < l.length := List.length_pos_iff.2 h0
  have h1 : (l[l.length - 1]?.getD default).v ≠ 0 := by
    rcases ht with h | h
    · exact absurd h h0
    · exact h
  have h2 := valB_take_succ (l := l) (k := l.length - 1) (by omega)
  rw [Nat.sub_add_cancel hl, take_all (Nat.le_refl _), Int.toNat_natCast] at h2
  have h3 := valB_nonneg (hd.take (l.length - 1))
  have h4 : (1 : Int) ≤ (l[l.length - 1]?.getD default).v := by
    have := hd.at (m := ((l.length - 1 : Nat) : Int)) (by omega)
    rw [Int.toNat_natCast] at this
    omega
  have h5 := Int.mul_le_mul_of_nonneg_left h4 (Int.le_of_lt (pb_pos (l.length - 1)))
  omega
theorem ltop_len {l : List U32} (hd : Lims l) (ht : Top l) {m : Nat} (h : valB l < pb m) : l.length ≤ m := by
  by_cases h0 : l = []
  · subst h0; exact Nat.zero_le _
  · have h1 := ltop_ge hd ht h0
    rcases Nat.lt_or_ge m l.length with h2 | h2
    · have h3 := pb_le (show m ≤ l.length - 1 by omega)
      omega
    · exact h2
theorem ltop_pos {l : List U32} (hd : Lims l) (ht : Top l) (h0 : l ≠ []) : 0 < valB l := Int.lt_of_lt_of_le (pb_pos _) (ltop_ge hd ht h0)
theorem ltop_lt_len {l m : List U32} (hl : Lims l) (hm : Lims m) (tm : Top m) (h : l.length < m.length) : valB l < valB m := by
  have h1 := valB_lt hl
  have h2 := ltop_ge hm tm (fun e => by rw [e] at h; simp at h)
  have h3 := pb_le (show l.length ≤ m.length - 1 by omega)
  omega
/-- sign and digits of a whole number -/
structure IsBig (neg : Bool) (l : List U32) (z : Int) : Prop where
  digs : Lims l
  top : Top l
  sign : l = [] → neg = false
  val : z = if neg = true then -valB l else valB l
theorem IsBig.abs {neg : Bool} {l : List U32} {z : Int} (h : IsBig neg l z) : valB l = z.natAbs := by
  have h1 := valB_nonneg h.digs
  have h2 := h.val
  split at h2 <;> omega
theorem IsBig.neg_iff {neg : Bool} {l : List U32} {z : Int} (h : IsBig neg l z) : neg = decide (z < 0) := by
  have h2 := h.val
  by_cases h0 : l = []
  · have h3 := h.sign h0
    subst h0
    rw [h3] at h2 ⊢
    rw [valB_nil] at h2
    have : ¬ z < 0 := by simp at h2; omega
    simp [this]
  · have h1 := ltop_pos h.digs h.top h0
    cases neg with
    | true =>
      rw [if_pos rfl] at h2
      have : z < 0 := by omega
      simp [this]
    | false =>
      rw [if_neg (by decide)] at h2
      have : ¬ z < 0 := by omega
      simp [this]
theorem IsBig.zero_iff {neg : Bool} {l : List U32} {z : Int} (h : IsBig neg l z) : l.length = 0 ↔ z = 0 := by
  have h2 := h.val
  constructor
  · intro h0
    have h0 := List.eq_nil_of_length_eq_zero h0
    subst h0
    rw [valB_nil] at h2
    split at h2 <;> omega
  · intro hz
    by_cases h0 : l = []
    · rw [h0]; rfl
    · have h1 := ltop_pos h.digs h.top h0
      split at h2 <;> omega
theorem IsBig.len {neg : Bool} {l : List U32} {z : Int} (h : IsBig neg l z) {m : Nat} (hz : (z.natAbs : Int) < pb m) : l.length ≤ m := by
  refine ltop_len h.digs h.top ?_
  rw [h.abs]; exact hz
/-- what a handle stands for -/
def Big (G : Imm) (x : IV) (z : Int) : Prop := ∃ l : List U32, l.length = x.n ∧ x.n ≤ x.c ∧ Arr G x.a l ∧ IsBig x.neg l z
theorem Big.up {G G' : Imm} {x : IV} {z : Int} (h : Big G x z) (hl : G.le G') : Big G' x z := by
  obtain ⟨l, h1, h0, h2, h3⟩ := h
  exact ⟨l, h1, h0, h2.up hl, h3⟩
theorem Big.zero (G : Imm) : Big G ⟨false, none, 0, 0⟩ 0 := ⟨[], rfl, Nat.le_refl _, Arr.nil G, ⟨Lims.nil, Top.nil, fun _ => rfl, rfl⟩⟩
end Go.Sl
