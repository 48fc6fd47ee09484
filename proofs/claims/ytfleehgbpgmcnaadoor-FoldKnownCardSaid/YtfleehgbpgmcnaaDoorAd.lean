import Derived.Test.YtfleehgbpgmcnaaDoorSlP
import Derived.Test.YtfleehgbpgmcnaaDoorAc
set_option maxRecDepth 100000
namespace Go.Proofs.YtfleehgbpgmcnaaDoor
open Go Go.Sl

set_option maxHeartbeats 2000000
attribute [local irreducible] plainP togP powC constOk
/-- what comes of two plain instructions -/
def meltP (a b : Sl.Instr) : Sl.Instr × Bool :=
  if b.op = 3 ∨ b.op = 4 ∨ b.a ≠ a.to ∨ b.to ≠ a.to then (⟨0, 0, 0, 0, 0⟩, false)
  else if (togP a.op a.c b.op b.c).2.2 = true then (plainP ⟨(togP a.op a.c b.op b.c).1, b.to, a.a, 0, (togP a.op a.c b.op b.c).2.1⟩, true) else (⟨0, 0, 0, 0, 0⟩, false)
theorem c24 (G : Imm) (hT : TabOk G) (a b : Sl.Instr) (ha : constOk a.op a.c = true) (hb : constOk b.op b.c = true) :
    Does Tryd.prog 24 [.agg (Cells.enc a).toArray, .agg (Cells.enc b).toArray] G [] (fun v G' Ho => v = .tuple #[.agg (Cells.enc (meltP a b).1).toArray, .bool (meltP a b).2] ∧ G' = G ∧ Ho = []) := by
  have ht := tog_const ha hb
  refine Does.enter Tryd.func24 rfl Tryd.ntmps24 rfl (fun w => ?_)
  refine Wc.seq ?_
  refine Wc.region rfl ?_
  refine Wl.box 0 rfl rfl rfl (fun b1 => ?_)
  refine Wl.box 1 rfl rfl rfl (fun b2 => ?_)
  refine Wl.alloc 2 rfl T.zero34 (fun b3 => ?_)
  refine Wl.q rfl (Qy.assign rfl) ?_
  refine Wl.done ?_
  refine Ar.next ?_
  refine Wc.seq ?_
  refine Wc.seq ?_
  refine Wc.region rfl ?_
  refine Wl.q rfl (Qy.fieldAddr T.fa34_0 rfl) ?_
  refine Wl.q rfl (Qy.load 1 T.one3 rfl rfl rfl) ?_
  refine Wl.q rfl (Qy.eql rfl rfl) ?_
  refine Wl.q rfl (Qy.move rfl) ?_
  apply Wl.joinOr 4 12 16 rfl
  intro hg1
  refine Wl.want rfl rfl ?_
  refine Wl.q rfl (Qy.fieldAddr T.fa34_0 rfl) ?_
  refine Wl.want rfl rfl ?_
  refine Wl.q rfl (Qy.load 1 T.one3 rfl rfl rfl) ?_
  refine Wl.want rfl rfl ?_
  refine Wl.q rfl (Qy.eql rfl rfl) ?_
  refine Wl.q rfl (Qy.pick rfl rfl) ?_
  exact Wl.back 4 0 rfl rfl rfl rfl rfl
  intro hg1
  refine Wl.pass rfl rfl rfl ?_
  refine Wl.pass rfl rfl rfl ?_
  refine Wl.pass rfl rfl rfl ?_
  refine Wl.q rfl (Qy.pick rfl rfl) ?_
  exact Wl.back 4 0 rfl rfl rfl rfl rfl
  refine Wl.q rfl (Qy.move rfl) ?_
  apply Wl.joinOr 6 17 23 rfl
  intro hg1
  refine Wl.want rfl rfl ?_
  refine Wl.q rfl (Qy.fieldAddr T.fa34_2 rfl) ?_
  refine Wl.want rfl rfl ?_
  refine Wl.q rfl (Qy.load 1 T.one3 rfl rfl rfl) ?_
  refine Wl.want rfl rfl ?_
  refine Wl.q rfl (Qy.fieldAddr T.fa34_1 rfl) ?_
  refine Wl.want rfl rfl ?_
  refine Wl.q rfl (Qy.load 0 T.one3 rfl rfl rfl) ?_
  refine Wl.want rfl rfl ?_
  refine Wl.q rfl (Qy.neq rfl rfl) ?_
  refine Wl.q rfl (Qy.pick rfl rfl) ?_
  exact Wl.back 6 0 rfl rfl rfl rfl rfl
  intro hg1
  refine Wl.pass rfl rfl rfl ?_
  refine Wl.pass rfl rfl rfl ?_
  refine Wl.pass rfl rfl rfl ?_
  refine Wl.pass rfl rfl rfl ?_
  refine Wl.pass rfl rfl rfl ?_
  refine Wl.q rfl (Qy.pick rfl rfl) ?_
  exact Wl.back 6 0 rfl rfl rfl rfl rfl
  refine Wl.q rfl (Qy.move rfl) ?_
  apply Wl.joinOr 6 24 30 rfl
  intro hg1
  refine Wl.want rfl rfl ?_
  refine Wl.q rfl (Qy.fieldAddr T.fa34_1 rfl) ?_
  refine Wl.want rfl rfl ?_
  refine Wl.q rfl (Qy.load 1 T.one3 rfl rfl rfl) ?_
  refine Wl.want rfl rfl ?_
  refine Wl.q rfl (Qy.fieldAddr T.fa34_1 rfl) ?_
  refine Wl.want rfl rfl ?_
  refine Wl.q rfl (Qy.load 0 T.one3 rfl rfl rfl) ?_
  refine Wl.want rfl rfl ?_
  refine Wl.q rfl (Qy.neq rfl rfl) ?_
  refine Wl.q rfl (Qy.pick rfl rfl) ?_
  exact Wl.back 6 0 rfl rfl rfl rfl rfl
  intro hg1
  refine Wl.pass rfl rfl rfl ?_
  refine Wl.pass rfl rfl rfl ?_
  refine Wl.pass rfl rfl rfl ?_
  refine Wl.pass rfl rfl rfl ?_
  refine Wl.pass rfl rfl rfl ?_
  refine Wl.q rfl (Qy.pick rfl rfl) ?_
  exact Wl.back 6 0 rfl rfl rfl rfl rfl
  refine Wl.done ?_
  refine Ar.next ?_
  refine Wc.cond rfl (fun hc1 => ?_) (fun hc1 => ?_)
  refine Wc.seq ?_
  refine Wc.region rfl ?_
  refine Wl.q rfl (Qy.build (cs := [_, _, _, _, _]) T.st34 rfl rfl rfl) ?_
  refine Wl.storeAll 2 T.size34 rfl rfl rfl rfl rfl rfl ?_
  refine Wl.q rfl (Qy.assign rfl) ?_
  refine Wl.done ?_
  refine Ar.next ?_
  refine Wc.ret ?_
  refine Ar.passRet ?_
  refine Ar.out2 (.inr rfl) (Ho := Hp.only _ []) rfl (.agg 2 rfl rfl T.agg34) (.tmp rfl) (Hp.sub_only _ _) ?_
  rotate_left
  refine Wc.skip ?_
  refine Ar.next ?_
  refine Wc.seq ?_
  refine Wc.region rfl ?_
  refine Wl.q rfl (Qy.fieldAddr T.fa34_0 rfl) ?_
  refine Wl.q rfl (Qy.load 0 T.one3 rfl rfl rfl) ?_
  refine Wl.q rfl (Qy.fieldAddr T.fa34_4 rfl) ?_
  refine Wl.q rfl (Qy.load 0 T.one3 rfl rfl rfl) ?_
  refine Wl.q rfl (Qy.fieldAddr T.fa34_0 rfl) ?_
  refine Wl.q rfl (Qy.load 1 T.one3 rfl rfl rfl) ?_
  refine Wl.q rfl (Qy.fieldAddr T.fa34_4 rfl) ?_
  refine Wl.q rfl (Qy.load 1 T.one3 rfl rfl rfl) ?_
  refine Wl.call0 rfl T.fn38 rfl (c38 _ _ _ _ _ (by assumption) (by assumption)) ?_
  refine Wl.q rfl (Qy.move rfl) ?_
  refine Wl.q rfl (Qy.extract rfl rfl) ?_
  refine Wl.q rfl (Qy.extract rfl rfl) ?_
  refine Wl.q rfl (Qy.extract rfl rfl) ?_
  refine Wl.q rfl (Qy.assign rfl) ?_
  refine Wl.q rfl (Qy.assign rfl) ?_
  refine Wl.q rfl (Qy.assign rfl) ?_
  refine Wl.done ?_
  refine Ar.next ?_
  refine Wc.seq ?_
  refine Wc.seq ?_
  refine Wc.region rfl ?_
  refine Wl.q rfl (Qy.move rfl) ?_
  refine Wl.q rfl (Qy.not rfl) ?_
  refine Wl.done ?_
  refine Ar.next ?_
  refine Wc.ite rfl (fun hc2 => ?_) (fun hc2 => ?_)
  refine Wc.seq ?_
  refine Wc.region rfl ?_
  refine Wl.q rfl (Qy.build (cs := [_, _, _, _, _]) T.st34 rfl rfl rfl) ?_
  refine Wl.storeAll 2 T.size34 rfl rfl rfl rfl rfl rfl ?_
  refine Wl.q rfl (Qy.assign rfl) ?_
  refine Wl.done ?_
  refine Ar.next ?_
  refine Wc.ret ?_
  refine Ar.passRet ?_
  refine Ar.out2 (.inr rfl) (Ho := Hp.only _ []) rfl (.agg 2 rfl rfl T.agg34) (.tmp rfl) (Hp.sub_only _ _) ?_
  rotate_left
  refine Wc.skip ?_
  refine Ar.next ?_
  refine Wc.seq ?_
  refine Wc.region rfl ?_
  refine Wl.q rfl (Qy.move rfl) ?_
  refine Wl.q rfl (Qy.fieldAddr T.fa34_1 rfl) ?_
  refine Wl.q rfl (Qy.load 1 T.one3 rfl rfl rfl) ?_
  refine Wl.q rfl (Qy.fieldAddr T.fa34_2 rfl) ?_
  refine Wl.q rfl (Qy.load 0 T.one3 rfl rfl rfl) ?_
  refine Wl.q rfl (Qy.move rfl) ?_
  refine Wl.call0 rfl T.fn37 rfl (c37 _ _ _ _ _) ?_
  rotate_left
  · refine ⟨?_, rfl, rfl⟩
    rw [meltP, if_pos (by omega)]; rfl
  · refine ⟨?_, rfl, rfl⟩
    rw [meltP, if_neg (by omega), if_neg (by simpa using hc2)]; rfl
  · have hok : (togP a.op a.c b.op b.c).2.2 = true := by simpa using hc2
    have hcf : constOk (togP a.op a.c b.op b.c).1 (togP a.op a.c b.op b.c).2.1 = true := by
      rcases ht with h | h
      · exact h
      · rw [h] at hok; cases hok
    refine Wl.call0 rfl T.fn23 rfl (c23 _ hT ⟨(togP a.op a.c b.op b.c).1, b.to, a.a, 0, (togP a.op a.c b.op b.c).2.1⟩ (const_fits hcf)) ?_
    refine Wl.storeAll 2 T.size34 rfl rfl rfl rfl rfl rfl ?_
    refine Wl.q rfl (Qy.assign rfl) ?_
    refine Wl.done ?_
    refine Ar.next ?_
    refine Wc.ret ?_
    refine Ar.out2 (.inr rfl) (Ho := Hp.only _ []) rfl (.agg 2 rfl rfl T.agg34) (.tmp rfl) (Hp.sub_only _ _) ?_
    refine ⟨?_, rfl, rfl⟩
    rw [meltP, if_neg (by omega), if_pos hok]
theorem right_one (i : Sl.Instr) : rightP ⟨1, 128, [i], [0]⟩ = mayOk i 128 := by
  unfold rightP checkP badAt headOk
  cases h : mayOk i 128 <;> simp [h]
theorem c28 (G : Imm) (i : Sl.Instr) : Does Tryd.prog 28 [.agg (Cells.enc i).toArray] G [] (fun v G' Ho => v = .bool (decide (mayOk i 128 = true)) ∧ G' = G ∧ Ho = []) := by
  have hr := right_one i
  refine Does.enter Tryd.func28 rfl Tryd.ntmps28 rfl (fun w => ?_)
  refine Wc.seq ?_
  refine Wc.region rfl ?_
  refine Wl.box 0 rfl rfl rfl (fun b1 => ?_)
  refine Wl.q rfl (Qy.assign rfl) ?_
  refine Wl.done ?_
  refine Ar.next ?_
  refine Wc.seq ?_
  refine Wc.region rfl ?_
  refine Wl.q rfl (Qy.loadAll 0 T.agg34 rfl rfl rfl) ?_
  refine Wl.lit (α := Instr) 1 [(i)] rfl T.sl22 T.el34 rfl rfl rfl rfl rfl (fun b2 => ?_)
  refine Wl.lit (α := Int) 2 [(0)] rfl T.sl23 T.el3 rfl rfl rfl rfl rfl (fun b3 => ?_)
  refine Wl.q rfl (Qy.build (cs := [_, _, _, _]) T.st25 rfl rfl rfl) ?_
  refine Wl.callB 5 rfl T.fn22 rfl (fun Gx hGx hgx => c22 Gx ⟨1, 128, [i], [0]⟩ _ _ _ _ (Arr.own hgx 1 rfl (OwnA.made (by simp [maxLen]))) (Arr.own hgx 2 rfl (OwnA.made (by simp [maxLen]))) (by simp) (by simp)) (fun v5 Gx5 G5 Ho5 hlx5 hp => ?_)
  obtain ⟨rfl, rfl, rfl⟩ := hp
  refine Wl.q rfl (Qy.move rfl) ?_
  refine Wl.q rfl (Qy.extract rfl rfl) ?_
  refine Wl.q rfl (Qy.extract rfl rfl) ?_
  refine Wl.q rfl (Qy.assign rfl) ?_
  refine Wl.q rfl (Qy.assign rfl) ?_
  refine Wl.done ?_
  refine Ar.next ?_
  refine Wc.seq ?_
  refine Wc.region rfl ?_
  refine Wl.q rfl (Qy.move rfl) ?_
  refine Wl.q rfl (Qy.eql rfl rfl) ?_
  refine Wl.q rfl (Qy.assign rfl) ?_
  refine Wl.done ?_
  refine Ar.next ?_
  refine Wc.ret ?_
  refine Ar.base (Ar.out1 (.inr rfl) (Ho := []) rfl (.tmp rfl) trivial ?_)
  refine ⟨?_, rfl, rfl⟩
  rw [← hr]
  unfold rightP
  cases (checkP ⟨1, 128, [i], [0]⟩).2 <;> rfl
theorem may_const {i : Sl.Instr} {r : Int} (h : mayOk i r = true) : constOk i.op i.c = true := by
  unfold mayOk at h
  rw [Bool.and_eq_true, Bool.and_eq_true] at h
  exact h.1.2
def zeroI : Sl.Instr := ⟨0, 0, 0, 0, 0⟩
/-- the plain form of any instruction -/
def plainQ (i : Sl.Instr) : Sl.Instr × Bool := if mayOk i 128 = true then (plainP i, decide (plainP i ≠ i)) else (zeroI, false)
def meltQ (a b : Sl.Instr) : Sl.Instr × Bool := if mayOk a 128 = true ∧ mayOk b 128 = true ∧ plainP a = a ∧ plainP b = b then meltP a b else (zeroI, false)
theorem c15 (G : Imm) (hT : TabOk G) (i : Sl.Instr) : Does Tryd.prog 15 [.agg (Cells.enc i).toArray] G [] (fun v G' Ho => v = .tuple #[.agg (Cells.enc (plainQ i).1).toArray, .bool (plainQ i).2] ∧ G' = G ∧ Ho = []) := by
  refine Does.enter Tryd.func15 rfl Tryd.ntmps15 rfl (fun w => ?_)
  refine Wc.seq ?_
  refine Wc.region rfl ?_
  refine Wl.box 0 rfl rfl rfl (fun b1 => ?_)
  refine Wl.alloc 1 rfl T.zero34 (fun b2 => ?_)
  refine Wl.q rfl (Qy.assign rfl) ?_
  refine Wl.done ?_
  refine Ar.next ?_
  refine Wc.seq ?_
  refine Wc.seq ?_
  refine Wc.region rfl ?_
  refine Wl.q rfl (Qy.loadAll 0 T.agg34 rfl rfl rfl) ?_
  refine Wl.call0 rfl T.fn28 rfl (c28 _ _) ?_
  refine Wl.q rfl (Qy.notD rfl) ?_
  refine Wl.done ?_
  refine Ar.next ?_
  refine Wc.cond rfl (fun hc1 => ?_) (fun hc1 => ?_)
  refine Wc.seq ?_
  refine Wc.region rfl ?_
  refine Wl.q rfl (Qy.build (cs := [_, _, _, _, _]) T.st34 rfl rfl rfl) ?_
  refine Wl.storeAll 1 T.size34 rfl rfl rfl rfl rfl rfl ?_
  refine Wl.q rfl (Qy.assign rfl) ?_
  refine Wl.done ?_
  refine Ar.next ?_
  refine Wc.ret ?_
  refine Ar.passRet ?_
  refine Ar.out2 (.inr rfl) (Ho := Hp.only _ []) rfl (.agg 1 rfl rfl T.agg34) (.tmp rfl) (Hp.sub_only _ _) ?_
  rotate_left
  refine Wc.skip ?_
  refine Ar.next ?_
  refine Wc.seq ?_
  refine Wc.region rfl ?_
  refine Wl.q rfl (Qy.loadAll 0 T.agg34 rfl rfl rfl) ?_
  rotate_left
  · refine ⟨?_, rfl, rfl⟩
    rw [plainQ, if_neg hc1]; rfl
  · have hm : mayOk i 128 = true := Decidable.not_not.1 hc1
    refine Wl.call0 rfl T.fn23 rfl (c23 _ hT i (const_fits (may_const hm))) ?_
    refine Wl.alloc 2 rfl T.zero34 (fun b3 => ?_)
    refine Wl.storeAll 2 T.size34 rfl rfl rfl rfl rfl rfl ?_
    refine Wl.done ?_
    refine Ar.next ?_
    refine Wc.seq ?_
    refine Wc.draw [0, 1, 2] [(1, 4)] T.mixed rfl ?_
    refine Gm.q 0 [2] (by kernel_rfl) rfl rfl (Qy.loadAll 2 T.agg34 rfl rfl rfl) ?_
    refine Gm.q 1 [2] (by kernel_rfl) rfl rfl (Qy.loadAll 2 T.agg34 rfl rfl rfl) ?_
    refine Gm.q 2 [0] (by kernel_rfl) rfl rfl (Qy.loadAll 0 T.agg34 rfl rfl rfl) ?_
    refine Gm.q 3 [] (by kernel_rfl) rfl rfl (Qy.neqInstr T.ai34 rfl rfl) ?_
    refine Gm.one 4 ⟨rfl, rfl, rfl, trivial⟩ (by first | exact Imm.le_refl _ | assumption) (by kernel_rfl) rfl ?_
    refine Wl.storeAll 1 T.size34 rfl rfl rfl rfl rfl rfl ?_
    refine Wl.on0 ?_
    refine Gm.q 5 [] (by kernel_rfl) rfl rfl (Qy.assign rfl) ?_
    refine Gm.doneA (by kernel_rfl) ⟨rfl, rfl, trivial⟩ (by first | exact Imm.le_refl _ | assumption) ?_
    refine Ar.next ?_
    refine Wc.ret ?_
    refine Ar.out2 (.inr rfl) (Ho := Hp.only _ []) rfl (.agg 1 rfl rfl T.agg34) (.tmp rfl) (Hp.sub_only _ _) ?_
    refine ⟨?_, rfl, rfl⟩
    rw [plainQ, if_pos hm]
theorem c16 (G : Imm) (hT : TabOk G) (a b : Sl.Instr) : Does Tryd.prog 16 [.agg (Cells.enc a).toArray, .agg (Cells.enc b).toArray] G [] (fun v G' Ho => v = .tuple #[.agg (Cells.enc (meltQ a b).1).toArray, .bool (meltQ a b).2] ∧ G' = G ∧ Ho = []) := by
  refine Does.enter Tryd.func16 rfl Tryd.ntmps16 rfl (fun w => ?_)
  refine Wc.seq ?_
  refine Wc.region rfl ?_
  refine Wl.box 0 rfl rfl rfl (fun b1 => ?_)
  refine Wl.box 1 rfl rfl rfl (fun b2 => ?_)
  refine Wl.alloc 2 rfl T.zero34 (fun b3 => ?_)
  refine Wl.q rfl (Qy.assign rfl) ?_
  refine Wl.done ?_
  refine Ar.next ?_
  refine Wc.seq ?_
  refine Wc.seq ?_
  refine Wc.draw [0, 1, 2] [] T.mixed rfl ?_
  refine Gm.q 0 [0] (by kernel_rfl) rfl rfl (Qy.loadAll 0 T.agg34 rfl rfl rfl) ?_
  refine Gm.one 1 ⟨rfl, rfl, rfl, trivial⟩ (by first | exact Imm.le_refl _ | assumption) (by kernel_rfl) rfl ?_
  refine Wl.call0 rfl T.fn28 rfl (c28 _ _) ?_
  refine Wl.on0 ?_
  refine Gm.q 2 [] (by kernel_rfl) rfl rfl (Qy.notD rfl) ?_
  refine Gm.q 3 [] (by kernel_rfl) rfl rfl (Qy.move rfl) ?_
  refine Gm.cases 9 rfl (fun hg1 => ?_) (fun hg1 => ?_)
  refine Gm.qNo 4 (by kernel_rfl) rfl rfl rfl rfl ?_
  refine Gm.qNo 5 (by kernel_rfl) rfl rfl rfl rfl ?_
  refine Gm.qNo 6 (by kernel_rfl) rfl rfl rfl rfl ?_
  refine Gm.q 7 [] (by kernel_rfl) rfl rfl (Qy.pick rfl rfl) ?_
  refine Gm.q 8 [] (by kernel_rfl) rfl rfl (Qy.move rfl) ?_
  refine Gm.qNo 9 (by kernel_rfl) rfl rfl rfl rfl ?_
  refine Gm.qNo 10 (by kernel_rfl) rfl rfl rfl rfl ?_
  refine Gm.qNo 11 (by kernel_rfl) rfl rfl rfl rfl ?_
  refine Gm.qNo 12 (by kernel_rfl) rfl rfl rfl rfl ?_
  refine Gm.q 13 [] (by kernel_rfl) rfl rfl (Qy.pick rfl rfl) ?_
  refine Gm.q 14 [] (by kernel_rfl) rfl rfl (Qy.move rfl) ?_
  refine Gm.qNo 15 (by kernel_rfl) rfl rfl rfl rfl ?_
  refine Gm.qNo 16 (by kernel_rfl) rfl rfl rfl rfl ?_
  refine Gm.qNo 17 (by kernel_rfl) rfl rfl rfl rfl ?_
  refine Gm.qNo 18 (by kernel_rfl) rfl rfl rfl rfl ?_
  refine Gm.q 19 [] (by kernel_rfl) rfl rfl (Qy.pick rfl rfl) ?_
  refine Gm.doneA (by kernel_rfl) ⟨rfl, rfl, rfl, trivial⟩ (by first | exact Imm.le_refl _ | assumption) ?_
  refine Ar.next ?_
  refine Wc.condT rfl ?_
  refine Wc.seq ?_
  refine Wc.region rfl ?_
  refine Wl.q rfl (Qy.build (cs := [_, _, _, _, _]) T.st34 rfl rfl rfl) ?_
  refine Wl.storeAll 2 T.size34 rfl rfl rfl rfl rfl rfl ?_
  refine Wl.q rfl (Qy.assign rfl) ?_
  refine Wl.done ?_
  refine Ar.next ?_
  refine Wc.ret ?_
  refine Ar.passRet ?_
  refine Ar.out2 (.inr rfl) (Ho := Hp.only _ []) rfl (.agg 2 rfl rfl T.agg34) (.tmp rfl) (Hp.sub_only _ _) ?_
  rotate_left
  refine Gm.qYes 4 [1] (by kernel_rfl) rfl rfl rfl rfl (Qy.loadAll 1 T.agg34 rfl rfl rfl) ?_
  refine Gm.one 5 ⟨rfl, rfl, rfl, trivial⟩ (by first | exact Imm.le_refl _ | assumption) (by kernel_rfl) rfl ?_
  refine Wl.want rfl rfl ?_
  refine Wl.call0 rfl T.fn28 rfl (c28 _ _) ?_
  refine Wl.on0 ?_
  refine Gm.qYes 6 [] (by kernel_rfl) rfl rfl rfl rfl (Qy.notD rfl) ?_
  refine Gm.q 7 [] (by kernel_rfl) rfl rfl (Qy.pick rfl rfl) ?_
  refine Gm.q 8 [] (by kernel_rfl) rfl rfl (Qy.move rfl) ?_
  refine Gm.cases 14 rfl (fun hg2 => ?_) (fun hg2 => ?_)
  refine Gm.qNo 9 (by kernel_rfl) rfl rfl rfl rfl ?_
  refine Gm.qNo 10 (by kernel_rfl) rfl rfl rfl rfl ?_
  refine Gm.qNo 11 (by kernel_rfl) rfl rfl rfl rfl ?_
  refine Gm.qNo 12 (by kernel_rfl) rfl rfl rfl rfl ?_
  refine Gm.q 13 [] (by kernel_rfl) rfl rfl (Qy.pick rfl rfl) ?_
  refine Gm.q 14 [] (by kernel_rfl) rfl rfl (Qy.move rfl) ?_
  refine Gm.qNo 15 (by kernel_rfl) rfl rfl rfl rfl ?_
  refine Gm.qNo 16 (by kernel_rfl) rfl rfl rfl rfl ?_
  refine Gm.qNo 17 (by kernel_rfl) rfl rfl rfl rfl ?_
  refine Gm.qNo 18 (by kernel_rfl) rfl rfl rfl rfl ?_
  refine Gm.q 19 [] (by kernel_rfl) rfl rfl (Qy.pick rfl rfl) ?_
  refine Gm.doneA (by kernel_rfl) ⟨rfl, rfl, rfl, trivial⟩ (by first | exact Imm.le_refl _ | assumption) ?_
  refine Ar.next ?_
  refine Wc.condT rfl ?_
  refine Wc.seq ?_
  refine Wc.region rfl ?_
  refine Wl.q rfl (Qy.build (cs := [_, _, _, _, _]) T.st34 rfl rfl rfl) ?_
  refine Wl.storeAll 2 T.size34 rfl rfl rfl rfl rfl rfl ?_
  refine Wl.q rfl (Qy.assign rfl) ?_
  refine Wl.done ?_
  refine Ar.next ?_
  refine Wc.ret ?_
  refine Ar.passRet ?_
  refine Ar.out2 (.inr rfl) (Ho := Hp.only _ []) rfl (.agg 2 rfl rfl T.agg34) (.tmp rfl) (Hp.sub_only _ _) ?_
  rotate_left
  refine Gm.qYes 9 [0] (by kernel_rfl) rfl rfl rfl rfl (Qy.loadAll 0 T.agg34 rfl rfl rfl) ?_
  refine Gm.qYes 11 [0] (by kernel_rfl) rfl rfl rfl rfl (Qy.loadAll 0 T.agg34 rfl rfl rfl) ?_
  refine Gm.one 10 ⟨rfl, rfl, rfl, trivial⟩ (by first | exact Imm.le_refl _ | assumption) (by kernel_rfl) rfl ?_
  refine Wl.want rfl rfl ?_
  rotate_left
  · refine ⟨?_, rfl, rfl⟩
    rw [meltQ, if_neg (fun h => hg1 h.1)]; rfl
  · refine ⟨?_, rfl, rfl⟩
    rw [meltQ, if_neg (fun h => hg2 h.2.1)]; rfl
  have h1 : mayOk a 128 = true := Decidable.not_not.1 hg1
  have h2 : mayOk b 128 = true := Decidable.not_not.1 hg2
  have k1 := may_const h1
  have k2 := may_const h2
  refine Wl.call0 rfl T.fn23 rfl (c23 _ hT a (const_fits k1)) ?_
  refine Wl.on0 ?_
  refine Gm.qYes 12 [] (by kernel_rfl) rfl rfl rfl rfl (Qy.neqInstr T.ai34 rfl rfl) ?_
  refine Gm.q 13 [] (by kernel_rfl) rfl rfl (Qy.pick rfl rfl) ?_
  refine Gm.q 14 [] (by kernel_rfl) rfl rfl (Qy.move rfl) ?_
  refine Gm.cases 20 rfl (fun hg3 => ?_) (fun hg3 => ?_)
  refine Gm.qNo 15 (by kernel_rfl) rfl rfl rfl rfl ?_
  refine Gm.qNo 16 (by kernel_rfl) rfl rfl rfl rfl ?_
  refine Gm.qNo 17 (by kernel_rfl) rfl rfl rfl rfl ?_
  refine Gm.qNo 18 (by kernel_rfl) rfl rfl rfl rfl ?_
  refine Gm.q 19 [] (by kernel_rfl) rfl rfl (Qy.pick rfl rfl) ?_
  refine Gm.doneA (by kernel_rfl) ⟨rfl, rfl, rfl, trivial⟩ (by first | exact Imm.le_refl _ | assumption) ?_
  refine Ar.next ?_
  refine Wc.condT rfl ?_
  refine Wc.seq ?_
  refine Wc.region rfl ?_
  refine Wl.q rfl (Qy.build (cs := [_, _, _, _, _]) T.st34 rfl rfl rfl) ?_
  refine Wl.storeAll 2 T.size34 rfl rfl rfl rfl rfl rfl ?_
  refine Wl.q rfl (Qy.assign rfl) ?_
  refine Wl.done ?_
  refine Ar.next ?_
  refine Wc.ret ?_
  refine Ar.passRet ?_
  refine Ar.out2 (.inr rfl) (Ho := Hp.only _ []) rfl (.agg 2 rfl rfl T.agg34) (.tmp rfl) (Hp.sub_only _ _) ?_
  rotate_left
  refine Gm.qYes 15 [1] (by kernel_rfl) rfl rfl rfl rfl (Qy.loadAll 1 T.agg34 rfl rfl rfl) ?_
  refine Gm.qYes 17 [1] (by kernel_rfl) rfl rfl rfl rfl (Qy.loadAll 1 T.agg34 rfl rfl rfl) ?_
  refine Gm.one 16 ⟨rfl, rfl, rfl, trivial⟩ (by first | exact Imm.le_refl _ | assumption) (by kernel_rfl) rfl ?_
  refine Wl.want rfl rfl ?_
  rotate_left
  · refine ⟨?_, rfl, rfl⟩
    rw [meltQ, if_neg (fun h => hg3 h.2.2.1)]; rfl
  have h3 : plainP a = a := Decidable.not_not.1 hg3
  refine Wl.call0 rfl T.fn23 rfl (c23 _ hT b (const_fits k2)) ?_
  refine Wl.on0 ?_
  refine Gm.qYes 18 [] (by kernel_rfl) rfl rfl rfl rfl (Qy.neqInstr T.ai34 rfl rfl) ?_
  refine Gm.q 19 [] (by kernel_rfl) rfl rfl (Qy.pick rfl rfl) ?_
  refine Gm.doneA (by kernel_rfl) ⟨rfl, rfl, rfl, trivial⟩ (by first | exact Imm.le_refl _ | assumption) ?_
  refine Ar.next ?_
  refine Wc.cond rfl (fun hc1 => ?_) (fun hc1 => ?_)
  refine Wc.seq ?_
  refine Wc.region rfl ?_
  refine Wl.q rfl (Qy.build (cs := [_, _, _, _, _]) T.st34 rfl rfl rfl) ?_
  refine Wl.storeAll 2 T.size34 rfl rfl rfl rfl rfl rfl ?_
  refine Wl.q rfl (Qy.assign rfl) ?_
  refine Wl.done ?_
  refine Ar.next ?_
  refine Wc.ret ?_
  refine Ar.passRet ?_
  refine Ar.out2 (.inr rfl) (Ho := Hp.only _ []) rfl (.agg 2 rfl rfl T.agg34) (.tmp rfl) (Hp.sub_only _ _) ?_
  rotate_left
  refine Wc.skip ?_
  refine Ar.next ?_
  refine Wc.seq ?_
  refine Wc.region rfl ?_
  refine Wl.q rfl (Qy.loadAll 0 T.agg34 rfl rfl rfl) ?_
  refine Wl.q rfl (Qy.loadAll 1 T.agg34 rfl rfl rfl) ?_
  refine Wl.call0 rfl T.fn24 rfl (c24 _ (by assumption) _ _ (by assumption) (by assumption)) ?_
  refine Wl.q rfl (Qy.extract rfl rfl) ?_
  refine Wl.q rfl (Qy.extract rfl rfl) ?_
  refine Wl.storeAll 2 T.size34 rfl rfl rfl rfl rfl rfl ?_
  refine Wl.q rfl (Qy.assign rfl) ?_
  refine Wl.done ?_
  refine Ar.next ?_
  refine Wc.ret ?_
  refine Ar.out2 (.inr rfl) (Ho := Hp.only _ []) rfl (.agg 2 rfl rfl T.agg34) (.tmp rfl) (Hp.sub_only _ _) ?_
  rotate_left
  · refine ⟨?_, rfl, rfl⟩
    rw [meltQ, if_neg (fun h => hc1 h.2.2.2)]; rfl
  · refine ⟨?_, rfl, rfl⟩
    rw [meltQ, if_pos ⟨h1, h2, h3, Decidable.not_not.1 hc1⟩]
end Go.Proofs.YtfleehgbpgmcnaaDoor
