import Derived.Test.YtfleehgbpgmcnaaDoorSlP
import Derived.Test.YtfleehgbpgmcnaaDoorAi
import Derived.Test.YtfleehgbpgmcnaaDoorAj
set_option maxRecDepth 100000
namespace Go.Proofs.YtfleehgbpgmcnaaDoor
open Go Go.Sl

set_option maxHeartbeats 4000000
def exW : PV := ⟨1, 2, [⟨5, 1, 0, 0, 4⟩, ⟨6, 1, 1, 0, 2⟩, ⟨6, 1, 1, 0, -2⟩, ⟨2, 1, 1, 0, 0⟩], [1]⟩
def exW2 : PV := ⟨1, 2, [⟨1, 1, 0, 0, 0⟩], [1]⟩
theorem exW_right : rightP exW = true := by decide
theorem exW_fold : foldE exW = exW2 := by rw [foldE, if_pos exW_right]; rfl
theorem exW_err : errP exW = 0 := if_pos exW_right
theorem exW_plain : plainQ ⟨5, 1, 0, 0, 8⟩ = (⟨7, 1, 0, 0, 3⟩, true) := by decide
attribute [local irreducible] plainP meltP pushL foldTo foldP foldE errP rightP plainQ meltQ
theorem c7 (G : Imm) (hT : TabOk G) : Does Tryd.prog 7 [] G [] (fun v G' Ho => v = .bool true ∧ G' = G ∧ Ho = []) := by
  have hf := exW_fold
  have he := exW_err
  have hp := exW_plain
  refine Does.enter Tryd.func7 rfl Tryd.ntmps7 rfl (fun w => ?_)
  refine Wc.seq ?_
  refine Wc.region rfl ?_
  refine Wl.q rfl (Qy.assign rfl) ?_
  refine Wl.done ?_
  refine Ar.next ?_
  refine Wc.seq ?_
  refine Wc.region rfl ?_
  refine Wl.call0 rfl T.fn14 rfl (c14 _ _ _ _ _) ?_
  refine Wl.call0 rfl T.fn14 rfl (c14 _ _ _ _ _) ?_
  refine Wl.call0 rfl T.fn14 rfl (c14 _ _ _ _ _) ?_
  refine Wl.call0 rfl T.fn14 rfl (c14 _ _ _ _ _) ?_
  refine Wl.lit (α := Instr) 0 [(Go.Sl.Instr.mk 5 1 0 0 4), (Go.Sl.Instr.mk 6 1 1 0 2), (Go.Sl.Instr.mk 6 1 1 0 (-2)), (Go.Sl.Instr.mk 2 1 1 0 0)] rfl T.sl22 T.el34 rfl rfl rfl rfl rfl (fun b1 => ?_)
  refine Wl.lit (α := Int) 1 [(1)] rfl T.sl23 T.el3 rfl rfl rfl rfl rfl (fun b2 => ?_)
  refine Wl.q rfl (Qy.build (cs := [_, _, _, _]) T.st25 rfl rfl rfl) ?_
  refine Wl.alloc 2 rfl T.zero25 (fun b3 => ?_)
  refine Wl.storeAll 2 T.size25 rfl rfl rfl rfl rfl rfl ?_
  refine Wl.done ?_
  refine Ar.next ?_
  refine Wc.seq ?_
  refine Wc.region rfl ?_
  refine Wl.q rfl (Qy.loadAll 2 T.agg25 rfl rfl rfl) ?_
  refine Wl.freezeRow 0 rfl (OwnA.made (by simp [maxLen])) (fun G1 hle1 hA1 => Wl.freezeRow 1 rfl (OwnA.made (by simp [maxLen])) (fun G2 hle2 hA2 => ?_))
  replace hA1 := hA1.up hle2
  replace hT := (hT.up hle1).up hle2
  refine Wl.call 20 rfl T.fn10 rfl (c10F _ hT exW _ _ _ _ hA1 hA2 (by decide) (by decide)) (tags_of trivial) (fun v3 G3 Ho3 hle3 hp => ?_)
  obtain ⟨_, _, qc3, qo3, qcc3, qoc3, rfl, ⟨rfl, rfl⟩, hqc3, hqo3, rfl⟩ := hp
  replace hT := hT.up hle3
  refine Wl.q rfl (Qy.move rfl) ?_
  refine Wl.q rfl (Qy.extract rfl rfl) ?_
  refine Wl.q rfl (Qy.extract rfl rfl) ?_
  refine Wl.alloc 3 rfl T.zero25 (fun b4 => ?_)
  refine Wl.storeAll 3 T.size25 rfl rfl rfl rfl rfl rfl ?_
  refine Wl.q rfl (Qy.assign rfl) ?_
  refine Wl.done ?_
  refine Ar.next ?_
  refine Wc.seq ?_
  refine Wc.region rfl ?_
  refine Wl.call0 rfl T.fn14 rfl (c14 _ _ _ _ _) ?_
  refine Wl.call0 rfl T.fn15 rfl (c15 _ (by assumption) _) ?_
  refine Wl.q rfl (Qy.move rfl) ?_
  refine Wl.q rfl (Qy.extract rfl rfl) ?_
  refine Wl.q rfl (Qy.extract rfl rfl) ?_
  refine Wl.alloc 4 rfl T.zero34 (fun b5 => ?_)
  refine Wl.storeAll 4 T.size34 rfl rfl rfl rfl rfl rfl ?_
  refine Wl.q rfl (Qy.assign rfl) ?_
  refine Wl.done ?_
  refine Ar.next ?_
  refine Wc.seq ?_
  refine Wc.draw [2, 3, 4] [] T.mixed rfl ?_
  refine Gm.q 0 [] (by kernel_rfl) rfl rfl (Qy.move rfl) ?_
  refine Gm.q 1 [] (by kernel_rfl) rfl rfl (Qy.eql rfl rfl) ?_
  refine Gm.q 2 [] (by kernel_rfl) rfl rfl (Qy.move rfl) ?_
  refine Gm.yes 25 rfl (by first | assumption | omega) ?_
  refine Gm.qYes 3 [3] (by kernel_rfl) rfl rfl rfl rfl (Qy.loadAll 3 T.agg25 rfl rfl rfl) ?_
  refine Gm.two 4 6 ⟨rfl, rfl, rfl, trivial⟩ (by first | exact Imm.le_refl _ | assumption) (by kernel_rfl) rfl rfl ?_ ?_
  refine Wl.want rfl rfl ?_
  refine Wl.call0 rfl T.fn14 rfl (c14 _ _ _ _ _) ?_
  refine Wl.on0 ?_
  refine Gm.two 5 6 ⟨rfl, rfl, rfl, trivial⟩ (by first | exact Imm.le_refl _ | assumption) (by kernel_rfl) rfl rfl ?_ ?_
  refine Wl.want rfl rfl ?_
  refine Wl.lit (α := Instr) 5 [(Go.Sl.Instr.mk 1 1 0 0 0)] rfl T.sl22 T.el34 rfl rfl rfl rfl rfl (fun b6 => ?_)
  refine Wl.on0 ?_
  refine Gm.one 6 ⟨rfl, rfl, rfl, trivial⟩ (by first | exact Imm.le_refl _ | assumption) (by kernel_rfl) rfl ?_
  refine Wl.want rfl rfl ?_
  refine Wl.lit (α := Int) 6 [(1)] rfl T.sl23 T.el3 rfl rfl rfl rfl rfl (fun b7 => ?_)
  refine Wl.on0 ?_
  refine Gm.qYes 7 [] (by kernel_rfl) rfl rfl rfl rfl (Qy.build (cs := [_, _, _, _]) T.st25 rfl rfl rfl) ?_
  refine Gm.one 8 ⟨rfl, rfl, rfl, trivial⟩ (by first | exact Imm.le_refl _ | assumption) (by kernel_rfl) rfl ?_
  refine Wl.want rfl rfl ?_
  rotate_left
  refine Wl.want rfl rfl ?_
  refine Wl.lit (α := Int) 5 [(1)] rfl T.sl23 T.el3 rfl rfl rfl rfl rfl (fun b6 => ?_)
  refine Wl.on0 ?_
  refine Gm.one 5 ⟨rfl, rfl, rfl, trivial⟩ (by first | exact Imm.le_refl _ | assumption) (by kernel_rfl) rfl ?_
  refine Wl.want rfl rfl ?_
  refine Wl.lit (α := Instr) 6 [(Go.Sl.Instr.mk 1 1 0 0 0)] rfl T.sl22 T.el34 rfl rfl rfl rfl rfl (fun b7 => ?_)
  refine Wl.on0 ?_
  refine Gm.qYes 7 [] (by kernel_rfl) rfl rfl rfl rfl (Qy.build (cs := [_, _, _, _]) T.st25 rfl rfl rfl) ?_
  refine Gm.one 8 ⟨rfl, rfl, rfl, trivial⟩ (by first | exact Imm.le_refl _ | assumption) (by kernel_rfl) rfl ?_
  refine Wl.want rfl rfl ?_
  rotate_left
  refine Wl.want rfl rfl ?_
  refine Wl.lit (α := Int) 5 [(1)] rfl T.sl23 T.el3 rfl rfl rfl rfl rfl (fun b6 => ?_)
  refine Wl.on0 ?_
  refine Gm.one 4 ⟨rfl, rfl, rfl, trivial⟩ (by first | exact Imm.le_refl _ | assumption) (by kernel_rfl) rfl ?_
  refine Wl.want rfl rfl ?_
  refine Wl.call0 rfl T.fn14 rfl (c14 _ _ _ _ _) ?_
  refine Wl.on0 ?_
  refine Gm.one 5 ⟨rfl, rfl, rfl, trivial⟩ (by first | exact Imm.le_refl _ | assumption) (by kernel_rfl) rfl ?_
  refine Wl.want rfl rfl ?_
  refine Wl.lit (α := Instr) 6 [(Go.Sl.Instr.mk 1 1 0 0 0)] rfl T.sl22 T.el34 rfl rfl rfl rfl rfl (fun b7 => ?_)
  refine Wl.on0 ?_
  refine Gm.qYes 7 [] (by kernel_rfl) rfl rfl rfl rfl (Qy.build (cs := [_, _, _, _]) T.st25 rfl rfl rfl) ?_
  refine Gm.one 8 ⟨rfl, rfl, rfl, trivial⟩ (by first | exact Imm.le_refl _ | assumption) (by kernel_rfl) rfl ?_
  refine Wl.want rfl rfl ?_
  rotate_left
  · refine Wl.callB 30 rfl T.fn11 rfl (fun Gx hGx hgx => c11 Gx (foldE exW) exW2 _ _ _ _ _ _ _ _ (hqc3.up hGx) (hqo3.up hGx) (Arr.own hgx 5 rfl (OwnA.made (by simp [maxLen, exW2]))) (Arr.own hgx 6 rfl (OwnA.made (by simp [maxLen, exW2]))) (by rw [hf]; decide) (by rw [hf]; decide)) (fun v5 Gx5 G5 Ho5 hlx5 hp5 => ?_)
    obtain ⟨rfl, rfl, rfl⟩ := hp5
    refine Wl.on0 ?_
    refine Gm.q 9 [] (by kernel_rfl) rfl rfl (Qy.pick rfl rfl) ?_
    refine Gm.q 10 [] (by kernel_rfl) rfl rfl (Qy.move rfl) ?_
    refine Gm.yes 33 rfl (by first | assumption | omega) ?_
    refine Gm.qYes 11 [] (by kernel_rfl) rfl rfl rfl rfl (Qy.move rfl) ?_
    refine Gm.q 12 [] (by kernel_rfl) rfl rfl (Qy.pick rfl rfl) ?_
    refine Gm.q 13 [] (by kernel_rfl) rfl rfl (Qy.move rfl) ?_
    refine Gm.casesB 36 rfl (fun hg1 => ?_) (fun hg1 => ?_)
    refine Gm.qYes 14 [4] (by kernel_rfl) rfl rfl rfl rfl (Qy.loadAll 4 T.agg34 rfl rfl rfl) ?_
    refine Gm.one 15 ⟨rfl, rfl, rfl, trivial⟩ (by first | exact Imm.le_refl _ | assumption) (by kernel_rfl) rfl ?_
    refine Wl.want rfl rfl ?_
    refine Wl.call0 rfl T.fn14 rfl (c14 _ _ _ _ _) ?_
    refine Wl.on0 ?_
    refine Gm.qYes 16 [] (by kernel_rfl) rfl rfl rfl rfl (Qy.eqlInstr T.ai34 rfl rfl) ?_
    refine Gm.q 17 [] (by kernel_rfl) rfl rfl (Qy.pick rfl rfl) ?_
    refine Gm.q 18 [] (by kernel_rfl) rfl rfl (Qy.assign rfl) ?_
    refine Gm.doneA (by kernel_rfl) ⟨rfl, rfl, rfl, trivial⟩ (by first | exact Imm.le_refl _ | assumption) ?_
    refine Ar.next ?_
    refine Wc.ret ?_
    rotate_left
    refine Gm.qNo 14 (by kernel_rfl) rfl rfl rfl rfl ?_
    refine Gm.qNo 15 (by kernel_rfl) rfl rfl rfl rfl ?_
    refine Gm.qNo 16 (by kernel_rfl) rfl rfl rfl rfl ?_
    refine Gm.q 17 [] (by kernel_rfl) rfl rfl (Qy.pick rfl rfl) ?_
    refine Gm.q 18 [] (by kernel_rfl) rfl rfl (Qy.assign rfl) ?_
    refine Gm.doneA (by kernel_rfl) ⟨rfl, rfl, rfl, trivial⟩ (by first | exact Imm.le_refl _ | assumption) ?_
    refine Ar.next ?_
    refine Wc.ret ?_
    rotate_left
    all_goals refine Ar.base (Ar.out1 (.inr rfl) (Ho := []) rfl (.tmp rfl) trivial ?_)
    all_goals first
      | exact ⟨by simp_all, rfl, rfl⟩
      | (exfalso; simp_all)
  · refine Wl.callB 30 rfl T.fn11 rfl (fun Gx hGx hgx => c11 Gx (foldE exW) exW2 _ _ _ _ _ _ _ _ (hqc3.up hGx) (hqo3.up hGx) (Arr.own hgx 6 rfl (OwnA.made (by simp [maxLen, exW2]))) (Arr.own hgx 5 rfl (OwnA.made (by simp [maxLen, exW2]))) (by rw [hf]; decide) (by rw [hf]; decide)) (fun v5 Gx5 G5 Ho5 hlx5 hp5 => ?_)
    obtain ⟨rfl, rfl, rfl⟩ := hp5
    refine Wl.on0 ?_
    refine Gm.q 9 [] (by kernel_rfl) rfl rfl (Qy.pick rfl rfl) ?_
    refine Gm.q 10 [] (by kernel_rfl) rfl rfl (Qy.move rfl) ?_
    refine Gm.yes 33 rfl (by first | assumption | omega) ?_
    refine Gm.qYes 11 [] (by kernel_rfl) rfl rfl rfl rfl (Qy.move rfl) ?_
    refine Gm.q 12 [] (by kernel_rfl) rfl rfl (Qy.pick rfl rfl) ?_
    refine Gm.q 13 [] (by kernel_rfl) rfl rfl (Qy.move rfl) ?_
    refine Gm.casesB 36 rfl (fun hg1 => ?_) (fun hg1 => ?_)
    refine Gm.qYes 14 [4] (by kernel_rfl) rfl rfl rfl rfl (Qy.loadAll 4 T.agg34 rfl rfl rfl) ?_
    refine Gm.one 15 ⟨rfl, rfl, rfl, trivial⟩ (by first | exact Imm.le_refl _ | assumption) (by kernel_rfl) rfl ?_
    refine Wl.want rfl rfl ?_
    refine Wl.call0 rfl T.fn14 rfl (c14 _ _ _ _ _) ?_
    refine Wl.on0 ?_
    refine Gm.qYes 16 [] (by kernel_rfl) rfl rfl rfl rfl (Qy.eqlInstr T.ai34 rfl rfl) ?_
    refine Gm.q 17 [] (by kernel_rfl) rfl rfl (Qy.pick rfl rfl) ?_
    refine Gm.q 18 [] (by kernel_rfl) rfl rfl (Qy.assign rfl) ?_
    refine Gm.doneA (by kernel_rfl) ⟨rfl, rfl, rfl, trivial⟩ (by first | exact Imm.le_refl _ | assumption) ?_
    refine Ar.next ?_
    refine Wc.ret ?_
    rotate_left
    refine Gm.qNo 14 (by kernel_rfl) rfl rfl rfl rfl ?_
    refine Gm.qNo 15 (by kernel_rfl) rfl rfl rfl rfl ?_
    refine Gm.qNo 16 (by kernel_rfl) rfl rfl rfl rfl ?_
    refine Gm.q 17 [] (by kernel_rfl) rfl rfl (Qy.pick rfl rfl) ?_
    refine Gm.q 18 [] (by kernel_rfl) rfl rfl (Qy.assign rfl) ?_
    refine Gm.doneA (by kernel_rfl) ⟨rfl, rfl, rfl, trivial⟩ (by first | exact Imm.le_refl _ | assumption) ?_
    refine Ar.next ?_
    refine Wc.ret ?_
    rotate_left
    all_goals refine Ar.base (Ar.out1 (.inr rfl) (Ho := []) rfl (.tmp rfl) trivial ?_)
    all_goals first
      | exact ⟨by simp_all, rfl, rfl⟩
      | (exfalso; simp_all)
  · refine Wl.callB 30 rfl T.fn11 rfl (fun Gx hGx hgx => c11 Gx (foldE exW) exW2 _ _ _ _ _ _ _ _ (hqc3.up hGx) (hqo3.up hGx) (Arr.own hgx 6 rfl (OwnA.made (by simp [maxLen, exW2]))) (Arr.own hgx 5 rfl (OwnA.made (by simp [maxLen, exW2]))) (by rw [hf]; decide) (by rw [hf]; decide)) (fun v5 Gx5 G5 Ho5 hlx5 hp5 => ?_)
    obtain ⟨rfl, rfl, rfl⟩ := hp5
    refine Wl.on0 ?_
    refine Gm.q 9 [] (by kernel_rfl) rfl rfl (Qy.pick rfl rfl) ?_
    refine Gm.q 10 [] (by kernel_rfl) rfl rfl (Qy.move rfl) ?_
    refine Gm.yes 33 rfl (by first | assumption | omega) ?_
    refine Gm.qYes 11 [] (by kernel_rfl) rfl rfl rfl rfl (Qy.move rfl) ?_
    refine Gm.q 12 [] (by kernel_rfl) rfl rfl (Qy.pick rfl rfl) ?_
    refine Gm.q 13 [] (by kernel_rfl) rfl rfl (Qy.move rfl) ?_
    refine Gm.casesB 36 rfl (fun hg1 => ?_) (fun hg1 => ?_)
    refine Gm.qYes 14 [4] (by kernel_rfl) rfl rfl rfl rfl (Qy.loadAll 4 T.agg34 rfl rfl rfl) ?_
    refine Gm.one 15 ⟨rfl, rfl, rfl, trivial⟩ (by first | exact Imm.le_refl _ | assumption) (by kernel_rfl) rfl ?_
    refine Wl.want rfl rfl ?_
    refine Wl.call0 rfl T.fn14 rfl (c14 _ _ _ _ _) ?_
    refine Wl.on0 ?_
    refine Gm.qYes 16 [] (by kernel_rfl) rfl rfl rfl rfl (Qy.eqlInstr T.ai34 rfl rfl) ?_
    refine Gm.q 17 [] (by kernel_rfl) rfl rfl (Qy.pick rfl rfl) ?_
    refine Gm.q 18 [] (by kernel_rfl) rfl rfl (Qy.assign rfl) ?_
    refine Gm.doneA (by kernel_rfl) ⟨rfl, rfl, rfl, trivial⟩ (by first | exact Imm.le_refl _ | assumption) ?_
    refine Ar.next ?_
    refine Wc.ret ?_
    rotate_left
    refine Gm.qNo 14 (by kernel_rfl) rfl rfl rfl rfl ?_
    refine Gm.qNo 15 (by kernel_rfl) rfl rfl rfl rfl ?_
    refine Gm.qNo 16 (by kernel_rfl) rfl rfl rfl rfl ?_
    refine Gm.q 17 [] (by kernel_rfl) rfl rfl (Qy.pick rfl rfl) ?_
    refine Gm.q 18 [] (by kernel_rfl) rfl rfl (Qy.assign rfl) ?_
    refine Gm.doneA (by kernel_rfl) ⟨rfl, rfl, rfl, trivial⟩ (by first | exact Imm.le_refl _ | assumption) ?_
    refine Ar.next ?_
    refine Wc.ret ?_
    rotate_left
    all_goals refine Ar.base (Ar.out1 (.inr rfl) (Ho := []) rfl (.tmp rfl) trivial ?_)
    all_goals first
      | exact ⟨by simp_all, rfl, rfl⟩
      | (exfalso; simp_all)
end Go.Proofs.YtfleehgbpgmcnaaDoor
