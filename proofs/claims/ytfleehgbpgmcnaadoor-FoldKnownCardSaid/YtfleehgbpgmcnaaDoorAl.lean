import Derived.Test.YtfleehgbpgmcnaaDoorSlP
import Derived.Test.YtfleehgbpgmcnaaDoorAk
set_option maxRecDepth 100000
namespace Go.Proofs.YtfleehgbpgmcnaaDoor
open Go Go.Sl

set_option maxHeartbeats 4000000
theorem c15Y (G : Imm) (hT : TabOk G) (i : Sl.Instr) (h : mayOk i 128 = true) : Does Tryd.prog 15 [.agg (Cells.enc i).toArray] G [] (fun v G' Ho => v = .tuple #[.agg (Cells.enc (plainP i)).toArray, .bool (decide (plainP i ≠ i))] ∧ G' = G ∧ Ho = []) := by
  have e := c15 G hT i
  rw [plainQ, if_pos h] at e
  exact e
theorem c15N (G : Imm) (hT : TabOk G) (i : Sl.Instr) (h : ¬ mayOk i 128 = true) : Does Tryd.prog 15 [.agg (Cells.enc i).toArray] G [] (fun v G' Ho => v = .tuple #[.agg #[.int .i64 0, .int .i64 0, .int .i64 0, .int .i64 0, .int .i64 0], .bool false] ∧ G' = G ∧ Ho = []) := by
  have e := c15 G hT i
  rw [plainQ, if_neg h] at e
  exact e
theorem c16Y (G : Imm) (hT : TabOk G) (a b : Sl.Instr) (h : mayOk a 128 = true) (h' : mayOk b 128 = true) (ha : plainP a = a) (hb : plainP b = b) : Does Tryd.prog 16 [.agg (Cells.enc a).toArray, .agg (Cells.enc b).toArray] G [] (fun v G' Ho => v = .tuple #[.agg (Cells.enc (meltP a b).1).toArray, .bool (meltP a b).2] ∧ G' = G ∧ Ho = []) := by
  have e := c16 G hT a b
  rw [meltQ, if_pos ⟨h, h', ha, hb⟩] at e
  exact e
theorem c16N (G : Imm) (hT : TabOk G) (a b : Sl.Instr) (h : ¬ (mayOk a 128 = true ∧ mayOk b 128 = true ∧ plainP a = a ∧ plainP b = b)) : Does Tryd.prog 16 [.agg (Cells.enc a).toArray, .agg (Cells.enc b).toArray] G [] (fun v G' Ho => v = .tuple #[.agg #[.int .i64 0, .int .i64 0, .int .i64 0, .int .i64 0, .int .i64 0], .bool false] ∧ G' = G ∧ Ho = []) := by
  have e := c16 G hT a b
  rw [meltQ, if_neg h] at e
  exact e
attribute [local irreducible] plainP meltP pushL foldTo foldP foldE errP rightP plainQ meltQ
theorem c5 (G : Imm) (hT : TabOk G) (a b : Sl.Instr) : Does Tryd.prog 5 [.agg (Cells.enc a).toArray, .agg (Cells.enc b).toArray] G [] (fun v G' Ho => v = .bool true ∧ G' = G ∧ Ho = []) := by
  have ra : ¬ (plainP a ≠ plainP a) := fun h => h rfl
  have rb : ¬ (plainP b ≠ plainP b) := fun h => h rfl
  have z0 : ([0, 0, 0, 0, 0] : List Int) = [0, 0, 0, 0, 0] := rfl
  have z1 : ¬ ([0, 0, 0, 0, 0] : List Int) ≠ [0, 0, 0, 0, 0] := fun h => h rfl
  have z2 : ¬ (false ≠ false) := fun h => h rfl
  refine Does.enter Tryd.func5 rfl Tryd.ntmps5 rfl (fun w => ?_)
  by_cases hA : mayOk a 128 = true
  · have ka := const_fits (may_const hA)
    by_cases hB : mayOk b 128 = true
    · have kb := const_fits (may_const hB)
      have hK1 : ¬ ((decide (plainP a ≠ a) ≠ decide (plainP a ≠ a) ∨ plainP b ≠ plainP b) ∨ decide (plainP b ≠ b) ≠ decide (plainP b ≠ b)) := by simp
      by_cases hp : plainP a = a ∧ plainP b = b
      · have pa := hp.1
        have pb := hp.2
        have hK2 : ¬ (((¬ mayOk a 128 = true ∨ ¬ mayOk b 128 = true) ∨ plainP a ≠ a) ∨ plainP b ≠ b) := by simp [hA, hB, pa, pb]
        refine Wc.seq ?_
        refine Wc.region rfl ?_
        refine Wl.box 0 rfl rfl rfl (fun b1 => ?_)
        refine Wl.box 1 rfl rfl rfl (fun b2 => ?_)
        refine Wl.q rfl (Qy.assign rfl) ?_
        refine Wl.done ?_
        refine Ar.next ?_
        refine Wc.seq ?_
        refine Wc.seq ?_
        refine Wc.region rfl ?_
        refine Wl.call0 rfl T.fn7 rfl (c7 _ (by assumption)) ?_
        refine Wl.q rfl (Qy.not rfl) ?_
        refine Wl.done ?_
        refine Ar.next ?_
        refine Wc.condF rfl ?_
        refine Wc.skip ?_
        refine Ar.next ?_
        refine Wc.seq ?_
        refine Wc.region rfl ?_
        refine Wl.q rfl (Qy.loadAll 0 T.agg34 rfl rfl rfl) ?_
        refine Wl.call0 rfl T.fn15 rfl (by first | exact c15Y _ (by assumption) _ (by assumption) | exact c15N _ (by assumption) _ (by assumption)) ?_
        refine Wl.q rfl (Qy.move rfl) ?_
        refine Wl.q rfl (Qy.extract rfl rfl) ?_
        refine Wl.q rfl (Qy.extract rfl rfl) ?_
        refine Wl.alloc 2 rfl T.zero34 (fun b3 => ?_)
        refine Wl.storeAll 2 T.size34 rfl rfl rfl rfl rfl rfl ?_
        refine Wl.q rfl (Qy.assign rfl) ?_
        refine Wl.done ?_
        refine Ar.next ?_
        refine Wc.seq ?_
        refine Wc.region rfl ?_
        refine Wl.q rfl (Qy.loadAll 1 T.agg34 rfl rfl rfl) ?_
        refine Wl.call0 rfl T.fn15 rfl (by first | exact c15Y _ (by assumption) _ (by assumption) | exact c15N _ (by assumption) _ (by assumption)) ?_
        refine Wl.q rfl (Qy.move rfl) ?_
        refine Wl.q rfl (Qy.extract rfl rfl) ?_
        refine Wl.q rfl (Qy.extract rfl rfl) ?_
        refine Wl.alloc 3 rfl T.zero34 (fun b4 => ?_)
        refine Wl.storeAll 3 T.size34 rfl rfl rfl rfl rfl rfl ?_
        refine Wl.q rfl (Qy.assign rfl) ?_
        refine Wl.done ?_
        refine Ar.next ?_
        refine Wc.seq ?_
        refine Wc.draw [0, 1, 2, 3] [] T.mixed rfl ?_
        refine Gm.q 0 [0] (by kernel_rfl) rfl rfl (Qy.loadAll 0 T.agg34 rfl rfl rfl) ?_
        refine Gm.q 2 [1] (by kernel_rfl) rfl rfl (Qy.loadAll 1 T.agg34 rfl rfl rfl) ?_
        refine Gm.one 1 ⟨rfl, rfl, rfl, rfl, trivial⟩ (by first | exact Imm.le_refl _ | assumption) (by kernel_rfl) rfl ?_
        refine Wl.call0 rfl T.fn17 rfl (c17 _ _ _) ?_
        refine Wl.on0 ?_
        refine Gm.one 3 ⟨rfl, rfl, rfl, rfl, trivial⟩ (by first | exact Imm.le_refl _ | assumption) (by kernel_rfl) rfl ?_
        refine Wl.call0 rfl T.fn17 rfl (c17 _ _ _) ?_
        refine Wl.on0 ?_
        refine Gm.q 4 [] (by kernel_rfl) rfl rfl (Qy.assign rfl) ?_
        refine Gm.q 5 [] (by kernel_rfl) rfl rfl (Qy.assign rfl) ?_
        refine Gm.doneA (by kernel_rfl) ⟨rfl, rfl, rfl, rfl, trivial⟩ (by first | exact Imm.le_refl _ | assumption) ?_
        refine Ar.next ?_
        refine Wc.seq ?_
        refine Wc.region rfl ?_
        refine Wl.q rfl (Qy.build (cs := [_, _, _, _, _]) T.st34 rfl rfl rfl) ?_
        refine Wl.q rfl (Qy.build (cs := [_, _, _, _, _]) T.st34 rfl rfl rfl) ?_
        refine Wl.alloc 4 rfl T.zero34 (fun b5 => ?_)
        refine Wl.alloc 5 rfl T.zero34 (fun b6 => ?_)
        refine Wl.storeAll 4 T.size34 rfl rfl rfl rfl rfl rfl ?_
        refine Wl.storeAll 5 T.size34 rfl rfl rfl rfl rfl rfl ?_
        refine Wl.done ?_
        refine Ar.next ?_
        refine Wc.seq ?_
        refine Wc.seq ?_
        refine Wc.region rfl ?_
        refine Wl.q rfl (Qy.move rfl) ?_
        refine Wl.done ?_
        refine Ar.next ?_
        refine Wc.condP rfl (by first | assumption | omega) ?_
        refine Wc.region rfl ?_
        refine Wl.q rfl (Qy.loadAll 0 T.agg34 rfl rfl rfl) ?_
        refine Wl.call0 rfl T.fn18 rfl (c18 _ _ (by assumption)) ?_
        refine Wl.storeAll 4 T.size34 rfl rfl rfl rfl rfl rfl ?_
        refine Wl.done ?_
        refine Ar.next ?_
        refine Wc.seq ?_
        refine Wc.seq ?_
        refine Wc.region rfl ?_
        refine Wl.q rfl (Qy.move rfl) ?_
        refine Wl.done ?_
        refine Ar.next ?_
        refine Wc.condP rfl (by first | assumption | omega) ?_
        refine Wc.region rfl ?_
        refine Wl.q rfl (Qy.loadAll 1 T.agg34 rfl rfl rfl) ?_
        refine Wl.call0 rfl T.fn18 rfl (c18 _ _ (by assumption)) ?_
        refine Wl.storeAll 5 T.size34 rfl rfl rfl rfl rfl rfl ?_
        refine Wl.done ?_
        refine Ar.next ?_
        refine Wc.seq ?_
        refine Wc.seq ?_
        refine Wc.region rfl ?_
        refine Wl.q rfl (Qy.loadAll 2 T.agg34 rfl rfl rfl) ?_
        refine Wl.q rfl (Qy.loadAll 4 T.agg34 rfl rfl rfl) ?_
        refine Wl.q rfl (Qy.neqInstr T.ai34 rfl rfl) ?_
        refine Wl.q rfl (Qy.move rfl) ?_
        refine Wl.no 44 rfl (by first | assumption | omega) ?_
        refine Wl.want rfl rfl ?_
        refine Wl.q rfl (Qy.move rfl) ?_
        refine Wl.want rfl rfl ?_
        refine Wl.q rfl (Qy.move rfl) ?_
        refine Wl.want rfl rfl ?_
        refine Wl.q rfl (Qy.move rfl) ?_
        refine Wl.yes 47 rfl (by first | assumption | omega) ?_
        refine Wl.want rfl rfl ?_
        refine Wl.q rfl (Qy.loadAll 4 T.agg34 rfl rfl rfl) ?_
        refine Wl.want rfl rfl ?_
        refine Wl.q rfl (Qy.loadAll 0 T.agg34 rfl rfl rfl) ?_
        refine Wl.want rfl rfl ?_
        refine Wl.q rfl (Qy.neqInstr T.ai34 rfl rfl) ?_
        refine Wl.want rfl rfl ?_
        refine Wl.q rfl (Qy.pick rfl rfl) ?_
        refine Wl.want rfl rfl ?_
        refine Wl.q rfl (Qy.neqB T.u4 rfl rfl) ?_
        refine Wl.q rfl (Qy.pick rfl rfl) ?_
        refine Wl.q rfl (Qy.move rfl) ?_
        apply Wl.joinOr 4 54 58 rfl
        intro hg1
        refine Wl.want rfl rfl ?_
        refine Wl.q rfl (Qy.loadAll 3 T.agg34 rfl rfl rfl) ?_
        refine Wl.want rfl rfl ?_
        refine Wl.q rfl (Qy.loadAll 5 T.agg34 rfl rfl rfl) ?_
        refine Wl.want rfl rfl ?_
        refine Wl.q rfl (Qy.neqInstr T.ai34 rfl rfl) ?_
        refine Wl.q rfl (Qy.pick rfl rfl) ?_
        exact Wl.back 4 0 rfl rfl rfl rfl rfl
        intro hg1
        refine Wl.pass rfl rfl rfl ?_
        refine Wl.pass rfl rfl rfl ?_
        refine Wl.pass rfl rfl rfl ?_
        refine Wl.q rfl (Qy.pick rfl rfl) ?_
        exact Wl.back 4 0 rfl rfl rfl rfl rfl
        refine Wl.q rfl (Qy.move rfl) ?_
        apply Wl.joinOr 9 59 68 rfl
        intro hg1
        refine Wl.want rfl rfl ?_
        refine Wl.q rfl (Qy.move rfl) ?_
        refine Wl.want rfl rfl ?_
        refine Wl.q rfl (Qy.move rfl) ?_
        refine Wl.want rfl rfl ?_
        refine Wl.q rfl (Qy.move rfl) ?_
        refine Wl.yes 62 rfl (by first | assumption | omega) ?_
        refine Wl.want rfl rfl ?_
        refine Wl.q rfl (Qy.loadAll 5 T.agg34 rfl rfl rfl) ?_
        refine Wl.want rfl rfl ?_
        refine Wl.q rfl (Qy.loadAll 1 T.agg34 rfl rfl rfl) ?_
        refine Wl.want rfl rfl ?_
        refine Wl.q rfl (Qy.neqInstr T.ai34 rfl rfl) ?_
        refine Wl.want rfl rfl ?_
        refine Wl.q rfl (Qy.pick rfl rfl) ?_
        refine Wl.want rfl rfl ?_
        refine Wl.q rfl (Qy.neqB T.u4 rfl rfl) ?_
        refine Wl.q rfl (Qy.pick rfl rfl) ?_
        exact Wl.back 10 0 rfl rfl rfl rfl rfl
        intro hg1
        refine Wl.pass rfl rfl rfl ?_
        refine Wl.pass rfl rfl rfl ?_
        refine Wl.pass rfl rfl rfl ?_
        refine Wl.passU rfl rfl rfl ?_
        refine Wl.passU rfl rfl rfl ?_
        refine Wl.passU rfl rfl rfl ?_
        refine Wl.pass rfl rfl rfl ?_
        refine Wl.pass rfl rfl rfl ?_
        refine Wl.q rfl (Qy.pick rfl rfl) ?_
        exact Wl.back 9 0 rfl rfl rfl rfl rfl
        refine Wl.done ?_
        refine Ar.next ?_
        refine Wc.condN rfl (by first | assumption | omega) ?_
        refine Wc.skip ?_
        refine Ar.next ?_
        refine Wc.seq ?_
        refine Wc.region rfl ?_
        refine Wl.q rfl (Qy.loadAll 0 T.agg34 rfl rfl rfl) ?_
        refine Wl.q rfl (Qy.loadAll 1 T.agg34 rfl rfl rfl) ?_
        refine Wl.call0 rfl T.fn16 rfl (by first | exact c16Y _ (by assumption) _ _ (by assumption) (by assumption) (by assumption) (by assumption) | exact c16N _ (by assumption) _ _ (by assumption)) ?_
        refine Wl.q rfl (Qy.move rfl) ?_
        refine Wl.q rfl (Qy.extract rfl rfl) ?_
        refine Wl.q rfl (Qy.extract rfl rfl) ?_
        refine Wl.alloc 6 rfl T.zero34 (fun b7 => ?_)
        refine Wl.storeAll 6 T.size34 rfl rfl rfl rfl rfl rfl ?_
        refine Wl.q rfl (Qy.assign rfl) ?_
        refine Wl.done ?_
        refine Ar.next ?_
        refine Wc.seq ?_
        refine Wc.seq ?_
        refine Wc.region rfl ?_
        refine Wl.q rfl (Qy.move rfl) ?_
        refine Wl.q rfl (Qy.notD rfl) ?_
        refine Wl.q rfl (Qy.move rfl) ?_
        apply Wl.joinOr 3 77 80 rfl
        intro hg1
        refine Wl.want rfl rfl ?_
        refine Wl.q rfl (Qy.move rfl) ?_
        refine Wl.want rfl rfl ?_
        refine Wl.q rfl (Qy.notD rfl) ?_
        refine Wl.q rfl (Qy.pick rfl rfl) ?_
        exact Wl.back 3 0 rfl rfl rfl rfl rfl
        intro hg1
        refine Wl.pass rfl rfl rfl ?_
        refine Wl.pass rfl rfl rfl ?_
        refine Wl.q rfl (Qy.pick rfl rfl) ?_
        exact Wl.back 3 0 rfl rfl rfl rfl rfl
        refine Wl.q rfl (Qy.move rfl) ?_
        apply Wl.joinOr 4 81 85 rfl
        intro hg1
        refine Wl.want rfl rfl ?_
        refine Wl.q rfl (Qy.loadAll 4 T.agg34 rfl rfl rfl) ?_
        refine Wl.want rfl rfl ?_
        refine Wl.q rfl (Qy.loadAll 0 T.agg34 rfl rfl rfl) ?_
        refine Wl.want rfl rfl ?_
        refine Wl.q rfl (Qy.neqInstr T.ai34 rfl rfl) ?_
        refine Wl.q rfl (Qy.pick rfl rfl) ?_
        exact Wl.back 4 0 rfl rfl rfl rfl rfl
        intro hg1
        refine Wl.pass rfl rfl rfl ?_
        refine Wl.pass rfl rfl rfl ?_
        refine Wl.pass rfl rfl rfl ?_
        refine Wl.q rfl (Qy.pick rfl rfl) ?_
        exact Wl.back 4 0 rfl rfl rfl rfl rfl
        refine Wl.q rfl (Qy.move rfl) ?_
        apply Wl.joinOr 4 86 90 rfl
        intro hg1
        refine Wl.want rfl rfl ?_
        refine Wl.q rfl (Qy.loadAll 5 T.agg34 rfl rfl rfl) ?_
        refine Wl.want rfl rfl ?_
        refine Wl.q rfl (Qy.loadAll 1 T.agg34 rfl rfl rfl) ?_
        refine Wl.want rfl rfl ?_
        refine Wl.q rfl (Qy.neqInstr T.ai34 rfl rfl) ?_
        refine Wl.q rfl (Qy.pick rfl rfl) ?_
        exact Wl.back 4 0 rfl rfl rfl rfl rfl
        intro hg1
        refine Wl.pass rfl rfl rfl ?_
        refine Wl.pass rfl rfl rfl ?_
        refine Wl.pass rfl rfl rfl ?_
        refine Wl.q rfl (Qy.pick rfl rfl) ?_
        exact Wl.back 4 0 rfl rfl rfl rfl rfl
        refine Wl.done ?_
        refine Ar.next ?_
        refine Wc.condN rfl (by first | assumption | omega) ?_
        refine Wc.skip ?_
        refine Ar.next ?_
        refine Wc.seq ?_
        refine Wc.region rfl ?_
        refine Wl.q rfl (Qy.loadAll 0 T.agg34 rfl rfl rfl) ?_
        refine Wl.q rfl (Qy.loadAll 1 T.agg34 rfl rfl rfl) ?_
        refine Wl.call0 rfl T.fn19 rfl (c19 _ _ _ (may_const (by assumption)) (may_const (by assumption))) ?_
        refine Wl.q rfl (Qy.move rfl) ?_
        refine Wl.q rfl (Qy.extract rfl rfl) ?_
        refine Wl.q rfl (Qy.extract rfl rfl) ?_
        refine Wl.alloc 7 rfl T.zero34 (fun b8 => ?_)
        refine Wl.storeAll 7 T.size34 rfl rfl rfl rfl rfl rfl ?_
        refine Wl.q rfl (Qy.assign rfl) ?_
        refine Wl.done ?_
        refine Ar.next ?_
        refine Wc.seq ?_
        refine Wc.region rfl ?_
        refine Wl.q rfl (Qy.loadAll 6 T.agg34 rfl rfl rfl) ?_
        refine Wl.q rfl (Qy.loadAll 7 T.agg34 rfl rfl rfl) ?_
        refine Wl.q rfl (Qy.eqlInstr T.ai34 rfl rfl) ?_
        refine Wl.q rfl (Qy.move rfl) ?_
        apply Wl.joinAnd 4 107 111 rfl
        intro hg1
        refine Wl.want rfl rfl ?_
        refine Wl.q rfl (Qy.move rfl) ?_
        refine Wl.want rfl rfl ?_
        refine Wl.q rfl (Qy.move rfl) ?_
        refine Wl.want rfl rfl ?_
        refine Wl.q rfl (Qy.eqlB T.u4 rfl rfl) ?_
        refine Wl.q rfl (Qy.pick rfl rfl) ?_
        exact Wl.back 4 0 rfl rfl rfl rfl rfl
        intro hg1
        refine Wl.pass rfl rfl rfl ?_
        refine Wl.pass rfl rfl rfl ?_
        refine Wl.pass rfl rfl rfl ?_
        refine Wl.q rfl (Qy.pick rfl rfl) ?_
        exact Wl.back 4 0 rfl rfl rfl rfl rfl
        refine Wl.q rfl (Qy.assign rfl) ?_
        refine Wl.done ?_
        refine Ar.next ?_
        refine Wc.ret ?_
        refine Ar.out1 (.inr rfl) (Ho := Hp.only _ []) rfl (.tmp rfl) (Hp.sub_only _ _) ?_
        exact ⟨by simp, rfl, rfl⟩
      · have hN : ¬ (mayOk a 128 = true ∧ mayOk b 128 = true ∧ plainP a = a ∧ plainP b = b) := fun h => hp h.2.2
        have hK2 : ((¬ mayOk a 128 = true ∨ ¬ mayOk b 128 = true) ∨ plainP a ≠ a) ∨ plainP b ≠ b := by
          by_cases pa : plainP a = a
          · exact .inr fun pb => hp ⟨pa, pb⟩
          · exact .inl (.inr pa)
        refine Wc.seq ?_
        refine Wc.region rfl ?_
        refine Wl.box 0 rfl rfl rfl (fun b1 => ?_)
        refine Wl.box 1 rfl rfl rfl (fun b2 => ?_)
        refine Wl.q rfl (Qy.assign rfl) ?_
        refine Wl.done ?_
        refine Ar.next ?_
        refine Wc.seq ?_
        refine Wc.seq ?_
        refine Wc.region rfl ?_
        refine Wl.call0 rfl T.fn7 rfl (c7 _ (by assumption)) ?_
        refine Wl.q rfl (Qy.not rfl) ?_
        refine Wl.done ?_
        refine Ar.next ?_
        refine Wc.condF rfl ?_
        refine Wc.skip ?_
        refine Ar.next ?_
        refine Wc.seq ?_
        refine Wc.region rfl ?_
        refine Wl.q rfl (Qy.loadAll 0 T.agg34 rfl rfl rfl) ?_
        refine Wl.call0 rfl T.fn15 rfl (by first | exact c15Y _ (by assumption) _ (by assumption) | exact c15N _ (by assumption) _ (by assumption)) ?_
        refine Wl.q rfl (Qy.move rfl) ?_
        refine Wl.q rfl (Qy.extract rfl rfl) ?_
        refine Wl.q rfl (Qy.extract rfl rfl) ?_
        refine Wl.alloc 2 rfl T.zero34 (fun b3 => ?_)
        refine Wl.storeAll 2 T.size34 rfl rfl rfl rfl rfl rfl ?_
        refine Wl.q rfl (Qy.assign rfl) ?_
        refine Wl.done ?_
        refine Ar.next ?_
        refine Wc.seq ?_
        refine Wc.region rfl ?_
        refine Wl.q rfl (Qy.loadAll 1 T.agg34 rfl rfl rfl) ?_
        refine Wl.call0 rfl T.fn15 rfl (by first | exact c15Y _ (by assumption) _ (by assumption) | exact c15N _ (by assumption) _ (by assumption)) ?_
        refine Wl.q rfl (Qy.move rfl) ?_
        refine Wl.q rfl (Qy.extract rfl rfl) ?_
        refine Wl.q rfl (Qy.extract rfl rfl) ?_
        refine Wl.alloc 3 rfl T.zero34 (fun b4 => ?_)
        refine Wl.storeAll 3 T.size34 rfl rfl rfl rfl rfl rfl ?_
        refine Wl.q rfl (Qy.assign rfl) ?_
        refine Wl.done ?_
        refine Ar.next ?_
        refine Wc.seq ?_
        refine Wc.draw [0, 1, 2, 3] [] T.mixed rfl ?_
        refine Gm.q 0 [0] (by kernel_rfl) rfl rfl (Qy.loadAll 0 T.agg34 rfl rfl rfl) ?_
        refine Gm.q 2 [1] (by kernel_rfl) rfl rfl (Qy.loadAll 1 T.agg34 rfl rfl rfl) ?_
        refine Gm.one 1 ⟨rfl, rfl, rfl, rfl, trivial⟩ (by first | exact Imm.le_refl _ | assumption) (by kernel_rfl) rfl ?_
        refine Wl.call0 rfl T.fn17 rfl (c17 _ _ _) ?_
        refine Wl.on0 ?_
        refine Gm.one 3 ⟨rfl, rfl, rfl, rfl, trivial⟩ (by first | exact Imm.le_refl _ | assumption) (by kernel_rfl) rfl ?_
        refine Wl.call0 rfl T.fn17 rfl (c17 _ _ _) ?_
        refine Wl.on0 ?_
        refine Gm.q 4 [] (by kernel_rfl) rfl rfl (Qy.assign rfl) ?_
        refine Gm.q 5 [] (by kernel_rfl) rfl rfl (Qy.assign rfl) ?_
        refine Gm.doneA (by kernel_rfl) ⟨rfl, rfl, rfl, rfl, trivial⟩ (by first | exact Imm.le_refl _ | assumption) ?_
        refine Ar.next ?_
        refine Wc.seq ?_
        refine Wc.region rfl ?_
        refine Wl.q rfl (Qy.build (cs := [_, _, _, _, _]) T.st34 rfl rfl rfl) ?_
        refine Wl.q rfl (Qy.build (cs := [_, _, _, _, _]) T.st34 rfl rfl rfl) ?_
        refine Wl.alloc 4 rfl T.zero34 (fun b5 => ?_)
        refine Wl.alloc 5 rfl T.zero34 (fun b6 => ?_)
        refine Wl.storeAll 4 T.size34 rfl rfl rfl rfl rfl rfl ?_
        refine Wl.storeAll 5 T.size34 rfl rfl rfl rfl rfl rfl ?_
        refine Wl.done ?_
        refine Ar.next ?_
        refine Wc.seq ?_
        refine Wc.seq ?_
        refine Wc.region rfl ?_
        refine Wl.q rfl (Qy.move rfl) ?_
        refine Wl.done ?_
        refine Ar.next ?_
        refine Wc.condP rfl (by first | assumption | omega) ?_
        refine Wc.region rfl ?_
        refine Wl.q rfl (Qy.loadAll 0 T.agg34 rfl rfl rfl) ?_
        refine Wl.call0 rfl T.fn18 rfl (c18 _ _ (by assumption)) ?_
        refine Wl.storeAll 4 T.size34 rfl rfl rfl rfl rfl rfl ?_
        refine Wl.done ?_
        refine Ar.next ?_
        refine Wc.seq ?_
        refine Wc.seq ?_
        refine Wc.region rfl ?_
        refine Wl.q rfl (Qy.move rfl) ?_
        refine Wl.done ?_
        refine Ar.next ?_
        refine Wc.condP rfl (by first | assumption | omega) ?_
        refine Wc.region rfl ?_
        refine Wl.q rfl (Qy.loadAll 1 T.agg34 rfl rfl rfl) ?_
        refine Wl.call0 rfl T.fn18 rfl (c18 _ _ (by assumption)) ?_
        refine Wl.storeAll 5 T.size34 rfl rfl rfl rfl rfl rfl ?_
        refine Wl.done ?_
        refine Ar.next ?_
        refine Wc.seq ?_
        refine Wc.seq ?_
        refine Wc.region rfl ?_
        refine Wl.q rfl (Qy.loadAll 2 T.agg34 rfl rfl rfl) ?_
        refine Wl.q rfl (Qy.loadAll 4 T.agg34 rfl rfl rfl) ?_
        refine Wl.q rfl (Qy.neqInstr T.ai34 rfl rfl) ?_
        refine Wl.q rfl (Qy.move rfl) ?_
        refine Wl.no 44 rfl (by first | assumption | omega) ?_
        refine Wl.want rfl rfl ?_
        refine Wl.q rfl (Qy.move rfl) ?_
        refine Wl.want rfl rfl ?_
        refine Wl.q rfl (Qy.move rfl) ?_
        refine Wl.want rfl rfl ?_
        refine Wl.q rfl (Qy.move rfl) ?_
        refine Wl.yes 47 rfl (by first | assumption | omega) ?_
        refine Wl.want rfl rfl ?_
        refine Wl.q rfl (Qy.loadAll 4 T.agg34 rfl rfl rfl) ?_
        refine Wl.want rfl rfl ?_
        refine Wl.q rfl (Qy.loadAll 0 T.agg34 rfl rfl rfl) ?_
        refine Wl.want rfl rfl ?_
        refine Wl.q rfl (Qy.neqInstr T.ai34 rfl rfl) ?_
        refine Wl.want rfl rfl ?_
        refine Wl.q rfl (Qy.pick rfl rfl) ?_
        refine Wl.want rfl rfl ?_
        refine Wl.q rfl (Qy.neqB T.u4 rfl rfl) ?_
        refine Wl.q rfl (Qy.pick rfl rfl) ?_
        refine Wl.q rfl (Qy.move rfl) ?_
        apply Wl.joinOr 4 54 58 rfl
        intro hg1
        refine Wl.want rfl rfl ?_
        refine Wl.q rfl (Qy.loadAll 3 T.agg34 rfl rfl rfl) ?_
        refine Wl.want rfl rfl ?_
        refine Wl.q rfl (Qy.loadAll 5 T.agg34 rfl rfl rfl) ?_
        refine Wl.want rfl rfl ?_
        refine Wl.q rfl (Qy.neqInstr T.ai34 rfl rfl) ?_
        refine Wl.q rfl (Qy.pick rfl rfl) ?_
        exact Wl.back 4 0 rfl rfl rfl rfl rfl
        intro hg1
        refine Wl.pass rfl rfl rfl ?_
        refine Wl.pass rfl rfl rfl ?_
        refine Wl.pass rfl rfl rfl ?_
        refine Wl.q rfl (Qy.pick rfl rfl) ?_
        exact Wl.back 4 0 rfl rfl rfl rfl rfl
        refine Wl.q rfl (Qy.move rfl) ?_
        apply Wl.joinOr 9 59 68 rfl
        intro hg1
        refine Wl.want rfl rfl ?_
        refine Wl.q rfl (Qy.move rfl) ?_
        refine Wl.want rfl rfl ?_
        refine Wl.q rfl (Qy.move rfl) ?_
        refine Wl.want rfl rfl ?_
        refine Wl.q rfl (Qy.move rfl) ?_
        refine Wl.yes 62 rfl (by first | assumption | omega) ?_
        refine Wl.want rfl rfl ?_
        refine Wl.q rfl (Qy.loadAll 5 T.agg34 rfl rfl rfl) ?_
        refine Wl.want rfl rfl ?_
        refine Wl.q rfl (Qy.loadAll 1 T.agg34 rfl rfl rfl) ?_
        refine Wl.want rfl rfl ?_
        refine Wl.q rfl (Qy.neqInstr T.ai34 rfl rfl) ?_
        refine Wl.want rfl rfl ?_
        refine Wl.q rfl (Qy.pick rfl rfl) ?_
        refine Wl.want rfl rfl ?_
        refine Wl.q rfl (Qy.neqB T.u4 rfl rfl) ?_
        refine Wl.q rfl (Qy.pick rfl rfl) ?_
        exact Wl.back 10 0 rfl rfl rfl rfl rfl
        intro hg1
        refine Wl.pass rfl rfl rfl ?_
        refine Wl.pass rfl rfl rfl ?_
        refine Wl.pass rfl rfl rfl ?_
        refine Wl.passU rfl rfl rfl ?_
        refine Wl.passU rfl rfl rfl ?_
        refine Wl.passU rfl rfl rfl ?_
        refine Wl.pass rfl rfl rfl ?_
        refine Wl.pass rfl rfl rfl ?_
        refine Wl.q rfl (Qy.pick rfl rfl) ?_
        exact Wl.back 9 0 rfl rfl rfl rfl rfl
        refine Wl.done ?_
        refine Ar.next ?_
        refine Wc.condN rfl (by first | assumption | omega) ?_
        refine Wc.skip ?_
        refine Ar.next ?_
        refine Wc.seq ?_
        refine Wc.region rfl ?_
        refine Wl.q rfl (Qy.loadAll 0 T.agg34 rfl rfl rfl) ?_
        refine Wl.q rfl (Qy.loadAll 1 T.agg34 rfl rfl rfl) ?_
        refine Wl.call0 rfl T.fn16 rfl (by first | exact c16Y _ (by assumption) _ _ (by assumption) (by assumption) (by assumption) (by assumption) | exact c16N _ (by assumption) _ _ (by assumption)) ?_
        refine Wl.q rfl (Qy.move rfl) ?_
        refine Wl.q rfl (Qy.extract rfl rfl) ?_
        refine Wl.q rfl (Qy.extract rfl rfl) ?_
        refine Wl.alloc 6 rfl T.zero34 (fun b7 => ?_)
        refine Wl.storeAll 6 T.size34 rfl rfl rfl rfl rfl rfl ?_
        refine Wl.q rfl (Qy.assign rfl) ?_
        refine Wl.done ?_
        refine Ar.next ?_
        refine Wc.seq ?_
        refine Wc.seq ?_
        refine Wc.region rfl ?_
        refine Wl.q rfl (Qy.move rfl) ?_
        refine Wl.q rfl (Qy.notD rfl) ?_
        refine Wl.q rfl (Qy.move rfl) ?_
        apply Wl.joinOr 3 77 80 rfl
        intro hg1
        refine Wl.want rfl rfl ?_
        refine Wl.q rfl (Qy.move rfl) ?_
        refine Wl.want rfl rfl ?_
        refine Wl.q rfl (Qy.notD rfl) ?_
        refine Wl.q rfl (Qy.pick rfl rfl) ?_
        exact Wl.back 3 0 rfl rfl rfl rfl rfl
        intro hg1
        refine Wl.pass rfl rfl rfl ?_
        refine Wl.pass rfl rfl rfl ?_
        refine Wl.q rfl (Qy.pick rfl rfl) ?_
        exact Wl.back 3 0 rfl rfl rfl rfl rfl
        refine Wl.q rfl (Qy.move rfl) ?_
        apply Wl.joinOr 4 81 85 rfl
        intro hg1
        refine Wl.want rfl rfl ?_
        refine Wl.q rfl (Qy.loadAll 4 T.agg34 rfl rfl rfl) ?_
        refine Wl.want rfl rfl ?_
        refine Wl.q rfl (Qy.loadAll 0 T.agg34 rfl rfl rfl) ?_
        refine Wl.want rfl rfl ?_
        refine Wl.q rfl (Qy.neqInstr T.ai34 rfl rfl) ?_
        refine Wl.q rfl (Qy.pick rfl rfl) ?_
        exact Wl.back 4 0 rfl rfl rfl rfl rfl
        intro hg1
        refine Wl.pass rfl rfl rfl ?_
        refine Wl.pass rfl rfl rfl ?_
        refine Wl.pass rfl rfl rfl ?_
        refine Wl.q rfl (Qy.pick rfl rfl) ?_
        exact Wl.back 4 0 rfl rfl rfl rfl rfl
        refine Wl.q rfl (Qy.move rfl) ?_
        apply Wl.joinOr 4 86 90 rfl
        intro hg1
        refine Wl.want rfl rfl ?_
        refine Wl.q rfl (Qy.loadAll 5 T.agg34 rfl rfl rfl) ?_
        refine Wl.want rfl rfl ?_
        refine Wl.q rfl (Qy.loadAll 1 T.agg34 rfl rfl rfl) ?_
        refine Wl.want rfl rfl ?_
        refine Wl.q rfl (Qy.neqInstr T.ai34 rfl rfl) ?_
        refine Wl.q rfl (Qy.pick rfl rfl) ?_
        exact Wl.back 4 0 rfl rfl rfl rfl rfl
        intro hg1
        refine Wl.pass rfl rfl rfl ?_
        refine Wl.pass rfl rfl rfl ?_
        refine Wl.pass rfl rfl rfl ?_
        refine Wl.q rfl (Qy.pick rfl rfl) ?_
        exact Wl.back 4 0 rfl rfl rfl rfl rfl
        refine Wl.done ?_
        refine Ar.next ?_
        refine Wc.condP rfl (by first | assumption | omega) ?_
        refine Wc.seq ?_
        refine Wc.region rfl ?_
        refine Wl.q rfl (Qy.loadAll 6 T.agg34 rfl rfl rfl) ?_
        refine Wl.q rfl (Qy.build (cs := [_, _, _, _, _]) T.st34 rfl rfl rfl) ?_
        refine Wl.q rfl (Qy.eqlI [_, _, _, _, _] [_, _, _, _, _] T.ai34 rfl rfl rfl rfl) ?_
        refine Wl.q rfl (Qy.move rfl) ?_
        refine Wl.yes 94 rfl (by first | assumption | omega) ?_
        refine Wl.want rfl rfl ?_
        refine Wl.q rfl (Qy.move rfl) ?_
        refine Wl.want rfl rfl ?_
        refine Wl.q rfl (Qy.not rfl) ?_
        refine Wl.q rfl (Qy.pick rfl rfl) ?_
        refine Wl.q rfl (Qy.assign rfl) ?_
        refine Wl.done ?_
        refine Ar.next ?_
        refine Wc.ret ?_
        refine Ar.passRet ?_
        refine Ar.out1 (.inr rfl) (Ho := Hp.only _ []) rfl (.tmp rfl) (Hp.sub_only _ _) ?_
        exact ⟨by simp, rfl, rfl⟩
    · have hN : ¬ (mayOk a 128 = true ∧ mayOk b 128 = true ∧ plainP a = a ∧ plainP b = b) := fun h => hB h.2.1
      have hK1 : ¬ (decide (plainP a ≠ a) ≠ decide (plainP a ≠ a)) := by simp
      have hK2 : ((¬ mayOk a 128 = true ∨ ¬ mayOk b 128 = true) ∨ plainP a ≠ a) ∨ [0, 0, 0, 0, 0] ≠ [b.op, b.to, b.a, b.b, b.c] := .inl (.inl (.inr hB))
      refine Wc.seq ?_
      refine Wc.region rfl ?_
      refine Wl.box 0 rfl rfl rfl (fun b1 => ?_)
      refine Wl.box 1 rfl rfl rfl (fun b2 => ?_)
      refine Wl.q rfl (Qy.assign rfl) ?_
      refine Wl.done ?_
      refine Ar.next ?_
      refine Wc.seq ?_
      refine Wc.seq ?_
      refine Wc.region rfl ?_
      refine Wl.call0 rfl T.fn7 rfl (c7 _ (by assumption)) ?_
      refine Wl.q rfl (Qy.not rfl) ?_
      refine Wl.done ?_
      refine Ar.next ?_
      refine Wc.condF rfl ?_
      refine Wc.skip ?_
      refine Ar.next ?_
      refine Wc.seq ?_
      refine Wc.region rfl ?_
      refine Wl.q rfl (Qy.loadAll 0 T.agg34 rfl rfl rfl) ?_
      refine Wl.call0 rfl T.fn15 rfl (by first | exact c15Y _ (by assumption) _ (by assumption) | exact c15N _ (by assumption) _ (by assumption)) ?_
      refine Wl.q rfl (Qy.move rfl) ?_
      refine Wl.q rfl (Qy.extract rfl rfl) ?_
      refine Wl.q rfl (Qy.extract rfl rfl) ?_
      refine Wl.alloc 2 rfl T.zero34 (fun b3 => ?_)
      refine Wl.storeAll 2 T.size34 rfl rfl rfl rfl rfl rfl ?_
      refine Wl.q rfl (Qy.assign rfl) ?_
      refine Wl.done ?_
      refine Ar.next ?_
      refine Wc.seq ?_
      refine Wc.region rfl ?_
      refine Wl.q rfl (Qy.loadAll 1 T.agg34 rfl rfl rfl) ?_
      refine Wl.call0 rfl T.fn15 rfl (by first | exact c15Y _ (by assumption) _ (by assumption) | exact c15N _ (by assumption) _ (by assumption)) ?_
      refine Wl.q rfl (Qy.move rfl) ?_
      refine Wl.q rfl (Qy.extract rfl rfl) ?_
      refine Wl.q rfl (Qy.extract rfl rfl) ?_
      refine Wl.alloc 3 rfl T.zero34 (fun b4 => ?_)
      refine Wl.storeAll 3 T.size34 rfl rfl rfl rfl rfl rfl ?_
      refine Wl.q rfl (Qy.assign rfl) ?_
      refine Wl.done ?_
      refine Ar.next ?_
      refine Wc.seq ?_
      refine Wc.draw [0, 1, 2, 3] [] T.mixed rfl ?_
      refine Gm.q 0 [0] (by kernel_rfl) rfl rfl (Qy.loadAll 0 T.agg34 rfl rfl rfl) ?_
      refine Gm.q 2 [1] (by kernel_rfl) rfl rfl (Qy.loadAll 1 T.agg34 rfl rfl rfl) ?_
      refine Gm.one 1 ⟨rfl, rfl, rfl, rfl, trivial⟩ (by first | exact Imm.le_refl _ | assumption) (by kernel_rfl) rfl ?_
      refine Wl.call0 rfl T.fn17 rfl (c17 _ _ _) ?_
      refine Wl.on0 ?_
      refine Gm.one 3 ⟨rfl, rfl, rfl, rfl, trivial⟩ (by first | exact Imm.le_refl _ | assumption) (by kernel_rfl) rfl ?_
      refine Wl.call0 rfl T.fn17 rfl (c17 _ _ _) ?_
      refine Wl.on0 ?_
      refine Gm.q 4 [] (by kernel_rfl) rfl rfl (Qy.assign rfl) ?_
      refine Gm.q 5 [] (by kernel_rfl) rfl rfl (Qy.assign rfl) ?_
      refine Gm.doneA (by kernel_rfl) ⟨rfl, rfl, rfl, rfl, trivial⟩ (by first | exact Imm.le_refl _ | assumption) ?_
      refine Ar.next ?_
      refine Wc.seq ?_
      refine Wc.region rfl ?_
      refine Wl.q rfl (Qy.build (cs := [_, _, _, _, _]) T.st34 rfl rfl rfl) ?_
      refine Wl.q rfl (Qy.build (cs := [_, _, _, _, _]) T.st34 rfl rfl rfl) ?_
      refine Wl.alloc 4 rfl T.zero34 (fun b5 => ?_)
      refine Wl.alloc 5 rfl T.zero34 (fun b6 => ?_)
      refine Wl.storeAll 4 T.size34 rfl rfl rfl rfl rfl rfl ?_
      refine Wl.storeAll 5 T.size34 rfl rfl rfl rfl rfl rfl ?_
      refine Wl.done ?_
      refine Ar.next ?_
      refine Wc.seq ?_
      refine Wc.seq ?_
      refine Wc.region rfl ?_
      refine Wl.q rfl (Qy.move rfl) ?_
      refine Wl.done ?_
      refine Ar.next ?_
      refine Wc.condP rfl (by first | assumption | omega) ?_
      refine Wc.region rfl ?_
      refine Wl.q rfl (Qy.loadAll 0 T.agg34 rfl rfl rfl) ?_
      refine Wl.call0 rfl T.fn18 rfl (c18 _ _ (by assumption)) ?_
      refine Wl.storeAll 4 T.size34 rfl rfl rfl rfl rfl rfl ?_
      refine Wl.done ?_
      refine Ar.next ?_
      refine Wc.seq ?_
      refine Wc.seq ?_
      refine Wc.region rfl ?_
      refine Wl.q rfl (Qy.move rfl) ?_
      refine Wl.done ?_
      refine Ar.next ?_
      refine Wc.condN rfl (by first | assumption | omega) ?_
      refine Wc.skip ?_
      refine Ar.next ?_
      refine Wc.seq ?_
      refine Wc.seq ?_
      refine Wc.region rfl ?_
      refine Wl.q rfl (Qy.loadAll 2 T.agg34 rfl rfl rfl) ?_
      refine Wl.q rfl (Qy.loadAll 4 T.agg34 rfl rfl rfl) ?_
      refine Wl.q rfl (Qy.neqInstr T.ai34 rfl rfl) ?_
      refine Wl.q rfl (Qy.move rfl) ?_
      refine Wl.no 44 rfl (by first | assumption | omega) ?_
      refine Wl.want rfl rfl ?_
      refine Wl.q rfl (Qy.move rfl) ?_
      refine Wl.want rfl rfl ?_
      refine Wl.q rfl (Qy.move rfl) ?_
      refine Wl.want rfl rfl ?_
      refine Wl.q rfl (Qy.move rfl) ?_
      refine Wl.yes 47 rfl (by first | assumption | omega) ?_
      refine Wl.want rfl rfl ?_
      refine Wl.q rfl (Qy.loadAll 4 T.agg34 rfl rfl rfl) ?_
      refine Wl.want rfl rfl ?_
      refine Wl.q rfl (Qy.loadAll 0 T.agg34 rfl rfl rfl) ?_
      refine Wl.want rfl rfl ?_
      refine Wl.q rfl (Qy.neqInstr T.ai34 rfl rfl) ?_
      refine Wl.want rfl rfl ?_
      refine Wl.q rfl (Qy.pick rfl rfl) ?_
      refine Wl.want rfl rfl ?_
      refine Wl.q rfl (Qy.neqB T.u4 rfl rfl) ?_
      refine Wl.q rfl (Qy.pick rfl rfl) ?_
      refine Wl.q rfl (Qy.move rfl) ?_
      refine Wl.no 54 rfl (by first | assumption | omega) ?_
      refine Wl.want rfl rfl ?_
      refine Wl.q rfl (Qy.loadAll 3 T.agg34 rfl rfl rfl) ?_
      refine Wl.want rfl rfl ?_
      refine Wl.q rfl (Qy.loadAll 5 T.agg34 rfl rfl rfl) ?_
      refine Wl.want rfl rfl ?_
      refine Wl.q rfl (Qy.neqI [_, _, _, _, _] [_, _, _, _, _] T.ai34 rfl rfl rfl rfl) ?_
      refine Wl.q rfl (Qy.pick rfl rfl) ?_
      refine Wl.q rfl (Qy.move rfl) ?_
      refine Wl.no 59 rfl (by first | assumption | omega) ?_
      refine Wl.want rfl rfl ?_
      refine Wl.q rfl (Qy.move rfl) ?_
      refine Wl.want rfl rfl ?_
      refine Wl.q rfl (Qy.move rfl) ?_
      refine Wl.want rfl rfl ?_
      refine Wl.q rfl (Qy.move rfl) ?_
      refine Wl.no 62 rfl (by first | assumption | omega) ?_
      refine Wl.pass rfl rfl rfl ?_
      refine Wl.pass rfl rfl rfl ?_
      refine Wl.pass rfl rfl rfl ?_
      refine Wl.want rfl rfl ?_
      refine Wl.q rfl (Qy.pick rfl rfl) ?_
      refine Wl.want rfl rfl ?_
      refine Wl.q rfl (Qy.neqB T.u4 rfl rfl) ?_
      refine Wl.q rfl (Qy.pick rfl rfl) ?_
      refine Wl.done ?_
      refine Ar.next ?_
      refine Wc.condN rfl (by first | assumption | omega) ?_
      refine Wc.skip ?_
      refine Ar.next ?_
      refine Wc.seq ?_
      refine Wc.region rfl ?_
      refine Wl.q rfl (Qy.loadAll 0 T.agg34 rfl rfl rfl) ?_
      refine Wl.q rfl (Qy.loadAll 1 T.agg34 rfl rfl rfl) ?_
      refine Wl.call0 rfl T.fn16 rfl (by first | exact c16Y _ (by assumption) _ _ (by assumption) (by assumption) (by assumption) (by assumption) | exact c16N _ (by assumption) _ _ (by assumption)) ?_
      refine Wl.q rfl (Qy.move rfl) ?_
      refine Wl.q rfl (Qy.extract rfl rfl) ?_
      refine Wl.q rfl (Qy.extract rfl rfl) ?_
      refine Wl.alloc 6 rfl T.zero34 (fun b7 => ?_)
      refine Wl.storeAll 6 T.size34 rfl rfl rfl rfl rfl rfl ?_
      refine Wl.q rfl (Qy.assign rfl) ?_
      refine Wl.done ?_
      refine Ar.next ?_
      refine Wc.seq ?_
      refine Wc.seq ?_
      refine Wc.region rfl ?_
      refine Wl.q rfl (Qy.move rfl) ?_
      refine Wl.q rfl (Qy.notD rfl) ?_
      refine Wl.q rfl (Qy.move rfl) ?_
      apply Wl.joinOr 3 77 80 rfl
      intro hg1
      refine Wl.want rfl rfl ?_
      refine Wl.q rfl (Qy.move rfl) ?_
      refine Wl.want rfl rfl ?_
      refine Wl.q rfl (Qy.notD rfl) ?_
      refine Wl.q rfl (Qy.pick rfl rfl) ?_
      exact Wl.back 3 0 rfl rfl rfl rfl rfl
      intro hg1
      refine Wl.pass rfl rfl rfl ?_
      refine Wl.pass rfl rfl rfl ?_
      refine Wl.q rfl (Qy.pick rfl rfl) ?_
      exact Wl.back 3 0 rfl rfl rfl rfl rfl
      refine Wl.q rfl (Qy.move rfl) ?_
      apply Wl.joinOr 4 81 85 rfl
      intro hg1
      refine Wl.want rfl rfl ?_
      refine Wl.q rfl (Qy.loadAll 4 T.agg34 rfl rfl rfl) ?_
      refine Wl.want rfl rfl ?_
      refine Wl.q rfl (Qy.loadAll 0 T.agg34 rfl rfl rfl) ?_
      refine Wl.want rfl rfl ?_
      refine Wl.q rfl (Qy.neqInstr T.ai34 rfl rfl) ?_
      refine Wl.q rfl (Qy.pick rfl rfl) ?_
      exact Wl.back 4 0 rfl rfl rfl rfl rfl
      intro hg1
      refine Wl.pass rfl rfl rfl ?_
      refine Wl.pass rfl rfl rfl ?_
      refine Wl.pass rfl rfl rfl ?_
      refine Wl.q rfl (Qy.pick rfl rfl) ?_
      exact Wl.back 4 0 rfl rfl rfl rfl rfl
      refine Wl.q rfl (Qy.move rfl) ?_
      apply Wl.joinOr 4 86 90 rfl
      intro hg1
      refine Wl.want rfl rfl ?_
      refine Wl.q rfl (Qy.loadAll 5 T.agg34 rfl rfl rfl) ?_
      refine Wl.want rfl rfl ?_
      refine Wl.q rfl (Qy.loadAll 1 T.agg34 rfl rfl rfl) ?_
      refine Wl.want rfl rfl ?_
      refine Wl.q rfl (Qy.neqI [_, _, _, _, _] [_, _, _, _, _] T.ai34 rfl rfl rfl rfl) ?_
      refine Wl.q rfl (Qy.pick rfl rfl) ?_
      exact Wl.back 4 0 rfl rfl rfl rfl rfl
      intro hg1
      refine Wl.pass rfl rfl rfl ?_
      refine Wl.pass rfl rfl rfl ?_
      refine Wl.pass rfl rfl rfl ?_
      refine Wl.q rfl (Qy.pick rfl rfl) ?_
      exact Wl.back 4 0 rfl rfl rfl rfl rfl
      refine Wl.done ?_
      refine Ar.next ?_
      refine Wc.condP rfl (by first | assumption | omega) ?_
      refine Wc.seq ?_
      refine Wc.region rfl ?_
      refine Wl.q rfl (Qy.loadAll 6 T.agg34 rfl rfl rfl) ?_
      refine Wl.q rfl (Qy.build (cs := [_, _, _, _, _]) T.st34 rfl rfl rfl) ?_
      refine Wl.q rfl (Qy.eqlI [_, _, _, _, _] [_, _, _, _, _] T.ai34 rfl rfl rfl rfl) ?_
      refine Wl.q rfl (Qy.move rfl) ?_
      refine Wl.yes 94 rfl (by first | assumption | omega) ?_
      refine Wl.want rfl rfl ?_
      refine Wl.q rfl (Qy.move rfl) ?_
      refine Wl.want rfl rfl ?_
      refine Wl.q rfl (Qy.not rfl) ?_
      refine Wl.q rfl (Qy.pick rfl rfl) ?_
      refine Wl.q rfl (Qy.assign rfl) ?_
      refine Wl.done ?_
      refine Ar.next ?_
      refine Wc.ret ?_
      refine Ar.passRet ?_
      refine Ar.out1 (.inr rfl) (Ho := Hp.only _ []) rfl (.tmp rfl) (Hp.sub_only _ _) ?_
      all_goals exact ⟨by simp, rfl, rfl⟩
  · have hN : ¬ (mayOk a 128 = true ∧ mayOk b 128 = true ∧ plainP a = a ∧ plainP b = b) := fun h => hA h.1
    by_cases hB : mayOk b 128 = true
    · have kb := const_fits (may_const hB)
      have hK1 : ¬ (decide (plainP b ≠ b) ≠ decide (plainP b ≠ b)) := by simp
      refine Wc.seq ?_
      refine Wc.region rfl ?_
      refine Wl.box 0 rfl rfl rfl (fun b1 => ?_)
      refine Wl.box 1 rfl rfl rfl (fun b2 => ?_)
      refine Wl.q rfl (Qy.assign rfl) ?_
      refine Wl.done ?_
      refine Ar.next ?_
      refine Wc.seq ?_
      refine Wc.seq ?_
      refine Wc.region rfl ?_
      refine Wl.call0 rfl T.fn7 rfl (c7 _ (by assumption)) ?_
      refine Wl.q rfl (Qy.not rfl) ?_
      refine Wl.done ?_
      refine Ar.next ?_
      refine Wc.condF rfl ?_
      refine Wc.skip ?_
      refine Ar.next ?_
      refine Wc.seq ?_
      refine Wc.region rfl ?_
      refine Wl.q rfl (Qy.loadAll 0 T.agg34 rfl rfl rfl) ?_
      refine Wl.call0 rfl T.fn15 rfl (by first | exact c15Y _ (by assumption) _ (by assumption) | exact c15N _ (by assumption) _ (by assumption)) ?_
      refine Wl.q rfl (Qy.move rfl) ?_
      refine Wl.q rfl (Qy.extract rfl rfl) ?_
      refine Wl.q rfl (Qy.extract rfl rfl) ?_
      refine Wl.alloc 2 rfl T.zero34 (fun b3 => ?_)
      refine Wl.storeAll 2 T.size34 rfl rfl rfl rfl rfl rfl ?_
      refine Wl.q rfl (Qy.assign rfl) ?_
      refine Wl.done ?_
      refine Ar.next ?_
      refine Wc.seq ?_
      refine Wc.region rfl ?_
      refine Wl.q rfl (Qy.loadAll 1 T.agg34 rfl rfl rfl) ?_
      refine Wl.call0 rfl T.fn15 rfl (by first | exact c15Y _ (by assumption) _ (by assumption) | exact c15N _ (by assumption) _ (by assumption)) ?_
      refine Wl.q rfl (Qy.move rfl) ?_
      refine Wl.q rfl (Qy.extract rfl rfl) ?_
      refine Wl.q rfl (Qy.extract rfl rfl) ?_
      refine Wl.alloc 3 rfl T.zero34 (fun b4 => ?_)
      refine Wl.storeAll 3 T.size34 rfl rfl rfl rfl rfl rfl ?_
      refine Wl.q rfl (Qy.assign rfl) ?_
      refine Wl.done ?_
      refine Ar.next ?_
      refine Wc.seq ?_
      refine Wc.draw [0, 1, 2, 3] [] T.mixed rfl ?_
      refine Gm.q 0 [0] (by kernel_rfl) rfl rfl (Qy.loadAll 0 T.agg34 rfl rfl rfl) ?_
      refine Gm.q 2 [1] (by kernel_rfl) rfl rfl (Qy.loadAll 1 T.agg34 rfl rfl rfl) ?_
      refine Gm.one 1 ⟨rfl, rfl, rfl, rfl, trivial⟩ (by first | exact Imm.le_refl _ | assumption) (by kernel_rfl) rfl ?_
      refine Wl.call0 rfl T.fn17 rfl (c17 _ _ _) ?_
      refine Wl.on0 ?_
      refine Gm.one 3 ⟨rfl, rfl, rfl, rfl, trivial⟩ (by first | exact Imm.le_refl _ | assumption) (by kernel_rfl) rfl ?_
      refine Wl.call0 rfl T.fn17 rfl (c17 _ _ _) ?_
      refine Wl.on0 ?_
      refine Gm.q 4 [] (by kernel_rfl) rfl rfl (Qy.assign rfl) ?_
      refine Gm.q 5 [] (by kernel_rfl) rfl rfl (Qy.assign rfl) ?_
      refine Gm.doneA (by kernel_rfl) ⟨rfl, rfl, rfl, rfl, trivial⟩ (by first | exact Imm.le_refl _ | assumption) ?_
      refine Ar.next ?_
      refine Wc.seq ?_
      refine Wc.region rfl ?_
      refine Wl.q rfl (Qy.build (cs := [_, _, _, _, _]) T.st34 rfl rfl rfl) ?_
      refine Wl.q rfl (Qy.build (cs := [_, _, _, _, _]) T.st34 rfl rfl rfl) ?_
      refine Wl.alloc 4 rfl T.zero34 (fun b5 => ?_)
      refine Wl.alloc 5 rfl T.zero34 (fun b6 => ?_)
      refine Wl.storeAll 4 T.size34 rfl rfl rfl rfl rfl rfl ?_
      refine Wl.storeAll 5 T.size34 rfl rfl rfl rfl rfl rfl ?_
      refine Wl.done ?_
      refine Ar.next ?_
      refine Wc.seq ?_
      refine Wc.seq ?_
      refine Wc.region rfl ?_
      refine Wl.q rfl (Qy.move rfl) ?_
      refine Wl.done ?_
      refine Ar.next ?_
      refine Wc.condN rfl (by first | assumption | omega) ?_
      refine Wc.skip ?_
      refine Ar.next ?_
      refine Wc.seq ?_
      refine Wc.seq ?_
      refine Wc.region rfl ?_
      refine Wl.q rfl (Qy.move rfl) ?_
      refine Wl.done ?_
      refine Ar.next ?_
      refine Wc.condP rfl (by first | assumption | omega) ?_
      refine Wc.region rfl ?_
      refine Wl.q rfl (Qy.loadAll 1 T.agg34 rfl rfl rfl) ?_
      refine Wl.call0 rfl T.fn18 rfl (c18 _ _ (by assumption)) ?_
      refine Wl.storeAll 5 T.size34 rfl rfl rfl rfl rfl rfl ?_
      refine Wl.done ?_
      refine Ar.next ?_
      refine Wc.seq ?_
      refine Wc.seq ?_
      refine Wc.region rfl ?_
      refine Wl.q rfl (Qy.loadAll 2 T.agg34 rfl rfl rfl) ?_
      refine Wl.q rfl (Qy.loadAll 4 T.agg34 rfl rfl rfl) ?_
      refine Wl.q rfl (Qy.neqI [_, _, _, _, _] [_, _, _, _, _] T.ai34 rfl rfl rfl rfl) ?_
      refine Wl.q rfl (Qy.move rfl) ?_
      refine Wl.no 44 rfl (by first | assumption | omega) ?_
      refine Wl.want rfl rfl ?_
      refine Wl.q rfl (Qy.move rfl) ?_
      refine Wl.want rfl rfl ?_
      refine Wl.q rfl (Qy.move rfl) ?_
      refine Wl.want rfl rfl ?_
      refine Wl.q rfl (Qy.move rfl) ?_
      refine Wl.no 47 rfl (by first | assumption | omega) ?_
      refine Wl.pass rfl rfl rfl ?_
      refine Wl.pass rfl rfl rfl ?_
      refine Wl.pass rfl rfl rfl ?_
      refine Wl.want rfl rfl ?_
      refine Wl.q rfl (Qy.pick rfl rfl) ?_
      refine Wl.want rfl rfl ?_
      refine Wl.q rfl (Qy.neqB T.u4 rfl rfl) ?_
      refine Wl.q rfl (Qy.pick rfl rfl) ?_
      refine Wl.q rfl (Qy.move rfl) ?_
      refine Wl.no 54 rfl (by first | assumption | omega) ?_
      refine Wl.want rfl rfl ?_
      refine Wl.q rfl (Qy.loadAll 3 T.agg34 rfl rfl rfl) ?_
      refine Wl.want rfl rfl ?_
      refine Wl.q rfl (Qy.loadAll 5 T.agg34 rfl rfl rfl) ?_
      refine Wl.want rfl rfl ?_
      refine Wl.q rfl (Qy.neqInstr T.ai34 rfl rfl) ?_
      refine Wl.q rfl (Qy.pick rfl rfl) ?_
      refine Wl.q rfl (Qy.move rfl) ?_
      refine Wl.no 59 rfl (by first | assumption | omega) ?_
      refine Wl.want rfl rfl ?_
      refine Wl.q rfl (Qy.move rfl) ?_
      refine Wl.want rfl rfl ?_
      refine Wl.q rfl (Qy.move rfl) ?_
      refine Wl.want rfl rfl ?_
      refine Wl.q rfl (Qy.move rfl) ?_
      refine Wl.yes 62 rfl (by first | assumption | omega) ?_
      refine Wl.want rfl rfl ?_
      refine Wl.q rfl (Qy.loadAll 5 T.agg34 rfl rfl rfl) ?_
      refine Wl.want rfl rfl ?_
      refine Wl.q rfl (Qy.loadAll 1 T.agg34 rfl rfl rfl) ?_
      refine Wl.want rfl rfl ?_
      refine Wl.q rfl (Qy.neqInstr T.ai34 rfl rfl) ?_
      refine Wl.want rfl rfl ?_
      refine Wl.q rfl (Qy.pick rfl rfl) ?_
      refine Wl.want rfl rfl ?_
      refine Wl.q rfl (Qy.neqB T.u4 rfl rfl) ?_
      refine Wl.q rfl (Qy.pick rfl rfl) ?_
      refine Wl.done ?_
      refine Ar.next ?_
      refine Wc.condN rfl (by first | assumption | omega) ?_
      refine Wc.skip ?_
      refine Ar.next ?_
      refine Wc.seq ?_
      refine Wc.region rfl ?_
      refine Wl.q rfl (Qy.loadAll 0 T.agg34 rfl rfl rfl) ?_
      refine Wl.q rfl (Qy.loadAll 1 T.agg34 rfl rfl rfl) ?_
      refine Wl.call0 rfl T.fn16 rfl (by first | exact c16Y _ (by assumption) _ _ (by assumption) (by assumption) (by assumption) (by assumption) | exact c16N _ (by assumption) _ _ (by assumption)) ?_
      refine Wl.q rfl (Qy.move rfl) ?_
      refine Wl.q rfl (Qy.extract rfl rfl) ?_
      refine Wl.q rfl (Qy.extract rfl rfl) ?_
      refine Wl.alloc 6 rfl T.zero34 (fun b7 => ?_)
      refine Wl.storeAll 6 T.size34 rfl rfl rfl rfl rfl rfl ?_
      refine Wl.q rfl (Qy.assign rfl) ?_
      refine Wl.done ?_
      refine Ar.next ?_
      refine Wc.seq ?_
      refine Wc.seq ?_
      refine Wc.region rfl ?_
      refine Wl.q rfl (Qy.move rfl) ?_
      refine Wl.q rfl (Qy.notD rfl) ?_
      refine Wl.q rfl (Qy.move rfl) ?_
      refine Wl.yes 77 rfl (by first | assumption | omega) ?_
      refine Wl.pass rfl rfl rfl ?_
      refine Wl.pass rfl rfl rfl ?_
      refine Wl.q rfl (Qy.pick rfl rfl) ?_
      refine Wl.q rfl (Qy.move rfl) ?_
      refine Wl.pass rfl rfl rfl ?_
      refine Wl.pass rfl rfl rfl ?_
      refine Wl.pass rfl rfl rfl ?_
      refine Wl.q rfl (Qy.pick rfl rfl) ?_
      refine Wl.q rfl (Qy.move rfl) ?_
      refine Wl.pass rfl rfl rfl ?_
      refine Wl.pass rfl rfl rfl ?_
      refine Wl.pass rfl rfl rfl ?_
      refine Wl.q rfl (Qy.pick rfl rfl) ?_
      refine Wl.done ?_
      refine Ar.next ?_
      refine Wc.condT rfl ?_
      refine Wc.seq ?_
      refine Wc.region rfl ?_
      refine Wl.q rfl (Qy.loadAll 6 T.agg34 rfl rfl rfl) ?_
      refine Wl.q rfl (Qy.build (cs := [_, _, _, _, _]) T.st34 rfl rfl rfl) ?_
      refine Wl.q rfl (Qy.eqlI [_, _, _, _, _] [_, _, _, _, _] T.ai34 rfl rfl rfl rfl) ?_
      refine Wl.q rfl (Qy.move rfl) ?_
      refine Wl.yes 94 rfl (by first | assumption | omega) ?_
      refine Wl.want rfl rfl ?_
      refine Wl.q rfl (Qy.move rfl) ?_
      refine Wl.want rfl rfl ?_
      refine Wl.q rfl (Qy.not rfl) ?_
      refine Wl.q rfl (Qy.pick rfl rfl) ?_
      refine Wl.q rfl (Qy.assign rfl) ?_
      refine Wl.done ?_
      refine Ar.next ?_
      refine Wc.ret ?_
      refine Ar.passRet ?_
      refine Ar.out1 (.inr rfl) (Ho := Hp.only _ []) rfl (.tmp rfl) (Hp.sub_only _ _) ?_
      all_goals exact ⟨by simp, rfl, rfl⟩
    · refine Wc.seq ?_
      refine Wc.region rfl ?_
      refine Wl.box 0 rfl rfl rfl (fun b1 => ?_)
      refine Wl.box 1 rfl rfl rfl (fun b2 => ?_)
      refine Wl.q rfl (Qy.assign rfl) ?_
      refine Wl.done ?_
      refine Ar.next ?_
      refine Wc.seq ?_
      refine Wc.seq ?_
      refine Wc.region rfl ?_
      refine Wl.call0 rfl T.fn7 rfl (c7 _ (by assumption)) ?_
      refine Wl.q rfl (Qy.not rfl) ?_
      refine Wl.done ?_
      refine Ar.next ?_
      refine Wc.condF rfl ?_
      refine Wc.skip ?_
      refine Ar.next ?_
      refine Wc.seq ?_
      refine Wc.region rfl ?_
      refine Wl.q rfl (Qy.loadAll 0 T.agg34 rfl rfl rfl) ?_
      refine Wl.call0 rfl T.fn15 rfl (by first | exact c15Y _ (by assumption) _ (by assumption) | exact c15N _ (by assumption) _ (by assumption)) ?_
      refine Wl.q rfl (Qy.move rfl) ?_
      refine Wl.q rfl (Qy.extract rfl rfl) ?_
      refine Wl.q rfl (Qy.extract rfl rfl) ?_
      refine Wl.alloc 2 rfl T.zero34 (fun b3 => ?_)
      refine Wl.storeAll 2 T.size34 rfl rfl rfl rfl rfl rfl ?_
      refine Wl.q rfl (Qy.assign rfl) ?_
      refine Wl.done ?_
      refine Ar.next ?_
      refine Wc.seq ?_
      refine Wc.region rfl ?_
      refine Wl.q rfl (Qy.loadAll 1 T.agg34 rfl rfl rfl) ?_
      refine Wl.call0 rfl T.fn15 rfl (by first | exact c15Y _ (by assumption) _ (by assumption) | exact c15N _ (by assumption) _ (by assumption)) ?_
      refine Wl.q rfl (Qy.move rfl) ?_
      refine Wl.q rfl (Qy.extract rfl rfl) ?_
      refine Wl.q rfl (Qy.extract rfl rfl) ?_
      refine Wl.alloc 3 rfl T.zero34 (fun b4 => ?_)
      refine Wl.storeAll 3 T.size34 rfl rfl rfl rfl rfl rfl ?_
      refine Wl.q rfl (Qy.assign rfl) ?_
      refine Wl.done ?_
      refine Ar.next ?_
      refine Wc.seq ?_
      refine Wc.draw [0, 1, 2, 3] [] T.mixed rfl ?_
      refine Gm.q 0 [0] (by kernel_rfl) rfl rfl (Qy.loadAll 0 T.agg34 rfl rfl rfl) ?_
      refine Gm.q 2 [1] (by kernel_rfl) rfl rfl (Qy.loadAll 1 T.agg34 rfl rfl rfl) ?_
      refine Gm.one 1 ⟨rfl, rfl, rfl, rfl, trivial⟩ (by first | exact Imm.le_refl _ | assumption) (by kernel_rfl) rfl ?_
      refine Wl.call0 rfl T.fn17 rfl (c17 _ _ _) ?_
      refine Wl.on0 ?_
      refine Gm.one 3 ⟨rfl, rfl, rfl, rfl, trivial⟩ (by first | exact Imm.le_refl _ | assumption) (by kernel_rfl) rfl ?_
      refine Wl.call0 rfl T.fn17 rfl (c17 _ _ _) ?_
      refine Wl.on0 ?_
      refine Gm.q 4 [] (by kernel_rfl) rfl rfl (Qy.assign rfl) ?_
      refine Gm.q 5 [] (by kernel_rfl) rfl rfl (Qy.assign rfl) ?_
      refine Gm.doneA (by kernel_rfl) ⟨rfl, rfl, rfl, rfl, trivial⟩ (by first | exact Imm.le_refl _ | assumption) ?_
      refine Ar.next ?_
      refine Wc.seq ?_
      refine Wc.region rfl ?_
      refine Wl.q rfl (Qy.build (cs := [_, _, _, _, _]) T.st34 rfl rfl rfl) ?_
      refine Wl.q rfl (Qy.build (cs := [_, _, _, _, _]) T.st34 rfl rfl rfl) ?_
      refine Wl.alloc 4 rfl T.zero34 (fun b5 => ?_)
      refine Wl.alloc 5 rfl T.zero34 (fun b6 => ?_)
      refine Wl.storeAll 4 T.size34 rfl rfl rfl rfl rfl rfl ?_
      refine Wl.storeAll 5 T.size34 rfl rfl rfl rfl rfl rfl ?_
      refine Wl.done ?_
      refine Ar.next ?_
      refine Wc.seq ?_
      refine Wc.seq ?_
      refine Wc.region rfl ?_
      refine Wl.q rfl (Qy.move rfl) ?_
      refine Wl.done ?_
      refine Ar.next ?_
      refine Wc.condN rfl (by first | assumption | omega) ?_
      refine Wc.skip ?_
      refine Ar.next ?_
      refine Wc.seq ?_
      refine Wc.seq ?_
      refine Wc.region rfl ?_
      refine Wl.q rfl (Qy.move rfl) ?_
      refine Wl.done ?_
      refine Ar.next ?_
      refine Wc.condN rfl (by first | assumption | omega) ?_
      refine Wc.skip ?_
      refine Ar.next ?_
      refine Wc.seq ?_
      refine Wc.seq ?_
      refine Wc.region rfl ?_
      refine Wl.q rfl (Qy.loadAll 2 T.agg34 rfl rfl rfl) ?_
      refine Wl.q rfl (Qy.loadAll 4 T.agg34 rfl rfl rfl) ?_
      refine Wl.q rfl (Qy.neqI [_, _, _, _, _] [_, _, _, _, _] T.ai34 rfl rfl rfl rfl) ?_
      refine Wl.q rfl (Qy.move rfl) ?_
      refine Wl.no 44 rfl (by first | assumption | omega) ?_
      refine Wl.want rfl rfl ?_
      refine Wl.q rfl (Qy.move rfl) ?_
      refine Wl.want rfl rfl ?_
      refine Wl.q rfl (Qy.move rfl) ?_
      refine Wl.want rfl rfl ?_
      refine Wl.q rfl (Qy.move rfl) ?_
      refine Wl.no 47 rfl (by first | assumption | omega) ?_
      refine Wl.pass rfl rfl rfl ?_
      refine Wl.pass rfl rfl rfl ?_
      refine Wl.pass rfl rfl rfl ?_
      refine Wl.want rfl rfl ?_
      refine Wl.q rfl (Qy.pick rfl rfl) ?_
      refine Wl.want rfl rfl ?_
      refine Wl.q rfl (Qy.neqB T.u4 rfl rfl) ?_
      refine Wl.q rfl (Qy.pick rfl rfl) ?_
      refine Wl.q rfl (Qy.move rfl) ?_
      refine Wl.no 54 rfl (by first | assumption | omega) ?_
      refine Wl.want rfl rfl ?_
      refine Wl.q rfl (Qy.loadAll 3 T.agg34 rfl rfl rfl) ?_
      refine Wl.want rfl rfl ?_
      refine Wl.q rfl (Qy.loadAll 5 T.agg34 rfl rfl rfl) ?_
      refine Wl.want rfl rfl ?_
      refine Wl.q rfl (Qy.neqI [_, _, _, _, _] [_, _, _, _, _] T.ai34 rfl rfl rfl rfl) ?_
      refine Wl.q rfl (Qy.pick rfl rfl) ?_
      refine Wl.q rfl (Qy.move rfl) ?_
      refine Wl.no 59 rfl (by first | assumption | omega) ?_
      refine Wl.want rfl rfl ?_
      refine Wl.q rfl (Qy.move rfl) ?_
      refine Wl.want rfl rfl ?_
      refine Wl.q rfl (Qy.move rfl) ?_
      refine Wl.want rfl rfl ?_
      refine Wl.q rfl (Qy.move rfl) ?_
      refine Wl.no 62 rfl (by first | assumption | omega) ?_
      refine Wl.pass rfl rfl rfl ?_
      refine Wl.pass rfl rfl rfl ?_
      refine Wl.pass rfl rfl rfl ?_
      refine Wl.want rfl rfl ?_
      refine Wl.q rfl (Qy.pick rfl rfl) ?_
      refine Wl.want rfl rfl ?_
      refine Wl.q rfl (Qy.neqB T.u4 rfl rfl) ?_
      refine Wl.q rfl (Qy.pick rfl rfl) ?_
      refine Wl.done ?_
      refine Ar.next ?_
      refine Wc.condN rfl (by first | assumption | omega) ?_
      refine Wc.skip ?_
      refine Ar.next ?_
      refine Wc.seq ?_
      refine Wc.region rfl ?_
      refine Wl.q rfl (Qy.loadAll 0 T.agg34 rfl rfl rfl) ?_
      refine Wl.q rfl (Qy.loadAll 1 T.agg34 rfl rfl rfl) ?_
      refine Wl.call0 rfl T.fn16 rfl (by first | exact c16Y _ (by assumption) _ _ (by assumption) (by assumption) (by assumption) (by assumption) | exact c16N _ (by assumption) _ _ (by assumption)) ?_
      refine Wl.q rfl (Qy.move rfl) ?_
      refine Wl.q rfl (Qy.extract rfl rfl) ?_
      refine Wl.q rfl (Qy.extract rfl rfl) ?_
      refine Wl.alloc 6 rfl T.zero34 (fun b7 => ?_)
      refine Wl.storeAll 6 T.size34 rfl rfl rfl rfl rfl rfl ?_
      refine Wl.q rfl (Qy.assign rfl) ?_
      refine Wl.done ?_
      refine Ar.next ?_
      refine Wc.seq ?_
      refine Wc.seq ?_
      refine Wc.region rfl ?_
      refine Wl.q rfl (Qy.move rfl) ?_
      refine Wl.q rfl (Qy.notD rfl) ?_
      refine Wl.q rfl (Qy.move rfl) ?_
      refine Wl.yes 77 rfl (by first | assumption | omega) ?_
      refine Wl.pass rfl rfl rfl ?_
      refine Wl.pass rfl rfl rfl ?_
      refine Wl.q rfl (Qy.pick rfl rfl) ?_
      refine Wl.q rfl (Qy.move rfl) ?_
      refine Wl.pass rfl rfl rfl ?_
      refine Wl.pass rfl rfl rfl ?_
      refine Wl.pass rfl rfl rfl ?_
      refine Wl.q rfl (Qy.pick rfl rfl) ?_
      refine Wl.q rfl (Qy.move rfl) ?_
      refine Wl.pass rfl rfl rfl ?_
      refine Wl.pass rfl rfl rfl ?_
      refine Wl.pass rfl rfl rfl ?_
      refine Wl.q rfl (Qy.pick rfl rfl) ?_
      refine Wl.done ?_
      refine Ar.next ?_
      refine Wc.condT rfl ?_
      refine Wc.seq ?_
      refine Wc.region rfl ?_
      refine Wl.q rfl (Qy.loadAll 6 T.agg34 rfl rfl rfl) ?_
      refine Wl.q rfl (Qy.build (cs := [_, _, _, _, _]) T.st34 rfl rfl rfl) ?_
      refine Wl.q rfl (Qy.eqlI [_, _, _, _, _] [_, _, _, _, _] T.ai34 rfl rfl rfl rfl) ?_
      refine Wl.q rfl (Qy.move rfl) ?_
      refine Wl.yes 94 rfl (by first | assumption | omega) ?_
      refine Wl.want rfl rfl ?_
      refine Wl.q rfl (Qy.move rfl) ?_
      refine Wl.want rfl rfl ?_
      refine Wl.q rfl (Qy.not rfl) ?_
      refine Wl.q rfl (Qy.pick rfl rfl) ?_
      refine Wl.q rfl (Qy.assign rfl) ?_
      refine Wl.done ?_
      refine Ar.next ?_
      refine Wc.ret ?_
      refine Ar.passRet ?_
      refine Ar.out1 (.inr rfl) (Ho := Hp.only _ []) rfl (.tmp rfl) (Hp.sub_only _ _) ?_
      all_goals exact ⟨by simp, rfl, rfl⟩
end Go.Proofs.YtfleehgbpgmcnaaDoor
