/- Parts of the proof (part 4): what the rows' text needs of the texts that lead to it. -/
import Derived.Test.YtelbhbbiejalhaaGreatMUc
set_option linter.unusedVariables false
set_option linter.unusedSimpArgs false
set_option linter.unusedSectionVars false
set_option maxRecDepth 100000
set_option linter.unusedVariables false
namespace Go.Proofs.YtelbhbbiejalhaaGreat
open Go Go.Sl
theorem c79 (G : Imm) (a b c d : Int) (hp : near a b) (hq : near c d) : Does Tryz.prog 79 [.agg #[.int .i64 a, .int .i64 b], .agg #[.int .i64 c, .int .i64 d]] G [] (fun v G' Ho => v = .int .i64 (a * d - c * b) ∧ G' = G ∧ Ho = []) := by
  refine Does.enter Tryz.func79 rfl Tryz.ntmps79 rfl (fun w => ?_)
  have m1 := mul_rng hp hq
  have m2 := mul_rng hq hp
  refine Wc.gl 2 [] ?_
  refine Wl.box 0 rfl rfl rfl (fun b1 => ?_)
  refine Wl.box 1 rfl rfl rfl (fun b2 => ?_)
  refine Wl.gl 9 [0, 1] ?_
  refine Wl.q rfl (Qy.mul rfl rfl (by omega)) ?_
  refine Wl.ll0 4 [1, 0] ?_
  refine Wl.q rfl (Qy.mul rfl rfl (by omega)) ?_
  refine Wl.ga 5 [] ?_
  refine Ar.out1 (.inr rfl) (Ho := Hp.only _ []) rfl (.tmp rfl) (Hp.sub_only _ _) ?_
  exact ⟨rfl, rfl, rfl⟩
instance (a b c d : Int) : Decidable (if (a = 0 ∧ b = 0) ∨ (c = 0 ∧ d = 0) then (a = 0 ∧ b = 0) ∧ (c = 0 ∧ d = 0) else a * d - c * b = 0) := by split <;> infer_instance
def oneR (a b c d : Int) : Prop := if (a = 0 ∧ b = 0) ∨ (c = 0 ∧ d = 0) then (a = 0 ∧ b = 0) ∧ (c = 0 ∧ d = 0) else a * d - c * b = 0
instance (a b c d : Int) : Decidable (oneR a b c d) := inferInstanceAs (Decidable (if (a = 0 ∧ b = 0) ∨ (c = 0 ∧ d = 0) then (a = 0 ∧ b = 0) ∧ (c = 0 ∧ d = 0) else a * d - c * b = 0))
theorem c50 (G : Imm) (a b c d : Int) (hp : near a b) (hq : near c d) : Does Tryz.prog 50 [.agg #[.int .i64 a, .int .i64 b], .agg #[.int .i64 c, .int .i64 d]] G [] (fun v G' Ho => v = .bool (decide (oneR a b c d)) ∧ G' = G ∧ Ho = []) := by
  refine Does.enter Tryz.func50 rfl Tryz.ntmps50 rfl (fun w => ?_)
  refine Wc.gl 2 [] ?_
  refine Wl.box 0 rfl rfl rfl (fun b1 => ?_)
  refine Wl.box 1 rfl rfl rfl (fun b2 => ?_)
  refine Wl.gl 7 [0] ?_
  refine Wl.call0 rfl T.fn22 rfl (by apply c22 <;> first | assumption | omega | rfl) ?_
  refine Wl.q rfl (Qy.move rfl) ?_
  apply Wl.joinOr 3 7 10 rfl
  intro hg1
  refine Wl.ll0 3 [1] ?_
  refine Wl.call0 rfl T.fn22 rfl (by apply c22 <;> first | assumption | omega | rfl) ?_
  refine Wl.q rfl (Qy.pick rfl rfl) ?_
  exact Wl.back 3 0 rfl rfl rfl rfl rfl
  intro hg1
  refine Wl.ll0 3 [] ?_
  exact Wl.back 3 0 rfl rfl rfl rfl rfl
  refine Wl.gc 2 [] ?_
  refine Wc.cond rfl (fun hc1 => ?_) (fun hc1 => ?_)
  refine Wc.gl 3 [0] ?_
  refine Wl.call0 rfl T.fn22 rfl (by apply c22 <;> first | assumption | omega | rfl) ?_
  refine Wl.q rfl (Qy.move rfl) ?_
  apply Wl.joinAnd 3 13 16 rfl
  intro hg1
  refine Wl.ll0 3 [1] ?_
  refine Wl.call0 rfl T.fn22 rfl (by apply c22 <;> first | assumption | omega | rfl) ?_
  refine Wl.q rfl (Qy.pick rfl rfl) ?_
  exact Wl.back 3 0 rfl rfl rfl rfl rfl
  intro hg1
  refine Wl.ll0 3 [] ?_
  exact Wl.back 3 0 rfl rfl rfl rfl rfl
  refine Wl.ga 5 [] ?_
  refine Ar.out1 (.inr rfl) (Ho := Hp.only _ []) rfl (.tmp rfl) (Hp.sub_only _ _) ?_
  rotate_left
  refine Wc.gl 6 [0, 1] ?_
  refine Wl.call0 rfl T.fn79 rfl (c79 _ _ _ _ _ (by assumption) (by assumption)) ?_
  refine Wl.ga 5 [] ?_
  refine Ar.out1 (.inr rfl) (Ho := Hp.only _ []) rfl (.tmp rfl) (Hp.sub_only _ _) ?_
  rotate_left
  · exact ⟨by congr 1; exact decide_eq_decide.mpr (by unfold oneR; rw [if_pos hc1]), rfl, rfl⟩
  · exact ⟨by congr 1; exact decide_eq_decide.mpr (by unfold oneR; rw [if_neg hc1]), rfl, rfl⟩
def alikeR (p q : R2) : Prop := near p.a p.b ∧ near q.a q.b ∧ oneR p.a p.b q.a q.b
def TwinR (l : List R2) : Prop := ∃ j, j < l.length ∧ ∃ i, i < j ∧ alikeR (l[i]?.getD default) (l[j]?.getD default)
theorem c23 (G : Imm) (a : Option Addr) (c : Nat) (l : List R2) (ha : Arr G a l) (h1 : l.length ≤ 1048576) (hc : l.length ≤ c) : Does Tryz.prog 23 [.slice a l.length c] G [] (fun v G' Ho => ∃ (i j : Int) (b : Bool), v = .tuple #[.int .i64 i, .int .i64 j, .bool b] ∧ (b = true ↔ TwinR l) ∧ G' = G ∧ Ho = []) := by
  refine Does.enter Tryz.func23 rfl Tryz.ntmps23 rfl (fun w => ?_)
  refine Wc.gc 14 [] ?_
  refine Wc.loop (ι := Nat) (fun j => ([(5, .int .i64 (j : Int)), (0, .slice a l.length c)], [])) (fun j => j ≤ l.length ∧ (∀ j', j' < j → ∀ i, i < j' → ¬ alikeR (l[i]?.getD default) (l[j']?.getD default))) (fun j => l.length - j) (0) (⟨Nat.zero_le _, fun j' h => absurd h (by omega)⟩) ⟨rfl, rfl, trivial⟩ trivial (fun j => fun (hk : j ≤ l.length ∧ (∀ j', j' < j → ∀ i, i < j' → ¬ alikeR (l[i]?.getD default) (l[j']?.getD default))) => ?_)
  obtain ⟨hj, hno⟩ := hk
  refine Wc.gc 9 [] ?_
  refine Wc.cond rfl (fun hc1 => ?_) (fun hc1 => ?_)
  refine Wc.gc 10 [] ?_
  rotate_left
  refine Wc.ga 13 [] ?_
  refine Ar.out3 (.inr rfl) (Ho := Hp.only _ []) rfl (.tmp rfl) (.tmp rfl) (.tmp rfl) (Hp.sub_only _ _) ?_
  rotate_left
  · refine Wc.loop (ι := Nat) (fun i => ([(6, .int .i64 (i : Int)), (5, .int .i64 (j : Int)), (0, .slice a l.length c)], [])) (fun i => i ≤ j ∧ (∀ i', i' < i → ¬ alikeR (l[i']?.getD default) (l[j]?.getD default))) (fun i => j - i) (0) (⟨Nat.zero_le _, fun i' h => absurd h (by omega)⟩) ⟨rfl, rfl, rfl, trivial⟩ trivial (fun i => fun (hk : i ≤ j ∧ (∀ i', i' < i → ¬ alikeR (l[i']?.getD default) (l[j]?.getD default))) => ?_)
    obtain ⟨hi, hni⟩ := hk
    have eti : l[((i : Nat) : Int).toNat]?.getD default = l[i]?.getD default := rfl
    have etj : l[((j : Nat) : Int).toNat]?.getD default = l[j]?.getD default := rfl
    refine Wc.gc 8 [] ?_
    refine Wc.cond rfl (fun hc2 => ?_) (fun hc2 => ?_)
    refine Wc.gc 5 [] ?_
    refine Wc.draw [] [] T.mixed rfl ?_
    refine Gm.q 0 [] (by kernel_rfl) rfl rfl (Qy.move rfl) ?_
    refine Gm.q 1 [] (by kernel_rfl) rfl rfl (Qy.move rfl) ?_
    refine Gm.q 2 [] (by kernel_rfl) rfl rfl (Qy.at (α := R2) T.sl22 rfl rfl (by assumption) (by omega)) ?_
    refine Gm.q 3 [] (by kernel_rfl) rfl rfl (Qy.loadsG T.agg34 rfl (Arr.elem (by assumption) (by omega)) rfl) ?_
    refine Gm.one 4 trivial (by first | exact Imm.le_refl _ | assumption | (refine Imm.le_trans ?_ (by assumption); first | assumption | (refine Imm.le_trans ?_ (by assumption); assumption))) (by kernel_rfl) rfl ?_
    refine Wl.call0 rfl T.fn21 rfl (by apply c21 <;> first | assumption | omega | rfl) ?_
    refine Wl.on0 ?_
    refine Gm.q 5 [] (by kernel_rfl) rfl rfl (Qy.move rfl) ?_
    refine Gm.cases 23 rfl (fun hg1 => ?_) (fun hg1 => ?_)
    refine Gm.qYes 6 [] (by kernel_rfl) rfl rfl rfl rfl (Qy.move rfl) ?_
    refine Gm.qYes 7 [] (by kernel_rfl) rfl rfl rfl rfl (Qy.move rfl) ?_
    refine Gm.qYes 8 [] (by kernel_rfl) rfl rfl rfl rfl (Qy.at (α := R2) T.sl22 rfl rfl (by assumption) (by omega)) ?_
    refine Gm.qYes 9 [] (by kernel_rfl) rfl rfl rfl rfl (Qy.loadsG T.agg34 rfl (Arr.elem (by assumption) (by omega)) rfl) ?_
    refine Gm.one 10 trivial (by first | exact Imm.le_refl _ | assumption | (refine Imm.le_trans ?_ (by assumption); first | assumption | (refine Imm.le_trans ?_ (by assumption); assumption))) (by kernel_rfl) rfl ?_
    refine Wl.want rfl rfl ?_
    refine Wl.call0 rfl T.fn21 rfl (by apply c21 <;> first | assumption | omega | rfl) ?_
    refine Wl.on0 ?_
    refine Gm.q 11 [] (by kernel_rfl) rfl rfl (Qy.pick rfl rfl) ?_
    refine Gm.q 12 [] (by kernel_rfl) rfl rfl (Qy.move rfl) ?_
    refine Gm.cases 30 rfl (fun hg2 => ?_) (fun hg2 => ?_)
    refine Gm.qYes 13 [] (by kernel_rfl) rfl rfl rfl rfl (Qy.move rfl) ?_
    refine Gm.qYes 14 [] (by kernel_rfl) rfl rfl rfl rfl (Qy.move rfl) ?_
    refine Gm.qYes 15 [] (by kernel_rfl) rfl rfl rfl rfl (Qy.at (α := R2) T.sl22 rfl rfl (by assumption) (by omega)) ?_
    refine Gm.qYes 16 [] (by kernel_rfl) rfl rfl rfl rfl (Qy.loadsG T.agg34 rfl (Arr.elem (by assumption) (by omega)) rfl) ?_
    refine Gm.qYes 17 [] (by kernel_rfl) rfl rfl rfl rfl (Qy.move rfl) ?_
    refine Gm.qYes 18 [] (by kernel_rfl) rfl rfl rfl rfl (Qy.move rfl) ?_
    refine Gm.qYes 19 [] (by kernel_rfl) rfl rfl rfl rfl (Qy.at (α := R2) T.sl22 rfl rfl (by assumption) (by omega)) ?_
    refine Gm.qYes 20 [] (by kernel_rfl) rfl rfl rfl rfl (Qy.loadsG T.agg34 rfl (Arr.elem (by assumption) (by omega)) rfl) ?_
    refine Gm.one 21 trivial (by first | exact Imm.le_refl _ | assumption | (refine Imm.le_trans ?_ (by assumption); first | assumption | (refine Imm.le_trans ?_ (by assumption); assumption))) (by kernel_rfl) rfl ?_
    refine Wl.want rfl rfl ?_
    refine Wl.call0 rfl T.fn50 rfl (c50 _ _ _ _ _ (by first | assumption | exact And.left (by assumption)) (by first | assumption | exact And.right (by assumption))) ?_
    refine Wl.on0 ?_
    refine Gm.q 22 [] (by kernel_rfl) rfl rfl (Qy.pick rfl rfl) ?_
    refine Gm.doneA (by kernel_rfl) trivial (by first | exact Imm.le_refl _ | assumption | (refine Imm.le_trans ?_ (by assumption); first | assumption | (refine Imm.le_trans ?_ (by assumption); assumption))) ?_
    refine Ar.next ?_
    refine Wc.cond rfl (fun hc3 => ?_) (fun hc3 => ?_)
    refine Wc.ga 19 [] ?_
    refine Ar.out3 (.inr rfl) (Ho := Hp.only _ []) rfl (.tmp rfl) (.tmp rfl) (.tmp rfl) (Hp.sub_only _ _) ?_
    rotate_left
    refine Wc.ga 8 [] ?_
    rotate_left
    refine Gm.qNo 13 (by kernel_rfl) rfl rfl rfl rfl ?_
    refine Gm.qNo 14 (by kernel_rfl) rfl rfl rfl rfl ?_
    refine Gm.qNo 15 (by kernel_rfl) rfl rfl rfl rfl ?_
    refine Gm.qNo 16 (by kernel_rfl) rfl rfl rfl rfl ?_
    refine Gm.qNo 17 (by kernel_rfl) rfl rfl rfl rfl ?_
    refine Gm.qNo 18 (by kernel_rfl) rfl rfl rfl rfl ?_
    refine Gm.qNo 19 (by kernel_rfl) rfl rfl rfl rfl ?_
    refine Gm.qNo 20 (by kernel_rfl) rfl rfl rfl rfl ?_
    refine Gm.qNo 21 (by kernel_rfl) rfl rfl rfl rfl ?_
    refine Gm.q 22 [] (by kernel_rfl) rfl rfl (Qy.pick rfl rfl) ?_
    refine Gm.doneA (by kernel_rfl) trivial (by first | exact Imm.le_refl _ | assumption | (refine Imm.le_trans ?_ (by assumption); first | assumption | (refine Imm.le_trans ?_ (by assumption); assumption))) ?_
    refine Ar.ga 10 [0] ?_
    rotate_left
    refine Gm.qNo 6 (by kernel_rfl) rfl rfl rfl rfl ?_
    refine Gm.qNo 7 (by kernel_rfl) rfl rfl rfl rfl ?_
    refine Gm.qNo 8 (by kernel_rfl) rfl rfl rfl rfl ?_
    refine Gm.qNo 9 (by kernel_rfl) rfl rfl rfl rfl ?_
    refine Gm.qNo 10 (by kernel_rfl) rfl rfl rfl rfl ?_
    refine Gm.q 11 [] (by kernel_rfl) rfl rfl (Qy.pick rfl rfl) ?_
    refine Gm.q 12 [] (by kernel_rfl) rfl rfl (Qy.move rfl) ?_
    refine Gm.qNo 13 (by kernel_rfl) rfl rfl rfl rfl ?_
    refine Gm.qNo 14 (by kernel_rfl) rfl rfl rfl rfl ?_
    refine Gm.qNo 15 (by kernel_rfl) rfl rfl rfl rfl ?_
    refine Gm.qNo 16 (by kernel_rfl) rfl rfl rfl rfl ?_
    refine Gm.qNo 17 (by kernel_rfl) rfl rfl rfl rfl ?_
    refine Gm.qNo 18 (by kernel_rfl) rfl rfl rfl rfl ?_
    refine Gm.qNo 19 (by kernel_rfl) rfl rfl rfl rfl ?_
    refine Gm.qNo 20 (by kernel_rfl) rfl rfl rfl rfl ?_
    refine Gm.qNo 21 (by kernel_rfl) rfl rfl rfl rfl ?_
    refine Gm.q 22 [] (by kernel_rfl) rfl rfl (Qy.pick rfl rfl) ?_
    refine Gm.doneA (by kernel_rfl) trivial (by first | exact Imm.le_refl _ | assumption | (refine Imm.le_trans ?_ (by assumption); first | assumption | (refine Imm.le_trans ?_ (by assumption); assumption))) ?_
    refine Ar.ga 10 [0] ?_
    rotate_left
    refine Wc.ga 11 [] ?_
    rotate_left
    · exact ⟨_, _, true, rfl, ⟨fun _ => ⟨j, by omega, i, by omega, hg1, hg2, hc3⟩, fun _ => rfl⟩, rfl, rfl⟩
    · refine Ar.re 6 rfl (show _ = Value.int .i64 ((i + 1 : Nat) : Int) from rfl) ?_
      refine Ar.again (i + 1) ?_ ?_ rfl ⟨rfl, rfl, rfl, trivial⟩ trivial
      · refine ⟨by omega, fun i' h2 => ?_⟩
        rcases Nat.lt_or_ge i' i with h | h
        · exact hni i' h
        · have e : i' = i := by omega
          subst e; exact fun hq => hc3 hq.2.2
      · omega
    · refine Ar.re 6 rfl (show _ = Value.int .i64 ((i + 1 : Nat) : Int) from rfl) ?_
      refine Ar.again (i + 1) ?_ ?_ rfl ⟨rfl, rfl, rfl, trivial⟩ trivial
      · refine ⟨by omega, fun i' h2 => ?_⟩
        rcases Nat.lt_or_ge i' i with h | h
        · exact hni i' h
        · have e : i' = i := by omega
          subst e; exact fun hq => hg2 hq.2.1
      · omega
    · refine Ar.re 6 rfl (show _ = Value.int .i64 ((i + 1 : Nat) : Int) from rfl) ?_
      refine Ar.again (i + 1) ?_ ?_ rfl ⟨rfl, rfl, rfl, trivial⟩ trivial
      · refine ⟨by omega, fun i' h2 => ?_⟩
        rcases Nat.lt_or_ge i' i with h | h
        · exact hni i' h
        · have e : i' = i := by omega
          subst e; exact fun hq => hg1 hq.1
      · omega
    · refine Ar.re 5 rfl (show _ = Value.int .i64 ((j + 1 : Nat) : Int) from rfl) ?_
      refine Ar.again (j + 1) ?_ ?_ rfl ⟨rfl, rfl, trivial⟩ trivial
      · refine ⟨by omega, fun j' h1 i h2 => ?_⟩
        rcases Nat.lt_or_ge j' j with h | h
        · exact hno j' h i h2
        · have e : j' = j := by omega
          subst e; exact hni i (by omega)
      · omega
  · refine ⟨0, 0, false, rfl, ⟨fun h => absurd h (by decide), fun ⟨j', h1, i', h2, h3⟩ => absurd h3 (hno j' (by omega) i' h2)⟩, rfl, rfl⟩
def RightR (l : List R2) : Prop := 1 ≤ l.length ∧ l.length ≤ 15 ∧ (∀ i, i < l.length → okP (l[i]?.getD default)) ∧ ¬ TwinR l
theorem c7 (G : Imm) (a : Option Addr) (c : Nat) (l : List R2) (ha : Arr G a l) (h1 : l.length ≤ 1048576) (hc : l.length ≤ c) : Does Tryz.prog 7 [.slice a l.length c] G [] (fun v G' Ho => ∃ b : Bool, v = .bool b ∧ (b = true ↔ RightR l) ∧ G' = G ∧ Ho = []) := by
  refine Does.enter Tryz.func7 rfl Tryz.ntmps7 rfl (fun w => ?_)
  refine Wc.gl 12 [] ?_
  apply Wl.joinOr 4 10 14 rfl
  intro hg1
  refine Wl.ll0 7 [] ?_
  exact Wl.back 4 0 rfl rfl rfl rfl rfl
  intro hg1
  refine Wl.ll0 4 [] ?_
  exact Wl.back 4 0 rfl rfl rfl rfl rfl
  refine Wl.gc 2 [] ?_
  refine Wc.cond rfl (fun hc1 => ?_) (fun hc1 => ?_)
  refine Wc.ga 7 [] ?_
  refine Ar.out1 (.inr rfl) (Ho := Hp.only _ []) rfl (.tmp rfl) (Hp.sub_only _ _) ?_
  rotate_left
  refine Wc.gc 9 [] ?_
  rotate_left
  · exact ⟨false, rfl, ⟨fun h => absurd h (by decide), fun h => absurd h.1 (by have := h.2.1; omega)⟩, rfl, rfl⟩
  refine Wc.loop (ι := Nat) (fun j => ([(3, .int .i64 (j : Int)), (0, .slice a l.length c)], [])) (fun j => j ≤ l.length ∧ (∀ i, i < j → okP (l[i]?.getD default))) (fun j => l.length - j) (0) (⟨Nat.zero_le _, fun j' h => absurd h (by omega)⟩) ⟨rfl, rfl, trivial⟩ trivial (fun j => fun (hk : j ≤ l.length ∧ (∀ i, i < j → okP (l[i]?.getD default))) => ?_)
  obtain ⟨hj, hno⟩ := hk
  have etj : l[((j : Nat) : Int).toNat]?.getD default = l[j]?.getD default := rfl
  refine Wc.gc 9 [] ?_
  refine Wc.cond rfl (fun hc2 => ?_) (fun hc2 => ?_)
  refine Wc.gl 8 [] ?_
  refine Wl.q rfl (Qy.at (α := R2) T.sl22 rfl rfl (by assumption) (by omega)) ?_
  refine Wl.q rfl (Qy.loadsG T.agg34 rfl (Arr.elem (by assumption) (by omega)) rfl) ?_
  refine Wl.call0 rfl T.fn21 rfl (by apply c21 <;> first | assumption | omega | rfl) ?_
  refine Wl.q rfl (Qy.notD rfl) ?_
  refine Wl.q rfl (Qy.move rfl) ?_
  apply Wl.joinOr 6 27 33 rfl
  intro hg1
  refine Wl.ll0 5 [] ?_
  refine Wl.q rfl (Qy.at (α := R2) T.sl22 rfl rfl (by assumption) (by omega)) ?_
  refine Wl.want rfl rfl ?_
  refine Wl.q rfl (Qy.loadsG T.agg34 rfl (Arr.elem (by assumption) (by omega)) rfl) ?_
  refine Wl.want rfl rfl ?_
  refine Wl.call0 rfl T.fn22 rfl (by apply c22 <;> first | assumption | omega | rfl) ?_
  refine Wl.q rfl (Qy.pick rfl rfl) ?_
  exact Wl.back 6 0 rfl rfl rfl rfl rfl
  intro hg1
  refine Wl.ll0 6 [] ?_
  exact Wl.back 6 0 rfl rfl rfl rfl rfl
  refine Wl.gc 2 [] ?_
  refine Wc.cond rfl (fun hc3 => ?_) (fun hc3 => ?_)
  refine Wc.ga 11 [] ?_
  refine Ar.out1 (.inr rfl) (Ho := Hp.only _ []) rfl (.tmp rfl) (Hp.sub_only _ _) ?_
  rotate_left
  refine Wc.ga 8 [] ?_
  rotate_left
  refine Wc.gl 8 [] ?_
  refine Wl.call 0 rfl T.fn23 rfl (c23 _ _ _ _ (by assumption) (by omega) (by first | assumption | omega)) (tags_of trivial) (fun v1 G1 Ho1 hle1 hp => ?_)
  obtain ⟨ti1, tj1, tb1, rfl, htb1, rfl, rfl⟩ := hp
  refine Wl.ga 17 [] ?_
  refine Ar.out1 (.inr rfl) (Ho := Hp.only _ []) rfl (.tmp rfl) (Hp.sub_only _ _) ?_
  rotate_left
  · exact ⟨false, rfl, ⟨fun h => absurd h (by decide), fun h => absurd (h.2.2.1 j (by omega)) (by show ¬ okP (l[((j : Nat) : Int).toNat]?.getD default); unfold okP; unfold near at *; omega)⟩, rfl, rfl⟩
  · refine Ar.re 3 rfl (show _ = Value.int .i64 ((j + 1 : Nat) : Int) from rfl) ?_
    refine Ar.again (j + 1) ?_ ?_ rfl ⟨rfl, rfl, trivial⟩ trivial
    · refine ⟨by omega, fun i' h2 => ?_⟩
      rcases Nat.lt_or_ge i' j with h | h
      · exact hno i' h
      · have e : i' = j := by omega
        subst e
        show okP (l[((i' : Nat) : Int).toNat]?.getD default)
        unfold okP; unfold near at *; omega
    · omega
  · refine ⟨!tb1, rfl, ?_, rfl, rfl⟩
    have e : (∀ i, i < l.length → okP (l[i]?.getD default)) := fun i hi => hno i (by omega)
    rw [Bool.not_eq_true', Bool.eq_false_iff, ne_eq, htb1]
    exact ⟨fun h => ⟨by omega, by omega, e, h⟩, fun h => h.2.2.2⟩
end Go.Proofs.YtelbhbbiejalhaaGreat
set_option linter.unusedVariables false
namespace Go.Proofs.YtelbhbbiejalhaaGreat
open Go Go.Sl
theorem mul_sign_pos {y g : Int} (h : y * g < 0) (hg : g < 0) : 0 < y := by
  rcases Int.lt_trichotomy y 0 with h1 | h1 | h1
  · have := Int.mul_pos_of_neg_of_neg h1 hg; omega
  · subst h1; rw [Int.zero_mul] at h; omega
  · exact h1
theorem mul_sign_pos' {y g : Int} (h : 0 < y * g) (hg : 0 < g) : 0 < y := by
  rcases Int.lt_trichotomy y 0 with h1 | h1 | h1
  · have := Int.mul_neg_of_neg_of_pos h1 hg; omega
  · subst h1; rw [Int.zero_mul] at h; omega
  · exact h1
theorem nrm_canon {a b : Int} (h : ¬ (a = 0 ∧ b = 0)) : ∃ x y g : Int, nrm a b = (x, y) ∧ g ≠ 0 ∧ x * g = a ∧ y * g = b ∧ Int.gcd x y = 1 ∧ (0 < y ∨ (y = 0 ∧ 0 < x)) := by
  have hg0 : 0 < Int.gcd a b := by
    rcases Nat.eq_zero_or_pos (Int.gcd a b) with h0 | h0
    · exact absurd (Int.gcd_eq_zero_iff.mp h0) h
    · exact h0
  have hgn : normG a b ≠ 0 := by unfold normG; split <;> omega
  have habs : (normG a b).natAbs = Int.gcd a b := by unfold normG; split <;> omega
  have d1 : normG a b ∣ a := Int.natAbs_dvd.mp (by rw [habs]; exact Int.gcd_dvd_left a b)
  have d2 : normG a b ∣ b := Int.natAbs_dvd.mp (by rw [habs]; exact Int.gcd_dvd_right a b)
  have e1 := Int.tdiv_mul_cancel d1
  have e2 := Int.tdiv_mul_cancel d2
  refine ⟨a.tdiv (normG a b), b.tdiv (normG a b), normG a b, by unfold nrm; rw [if_neg h], hgn, e1, e2, ?_, ?_⟩
  · show Nat.gcd (a.tdiv (normG a b)).natAbs (b.tdiv (normG a b)).natAbs = 1
    rw [show (a.tdiv (normG a b)).natAbs = a.natAbs / (normG a b).natAbs from Int.natAbs_tdiv _ _, show (b.tdiv (normG a b)).natAbs = b.natAbs / (normG a b).natAbs from Int.natAbs_tdiv _ _, habs]
    exact Nat.coprime_div_gcd_div_gcd hg0
  · generalize hx : a.tdiv (normG a b) = x at *
    generalize hy : b.tdiv (normG a b) = y at *
    rcases Int.lt_trichotomy b 0 with hb | hb | hb
    · left
      refine mul_sign_pos (g := normG a b) (by omega) ?_
      unfold normG; rw [if_pos (.inl hb)]; omega
    · right
      have hy0 : y = 0 := by
        rcases Int.mul_eq_zero.mp (show y * normG a b = 0 by omega) with h1 | h1
        · exact h1
        · exact absurd h1 hgn
      refine ⟨hy0, ?_⟩
      rcases (show a < 0 ∨ 0 ≤ a by omega) with ha | ha
      · refine mul_sign_pos (g := normG a b) (by omega) ?_
        unfold normG; rw [if_pos (.inr ⟨hb, ha⟩)]; omega
      · refine mul_sign_pos' (g := normG a b) (by omega) ?_
        unfold normG; rw [if_neg (by omega)]; omega
    · left
      refine mul_sign_pos' (g := normG a b) (by omega) ?_
      unfold normG; rw [if_neg (by omega)]; omega
theorem canon_one {x y u v : Int} (h1 : Int.gcd x y = 1) (h2 : Int.gcd u v = 1) (s1 : 0 < y ∨ (y = 0 ∧ 0 < x)) (s2 : 0 < v ∨ (v = 0 ∧ 0 < u)) (h : x * v = u * y) : x = u ∧ y = v := by
  have e : x.natAbs * v.natAbs = u.natAbs * y.natAbs := by rw [← Int.natAbs_mul, ← Int.natAbs_mul, h]
  have c1 : Nat.Coprime x.natAbs y.natAbs := h1
  have c2 : Nat.Coprime u.natAbs v.natAbs := h2
  have p1 : x.natAbs ∣ u.natAbs := c1.dvd_of_dvd_mul_right (e ▸ Nat.dvd_mul_right _ _)
  have p2 : u.natAbs ∣ x.natAbs := c2.dvd_of_dvd_mul_right (e ▸ Nat.dvd_mul_right _ _)
  have p3 : y.natAbs ∣ v.natAbs := c1.symm.dvd_of_dvd_mul_left (e ▸ Nat.dvd_mul_left _ _)
  have p4 : v.natAbs ∣ y.natAbs := c2.symm.dvd_of_dvd_mul_left (e ▸ Nat.dvd_mul_left _ _)
  have q1 := Nat.dvd_antisymm p1 p2
  have q2 := Nat.dvd_antisymm p3 p4
  have hyv : y = v := by omega
  refine ⟨?_, hyv⟩
  subst hyv
  rcases s1 with s | s
  · exact Int.eq_of_mul_eq_mul_right (by omega) h
  · omega
theorem same_iff (a b c d : Int) : same a b c d ↔ oneR a b c d := by
  unfold same oneR
  by_cases hp : a = 0 ∧ b = 0
  · by_cases hq : c = 0 ∧ d = 0
    · rw [if_pos (.inl hp)]
      obtain ⟨rfl, rfl⟩ := hp
      obtain ⟨rfl, rfl⟩ := hq
      exact ⟨fun _ => ⟨⟨rfl, rfl⟩, rfl, rfl⟩, fun _ => rfl⟩
    · rw [if_pos (.inl hp)]
      refine ⟨fun h => ?_, fun h => absurd h.2 hq⟩
      obtain ⟨u, v, k, e2, hk, _, _, _, s2⟩ := nrm_canon hq
      have e1 : nrm a b = (0, 0) := by unfold nrm; rw [if_pos hp, hp.1, hp.2]
      rw [e1, e2] at h
      injection h with h3 h4
      omega
  · obtain ⟨x, y, g, e1, hg, f1, f2, c1, s1⟩ := nrm_canon hp
    by_cases hq : c = 0 ∧ d = 0
    · rw [if_pos (.inr hq)]
      refine ⟨fun h => ?_, fun h => absurd h.1 hp⟩
      have e2 : nrm c d = (0, 0) := by unfold nrm; rw [if_pos hq, hq.1, hq.2]
      rw [e1, e2] at h
      injection h with h3 h4
      omega
    · obtain ⟨u, v, k, e2, hk, f3, f4, c2, s2⟩ := nrm_canon hq
      rw [if_neg (fun h => h.elim hp hq), e1, e2]
      have key : a * d - c * b = (x * v - u * y) * (g * k) := by
        rw [← f1, ← f2, ← f3, ← f4, Int.sub_mul]
        congr 1 <;> ac_rfl
      constructor
      · intro h
        injection h with h3 h4
        rw [key, h3, h4, Int.sub_self, Int.zero_mul]
      · intro h
        rw [key] at h
        have hgk : g * k ≠ 0 := fun h0 => (Int.mul_eq_zero.mp h0).elim hg hk
        have h5 : x * v - u * y = 0 := (Int.mul_eq_zero.mp h).resolve_right hgk
        obtain ⟨r1, r2⟩ := canon_one c1 c2 s1 s2 (by omega)
        rw [r1, r2]
theorem twin_iff (l : List R2) : Twin l ↔ TwinR l := by
  unfold Twin TwinR alikeP alikeR
  simp only [same_iff]
theorem right_iff (l : List R2) : RightL l ↔ RightR l := by
  unfold RightL RightR
  rw [twin_iff]
end Go.Proofs.YtelbhbbiejalhaaGreat
set_option maxRecDepth 100000
set_option linter.unusedVariables false
namespace Go.Proofs.YtelbhbbiejalhaaGreat
open Go Go.Sl
set_option maxHeartbeats 4000000
attribute [local irreducible] valB pb cmpZ lstWp p2
theorem c11 (G : Imm) (x : IV) (z n : Int) (hx : Big G x z) (h1 : x.n ≤ 536870912) (hn : -9223372036854775808 ≤ n ∧ n ≤ 9223372036854775807) :
    Does Tryz.prog 11 [.agg (Cells.enc x).toArray, .int .i64 n] G [] (fun v G' Ho => ∃ r : IV, v = .agg (Cells.enc r).toArray ∧ Big G' r (z * n) ∧ Ho = []) := by
  have hn3 : (n.natAbs : Int) < pb 3 := by
    have e : pb 3 = 79228162514264337593543950336 := by unfold pb; decide
    omega
  obtain ⟨n1, a, k1, ca⟩ := x
  refine Does.enter Tryz.func11 rfl Tryz.ntmps11 rfl (fun w => ?_)
  refine Wc.gl 2 [] ?_
  refine Wl.box 0 rfl rfl rfl (fun b1 => ?_)
  refine Wl.alloc 1 rfl T.zero37 (fun b2 => ?_)
  refine Wl.gc 3 [] ?_
  refine Wc.draw [0, 1] [(1, 4)] T.mixed rfl ?_
  refine Gm.q 0 [0] (by kernel_rfl) rfl rfl (Qy.loadAll 0 T.agg37 rfl rfl rfl) ?_
  refine Gm.q 1 [] (by kernel_rfl) rfl rfl (Qy.move rfl) ?_
  refine Gm.one 2 ⟨rfl, rfl, trivial⟩ (by first | exact Imm.le_refl _ | assumption | (refine Imm.le_trans ?_ (by assumption); first | assumption | (refine Imm.le_trans ?_ (by assumption); assumption))) (by kernel_rfl) rfl ?_
  refine Wl.call 2 rfl T.fn10 rfl (c10 _ _ (by omega)) (tags_of trivial) (fun v1 G1 Ho1 hle1 hp => ?_)
  obtain ⟨ro, rfl, hro, rfl⟩ := hp
  replace hx := hx.up hle1
  refine Wl.on0 ?_
  refine Gm.one 3 ⟨rfl, rfl, trivial⟩ (by first | exact Imm.le_refl _ | assumption | (refine Imm.le_trans ?_ (by assumption); first | assumption | (refine Imm.le_trans ?_ (by assumption); assumption))) (by kernel_rfl) rfl ?_
  refine Wl.call 2 rfl T.fn13 rfl (c13 _ _ _ _ _ hx hro h1 (Nat.le_trans (Big.len hro hn3) (by decide))) (tags_of trivial) (fun v2 G2 Ho2 hle2 hp => ?_)
  obtain ⟨rm, rfl, hrm, rfl⟩ := hp
  replace hro := hro.up hle2
  replace hx := hx.up hle2
  refine Wl.on0 ?_
  refine Gm.one 4 ⟨rfl, rfl, trivial⟩ (by first | exact Imm.le_refl _ | assumption | (refine Imm.le_trans ?_ (by assumption); first | assumption | (refine Imm.le_trans ?_ (by assumption); assumption))) (by kernel_rfl) rfl ?_
  refine Wl.storeAll 1 T.size37 rfl rfl rfl rfl rfl rfl ?_
  refine Wl.on0 ?_
  refine Gm.doneA (by kernel_rfl) ⟨rfl, trivial⟩ (by first | exact Imm.le_refl _ | assumption | (refine Imm.le_trans ?_ (by assumption); first | assumption | (refine Imm.le_trans ?_ (by assumption); assumption))) ?_
  refine Ar.ga 2 [] ?_
  refine Ar.out1 (.inr rfl) (Ho := Hp.only _ []) rfl (.agg 1 rfl rfl T.agg37) (Hp.sub_only _ _) ?_
  exact ⟨rm, rfl, hrm, rfl⟩
end Go.Proofs.YtelbhbbiejalhaaGreat
set_option maxRecDepth 100000
set_option linter.unusedVariables false
namespace Go.Proofs.YtelbhbbiejalhaaGreat
open Go Go.Sl
set_option maxHeartbeats 4000000
attribute [local irreducible] valB pb cmpZ lstWp p2
def powR (a b : Int) (n : Nat) : List Int := (List.range n).map fun j => a ^ j * b ^ (n - 1 - j)
end Go.Proofs.YtelbhbbiejalhaaGreat
set_option maxRecDepth 100000
set_option linter.unusedVariables false
namespace Go.Proofs.YtelbhbbiejalhaaGreat
open Go Go.Sl
set_option maxHeartbeats 4000000
attribute [local irreducible] valB pb cmpZ lstWp p2 RightL powR
/-- a row of big numbers, by its slice -/
def BRow (G : Imm) (s : SV) (zs : List Int) : Prop := ∃ l : List IV, l.length = s.n ∧ s.n ≤ s.c ∧ Arr G s.a l ∧ Bigs G l zs
theorem BRow.up {G G' : Imm} {s : SV} {zs : List Int} (h : BRow G s zs) (hl : G.le G') : BRow G' s zs := by
  obtain ⟨l, h1, h2, h3, h4⟩ := h
  exact ⟨l, h1, h2, h3.up hl, h4.up hl⟩
def BGrid (G : Imm) (l : List SV) (rs : List (List Int)) : Prop := l.length = rs.length ∧ ∀ i : Nat, i < l.length → BRow G (l[i]?.getD default) (rs[i]?.getD [])
theorem BGrid.up {G G' : Imm} {l : List SV} {rs : List (List Int)} (h : BGrid G l rs) (hl : G.le G') : BGrid G' l rs := ⟨h.1, fun i hi => (h.2 i hi).up hl⟩
theorem BGrid.nil (G : Imm) : BGrid G [] [] := ⟨rfl, fun i hi => by simp at hi⟩
theorem BGrid.snoc {G : Imm} {l : List SV} {rs : List (List Int)} (h : BGrid G l rs) {s : SV} {zs : List Int} (hs : BRow G s zs) : BGrid G (l ++ [s]) (rs ++ [zs]) := by
  refine ⟨by rw [List.length_append, List.length_append, h.1]; rfl, fun i hi => ?_⟩
  rw [List.length_append, List.length_singleton] at hi
  rcases Nat.lt_or_ge i l.length with h1 | h1
  · rw [List.getElem?_append_left h1, List.getElem?_append_left (by rw [← h.1]; exact h1)]; exact h.2 i h1
  · have : i = l.length := by omega
    subst this
    rw [List.getElem?_append_right (Nat.le_refl _), List.getElem?_append_right (by rw [h.1]; exact Nat.le_refl _), Nat.sub_self, h.1, Nat.sub_self]
    exact hs
theorem c20Y (G : Imm) (a : Option Addr) (c : Nat) (l : List R2) (ha : Arr G a l) (h1 : l.length ≤ 1048576) (hc : l.length ≤ c) (hR : RightL l) : Does Tryz.prog 20 [.slice a l.length c] G [] (fun v G' Ho => v = .bool true ∧ G' = G ∧ Ho = []) :=
  (c20 G a c l ha h1 hc).mono fun v G' Ho _ ⟨b, e1, e2, e3, e4⟩ => ⟨by rw [e1, e2.2 hR], e3, e4⟩
def gridR (l : List R2) : List (List Int) := l.map fun p => powR p.a p.b l.length
end Go.Proofs.YtelbhbbiejalhaaGreat
set_option maxRecDepth 100000
set_option linter.unusedVariables false
namespace Go.Proofs.YtelbhbbiejalhaaGreat
open Go Go.Sl
set_option maxHeartbeats 4000000
attribute [local irreducible] valB pb cmpZ lstWp p2 cst
/-- rows of one length, of numbers below a bound -/
def EvenB (m N : Nat) (rs : List (List Int)) : Prop := ∀ zs ∈ rs, zs.length = N ∧ Below m zs
theorem EvenB.at {m N : Nat} {rs : List (List Int)} (h : EvenB m N rs) {k : Nat} (hk : k < rs.length) : (rs[k]?.getD []).length = N ∧ Below m (rs[k]?.getD []) := by
  rw [List.getElem?_eq_getElem hk]; exact h _ (List.getElem_mem hk)
end Go.Proofs.YtelbhbbiejalhaaGreat
set_option maxRecDepth 100000
set_option linter.unusedVariables false
namespace Go.Proofs.YtelbhbbiejalhaaGreat
open Go Go.Sl
set_option maxHeartbeats 4000000
theorem pw5_pb3 : pw 5 ≤ pb 3 := by unfold pw pb; decide
theorem mul_lt_pb {m k : Nat} {x y : Int} (hx : (x.natAbs : Int) < pb m) (hy : (y.natAbs : Int) < pb k) : ((x * y).natAbs : Int) < pb (m + k) := by
  rw [Int.natAbs_mul, Int.natCast_mul, pb_add]
  have h1 := Int.mul_le_mul_of_nonneg_left (Int.le_of_lt hy) (show (0 : Int) ≤ x.natAbs by omega)
  have h2 := Int.mul_lt_mul_of_pos_right hx (pb_pos k)
  omega
theorem doZ_small {i : Sl.Instr} {zs : List Int} {m : Nat} {z : Int} (hm : Below m zs) (hk : i.op = 5 ∨ i.op = 7 → ((cst i).natAbs : Int) < pb 3) (h : doZ i zs = some z) : (z.natAbs : Int) < pb (m + 3) := by
  have ha := hm.at i.a.toNat
  have hb := hm.at i.b.toNat
  have hp := pb_pos m
  have h4 : 4294967296 * pb m ≤ pb (m + 3) := by rw [← pb_succ]; exact pb_le (by omega)
  unfold doZ at h
  simp only at h
  split at h
  · cases h; omega
  · split at h
    · cases h; omega
    · split at h
      · cases h; omega
      · split at h
        · rename_i h57
          cases h
          exact mul_lt_pb ha (hk h57)
        · split at h
          · split at h
            · cases h
              have h1 : (zs[i.a.toNat]?.getD 0 / cst i).natAbs ≤ (zs[i.a.toNat]?.getD 0).natAbs := Int.natAbs_ediv_le_natAbs _ _
              omega
            · cases h
          · cases h
            omega
/-- the registers' numbers after k instructions -/
def stepsZ (p : PV) (zs : List Int) : Nat → Option (List Int)
  | 0 => some zs
  | k + 1 => (stepsZ p zs k).bind fun rs => (doZ (p.code[((k : Nat) : Int).toNat]?.getD default) rs).map fun x => rs.set (p.code[((k : Nat) : Int).toNat]?.getD default).to.toNat x
theorem stepsZ_succ {p : PV} {zs rs : List Int} {k : Nat} {y : Int} (h : stepsZ p zs k = some rs) (hd : doZ (p.code[((k : Nat) : Int).toNat]?.getD default) rs = some y) :
    stepsZ p zs (k + 1) = some (rs.set (p.code[((k : Nat) : Int).toNat]?.getD default).to.toNat y) := by
  unfold stepsZ; rw [h]; simp only [Option.bind_some, hd, Option.map_some]
theorem stepsZ_none {p : PV} {zs : List Int} {k : Nat} (h : stepsZ p zs k = none) (j : Nat) : stepsZ p zs (k + j) = none := by
  induction j with
  | zero => exact h
  | succ j ih => rw [← Nat.add_assoc]; unfold stepsZ; rw [ih]; rfl
theorem stepsZ_stop {p : PV} {zs rs : List Int} {k : Nat} (h : stepsZ p zs k = some rs) (hd : doZ (p.code[((k : Nat) : Int).toNat]?.getD default) rs = none) (hk : k < p.code.length) : stepsZ p zs p.code.length = none := by
  have h1 : stepsZ p zs (k + 1) = none := by unfold stepsZ; rw [h]; simp only [Option.bind_some, hd, Option.map_none]
  have h2 := stepsZ_none h1 (p.code.length - (k + 1))
  rw [show k + 1 + (p.code.length - (k + 1)) = p.code.length by omega] at h2
  exact h2
theorem below_set {m : Nat} {zs : List Int} {z : Int} (h : Below m zs) (hz : (z.natAbs : Int) < pb m) (k : Nat) : Below m (zs.set k z) := fun x hx => by
  rcases List.mem_or_eq_of_mem_set hx with h1 | h1
  · exact h x h1
  · rw [h1]; exact hz
theorem Below.mono {m k : Nat} {zs : List Int} (h : Below m zs) (hk : m ≤ k) : Below k zs := fun z hz => Int.lt_of_lt_of_le (h z hz) (pb_le hk)
attribute [local irreducible] valB pb cmpZ lstWp p2 cst doZ
theorem c35 (G : Imm) (k : Int) (x : IV) : Does Tryz.prog 35 [.int .i64 k, .agg (Cells.enc x).toArray] G [] (fun v G' Ho => v = .bool true ∧ G' = G ∧ Ho = []) := by
  refine Does.enter Tryz.func35 rfl Tryz.ntmps35 rfl (fun w => ?_)
  refine Wc.gl 2 [] ?_
  refine Wl.box 0 rfl rfl rfl (fun b1 => ?_)
  refine Wl.ga 9 [] ?_
  refine Ar.out1 (.inr rfl) (Ho := Hp.only _ []) rfl (.tmp rfl) (Hp.sub_only _ _) ?_
  exact ⟨rfl, rfl, rfl⟩
/-- the run of a program: its registers behind it, or that it fails -/
def RunPost (p : PV) (zs : List Int) (o : Option Addr) (d : Nat) (r : List IV) (j : List Value) (v : Value) (G' : Imm) (Ho : Hp) : Prop :=
  ∃ (r' : List IV) (k : Int), v = .int .i64 k ∧ Ho = [(0, o.map (·.block), Row 37 r' j)] ∧ r'.length = r.length ∧ OwnA o d r' j ∧
    ((∃ zs', stepsZ p zs p.code.length = some zs' ∧ k = -1 ∧ Bigs G' r' zs') ∨ (stepsZ p zs p.code.length = none ∧ 0 ≤ k))
theorem c33 (G : Imm) (p : PV) (ac ao : Option Addr) (cc co : Nat) (o : Option Addr) (d : Nat) (r : List IV) (j : List Value) (zs : List Int) (m : Nat) (hc : Arr G ac p.code) (hob : OwnA o d r j) (hg : Bigs G r zs) (hm : Below m zs)
    (hmm : m + 3 * p.code.length ≤ 268435456) (hlen : p.code.length ≤ 16384) (hr : (r.length : Int) = p.regs) (hrr : r.length ≤ 128) (hmay : ∀ i ∈ p.code, mayOk i p.regs = true) :
    Does Tryz.prog 33 [waysV, .agg #[.int .i64 p.ins, .int .i64 p.regs, .slice ac p.code.length cc, .slice ao p.outs.length co], .slice o r.length d, .func (.func 35) #[] #[]] G [(0, o.map (·.block), Row 37 r j)] (RunPost p zs o d r j) := by
  refine Does.enter Tryz.func33 rfl Tryz.ntmps33 rfl (fun w => ?_)
  refine Wc.gl 2 [] ?_
  refine Wl.box 1 rfl rfl rfl (fun b1 => ?_)
  refine Wl.box 2 rfl rfl rfl (fun b2 => ?_)
  refine Wl.gc 3 [] ?_
  refine Wc.scope ?_
  refine Wc.gc 13 [2] ?_
  refine Wc.loopG (ι := Nat × Imm × List IV × List Int) (fun (i, Gx, r2, rs) => ([(16, .int .i64 (i : Int)), (2, .slice o r2.length d), (15, Go.Value.int Go.IntKind.i64 (↑(List.length (Go.Proofs.YtelbhbbiejalhaaGreat.PV.code p)) : Int)), (14, Go.Value.slice ac (List.length (Go.Proofs.YtelbhbbiejalhaaGreat.PV.code p)) cc), (4, Go.Value.pointer (Option.some (Go.Addr.mk b1 0 Option.none))), (3, Go.Value.func (Go.Fn.func 35) #[] #[])], [(0, o.map (·.block), Row 37 r2 j), (2, Option.some b2, Go.Obj.cells #[Go.Value.int Go.IntKind.i64 (Go.Proofs.YtelbhbbiejalhaaGreat.PV.ins p), Go.Value.int Go.IntKind.i64 (Go.Proofs.YtelbhbbiejalhaaGreat.PV.regs p), Go.Value.slice ac (List.length (Go.Proofs.YtelbhbbiejalhaaGreat.PV.code p)) cc, Go.Value.slice ao (List.length (Go.Proofs.YtelbhbbiejalhaaGreat.PV.outs p)) co] 29), (1, Option.some b1, Go.Obj.cells #[Go.Value.func (Go.Fn.func 58) #[] #[], Go.Value.func (Go.Fn.func 12) #[] #[], Go.Value.func (Go.Fn.func 59) #[] #[], Go.Value.func (Go.Fn.func 13) #[] #[], Go.Value.func (Go.Fn.func 60) #[] #[]] 74)])) (fun (i, Gx, r2, rs) => Gx) (fun (i, Gx, r2, rs) => i ≤ p.code.length ∧ G.le Gx ∧ r2.length = r.length ∧ OwnA o d r2 j ∧ Bigs Gx r2 rs ∧ Below (m + 3 * i) rs ∧ stepsZ p zs i = some rs) (fun (i, Gx, r2, rs) => p.code.length - i) ((0, G, r, zs)) (⟨Nat.zero_le _, Imm.le_refl _, rfl, hob, hg, hm, rfl⟩) rfl ⟨rfl, rfl, rfl, rfl, rfl, rfl, trivial⟩ ⟨rfl, rfl, rfl, trivial⟩ (fun ⟨i, Gx, r2, rs⟩ => fun (hk : i ≤ p.code.length ∧ G.le Gx ∧ r2.length = r.length ∧ OwnA o d r2 j ∧ Bigs Gx r2 rs ∧ Below (m + 3 * i) rs ∧ stepsZ p zs i = some rs) => ?_)
  obtain ⟨hi0, hgx, hr2, ho2, hg2, hb2, hrun⟩ := hk
  replace hc := hc.up hgx
  rcases Nat.lt_or_ge i p.code.length with hic | hic
  · have hmem : (p.code[((i : Nat) : Int).toNat]?.getD default) ∈ p.code := by
      rw [Int.toNat_natCast, List.getElem?_eq_getElem hic]; exact List.getElem_mem hic
    have hmi := hmay _ hmem
    obtain ⟨m1, m2, m3, m4, m5, m6, m7, m8⟩ := may_facts hmi
    have hbz : (p.code[((i : Nat) : Int).toNat]?.getD default).op = 3 ∨ (p.code[((i : Nat) : Int).toNat]?.getD default).op = 4 ∨ (p.code[((i : Nat) : Int).toNat]?.getD default).b = 0 := by
      unfold mayOk at hmi
      rw [Bool.and_eq_true, Bool.and_eq_true, decide_eq_true_eq] at hmi
      exact hmi.1.1.2.2.2.2
    have mb : 0 ≤ (p.code[((i : Nat) : Int).toNat]?.getD default).b ∧ (p.code[((i : Nat) : Int).toNat]?.getD default).b < r2.length := by
      rcases hbz with h | h | h
      · have := m4 (.inl h); omega
      · have := m4 (.inr h); omega
      · omega
    have mt : 0 ≤ (p.code[((i : Nat) : Int).toNat]?.getD default).to ∧ (p.code[((i : Nat) : Int).toNat]?.getD default).to < r2.length := by omega
    have hk3 : (p.code[((i : Nat) : Int).toNat]?.getD default).op ≠ 1 → (p.code[((i : Nat) : Int).toNat]?.getD default).op ≠ 2 → (p.code[((i : Nat) : Int).toNat]?.getD default).op ≠ 3 → (p.code[((i : Nat) : Int).toNat]?.getD default).op ≠ 4 → cst (p.code[((i : Nat) : Int).toNat]?.getD default) ≠ 0 ∧ ((cst (p.code[((i : Nat) : Int).toNat]?.getD default)).natAbs : Int) < pb 3 := fun a b c d => ⟨(m6 a b c d).1, Int.lt_of_lt_of_le (m6 a b c d).2 pw5_pb3⟩
    refine Wc.gl 14 [1] ?_
    refine Wl.q rfl (Qy.at (α := Sl.Instr) T.sl26 rfl rfl (by assumption) (by omega)) ?_
    refine Wl.q rfl (Qy.loadsG T.agg50 rfl (Arr.elem (by assumption) (by omega)) rfl) ?_
    refine Wl.alloc 3 rfl T.zero50 (fun b3 => ?_)
    refine Wl.gl 9 [3, 1, 3] ?_
    refine Wl.call 0 rfl T.fn57 rfl (c57 _ (p.code[((i : Nat) : Int).toNat]?.getD default) o d r2 j rs (m + 3 * i) ho2 hg2 hb2 (by omega) m1 (by omega) mb hk3 m7 m8) (tags_of ⟨rfl, trivial⟩) (fun v1 G1 Ho1 hle1 hp => ?_)
    obtain ⟨x, rfl, hx, rfl⟩ := hp
    replace hc := hc.up hle1
    replace hg2 := hg2.up hle1
    by_cases hd : doZ (p.code[((i : Nat) : Int).toNat]?.getD default) rs = none
    · have hd2 : ¬ doZ (p.code[((i : Nat) : Int).toNat]?.getD default) rs ≠ none := fun h => h hd
      refine Wl.ll0 3 [] ?_
      refine Wl.alloc 4 rfl T.zero37 (fun b4 => ?_)
      refine Wl.gl 8 [4] ?_
      refine Wl.q rfl (Qy.notD rfl) ?_
      refine Wl.ga 16 [1] ?_
      refine Ar.scopeR ?_
      refine Ar.out1 (.inr rfl) (Ho := Hp.only _ [0]) rfl (.tmp rfl) (Hp.sub_only _ _) ?_
      exact ⟨r2, (i : Int), rfl, rfl, hr2, ho2, .inr ⟨stepsZ_stop hrun hd hic, by omega⟩⟩
    · obtain ⟨z, hz⟩ := Option.ne_none_iff_exists'.1 hd
      have hxz := hx z hz
      have hok : doZ (p.code[((i : Nat) : Int).toNat]?.getD default) rs ≠ none := hd
      refine Wl.ll0 3 [] ?_
      refine Wl.alloc 4 rfl T.zero37 (fun b4 => ?_)
      refine Wl.gl 8 [4] ?_
      refine Wl.q rfl (Qy.notD rfl) ?_
      refine Wl.gc 2 [] ?_
      refine Wc.cond rfl (fun hc1 => ?_) (fun hc1 => ?_)
      refine Wc.ga 13 [] ?_
      refine Ar.scopeR ?_
      refine Ar.out1 (.inr rfl) (Ho := Hp.only _ [0]) rfl (.tmp rfl) (Hp.sub_only _ _) ?_
      rotate_left
      refine Wc.gl 8 [3, 4] ?_
      refine Wl.q rfl (Qy.indexAddrO (α := IV) T.sl42 rfl rfl (by assumption) (by omega)) ?_
      rotate_left
      · exact absurd hok hc1
      refine Wl.setO (z := x) 0 T.size37 rfl rfl rfl (by assumption) (by omega) rfl (fun ho9 => ?_)
      refine Wl.gl 7 [4] ?_
      refine Wl.callV (fst := []) (cap := []) 5 rfl T.fn35 rfl rfl (c35 _ _ _) (tags_of trivial) (fun v2 G2 Ho2 hle2 hp => ?_)
      obtain ⟨rfl, rfl, rfl⟩ := hp
      refine Wl.ga 11 [0] ?_
      refine Ar.re 2 rfl (show _ = Value.slice o (r2.set (p.code[((i : Nat) : Int).toNat]?.getD default).to.toNat x).length d by rw [List.length_set]) ?_
      refine Ar.again ((i + 1, _, r2.set (p.code[((i : Nat) : Int).toNat]?.getD default).to.toNat x, rs.set (p.code[((i : Nat) : Int).toNat]?.getD default).to.toNat z)) ?_ ?_ rfl ⟨rfl, rfl, rfl, rfl, rfl, rfl, trivial⟩ ⟨rfl, rfl, rfl, trivial⟩
      · refine ⟨by omega, Imm.le_trans hgx hle1, by rw [List.length_set]; exact hr2, ho9, hg2.set _ hxz, ?_, stepsZ_succ hrun hz⟩
        have hs := doZ_small hb2 (fun h => (hk3 (by omega) (by omega) (by omega) (by omega)).2) hz
        rw [show m + 3 * (i + 1) = m + 3 * i + 3 by omega]
        exact below_set (hb2.mono (by omega)) hs _
      · show p.code.length - (i + 1) < p.code.length - i
        omega
  · have hii : i = p.code.length := by omega
    subst hii
    refine Wc.ga 18 [0] ?_
    refine Ar.scopeR ?_
    refine Ar.out1 (.inr rfl) (Ho := Hp.only _ [0]) rfl (.tmp rfl) (Hp.sub_only _ _) ?_
    exact ⟨r2, -1, rfl, rfl, hr2, ho2, .inl ⟨rs, hrun, rfl, hg2⟩⟩
end Go.Proofs.YtelbhbbiejalhaaGreat
set_option maxRecDepth 100000
set_option linter.unusedVariables false
namespace Go.Proofs.YtelbhbbiejalhaaGreat
open Go Go.Sl
set_option maxHeartbeats 4000000
/-- so many digits are left, if the noughts at the top are struck -/
def TrimTo (l : List U32) (n : Nat) : Prop := n ≤ l.length ∧ (∀ j, n ≤ j → j < l.length → (l[j]?.getD default).v = 0) ∧ (n = 0 ∨ (l[n - 1]?.getD default).v ≠ 0)
theorem TrimTo.val {l : List U32} {n : Nat} (h : TrimTo l n) : valL (l.take n) = valL l := valL_trim h.2.1
theorem TrimTo.top {l : List U32} {n : Nat} (h : TrimTo l n) : Top (l.take n) := by
  obtain ⟨h1, h2, h3⟩ := h
  rcases h3 with h3 | h3
  · subst h3; exact .inl rfl
  · by_cases h0 : n = 0
    · subst h0; exact .inl rfl
    · refine .inr ?_
      rw [List.length_take, Nat.min_eq_left h1, List.getElem?_take, if_pos (by omega)]
      exact h3
theorem TrimTo.len {l : List U32} {n : Nat} (h : TrimTo l n) : (l.take n).length = n := by rw [List.length_take, Nat.min_eq_left h.1]
end Go.Proofs.YtelbhbbiejalhaaGreat
set_option maxRecDepth 100000
set_option linter.unusedVariables false
namespace Go.Proofs.YtelbhbbiejalhaaGreat
open Go Go.Sl
set_option maxHeartbeats 4000000
section
variable {B : Bs} {e : Env} {D : List Deferred} {H : Hp} {G : Imm}
/-- a block under another tag -/
theorem retagH {a : Act} {w : World} (hh : Hold B ⟨e, D, H, G⟩ a w) (t t' : Nat) {k : Option Nat} {o : Obj} (ht : H.get t = some (k, o)) (hn : t ≠ t') (hk : H.get t' = none ∨ True) : Hold B ⟨e, D, (t', k, o) :: (t, none, o) :: H, G⟩ a w := by
  have key : ∀ i b o', Hp.get ((t', k, o) :: (t, none, o) :: H) i = some (some b, o') → (i = t' ∧ H.get t = some (some b, o')) ∨ (i ≠ t' ∧ i ≠ t ∧ H.get i = some (some b, o')) := fun i b o' hx => by
    rw [Hp.get_cons] at hx
    split at hx
    · rename_i hi; left; refine ⟨hi.symm, ?_⟩; rw [ht]; exact hx
    · rename_i hi
      rw [Hp.get_cons] at hx
      split at hx
      · simp at hx
      · rename_i hi2; exact .inr ⟨fun h => hi h.symm, fun h => hi2 h.symm, hx⟩
  refine ⟨hh.size, hh.defers, hh.env, ⟨?_, ?_, hh.mem.imm, ?_⟩, hh.upd, ?_, hh.le, hh.new⟩
  · intro i b o' hx
    rcases key i b o' hx with ⟨_, h⟩ | ⟨_, _, h⟩
    · exact hh.mem.own _ b o' h
    · exact hh.mem.own _ b o' h
  · intro i i' b o1 o2 hx hy
    rcases key i b o1 hx with ⟨h1, h2⟩ | ⟨h1, h1', h2⟩ <;> rcases key i' b o2 hy with ⟨h3, h4⟩ | ⟨h3, h3', h4⟩
    · rw [h1, h3]
    · exact absurd (hh.mem.one _ _ b _ _ h2 h4).symm h3'
    · exact absurd (hh.mem.one _ _ b _ _ h2 h4) h1'
    · exact hh.mem.one _ _ b _ _ h2 h4
  · intro i b o' hx
    rcases key i b o' hx with ⟨_, h⟩ | ⟨_, _, h⟩
    · exact hh.mem.off _ b o' h
    · exact hh.mem.off _ b o' h
  · intro i b o' hx
    rcases key i b o' hx with ⟨_, h⟩ | ⟨_, _, h⟩
    · exact hh.mine _ b o' h
    · exact hh.mine _ b o' h
theorem Ar.retag {x : Exit} {Q : Exit → Act → World → Prop} (t t' : Nat) {k : Option Nat} {o : Obj} (ht : H.get t = some (k, o)) (hn : Nat.beq t t' = false) (h : Ar Q x B ⟨e, D, (t', k, o) :: (t, none, o) :: H, G⟩) : Ar Q x B ⟨e, D, H, G⟩ :=
  fun a w hh => h a w (retagH hh t t' ht (fun e => by subst e; simp at hn) (.inr trivial))
end
theorem Num.len {G : Imm} {x : IV} {z : Int} (h : Num G x z) {m : Nat} (hz : (z.natAbs : Int) < pw m) : x.n ≤ m := by
  obtain ⟨l, h1, _, _, h4⟩ := h
  rw [← h1]; exact h4.len hz
attribute [local irreducible] valL pw cmpZ p2
end Go.Proofs.YtelbhbbiejalhaaGreat
set_option maxRecDepth 100000
set_option linter.unusedVariables false
namespace Go.Proofs.YtelbhbbiejalhaaGreat
open Go Go.Sl
set_option maxHeartbeats 4000000
theorem Num.zero_iff {G : Imm} {x : IV} {z : Int} (h : Num G x z) : x.n = 0 ↔ z = 0 := by
  obtain ⟨l, h1, _, _, h4⟩ := h
  rw [← h1]; exact h4.zero_iff
theorem Num.out {G : Imm} {x : IV} {z z' : Int} (h : Num G x z) (e : z = z') : Num G x z' := e ▸ h
attribute [local irreducible] valL pw cmpZ p2
end Go.Proofs.YtelbhbbiejalhaaGreat
set_option maxRecDepth 100000
set_option linter.unusedVariables false
namespace Go.Proofs.YtelbhbbiejalhaaGreat
open Go Go.Sl
set_option maxHeartbeats 4000000
/-- the handle of a row of numbers -/
def RowS (G : Imm) (s : SV) (zs : List Int) : Prop := ∃ l : List IV, l.length = s.n ∧ s.n ≤ s.c ∧ Arr G s.a l ∧ Nums G l zs
theorem RowS.up {G G' : Imm} {s : SV} {zs : List Int} (h : RowS G s zs) (hl : G.le G') : RowS G' s zs := by
  obtain ⟨l, h1, h2, h3, h4⟩ := h
  exact ⟨l, h1, h2, h3.up hl, h4.up hl⟩
/-- rows of numbers -/
def Grid (G : Imm) (l : List SV) (rs : List (List Int)) : Prop := l.length = rs.length ∧ ∀ i : Nat, i < l.length → RowS G (l[i]?.getD default) (rs[i]?.getD [])
theorem Grid.up {G G' : Imm} {l : List SV} {rs : List (List Int)} (h : Grid G l rs) (hl : G.le G') : Grid G' l rs := ⟨h.1, fun i hi => (h.2 i hi).up hl⟩
theorem Grid.nil (G : Imm) : Grid G [] [] := ⟨rfl, fun i hi => by simp at hi⟩
theorem Grid.at {G : Imm} {l : List SV} {rs : List (List Int)} (h : Grid G l rs) {m : Int} (hm : 0 ≤ m ∧ m < l.length) : RowS G (l[m.toNat]?.getD default) (rs[m.toNat]?.getD []) := h.2 _ (by omega)
theorem Grid.snoc {G : Imm} {l : List SV} {rs : List (List Int)} (h : Grid G l rs) {s : SV} {zs : List Int} (hx : RowS G s zs) : Grid G (l ++ [s]) (rs ++ [zs]) := by
  refine ⟨by simp [h.1], fun i hi => ?_⟩
  rw [List.length_append, List.length_singleton] at hi
  by_cases hc : i < l.length
  · rw [List.getElem?_append_left hc, List.getElem?_append_left (by rw [← h.1]; exact hc)]
    exact h.2 i hc
  · have e : i = l.length := by omega
    subst e
    rw [List.getElem?_concat_length, h.1, List.getElem?_concat_length]
    exact hx
theorem Grid.set {G : Imm} {l : List SV} {rs : List (List Int)} (h : Grid G l rs) (k : Nat) {s : SV} {zs : List Int} (hx : RowS G s zs) : Grid G (l.set k s) (rs.set k zs) := by
  refine ⟨by rw [List.length_set, List.length_set]; exact h.1, fun i hi => ?_⟩
  rw [List.length_set] at hi
  have hi2 : i < rs.length := by rw [← h.1]; exact hi
  rw [List.getElem?_set, List.getElem?_set]
  by_cases hk : k = i
  · subst hk; rw [if_pos rfl, if_pos rfl, if_pos hi, if_pos hi2]; exact hx
  · rw [if_neg hk, if_neg hk]; exact h.2 i hi
attribute [local irreducible] valL pw cmpZ p2
/-- rows of one length, none too large -/
def Even (m N : Nat) (rs : List (List Int)) : Prop := ∀ zs ∈ rs, zs.length = N ∧ Go.Sl.Below m zs
theorem Even.at {m N : Nat} {rs : List (List Int)} (h : Even m N rs) {k : Int} (hk : 0 ≤ k ∧ k < rs.length) : (rs[k.toNat]?.getD []).length = N ∧ Go.Sl.Below m (rs[k.toNat]?.getD []) := by
  have h1 : k.toNat < rs.length := by omega
  rw [List.getElem?_eq_getElem h1]
  exact h _ (List.getElem_mem h1)
theorem RowS.len {G : Imm} {s : SV} {zs : List Int} (h : RowS G s zs) : s.n = zs.length := by
  obtain ⟨l, h1, _, _, h4⟩ := h
  rw [← h1]; exact h4.1
end Go.Proofs.YtelbhbbiejalhaaGreat
set_option linter.unusedVariables false
namespace Go.Proofs.YtelbhbbiejalhaaGreat
open Go Go.Sl
theorem Even.mono {m k N : Nat} {rs : List (List Int)} (h : Even m N rs) (hk : m ≤ k) : Even k N rs := fun zs hz => ⟨(h zs hz).1, (h zs hz).2.mono hk⟩
end Go.Proofs.YtelbhbbiejalhaaGreat
set_option maxRecDepth 100000
set_option linter.unusedVariables false
namespace Go.Proofs.YtelbhbbiejalhaaGreat
open Go Go.Sl
set_option maxHeartbeats 4000000
theorem EvenB.mono {m k N : Nat} {rs : List (List Int)} (h : EvenB m N rs) (hk : m ≤ k) : EvenB k N rs := fun zs hz => ⟨(h zs hz).1, (h zs hz).2.mono hk⟩
theorem BGrid.set {G : Imm} {r : List SV} {rs : List (List Int)} (h : BGrid G r rs) {s : SV} {x : List Int} (hs : BRow G s x) (k : Nat) : BGrid G (r.set k s) (rs.set k x) := by
  refine ⟨by rw [List.length_set, List.length_set]; exact h.1, fun i hi => ?_⟩
  rw [List.length_set] at hi
  have hrl := h.1
  rw [List.getElem?_set, List.getElem?_set]
  by_cases e : k = i
  · subst e
    rw [if_pos rfl, if_pos rfl, if_pos hi, if_pos (by omega)]
    exact hs
  · rw [if_neg e, if_neg e]
    exact h.2 i hi
attribute [local irreducible] valB pb cmpZ lstWp p2 cst doI
end Go.Proofs.YtelbhbbiejalhaaGreat
set_option maxRecDepth 100000
set_option linter.unusedVariables false
namespace Go.Proofs.YtelbhbbiejalhaaGreat
open Go Go.Sl
set_option maxHeartbeats 4000000
theorem c38R (G : Imm) (p : PV) (ac ao : Option Addr) (cc co : Nat) (hc : Arr G ac p.code) (ho : Arr G ao p.outs) (h1 : p.code.length ≤ 1099511627776) (h2 : p.outs.length ≤ 1099511627776) (hR : rightP p = true) :
    Does Tryz.prog 38 [.agg #[.int .i64 p.ins, .int .i64 p.regs, .slice ac p.code.length cc, .slice ao p.outs.length co]] G [] (fun v G' Ho => v = .tuple #[.int .i64 (checkP p).1, .int .i64 0] ∧ G' = G ∧ Ho = []) := by
  have hf : (checkP p).2 = false := by unfold rightP at hR; simpa using hR
  have h := c38 G p ac ao cc co hc ho h1 h2
  rw [hf] at h
  exact h
theorem cmpZ_zero {x y : Int} (h : cmpZ x y = 0) : x = y := by
  unfold cmpZ at h
  split at h
  · omega
  · split at h <;> omega
theorem take_next {za zb : List Int} {i : Nat} (h : za.take i = zb.take i) (h1 : i < za.length) (h2 : i < zb.length) (he : za[i]?.getD 0 = zb[i]?.getD 0) : za.take (i + 1) = zb.take (i + 1) := by
  rw [List.getElem?_eq_getElem h1, List.getElem?_eq_getElem h2] at he
  rw [List.take_add_one, List.take_add_one, h, List.getElem?_eq_getElem h1, List.getElem?_eq_getElem h2]
  have e : za[i] = zb[i] := he
  rw [e]
/-- the registers at first -/
def regs0Z (p : PV) (zs : List Int) : List Int := zs ++ List.replicate (p.regs.toNat - zs.length) 0
def outsZ (p : PV) (rs : List Int) : List Int := p.outs.map fun r => rs[r.toNat]?.getD 0
/-- the run on numbers -/
def ansZ (p : PV) (zs : List Int) : Option (List Int) := (stepsZ p (regs0Z p zs) p.code.length).map (outsZ p)
theorem bigs_append {G : Imm} {l m : List IV} {zs ys : List Int} (h : Bigs G l zs) (h2 : Bigs G m ys) : Bigs G (l ++ m) (zs ++ ys) := by
  have e1 := h.1
  have e2 := h2.1
  refine ⟨by rw [List.length_append, List.length_append]; omega, fun i hi => ?_⟩
  rw [List.length_append] at hi
  rcases Nat.lt_or_ge i l.length with h3 | h3
  · rw [List.getElem?_append_left h3, List.getElem?_append_left (by omega)]; exact h.2 i h3
  · rw [List.getElem?_append_right h3, List.getElem?_append_right (by omega), ← e1]; exact h2.2 _ (by omega)
theorem below_append {m : Nat} {zs ys : List Int} (h : Below m zs) (h2 : Below m ys) : Below m (zs ++ ys) := fun z hz => by
  rcases List.mem_append.1 hz with h1 | h1
  · exact h z h1
  · exact h2 z h1
theorem below_zeros (m n : Nat) : Below m (List.replicate n 0) := fun z hz => by rw [List.eq_of_mem_replicate hz]; exact pb_pos m
attribute [local irreducible] valB pb cmpZ lstWp p2 cst doZ checkP
theorem c32 (G : Imm) (p : PV) (ac ao : Option Addr) (cc co : Nat) (hc : Arr G ac p.code) (ho : Arr G ao p.outs) (h1 : p.code.length ≤ 1099511627776) (h2 : p.outs.length ≤ 1099511627776) (hR : rightP p = true) (n : Int) (hn : n = p.ins) :
    Does Tryz.prog 32 [.agg #[.int .i64 p.ins, .int .i64 p.regs, .slice ac p.code.length cc, .slice ao p.outs.length co], .int .i64 n] G [] (fun v G' Ho => v = .int .i64 0 ∧ G' = G ∧ Ho = []) := by
  refine Does.enter Tryz.func32 rfl Tryz.ntmps32 rfl (fun w => ?_)
  refine Wc.gl 2 [] ?_
  refine Wl.box 0 rfl rfl rfl (fun b1 => ?_)
  refine Wl.gl 6 [0] ?_
  refine Wl.call0 rfl T.fn38 rfl (c38R _ p _ _ _ _ hc ho h1 h2 hR) ?_
  refine Wl.ga 36 [0, 0, 0] ?_
  refine Ar.out1 (.inr rfl) (Ho := Hp.only _ []) rfl (.tmp rfl) (Hp.sub_only _ _) ?_
  exact ⟨rfl, rfl, rfl⟩
theorem c36 (G : Imm) (a b : Option Addr) (ca cb : Nat) (la lb : List IV) (za zb : List Int) (ha : Arr G a la) (hb : Arr G b lb) (hA : Bigs G la za) (hB : Bigs G lb zb) (h1 : la.length ≤ 1048576) (h2 : lb.length ≤ 1048576) (m : Nat) (hm : m ≤ 268435456) (ba : Below m za) (bb : Below m zb) :
    Does Tryz.prog 36 [.slice a la.length ca, .slice b lb.length cb] G [] (fun v G' Ho => ∃ k : Int, v = .int .i64 k ∧ (k = 0 ↔ za = zb) ∧ G' = G ∧ Ho = []) := by
  have e1 := hA.1
  have e2 := hB.1
  refine Does.enter Tryz.func36 rfl Tryz.ntmps36 rfl (fun w => ?_)
  by_cases hn : la.length = lb.length
  · refine Wc.gc 41 [0, 0] ?_
    refine Wc.loop (ι := Nat) (fun i => ([(22, .int .i64 (i : Int)), (21, Go.Value.int Go.IntKind.i64 (↑(List.length la) : Int)), (20, Go.Value.slice a (List.length la) ca), (1, Go.Value.slice b (List.length lb) cb)], [])) (fun i => i ≤ la.length ∧ za.take i = zb.take i) (fun i => la.length - i) (0) (⟨Nat.zero_le _, rfl⟩) ⟨rfl, rfl, rfl, rfl, trivial⟩ trivial (fun i => fun (hk : i ≤ la.length ∧ za.take i = zb.take i) => ?_)
    obtain ⟨hi, hz⟩ := hk
    rcases Nat.lt_or_ge i la.length with hia | hia
    · have hx9 := hA.at (k := (i : Int)) (by omega)
      have hy9 := hB.at (k := (i : Int)) (by omega)
      have hx5 := Nat.le_trans (Big.len hx9 (ba.at _)) (Nat.le_trans hm (show 268435456 ≤ 1073741824 by decide))
      have hy5 := Nat.le_trans (Big.len hy9 (bb.at _)) (Nat.le_trans hm (show 268435456 ≤ 1073741824 by decide))
      refine Wc.gl 14 [1] ?_
      refine Wl.q rfl (Qy.at (α := IV) T.sl42 rfl rfl (by assumption) (by omega)) ?_
      refine Wl.q rfl (Qy.loadsG T.agg37 rfl (Arr.elem (by assumption) (by omega)) rfl) ?_
      refine Wl.alloc 0 rfl T.zero37 (fun b1 => ?_)
      refine Wl.gc 5 [0] ?_
      refine Wc.draw [0] [] T.mixed rfl ?_
      refine Gm.q 0 [0] (by kernel_rfl) rfl rfl (Qy.loadAll 0 T.agg37 rfl rfl rfl) ?_
      refine Gm.q 1 [] (by kernel_rfl) rfl rfl (Qy.move rfl) ?_
      refine Gm.q 2 [] (by kernel_rfl) rfl rfl (Qy.move rfl) ?_
      refine Gm.q 3 [] (by kernel_rfl) rfl rfl (Qy.at (α := IV) T.sl42 rfl rfl (by assumption) (by omega)) ?_
      refine Gm.q 4 [] (by kernel_rfl) rfl rfl (Qy.loadsG T.agg37 rfl (Arr.elem (by assumption) (by omega)) rfl) ?_
      refine Gm.one 5 ⟨rfl, trivial⟩ (by first | exact Imm.le_refl _ | assumption | (refine Imm.le_trans ?_ (by assumption); first | assumption | (refine Imm.le_trans ?_ (by assumption); assumption))) (by kernel_rfl) rfl ?_
      refine Wl.call0 rfl T.fn63 rfl (c63 _ _ _ _ _ hx9 hy9 hx5 hy5) ?_
      refine Wl.on0 ?_
      refine Gm.q 6 [] (by kernel_rfl) rfl rfl (Qy.assign rfl) ?_
      refine Gm.doneA (by kernel_rfl) ⟨rfl, trivial⟩ (by first | exact Imm.le_refl _ | assumption | (refine Imm.le_trans ?_ (by assumption); first | assumption | (refine Imm.le_trans ?_ (by assumption); assumption))) ?_
      refine Ar.gc 7 [] ?_
      refine Wc.cond rfl (fun hc1 => ?_) (fun hc1 => ?_)
      refine Wc.ga 12 [] ?_
      refine Ar.out1 (.inr rfl) (Ho := Hp.only _ []) rfl (.tmp rfl) (Hp.sub_only _ _) ?_
      rotate_left
      refine Wc.ga 7 [] ?_
      rotate_left
      · exact ⟨_, rfl, ⟨fun h => absurd h hc1, fun h => absurd (cmpZ_eq (by rw [h])) hc1⟩, rfl, rfl⟩
      · refine Ar.again (i + 1) ?_ ?_ rfl ⟨rfl, rfl, rfl, rfl, trivial⟩ trivial
        · exact ⟨by omega, take_next hz (by omega) (by omega) (cmpZ_zero (Decidable.not_not.1 hc1))⟩
        · omega
    · have hii : i = la.length := by omega
      subst hii
      refine Wc.ga 18 [0] ?_
      refine Ar.out1 (.inr rfl) (Ho := Hp.only _ []) rfl (.tmp rfl) (Hp.sub_only _ _) ?_
      refine ⟨0, rfl, ⟨fun _ => ?_, fun _ => rfl⟩, rfl, rfl⟩
      rw [List.take_of_length_le (by omega), List.take_of_length_le (by omega)] at hz
      exact hz
  · have hne : za ≠ zb := fun h => hn (by rw [e1, e2, h])
    by_cases hlt : la.length < lb.length
    · refine Wc.ga 26 [1] ?_
      refine Ar.out1 (.inr rfl) (Ho := Hp.only _ []) rfl (.tmp rfl) (Hp.sub_only _ _) ?_
      exact ⟨-1, rfl, ⟨fun h => absurd h (by decide), fun h => absurd h hne⟩, rfl, rfl⟩
    · refine Wc.ga 37 [0, 1] ?_
      refine Ar.out1 (.inr rfl) (Ho := Hp.only _ []) rfl (.tmp rfl) (Hp.sub_only _ _) ?_
      exact ⟨1, rfl, ⟨fun h => absurd h (by decide), fun h => absurd h hne⟩, rfl, rfl⟩
theorem c15 (G : Imm) (a b : Option Addr) (ca cb : Nat) (la lb : List IV) (za zb : List Int) (ha : Arr G a la) (hb : Arr G b lb) (hA : Bigs G la za) (hB : Bigs G lb zb) (h1 : la.length ≤ 1048576) (h2 : lb.length ≤ 1048576) (m : Nat) (hm : m ≤ 268435456) (ba : Below m za) (bb : Below m zb) :
    Does Tryz.prog 15 [.slice a la.length ca, .slice b lb.length cb] G [] (fun v G' Ho => v = .bool (decide (za = zb)) ∧ G' = G ∧ Ho = []) := by
  refine Does.enter Tryz.func15 rfl Tryz.ntmps15 rfl (fun w => ?_)
  refine Wc.gl 9 [] ?_
  refine Wl.call 0 rfl T.fn36 rfl (c36 G _ _ _ _ _ _ za zb ha hb hA hB h1 h2 m hm ba bb) (tags_of trivial) (fun v1 G1 Ho1 hle1 hp => ?_)
  obtain ⟨k1, rfl, hk1, rfl, rfl⟩ := hp
  refine Wl.ga 5 [] ?_
  refine Ar.out1 (.inr rfl) (Ho := Hp.only _ []) rfl (.tmp rfl) (Hp.sub_only _ _) ?_
  exact ⟨by rw [decide_eq_decide.2 hk1], rfl, rfl⟩
theorem c34 (G : Imm) : Does Tryz.prog 34 [] G [] (fun v G' Ho => v = waysV ∧ G' = G ∧ Ho = []) := by
  refine Does.enter Tryz.func34 rfl Tryz.ntmps34 rfl (fun w => ?_)
  refine Wc.gl 2 [] ?_
  refine Wl.alloc 0 rfl T.zero74 (fun b1 => ?_)
  refine Wl.gl 4 [] ?_
  refine Wl.q rfl (Qy.build (cs := [_, _, _, _, _]) T.st74 rfl rfl rfl) ?_
  refine Wl.ga 4 [0] ?_
  refine Ar.out1 (.inr rfl) (Ho := Hp.only _ []) rfl (.agg 0 rfl rfl T.agg74) (Hp.sub_only _ _) ?_
  exact ⟨rfl, rfl, rfl⟩
/-- what Run answers -/
def RunsPost (p : PV) (zs : List Int) (v : Value) (G' : Imm) (Ho : Hp) : Prop :=
  Ho = [] ∧ ((∃ os b r c', ansZ p zs = some os ∧ v = .tuple #[.slice b (List.length r) c', .int .i64 0, .int .i64 0] ∧ Arr G' b r ∧ Bigs G' r os ∧ List.length r = p.outs.length) ∨ (ansZ p zs = none ∧ ∃ k, v = .tuple #[.slice none 0 0, .int .i64 k, .int .i64 20]))
theorem c14 (G : Imm) (p : PV) (ac ao ai : Option Addr) (cc co ci : Nat) (li : List IV) (zs : List Int) (m : Nat) (hc : Arr G ac p.code) (ho : Arr G ao p.outs) (hi : Arr G ai li) (hb : Bigs G li zs) (hm : Below m zs) (hmm : m ≤ 1048576) (hR : rightP p = true) (hn : (li.length : Int) = p.ins) :
    Does Tryz.prog 14 [.agg #[.int .i64 p.ins, .int .i64 p.regs, .slice ac p.code.length cc, .slice ao p.outs.length co], .slice ai li.length ci] G [] (RunsPost p zs) := by
  obtain ⟨f1, f2, f3, f4, f5, f6, f7, f8⟩ := right_facts hR
  have h1 : p.code.length ≤ 1099511627776 := by omega
  have h2 : p.outs.length ≤ 1099511627776 := by omega
  obtain ⟨R, hRg⟩ : ∃ R, R = p.regs.toNat := ⟨_, rfl⟩
  have hb1 := hb.1
  obtain ⟨r0, hr0⟩ : ∃ r0, r0 = li ++ List.replicate (R - li.length) (default : IV) := ⟨_, rfl⟩
  have lr0 : r0.length = R := by rw [hr0, List.length_append, List.length_replicate]; omega
  have hg0 : Bigs G r0 (regs0Z p zs) := by
    unfold regs0Z
    rw [hr0, ← hb1, ← hRg]; exact bigs_append hb (Bigs.zeros G _)
  have hm0 : Below m (regs0Z p zs) := below_append hm (below_zeros m _)
  refine Does.enter Tryz.func14 rfl Tryz.ntmps14 rfl (fun w => ?_)
  refine Wc.nilRow 0 (Row 37 ([] : List IV) []) ?_
  refine Wc.gl 2 [] ?_
  refine Wl.box 1 rfl rfl rfl (fun b1 => ?_)
  refine Wl.gl 11 [1] ?_
  refine Wl.call0 rfl T.fn32 rfl (c32 _ p _ _ _ _ (by assumption) (by assumption) h1 h2 hR _ hn) ?_
  refine Wl.gl 16 [0, 1] ?_
  refine Wl.make (α := IV) 2 rfl T.sl42 T.el37 rfl rfl (by omega) (by omega) (fun b2 => ?_)
  refine Wl.gl 7 [] ?_
  refine Wl.copyRow (α := IV) 2 rfl T.sl42 rfl rfl rfl (Src.arr (by assumption)) (by first | omega | (simp only [List.length_append, List.length_cons, List.length_nil, List.length_replicate]; omega)) ?_
  refine Wl.gc 4 [] ?_
  refine Wc.draw [0, 1, 2] [(2, 3), (1, 3), (0, 3)] T.mixed rfl ?_
  refine Gm.q 1 [1] (by kernel_rfl) rfl rfl (Qy.loadAll 1 T.agg29 rfl rfl rfl) ?_
  refine Gm.q 2 [] (by kernel_rfl) rfl rfl (Qy.move rfl) ?_
  refine Gm.one 0 ⟨rfl, rfl, rfl, trivial⟩ (by first | exact Imm.le_refl _ | assumption | (refine Imm.le_trans ?_ (by assumption); first | assumption | (refine Imm.le_trans ?_ (by assumption); assumption))) (by kernel_rfl) rfl ?_
  refine Wl.call0 rfl T.fn34 rfl (c34 _) ?_
  refine Wl.on0 ?_
  refine Gm.one 3 ⟨rfl, rfl, rfl, trivial⟩ (by first | exact Imm.le_refl _ | assumption | (refine Imm.le_trans ?_ (by assumption); first | assumption | (refine Imm.le_trans ?_ (by assumption); assumption))) (by kernel_rfl) rfl ?_
  refine Wl.reH 2 (Row 37 r0 []) rfl (by rw [hr0, List.drop_replicate, ← hRg]) ?_
  refine Wl.re 28 rfl (show _ = Value.slice (some ⟨b2, 0, none⟩) r0.length R by rw [List.length_replicate, lr0, ← hRg]) ?_
  refine Wl.re 8 rfl (show _ = Value.slice (some ⟨b2, 0, none⟩) r0.length R by rw [List.length_replicate, lr0, ← hRg]) ?_
  refine Wl.call 2 rfl T.fn33 rfl (c33 _ p ac ao cc co (some ⟨b2, 0, none⟩) R r0 [] (regs0Z p zs) m hc (.inr ⟨b2, rfl, by rw [lr0]; rfl, by omega, by simp only [maxLen]; omega⟩) hg0 hm0 (by omega) f4 (by omega) (by omega) f8) (tags_of ⟨rfl, trivial⟩) (fun v9 G9 Ho9 hle9 hp => ?_)
  obtain ⟨r9, k9, rfl, rfl, hr9, ho9, hcase⟩ := hp
  replace ho := ho.up hle9
  rcases hcase with ⟨rs, hrs, rfl, hg9⟩ | ⟨hno, hk9⟩
  · have hrs1 := hg9.1
    refine Wl.on0 ?_
    refine Gm.q 4 [] (by kernel_rfl) rfl rfl (Qy.assign rfl) ?_
    refine Gm.doneA (by kernel_rfl) trivial (by first | exact Imm.le_refl _ | assumption | (refine Imm.le_trans ?_ (by assumption); first | assumption | (refine Imm.le_trans ?_ (by assumption); assumption))) ?_
    refine Ar.gc 25 [0, 1] ?_
    have lr9 : r9.length = R := by omega
    refine Wc.re 8 rfl (show _ = Value.slice (some ⟨b2, 0, none⟩) r9.length R by rw [lr9, lr0]) ?_
    refine Wc.loop (ι := Nat × List IV × (Option Addr × Nat × List Value)) (fun (i, q, (o, d, j)) => ([(36, .int .i64 (i : Int)), (10, .slice o q.length d), (8, Go.Value.slice (Option.some (Go.Addr.mk b2 0 Option.none)) (List.length r9) R), (35, Go.Value.int Go.IntKind.i64 (↑(List.length (Go.Proofs.YtelbhbbiejalhaaGreat.PV.outs p)) : Int)), (34, Go.Value.slice ao (List.length (Go.Proofs.YtelbhbbiejalhaaGreat.PV.outs p)) co), (6, Go.Value.int Go.IntKind.i64 0), (5, Go.Value.int Go.IntKind.i64 0), (4, Go.Value.slice Option.none 0 0)], [(0, o.map (·.block), Row 37 q j), (2, some b2, Row 37 r9 []), (1, Option.some b1, Go.Obj.cells #[Go.Value.int Go.IntKind.i64 (Go.Proofs.YtelbhbbiejalhaaGreat.PV.ins p), Go.Value.int Go.IntKind.i64 (Go.Proofs.YtelbhbbiejalhaaGreat.PV.regs p), Go.Value.slice ac (List.length (Go.Proofs.YtelbhbbiejalhaaGreat.PV.code p)) cc, Go.Value.slice ao (List.length (Go.Proofs.YtelbhbbiejalhaaGreat.PV.outs p)) co] 29)])) (fun (i, q, (o, d, j)) => i ≤ p.outs.length ∧ q.length = i ∧ Bigs G9 q ((outsZ p rs).take i) ∧ OwnA o d q j) (fun (i, q, (o, d, j)) => p.outs.length - i) ((0, [], (none, 0, []))) (⟨Nat.zero_le _, rfl, by rw [List.take_zero]; exact Bigs.nil _, OwnA.nil⟩) ⟨rfl, rfl, rfl, rfl, rfl, rfl, rfl, rfl, trivial⟩ ⟨rfl, rfl, rfl, trivial⟩ (fun ⟨i, q, (o, d, j)⟩ => fun (hk : i ≤ p.outs.length ∧ q.length = i ∧ Bigs G9 q ((outsZ p rs).take i) ∧ OwnA o d q j) => ?_)
    obtain ⟨hi0, hqi, hbq, hoq⟩ := hk
    rcases Nat.lt_or_ge i p.outs.length with hio | hio
    · have hmem : p.outs[((i : Nat) : Int).toNat]?.getD default ∈ p.outs := by
        rw [Int.toNat_natCast, List.getElem?_eq_getElem hio]; exact List.getElem_mem hio
      have hrg := f7 _ hmem
      refine Wc.gl 13 [1] ?_
      refine Wl.q rfl (Qy.at (α := Int) T.sl27 rfl rfl (by assumption) (by omega)) ?_
      refine Wl.q rfl (Qy.loadG T.one3 rfl (Arr.cell (by assumption) (by omega) 0 rfl rfl)) ?_
      refine Wl.gl 7 [] ?_
      refine Wl.q rfl (Qy.indexAddrO (α := IV) T.sl42 rfl rfl (by assumption) (by omega)) ?_
      refine Wl.q rfl (Qy.loadsO 2 T.agg37 rfl rfl (by assumption) (by omega)) ?_
      refine Wl.lit (α := IV) 3 [(Option.getD r9[Int.toNat (Option.getD (Go.Proofs.YtelbhbbiejalhaaGreat.PV.outs p)[Int.toNat (↑i : Int)]? Inhabited.default)]? Inhabited.default)] rfl T.sl42 T.el37 rfl rfl rfl rfl rfl (fun b3 => ?_)
      refine Wl.append (α := IV) 0 rfl T.sl42 T.el37 rfl rfl rfl (by first | assumption | exact OwnA.nil | exact OwnA.made (by simp)) (Src.row 3 rfl) (by first | omega | (simp only [List.length_append, List.length_cons, List.length_nil, maxLen]; omega)) (by first | omega | (simp only [List.length_append, List.length_cons, List.length_nil, maxLen]; omega)) (fun a1 c1 junk1 ho1 => ?_)
      refine Wl.ga 8 [] ?_
      refine Ar.again ((i + 1, q ++ [r9[(p.outs[((i : Nat) : Int).toNat]?.getD default).toNat]?.getD default], (a1, c1, junk1))) ?_ ?_ rfl ⟨rfl, rfl, rfl, rfl, rfl, rfl, rfl, rfl, trivial⟩ ⟨rfl, rfl, rfl, trivial⟩
      · refine ⟨by omega, by rw [List.length_append, hqi]; rfl, ?_, ho1⟩
        have e : (outsZ p rs).take (i + 1) = (outsZ p rs).take i ++ [rs[(p.outs[((i : Nat) : Int).toNat]?.getD default).toNat]?.getD 0] := by
          rw [List.take_add_one]
          congr 1
          unfold outsZ
          rw [List.getElem?_map, Int.toNat_natCast, List.getElem?_eq_getElem hio]; rfl
        rw [e]
        exact Bigs.snoc hbq (hg9.at (by omega))
      · show p.outs.length - (i + 1) < p.outs.length - i
        omega
    · have hii : i = p.outs.length := by omega
      subst hii
      refine Wc.ga 21 [0] ?_
      refine Ar.freezeRow 0 rfl hoq (fun G8 hle8 hA => ?_)
      refine Ar.out3 (.inr rfl) (Ho := []) rfl (.tmp rfl) (.tmp rfl) (.tmp rfl) trivial ?_
      have hol : (outsZ p rs).length = p.outs.length := by unfold outsZ; rw [List.length_map]
      rw [List.take_of_length_le (by omega)] at hbq
      exact ⟨rfl, .inl ⟨outsZ p rs, o, q, d, by unfold ansZ; rw [hrs]; rfl, rfl, hA, hbq.up hle8, hqi⟩⟩
  · refine Wl.on0 ?_
    refine Gm.q 4 [] (by kernel_rfl) rfl rfl (Qy.assign rfl) ?_
    refine Gm.doneA (by kernel_rfl) trivial (by first | exact Imm.le_refl _ | assumption | (refine Imm.le_trans ?_ (by assumption); first | assumption | (refine Imm.le_trans ?_ (by assumption); assumption))) ?_
    refine Ar.ga 18 [1] ?_
    refine Ar.out3 (.inr rfl) (Ho := []) rfl (.tmp rfl) (.tmp rfl) (.tmp rfl) trivial ?_
    exact ⟨rfl, .inr ⟨by unfold ansZ; rw [hno]; rfl, k9, rfl⟩⟩
end Go.Proofs.YtelbhbbiejalhaaGreat
set_option maxRecDepth 100000
set_option linter.unusedVariables false
namespace Go.Proofs.YtelbhbbiejalhaaGreat
open Go Go.Sl
set_option maxHeartbeats 4000000
attribute [local irreducible] valB valL pb pw cmpZ lstWp p2 RightL powR
/-- few digits -/
def small (z : Int) : Prop := z.natAbs < 18446744073709551616
end Go.Proofs.YtelbhbbiejalhaaGreat
set_option maxRecDepth 100000
set_option linter.unusedVariables false
namespace Go.Proofs.YtelbhbbiejalhaaGreat
open Go Go.Sl
set_option maxHeartbeats 4000000
attribute [local irreducible] valB valL pb pw cmpZ lstWp p2 RightL powR
/-- a row of the reference's numbers, by its slice -/
def NRow (G : Imm) (s : SV) (zs : List Int) : Prop := ∃ l : List IV, l.length = s.n ∧ s.n ≤ s.c ∧ Arr G s.a l ∧ Nums G l zs
theorem NRow.up {G G' : Imm} {s : SV} {zs : List Int} (h : NRow G s zs) (hl : G.le G') : NRow G' s zs := by
  obtain ⟨l, h1, h2, h3, h4⟩ := h
  exact ⟨l, h1, h2, h3.up hl, h4.up hl⟩
def NGrid (G : Imm) (l : List SV) (rs : List (List Int)) : Prop := l.length = rs.length ∧ ∀ i : Nat, i < l.length → NRow G (l[i]?.getD default) (rs[i]?.getD [])
theorem NGrid.up {G G' : Imm} {l : List SV} {rs : List (List Int)} (h : NGrid G l rs) (hl : G.le G') : NGrid G' l rs := ⟨h.1, fun i hi => (h.2 i hi).up hl⟩
theorem NGrid.nil (G : Imm) : NGrid G [] [] := ⟨rfl, fun i hi => by simp at hi⟩
theorem NGrid.snoc {G : Imm} {l : List SV} {rs : List (List Int)} (h : NGrid G l rs) {s : SV} {zs : List Int} (hs : NRow G s zs) : NGrid G (l ++ [s]) (rs ++ [zs]) := by
  refine ⟨by rw [List.length_append, List.length_append, h.1]; rfl, fun i hi => ?_⟩
  rw [List.length_append, List.length_singleton] at hi
  rcases Nat.lt_or_ge i l.length with h1 | h1
  · rw [List.getElem?_append_left h1, List.getElem?_append_left (by rw [← h.1]; exact h1)]; exact h.2 i h1
  · have : i = l.length := by omega
    subst this
    rw [List.getElem?_append_right (Nat.le_refl _), List.getElem?_append_right (by rw [h.1]; exact Nat.le_refl _), Nat.sub_self, h.1, Nat.sub_self]
    exact hs
end Go.Proofs.YtelbhbbiejalhaaGreat
set_option maxRecDepth 100000
set_option linter.unusedVariables false
namespace Go.Proofs.YtelbhbbiejalhaaGreat
open Go Go.Sl
set_option maxHeartbeats 4000000
/-- the row with a one at j -/
def unitR (n j : Nat) : List Int := (List.replicate n 0).set j 1
/-- does a program interpolate there? -/
def InterpP (p : PV) (l : List R2) : Prop := rightP p = true ∧ p.ins = l.length ∧ p.outs.length = l.length ∧ followP p (gridR l) = some ((List.range l.length).map (unitR l.length))
instance (p : PV) (l : List R2) : Decidable (InterpP p l) := inferInstanceAs (Decidable (_ ∧ _))
attribute [local irreducible] valB valL pb pw cmpZ lstWp p2 powR gridR followP rightP
end Go.Proofs.YtelbhbbiejalhaaGreat
set_option maxRecDepth 100000
set_option linter.unusedVariables false
set_option linter.unusedSectionVars false
set_option linter.unusedSimpArgs false
namespace Go.Proofs.YtelbhbbiejalhaaGreat
open Go Go.Sl
set_option maxHeartbeats 4000000
attribute [local irreducible] RightL RightR gridR InterpP rightP
theorem right_live : RightL [⟨0, 1⟩] := by
  unfold RightL
  refine ⟨by simp, by simp, fun i hi => ?_, ?_⟩
  · have : i = 0 := by simp at hi; omega
    subst this
    show okP ⟨0, 1⟩
    unfold okP near
    simp
  · rintro ⟨j, hj, i, hi, _⟩
    simp at hj; omega
theorem c20L (G : Imm) (a : Option Addr) (c : Nat) (ha : Arr G a [(⟨0, 1⟩ : R2)]) (hc : 1 ≤ c) : Does Tryz.prog 20 [.slice a [(⟨0, 1⟩ : R2)].length c] G [] (fun v G' Ho => v = .bool true ∧ G' = G ∧ Ho = []) :=
  c20Y G a c _ ha (by simp) (by simpa using hc) right_live
theorem c6 (G : Imm) : Does Tryz.prog 6 [] G [] (fun v G' Ho => v = .bool true ∧ G' = G ∧ Ho = []) := by
  refine Does.enter Tryz.func6 rfl Tryz.ntmps6 rfl (fun w => ?_)
  refine Wc.gl 7 [] ?_
  refine Wl.q rfl (Qy.build (cs := [_, _]) T.st34 rfl rfl rfl) ?_
  refine Wl.lit (α := R2) 0 [⟨0, 1⟩] rfl T.sl22 T.el34 rfl rfl rfl rfl rfl (fun b1 => ?_)
  refine Wl.callB 1 rfl T.fn20 rfl (fun Gx hGx hgx => (c20L _ _ _ (by first | exact Arr.up (by assumption) hGx | exact Arr.nil _ | exact Arr.own hgx 0 rfl (by first | assumption | exact OwnA.made (by simp [maxLen]))) (by omega))) (fun v1 Gx1 G1 Ho1 hlx1 hp => ?_)
  obtain ⟨rfl, rfl, rfl⟩ := hp
  refine Wl.ga 4 [] ?_
  refine Ar.out1 (.inr rfl) (Ho := []) rfl (.tmp rfl) trivial ?_
  exact ⟨rfl, rfl, rfl⟩
theorem c7Y (G : Imm) (a : Option Addr) (c : Nat) (l : List R2) (ha : Arr G a l) (h1 : l.length ≤ 1048576) (hc : l.length ≤ c) (hR : RightL l) : Does Tryz.prog 7 [.slice a l.length c] G [] (fun v G' Ho => v = .bool true ∧ G' = G ∧ Ho = []) :=
  (c7 G a c l ha h1 hc).mono fun v G' Ho _ ⟨b, e1, e2, e3, e4⟩ => ⟨by rw [e1, e2.2 ((right_iff l).1 hR)], e3, e4⟩
theorem c7N (G : Imm) (a : Option Addr) (c : Nat) (l : List R2) (ha : Arr G a l) (h1 : l.length ≤ 1048576) (hc : l.length ≤ c) (hR : ¬ RightL l) : Does Tryz.prog 7 [.slice a l.length c] G [] (fun v G' Ho => v = .bool false ∧ G' = G ∧ Ho = []) :=
  (c7 G a c l ha h1 hc).mono fun v G' Ho _ ⟨b, e1, e2, e3, e4⟩ => ⟨by rw [e1]; congr 1; cases b; { rfl }; exact absurd ((right_iff l).2 (e2.1 rfl)) hR, e3, e4⟩
section
variable (G : Imm) (p : PV) (ac ao : Option Addr) (cc co : Nat) (a : Option Addr) (c : Nat) (l : List R2) (hc : Arr G ac p.code) (ho : Arr G ao p.outs) (hcl : p.code.length ≤ 1099511627776) (hol : p.outs.length ≤ 1099511627776) (ha : Arr G a l) (hac : l.length ≤ c) (hl : l.length ≤ 1048576)
include hc ho hcl hol
end
/-- the law's answer -/
def LawTrue (v : Value) (G' : Imm) (Ho : Hp) : Prop := v = .bool true ∧ Ho = []
section
variable (G : Imm) (p : PV) (ac ao : Option Addr) (cc co : Nat) (a : Option Addr) (c : Nat) (l : List R2) (hc : Arr G ac p.code) (ho : Arr G ao p.outs) (hcl : p.code.length ≤ 1048576) (hol : p.outs.length ≤ 1048576) (ha : Arr G a l) (hac : l.length ≤ c) (hl : l.length ≤ 1048576)
include hc ho hcl hol ha hac hl
end
end Go.Proofs.YtelbhbbiejalhaaGreat
set_option linter.unusedVariables false
namespace Go.Proofs.YtelbhbbiejalhaaGreat
open Go Go.Sl
def ev : List Int → Int → Int → Int
  | [], _, _ => 0
  | c :: f, a, b => c * b ^ f.length + a * ev f a b
theorem ev_scale (g a b : Int) : ∀ f : List Int, ev f (g * a) (g * b) * g = g ^ f.length * ev f a b
  | [] => by simp [ev]
  | c :: f => by
    have ih := ev_scale g a b f
    show (c * (g * b) ^ f.length + g * a * ev f (g * a) (g * b)) * g = g ^ (f.length + 1) * (c * b ^ f.length + a * ev f a b)
    rw [Int.mul_pow, Int.pow_succ, Int.add_mul, Int.mul_add]
    congr 1
    · ac_rfl
    · calc g * a * ev f (g * a) (g * b) * g = g * a * (ev f (g * a) (g * b) * g) := by ac_rfl
        _ = g * a * (g ^ f.length * ev f a b) := by rw [ih]
        _ = g ^ f.length * g * (a * ev f a b) := by ac_rfl
/-- .. a coordinate's common factor goes out, to the degree -/
theorem ev_norm {g : Int} (a b : Int) (c : Int) (f : List Int) (hg : g ≠ 0) : ev (c :: f) (g * a) (g * b) = g ^ f.length * ev (c :: f) a b := by
  have h := ev_scale g a b (c :: f)
  refine Int.eq_of_mul_eq_mul_right hg ?_
  rw [h, List.length_cons, Int.pow_succ]
  ac_rfl
/-- a form by the linear form p Y - q X (p, q a point's coordinates), from the lowest coefficient on -/
def byLin (p q : Int) : Int → List Int → List Int
  | last, [] => [-(q * last)]
  | last, c :: f => (p * c - q * last) :: byLin p q c f
theorem byLin_len (p q : Int) : ∀ (last : Int) (f : List Int), (byLin p q last f).length = f.length + 1
  | _, [] => rfl
  | _, c :: f => by show (byLin p q c f).length + 1 = f.length + 1 + 1; rw [byLin_len]
theorem byLin_ev (p q a b : Int) : ∀ (last : Int) (f : List Int), ev (byLin p q last f) a b = (p * b - q * a) * ev f a b - q * last * b ^ f.length
  | last, [] => by
    show -(q * last) * b ^ 0 + a * 0 = (p * b - q * a) * 0 - q * last * b ^ 0
    rw [Int.mul_zero, Int.mul_zero, Int.add_zero, Int.neg_mul]; omega
  | last, c :: f => by
    show (p * c - q * last) * b ^ (byLin p q c f).length + a * ev (byLin p q c f) a b = (p * b - q * a) * (c * b ^ f.length + a * ev f a b) - q * last * b ^ (f.length + 1)
    rw [byLin_len, byLin_ev p q a b c f, Int.pow_succ]
    generalize b ^ f.length = B
    generalize ev f a b = E
    have h1 : (p * c - q * last) * (B * b) = p * c * (B * b) - q * last * (B * b) := Int.sub_mul ..
    have h2 : a * ((p * b - q * a) * E - q * c * B) = a * ((p * b - q * a) * E) - a * (q * c * B) := Int.mul_sub ..
    have h3 : (p * b - q * a) * (c * B + a * E) = (p * b - q * a) * (c * B) + (p * b - q * a) * (a * E) := Int.mul_add ..
    have h4 : (p * b - q * a) * (c * B) = p * b * (c * B) - q * a * (c * B) := Int.sub_mul ..
    have h5 : a * ((p * b - q * a) * E) = (p * b - q * a) * (a * E) := by ac_rfl
    have h6 : p * c * (B * b) = p * b * (c * B) := by ac_rfl
    have h7 : a * (q * c * B) = q * a * (c * B) := by ac_rfl
    rw [h1, h2, h3, h4, h5, h6, h7]
    omega
theorem cop_dvd {p q x : Int} (hc : Int.gcd p q = 1) (k : Nat) (h : p ∣ x * q ^ k) : p ∣ x := by
  have h1 : p.natAbs ∣ x.natAbs * q.natAbs ^ k := by rw [← Int.natAbs_pow, ← Int.natAbs_mul]; exact Int.natAbs_dvd_natAbs.mpr h
  exact Int.natAbs_dvd_natAbs.mp ((Nat.Coprime.pow_right k (show Nat.Coprime p.natAbs q.natAbs from hc)).dvd_of_dvd_mul_right h1)
/-- a form that is nought at a point without common factor is one by the point's linear form, over the whole numbers -/
theorem lin_div {p q : Int} (hc : Int.gcd p q = 1) : ∀ (F : List Int) (last : Int) (m : Nat), F.length = m + 1 → ev F p q = -(q * last) * q ^ m → ∃ f : List Int, f.length = m ∧ F = byLin p q last f
  | [], _, _, h, _ => by simp at h
  | [c], last, m, h, he => by
    have hm : m = 0 := by simpa using h.symm
    subst hm
    refine ⟨[], rfl, ?_⟩
    have e : c * q ^ 0 + p * 0 = -(q * last) * q ^ 0 := he
    rw [Int.pow_zero, Int.mul_one, Int.mul_zero, Int.add_zero, Int.mul_one] at e
    rw [e]; rfl
  | c :: c' :: F, last, m, h, he => by
    obtain ⟨k, rfl⟩ : ∃ k, m = k + 1 := ⟨F.length, by simp at h; omega⟩
    have hl : (c' :: F).length = k + 1 := by simp at h ⊢; omega
    have e : c * q ^ (c' :: F).length + p * ev (c' :: F) p q = -(q * last) * q ^ (k + 1) := he
    rw [hl] at e
    have e1 : (c + q * last) * q ^ (k + 1) = p * (-ev (c' :: F) p q) := by
      rw [Int.add_mul, Int.mul_neg]
      rw [Int.neg_mul] at e
      omega
    have hd : ∃ d : Int, c = p * d - q * last ∧ ev (c' :: F) p q = -(q * d) * q ^ k := by
      by_cases hp : p = 0
      · subst hp
        have hq : q.natAbs = 1 := by simpa [Int.gcd] using hc
        have hq2 : q * q = 1 := by
          rcases Int.natAbs_eq q with h | h <;> rw [hq] at h <;> rw [h] <;> rfl
        have hqk : ∀ n : Nat, q ^ n * q ^ n = 1 := fun n => by
          induction n with
          | zero => simp
          | succ n ih => rw [Int.pow_succ, show q ^ n * q * (q ^ n * q) = (q ^ n * q ^ n) * (q * q) by ac_rfl, ih, hq2]; rfl
        refine ⟨-(ev (c' :: F) 0 q * q ^ (k + 1)), ?_, ?_⟩
        · rw [Int.zero_mul] at e1
          have : c + q * last = 0 := by
            rcases Int.mul_eq_zero.mp e1 with h | h
            · exact h
            · have := hqk (k + 1); rw [h] at this; simp at this
          rw [Int.zero_mul]; omega
        · have h2 : -(q * -(ev (c' :: F) 0 q * q ^ (k + 1))) * q ^ k = ev (c' :: F) 0 q * (q ^ (k + 1) * q ^ (k + 1)) := by
            rw [Int.mul_neg, Int.neg_neg, Int.pow_succ]; ac_rfl
          rw [h2, hqk, Int.mul_one]
      · obtain ⟨d, hd⟩ := cop_dvd (x := c + q * last) hc (k + 1) ⟨_, e1⟩
        refine ⟨d, by omega, ?_⟩
        refine Int.eq_of_mul_eq_mul_left hp ?_
        rw [hd] at e1
        have h3 : p * (-(q * d) * q ^ k) = -(p * d * q ^ (k + 1)) := by
          rw [Int.pow_succ, Int.neg_mul, Int.mul_neg]; congr 1; ac_rfl
        rw [h3, e1, Int.mul_neg, Int.neg_neg]
    obtain ⟨d, hd1, hd2⟩ := hd
    obtain ⟨f, hf1, hf2⟩ := lin_div hc (c' :: F) d k hl hd2
    refine ⟨d :: f, by rw [List.length_cons, hf1], ?_⟩
    show c :: c' :: F = (p * d - q * last) :: byLin p q d f
    rw [← hf2, ← hd1]
/-- the powers of the form u X + v Y -/
def linPow (u v : Int) : Nat → List Int
  | 0 => [1]
  | e + 1 => byLin v (-u) 0 (linPow u v e)
theorem linPow_len (u v : Int) : ∀ e, (linPow u v e).length = e + 1
  | 0 => rfl
  | e + 1 => by show (byLin v (-u) 0 (linPow u v e)).length = _; rw [byLin_len, linPow_len]
theorem linPow_ev (u v a b : Int) : ∀ e, ev (linPow u v e) a b = (u * a + v * b) ^ e
  | 0 => by show (1 : Int) * b ^ 0 + a * 0 = _; simp
  | e + 1 => by
    show ev (byLin v (-u) 0 (linPow u v e)) a b = _
    rw [byLin_ev, linPow_ev, Int.mul_zero, Int.zero_mul, Int.sub_zero, Int.pow_succ, Int.neg_mul, Int.sub_neg, Int.mul_comm, Int.add_comm (v * b)]
/-- F less t times G -/
def lessT (t : Int) (F G : List Int) : List Int := List.zipWith (fun x y => x - t * y) F G
theorem lessT_ev (t a b : Int) : ∀ F G : List Int, F.length = G.length → ev (lessT t F G) a b = ev F a b - t * ev G a b
  | [], [], _ => by show (0 : Int) = 0 - t * 0; simp
  | x :: F, y :: G, h => by
    have hl : F.length = G.length := by simpa using h
    show (x - t * y) * b ^ (lessT t F G).length + a * ev (lessT t F G) a b = (x * b ^ F.length + a * ev F a b) - t * (y * b ^ G.length + a * ev G a b)
    have hz : (lessT t F G).length = G.length := by unfold lessT; rw [List.length_zipWith, hl, Nat.min_self]
    rw [hz, lessT_ev t a b F G hl, hl, Int.sub_mul, Int.mul_sub, Int.mul_add]
    have h1 : t * y * b ^ G.length = t * (y * b ^ G.length) := by ac_rfl
    have h2 : a * (t * ev G a b) = t * (a * ev G a b) := by ac_rfl
    rw [h1, h2]; omega
/-- a form less its value at a point times the power that is one there: what is left, by the point's linear form -/
theorem take_away {p q u v : Int} (hc : Int.gcd p q = 1) (h1 : u * p + v * q = 1) (F : List Int) (e : Nat) (hF : F.length = e + 1) :
    ∃ f : List Int, f.length = e ∧ lessT (ev F p q) F (linPow u v e) = byLin p q 0 f ∧ ∀ a b : Int, ev F a b - ev F p q * (u * a + v * b) ^ e = (p * b - q * a) * ev f a b := by
  have hl : F.length = (linPow u v e).length := by rw [hF, linPow_len]
  have hz : (lessT (ev F p q) F (linPow u v e)).length = e + 1 := by unfold lessT; rw [List.length_zipWith, linPow_len, hF, Nat.min_self]
  obtain ⟨f, hf1, hf2⟩ := lin_div hc (lessT (ev F p q) F (linPow u v e)) 0 e hz (by
    rw [lessT_ev _ _ _ _ _ hl, linPow_ev, h1, Int.one_pow, Int.mul_one, Int.sub_self]; simp)
  refine ⟨f, hf1, hf2, fun a b => ?_⟩
  have h3 := byLin_ev p q a b 0 f
  rw [← hf2, lessT_ev _ _ _ _ _ hl, linPow_ev, Int.mul_zero, Int.zero_mul, Int.sub_zero] at h3
  exact h3
theorem ev_zeros (a b : Int) : ∀ n : Nat, ev (List.replicate n 0) a b = 0
  | 0 => rfl
  | n + 1 => by
    show (0 : Int) * b ^ (List.replicate n (0 : Int)).length + a * ev (List.replicate n 0) a b = 0
    rw [ev_zeros, Int.zero_mul, Int.mul_zero]; rfl
end Go.Proofs.YtelbhbbiejalhaaGreat
set_option maxRecDepth 100000
set_option linter.unusedVariables false
namespace Go.Proofs.YtelbhbbiejalhaaGreat
open Go Go.Sl
set_option maxHeartbeats 4000000
/-- 0 to n - 1 -/
def idx (n : Nat) : List Int := (List.range n).map fun (k : Nat) => (k : Int)
theorem idx_len (n : Nat) : (idx n).length = n := by unfold idx; rw [List.length_map, List.length_range]
theorem idx_succ (n : Nat) : idx (n + 1) = idx n ++ [(n : Int)] := by unfold idx; rw [List.range_succ, List.map_append]; rfl
theorem c25 (G : Imm) (n : Nat) (hn : n ≤ 1048576) :
    Does Tryz.prog 25 [.int .i64 (n : Int)] G [] (fun v G' Ho => ∃ (s : Option Addr) (c : Nat), v = .slice s (idx n).length c ∧ Arr G' s (idx n) ∧ (idx n).length ≤ c ∧ Ho = []) := by
  refine Does.enter Tryz.func25 rfl Tryz.ntmps25 rfl (fun w => ?_)
  refine Wc.nilRow 9 (Row 3 ([] : List Int) []) ?_
  refine Wc.gc 18 [] ?_
  refine Wc.loop (ι := Nat × (Option Addr × Nat × List Value)) (fun (k, (o, d, j)) => ([(6, .int .i64 (k : Int)), (3, .slice o (idx k).length d), (5, Go.Value.int Go.IntKind.i64 (↑n : Int)), (2, Go.Value.slice Option.none 0 0)], [(9, o.map (·.block), Row 3 (idx k) j)])) (fun (k, (o, d, j)) => k ≤ n ∧ OwnA o d (idx k) j) (fun (k, (o, d, j)) => n - k) ((0, (none, 0, []))) (⟨Nat.zero_le _, OwnA.nil⟩) ⟨rfl, rfl, rfl, rfl, trivial⟩ ⟨rfl, trivial⟩ (fun ⟨k, (o, d, j)⟩ => fun (hk : k ≤ n ∧ OwnA o d (idx k) j) => ?_)
  obtain ⟨hk1, hk2⟩ := hk
  have hkl := idx_len k
  rcases Nat.lt_or_ge k n with hke | hke
  · refine Wc.gl 20 [1] ?_
    refine Wl.lit (α := Int) 10 [((↑k : Int))] rfl T.sl27 T.el3 rfl rfl rfl rfl rfl (fun b1 => ?_)
    refine Wl.append (α := Int) 9 rfl T.sl27 T.el3 rfl rfl rfl (by first | assumption | exact OwnA.nil | exact OwnA.made (by simp)) (Src.row 10 rfl) (by first | omega | (simp only [List.length_append, List.length_cons, List.length_nil, maxLen]; omega)) (by first | omega | (simp only [List.length_append, List.length_cons, List.length_nil, maxLen]; omega)) (fun a1 c1 junk1 ho1 => ?_)
    refine Wl.ga 8 [] ?_
    refine Ar.re 6 rfl (show _ = Value.int .i64 ((k + 1 : Nat) : Int) from rfl) ?_
    refine Ar.re 3 rfl (show _ = Value.slice a1 (idx (k + 1)).length c1 by rw [idx_succ]) ?_
    refine Ar.reH 9 (Row 3 (idx (k + 1)) junk1) rfl (by rw [idx_succ]) ?_
    refine Ar.again ((k + 1, (a1, c1, junk1))) ?_ ?_ rfl ⟨rfl, rfl, rfl, rfl, trivial⟩ ⟨rfl, trivial⟩
    · exact ⟨hke, by rw [idx_succ]; exact ho1⟩
    · show n - (k + 1) < n - k
      omega
  · have hke : k = n := by omega
    subst hke
    refine Wc.ga 19 [0] ?_
    refine Ar.freezeRow 9 rfl hk2 (fun G8 hle8 hA8 => ?_)
    refine Ar.out1 (.inr rfl) (Ho := []) rfl (.tmp rfl) trivial ?_
    exact ⟨_, _, rfl, hA8, hk2.le, rfl⟩
/-- how many points have coordinates with a common factor -/
def uneven (l : List R2) : Nat := (l.filter fun p => decide (Int.gcd p.a p.b ≠ 1)).length
end Go.Proofs.YtelbhbbiejalhaaGreat
set_option maxRecDepth 100000
set_option linter.unusedVariables false
namespace Go.Proofs.YtelbhbbiejalhaaGreat
open Go Go.Sl
set_option maxHeartbeats 4000000
/-- a division? -/
def isDiv (i : Sl.Instr) : Prop := i.op = 6 ∨ i.op = 8
instance (i : Sl.Instr) : Decidable (isDiv i) := inferInstanceAs (Decidable (_ ∨ _))
/-- a constant that is too great -/
def farC (i : Sl.Instr) : Prop := (i.op = 6 ∨ i.op = 5) ∧ (512 < i.c ∨ i.c < -512)
instance (i : Sl.Instr) : Decidable (farC i) := inferInstanceAs (Decidable (_ ∧ _))
def divs (c : List Sl.Instr) : Nat := (c.filter fun i => decide (isDiv i)).length
/-- no more divisions than allowed, constants within reach -/
def FewP (p : PV) (l : List R2) : Prop := (∀ i ∈ p.code, ¬ farC i) ∧ (divs p.code : Int) ≤ (l.length : Int) * ((l.length : Int) - 1) / 2 + ((l.length : Int) - 1) * (uneven l : Int)
instance (p : PV) (l : List R2) : Decidable (FewP p l) := inferInstanceAs (Decidable (_ ∧ _))
end Go.Proofs.YtelbhbbiejalhaaGreat
set_option maxRecDepth 100000
set_option linter.unusedVariables false
namespace Go.Proofs.YtelbhbbiejalhaaGreat
open Go Go.Sl
/-- does s do? -/
def hitB (a b s : Int) : Bool := ((Int.gcd a b : Int) - s * a).tmod b == 0
/-- the first u of those from k on, at most n more, that does, with either sign -/
def bezF (a b : Int) : Nat → Nat → Nat
  | 0, k => k
  | n + 1, k => if hitB a b (k : Int) || hitB a b (-(k : Int)) then k else bezF a b n (k + 1)
def bezK (a b : Int) : Nat := bezF a b 16 0
def bezS (a b : Int) : Int := if b = 0 then a.tdiv (Int.gcd a b) else if hitB a b (bezK a b : Int) then (bezK a b : Int) else -(bezK a b : Int)
def bezT (a b : Int) : Int := if b = 0 then 0 else ((Int.gcd a b : Int) - bezS a b * a).tdiv b
def bezOk (a b : Int) : Bool := (a == 0 && b == 0) || (bezS a b * a + bezT a b * b == (Int.gcd a b : Int) && decide ((bezS a b).natAbs + (bezT a b).natAbs ≤ 17) && decide (bezK a b ≤ 15) && (b == 0 || hitB a b (bezK a b : Int) || hitB a b (-(bezK a b : Int))))
theorem bez_all : ((List.range 33).all fun i => (List.range 33).all fun j => bezOk ((i : Int) - 16) ((j : Int) - 16)) = true := by decide +kernel
theorem bez_ok {a b : Int} (h : near a b) : bezOk a b = true := by
  have h1 := List.all_eq_true.mp bez_all (a + 16).toNat (List.mem_range.mpr (by unfold near at h; omega))
  have h2 := List.all_eq_true.mp h1 (b + 16).toNat (List.mem_range.mpr (by unfold near at h; omega))
  rw [show (((a + 16).toNat : Nat) : Int) - 16 = a by unfold near at h; omega, show (((b + 16).toNat : Nat) : Int) - 16 = b by unfold near at h; omega] at h2
  exact h2
theorem bez_facts {a b : Int} (h : near a b) (h0 : ¬ (a = 0 ∧ b = 0)) : bezS a b * a + bezT a b * b = Int.gcd a b ∧ (bezS a b).natAbs + (bezT a b).natAbs ≤ 17 ∧ bezK a b ≤ 15 ∧ (b = 0 ∨ hitB a b (bezK a b : Int) = true ∨ hitB a b (-(bezK a b : Int)) = true) := by
  have h1 := bez_ok h
  unfold bezOk at h1
  simp only [Bool.or_eq_true, Bool.and_eq_true, beq_iff_eq, decide_eq_true_eq] at h1
  rcases h1 with h1 | ⟨⟨⟨e1, e2⟩, e3⟩, e4⟩
  · exact absurd h1 h0
  · exact ⟨e1, e2, e3, e4.elim (fun h => h.elim .inl (fun h => .inr (.inl h))) (fun h => .inr (.inr h))⟩
end Go.Proofs.YtelbhbbiejalhaaGreat
set_option maxRecDepth 100000
set_option linter.unusedVariables false
namespace Go.Proofs.YtelbhbbiejalhaaGreat
open Go Go.Sl
set_option maxHeartbeats 4000000
theorem c118 (G : Imm) (b : Nat) (n : Int) (ac : Option Addr) (cc : Nat) (code : List Sl.Instr) (j : List Value) (wa : Option Addr) (wn wc : Nat) (op to x y c : Int) (ho : OwnA ac cc code j) (hl : code.length ≤ 1048576) :
    Does Tryz.prog 118 [.pointer (some ⟨b, 0, none⟩), .int .i64 op, .int .i64 to, .int .i64 x, .int .i64 y, .int .i64 c] G [(0, some b, .cells #[.int .i64 n, .slice ac code.length cc, .slice wa wn wc] 139), (1, ac.map (·.block), Row 50 code j)]
      (fun v G' Ho => v = .tuple #[] ∧ G' = G ∧ ∃ (a' : Option Addr) (c' : Nat) (j' : List Value), OwnA a' c' (code ++ [⟨op, to, x, y, c⟩]) j' ∧ Ho = [(0, some b, .cells #[.int .i64 n, .slice a' (code ++ [(⟨op, to, x, y, c⟩ : Sl.Instr)]).length c', .slice wa wn wc] 139), (1, a'.map (·.block), Row 50 (code ++ [⟨op, to, x, y, c⟩]) j')]) := by
  refine Does.enter Tryz.func118 rfl Tryz.ntmps118 rfl (fun w => ?_)
  refine Wc.gl 11 [0] ?_
  refine Wl.q rfl (Qy.build (cs := [_, _, _, _, _]) T.st50 rfl rfl rfl) ?_
  refine Wl.lit (α := Sl.Instr) 2 [⟨op, to, x, y, c⟩] rfl T.sl26 T.el50 rfl rfl rfl rfl rfl (fun b1 => ?_)
  refine Wl.append (α := Sl.Instr) 1 rfl T.sl26 T.el50 rfl rfl rfl (by first | assumption | exact OwnA.nil | exact OwnA.made (by simp)) (Src.row 2 rfl) (by first | omega | (simp only [List.length_append, List.length_cons, List.length_nil, maxLen]; omega)) (by first | omega | (simp only [List.length_append, List.length_cons, List.length_nil, maxLen]; omega)) (fun a1 c1 junk1 ho1 => ?_)
  refine Wl.ga 4 [0] ?_
  refine Ar.out0 (.inl rfl) (Ho := [(0, some b, .cells #[.int .i64 n, .slice a1 (code ++ [(⟨op, to, x, y, c⟩ : Sl.Instr)]).length c1, .slice wa wn wc] 139), (1, a1.map (·.block), Row 50 (code ++ [⟨op, to, x, y, c⟩]) junk1)]) rfl ⟨rfl, rfl, trivial⟩ ?_
  exact ⟨rfl, rfl, a1, c1, junk1, ho1, rfl⟩
end Go.Proofs.YtelbhbbiejalhaaGreat
set_option maxRecDepth 100000
set_option linter.unusedVariables false
namespace Go.Proofs.YtelbhbbiejalhaaGreat
open Go Go.Sl
set_option maxHeartbeats 4000000
/-- what over adds -/
def overI (to c : Int) : List Sl.Instr := if c = 1 then [] else if c = -1 then [⟨2, to, to, 0, 0⟩] else [⟨6, to, to, 0, c⟩]
theorem c84 (G : Imm) (b : Nat) (n : Int) (ac : Option Addr) (cc : Nat) (code : List Sl.Instr) (j : List Value) (wa : Option Addr) (wn wc : Nat) (to c : Int) (ho : OwnA ac cc code j) (hl : code.length ≤ 1048576) :
    Does Tryz.prog 84 [.pointer (some ⟨b, 0, none⟩), .int .i64 to, .int .i64 c] G [(0, some b, .cells #[.int .i64 n, .slice ac code.length cc, .slice wa wn wc] 139), (1, ac.map (·.block), Row 50 code j)]
      (fun v G' Ho => v = .tuple #[] ∧ G' = G ∧ ∃ (a' : Option Addr) (c' : Nat) (j' : List Value), OwnA a' c' (code ++ overI to c) j' ∧ Ho = [(0, some b, .cells #[.int .i64 n, .slice a' (code ++ overI to c).length c', .slice wa wn wc] 139), (1, a'.map (·.block), Row 50 (code ++ overI to c) j')]) := by
  refine Does.enter Tryz.func84 rfl Tryz.ntmps84 rfl (fun w => ?_)
  refine Wc.gc 12 [] ?_
  refine Wc.cond rfl (fun hc1 => ?_) (fun hc1 => ?_)
  refine Wc.ga 2 [] ?_
  rotate_left
  refine Wc.gc 6 [] ?_
  refine Wc.cond rfl (fun hc2 => ?_) (fun hc2 => ?_)
  refine Wc.gl 4 [] ?_
  refine Wl.call 0 rfl T.fn118 rfl (c118 _ b n ac cc code j wa wn wc _ _ _ _ _ ho hl) (tags_of ⟨rfl, rfl, trivial⟩) (fun v1 G1 Ho1 hle1 hp => ?_)
  obtain ⟨rfl, rfl, a1, d1, j1, ho1, rfl⟩ := hp
  refine Wl.ga 2 [] ?_
  rotate_left
  refine Wc.gl 5 [] ?_
  refine Wl.call 0 rfl T.fn118 rfl (c118 _ b n ac cc code j wa wn wc _ _ _ _ _ ho hl) (tags_of ⟨rfl, rfl, trivial⟩) (fun v1 G1 Ho1 hle1 hp => ?_)
  obtain ⟨rfl, rfl, a1, d1, j1, ho1, rfl⟩ := hp
  refine Wl.ga 2 [] ?_
  rotate_left
  · have e : overI to c = [] := by unfold overI; rw [if_pos hc1]
    rw [e, List.append_nil]
    refine Ar.out0 (by first | exact .inl rfl | exact .inr rfl) (Ho := [(0, some b, .cells #[.int .i64 n, .slice ac code.length cc, .slice wa wn wc] 139), (1, ac.map (·.block), Row 50 code j)]) rfl ⟨rfl, rfl, trivial⟩ ?_
    exact ⟨rfl, rfl, ac, cc, j, ho, rfl⟩
  · have e : overI to c = [⟨2, to, to, 0, 0⟩] := by unfold overI; rw [if_neg hc1, if_pos hc2]
    rw [e]
    refine Ar.out0 (by first | exact .inl rfl | exact .inr rfl) (Ho := [(0, some b, .cells #[.int .i64 n, .slice a1 (code ++ [(⟨2, to, to, 0, 0⟩ : Sl.Instr)]).length d1, .slice wa wn wc] 139), (1, a1.map (·.block), Row 50 (code ++ [⟨2, to, to, 0, 0⟩]) j1)]) rfl ⟨rfl, rfl, trivial⟩ ?_
    exact ⟨rfl, rfl, a1, d1, j1, ho1, rfl⟩
  · have e : overI to c = [⟨6, to, to, 0, c⟩] := by unfold overI; rw [if_neg hc1, if_neg hc2]
    rw [e]
    refine Ar.out0 (by first | exact .inl rfl | exact .inr rfl) (Ho := [(0, some b, .cells #[.int .i64 n, .slice a1 (code ++ [(⟨6, to, to, 0, c⟩ : Sl.Instr)]).length d1, .slice wa wn wc] 139), (1, a1.map (·.block), Row 50 (code ++ [⟨6, to, to, 0, c⟩]) j1)]) rfl ⟨rfl, rfl, trivial⟩ ?_
    exact ⟨rfl, rfl, a1, d1, j1, ho1, rfl⟩
/-- what times adds -/
def timesI (to x c : Int) : List Sl.Instr := if c = 0 then [⟨4, to, x, x, 0⟩] else if c = 1 ∧ to = x then [] else if c = 1 then [⟨1, to, x, 0, 0⟩] else if c = -1 then [⟨2, to, x, 0, 0⟩] else [⟨5, to, x, 0, c⟩]
theorem c86 (G : Imm) (b : Nat) (n : Int) (ac : Option Addr) (cc : Nat) (code : List Sl.Instr) (j : List Value) (wa : Option Addr) (wn wc : Nat) (to x c : Int) (ho : OwnA ac cc code j) (hl : code.length ≤ 1048576) :
    Does Tryz.prog 86 [.pointer (some ⟨b, 0, none⟩), .int .i64 to, .int .i64 x, .int .i64 c] G [(0, some b, .cells #[.int .i64 n, .slice ac code.length cc, .slice wa wn wc] 139), (1, ac.map (·.block), Row 50 code j)]
      (fun v G' Ho => v = .tuple #[] ∧ G' = G ∧ ∃ (a' : Option Addr) (c' : Nat) (j' : List Value), OwnA a' c' (code ++ timesI to x c) j' ∧ Ho = [(0, some b, .cells #[.int .i64 n, .slice a' (code ++ timesI to x c).length c', .slice wa wn wc] 139), (1, a'.map (·.block), Row 50 (code ++ timesI to x c) j')]) := by
  refine Does.enter Tryz.func86 rfl Tryz.ntmps86 rfl (fun w => ?_)
  refine Wc.gc 8 [] ?_
  refine Wc.cond rfl (fun hc1 => ?_) (fun hc1 => ?_)
  refine Wc.gl 5 [] ?_
  refine Wl.call 0 rfl T.fn118 rfl (c118 _ b n ac cc code j wa wn wc _ _ _ _ _ ho hl) (tags_of ⟨rfl, rfl, trivial⟩) (fun v1 G1 Ho1 hle1 hp => ?_)
  obtain ⟨rfl, rfl, a1, d1, j1, ho1, rfl⟩ := hp
  refine Wl.ga 2 [] ?_
  rotate_left
  refine Wc.gl 5 [] ?_
  apply Wl.joinAnd 4 24 28 rfl
  intro hg1
  refine Wl.ll0 7 [] ?_
  exact Wl.back 4 0 rfl rfl rfl rfl rfl
  intro hg1
  refine Wl.ll0 4 [] ?_
  exact Wl.back 4 0 rfl rfl rfl rfl rfl
  refine Wl.gc 3 [] ?_
  refine Wc.cond rfl (fun hc2 => ?_) (fun hc2 => ?_)
  refine Wc.ga 2 [] ?_
  rotate_left
  refine Wc.gc 7 [] ?_
  refine Wc.cond rfl (fun hc3 => ?_) (fun hc3 => ?_)
  refine Wc.gl 4 [] ?_
  refine Wl.call 0 rfl T.fn118 rfl (c118 _ b n ac cc code j wa wn wc _ _ _ _ _ ho hl) (tags_of ⟨rfl, rfl, trivial⟩) (fun v1 G1 Ho1 hle1 hp => ?_)
  obtain ⟨rfl, rfl, a1, d1, j1, ho1, rfl⟩ := hp
  refine Wl.ga 2 [] ?_
  rotate_left
  refine Wc.gc 7 [] ?_
  refine Wc.cond rfl (fun hc4 => ?_) (fun hc4 => ?_)
  refine Wc.gl 4 [] ?_
  refine Wl.call 0 rfl T.fn118 rfl (c118 _ b n ac cc code j wa wn wc _ _ _ _ _ ho hl) (tags_of ⟨rfl, rfl, trivial⟩) (fun v1 G1 Ho1 hle1 hp => ?_)
  obtain ⟨rfl, rfl, a1, d1, j1, ho1, rfl⟩ := hp
  refine Wl.ga 2 [] ?_
  rotate_left
  refine Wc.gl 5 [] ?_
  refine Wl.call 0 rfl T.fn118 rfl (c118 _ b n ac cc code j wa wn wc _ _ _ _ _ ho hl) (tags_of ⟨rfl, rfl, trivial⟩) (fun v1 G1 Ho1 hle1 hp => ?_)
  obtain ⟨rfl, rfl, a1, d1, j1, ho1, rfl⟩ := hp
  refine Wl.ga 2 [] ?_
  rotate_left
  · have e : timesI to x c = [⟨4, to, x, x, 0⟩] := by unfold timesI; rw [if_pos hc1]
    rw [e]
    refine Ar.out0 (by first | exact .inl rfl | exact .inr rfl) (Ho := [(0, some b, .cells #[.int .i64 n, .slice a1 (code ++ [(⟨4, to, x, x, 0⟩ : Sl.Instr)]).length d1, .slice wa wn wc] 139), (1, a1.map (·.block), Row 50 (code ++ [⟨4, to, x, x, 0⟩]) j1)]) rfl ⟨rfl, rfl, trivial⟩ ?_
    exact ⟨rfl, rfl, a1, d1, j1, ho1, rfl⟩
  · have e : timesI to x c = [] := by unfold timesI; rw [if_neg hc1, if_pos hc2]
    rw [e, List.append_nil]
    refine Ar.out0 (by first | exact .inl rfl | exact .inr rfl) (Ho := [(0, some b, .cells #[.int .i64 n, .slice ac code.length cc, .slice wa wn wc] 139), (1, ac.map (·.block), Row 50 code j)]) rfl ⟨rfl, rfl, trivial⟩ ?_
    exact ⟨rfl, rfl, ac, cc, j, ho, rfl⟩
  · have e : timesI to x c = [⟨1, to, x, 0, 0⟩] := by unfold timesI; rw [if_neg hc1, if_neg hc2, if_pos hc3]
    rw [e]
    refine Ar.out0 (by first | exact .inl rfl | exact .inr rfl) (Ho := [(0, some b, .cells #[.int .i64 n, .slice a1 (code ++ [(⟨1, to, x, 0, 0⟩ : Sl.Instr)]).length d1, .slice wa wn wc] 139), (1, a1.map (·.block), Row 50 (code ++ [⟨1, to, x, 0, 0⟩]) j1)]) rfl ⟨rfl, rfl, trivial⟩ ?_
    exact ⟨rfl, rfl, a1, d1, j1, ho1, rfl⟩
  · have e : timesI to x c = [⟨2, to, x, 0, 0⟩] := by unfold timesI; rw [if_neg hc1, if_neg hc2, if_neg hc3, if_pos hc4]
    rw [e]
    refine Ar.out0 (by first | exact .inl rfl | exact .inr rfl) (Ho := [(0, some b, .cells #[.int .i64 n, .slice a1 (code ++ [(⟨2, to, x, 0, 0⟩ : Sl.Instr)]).length d1, .slice wa wn wc] 139), (1, a1.map (·.block), Row 50 (code ++ [⟨2, to, x, 0, 0⟩]) j1)]) rfl ⟨rfl, rfl, trivial⟩ ?_
    exact ⟨rfl, rfl, a1, d1, j1, ho1, rfl⟩
  · have e : timesI to x c = [⟨5, to, x, 0, c⟩] := by unfold timesI; rw [if_neg hc1, if_neg hc2, if_neg hc3, if_neg hc4]
    rw [e]
    refine Ar.out0 (by first | exact .inl rfl | exact .inr rfl) (Ho := [(0, some b, .cells #[.int .i64 n, .slice a1 (code ++ [(⟨5, to, x, 0, c⟩ : Sl.Instr)]).length d1, .slice wa wn wc] 139), (1, a1.map (·.block), Row 50 (code ++ [⟨5, to, x, 0, c⟩]) j1)]) rfl ⟨rfl, rfl, trivial⟩ ?_
    exact ⟨rfl, rfl, a1, d1, j1, ho1, rfl⟩
end Go.Proofs.YtelbhbbiejalhaaGreat
set_option linter.unusedVariables false
namespace Go.Proofs.YtelbhbbiejalhaaGreat
open Go Go.Sl
def doF (i : Sl.Instr) (σ : Int → Int) : Option Int :=
  if i.op = 2 then some (-σ i.a)
  else if i.op = 3 then some (σ i.a + σ i.b)
  else if i.op = 4 then some (σ i.a - σ i.b)
  else if i.op = 5 ∨ i.op = 7 then some (σ i.a * cst i)
  else if i.op = 6 ∨ i.op = 8 then (if σ i.a % cst i = 0 then some (σ i.a / cst i) else none)
  else some (σ i.a)
def upd (σ : Int → Int) (r v : Int) : Int → Int := fun x => if x = r then v else σ x
theorem upd_at (σ : Int → Int) (r v : Int) : upd σ r v r = v := if_pos rfl
theorem upd_ne (σ : Int → Int) {r x : Int} (v : Int) (h : x ≠ r) : upd σ r v x = σ x := if_neg h
theorem upd_upd (σ : Int → Int) (r v w : Int) : upd (upd σ r v) r w = upd σ r w := by
  funext x; unfold upd; split <;> rfl
theorem upd_self (σ : Int → Int) (r : Int) : upd σ r (σ r) = σ := by
  funext x; unfold upd; split
  · rename_i h; rw [h]
  · rfl
def runF : List Sl.Instr → (Int → Int) → Option (Int → Int)
  | [], σ => some σ
  | i :: l, σ => (doF i σ).bind fun x => runF l (upd σ i.to x)
theorem runF_append (l m : List Sl.Instr) (σ : Int → Int) : runF (l ++ m) σ = (runF l σ).bind (runF m) := by
  induction l generalizing σ with
  | nil => rfl
  | cons i l ih =>
    show (doF i σ).bind (fun x => runF (l ++ m) (upd σ i.to x)) = ((doF i σ).bind fun x => runF l (upd σ i.to x)).bind (runF m)
    cases doF i σ with
    | none => rfl
    | some x => exact ih _
theorem runF_seq {l m : List Sl.Instr} {σ σ1 σ2 : Int → Int} (h1 : runF l σ = some σ1) (h2 : runF m σ1 = some σ2) : runF (l ++ m) σ = some σ2 := by
  rw [runF_append, h1]; exact h2
theorem runF_one {i : Sl.Instr} {σ : Int → Int} {x : Int} (h : doF i σ = some x) : runF [i] σ = some (upd σ i.to x) := by
  show (doF i σ).bind (fun x => some (upd σ i.to x)) = _
  rw [h]; rfl
theorem run_add (to a b : Int) (σ : Int → Int) : runF [⟨3, to, a, b, 0⟩] σ = some (upd σ to (σ a + σ b)) := runF_one rfl
theorem run_sub (to a b : Int) (σ : Int → Int) : runF [⟨4, to, a, b, 0⟩] σ = some (upd σ to (σ a - σ b)) := runF_one rfl
theorem times_run (to x c : Int) (σ : Int → Int) : runF (timesI to x c) σ = some (upd σ to (c * σ x)) := by
  unfold timesI
  by_cases h0 : c = 0
  · rw [if_pos h0, run_sub, h0, Int.sub_self, Int.zero_mul]
  rw [if_neg h0]
  by_cases h1 : c = 1 ∧ to = x
  · rw [if_pos h1, h1.1, h1.2, Int.one_mul, upd_self]; rfl
  rw [if_neg h1]
  by_cases h2 : c = 1
  · rw [if_pos h2, h2, Int.one_mul]; rfl
  rw [if_neg h2]
  by_cases h3 : c = -1
  · rw [if_pos h3, h3, Int.neg_mul, Int.one_mul]; rfl
  rw [if_neg h3]
  refine (runF_one (x := σ x * c) ?_).trans (by rw [Int.mul_comm])
  unfold doF
  rw [if_neg (show ¬ ((5 : Int) = 2) by decide), if_neg (show ¬ ((5 : Int) = 3) by decide), if_neg (show ¬ ((5 : Int) = 4) by decide), if_pos (.inl rfl), cst_c (.inl rfl)]
theorem over_run (to c : Int) (σ : Int → Int) (hc : c ≠ 0) (hd : c ∣ σ to) : runF (overI to c) σ = some (upd σ to (σ to / c)) := by
  unfold overI
  by_cases h1 : c = 1
  · rw [if_pos h1, h1, Int.ediv_one, upd_self]; rfl
  rw [if_neg h1]
  by_cases h2 : c = -1
  · rw [if_pos h2, h2, Int.ediv_neg, Int.ediv_one]; rfl
  rw [if_neg h2]
  refine runF_one ?_
  unfold doF
  rw [if_neg (show ¬ ((6 : Int) = 2) by decide), if_neg (show ¬ ((6 : Int) = 3) by decide), if_neg (show ¬ ((6 : Int) = 4) by decide), if_neg (show ¬ ((6 : Int) = 5 ∨ (6 : Int) = 7) by decide), if_pos (.inl rfl), cst_c (.inr rfl)]
  exact if_pos (Int.emod_eq_zero_of_dvd hd)
/-- .. so often -/
theorem over_many (to g : Int) (hg : g ≠ 0) : ∀ (m : Nat) (σ : Int → Int) (v : Int), σ to = g ^ m * v → runF ((List.replicate m (overI to g)).flatten) σ = some (upd σ to v)
  | 0, σ, v, h => by
    rw [Int.pow_zero, Int.one_mul] at h
    rw [← h, upd_self]; rfl
  | m + 1, σ, v, h => by
    have e : σ to = g * (g ^ m * v) := by rw [h, Int.pow_succ]; ac_rfl
    rw [List.replicate_succ, List.flatten_cons]
    refine (runF_seq (over_run to g σ hg ⟨_, e⟩) (over_many to g hg m _ v ?_)).trans ?_
    · rw [upd_at, e, Int.mul_ediv_cancel_left _ hg]
    · rw [upd_upd]
def powL (to c : Int) : Int → Int → Nat → List Sl.Instr
  | fr, k, 0 => timesI to fr k
  | fr, k, e + 1 => if 512 < k * c ∨ k * c < -512 then timesI to fr k ++ powL to c to c e else powL to c fr (k * c) e
def powI (to a c : Int) (e : Nat) : List Sl.Instr :=
  if (c = 0 ∧ 0 < e) ∨ c = 1 ∨ c = -1 then timesI to a (if c = -1 ∧ e % 2 = 0 then 1 else c) else powL to c a 1 e
theorem powL_run (to c : Int) : ∀ (e : Nat) (fr k : Int) (σ : Int → Int), runF (powL to c fr k e) σ = some (upd σ to (σ fr * (k * c ^ e)))
  | 0, fr, k, σ => by
    unfold powL
    rw [times_run, Int.pow_zero, Int.mul_one, Int.mul_comm]
  | e + 1, fr, k, σ => by
    unfold powL
    split
    · refine (runF_seq (times_run to fr k σ) (powL_run to c e to c _)).trans ?_
      rw [upd_upd, upd_at]
      congr 2
      rw [Int.pow_succ]; ac_rfl
    · rw [powL_run to c e fr (k * c) σ]
      congr 2
      rw [Int.pow_succ]; ac_rfl
theorem neg_one_pow (e : Nat) : (-1 : Int) ^ e = if e % 2 = 0 then 1 else -1 := by
  induction e with
  | zero => rfl
  | succ e ih =>
    rw [Int.pow_succ, ih]
    by_cases h : e % 2 = 0
    · rw [if_pos h, if_neg (by omega)]; rfl
    · rw [if_neg h, if_pos (by omega)]; rfl
theorem powI_run (to a c : Int) (e : Nat) (σ : Int → Int) : runF (powI to a c e) σ = some (upd σ to (σ a * c ^ e)) := by
  unfold powI
  by_cases h : (c = 0 ∧ 0 < e) ∨ c = 1 ∨ c = -1
  · rw [if_pos h, times_run]
    congr 2
    rw [Int.mul_comm]
    congr 1
    rcases h with ⟨rfl, h⟩ | rfl | rfl
    · rw [if_neg (fun h => absurd h.1 (by decide)), Int.zero_pow (by omega)]
    · rw [if_neg (fun h => absurd h.1 (by decide)), Int.one_pow]
    · rw [neg_one_pow]
      by_cases he : e % 2 = 0
      · rw [if_pos ⟨rfl, he⟩, if_pos he]
      · rw [if_neg (fun h => he h.2), if_neg he]
  · rw [if_neg h, powL_run, Int.one_mul]
def ptW (wh : List R2) (k : Int) : R2 := wh[k.toNat]?.getD default
/-- what the linear form of the point k is worth at the point i -/
def linC (wh : List R2) (k i : Int) : Int := bezS (ptW wh k).a (ptW wh k).b * (ptW wh i).a + bezT (ptW wh k).a (ptW wh k).b * (ptW wh i).b
def detC (wh : List R2) (k i : Int) : Int := (ptW wh k).a * (ptW wh i).b - (ptW wh i).a * (ptW wh k).b
def awayOne (n : Int) (wh : List R2) (k : Int) (e : Nat) (i : Int) : List Sl.Instr :=
  (if linC wh k i ≠ 0 ∨ e = 0 then powI (3 * n) k (linC wh k i) e ++ [⟨4, i, i, 3 * n, 0⟩] else []) ++ (if detC wh k i = 1 then [] else overI i (detC wh k i))
def awayI (n : Int) (wh : List R2) (k : Int) (e : Nat) : List Int → List Sl.Instr
  | [] => []
  | i :: left => awayOne n wh k e i ++ awayI n wh k e left
theorem awayOne_run {n : Int} {wh : List R2} {k : Int} {e : Nat} {i : Int} {σ : Int → Int} {y : Int} (hk : k ≠ 3 * n) (hi : i ≠ 3 * n) (hd : detC wh k i ≠ 0) (hy : σ i - σ k * linC wh k i ^ e = detC wh k i * y) :
    ∃ σ', runF (awayOne n wh k e i) σ = some σ' ∧ σ' i = y ∧ ∀ r, r ≠ i → r ≠ 3 * n → σ' r = σ r := by
  obtain ⟨σ1, h1, h2, h3⟩ : ∃ σ1, runF (if linC wh k i ≠ 0 ∨ e = 0 then powI (3 * n) k (linC wh k i) e ++ [⟨4, i, i, 3 * n, 0⟩] else []) σ = some σ1 ∧ σ1 i = detC wh k i * y ∧ ∀ r, r ≠ i → r ≠ 3 * n → σ1 r = σ r := by
    by_cases h : linC wh k i ≠ 0 ∨ e = 0
    · rw [if_pos h]
      refine ⟨_, runF_seq (powI_run _ _ _ _ _) (run_sub _ _ _ _), ?_, fun r h1 h2 => ?_⟩
      · rw [upd_at, upd_at, upd_ne _ _ hi, hy]
      · rw [upd_ne _ _ h1, upd_ne _ _ h2]
    · rw [if_neg h]
      refine ⟨σ, rfl, ?_, fun _ _ _ => rfl⟩
      have hl : linC wh k i = 0 := Classical.byContradiction fun x => h (.inl x)
      have he : e ≠ 0 := fun x => h (.inr x)
      rw [← hy, hl, Int.zero_pow he, Int.mul_zero, Int.sub_zero]
  unfold awayOne
  by_cases h : detC wh k i = 1
  · rw [if_pos h, List.append_nil]
    exact ⟨σ1, h1, by rw [h2, h, Int.one_mul], h3⟩
  · rw [if_neg h]
    refine ⟨_, runF_seq h1 (over_run i (detC wh k i) σ1 hd ⟨y, h2⟩), ?_, fun r g1 g2 => ?_⟩
    · rw [upd_at, h2, Int.mul_ediv_cancel_left _ hd]
    · rw [upd_ne _ _ g1]; exact h3 r g1 g2
theorem awayI_run {n : Int} {wh : List R2} {k : Int} {e : Nat} (hk : k ≠ 3 * n) (y : Int → Int) : ∀ (left : List Int) (σ : Int → Int), left.Nodup → k ∉ left → (∀ i ∈ left, i ≠ 3 * n ∧ detC wh k i ≠ 0 ∧ σ i - σ k * linC wh k i ^ e = detC wh k i * y i) →
    ∃ σ', runF (awayI n wh k e left) σ = some σ' ∧ (∀ i ∈ left, σ' i = y i) ∧ ∀ r, r ∉ left → r ≠ 3 * n → σ' r = σ r
  | [], σ, _, _, _ => ⟨σ, rfl, fun i h => (by cases h), fun _ _ _ => rfl⟩
  | i :: left, σ, hn, hkl, h => by
    obtain ⟨hn1, hn2⟩ := List.nodup_cons.1 hn
    obtain ⟨g1, g2, g3⟩ := h i List.mem_cons_self
    obtain ⟨σ1, a1, a2, a3⟩ := awayOne_run hk g1 g2 g3
    have hki : k ≠ i := fun e => hkl (by rw [e]; exact List.mem_cons_self)
    obtain ⟨σ2, b1, b2, b3⟩ := awayI_run hk y left σ1 hn2 (fun x => hkl (List.mem_cons_of_mem _ x)) (fun j hj => by
      obtain ⟨k1, k2, k3⟩ := h j (List.mem_cons_of_mem _ hj)
      have hji : j ≠ i := fun e => hn1 (e ▸ hj)
      refine ⟨k1, k2, ?_⟩
      rw [a3 j hji k1, a3 k hki hk]; exact k3)
    refine ⟨σ2, runF_seq a1 b1, fun j hj => ?_, fun r hr hr2 => ?_⟩
    · rcases List.mem_cons.1 hj with rfl | hj
      · rw [b3 j hn1 g1, a2]
      · exact b2 j hj
    · rw [b3 r (fun x => hr (List.mem_cons_of_mem _ x)) hr2, a3 r (fun x => hr (by rw [x]; exact List.mem_cons_self)) hr2]
def rStep (n u v : Int) (th : List Bool) (j : Nat) : List Bool × List Sl.Instr :=
  let low := decide (0 < j) && th[j - 1]?.getD false && decide (u ≠ 0)
  let own := th[j]?.getD false && decide (v ≠ 0)
  (th.set j (own || low),
   (if low then timesI (3 * n) (2 * n + (j - 1)) u else []) ++
   (if own && low then timesI (2 * n + j) (2 * n + j) v ++ [⟨3, 2 * n + j, 2 * n + j, 3 * n, 0⟩] else if own then timesI (2 * n + j) (2 * n + j) v else if low then timesI (2 * n + j) (3 * n) 1 else []))
/-- the places m - 1 down to 0 -/
def rIn (n u v : Int) : Nat → List Bool → List Bool × List Sl.Instr
  | 0, th => (th, [])
  | m + 1, th => ((rIn n u v m (rStep n u v th m).1).1, (rStep n u v th m).2 ++ (rIn n u v m (rStep n u v th m).1).2)
/-- m times, from the power d on -/
def rOut (n u v : Int) : Nat → Nat → List Bool → List Bool × List Sl.Instr
  | 0, _, th => (th, [])
  | m + 1, d, th => ((rOut n u v m (d + 1) (rIn n u v (d + 1) th).1).1, (rIn n u v (d + 1) th).2 ++ (rOut n u v m (d + 1) (rIn n u v (d + 1) th).1).2)
def raisedT (n u v : Int) (e : Nat) : List Bool := (rOut n u v e 1 ((List.replicate (e + 1) false).set 0 true)).1
def raisedI (n u v k : Int) (e : Nat) : List Sl.Instr := timesI (2 * n) k 1 ++ (rOut n u v e 1 ((List.replicate (e + 1) false).set 0 true)).2
/-- the place j says x -/
def Rep (n : Int) (th : List Bool) (σ : Int → Int) (j : Nat) (x : Int) : Prop := (th[j]?.getD false = true → σ (2 * n + j) = x) ∧ (th[j]?.getD false = false → x = 0)
theorem rStep_len (n u v : Int) (th : List Bool) (j : Nat) : (rStep n u v th j).1.length = th.length := List.length_set
theorem rStep_other (n u v : Int) (th : List Bool) {j i : Nat} (h : i ≠ j) : (rStep n u v th j).1[i]? = th[i]? := by
  show (th.set j _)[i]? = _
  rw [List.getElem?_set, if_neg (fun e => h e.symm)]
theorem rStep_run {n u v : Int} {th : List Bool} {j : Nat} {σ : Int → Int} {x y : Int} (hj : j < th.length) (hn : (j : Int) < n) (hx : Rep n th σ j x) (hy : 0 < j → Rep n th σ (j - 1) y) (hy0 : j = 0 → y = 0) :
    ∃ σ', runF (rStep n u v th j).2 σ = some σ' ∧ Rep n (rStep n u v th j).1 σ' j (v * x + u * y) ∧ ∀ r, r ≠ 2 * n + j → r ≠ 3 * n → σ' r = σ r := by
  have hne : (2 * n + j : Int) ≠ 3 * n := by omega
  have hset : ∀ b : Bool, (th.set j b)[j]?.getD false = b := fun b => by rw [List.getElem?_set, if_pos rfl, if_pos hj]; rfl
  have hown : (th[j]?.getD false && decide (v ≠ 0)) = false → v * x = 0 := fun h => by
    rcases Bool.and_eq_false_iff.1 h with h | h
    · rw [hx.2 h, Int.mul_zero]
    · rw [Classical.byContradiction fun h2 => of_decide_eq_false h h2, Int.zero_mul]
  have hown1 : (th[j]?.getD false && decide (v ≠ 0)) = true → σ (2 * n + j) = x := fun h => hx.1 (Bool.and_eq_true_iff.1 h).1
  have hlow : (decide (0 < j) && th[j - 1]?.getD false && decide (u ≠ 0)) = false → u * y = 0 := fun h => by
    by_cases hj0 : j = 0
    · rw [hy0 hj0, Int.mul_zero]
    rcases Bool.and_eq_false_iff.1 h with h | h
    · rcases Bool.and_eq_false_iff.1 h with h | h
      · exact absurd (by omega) (of_decide_eq_false h)
      · rw [(hy (by omega)).2 h, Int.mul_zero]
    · rw [Classical.byContradiction fun h2 => of_decide_eq_false h h2, Int.zero_mul]
  have hlow1 : (decide (0 < j) && th[j - 1]?.getD false && decide (u ≠ 0)) = true → σ (2 * n + ((j : Int) - 1)) = y := fun h => by
    have h2 := (Bool.and_eq_true_iff.1 h).1
    have h3 := Bool.and_eq_true_iff.1 h2
    have hj1 : 0 < j := of_decide_eq_true h3.1
    have := (hy hj1).1 h3.2
    rw [show ((j : Int) - 1) = ((j - 1 : Nat) : Int) by omega]; exact this
  unfold rStep
  simp only
  generalize (decide (0 < j) && th[j - 1]?.getD false && decide (u ≠ 0)) = low at *
  generalize (th[j]?.getD false && decide (v ≠ 0)) = own at *
  cases low <;> cases own
  · refine ⟨σ, rfl, ⟨fun h => ?_, fun _ => ?_⟩, fun _ _ _ => rfl⟩
    · rw [hset] at h; cases h
    · rw [hown rfl, hlow rfl]; rfl
  · refine ⟨_, times_run _ _ _ _, ⟨fun _ => ?_, fun h => ?_⟩, fun r h1 h2 => upd_ne _ _ h1⟩
    · rw [upd_at, hown1 rfl, hlow rfl, Int.add_zero]
    · rw [hset] at h; cases h
  · refine ⟨_, runF_seq (m := timesI (2 * n + j) (3 * n) 1) (times_run _ _ _ _) (times_run _ _ _ _), ⟨fun _ => ?_, fun h => ?_⟩, fun r h1 h2 => ?_⟩
    · rw [upd_at, upd_at, hlow1 rfl, hown rfl, Int.zero_add, Int.one_mul]
    · rw [hset] at h; cases h
    · rw [upd_ne _ _ h1, upd_ne _ _ h2]
  · have h9 := runF_seq (times_run (3 * n) (2 * n + (j - 1)) u σ) (runF_seq (times_run (2 * n + j) (2 * n + j) v _) (run_add (2 * n + j) (2 * n + j) (3 * n) _))
    refine ⟨_, h9, ⟨fun _ => ?_, fun h => ?_⟩, fun r h1 h2 => ?_⟩
    · rw [upd_at, upd_at, upd_ne _ _ hne, upd_ne _ _ (Ne.symm hne), upd_at, hown1 rfl, hlow1 rfl]
    · rw [hset] at h; cases h
    · rw [upd_ne _ _ h1, upd_ne _ _ h1, upd_ne _ _ h2]
/-- a form's coefficients by u X + v Y -/
def nx (u v : Int) (C : Nat → Int) (j : Nat) : Int := v * C j + u * (if j = 0 then 0 else C (j - 1))
theorem rep_frame {n : Int} {th th' : List Bool} {σ σ' : Int → Int} {j : Nat} {x : Int} (h : Rep n th σ j x) (ht : th'[j]? = th[j]?) (hs : σ' (2 * n + j) = σ (2 * n + j)) : Rep n th' σ' j x := by
  unfold Rep at *
  rw [ht, hs]; exact h
theorem rIn_run {n u v : Int} {C : Nat → Int} : ∀ (m : Nat) (th : List Bool) (σ : Int → Int), m ≤ th.length → (m : Int) ≤ n → (∀ j, j < m → Rep n th σ j (C j)) →
    ∃ σ', runF (rIn n u v m th).2 σ = some σ' ∧ (rIn n u v m th).1.length = th.length ∧ (∀ j, j < m → Rep n (rIn n u v m th).1 σ' j (nx u v C j)) ∧ (∀ j, m ≤ j → (rIn n u v m th).1[j]? = th[j]?) ∧ (∀ r, (∀ j : Nat, j < m → r ≠ 2 * n + j) → r ≠ 3 * n → σ' r = σ r)
  | 0, th, σ, _, _, _ => ⟨σ, rfl, rfl, fun j h => (by omega), fun _ _ => rfl, fun _ _ _ => rfl⟩
  | m + 1, th, σ, hl, hn, h => by
    obtain ⟨σ1, a1, a2, a3⟩ := rStep_run (u := u) (v := v) (y := if m = 0 then 0 else C (m - 1)) (show m < th.length by omega) (by omega) (h m (by omega)) (fun hm => by rw [if_neg (by omega)]; exact h (m - 1) (by omega)) (fun hm => if_pos hm)
    obtain ⟨σ2, b1, b2, b3, b4, b5⟩ := rIn_run (u := u) (v := v) (C := C) m (rStep n u v th m).1 σ1 (by rw [rStep_len]; omega) (by omega) (fun j hj => rep_frame (h j (by omega)) (rStep_other n u v th (by omega)) (a3 _ (by omega) (by omega)))
    refine ⟨σ2, runF_seq a1 b1, by rw [← rStep_len n u v th m]; exact b2, fun j hj => ?_, fun j hj => ?_, fun r hr hr2 => ?_⟩
    · rcases Nat.lt_or_ge j m with hjm | hjm
      · exact b3 j hjm
      · have e : j = m := by omega
        subst e
        exact rep_frame a2 (b4 j (Nat.le_refl _)) (b5 _ (fun i hi => by omega) (by omega))
    · exact (b4 j (by omega)).trans (rStep_other n u v th (by omega))
    · rw [b5 r (fun j hj => hr j (by omega)) hr2, a3 r (hr m (by omega)) hr2]
def nxs (u v : Int) : Nat → (Nat → Int) → Nat → Int
  | 0, C => C
  | m + 1, C => nxs u v m (nx u v C)
theorem rOut_run {n u v : Int} : ∀ (m d : Nat) (th : List Bool) (σ : Int → Int) (C : Nat → Int), d + m ≤ th.length → (th.length : Int) ≤ n → (∀ j, d ≤ j → C j = 0) → (∀ j, j < th.length → Rep n th σ j (C j)) → (∀ j, d ≤ j → th[j]?.getD false = false) →
    ∃ σ', runF (rOut n u v m d th).2 σ = some σ' ∧ (rOut n u v m d th).1.length = th.length ∧ (∀ j, j < th.length → Rep n (rOut n u v m d th).1 σ' j (nxs u v m C j)) ∧ (∀ r, (∀ j : Nat, j < th.length → r ≠ 2 * n + j) → r ≠ 3 * n → σ' r = σ r)
  | 0, d, th, σ, C, _, _, _, h, _ => ⟨σ, rfl, rfl, h, fun _ _ _ => rfl⟩
  | m + 1, d, th, σ, C, hl, hn, hC, h, hf => by
    obtain ⟨σ1, a1, a2, a3, a4, a5⟩ := rIn_run (u := u) (v := v) (C := C) (d + 1) th σ (by omega) (by omega) (fun j hj => h j (by omega))
    have hC' : ∀ j, d + 1 ≤ j → nx u v C j = 0 := fun j hj => by
      unfold nx
      rw [if_neg (by omega), hC j (by omega), hC (j - 1) (by omega), Int.mul_zero, Int.mul_zero]; rfl
    have hf' : ∀ j, d + 1 ≤ j → (rIn n u v (d + 1) th).1[j]?.getD false = false := fun j hj => by rw [a4 j hj]; exact hf j (by omega)
    obtain ⟨σ2, b1, b2, b3, b4⟩ := rOut_run (u := u) (v := v) m (d + 1) (rIn n u v (d + 1) th).1 σ1 (nx u v C) (by rw [a2]; omega) (by rw [a2]; exact hn) hC' (fun j hj => by
      rcases Nat.lt_or_ge j (d + 1) with hjd | hjd
      · exact a3 j hjd
      · exact ⟨fun x => (by rw [hf' j hjd] at x; cases x), fun _ => hC' j hjd⟩) hf'
    refine ⟨σ2, runF_seq a1 b1, by rw [← a2]; exact b2, fun j hj => b3 j (by rw [a2]; exact hj), fun r hr hr2 => ?_⟩
    rw [b4 r (fun j hj => hr j (by rw [← a2]; exact hj)) hr2, a5 r (fun j hj => hr j (by omega)) hr2]
/-- a form's coefficient -/
def co (f : List Int) (j : Nat) : Int := f[j]?.getD 0
theorem byLin_co (p q : Int) : ∀ (f : List Int) (last : Int) (j : Nat), co (byLin p q last f) j = p * co f j - q * (if j = 0 then last else co f (j - 1))
  | [], last, 0 => by show -(q * last) = p * 0 - q * last; rw [Int.mul_zero]; omega
  | [], last, j + 1 => by show (0 : Int) = p * 0 - q * 0; rw [Int.mul_zero, Int.mul_zero]; rfl
  | c :: f, last, 0 => rfl
  | c :: f, last, j + 1 => by
    show co (byLin p q c f) j = p * co f j - q * co (c :: f) j
    rw [byLin_co p q f c j]
    cases j <;> rfl
theorem linPow_co (u v : Int) (e : Nat) : co (linPow u v (e + 1)) = nx u v (co (linPow u v e)) := by
  funext j
  show co (byLin v (-u) 0 (linPow u v e)) j = _
  rw [byLin_co]
  unfold nx
  rw [Int.neg_mul, Int.sub_neg]
theorem nx_scale (u v y : Int) (C : Nat → Int) : nx u v (fun j => y * C j) = fun j => y * nx u v C j := by
  funext j
  unfold nx
  rw [Int.mul_add]
  split
  · rw [Int.mul_zero, Int.mul_zero]; congr 1; ac_rfl
  · congr 1 <;> ac_rfl
theorem nxs_lin (u v y : Int) : ∀ (m e : Nat), nxs u v m (fun j => y * co (linPow u v e) j) = fun j => y * co (linPow u v (e + m)) j
  | 0, e => rfl
  | m + 1, e => by
    show nxs u v m (nx u v fun j => y * co (linPow u v e) j) = _
    rw [nx_scale, ← linPow_co, nxs_lin u v y m (e + 1), show e + 1 + m = e + (m + 1) by omega]
theorem raised_len (n u v : Int) : ∀ (m : Nat) (th : List Bool), (rIn n u v m th).1.length = th.length
  | 0, _ => rfl
  | m + 1, th => by show (rIn n u v m _).1.length = _; rw [raised_len, rStep_len]
theorem rOut_len (n u v : Int) : ∀ (m d : Nat) (th : List Bool), (rOut n u v m d th).1.length = th.length
  | 0, _, _ => rfl
  | m + 1, d, th => by show (rOut n u v m _ _).1.length = _; rw [rOut_len, raised_len]
theorem raisedT_len (n u v : Int) (e : Nat) : (raisedT n u v e).length = e + 1 := by unfold raisedT; rw [rOut_len, List.length_set, List.length_replicate]
theorem raised_run {n u v k : Int} {e : Nat} {σ : Int → Int} (he : (e : Int) < n) :
    ∃ σ', runF (raisedI n u v k e) σ = some σ' ∧ (∀ j, j ≤ e → Rep n (raisedT n u v e) σ' j (σ k * co (linPow u v e) j)) ∧ ∀ r, r < 2 * n → σ' r = σ r := by
  have hl : ((List.replicate (e + 1) false).set 0 true).length = e + 1 := by rw [List.length_set, List.length_replicate]
  have hget : ∀ j : Nat, ((List.replicate (e + 1) false).set 0 true)[j]?.getD false = decide (j = 0) := fun j => by
    rw [List.getElem?_set]
    split
    · rename_i h; subst h
      rw [if_pos (by rw [List.length_replicate]; omega)]; rfl
    · rename_i h
      rw [List.getElem?_replicate, decide_eq_false (fun e => h e.symm)]
      split <;> rfl
  have e0 : ∀ j : Nat, σ k * co (linPow u v 0) j = if j = 0 then σ k else 0 := fun j => by
    cases j with
    | zero => show σ k * 1 = _; rw [Int.mul_one]; rfl
    | succ j => show σ k * 0 = _; rw [Int.mul_zero]; rfl
  obtain ⟨σ', h1, h2, h3, h4⟩ := rOut_run (n := n) (u := u) (v := v) e 1 ((List.replicate (e + 1) false).set 0 true) (upd σ (2 * n) (1 * σ k)) (fun j => σ k * co (linPow u v 0) j) (by rw [hl]; omega) (by rw [hl]; omega) (fun j hj => by simp only [e0]; exact if_neg (by omega))
    (fun j hj => by
      unfold Rep
      rw [hget, e0]
      by_cases hj0 : j = 0
      · subst hj0
        refine ⟨fun _ => ?_, fun h => (by cases h)⟩
        show upd σ (2 * n) (1 * σ k) (2 * n + ((0 : Nat) : Int)) = σ k
        rw [show (2 * n + ((0 : Nat) : Int)) = 2 * n by omega, upd_at, Int.one_mul]
      · rw [decide_eq_false hj0, if_neg hj0]
        exact ⟨fun h => (by cases h), fun _ => rfl⟩) (fun j hj => by rw [hget]; exact decide_eq_false (by omega))
  refine ⟨σ', runF_seq (times_run _ _ _ _) h1, fun j hj => ?_, fun r hr => ?_⟩
  · have := h3 j (by rw [hl]; omega)
    rw [nxs_lin, Nat.zero_add] at this
    exact this
  · rw [h4 r (fun j _ => by omega) (by omega), upd_ne _ _ (by omega)]
def bkIn (n : Int) (p : R2) : Nat → List Sl.Instr
  | 0 => []
  | j + 1 => (if 0 < j then timesI (3 * n) (n + ((j : Int) - 1)) p.b else []) ++ (timesI (n + j) (n + j) p.a ++ ((if 0 < j then [⟨4, n + j, n + j, 3 * n, 0⟩] else []) ++ bkIn n p j))
def backA (n : Int) (p : R2) (e : Nat) : List Sl.Instr := timesI (n + e) (n + ((e : Int) - 1)) (-p.b) ++ bkIn n p e
def addAll (n : Int) : List Bool → Nat → List Sl.Instr
  | [], _ => []
  | t :: ts, j => (if t then [⟨3, n + j, n + j, 2 * n + j, 0⟩] else []) ++ addAll n ts (j + 1)
def backI (n : Int) (wh : List R2) (k : Int) (e : Nat) : List Sl.Instr :=
  backA n (ptW wh k) e ++ (raisedI n (bezS (ptW wh k).a (ptW wh k).b) (bezT (ptW wh k).a (ptW wh k).b) k e ++ addAll n (raisedT n (bezS (ptW wh k).a (ptW wh k).b) (bezT (ptW wh k).a (ptW wh k).b) e) 0)
theorem bkIn_run {n : Int} {p : R2} {c : Nat → Int} : ∀ (m : Nat) (σ : Int → Int), (m : Int) ≤ n → (∀ j : Nat, j < m → σ (n + j) = c j) →
    ∃ σ', runF (bkIn n p m) σ = some σ' ∧ (∀ j : Nat, j < m → σ' (n + j) = p.a * c j - p.b * (if j = 0 then 0 else c (j - 1))) ∧ ∀ r, (∀ j : Nat, j < m → r ≠ n + j) → r ≠ 3 * n → σ' r = σ r
  | 0, σ, _, _ => ⟨σ, rfl, fun j h => (by omega), fun _ _ _ => rfl⟩
  | m + 1, σ, hm, h => by
    obtain ⟨σ1, a1, a2, a3⟩ : ∃ σ1, runF ((if 0 < m then timesI (3 * n) (n + ((m : Int) - 1)) p.b else []) ++ (timesI (n + m) (n + m) p.a ++ (if 0 < m then [⟨4, n + m, n + m, 3 * n, 0⟩] else []))) σ = some σ1 ∧ σ1 (n + m) = p.a * c m - p.b * (if m = 0 then 0 else c (m - 1)) ∧ ∀ r, r ≠ n + m → r ≠ 3 * n → σ1 r = σ r := by
      by_cases hm0 : 0 < m
      · rw [if_pos hm0, if_pos hm0, if_neg (by omega)]
        refine ⟨_, runF_seq (times_run _ _ _ _) (runF_seq (times_run _ _ _ _) (run_sub _ _ _ _)), ?_, fun r h1 h2 => ?_⟩
        · have e1 : σ (n + ((m : Int) - 1)) = c (m - 1) := by
            rw [show ((m : Int) - 1) = ((m - 1 : Nat) : Int) by omega]; exact h (m - 1) (by omega)
          rw [upd_at, upd_at, upd_ne _ _ (by omega), upd_ne _ _ (by omega), upd_at, h m (by omega), e1]
        · rw [upd_ne _ _ h1, upd_ne _ _ h1, upd_ne _ _ h2]
      · rw [if_neg hm0, if_neg hm0, if_pos (by omega), List.nil_append, List.append_nil]
        refine ⟨_, times_run _ _ _ _, ?_, fun r h1 h2 => upd_ne _ _ h1⟩
        rw [upd_at, h m (by omega), Int.mul_zero, Int.sub_zero]
    obtain ⟨σ2, b1, b2, b3⟩ := bkIn_run (n := n) (p := p) (c := c) m σ1 (by omega) (fun j hj => by rw [a3 _ (by omega) (by omega)]; exact h j (by omega))
    refine ⟨σ2, ?_, fun j hj => ?_, fun r hr hr2 => ?_⟩
    · have := runF_seq a1 b1
      rw [List.append_assoc, List.append_assoc] at this
      exact this
    · rcases Nat.lt_or_ge j m with hjm | hjm
      · exact b2 j hjm
      · have e : j = m := by omega
        subst e
        rw [b3 _ (fun i hi => by omega) (by omega)]; exact a2
    · rw [b3 r (fun j hj => hr j (by omega)) hr2, a3 r (hr m (by omega)) hr2]
theorem addAll_run {n : Int} (σ0 : Int → Int) : ∀ (th : List Bool) (j0 : Nat) (σ : Int → Int), ((j0 + th.length : Nat) : Int) ≤ n → (∀ r, (∀ j : Nat, j < j0 → r ≠ n + j) → σ r = σ0 r) →
    ∃ σ', runF (addAll n th j0) σ = some σ' ∧ (∀ j : Nat, j < th.length → σ' (n + (j0 + j : Nat)) = σ0 (n + (j0 + j : Nat)) + (if th[j]?.getD false = true then σ0 (2 * n + (j0 + j : Nat)) else 0)) ∧ ∀ r, (∀ j : Nat, j < th.length → r ≠ n + (j0 + j : Nat)) → σ' r = σ r
  | [], j0, σ, _, _ => ⟨σ, rfl, fun j h => (by simp at h), fun _ _ => rfl⟩
  | t :: th, j0, σ, hn, h0 => by
    rw [List.length_cons] at hn
    obtain ⟨σ1, a1, a2, a3⟩ : ∃ σ1, runF (if t then [⟨3, n + j0, n + j0, 2 * n + j0, 0⟩] else []) σ = some σ1 ∧ σ1 (n + j0) = σ0 (n + j0) + (if t = true then σ0 (2 * n + j0) else 0) ∧ ∀ r, r ≠ n + j0 → σ1 r = σ r := by
      have e1 : σ (n + j0) = σ0 (n + j0) := h0 _ (fun j hj => by omega)
      have e2 : σ (2 * n + j0) = σ0 (2 * n + j0) := h0 _ (fun j hj => by omega)
      cases t
      · exact ⟨σ, rfl, by rw [e1]; exact (Int.add_zero _).symm, fun _ _ => rfl⟩
      · refine ⟨_, run_add _ _ _ _, ?_, fun r hr => upd_ne _ _ hr⟩
        rw [upd_at, e1, e2]; rfl
    obtain ⟨σ2, b1, b2, b3⟩ := addAll_run (n := n) σ0 th (j0 + 1) σ1 (by omega) (fun r hr => by
      rw [a3 r (hr j0 (by omega))]; exact h0 r (fun j hj => hr j (by omega)))
    refine ⟨σ2, runF_seq a1 b1, fun j hj => ?_, fun r hr => ?_⟩
    · rw [List.length_cons] at hj
      cases j with
      | zero =>
        rw [b3 _ (fun j hj => by omega)]
        exact a2
      | succ j =>
        have := b2 j (by omega)
        rw [show j0 + 1 + j = j0 + (j + 1) by omega] at this
        exact this
    · rw [b3 r (fun j hj => by have := hr (j + 1) (by rw [List.length_cons]; omega); rw [show j0 + 1 + j = j0 + (j + 1) by omega]; exact this)]
      refine a3 r ?_
      have := hr 0 (by rw [List.length_cons]; omega)
      exact this
theorem back_run {n : Int} {wh : List R2} {k : Int} {e : Nat} {σ : Int → Int} (f : List Int) (hf : f.length = e) (h1 : 1 ≤ e) (he : (e : Int) < n) (hk : k < n) (hs : ∀ j : Nat, j < e → σ (n + j) = co f j) :
    ∃ σ', runF (backI n wh k e) σ = some σ' ∧ (∀ j : Nat, j ≤ e → σ' (n + j) = co (byLin (ptW wh k).a (ptW wh k).b 0 f) j + σ k * co (linPow (bezS (ptW wh k).a (ptW wh k).b) (bezT (ptW wh k).a (ptW wh k).b) e) j) ∧ ∀ r, r < n → σ' r = σ r := by
  generalize hp : ptW wh k = p
  generalize hu : bezS p.a p.b = u
  generalize hv : bezT p.a p.b = v
  unfold backI
  rw [hp, hu, hv]
  obtain ⟨σ1, a1, a2, a3⟩ := bkIn_run (n := n) (p := p) (c := co f) e (upd σ (n + e) (-p.b * σ (n + ((e : Int) - 1)))) (by omega) (fun j hj => by rw [upd_ne _ _ (by omega)]; exact hs j hj)
  have hA : runF (backA n p e) σ = some σ1 := runF_seq (times_run _ _ _ _) a1
  have hB : ∀ j : Nat, j ≤ e → σ1 (n + j) = co (byLin p.a p.b 0 f) j := fun j hj => by
    rw [byLin_co]
    rcases Nat.lt_or_ge j e with hje | hje
    · exact a2 j hje
    · have e1 : j = e := by omega
      subst e1
      rw [a3 _ (fun i hi => by omega) (by omega), upd_at, if_neg (by omega)]
      have e2 : co f j = 0 := by unfold co; rw [List.getElem?_eq_none (by omega)]; rfl
      have e3 : σ (n + ((j : Int) - 1)) = co f (j - 1) := by
        rw [show ((j : Int) - 1) = ((j - 1 : Nat) : Int) by omega]; exact hs (j - 1) (by omega)
      rw [e2, e3, Int.mul_zero, Int.neg_mul]; omega
  have hC : ∀ r, r < n → σ1 r = σ r := fun r hr => by rw [a3 r (fun j hj => by omega) (by omega), upd_ne _ _ (by omega)]
  obtain ⟨σ2, b1, b2, b3⟩ := raised_run (u := u) (v := v) (k := k) (σ := σ1) he
  obtain ⟨σ3, c1, c2, c3⟩ := addAll_run (n := n) σ2 (raisedT n u v e) 0 σ2 (by rw [raisedT_len]; omega) (fun _ _ => rfl)
  refine ⟨σ3, runF_seq hA (runF_seq b1 c1), fun j hj => ?_, fun r hr => ?_⟩
  · have h2 := c2 j (by rw [raisedT_len]; omega)
    rw [Nat.zero_add] at h2
    rw [h2, b3 _ (by omega), hB j hj]
    congr 1
    obtain ⟨g1, g2⟩ := b2 j hj
    rw [hC k hk] at g1 g2
    cases ht : (raisedT n u v e)[j]?.getD false with
    | true => rw [if_pos rfl]; exact g1 ht
    | false => rw [if_neg (by decide)]; exact (g2 ht).symm
  · rw [c3 r (fun j hj => by omega), b3 r (by omega), hC r hr]
def awayAll (n : Int) (wh : List R2) : List Int → List Sl.Instr
  | [] => []
  | k :: left => awayI n wh k left.length left ++ awayAll n wh left
def backAll (n : Int) (wh : List R2) : List Int → List Sl.Instr
  | [] => []
  | [k] => timesI n k 1
  | k :: i :: left => backAll n wh (i :: left) ++ backI n wh k (i :: left).length
theorem co_less {t : Int} {F G : List Int} (h : F.length = G.length) (j : Nat) : co (lessT t F G) j = co F j - t * co G j := by
  unfold co lessT
  rw [List.getElem?_zipWith]
  rcases Nat.lt_or_ge j F.length with hj | hj
  · rw [List.getElem?_eq_getElem hj, List.getElem?_eq_getElem (show j < G.length by omega)]; rfl
  · rw [List.getElem?_eq_none hj, List.getElem?_eq_none (show G.length ≤ j by omega)]
    show (0 : Int) = 0 - t * 0
    rw [Int.mul_zero]; rfl
theorem smith_run {n : Int} {wh : List R2} : ∀ (o : List Int) (f : List Int) (σ : Int → Int), o.Nodup → o ≠ [] → (∀ k ∈ o, 0 ≤ k ∧ k < n) → (o.length : Int) ≤ n →
    (∀ k ∈ o, Int.gcd (ptW wh k).a (ptW wh k).b = 1 ∧ bezS (ptW wh k).a (ptW wh k).b * (ptW wh k).a + bezT (ptW wh k).a (ptW wh k).b * (ptW wh k).b = 1) → (∀ k ∈ o, ∀ i ∈ o, k ≠ i → detC wh k i ≠ 0) → f.length = o.length → (∀ k ∈ o, σ k = ev f (ptW wh k).a (ptW wh k).b) →
    ∃ σ', runF (awayAll n wh o ++ backAll n wh o) σ = some σ' ∧ (∀ j : Nat, j < f.length → σ' (n + j) = co f j) ∧ ∀ r, r < n → r ∉ o → σ' r = σ r
  | [], f, σ, _, h, _, _, _, _, _, _ => absurd rfl h
  | [k], f, σ, _, _, ho, _, _, _, hf, hv => by
    obtain ⟨c, rfl⟩ : ∃ c, f = [c] := by
      match f, hf with
      | [c], _ => exact ⟨c, rfl⟩
    have hk := ho k (by simp)
    refine ⟨_, (times_run n k 1 σ : runF (timesI n k 1) σ = _), fun j hj => ?_, fun r hr hr2 => upd_ne _ _ (by omega)⟩
    have hj0 : j = 0 := by simpa using hj
    subst hj0
    show upd σ n (1 * σ k) (n + ((0 : Nat) : Int)) = c
    rw [show n + ((0 : Nat) : Int) = n by omega, upd_at, hv k (by simp), Int.one_mul]
    show c * _ ^ 0 + _ * 0 = c
    rw [Int.pow_zero, Int.mul_one, Int.mul_zero, Int.add_zero]
  | k :: i :: left, f, σ, hn, _, ho, hon, hg, hd, hf, hv => by
    obtain ⟨hn1, hn2⟩ := List.nodup_cons.1 hn
    obtain ⟨hk0, hkn⟩ := ho k List.mem_cons_self
    obtain ⟨hgk, hbk⟩ := hg k List.mem_cons_self
    generalize hrest : i :: left = rest at *
    have hrl : 1 ≤ rest.length := by rw [← hrest]; simp
    rw [List.length_cons] at hf hon
    obtain ⟨g, g1, g2, g3⟩ := take_away hgk hbk f rest.length hf
    have hvk := hv k List.mem_cons_self
    obtain ⟨σ1, a1, a2, a3⟩ := awayI_run (n := n) (wh := wh) (k := k) (e := rest.length) (by omega) (fun i => ev g (ptW wh i).a (ptW wh i).b) rest σ hn2 hn1 (fun i hi => by
      have := ho i (List.mem_cons_of_mem _ hi)
      refine ⟨by omega, hd k List.mem_cons_self i (List.mem_cons_of_mem _ hi) (fun e => hn1 (e ▸ hi)), ?_⟩
      rw [hvk, hv i (List.mem_cons_of_mem _ hi)]
      have e2 := g3 (ptW wh i).a (ptW wh i).b
      have e3 : detC wh k i = (ptW wh k).a * (ptW wh i).b - (ptW wh k).b * (ptW wh i).a := by unfold detC; rw [Int.mul_comm (ptW wh i).a]
      rw [e3]
      exact e2)
    obtain ⟨σ2, b1, b2, b3⟩ := smith_run rest g σ1 hn2 (by intro e; rw [e] at hrl; simp at hrl) (fun k hk => ho k (List.mem_cons_of_mem _ hk)) (by omega) (fun k hk => hg k (List.mem_cons_of_mem _ hk)) (fun k hk i hi => hd k (List.mem_cons_of_mem _ hk) i (List.mem_cons_of_mem _ hi)) g1 (fun i hi => a2 i hi)
    have hk2 : σ2 k = σ k := by rw [b3 k hkn hn1, a3 k hn1 (by omega)]
    obtain ⟨σ3, c1, c2, c3⟩ := back_run (wh := wh) (σ := σ2) g g1 hrl (by omega) hkn (fun j hj => b2 j (by omega))
    refine ⟨σ3, ?_, fun j hj => ?_, fun r hr hr2 => ?_⟩
    · have e1 : awayAll n wh (k :: rest) ++ backAll n wh (k :: rest) = awayI n wh k rest.length rest ++ ((awayAll n wh rest ++ backAll n wh rest) ++ backI n wh k rest.length) := by
        have e2 : backAll n wh (k :: rest) = backAll n wh rest ++ backI n wh k rest.length := by rw [← hrest]; rfl
        rw [e2]
        show (awayI n wh k rest.length rest ++ awayAll n wh rest) ++ _ = _
        simp only [List.append_assoc]
      rw [e1]
      exact runF_seq a1 (runF_seq b1 c1)
    · rw [c2 j (by omega), ← g2, hk2, hvk, co_less (by rw [hf, linPow_len])]
      omega
    · rw [c3 r hr, b3 r hr (fun x => hr2 (List.mem_cons_of_mem _ x)), a3 r (fun x => hr2 (List.mem_cons_of_mem _ x)) (by omega)]
end Go.Proofs.YtelbhbbiejalhaaGreat
set_option maxRecDepth 100000
set_option linter.unusedVariables false
namespace Go.Proofs.YtelbhbbiejalhaaGreat
open Go Go.Sl
set_option maxHeartbeats 4000000
/-- Det of two points' norms -/
def dt (p q : R2) : Int := (nrm p.a p.b).1 * (nrm q.a q.b).2 - (nrm q.a q.b).1 * (nrm p.a p.b).2
/-- the amounts of the pairs before the pair (i, j) -/
def Amt (l : List R2) (j i : Nat) (d : Int) : Prop := ∃ j' i', i' < j' ∧ (j' < j ∨ (j' = j ∧ i' < i)) ∧ d = ((dt (l[i']?.getD default) (l[j']?.getD default)).natAbs : Int)
theorem Amt.zero {l : List R2} {d : Int} : ¬ Amt l 0 0 d := fun ⟨j', i', h1, h2, _⟩ => by omega
theorem Amt.row {l : List R2} {j : Nat} {d : Int} : Amt l j j d ↔ Amt l (j + 1) 0 d :=
  ⟨fun ⟨j', i', h1, h2, h3⟩ => ⟨j', i', h1, by omega, h3⟩, fun ⟨j', i', h1, h2, h3⟩ => ⟨j', i', h1, by omega, h3⟩⟩
theorem Amt.step {l : List R2} {j i : Nat} {d : Int} (h : i < j) : Amt l j (i + 1) d ↔ Amt l j i d ∨ d = ((dt (l[i]?.getD default) (l[j]?.getD default)).natAbs : Int) := by
  constructor
  · rintro ⟨j', i', h1, h2, h3⟩
    by_cases hc : j' = j ∧ i' = i
    · rw [hc.1, hc.2] at h3; exact .inr h3
    · exact .inl ⟨j', i', h1, by omega, h3⟩
  · rintro (⟨j', i', h1, h2, h3⟩ | h3)
    · exact ⟨j', i', h1, by omega, h3⟩
    · exact ⟨j, i, h, by omega, h3⟩
/-- a table that marks what is among them -/
def Marks (xs : List Bool) (A : Int → Prop) : Prop := xs.length = 513 ∧ ∀ d : Nat, d < 513 → (xs[d]?.getD false = true ↔ A d)
theorem Marks.set {xs : List Bool} {A B : Int → Prop} {m : Int} (h : Marks xs A) (h0 : 0 ≤ m) (hB : ∀ d : Int, B d ↔ A d ∨ d = m) : Marks (xs.set m.toNat true) B := by
  refine ⟨by rw [List.length_set]; exact h.1, fun d hd => ?_⟩
  rw [hB, ← h.2 d hd, List.getElem?_set]
  by_cases e : m.toNat = d
  · rw [if_pos e, if_pos (by rw [h.1]; omega)]
    exact ⟨fun _ => .inr (by omega), fun _ => rfl⟩
  · rw [if_neg e]
    exact ⟨.inl, fun h => h.resolve_right (by omega)⟩
end Go.Proofs.YtelbhbbiejalhaaGreat
set_option maxRecDepth 100000
set_option linter.unusedVariables false
namespace Go.Proofs.YtelbhbbiejalhaaGreat
open Go Go.Sl
set_option maxHeartbeats 4000000
/-- an order of n things -/
def OrderP (o : List Int) (n : Nat) : Prop := o.length = n ∧ (∀ x ∈ o, 0 ≤ x ∧ x < n) ∧ o.Nodup
instance (o : List Int) (n : Nat) : Decidable (OrderP o n) := inferInstanceAs (Decidable (_ ∧ _))
/-- a table of n that marks what is among them -/
def MarksN (xs : List Bool) (n : Nat) (A : Int → Prop) : Prop := xs.length = n ∧ ∀ d : Nat, d < n → (xs[d]?.getD false = true ↔ A d)
theorem MarksN.set {xs : List Bool} {n : Nat} {A B : Int → Prop} {m : Int} (h : MarksN xs n A) (h0 : 0 ≤ m) (hB : ∀ d : Int, B d ↔ A d ∨ d = m) : MarksN (xs.set m.toNat true) n B := by
  refine ⟨by rw [List.length_set]; exact h.1, fun d hd => ?_⟩
  rw [hB, ← h.2 d hd, List.getElem?_set]
  by_cases e : m.toNat = d
  · rw [if_pos e, if_pos (by rw [h.1]; omega)]
    exact ⟨fun _ => .inr (by omega), fun _ => rfl⟩
  · rw [if_neg e]
    exact ⟨.inl, fun h => h.resolve_right (by omega)⟩
end Go.Proofs.YtelbhbbiejalhaaGreat
set_option linter.unusedVariables false
namespace Go.Proofs.YtelbhbbiejalhaaGreat
open Go Go.Sl
theorem right_ofS {q : PV} (h : 1 ≤ q.ins ∧ q.ins ≤ q.regs ∧ q.regs ≤ 128 ∧ q.code.length ≤ 16384 ∧ 1 ≤ q.outs.length ∧ q.outs.length ≤ 128) (ho : ∀ r ∈ q.outs, 0 ≤ r ∧ r < q.regs) (hc : ∀ i ∈ q.code, mayOk i q.regs = true) : rightP q = true := by
  have h1 : headOk q = true := by
    unfold headOk
    rw [Bool.and_eq_true, decide_eq_true_eq, List.all_eq_true]
    exact ⟨by omega, fun r hr => by rw [decide_eq_true_eq]; exact ho r hr⟩
  have h2 : badAt q = none := by
    unfold badAt
    rw [List.findIdx?_eq_none_iff]
    intro i hi
    rw [hc i hi]; rfl
  unfold rightP checkP
  rw [if_neg (by rw [h1]; decide), h2]; rfl
structure Good (R : Int) (L d : Nat) (l : List Sl.Instr) : Prop where
  fit : ∀ i ∈ l, mayOk i R = true
  len : l.length ≤ L
  dv : divs l ≤ d
theorem divs_append (l m : List Sl.Instr) : divs (l ++ m) = divs l + divs m := by unfold divs; rw [List.filter_append, List.length_append]
theorem Good.nil (R : Int) : Good R 0 0 [] := ⟨fun i h => (by cases h), Nat.le_refl _, Nat.le_refl _⟩
theorem Good.append {R : Int} {L d L' d' : Nat} {l m : List Sl.Instr} (h : Good R L d l) (k : Good R L' d' m) : Good R (L + L') (d + d') (l ++ m) :=
  ⟨fun i hi => (List.mem_append.1 hi).elim (h.fit i) (k.fit i), by rw [List.length_append]; have := h.len; have := k.len; omega, by rw [divs_append]; have := h.dv; have := k.dv; omega⟩
theorem Good.mono {R : Int} {L d L' d' : Nat} {l : List Sl.Instr} (h : Good R L d l) (h1 : L ≤ L') (h2 : d ≤ d') : Good R L' d' l := ⟨h.fit, Nat.le_trans h.len h1, Nat.le_trans h.dv h2⟩
theorem Good.one {R : Int} {i : Sl.Instr} (h : mayOk i R = true) : Good R 1 (if isDiv i then 1 else 0) [i] :=
  ⟨fun j hj => by rw [List.mem_singleton.1 hj]; exact h, Nat.le_refl _, by unfold divs; by_cases hd : isDiv i <;> simp [hd]⟩
theorem may_two {op to a b R : Int} (ho : op = 3 ∨ op = 4) (h1 : 0 ≤ to ∧ to < R) (h2 : 0 ≤ a ∧ a < R) (h3 : 0 ≤ b ∧ b < R) : mayOk ⟨op, to, a, b, 0⟩ R = true := by
  unfold mayOk
  rw [Bool.and_eq_true, Bool.and_eq_true, decide_eq_true_eq, List.all_eq_true]
  refine ⟨⟨(show 1 ≤ op ∧ op ≤ 8 ∧ 0 ≤ to ∧ to < R ∧ (op = 3 ∨ op = 4 ∨ b = 0) by omega), ?_⟩, fun r hr => ?_⟩
  · unfold constOk
    rw [if_neg (show ¬ (op = 5 ∨ op = 6) by omega), if_neg (show ¬ (op = 7 ∨ op = 8) by omega)]; rfl
  · rw [decide_eq_true_eq]
    unfold asks at hr
    rw [if_pos (show op = 3 ∨ op = 4 from ho)] at hr
    rcases List.mem_cons.1 hr with rfl | hr
    · exact h2
    · rw [List.mem_singleton.1 hr]; exact h3
theorem may_one {op to a R : Int} (ho : op = 1 ∨ op = 2) (h1 : 0 ≤ to ∧ to < R) (h2 : 0 ≤ a ∧ a < R) : mayOk ⟨op, to, a, 0, 0⟩ R = true := by
  unfold mayOk
  rw [Bool.and_eq_true, Bool.and_eq_true, decide_eq_true_eq, List.all_eq_true]
  refine ⟨⟨(show 1 ≤ op ∧ op ≤ 8 ∧ 0 ≤ to ∧ to < R ∧ (op = 3 ∨ op = 4 ∨ (0 : Int) = 0) by omega), ?_⟩, fun r hr => ?_⟩
  · unfold constOk
    rw [if_neg (show ¬ (op = 5 ∨ op = 6) by omega), if_neg (show ¬ (op = 7 ∨ op = 8) by omega)]; rfl
  · rw [decide_eq_true_eq]
    unfold asks at hr
    rw [if_neg (show ¬ (op = 3 ∨ op = 4) by omega), if_pos (show 1 ≤ op ∧ op ≤ 8 by omega)] at hr
    rw [List.mem_singleton.1 hr]; exact h2
theorem may_const {op to a c R : Int} (ho : op = 5 ∨ op = 6) (h1 : 0 ≤ to ∧ to < R) (h2 : 0 ≤ a ∧ a < R) (hc : c ≠ 0 ∧ -512 ≤ c ∧ c ≤ 512) : mayOk ⟨op, to, a, 0, c⟩ R = true := by
  unfold mayOk
  rw [Bool.and_eq_true, Bool.and_eq_true, decide_eq_true_eq, List.all_eq_true]
  refine ⟨⟨(show 1 ≤ op ∧ op ≤ 8 ∧ 0 ≤ to ∧ to < R ∧ (op = 3 ∨ op = 4 ∨ (0 : Int) = 0) by omega), ?_⟩, fun r hr => ?_⟩
  · unfold constOk
    rw [if_pos (show op = 5 ∨ op = 6 from ho), decide_eq_true_eq]; exact hc
  · rw [decide_eq_true_eq]
    unfold asks at hr
    rw [if_neg (show ¬ (op = 3 ∨ op = 4) by omega), if_pos (show 1 ≤ op ∧ op ≤ 8 by omega)] at hr
    rw [List.mem_singleton.1 hr]; exact h2
theorem add_good {R to a b : Int} (h1 : 0 ≤ to ∧ to < R) (h2 : 0 ≤ a ∧ a < R) (h3 : 0 ≤ b ∧ b < R) : Good R 1 0 [⟨3, to, a, b, 0⟩] := (Good.one (may_two (.inl rfl) h1 h2 h3)).mono (Nat.le_refl _) (Nat.le_of_eq (if_neg (show ¬ ((3 : Int) = 6 ∨ (3 : Int) = 8) by decide)))
theorem sub_good {R to a b : Int} (h1 : 0 ≤ to ∧ to < R) (h2 : 0 ≤ a ∧ a < R) (h3 : 0 ≤ b ∧ b < R) : Good R 1 0 [⟨4, to, a, b, 0⟩] := (Good.one (may_two (.inr rfl) h1 h2 h3)).mono (Nat.le_refl _) (Nat.le_of_eq (if_neg (show ¬ ((4 : Int) = 6 ∨ (4 : Int) = 8) by decide)))
theorem times_good {R to x c : Int} (h1 : 0 ≤ to ∧ to < R) (h2 : 0 ≤ x ∧ x < R) (hc : -512 ≤ c ∧ c ≤ 512) : Good R 1 0 (timesI to x c) := by
  unfold timesI
  split
  · exact sub_good h1 h2 h2
  rename_i h0
  split
  · exact (Good.nil R).mono (by omega) (by omega)
  split
  · exact (Good.one (may_one (.inl rfl) h1 h2)).mono (Nat.le_refl _) (Nat.le_of_eq (if_neg (show ¬ ((1 : Int) = 6 ∨ (1 : Int) = 8) by decide)))
  split
  · exact (Good.one (may_one (.inr rfl) h1 h2)).mono (Nat.le_refl _) (Nat.le_of_eq (if_neg (show ¬ ((2 : Int) = 6 ∨ (2 : Int) = 8) by decide)))
  · exact (Good.one (may_const (.inl rfl) h1 h2 ⟨h0, hc⟩)).mono (Nat.le_refl _) (Nat.le_of_eq (if_neg (show ¬ ((5 : Int) = 6 ∨ (5 : Int) = 8) by decide)))
theorem over_good {R to c : Int} (h1 : 0 ≤ to ∧ to < R) (h0 : c ≠ 0) (hc : -512 ≤ c ∧ c ≤ 512) : Good R 1 (if c = 1 then 0 else 1) (overI to c) := by
  unfold overI
  split
  · exact (Good.nil R).mono (by omega) (by omega)
  split
  · exact (Good.one (may_one (.inr rfl) h1 h1)).mono (Nat.le_refl _) (by split <;> omega)
  · exact (Good.one (may_const (.inr rfl) h1 h1 ⟨h0, hc⟩)).mono (Nat.le_refl _) (by split <;> omega)
theorem many_good {R to c : Int} (h1 : 0 ≤ to ∧ to < R) (h0 : c ≠ 0) (hc : -512 ≤ c ∧ c ≤ 512) : ∀ m : Nat, Good R m (if c = 1 then 0 else m) (List.replicate m (overI to c)).flatten
  | 0 => (Good.nil R).mono (Nat.le_refl _) (Nat.zero_le _)
  | m + 1 => by
    rw [List.replicate_succ, List.flatten_cons]
    refine ((over_good h1 h0 hc).append (many_good h1 h0 hc m)).mono (by omega) ?_
    split <;> omega
theorem powL_good {R to c : Int} (h1 : 0 ≤ to ∧ to < R) (hc : -512 ≤ c ∧ c ≤ 512) : ∀ (e : Nat) (fr k : Int), 0 ≤ fr ∧ fr < R → -512 ≤ k ∧ k ≤ 512 → Good R (e + 1) 0 (powL to c fr k e)
  | 0, fr, k, h2, hk => times_good h1 h2 hk
  | e + 1, fr, k, h2, hk => by
    unfold powL
    split
    · exact ((times_good h1 h2 hk).append (powL_good h1 hc e to c h1 hc)).mono (by omega) (by omega)
    · exact (powL_good h1 hc e fr (k * c) h2 (by omega)).mono (by omega) (by omega)
theorem powI_good {R to a c : Int} (h1 : 0 ≤ to ∧ to < R) (h2 : 0 ≤ a ∧ a < R) (hc : -512 ≤ c ∧ c ≤ 512) (e : Nat) : Good R (e + 1) 0 (powI to a c e) := by
  unfold powI
  split
  · refine (times_good h1 h2 ?_).mono (by omega) (by omega)
    split <;> omega
  · exact powL_good h1 hc e a 1 h2 (by omega)
theorem lin_rng {u v a b : Int} (h : u.natAbs + v.natAbs ≤ 17) (hn : near a b) : -512 ≤ u * a + v * b ∧ u * a + v * b ≤ 512 := by
  unfold near at hn
  have h1 : (u * a).natAbs ≤ u.natAbs * 16 := by rw [Int.natAbs_mul]; exact Nat.mul_le_mul_left _ (by omega)
  have h2 : (v * b).natAbs ≤ v.natAbs * 16 := by rw [Int.natAbs_mul]; exact Nat.mul_le_mul_left _ (by omega)
  omega
theorem det_rng {a b c d : Int} (h : near a b) (k : near c d) : -512 ≤ a * d - c * b ∧ a * d - c * b ≤ 512 := by
  unfold near at h k
  have h1 : (a * d).natAbs ≤ 16 * 16 := by rw [Int.natAbs_mul]; exact Nat.mul_le_mul (by omega) (by omega)
  have h2 : (c * b).natAbs ≤ 16 * 16 := by rw [Int.natAbs_mul]; exact Nat.mul_le_mul (by omega) (by omega)
  omega
/-- what is asked of points without common factors -/
structure Wh (wh : List R2) (o : List Int) : Prop where
  near : ∀ k ∈ o, near (ptW wh k).a (ptW wh k).b
  cop : ∀ k ∈ o, Int.gcd (ptW wh k).a (ptW wh k).b = 1
  bez : ∀ k ∈ o, bezS (ptW wh k).a (ptW wh k).b * (ptW wh k).a + bezT (ptW wh k).a (ptW wh k).b * (ptW wh k).b = 1
  small : ∀ k ∈ o, (bezS (ptW wh k).a (ptW wh k).b).natAbs + (bezT (ptW wh k).a (ptW wh k).b).natAbs ≤ 17
  det : ∀ k ∈ o, ∀ i ∈ o, k ≠ i → detC wh k i ≠ 0
theorem Wh.tail {wh : List R2} {k : Int} {o : List Int} (h : Wh wh (k :: o)) : Wh wh o :=
  ⟨fun i hi => h.near i (List.mem_cons_of_mem _ hi), fun i hi => h.cop i (List.mem_cons_of_mem _ hi), fun i hi => h.bez i (List.mem_cons_of_mem _ hi), fun i hi => h.small i (List.mem_cons_of_mem _ hi),
    fun k hk i hi => h.det k (List.mem_cons_of_mem _ hk) i (List.mem_cons_of_mem _ hi)⟩
theorem awayOne_good {n : Int} {wh : List R2} {k i : Int} (e : Nat) (hk : 0 ≤ k ∧ k < n) (hi : 0 ≤ i ∧ i < n) (h1 : near (ptW wh k).a (ptW wh k).b) (h2 : near (ptW wh i).a (ptW wh i).b) (h3 : (bezS (ptW wh k).a (ptW wh k).b).natAbs + (bezT (ptW wh k).a (ptW wh k).b).natAbs ≤ 17) (h4 : detC wh k i ≠ 0) :
    Good (3 * n + 1) (e + 3) 1 (awayOne n wh k e i) := by
  have hl := lin_rng h3 h2
  have hd := det_rng h1 h2
  unfold awayOne
  have e1 : Good (3 * n + 1) (e + 2) 0 (if linC wh k i ≠ 0 ∨ e = 0 then powI (3 * n) k (linC wh k i) e ++ [⟨4, i, i, 3 * n, 0⟩] else []) := by
    split
    · exact (powI_good (by omega) (by omega) hl e).append (sub_good (by omega) (by omega) (by omega))
    · exact (Good.nil _).mono (by omega) (by omega)
  have e2 : Good (3 * n + 1) 1 1 (if detC wh k i = 1 then [] else overI i (detC wh k i)) := by
    split
    · exact (Good.nil _).mono (by omega) (by omega)
    · exact (over_good (by omega) h4 hd).mono (Nat.le_refl _) (by split <;> omega)
  exact (e1.append e2).mono (by omega) (by omega)
theorem awayI_good {n : Int} {wh : List R2} {k : Int} (e : Nat) (hk : 0 ≤ k ∧ k < n) (h1 : near (ptW wh k).a (ptW wh k).b) (h3 : (bezS (ptW wh k).a (ptW wh k).b).natAbs + (bezT (ptW wh k).a (ptW wh k).b).natAbs ≤ 17) :
    ∀ left : List Int, (∀ i ∈ left, 0 ≤ i ∧ i < n) → (∀ i ∈ left, near (ptW wh i).a (ptW wh i).b ∧ detC wh k i ≠ 0) → Good (3 * n + 1) (left.length * (e + 3)) left.length (awayI n wh k e left)
  | [], _, _ => (Good.nil _).mono (Nat.zero_le _) (Nat.zero_le _)
  | i :: left, hi, h => by
    have h5 := h i List.mem_cons_self
    refine ((awayOne_good e hk (hi i List.mem_cons_self) h1 h5.1 h3 h5.2).append (awayI_good e hk h1 h3 left (fun j hj => hi j (List.mem_cons_of_mem _ hj)) (fun j hj => h j (List.mem_cons_of_mem _ hj)))).mono ?_ ?_
    · rw [List.length_cons, Nat.succ_mul]; omega
    · rw [List.length_cons]; omega
/-- 0 + 1 + .. -/
def tri : Nat → Nat
  | 0 => 0
  | m + 1 => m + tri m
theorem awayAll_good {n : Int} {wh : List R2} : ∀ o : List Int, o.length ≤ 15 → (∀ i ∈ o, 0 ≤ i ∧ i < n) → o.Nodup → Wh wh o → Good (3 * n + 1) (238 * o.length) (tri o.length) (awayAll n wh o)
  | [], _, _, _, _ => (Good.nil _).mono (Nat.zero_le _) (Nat.zero_le _)
  | k :: left, hl, hr, hn, hw => by
    obtain ⟨hn1, hn2⟩ := List.nodup_cons.1 hn
    rw [List.length_cons] at hl
    have h1 := awayI_good (n := n) (wh := wh) left.length (hr k List.mem_cons_self) (hw.near k List.mem_cons_self) (hw.small k List.mem_cons_self) left (fun i hi => hr i (List.mem_cons_of_mem _ hi)) (fun i hi => ⟨hw.near i (List.mem_cons_of_mem _ hi), hw.det k List.mem_cons_self i (List.mem_cons_of_mem _ hi) (fun e => hn1 (e ▸ hi))⟩)
    have h2 := awayAll_good left (by omega) (fun i hi => hr i (List.mem_cons_of_mem _ hi)) hn2 hw.tail
    refine (h1.append h2).mono ?_ ?_
    · rw [List.length_cons]
      have : left.length * (left.length + 3) ≤ 14 * 17 := Nat.mul_le_mul (by omega) (by omega)
      omega
    · exact Nat.le_refl _
theorem rStep_good {n u v : Int} {th : List Bool} {j : Nat} (hj : (j : Int) < n) (hu : -512 ≤ u ∧ u ≤ 512) (hv : -512 ≤ v ∧ v ≤ 512) : Good (3 * n + 1) 3 0 (rStep n u v th j).2 := by
  unfold rStep
  simp only
  by_cases hj0 : 0 < j
  · have h1 : Good (3 * n + 1) 1 0 (timesI (3 * n) (2 * n + (j - 1)) u) := times_good (by omega) (by omega) hu
    have h2 : Good (3 * n + 1) 1 0 (timesI (2 * n + j) (2 * n + j) v) := times_good (by omega) (by omega) hv
    have h3 : Good (3 * n + 1) 1 0 (timesI (2 * n + j) (3 * n) 1) := times_good (by omega) (by omega) (by omega)
    have h4 : Good (3 * n + 1) 1 0 [(⟨3, 2 * n + j, 2 * n + j, 3 * n, 0⟩ : Sl.Instr)] := add_good (by omega) (by omega) (by omega)
    generalize (decide (0 < j) && th[j - 1]?.getD false && decide (u ≠ 0)) = low
    generalize (th[j]?.getD false && decide (v ≠ 0)) = own
    cases low <;> cases own
    · exact (Good.nil _).mono (by omega) (by omega)
    · exact h2.mono (by omega) (by omega)
    · exact (h1.append h3).mono (by omega) (by omega)
    · exact (h1.append (h2.append h4)).mono (by omega) (by omega)
  · have h2 : Good (3 * n + 1) 1 0 (timesI (2 * n + j) (2 * n + j) v) := times_good (by omega) (by omega) hv
    rw [decide_eq_false hj0]
    generalize (th[j]?.getD false && decide (v ≠ 0)) = own
    cases own
    · exact (Good.nil _).mono (by omega) (by omega)
    · exact h2.mono (by omega) (by omega)
theorem rIn_good {n u v : Int} (hu : -512 ≤ u ∧ u ≤ 512) (hv : -512 ≤ v ∧ v ≤ 512) : ∀ (m : Nat) (th : List Bool), (m : Int) ≤ n → Good (3 * n + 1) (3 * m) 0 (rIn n u v m th).2
  | 0, _, _ => Good.nil _
  | m + 1, th, h => ((rStep_good (by omega) hu hv).append (rIn_good hu hv m _ (by omega))).mono (by omega) (by omega)
theorem rOut_good {n u v : Int} (hu : -512 ≤ u ∧ u ≤ 512) (hv : -512 ≤ v ∧ v ≤ 512) (hn : n ≤ 15) : ∀ (m d : Nat) (th : List Bool), ((d + m : Nat) : Int) ≤ n → Good (3 * n + 1) (45 * m) 0 (rOut n u v m d th).2
  | 0, _, _, _ => Good.nil _
  | m + 1, d, th, h => ((rIn_good hu hv (d + 1) th (by omega)).append (rOut_good hu hv hn m (d + 1) _ (by omega))).mono (by omega) (by omega)
theorem raised_good {n u v k : Int} {e : Nat} (hu : -512 ≤ u ∧ u ≤ 512) (hv : -512 ≤ v ∧ v ≤ 512) (hn : n ≤ 15) (he : (e : Int) < n) (hk : 0 ≤ k ∧ k < n) : Good (3 * n + 1) (1 + 45 * e) 0 (raisedI n u v k e) :=
  (times_good (by omega) (by omega) (by omega)).append (rOut_good hu hv hn e 1 _ (by omega))
theorem bkIn_good {n : Int} {p : R2} (hp : near p.a p.b) : ∀ m : Nat, (m : Int) ≤ n → Good (3 * n + 1) (3 * m) 0 (bkIn n p m)
  | 0, _ => Good.nil _
  | j + 1, h => by
    unfold near at hp
    unfold bkIn
    have h1 : Good (3 * n + 1) 1 0 (if 0 < j then timesI (3 * n) (n + ((j : Int) - 1)) p.b else []) := by
      split
      · exact times_good (by omega) (by omega) (by omega)
      · exact (Good.nil _).mono (by omega) (by omega)
    have h2 : Good (3 * n + 1) 1 0 (timesI (n + j) (n + j) p.a) := times_good (by omega) (by omega) (by omega)
    have h3 : Good (3 * n + 1) 1 0 (if 0 < j then [(⟨4, n + j, n + j, 3 * n, 0⟩ : Sl.Instr)] else []) := by
      split
      · exact sub_good (by omega) (by omega) (by omega)
      · exact (Good.nil _).mono (by omega) (by omega)
    exact (h1.append (h2.append (h3.append (bkIn_good hp j (by omega))))).mono (by omega) (by omega)
theorem addAll_good {n : Int} : ∀ (th : List Bool) (j : Nat), ((j + th.length : Nat) : Int) ≤ n → Good (3 * n + 1) th.length 0 (addAll n th j)
  | [], _, _ => Good.nil _
  | t :: th, j, h => by
    rw [List.length_cons] at h
    have h1 : Good (3 * n + 1) 1 0 (if t then [(⟨3, n + j, n + j, 2 * n + j, 0⟩ : Sl.Instr)] else []) := by
      split
      · exact add_good (by omega) (by omega) (by omega)
      · exact (Good.nil _).mono (by omega) (by omega)
    exact (h1.append (addAll_good th (j + 1) (by omega))).mono (by rw [List.length_cons]; omega) (by omega)
theorem back_good {n : Int} {wh : List R2} {k : Int} {e : Nat} (hn : n ≤ 15) (h1 : 1 ≤ e) (he : (e : Int) < n) (hk : 0 ≤ k ∧ k < n) (hp : near (ptW wh k).a (ptW wh k).b) (hs : (bezS (ptW wh k).a (ptW wh k).b).natAbs + (bezT (ptW wh k).a (ptW wh k).b).natAbs ≤ 17) : Good (3 * n + 1) 700 0 (backI n wh k e) := by
  have a1 := times_good (R := 3 * n + 1) (to := n + e) (x := n + ((e : Int) - 1)) (c := -(ptW wh k).b) (by omega) (by omega) (by unfold near at hp; omega)
  have a2 := bkIn_good (n := n) hp e (by omega)
  have a3 := raised_good (n := n) (u := bezS (ptW wh k).a (ptW wh k).b) (v := bezT (ptW wh k).a (ptW wh k).b) (k := k) (e := e) (by omega) (by omega) hn he hk
  have a4 := addAll_good (n := n) (raisedT n (bezS (ptW wh k).a (ptW wh k).b) (bezT (ptW wh k).a (ptW wh k).b) e) 0 (by rw [raisedT_len]; omega)
  have hl := raisedT_len n (bezS (ptW wh k).a (ptW wh k).b) (bezT (ptW wh k).a (ptW wh k).b) e
  exact ((a1.append a2).append (a3.append a4)).mono (by rw [hl]; omega) (by omega)
theorem backAll_good {n : Int} {wh : List R2} (hn : n ≤ 15) : ∀ o : List Int, (o.length : Int) ≤ n → (∀ i ∈ o, 0 ≤ i ∧ i < n) → Wh wh o → Good (3 * n + 1) (700 * o.length) 0 (backAll n wh o)
  | [], _, _, _ => Good.nil _
  | [k], _, hr, _ => by
    have := hr k List.mem_cons_self
    exact (times_good (by omega) (by omega) (by omega)).mono (by simp) (Nat.le_refl _)
  | k :: i :: left, hl, hr, hw => by
    rw [List.length_cons] at hl
    have h1 := backAll_good hn (i :: left) (by omega) (fun j hj => hr j (List.mem_cons_of_mem _ hj)) hw.tail
    have h2 := back_good (n := n) (wh := wh) (k := k) (e := (i :: left).length) hn (by simp) (by omega) (hr k List.mem_cons_self) (hw.near k List.mem_cons_self) (hw.small k List.mem_cons_self)
    exact (h1.append h2).mono (by rw [List.length_cons (a := k)]; omega) (by omega)
def normAll (m : Nat) : List R2 → Nat → List Sl.Instr
  | [], _ => []
  | p :: l, k => (List.replicate m (overI k (Int.gcd p.a p.b))).flatten ++ normAll m l (k + 1)
def wholeP (p : R2) : R2 := ⟨p.a.tdiv (Int.gcd p.a p.b), p.b.tdiv (Int.gcd p.a p.b)⟩
def codeP (l : List R2) (o : List Int) : List Sl.Instr := normAll (l.length - 1) l 0 ++ (awayAll l.length (l.map wholeP) o ++ backAll l.length (l.map wholeP) o)
def madeP (l : List R2) (o : List Int) : PV := ⟨l.length, 3 * l.length + 1, codeP l o, (List.range l.length).map fun j : Nat => (l.length : Int) + j⟩
theorem gcd_near {p : R2} (h : okP p) : 1 ≤ Int.gcd p.a p.b ∧ Int.gcd p.a p.b ≤ 16 := by
  obtain ⟨h1, h2⟩ := h
  have hg0 : 0 < Int.gcd p.a p.b := Nat.pos_of_ne_zero fun h1 => h2 (Int.gcd_eq_zero_iff.mp h1)
  refine ⟨hg0, ?_⟩
  unfold near at h1
  by_cases ha : p.a = 0
  · have hb : p.b ≠ 0 := fun hb => h2 ⟨ha, hb⟩
    have := Nat.le_of_dvd (by omega) (show Int.gcd p.a p.b ∣ p.b.natAbs from Nat.gcd_dvd_right _ _)
    omega
  · have := Nat.le_of_dvd (by omega) (show Int.gcd p.a p.b ∣ p.a.natAbs from Nat.gcd_dvd_left _ _)
    omega
theorem normAll_good {n : Int} (m : Nat) : ∀ (l : List R2) (k : Nat), ((k + l.length : Nat) : Int) ≤ n → (∀ p ∈ l, okP p) → Good (3 * n + 1) (l.length * m) (m * uneven l) (normAll m l k)
  | [], _, _, _ => (Good.nil _).mono (Nat.zero_le _) (Nat.zero_le _)
  | p :: l, k, h, hp => by
    rw [List.length_cons] at h
    have hg := gcd_near (hp p List.mem_cons_self)
    have h1 := many_good (R := 3 * n + 1) (to := (k : Int)) (c := (Int.gcd p.a p.b : Int)) (by omega) (by omega) (by omega) m
    have h2 := normAll_good (n := n) m l (k + 1) (by omega) (fun q hq => hp q (List.mem_cons_of_mem _ hq))
    refine (h1.append h2).mono ?_ ?_
    · rw [List.length_cons, Nat.succ_mul]; omega
    · have e : uneven (p :: l) = (if Int.gcd p.a p.b = 1 then 0 else 1) + uneven l := by
        unfold uneven
        rw [List.filter_cons]
        by_cases hh : Int.gcd p.a p.b = 1
        · rw [if_neg (by simp [hh]), if_pos hh, Nat.zero_add]
        · rw [if_pos (by simp [hh]), if_neg hh, List.length_cons, Nat.add_comm]
      rw [e, Nat.mul_add]
      by_cases hh : Int.gcd p.a p.b = 1
      · rw [if_pos (by omega), if_pos hh]; omega
      · rw [if_neg (by omega), if_neg hh]; omega
theorem ptW_map (l : List R2) {k : Int} (h0 : 0 ≤ k) (h : k < l.length) : ptW (l.map wholeP) k = wholeP (l[k.toNat]?.getD default) := by
  unfold ptW
  rw [List.getElem?_map, List.getElem?_eq_getElem (show k.toNat < l.length by omega)]; rfl
theorem whole_facts {p : R2} (h : okP p) : p.a = Int.gcd p.a p.b * (wholeP p).a ∧ p.b = Int.gcd p.a p.b * (wholeP p).b ∧ Int.gcd (wholeP p).a (wholeP p).b = 1 ∧ okP (wholeP p) := by
  obtain ⟨g1, g2⟩ := gcd_near h
  have e1 : p.a.tdiv (Int.gcd p.a p.b) * Int.gcd p.a p.b = p.a := Int.tdiv_mul_cancel (Int.gcd_dvd_left p.a p.b)
  have e2 : p.b.tdiv (Int.gcd p.a p.b) * Int.gcd p.a p.b = p.b := Int.tdiv_mul_cancel (Int.gcd_dvd_right p.a p.b)
  have q1 := tdiv_rng p.a (Int.gcd p.a p.b)
  have q2 := tdiv_rng p.b (Int.gcd p.a p.b)
  refine ⟨by rw [Int.mul_comm]; exact e1.symm, by rw [Int.mul_comm]; exact e2.symm, ?_, ?_, ?_⟩
  · show Nat.gcd (p.a.tdiv (Int.gcd p.a p.b)).natAbs (p.b.tdiv (Int.gcd p.a p.b)).natAbs = 1
    rw [show (p.a.tdiv (Int.gcd p.a p.b)).natAbs = p.a.natAbs / Int.gcd p.a p.b from Int.natAbs_tdiv _ _, show (p.b.tdiv (Int.gcd p.a p.b)).natAbs = p.b.natAbs / Int.gcd p.a p.b from Int.natAbs_tdiv _ _]
    exact Nat.coprime_div_gcd_div_gcd g1
  · have h1 := h.1
    unfold near at *
    show _ ≤ p.a.tdiv _ ∧ p.a.tdiv _ ≤ _ ∧ _ ≤ p.b.tdiv _ ∧ p.b.tdiv _ ≤ _
    omega
  · intro ⟨z1, z2⟩
    apply h.2
    have z1 : p.a.tdiv (Int.gcd p.a p.b) = 0 := z1
    have z2 : p.b.tdiv (Int.gcd p.a p.b) = 0 := z2
    rw [z1, Int.zero_mul] at e1
    rw [z2, Int.zero_mul] at e2
    exact ⟨e1.symm, e2.symm⟩
theorem det_ne {l : List R2} (hR : RightL l) {i j : Nat} (hij : i < j) (hj : j < l.length) : (l[i]?.getD default).a * (l[j]?.getD default).b - (l[j]?.getD default).a * (l[i]?.getD default).b ≠ 0 := by
  obtain ⟨h1, h2, h3, h4⟩ := hR
  intro h
  apply h4
  obtain ⟨p1, p2⟩ := h3 i (by omega)
  obtain ⟨q1, q2⟩ := h3 j hj
  refine ⟨j, hj, i, hij, p1, q1, (same_iff _ _ _ _).2 ?_⟩
  unfold oneR
  rw [if_neg (fun h => h.elim p2 q2)]
  exact h
theorem wh_right {l : List R2} (hR : RightL l) {o : List Int} (ho : ∀ k ∈ o, 0 ≤ k ∧ k < l.length) : Wh (l.map wholeP) o := by
  have hok : ∀ k ∈ o, okP (l[k.toNat]?.getD default) := fun k hk => hR.2.2.1 _ (by have := ho k hk; omega)
  have hpt : ∀ k ∈ o, ptW (l.map wholeP) k = wholeP (l[k.toNat]?.getD default) := fun k hk => ptW_map l (ho k hk).1 (ho k hk).2
  have hb : ∀ k ∈ o, bezS (ptW (l.map wholeP) k).a (ptW (l.map wholeP) k).b * (ptW (l.map wholeP) k).a + bezT (ptW (l.map wholeP) k).a (ptW (l.map wholeP) k).b * (ptW (l.map wholeP) k).b = 1 ∧ (bezS (ptW (l.map wholeP) k).a (ptW (l.map wholeP) k).b).natAbs + (bezT (ptW (l.map wholeP) k).a (ptW (l.map wholeP) k).b).natAbs ≤ 17 := fun k hk => by
    rw [hpt k hk]
    obtain ⟨_, _, w3, w4⟩ := whole_facts (hok k hk)
    obtain ⟨b1, b2, _⟩ := bez_facts w4.1 w4.2
    rw [w3] at b1
    exact ⟨b1, b2⟩
  refine ⟨fun k hk => by rw [hpt k hk]; exact (whole_facts (hok k hk)).2.2.2.1, fun k hk => by rw [hpt k hk]; exact (whole_facts (hok k hk)).2.2.1, fun k hk => (hb k hk).1, fun k hk => (hb k hk).2, fun k hk i hi hne => ?_⟩
  have hd : ((l[k.toNat]?.getD default).a * (l[i.toNat]?.getD default).b - (l[i.toNat]?.getD default).a * (l[k.toNat]?.getD default).b) ≠ 0 := by
    have h1 := ho k hk
    have h2 := ho i hi
    rcases Nat.lt_or_ge k.toNat i.toNat with h | h
    · exact det_ne hR h (by omega)
    · have := det_ne hR (show i.toNat < k.toNat by omega) (by omega)
      intro h3; apply this; omega
  intro h0
  apply hd
  unfold detC at h0
  rw [hpt k hk, hpt i hi] at h0
  obtain ⟨a1, a2, _⟩ := whole_facts (hok k hk)
  obtain ⟨c1, c2, _⟩ := whole_facts (hok i hi)
  generalize (l[k.toNat]?.getD default) = p at *
  generalize (l[i.toNat]?.getD default) = q at *
  have key : p.a * q.b - q.a * p.b = ((wholeP p).a * (wholeP q).b - (wholeP q).a * (wholeP p).b) * ((Int.gcd p.a p.b : Int) * (Int.gcd q.a q.b : Int)) := by
    rw [Int.sub_mul]
    calc p.a * q.b - q.a * p.b = (Int.gcd p.a p.b * (wholeP p).a) * (Int.gcd q.a q.b * (wholeP q).b) - (Int.gcd q.a q.b * (wholeP q).a) * (Int.gcd p.a p.b * (wholeP p).b) := by rw [← a1, ← a2, ← c1, ← c2]
      _ = _ := by congr 1 <;> ac_rfl
  rw [key, h0, Int.zero_mul]
theorem code_good {l : List R2} {o : List Int} (hR : RightL l) (ho : OrderP o l.length) : Good (3 * l.length + 1) 16384 (tri l.length + (l.length - 1) * uneven l) (codeP l o) := by
  obtain ⟨o1, o2, o3⟩ := ho
  have hl := hR.2.1
  have hw := wh_right hR o2
  have hok : ∀ p ∈ l, okP p := fun p hp => by
    obtain ⟨i, hi, rfl⟩ := List.mem_iff_getElem.1 hp
    have := hR.2.2.1 i hi
    rw [List.getElem?_eq_getElem hi] at this
    exact this
  have h1 := normAll_good (n := l.length) (l.length - 1) l 0 (by omega) hok
  have h2 := awayAll_good (n := l.length) (wh := l.map wholeP) o (by omega) o2 o3 hw
  have h3 := backAll_good (n := l.length) (wh := l.map wholeP) (by omega) o (by omega) o2 hw
  refine (h1.append (h2.append h3)).mono ?_ ?_
  · have : l.length * (l.length - 1) ≤ 15 * 14 := Nat.mul_le_mul (by omega) (by omega)
    omega
  · rw [o1]; omega
theorem made_right {l : List R2} {o : List Int} (hR : RightL l) (ho : OrderP o l.length) : rightP (madeP l o) = true := by
  have hg := code_good hR ho
  have hl := hR.1
  have hl2 := hR.2.1
  refine right_ofS ⟨?_, ?_, ?_, hg.len, ?_, ?_⟩ ?_ hg.fit
  · show (1 : Int) ≤ l.length; omega
  · show (l.length : Int) ≤ 3 * l.length + 1; omega
  · show (3 * l.length + 1 : Int) ≤ 128; omega
  · show 1 ≤ ((List.range l.length).map _).length; rw [List.length_map, List.length_range]; exact hl
  · show ((List.range l.length).map _).length ≤ 128; rw [List.length_map, List.length_range]; omega
  · intro r hr
    obtain ⟨j, hj, rfl⟩ := List.mem_map.1 hr
    have := List.mem_range.1 hj
    show 0 ≤ (l.length : Int) + j ∧ (l.length : Int) + j < 3 * l.length + 1
    omega
end Go.Proofs.YtelbhbbiejalhaaGreat
set_option linter.unusedVariables false
namespace Go.Proofs.YtelbhbbiejalhaaGreat
open Go Go.Sl
/-- code run over numbers -/
def goZ : List Sl.Instr → List Int → Option (List Int)
  | [], rs => some rs
  | i :: l, rs => (doZ i rs).bind fun x => goZ l (rs.set i.to.toNat x)
theorem goZ_snoc (l : List Sl.Instr) (i : Sl.Instr) (rs : List Int) : goZ (l ++ [i]) rs = (goZ l rs).bind fun r => (doZ i r).map fun x => r.set i.to.toNat x := by
  induction l generalizing rs with
  | nil =>
    show (doZ i rs).bind (fun x => some (rs.set i.to.toNat x)) = (doZ i rs).map _
    cases doZ i rs <;> rfl
  | cons j l ih =>
    show (doZ j rs).bind (fun x => goZ (l ++ [i]) (rs.set j.to.toNat x)) = ((doZ j rs).bind fun x => goZ l (rs.set j.to.toNat x)).bind _
    cases doZ j rs with
    | none => rfl
    | some x => exact ih _
theorem stepsZ_goZ (p : PV) (zs : List Int) : ∀ k, k ≤ p.code.length → stepsZ p zs k = goZ (p.code.take k) zs
  | 0, _ => by rw [List.take_zero]; rfl
  | k + 1, hk => by
    have htk : p.code.take (k + 1) = p.code.take k ++ [p.code[((k : Nat) : Int).toNat]?.getD default] := by
      rw [List.take_add_one, Int.toNat_natCast, List.getElem?_eq_getElem (by omega)]; rfl
    rw [htk, goZ_snoc, ← stepsZ_goZ p zs k (by omega)]
    rfl
def Flat (N : Nat) (rs : List (List Int)) : Prop := ∀ r ∈ rs, r.length = N
theorem flat_set {N k : Nat} {rs : List (List Int)} {x : List Int} (h : Flat N rs) (hx : x.length = N) : Flat N (rs.set k x) := fun r hr => by
  rcases List.mem_or_eq_of_mem_set hr with h1 | h1
  · exact h r h1
  · rw [h1]; exact hx
def Ag (R : Int) (σ : Int → Int) (rs : List Int) : Prop := ∀ r, 0 ≤ r → r < R → σ r = rs[r.toNat]?.getD 0
theorem doF_doZ {i : Sl.Instr} {R : Int} {σ : Int → Int} {rs : List Int} (hm : mayOk i R = true) (h : Ag R σ rs) : doF i σ = doZ i rs := by
  obtain ⟨m1, m2, m3, m4, m5⟩ := may_facts hm
  unfold doF doZ
  simp only [h i.a m3.1 m3.2]
  by_cases h34 : i.op = 3 ∨ i.op = 4
  · have := m4 h34
    rw [h i.b this.1 this.2]
  · have h3 : ¬ i.op = 3 := fun e => h34 (.inl e)
    have h4 : ¬ i.op = 4 := fun e => h34 (.inr e)
    simp only [h3, h4, if_false]
theorem ag_set {R : Int} {σ : Int → Int} {rs : List Int} {t x : Int} (h : Ag R σ rs) (hl : (rs.length : Int) = R) (ht : 0 ≤ t ∧ t < R) : Ag R (upd σ t x) (rs.set t.toNat x) := fun r h0 h1 => by
  rw [List.getElem?_set]
  by_cases hr : r = t
  · subst hr
    rw [upd_at, if_pos rfl, if_pos (by omega)]; rfl
  · rw [upd_ne _ _ hr, if_neg (by omega)]; exact h r h0 h1
theorem goZ_runF {R : Int} : ∀ (l : List Sl.Instr) (σ σ' : Int → Int) (rs : List Int), (∀ i ∈ l, mayOk i R = true) → (rs.length : Int) = R → Ag R σ rs → runF l σ = some σ' → ∃ rs', goZ l rs = some rs' ∧ (rs'.length : Int) = R ∧ Ag R σ' rs'
  | [], σ, σ', rs, _, hl, h, he => by cases he; exact ⟨rs, rfl, hl, h⟩
  | i :: l, σ, σ', rs, hm, hl, h, he => by
    have hmi := hm i List.mem_cons_self
    obtain ⟨m1, m2, m3⟩ := may_facts hmi
    obtain ⟨x, hx, he2⟩ := Option.bind_eq_some_iff.1 (show (doF i σ).bind (fun x => runF l (upd σ i.to x)) = some σ' from he)
    obtain ⟨rs', g1, g2, g3⟩ := goZ_runF l (upd σ i.to x) σ' (rs.set i.to.toNat x) (fun j hj => hm j (List.mem_cons_of_mem _ hj)) (by rw [List.length_set]; exact hl) (ag_set h hl m2) he2
    refine ⟨rs', ?_, g2, g3⟩
    show (doZ i rs).bind (fun x => goZ l (rs.set i.to.toNat x)) = some rs'
    rw [← doF_doZ hmi h, hx]
    exact g1
theorem normAll_run (m : Nat) (v : Nat → Int) : ∀ (l : List R2) (k : Nat) (σ : Int → Int), (∀ p ∈ l, Int.gcd p.a p.b ≠ 0) → (∀ i, i < l.length → σ ((k + i : Nat) : Int) = (Int.gcd (l[i]?.getD default).a (l[i]?.getD default).b : Int) ^ m * v (k + i)) →
    ∃ σ', runF (normAll m l k) σ = some σ' ∧ (∀ i, i < l.length → σ' ((k + i : Nat) : Int) = v (k + i)) ∧ ∀ r : Int, r < k → σ' r = σ r
  | [], k, σ, _, _ => ⟨σ, rfl, fun i h => by simp at h, fun _ _ => rfl⟩
  | p :: l, k, σ, hg, h => by
    have h0 := h 0 (by simp)
    obtain ⟨σ', a1, a2, a3⟩ := normAll_run m v l (k + 1) (upd σ (k : Int) (v k)) (fun q hq => hg q (List.mem_cons_of_mem _ hq)) (fun i hi => by
      have := h (i + 1) (by rw [List.length_cons]; omega)
      rw [upd_ne _ _ (by omega), show k + 1 + i = k + (i + 1) by omega]
      exact this)
    refine ⟨σ', runF_seq (over_many (k : Int) (Int.gcd p.a p.b : Int) (by have := hg p List.mem_cons_self; omega) m σ (v k) h0) a1, fun i hi => ?_, fun r hr => ?_⟩
    · cases i with
      | zero =>
        show σ' ((k + 0 : Nat) : Int) = v (k + 0)
        rw [Nat.add_zero, a3 _ (by omega), upd_at]
      | succ i =>
        rw [List.length_cons] at hi
        have := a2 i (by omega)
        rw [show k + 1 + i = k + (i + 1) by omega] at this
        exact this
    · rw [a3 r (by omega), upd_ne _ _ (by omega)]
/-- run on a form's values at the points, the program answers its coefficients -/
theorem made_ans {l : List R2} {o : List Int} {f : List Int} (hR : RightL l) (ho : OrderP o l.length) (hf : f.length = l.length) : ansZ (madeP l o) (l.map fun p => ev f p.a p.b) = some f := by
  have hg := code_good hR ho
  have hw := wh_right hR ho.2.1
  have hl := hR.1
  have hok : ∀ i, i < l.length → okP (l[i]?.getD default) := hR.2.2.1
  have hokm : ∀ p ∈ l, okP p := fun p hp => by
    obtain ⟨i, hi, rfl⟩ := List.mem_iff_getElem.1 hp
    have := hok i hi
    rw [List.getElem?_eq_getElem hi] at this
    exact this
  generalize hrs : regs0Z (madeP l o) (l.map fun p => ev f p.a p.b) = rs
  have hzl : (l.map fun p => ev f p.a p.b).length = l.length := List.length_map _
  have hregs : (madeP l o).regs = 3 * l.length + 1 := rfl
  have hrl : (rs.length : Int) = 3 * l.length + 1 := by
    rw [← hrs]; unfold regs0Z
    rw [List.length_append, List.length_replicate, hzl, hregs]; omega
  have hr0 : ∀ i, i < l.length → rs[i]?.getD 0 = ev f (l[i]?.getD default).a (l[i]?.getD default).b := fun i hi => by
    rw [← hrs]; unfold regs0Z
    rw [List.getElem?_append_left (by rw [hzl]; exact hi), List.getElem?_map, List.getElem?_eq_getElem hi]; rfl
  obtain ⟨c, f', hcf⟩ : ∃ c f', f = c :: f' := by
    cases f with
    | nil => rw [List.length_nil] at hf; omega
    | cons c f' => exact ⟨c, f', rfl⟩
  have hfl : f'.length = l.length - 1 := by rw [hcf, List.length_cons] at hf; omega
  obtain ⟨σ1, a1, a2, a3⟩ := normAll_run (l.length - 1) (fun i => ev f (ptW (l.map wholeP) (i : Int)).a (ptW (l.map wholeP) (i : Int)).b) l 0 (fun r => rs[r.toNat]?.getD 0) (fun p hp => by have := gcd_near (hokm p hp); omega) (fun i hi => by
    simp only [Nat.zero_add]
    rw [Int.toNat_natCast, hr0 i hi, ptW_map l (by omega) (by omega), Int.toNat_natCast]
    obtain ⟨w1, w2, _⟩ := whole_facts (hok i hi)
    have hgp := gcd_near (hok i hi)
    generalize (l[i]?.getD default) = p at *
    have := ev_norm (g := (Int.gcd p.a p.b : Int)) (wholeP p).a (wholeP p).b c f' (by omega)
    rw [← w1, ← w2, hfl, ← hcf] at this
    exact this)
  have hv : ∀ k ∈ o, σ1 k = ev f (ptW (l.map wholeP) k).a (ptW (l.map wholeP) k).b := fun k hk => by
    have h1 := ho.2.1 k hk
    have := a2 k.toNat (by omega)
    simp only [Nat.zero_add] at this
    rw [show ((k.toNat : Nat) : Int) = k by omega] at this
    exact this
  have hol := ho.1
  obtain ⟨σ2, b1, b2, b3⟩ := smith_run (n := l.length) (wh := l.map wholeP) o f σ1 ho.2.2 (by intro e; rw [e, List.length_nil] at hol; omega) ho.2.1 (by omega) (fun k hk => ⟨hw.cop k hk, hw.bez k hk⟩) hw.det (by omega) hv
  obtain ⟨rs', c1, c2, c3⟩ := goZ_runF (codeP l o) (fun r => rs[r.toNat]?.getD 0) σ2 rs hg.fit hrl (fun r _ _ => rfl) (runF_seq a1 b1)
  unfold ansZ
  rw [stepsZ_goZ _ _ _ (Nat.le_refl _), List.take_length, hrs]
  show (goZ (codeP l o) rs).map (outsZ (madeP l o)) = some f
  rw [c1]
  show some (outsZ (madeP l o) rs') = some f
  congr 1
  unfold outsZ madeP
  simp only
  apply List.ext_getElem
  · rw [List.length_map, List.length_map, List.length_range, hf]
  · intro j g1 g2
    rw [List.getElem_map, List.getElem_map, List.getElem_range, ← c3 _ (by omega) (by omega), b2 j g2]
    unfold co
    rw [List.getElem?_eq_getElem g2]; rfl
end Go.Proofs.YtelbhbbiejalhaaGreat
set_option linter.unusedVariables false
namespace Go.Proofs.YtelbhbbiejalhaaGreat
open Go Go.Sl
/-- a number times a, k times, then times b, m times -/
def timesA (a : Int) : Nat → Int → Int
  | 0, t => t
  | k + 1, t => timesA a k t * a
theorem timesA_pow (a : Int) (t : Int) : ∀ k, timesA a k t = t * a ^ k
  | 0 => by show t = t * a ^ 0; rw [Int.pow_zero, Int.mul_one]
  | k + 1 => by
    show timesA a k t * a = _
    rw [timesA_pow a t k, Int.pow_succ, Int.mul_assoc]
/-- the term j of a form's value -/
def termV (f : List Int) (a b : Int) (j : Nat) : Int := timesA b (f.length - 1 - j) (timesA a j (f[j]?.getD 0))
theorem termV_eq (f : List Int) (a b : Int) (j : Nat) : termV f a b j = f[j]?.getD 0 * (a ^ j * b ^ (f.length - 1 - j)) := by
  unfold termV
  rw [timesA_pow, timesA_pow, Int.mul_assoc]
/-- .. and the terms ahead of j together -/
def valTo (f : List Int) (a b : Int) : Nat → Int
  | 0 => 0
  | j + 1 => valTo f a b j + termV f a b j
theorem valTo_cons (c : Int) (f : List Int) (a b : Int) : ∀ j, valTo (c :: f) a b (j + 1) = c * b ^ f.length + a * valTo f a b j
  | 0 => by
    show 0 + termV (c :: f) a b 0 = c * b ^ f.length + a * 0
    rw [termV_eq, Int.zero_add, Int.mul_zero, Int.add_zero, Int.pow_zero, Int.one_mul]
    rfl
  | j + 1 => by
    show valTo (c :: f) a b (j + 1) + termV (c :: f) a b (j + 1) = c * b ^ f.length + a * (valTo f a b j + termV f a b j)
    rw [valTo_cons c f a b j, termV_eq, termV_eq, Int.mul_add, Int.add_assoc]
    congr 2
    show f[j]?.getD 0 * (a ^ (j + 1) * b ^ (f.length + 1 - 1 - (j + 1))) = a * (f[j]?.getD 0 * (a ^ j * b ^ (f.length - 1 - j)))
    rw [Int.pow_succ, show f.length + 1 - 1 - (j + 1) = f.length - 1 - j by omega]
    ac_rfl
theorem valTo_all (a b : Int) : ∀ f : List Int, valTo f a b f.length = ev f a b
  | [] => rfl
  | c :: f => by
    rw [List.length_cons, valTo_cons, valTo_all a b f]
    rfl
/-- one coefficient more -/
theorem ev_set (a b x : Int) : ∀ (w : List Int) (k : Nat), k < w.length → ev (w.set k (w[k]?.getD 0 + x)) a b = ev w a b + x * (a ^ k * b ^ (w.length - 1 - k))
  | c :: f, 0, _ => by
    show (c + x) * b ^ f.length + a * ev f a b = (c * b ^ f.length + a * ev f a b) + x * (a ^ 0 * b ^ f.length)
    rw [Int.pow_zero, Int.one_mul, Int.add_mul]
    omega
  | c :: f, k + 1, h => by
    have h' : k < f.length := by simpa using h
    show c * b ^ (f.set k (f[k]?.getD 0 + x)).length + a * ev (f.set k (f[k]?.getD 0 + x)) a b = (c * b ^ f.length + a * ev f a b) + x * (a ^ (k + 1) * b ^ (f.length + 1 - 1 - (k + 1)))
    rw [ev_set a b x f k h', List.length_set, Int.pow_succ, show f.length + 1 - 1 - (k + 1) = f.length - 1 - k by omega, Int.mul_add, Int.add_assoc]
    congr 2
    ac_rfl
/-- a product's coefficients, reckoned by two loops: the terms of i up to j -/
def rowTo (xs ys : List Int) (i : Nat) (w : List Int) : Nat → List Int
  | 0 => w
  | j + 1 => (rowTo xs ys i w j).set (i + j) ((rowTo xs ys i w j)[i + j]?.getD 0 + xs[i]?.getD 0 * ys[j]?.getD 0)
theorem rowTo_len (xs ys : List Int) (i : Nat) (w : List Int) : ∀ j, (rowTo xs ys i w j).length = w.length
  | 0 => rfl
  | j + 1 => by
    show (List.set _ _ _).length = _
    rw [List.length_set, rowTo_len xs ys i w j]
def prodTo (xs ys : List Int) (n : Nat) : Nat → List Int
  | 0 => List.replicate n 0
  | i + 1 => rowTo xs ys i (prodTo xs ys n i) ys.length
theorem prodTo_len (xs ys : List Int) (n : Nat) : ∀ i, (prodTo xs ys n i).length = n
  | 0 => List.length_replicate
  | i + 1 => by
    show (rowTo _ _ _ _ _).length = _
    rw [rowTo_len, prodTo_len xs ys n i]
theorem rowTo_ev {xs ys w : List Int} {i : Nat} (a b : Int) (hi : i < xs.length) (hn : xs.length + ys.length = w.length + 1) : ∀ j, j ≤ ys.length → ev (rowTo xs ys i w j) a b = ev w a b + termV xs a b i * valTo ys a b j
  | 0, _ => by
    show ev w a b = ev w a b + termV xs a b i * 0
    rw [Int.mul_zero, Int.add_zero]
  | j + 1, hj => by
    show ev ((rowTo xs ys i w j).set (i + j) ((rowTo xs ys i w j)[i + j]?.getD 0 + xs[i]?.getD 0 * ys[j]?.getD 0)) a b = ev w a b + termV xs a b i * (valTo ys a b j + termV ys a b j)
    rw [ev_set a b _ _ _ (by rw [rowTo_len]; omega), rowTo_ev a b hi hn j (by omega), rowTo_len, Int.mul_add, Int.add_assoc]
    congr 2
    rw [termV_eq, termV_eq, Int.pow_add, show w.length - 1 - (i + j) = (xs.length - 1 - i) + (ys.length - 1 - j) by omega, Int.pow_add]
    ac_rfl
theorem prodTo_ev {xs ys : List Int} {n : Nat} (a b : Int) (hn : xs.length + ys.length = n + 1) : ∀ i, i ≤ xs.length → ev (prodTo xs ys n i) a b = valTo xs a b i * ev ys a b
  | 0, _ => by
    show ev (List.replicate n 0) a b = 0 * ev ys a b
    rw [ev_zeros, Int.zero_mul]
  | i + 1, hi => by
    show ev (rowTo xs ys i (prodTo xs ys n i) ys.length) a b = (valTo xs a b i + termV xs a b i) * ev ys a b
    rw [rowTo_ev a b (by omega) (by rw [prodTo_len]; exact hn) _ (Nat.le_refl _), prodTo_ev a b hn i (by omega), valTo_all, Int.add_mul]
/-- the value of the product's coefficients is the product of the values -/
theorem prod_ev {xs ys : List Int} {n : Nat} (a b : Int) (hn : xs.length + ys.length = n + 1) : ev (prodTo xs ys n xs.length) a b = ev xs a b * ev ys a b := by
  rw [prodTo_ev a b hn _ (Nat.le_refl _), valTo_all]
/-- the schemes' program makes the product's coefficients of products of values -/
theorem made_prod {l : List R2} {o : List Int} {xs ys : List Int} (hR : RightL l) (ho : OrderP o l.length) (hn : xs.length + ys.length = l.length + 1) : ansZ (madeP l o) (l.map fun p => ev xs p.a p.b * ev ys p.a p.b) = some (prodTo xs ys l.length xs.length) := by
  have e : (l.map fun p => ev xs p.a p.b * ev ys p.a p.b) = l.map fun p => ev (prodTo xs ys l.length xs.length) p.a p.b := List.map_congr_left fun p _ => (prod_ev p.a p.b hn).symm
  rw [e]
  exact made_ans hR ho (prodTo_len _ _ _ _)
theorem timesA_abs {a : Int} (ha : a.natAbs ≤ 16) (t : Int) : ∀ k, (timesA a k t).natAbs ≤ t.natAbs * 16 ^ k
  | 0 => by rw [Nat.pow_zero, Nat.mul_one]; exact Nat.le_refl _
  | k + 1 => by
    show (timesA a k t * a).natAbs ≤ _
    rw [Int.natAbs_mul, Nat.pow_succ, ← Nat.mul_assoc]
    exact Nat.mul_le_mul (timesA_abs ha t k) ha
theorem pow16 {k m : Nat} (h : k ≤ m) : 16 ^ k ≤ 16 ^ m := Nat.pow_le_pow_right (by decide) h
/-- a term on its way: c times a, k times, then times b, m times -/
theorem term_abs {a b c : Int} {k m : Nat} (ha : a.natAbs ≤ 16) (hb : b.natAbs ≤ 16) (hc : c.natAbs ≤ 9223372036854775808) (hkm : k + m ≤ 14) : (timesA b m (timesA a k c)).natAbs ≤ 9223372036854775808 * 16 ^ 14 := by
  refine Nat.le_trans (timesA_abs hb _ m) ?_
  refine Nat.le_trans (Nat.mul_le_mul_right _ (timesA_abs ha c k)) ?_
  rw [Nat.mul_assoc, ← Nat.pow_add]
  exact Nat.mul_le_mul hc (pow16 hkm)
theorem valTo_abs {f : List Int} {a b : Int} (ha : a.natAbs ≤ 16) (hb : b.natAbs ≤ 16) (hf : ∀ z ∈ f, z.natAbs ≤ 9223372036854775808) (hl : f.length ≤ 15) : ∀ j, j ≤ f.length → (valTo f a b j).natAbs ≤ j * (9223372036854775808 * 16 ^ 14)
  | 0, _ => by rw [Nat.zero_mul]; exact Nat.le_refl _
  | j + 1, hj => by
    have h1 := valTo_abs ha hb hf hl j (by omega)
    have h2 : (termV f a b j).natAbs ≤ 9223372036854775808 * 16 ^ 14 := term_abs ha hb (by rw [List.getElem?_eq_getElem (by omega)]; exact hf _ (List.getElem_mem _)) (by omega)
    show (valTo f a b j + termV f a b j).natAbs ≤ _
    rw [Nat.succ_mul]
    exact Nat.le_trans (Int.natAbs_add_le _ _) (Nat.add_le_add h1 h2)
theorem ev_abs {f : List Int} {a b : Int} (ha : a.natAbs ≤ 16) (hb : b.natAbs ≤ 16) (hf : ∀ z ∈ f, z.natAbs ≤ 9223372036854775808) (hl : f.length ≤ 15) : (ev f a b).natAbs ≤ 15 * (9223372036854775808 * 16 ^ 14) := by
  rw [← valTo_all]
  exact Nat.le_trans (valTo_abs ha hb hf hl _ (Nat.le_refl _)) (Nat.mul_le_mul_right _ hl)
theorem rowTo_abs {xs ys w : List Int} {i : Nat} {M : Nat} (hx : ∀ z ∈ xs, z.natAbs ≤ 9223372036854775808) (hy : ∀ z ∈ ys, z.natAbs ≤ 9223372036854775808) (hi : i < xs.length) (hw : ∀ k : Nat, (w[k]?.getD 0).natAbs ≤ M) : ∀ j, j ≤ ys.length → ∀ k : Nat, ((rowTo xs ys i w j)[k]?.getD 0).natAbs ≤ M + 9223372036854775808 * 9223372036854775808 ∧ (i + j ≤ k → ((rowTo xs ys i w j)[k]?.getD 0).natAbs ≤ M)
  | 0, _, k => ⟨Nat.le_trans (hw k) (Nat.le_add_right _ _), fun _ => hw k⟩
  | j + 1, hj, k => by
    have ih := rowTo_abs hx hy hi hw j (by omega)
    have e1 : (xs[i]?.getD 0).natAbs ≤ 9223372036854775808 := by rw [List.getElem?_eq_getElem (by omega)]; exact hx _ (List.getElem_mem _)
    have e2 : (ys[j]?.getD 0).natAbs ≤ 9223372036854775808 := by rw [List.getElem?_eq_getElem (by omega)]; exact hy _ (List.getElem_mem _)
    have e3 : (xs[i]?.getD 0 * ys[j]?.getD 0).natAbs ≤ 9223372036854775808 * 9223372036854775808 := by rw [Int.natAbs_mul]; exact Nat.mul_le_mul e1 e2
    have e4 := (ih (i + j)).2 (Nat.le_refl _)
    have hset : (rowTo xs ys i w (j + 1))[k]?.getD 0 = if i + j = k ∧ k < (rowTo xs ys i w j).length then (rowTo xs ys i w j)[i + j]?.getD 0 + xs[i]?.getD 0 * ys[j]?.getD 0 else (rowTo xs ys i w j)[k]?.getD 0 := by
      show ((rowTo xs ys i w j).set (i + j) _)[k]?.getD 0 = _
      rw [List.getElem?_set]
      by_cases h : i + j = k
      · subst h
        by_cases h2 : i + j < (rowTo xs ys i w j).length
        · simp only [h2, and_self, if_true]; rfl
        · simp only [h2, and_false, if_false, if_true]
          rw [List.getElem?_eq_none (by omega)]
      · simp only [h, false_and, if_false]
    rw [hset]
    split
    · rename_i h
      exact ⟨Nat.le_trans (Int.natAbs_add_le _ _) (Nat.add_le_add e4 e3), fun h9 => by omega⟩
    · exact ⟨(ih k).1, fun h9 => (ih k).2 (by omega)⟩
theorem prodTo_abs {xs ys : List Int} {n : Nat} (hx : ∀ z ∈ xs, z.natAbs ≤ 9223372036854775808) (hy : ∀ z ∈ ys, z.natAbs ≤ 9223372036854775808) : ∀ i, i ≤ xs.length → ∀ k : Nat, ((prodTo xs ys n i)[k]?.getD 0).natAbs ≤ i * (9223372036854775808 * 9223372036854775808)
  | 0, _, k => by
    show ((List.replicate n (0 : Int))[k]?.getD 0).natAbs ≤ _
    rw [List.getElem?_replicate]
    split <;> simp
  | i + 1, hi, k => by
    have := (rowTo_abs hx hy (w := prodTo xs ys n i) (i := i) (by omega) (prodTo_abs hx hy i (by omega)) ys.length (Nat.le_refl _) k).1
    rw [Nat.succ_mul]
    exact this
end Go.Proofs.YtelbhbbiejalhaaGreat
set_option linter.unusedVariables false
namespace Go.Sl
open Go
section
variable {P : Program} {B : Bs} {e : Env} {D : List Deferred} {H H' : Hp} {G : Imm}
end
/-- two blocks ahead of others -/
abbrev Hp.two (x y : Option Nat × Obj) (T : Hp) : Hp := (0, x) :: (1, y) :: T.shift 2
section
variable {P : Program} {ops : Array Oper} {rest : List Oper} {B : Bs} {e : Env} {D : List Deferred} {H : Hp} {G : Imm} {K : Act → World → Prop}
  {ty : TypeId} {pos : String} {after : Array Edge} {d : Nat}
end
section
variable {P : Program} {B : Bs} {e : Env} {D : List Deferred} {H : Hp} {G : Imm}
theorem Ar.againGT {ι : Type} {I : ι → Env × Hp} {T : ι → Hp} {g : ι → Imm} {k : Nat} {φ : ι → Prop} {μ : ι → Nat} {m : Nat} {Q : Exit → Act → World → Prop} (j : ι) (hφ : φ j) (hμ : μ j < m) (hg : G = g j)
    (he : e.sub (I j).1) (hH : H.sub (I j).2) (ht : H.tl k (T j)) : Ar (Exit.then (Again B (fun i => ⟨(I i).1, D, (I i).2 ++ (T i).shift k, g i⟩) φ μ m) Q) .normal B ⟨e, D, H, G⟩ :=
  fun a w hh => ⟨j, hφ, hμ, by rw [hg] at hh; exact hh.cutT he hH ht⟩
end
section stmt
variable {P : Program} {B : Bs} {e : Env} {D : List Deferred} {H : Hp} {G : Imm}
variable {β γ ι : Type} {Q : Exit → Act → World → Prop} {f : FuncId} {caps : List Value} {enc : β → γ → List Value} {o1 o2 : β → γ → Option Nat × Obj} {good : β → γ → Prop} {xs : List β} {ps : List Nat} {assign body : Code} {g : Operand}
end stmt
section
variable {P : Program} {e : Env} {H : Hp} {G : Imm} {ty : TypeId}
end
end Go.Sl
set_option maxRecDepth 100000
set_option linter.unusedVariables false
namespace Go.Proofs.YtelbhbbiejalhaaGreat
open Go Go.Sl
set_option maxHeartbeats 4000000
theorem c87 (G : Imm) (b : Nat) (n m : Int) (sv wv : Value) (hn : 0 ≤ n ∧ n ≤ 1000) (hm : 0 ≤ m ∧ m ≤ 1000) :
    Does Tryz.prog 87 [.pointer (some ⟨b, 0, none⟩), .int .i64 m] G [(0, some b, .cells #[.int .i64 n, sv, wv] 139)] (fun v G' Ho => v = .int .i64 (n + m) ∧ G' = G ∧ Ho = [(0, some b, .cells #[.int .i64 n, sv, wv] 139)]) := by
  refine Does.enter Tryz.func87 rfl Tryz.ntmps87 rfl (fun w => ?_)
  refine Wc.ga 17 [0] ?_
  refine Ar.out1 (.inr rfl) (Ho := [(0, some b, .cells #[.int .i64 n, sv, wv] 139)]) rfl (.tmp rfl) ⟨rfl, trivial⟩ ?_
  exact ⟨rfl, rfl, rfl⟩
theorem c123 (G : Imm) (b : Nat) (n m : Int) (sv wv : Value) (hn : 0 ≤ n ∧ n ≤ 1000) (hm : 0 ≤ m ∧ m ≤ 1000) :
    Does Tryz.prog 123 [.pointer (some ⟨b, 0, none⟩), .int .i64 m] G [(0, some b, .cells #[.int .i64 n, sv, wv] 139)] (fun v G' Ho => v = .int .i64 (2 * n + m) ∧ G' = G ∧ Ho = [(0, some b, .cells #[.int .i64 n, sv, wv] 139)]) := by
  refine Does.enter Tryz.func123 rfl Tryz.ntmps123 rfl (fun w => ?_)
  refine Wc.gl 11 [0] ?_
  refine Wl.q rfl (Qy.mul rfl rfl (by omega)) ?_
  refine Wl.ga 6 [] ?_
  refine Ar.out1 (.inr rfl) (Ho := [(0, some b, .cells #[.int .i64 n, sv, wv] 139)]) rfl (.tmp rfl) ⟨rfl, trivial⟩ ?_
  exact ⟨rfl, rfl, rfl⟩
theorem c121 (G : Imm) (b : Nat) (n : Int) (sv wv : Value) (hn : 0 ≤ n ∧ n ≤ 1000) :
    Does Tryz.prog 121 [.pointer (some ⟨b, 0, none⟩)] G [(0, some b, .cells #[.int .i64 n, sv, wv] 139)] (fun v G' Ho => v = .int .i64 (3 * n) ∧ G' = G ∧ Ho = [(0, some b, .cells #[.int .i64 n, sv, wv] 139)]) := by
  refine Does.enter Tryz.func121 rfl Tryz.ntmps121 rfl (fun w => ?_)
  refine Wc.gl 11 [0] ?_
  refine Wl.q rfl (Qy.mul rfl rfl (by omega)) ?_
  refine Wl.ga 4 [] ?_
  refine Ar.out1 (.inr rfl) (Ho := [(0, some b, .cells #[.int .i64 n, sv, wv] 139)]) rfl (.tmp rfl) ⟨rfl, trivial⟩ ?_
  exact ⟨rfl, rfl, rfl⟩
end Go.Proofs.YtelbhbbiejalhaaGreat
set_option maxRecDepth 100000
set_option linter.unusedVariables false
namespace Go.Proofs.YtelbhbbiejalhaaGreat
open Go Go.Sl
set_option maxHeartbeats 4000000
theorem c120 (G : Imm) (b : Nat) (n : Int) (ac : Option Addr) (cc : Nat) (code : List Sl.Instr) (j : List Value) (wa : Option Addr) (wn wc : Nat) (to x c : Int) (e : Nat) (ho : OwnA ac cc code j) (hl : (code ++ powI to x c e).length ≤ 1048576) (hc : -512 ≤ c ∧ c ≤ 512) (he : e ≤ 1000) :
    Does Tryz.prog 120 [.pointer (some ⟨b, 0, none⟩), .int .i64 to, .int .i64 x, .int .i64 c, .int .i64 e] G [(0, some b, .cells #[.int .i64 n, .slice ac code.length cc, .slice wa wn wc] 139), (1, ac.map (·.block), Row 50 code j)]
      (fun v G' Ho => v = .tuple #[] ∧ G' = G ∧ ∃ (a' : Option Addr) (c' : Nat) (j' : List Value), OwnA a' c' (code ++ powI to x c e) j' ∧ Ho = [(0, some b, .cells #[.int .i64 n, .slice a' (code ++ powI to x c e).length c', .slice wa wn wc] 139), (1, a'.map (·.block), Row 50 (code ++ powI to x c e) j')]) := by
  have hl0 : code.length ≤ 1048576 := by rw [List.length_append] at hl; omega
  refine Does.enter Tryz.func120 rfl Tryz.ntmps120 rfl (fun w => ?_)
  refine Wc.gl 6 [] ?_
  apply Wl.joinAnd 3 14 17 rfl
  intro hg1
  refine Wl.ll0 5 [] ?_
  exact Wl.back 3 0 rfl rfl rfl rfl rfl
  intro hg1
  refine Wl.ll0 3 [] ?_
  exact Wl.back 3 0 rfl rfl rfl rfl rfl
  refine Wl.q rfl (Qy.move rfl) ?_
  apply Wl.joinOr 3 18 21 rfl
  intro hg1
  refine Wl.ll0 5 [] ?_
  exact Wl.back 3 0 rfl rfl rfl rfl rfl
  intro hg1
  refine Wl.ll0 3 [] ?_
  exact Wl.back 3 0 rfl rfl rfl rfl rfl
  refine Wl.q rfl (Qy.move rfl) ?_
  apply Wl.joinOr 3 22 25 rfl
  intro hg1
  refine Wl.ll0 5 [] ?_
  exact Wl.back 3 0 rfl rfl rfl rfl rfl
  intro hg1
  refine Wl.ll0 3 [] ?_
  exact Wl.back 3 0 rfl rfl rfl rfl rfl
  refine Wl.gc 2 [] ?_
  refine Wc.cond rfl (fun hc1 => ?_) (fun hc1 => ?_)
  refine Wc.gl 6 [] ?_
  apply Wl.joinAnd 4 28 32 rfl
  intro hg1
  refine Wl.ll0 3 [] ?_
  refine Wl.q rfl (Qy.urem rfl rfl (by omega)) ?_
  refine Wl.ll0 3 [] ?_
  exact Wl.back 4 0 rfl rfl rfl rfl rfl
  intro hg1
  refine Wl.ll0 4 [] ?_
  exact Wl.back 4 0 rfl rfl rfl rfl rfl
  refine Wl.gc 2 [] ?_
  refine Wc.cond rfl (fun hc2 => ?_) (fun hc2 => ?_)
  refine Wc.gl 10 [] ?_
  refine Wl.call 0 rfl T.fn86 rfl (c86 _ b n ac cc code j wa wn wc _ _ _ ho hl0) (tags_of ⟨rfl, rfl, trivial⟩) (fun v1 G1 Ho1 hle1 hp => ?_)
  obtain ⟨rfl, rfl, a1, d1, j1, ho1, rfl⟩ := hp
  refine Wl.ga 4 [] ?_
  rotate_left
  refine Wc.gl 8 [] ?_
  refine Wl.call 0 rfl T.fn86 rfl (c86 _ b n ac cc code j wa wn wc _ _ _ ho hl0) (tags_of ⟨rfl, rfl, trivial⟩) (fun v1 G1 Ho1 hle1 hp => ?_)
  obtain ⟨rfl, rfl, a1, d1, j1, ho1, rfl⟩ := hp
  refine Wl.ga 4 [] ?_
  rotate_left
  refine Wc.gc 17 [] ?_
  rotate_left
  · have e1 : powI to x c e = timesI to x 1 := by unfold powI; rw [if_pos (by omega), if_pos (by omega)]
    rw [e1]
    refine Ar.out0 (by first | exact .inl rfl | exact .inr rfl) (Ho := [(0, some b, .cells #[.int .i64 n, .slice a1 (code ++ timesI to x 1).length d1, .slice wa wn wc] 139), (1, a1.map (·.block), Row 50 (code ++ timesI to x 1) j1)]) rfl ⟨rfl, rfl, trivial⟩ ?_
    exact ⟨rfl, rfl, a1, d1, j1, ho1, rfl⟩
  · have e1 : powI to x c e = timesI to x c := by unfold powI; rw [if_pos (by omega), if_neg (by omega)]
    rw [e1]
    refine Ar.out0 (by first | exact .inl rfl | exact .inr rfl) (Ho := [(0, some b, .cells #[.int .i64 n, .slice a1 (code ++ timesI to x c).length d1, .slice wa wn wc] 139), (1, a1.map (·.block), Row 50 (code ++ timesI to x c) j1)]) rfl ⟨rfl, rfl, trivial⟩ ?_
    exact ⟨rfl, rfl, a1, d1, j1, ho1, rfl⟩
  · have hT0 : code ++ powL to c x 1 e = code ++ powI to x c e := by unfold powI; rw [if_neg (by omega)]
    generalize code ++ powI to x c e = Tg at *
    refine Wc.loop (ι := Nat × Int × Int × List Sl.Instr × (Option Addr × Nat × List Value)) (fun (t, fr, k, cd, (o, d, q)) => ([(40, .int .i64 (t : Int)), (11, .int .i64 k), (10, .int .i64 fr), (39, Go.Value.int Go.IntKind.i64 (↑e : Int)), (0, Go.Value.pointer (Option.some (Go.Addr.mk b 0 Option.none))), (1, Go.Value.int Go.IntKind.i64 to), (3, Go.Value.int Go.IntKind.i64 c)], [(0, some b, .cells #[.int .i64 n, .slice o cd.length d, .slice wa wn wc] 139), (1, o.map (·.block), Row 50 cd q)])) (fun (t, fr, k, cd, (o, d, q)) => t ≤ e ∧ (-512 ≤ k ∧ k ≤ 512) ∧ cd ++ powL to c fr k (e - t) = Tg ∧ OwnA o d cd q) (fun (t, fr, k, cd, (o, d, q)) => e - t) ((0, x, 1, code, (ac, cc, j))) (⟨Nat.zero_le _, by omega, hT0, ho⟩) ⟨rfl, rfl, rfl, rfl, rfl, rfl, rfl, trivial⟩ ⟨rfl, rfl, trivial⟩ (fun ⟨t, fr, k, cd, (o, d, q)⟩ => fun (hk : t ≤ e ∧ (-512 ≤ k ∧ k ≤ 512) ∧ cd ++ powL to c fr k (e - t) = Tg ∧ OwnA o d cd q) => ?_)
    obtain ⟨ht1, ht2, ht3, ht4⟩ := hk
    have htl : cd.length ≤ 1048576 := by rw [← ht3, List.length_append] at hl; omega
    have hkc : (k * c).natAbs ≤ 512 * 512 := by rw [Int.natAbs_mul]; exact Nat.mul_le_mul (by omega) (by omega)
    have hkc2 : -9223372036854775808 ≤ k * c ∧ k * c ≤ 9223372036854775807 := by omega
    have hkc3 : -9223372036854775808 ≤ 1 * c ∧ 1 * c ≤ 9223372036854775807 := by omega
    rcases Nat.lt_or_ge t e with hte | hte
    · have e2 : e - t = (e - (t + 1)) + 1 := by omega
      rw [e2] at ht3
      unfold powL at ht3
      refine Wc.gl 16 [1] ?_
      refine Wl.q rfl (Qy.mul rfl rfl (by omega)) ?_
      refine Wl.ll0 2 [] ?_
      apply Wl.joinOr 5 46 51 rfl
      intro hg1
      refine Wl.ll0 5 [] ?_
      refine Wl.q rfl (Qy.mul rfl rfl (by omega)) ?_
      refine Wl.ll0 3 [] ?_
      exact Wl.back 5 0 rfl rfl rfl rfl rfl
      intro hg1
      refine Wl.ll0 5 [] ?_
      exact Wl.back 5 0 rfl rfl rfl rfl rfl
      refine Wl.gc 2 [] ?_
      refine Wc.cond rfl (fun hc2 => ?_) (fun hc2 => ?_)
      refine Wc.gl 6 [] ?_
      refine Wl.call 0 rfl T.fn86 rfl (c86 _ b n o d cd q wa wn wc _ _ _ ht4 htl) (tags_of ⟨rfl, rfl, trivial⟩) (fun v1 G1 Ho1 hle1 hp => ?_)
      obtain ⟨rfl, rfl, a1, d1, j1, ho1, rfl⟩ := hp
      refine Wl.gl 11 [] ?_
      refine Wl.q rfl (Qy.mul rfl rfl (by omega)) ?_
      refine Wl.ga 8 [] ?_
      rotate_left
      refine Wc.gl 5 [] ?_
      refine Wl.q rfl (Qy.mul rfl rfl (by omega)) ?_
      refine Wl.ga 8 [] ?_
      rotate_left
      · refine Ar.re 40 rfl (show _ = Value.int .i64 ((t + 1 : Nat) : Int) from rfl) ?_
        refine Ar.re 11 rfl (show _ = Value.int .i64 c by rw [Int.one_mul]) ?_
        refine Ar.again ((t + 1, to, c, cd ++ timesI to fr k, (a1, d1, j1))) ?_ ?_ rfl ⟨rfl, rfl, rfl, rfl, rfl, rfl, rfl, trivial⟩ ⟨rfl, rfl, trivial⟩
        · rw [if_pos hc2, ← List.append_assoc] at ht3
          exact ⟨hte, hc, ht3, ho1⟩
        · show e - (t + 1) < e - t
          omega
      · refine Ar.re 40 rfl (show _ = Value.int .i64 ((t + 1 : Nat) : Int) from rfl) ?_
        refine Ar.again ((t + 1, fr, k * c, cd, (o, d, q))) ?_ ?_ rfl ⟨rfl, rfl, rfl, rfl, rfl, rfl, rfl, trivial⟩ ⟨rfl, rfl, trivial⟩
        · rw [if_neg hc2] at ht3
          exact ⟨hte, by omega, ht3, ht4⟩
        · show e - (t + 1) < e - t
          omega
    · have hte : t = e := by omega
      subst hte
      rw [Nat.sub_self] at ht3
      have ht3 : cd ++ timesI to fr k = Tg := ht3
      subst ht3
      refine Wc.gl 17 [0] ?_
      refine Wl.call 0 rfl T.fn86 rfl (c86 _ b n o d cd q wa wn wc _ _ _ ht4 htl) (tags_of ⟨rfl, rfl, trivial⟩) (fun v1 G1 Ho1 hle1 hp => ?_)
      obtain ⟨rfl, rfl, a1, d1, j1, ho1, rfl⟩ := hp
      refine Wl.done ?_
      refine Ar.out0 (by first | exact .inl rfl | exact .inr rfl) (Ho := [(0, some b, .cells #[.int .i64 n, .slice a1 (cd ++ timesI to fr k).length d1, .slice wa wn wc] 139), (1, a1.map (·.block), Row 50 (cd ++ timesI to fr k) j1)]) rfl ⟨rfl, rfl, trivial⟩ ?_
      exact ⟨rfl, rfl, a1, d1, j1, ho1, rfl⟩
end Go.Proofs.YtelbhbbiejalhaaGreat
set_option maxRecDepth 100000
set_option linter.unusedVariables false
namespace Go.Proofs.YtelbhbbiejalhaaGreat
open Go Go.Sl
section
variable {P : Program} {e : Env} {H : Hp} {G : Imm}
theorem Qy.indexLit {ty : TypeId} {T et : TypeId} {len i : Nat} {x y : Operand} {cs : List Value} {v : Value} (hT : P.underlying T = some (.array len et)) (h1 : P.plainKey et = true) (hs : (P.info? et).map (·.size) = some 1)
    (hx : e.ev x = some (.agg cs.toArray)) (hy : e.ev y = some (.int .i64 (i : Int))) (hi : i < len) (hv : cs[i]? = some v) : Qy P (.index T x y) ty e H G v := fun a w _ _ _ _ hh => by
  have hp : (part et cs.toArray i).run P w = .ok v w := by
    unfold Program.plainKey at h1
    cases hu : P.underlying et with
    | none => simp [hu] at h1
    | some d => cases d <;> simp [hu] at h1 <;> simp [part, isAgg, run_underlying hu, hv, Result.andThen]
  have hsz := Go.Sl.run_sizeOf (P := P) w hs
  have h2 : (0 : Int) ≤ (i : Int) ∧ (i : Int) < (len : Int) := by omega
  simp only [execOp, hh.eval hx, hh.eval hy, Instr.index, asIntOf, Sem.run_bind, Sem.run_pure, Result.andThen_ok, run_underlying hT]
  rw [if_pos h2]
  simp only [Sem.run_bind, hsz, Result.andThen_ok, Int.toNat_natCast, Nat.mul_one, hp, Sem.run_pure]
end
theorem und201 : Tryz.prog.underlying 166 = some (.array 2 3) := by kernel_rfl
theorem pkey3 : Tryz.prog.plainKey 3 = true := by kernel_rfl
theorem siz3 : (Tryz.prog.info? 3).map (·.size) = some 1 := by kernel_rfl
theorem bez_first (a b : Int) : ∀ (n k j : Nat), k ≤ j → j < bezF a b n k → hitB a b (j : Int) = false ∧ hitB a b (-(j : Int)) = false
  | 0, k, j, h1, h2 => by unfold bezF at h2; omega
  | n + 1, k, j, h1, h2 => by
    unfold bezF at h2
    split at h2
    · omega
    · rename_i hh
      by_cases hjk : j = k
      · subst hjk
        cases h3 : hitB a b (j : Int) <;> cases h4 : hitB a b (-(j : Int)) <;> simp [h3, h4] at hh ⊢
      · exact bez_first a b n (k + 1) j (by omega) h2
set_option maxHeartbeats 4000000
theorem c83 (G : Imm) (x y : Int) (hn : near x y) (h0 : ¬ (x = 0 ∧ y = 0)) :
    Does Tryz.prog 83 [.agg #[.int .i64 x, .int .i64 y]] G [] (fun v G' Ho => v = .tuple #[.int .i64 (Int.gcd x y), .int .i64 (bezS x y), .int .i64 (bezT x y), .int .i64 0] ∧ G' = G ∧ Ho = []) := by
  have hn2 := hn
  unfold near at hn2
  refine Does.enter Tryz.func83 rfl Tryz.ntmps83 rfl (fun w => ?_)
  obtain ⟨hb1, hb2, hb3, hb4⟩ := bez_facts hn h0
  have q1 := tdiv_rng x (Int.gcd x y)
  have hg0 : 0 < Int.gcd x y := Nat.pos_of_ne_zero fun h1 => h0 (Int.gcd_eq_zero_iff.mp h1)
  have hg16 : Int.gcd x y ≤ 16 := by
    by_cases ha : x = 0
    · have := Nat.le_of_dvd (by omega) (show Int.gcd x y ∣ y.natAbs from Nat.gcd_dvd_right _ _)
      omega
    · have := Nat.le_of_dvd (by omega) (show Int.gcd x y ∣ x.natAbs from Nat.gcd_dvd_left _ _)
      omega
  refine Wc.gl 2 [] ?_
  refine Wl.box 0 rfl rfl rfl (fun b1 => ?_)
  refine Wl.gl 12 [0, 0] ?_
  refine Wl.call0 rfl T.fn117 rfl (c117 _ _ _ (by omega) (by omega)) ?_
  refine Wl.gl 8 [0] ?_
  refine Wl.call0 rfl T.fn47 rfl (c47 _ _ _) ?_
  refine Wl.q rfl (Qy.notD rfl) ?_
  refine Wl.gc 3 [] ?_
  refine Wc.cond rfl (fun hc1 => ?_) (fun hc1 => ?_)
  refine Wc.ga 11 [] ?_
  refine Ar.out4 (.inr rfl) (Ho := Hp.only _ []) rfl (.tmp rfl) (.tmp rfl) (.tmp rfl) (.tmp rfl) (Hp.sub_only _ _) ?_
  rotate_left
  refine Wc.gc 16 [0, 0] ?_
  refine Wc.cond rfl (fun hc2 => ?_) (fun hc2 => ?_)
  refine Wc.seq ?_
  refine Wc.draw [0] [] T.mixed rfl ?_
  refine Gm.q 0 [] (by kernel_rfl) rfl rfl (Qy.move rfl) ?_
  refine Gm.q 1 [] (by kernel_rfl) rfl rfl (Qy.fieldAddr T.fa34_0 rfl) ?_
  refine Gm.q 2 [0] (by kernel_rfl) rfl rfl (Qy.load 0 T.one3 rfl rfl rfl) ?_
  refine Gm.q 3 [] (by kernel_rfl) rfl rfl (Qy.move rfl) ?_
  refine Gm.q 4 [] (by kernel_rfl) rfl rfl (Qy.quo rfl rfl (by omega) (by omega)) ?_
  refine Gm.q 5 [] (by kernel_rfl) rfl rfl (Qy.assign rfl) ?_
  refine Gm.q 6 [] (by kernel_rfl) rfl rfl (Qy.assign rfl) ?_
  refine Gm.q 7 [] (by kernel_rfl) rfl rfl (Qy.assign rfl) ?_
  refine Gm.q 8 [] (by kernel_rfl) rfl rfl (Qy.assign rfl) ?_
  refine Gm.doneA (by kernel_rfl) ⟨rfl, trivial⟩ (by first | exact Imm.le_refl _ | repeat (first | assumption | refine Imm.le_trans ?_ (by assumption))) ?_
  refine Ar.ga 4 [] ?_
  refine Ar.out4 (.inr rfl) (Ho := Hp.only _ []) rfl (.tmp rfl) (.tmp rfl) (.tmp rfl) (.tmp rfl) (Hp.sub_only _ _) ?_
  rotate_left
  refine Wc.gc 9 [] ?_
  rotate_left
  · exact absurd hn hc1
  · refine ⟨?_, rfl, rfl⟩
    unfold bezS bezT
    rw [if_pos hc2, if_pos hc2]
  · refine Wc.loop (ι := Nat) (fun k => ([(7, .int .i64 (k : Int)), (6, Go.Value.int Go.IntKind.i64 (↑(Int.gcd x y) : Int)), (1, Go.Value.pointer (Option.some (Go.Addr.mk b1 0 Option.none)))], [(0, Option.some b1, Go.Obj.cells #[Go.Value.int Go.IntKind.i64 x, Go.Value.int Go.IntKind.i64 y] 34)])) (fun k => k ≤ bezK x y) (fun k => bezK x y + 1 - k) (0) (Nat.zero_le _) ⟨rfl, rfl, rfl, trivial⟩ ⟨rfl, trivial⟩ (fun k => fun (hk : k ≤ bezK x y) => ?_)
    have hm1 : ((k : Int) * x).natAbs ≤ 15 * 16 := by rw [Int.natAbs_mul]; exact Nat.mul_le_mul (by omega) (by omega)
    have hm2 : (-(k : Int) * x).natAbs ≤ 15 * 16 := by rw [Int.natAbs_mul]; exact Nat.mul_le_mul (by omega) (by omega)
    have hm3 : -9223372036854775808 ≤ (k : Int) * x ∧ (k : Int) * x ≤ 9223372036854775807 := by omega
    have hm4 : -9223372036854775808 ≤ -(k : Int) * x ∧ -(k : Int) * x ≤ 9223372036854775807 := by omega
    refine Wc.gl 6 [] ?_
    refine Wl.q rfl (Qy.neg rfl (by omega)) ?_
    refine Wl.q rfl (Qy.buildA (cs := [_, _]) T.ar166 rfl rfl rfl) ?_
    refine Wl.gc 4 [] ?_
    refine Wc.loop (ι := Nat) (fun i => ([(37, .int .i64 (i : Int)), (7, .int .i64 (k : Int)), (36, Go.Value.agg #[Go.Value.int Go.IntKind.i64 (↑k : Int), Go.Value.int Go.IntKind.i64 (-(↑k : Int))]), (6, Go.Value.int Go.IntKind.i64 (↑(Int.gcd x y) : Int)), (1, Go.Value.pointer (Option.some (Go.Addr.mk b1 0 Option.none)))], [(0, Option.some b1, Go.Obj.cells #[Go.Value.int Go.IntKind.i64 x, Go.Value.int Go.IntKind.i64 y] 34)])) (fun i => i ≤ 2 ∧ (1 ≤ i → hitB x y (k : Int) = false) ∧ (2 ≤ i → hitB x y (-(k : Int)) = false)) (fun i => 2 - i) (0) (⟨Nat.zero_le _, fun h => absurd h (by omega), fun h => absurd h (by omega)⟩) ⟨rfl, rfl, rfl, rfl, rfl, trivial⟩ ⟨rfl, trivial⟩ (fun i => fun (hk : i ≤ 2 ∧ (1 ≤ i → hitB x y (k : Int) = false) ∧ (2 ≤ i → hitB x y (-(k : Int)) = false)) => ?_)
    obtain ⟨hi1, hi2, hi3⟩ := hk
    have hcase : i = 0 ∨ i = 1 ∨ i = 2 := by omega
    have q2 := tdiv_rng ((Int.gcd x y : Int) - (k : Int) * x) y
    have q3 := tdiv_rng ((Int.gcd x y : Int) - -(k : Int) * x) y
    have hit : ∀ s : Int, hitB x y s = true ↔ ((Int.gcd x y : Int) - s * x).tmod y = 0 := fun s => by unfold hitB; rw [beq_iff_eq]
    rcases hcase with hi | hi | hi
    · subst hi
      refine Wc.gl 13 [1] ?_
      refine Wl.q rfl (Qy.indexLit (i := 0) (cs := [.int .i64 (k : Int), .int .i64 (-(k : Int))]) und201 pkey3 siz3 rfl rfl (by decide) rfl) ?_
      refine Wl.gl 9 [0] ?_
      refine Wl.q rfl (Qy.mul rfl rfl (by omega)) ?_
      refine Wl.ll0 3 [0] ?_
      refine Wl.q rfl (Qy.rem rfl rfl (by omega)) ?_
      refine Wl.gc 3 [] ?_
      refine Wc.cond rfl (fun hc3 => ?_) (fun hc3 => ?_)
      refine Wc.seq ?_
      refine Wc.draw [0] [] T.mixed rfl ?_
      refine Gm.q 0 [] (by kernel_rfl) rfl rfl (Qy.move rfl) ?_
      refine Gm.q 1 [] (by kernel_rfl) rfl rfl (Qy.move rfl) ?_
      refine Gm.q 2 [] (by kernel_rfl) rfl rfl (Qy.move rfl) ?_
      refine Gm.q 3 [] (by kernel_rfl) rfl rfl (Qy.move rfl) ?_
      refine Gm.q 4 [] (by kernel_rfl) rfl rfl (Qy.fieldAddr T.fa34_0 rfl) ?_
      refine Gm.q 5 [0] (by kernel_rfl) rfl rfl (Qy.load 0 T.one3 rfl rfl rfl) ?_
      refine Gm.q 6 [] (by kernel_rfl) rfl rfl (Qy.mul rfl rfl (by omega)) ?_
      refine Gm.q 7 [] (by kernel_rfl) rfl rfl (Qy.sub rfl rfl (by omega)) ?_
      refine Gm.q 8 [] (by kernel_rfl) rfl rfl (Qy.fieldAddr T.fa34_1 rfl) ?_
      refine Gm.q 9 [0] (by kernel_rfl) rfl rfl (Qy.load 0 T.one3 rfl rfl rfl) ?_
      refine Gm.q 10 [] (by kernel_rfl) rfl rfl (Qy.quo rfl rfl (by omega) (by omega)) ?_
      refine Gm.q 11 [] (by kernel_rfl) rfl rfl (Qy.assign rfl) ?_
      refine Gm.q 12 [] (by kernel_rfl) rfl rfl (Qy.assign rfl) ?_
      refine Gm.q 13 [] (by kernel_rfl) rfl rfl (Qy.assign rfl) ?_
      refine Gm.q 14 [] (by kernel_rfl) rfl rfl (Qy.assign rfl) ?_
      refine Gm.doneA (by kernel_rfl) ⟨rfl, trivial⟩ (by first | exact Imm.le_refl _ | repeat (first | assumption | refine Imm.le_trans ?_ (by assumption))) ?_
      refine Ar.ga 10 [] ?_
      refine Ar.out4 (.inr rfl) (Ho := Hp.only _ []) rfl (.tmp rfl) (.tmp rfl) (.tmp rfl) (.tmp rfl) (Hp.sub_only _ _) ?_
      rotate_left
      refine Wc.ga 7 [] ?_
      rotate_left
      · have hkk : k = bezK x y := by
          rcases Nat.lt_or_ge k (bezK x y) with h | h
          · have := (bez_first x y 16 0 k (Nat.zero_le _) h).1
            rw [(hit _).2 hc3] at this; cases this
          · omega
        have hs : bezS x y = k := by unfold bezS; rw [if_neg hc2, ← hkk, if_pos ((hit _).2 hc3)]
        have ht : bezT x y = ((Int.gcd x y : Int) - (k : Int) * x).tdiv y := by unfold bezT; rw [if_neg hc2, hs]
        refine ⟨by rw [hs, ht], rfl, rfl⟩
      · refine Ar.re 37 rfl (show _ = Value.int .i64 ((1 : Nat) : Int) from rfl) ?_
        refine Ar.again (1) ?_ ?_ rfl ⟨rfl, rfl, rfl, rfl, rfl, trivial⟩ ⟨rfl, trivial⟩
        · refine ⟨by omega, fun _ => ?_, fun h => absurd h (by omega)⟩
          cases hh : hitB x y (k : Int)
          · rfl
          · exact absurd ((hit _).1 hh) hc3
        · show 2 - 1 < 2 - 0
          omega
    · subst hi
      refine Wc.gl 13 [1] ?_
      refine Wl.q rfl (Qy.indexLit (i := 1) (cs := [.int .i64 (k : Int), .int .i64 (-(k : Int))]) und201 pkey3 siz3 rfl rfl (by decide) rfl) ?_
      refine Wl.gl 9 [0] ?_
      refine Wl.q rfl (Qy.mul rfl rfl (by omega)) ?_
      refine Wl.ll0 3 [0] ?_
      refine Wl.q rfl (Qy.rem rfl rfl (by omega)) ?_
      refine Wl.gc 3 [] ?_
      refine Wc.cond rfl (fun hc3 => ?_) (fun hc3 => ?_)
      refine Wc.seq ?_
      refine Wc.draw [0] [] T.mixed rfl ?_
      refine Gm.q 0 [] (by kernel_rfl) rfl rfl (Qy.move rfl) ?_
      refine Gm.q 1 [] (by kernel_rfl) rfl rfl (Qy.move rfl) ?_
      refine Gm.q 2 [] (by kernel_rfl) rfl rfl (Qy.move rfl) ?_
      refine Gm.q 3 [] (by kernel_rfl) rfl rfl (Qy.move rfl) ?_
      refine Gm.q 4 [] (by kernel_rfl) rfl rfl (Qy.fieldAddr T.fa34_0 rfl) ?_
      refine Gm.q 5 [0] (by kernel_rfl) rfl rfl (Qy.load 0 T.one3 rfl rfl rfl) ?_
      refine Gm.q 6 [] (by kernel_rfl) rfl rfl (Qy.mul rfl rfl (by omega)) ?_
      refine Gm.q 7 [] (by kernel_rfl) rfl rfl (Qy.sub rfl rfl (by omega)) ?_
      refine Gm.q 8 [] (by kernel_rfl) rfl rfl (Qy.fieldAddr T.fa34_1 rfl) ?_
      refine Gm.q 9 [0] (by kernel_rfl) rfl rfl (Qy.load 0 T.one3 rfl rfl rfl) ?_
      refine Gm.q 10 [] (by kernel_rfl) rfl rfl (Qy.quo rfl rfl (by omega) (by omega)) ?_
      refine Gm.q 11 [] (by kernel_rfl) rfl rfl (Qy.assign rfl) ?_
      refine Gm.q 12 [] (by kernel_rfl) rfl rfl (Qy.assign rfl) ?_
      refine Gm.q 13 [] (by kernel_rfl) rfl rfl (Qy.assign rfl) ?_
      refine Gm.q 14 [] (by kernel_rfl) rfl rfl (Qy.assign rfl) ?_
      refine Gm.doneA (by kernel_rfl) ⟨rfl, trivial⟩ (by first | exact Imm.le_refl _ | repeat (first | assumption | refine Imm.le_trans ?_ (by assumption))) ?_
      refine Ar.ga 10 [] ?_
      refine Ar.out4 (.inr rfl) (Ho := Hp.only _ []) rfl (.tmp rfl) (.tmp rfl) (.tmp rfl) (.tmp rfl) (Hp.sub_only _ _) ?_
      rotate_left
      refine Wc.ga 7 [] ?_
      rotate_left
      · have hkk : k = bezK x y := by
          rcases Nat.lt_or_ge k (bezK x y) with h | h
          · have := (bez_first x y 16 0 k (Nat.zero_le _) h).2
            rw [(hit _).2 hc3] at this; cases this
          · omega
        have hs : bezS x y = -k := by unfold bezS; rw [if_neg hc2, ← hkk, if_neg (by rw [hi2 (by omega)]; decide)]
        have ht : bezT x y = ((Int.gcd x y : Int) - -(k : Int) * x).tdiv y := by unfold bezT; rw [if_neg hc2, hs]
        refine ⟨by rw [hs, ht], rfl, rfl⟩
      · refine Ar.re 37 rfl (show _ = Value.int .i64 ((2 : Nat) : Int) from rfl) ?_
        refine Ar.again (2) ?_ ?_ rfl ⟨rfl, rfl, rfl, rfl, rfl, trivial⟩ ⟨rfl, trivial⟩
        · refine ⟨by omega, fun _ => hi2 (by omega), fun _ => ?_⟩
          cases hh : hitB x y (-(k : Int))
          · rfl
          · exact absurd ((hit _).1 hh) hc3
        · show 2 - 2 < 2 - 1
          omega
    · subst hi
      refine Wc.ga 18 [0] ?_
      refine Ar.re 7 rfl (show _ = Value.int .i64 ((k + 1 : Nat) : Int) from rfl) ?_
      refine Ar.again (k + 1) ?_ ?_ rfl ⟨rfl, rfl, rfl, trivial⟩ ⟨rfl, trivial⟩
      · rcases Nat.lt_or_ge k (bezK x y) with h | h
        · exact h
        · have hkk : k = bezK x y := by omega
          have h1 := hi2 (by omega)
          have h2 := hi3 (by omega)
          rw [hkk] at h1 h2
          rw [h1, h2] at hb4
          rcases hb4 with h | h | h
          · exact absurd h hc2
          · cases h
          · cases h
      · show bezK x y + 1 - (k + 1) < bezK x y + 1 - k
        omega
end Go.Proofs.YtelbhbbiejalhaaGreat
set_option maxRecDepth 100000
set_option linter.unusedVariables false
namespace Go.Proofs.YtelbhbbiejalhaaGreat
open Go Go.Sl
theorem flat_int (l : List Int) : flat l = l.map (Value.int .i64) := by
  induction l with
  | nil => rfl
  | cons x l ih => rw [flat_cons, ih]; rfl
theorem put_flat (l l' : List Int) (jk : List Value) (h : l'.length = l.length) : Go.Sort.putCells (Value.int .i64) 0 l'.toArray (flat l ++ jk).toArray = (flat l' ++ jk).toArray := by
  rw [flat_int, flat_int]
  apply Array.ext_getElem?
  intro k
  simp only [Go.Sort.putCells, Array.getElem?_mapIdx, List.getElem?_toArray, List.size_toArray, Nat.zero_le, true_and, Nat.zero_add, Nat.sub_zero]
  by_cases hk : k < l'.length
  · rw [List.getElem?_append_left (by rw [List.length_map]; omega), List.getElem?_append_left (by rw [List.length_map]; omega), List.getElem?_map, List.getElem?_map, List.getElem?_eq_getElem (show k < l.length by omega), List.getElem?_eq_getElem hk]
    simp [hk]
  · rw [List.getElem?_append_right (by rw [List.length_map]; omega), List.getElem?_append_right (by rw [List.length_map]; omega), List.length_map, List.length_map, h]
    cases jk[k - l.length]? with
    | none => rfl
    | some v => simp [hk]; intro h2; omega
theorem holds_row {w : World} {G : Imm} {b : Nat} {l : List Int} {jk : List Value} {E : TypeId} (hw : HoldH [(0, some b, Row E l jk)] G w) : Go.Sort.Holds (Value.int .i64) w b 0 l.toArray := by
  intro j hj
  have hj : j < l.length := by simpa using hj
  have ho : w.heap[b]? = some (Row E l jk) := hw.own 0 b _ rfl
  constructor
  · show World.cell? w ⟨b, 0 + j, none⟩ = _
    unfold World.cell?
    rw [show w.heap[(⟨b, 0 + j, none⟩ : Addr).block]? = some (Row E l jk) from ho]
    show (flat l ++ jk).toArray[0 + j]? = _
    rw [Nat.zero_add, List.getElem?_toArray, flat_int, List.getElem?_append_left (by rw [List.length_map]; exact hj), List.getElem?_map, List.getElem?_eq_getElem hj]
    simp [hj]
  · show World.frozen? w ⟨b, 0 + j, none⟩ = _
    unfold World.frozen?
    rw [show w.heap[(⟨b, 0 + j, none⟩ : Addr).block]? = some (Row E l jk) from ho]
    show (decide (0 ≤ 0 + j) && decide (0 + j < 0)) = false
    simp
theorem row_put {w : World} {G : Imm} {b n : Nat} {l l' : List Int} {jk : List Value} {E : TypeId} {os : Array Obj} (hw : HoldH [(0, some b, Row E l jk)] G w) (hlen : l'.length = l.length) {v : Value} :
    DoesPost G [(0, some b, Row E l jk)] w (fun v' G' Ho => v' = v ∧ G' = G ∧ Ho = [(0, some b, Row E l' jk)]) (.returned v) (Go.Sort.grow (Go.Sort.putRow (Value.int .i64) (Go.Sort.ahead w n) b 0 l'.toArray) os) := by
  have ho : w.heap[b]? = some (Row E l jk) := hw.own 0 b _ rfl
  have hb : b < w.heap.size := by
    rcases Nat.lt_or_ge b w.heap.size with h | h
    · exact h
    · rw [Array.getElem?_eq_none h] at ho; cases ho
  have hget : ∀ k, k < w.heap.size → (Go.Sort.grow (Go.Sort.putRow (Value.int .i64) (Go.Sort.ahead w n) b 0 l'.toArray) os).heap[k]? = if b = k then some (Row E l' jk) else w.heap[k]? := by
    intro k hk
    show ((w.heap.modify b (Go.Sort.onCells (Go.Sort.putCells (Value.int .i64) 0 l'.toArray))) ++ os)[k]? = _
    rw [Array.getElem?_append_left (by rw [Array.size_modify]; exact hk), Array.getElem?_modify]
    split
    · rename_i e
      subst e
      rw [ho]
      show some (Obj.cells (Go.Sort.putCells (Value.int .i64) 0 l'.toArray (flat l ++ jk).toArray) E (0, 0)) = _
      rw [put_flat _ _ _ hlen]; rfl
    · rfl
  have hone : ∀ {o' : Obj} {t b' : Nat} {o : Obj}, Hp.get [(0, some b, o')] t = some (some b', o) → t = 0 ∧ b = b' ∧ o' = o := by
    intro o' t b' o h
    rw [Hp.get_cons] at h
    split at h
    · rename_i e
      simp at h
      exact ⟨e.symm, h.1, h.2⟩
    · simp [Hp.get] at h
  refine ⟨v, G, [(0, some b, Row E l' jk)], rfl, ⟨?_, ?_, ?_, ?_⟩, Imm.le_refl _, ⟨rfl, rfl, rfl, ?_, ?_⟩, ?_, ?_, rfl, rfl, rfl⟩
  · intro t b' o h
    obtain ⟨_, e, e2⟩ := hone h
    subst e; subst e2
    rw [hget b hb, if_pos rfl]
  · intro t t' b' o o' h h'
    rw [(hone h).1, (hone h').1]
  · intro b' o h
    have h1 := hw.imm b' o h
    have h2 : b' < w.heap.size := by
      rcases Nat.lt_or_ge b' w.heap.size with h | h
      · exact h
      · rw [Array.getElem?_eq_none h] at h1; cases h1
    rw [hget b' h2, if_neg]
    · exact h1
    · intro e
      subst e
      have := hw.off 0 b _ rfl
      rw [h] at this; cases this
  · intro t b' o h
    obtain ⟨_, e, _⟩ := hone h
    subst e
    exact hw.off 0 b _ rfl
  · show w.heap.size ≤ ((w.heap.modify b _) ++ os).size
    rw [Array.size_append, Array.size_modify]; omega
  · intro k hk hx
    rw [hget k hk, if_neg]
    intro e
    subst e
    exact hx ⟨0, _, rfl⟩
  · intro b' h h'; exact absurd h' h
  · intro t b' o h
    obtain ⟨_, e, _⟩ := hone h
    subst e
    exact .inr ⟨0, _, rfl⟩
theorem c81 (G : Imm) (b c : Nat) (l : List Int) (jk : List Value) (h : l.length < 4611686018427387904) :
    Does Tryz.prog 81 [.slice (some ⟨b, 0, none⟩) l.length c] G [(0, some b, Row 3 l jk)] (fun v G' Ho => v = .tuple #[] ∧ G' = G ∧ Ho = [(0, some b, Row 3 (l.mergeSort fun x y => decide (x ≤ y)) jk)]) := fun w hw => by
  have ho : w.heap[b]? = some (Row 3 l jk) := hw.own 0 b _ rfl
  have hb : b < w.heap.size := by
    rcases Nat.lt_or_ge b w.heap.size with h | h
    · exact h
    · rw [Array.getElem?_eq_none h] at ho; cases ho
  have h69 : Calls Tryz.prog 81 #[.slice (some ⟨b, 0, none⟩) l.length c] w _ := Any.slices_Sort_int Tryz.laysSort b 0 c l w (holds_row hw) hb h
  refine h69.mono ?_
  rintro e w' ⟨rfl, n, os, rfl⟩
  exact row_put hw (List.length_mergeSort l)
theorem c81N (G : Imm) (c : Nat) : Does Tryz.prog 81 [.slice none 0 c] G [] (fun v G' Ho => v = .tuple #[] ∧ G' = G ∧ Ho = []) := fun w hw => by
  have h69 : Calls Tryz.prog 81 #[.slice none 0 c] w _ := Any.slices_Sort_int_none Tryz.laysSort none c w
  refine h69.mono ?_
  rintro e w' ⟨rfl, rfl⟩
  exact ⟨_, G, [], rfl, hw, Imm.le_refl _, Upd.refl _ _, fun _ h h' => absurd h' h, fun t b o h => by simp [Hp.get] at h, rfl, rfl, rfl⟩
theorem sorted_le (l : List Int) : (l.mergeSort fun x y => decide (x ≤ y)).Pairwise (· ≤ ·) :=
  (List.pairwise_mergeSort (le := fun x y : Int => decide (x ≤ y)) (fun a b c h1 h2 => by simp at *; omega) (fun a b => by simp; omega) l).imp (fun h => by simpa using h)
end Go.Proofs.YtelbhbbiejalhaaGreat
set_option maxRecDepth 100000
set_option linter.unusedVariables false
namespace Go.Proofs.YtelbhbbiejalhaaGreat
open Go Go.Sl
set_option maxHeartbeats 4000000
attribute [local irreducible] RightL
theorem c119N (G : Imm) (a b c d : Int) (h : near a b) (h' : near c d) : Does Tryz.prog 119 [.agg #[.int .i64 a, .int .i64 b], .agg #[.int .i64 c, .int .i64 d]] G [] (fun v G' Ho => v = .tuple #[.int .i64 (a * d - c * b), .int .i64 0] ∧ G' = G ∧ Ho = []) :=
  (c119 G a b c d).mono fun v G' Ho _ ⟨e1, e2, e3⟩ => ⟨by rw [e1, if_pos ⟨h, h'⟩, if_pos ⟨h, h'⟩], e2, e3⟩
end Go.Proofs.YtelbhbbiejalhaaGreat
set_option maxRecDepth 100000
set_option linter.unusedVariables false
namespace Go.Proofs.YtelbhbbiejalhaaGreat
open Go Go.Sl
set_option maxHeartbeats 4000000
theorem c85 (G : Imm) (b : Nat) (ac : Option Addr) (cc : Nat) (code : List Sl.Instr) (j : List Value) (wa : Option Addr) (wc : Nat) (wh : List R2) (k : Int) (la : Option Addr) (lc : Nat) (left : List Int) (e : Nat) (ho : OwnA ac cc code j) (hw : Arr G wa wh) (hla : Arr G la left)
    (hwl : wh.length ≤ 15) (hk : 0 ≤ k ∧ k < wh.length) (hll : left.length ≤ 15) (hleft : ∀ i, i < left.length → 0 ≤ left[i]?.getD default ∧ left[i]?.getD default < wh.length) (he : e ≤ 14) (hok : ∀ i, i < wh.length → okP (wh[i]?.getD default)) (hl : (code ++ awayI wh.length wh k e left).length ≤ 1048576) :
    Does Tryz.prog 85 [.pointer (some ⟨b, 0, none⟩), .int .i64 k, .slice la left.length lc, .int .i64 e] G [(0, some b, .cells #[.int .i64 wh.length, .slice ac code.length cc, .slice wa wh.length wc] 139), (1, ac.map (·.block), Row 50 code j)]
      (fun v G' Ho => v = .tuple #[] ∧ G' = G ∧ ∃ (a' : Option Addr) (c' : Nat) (j' : List Value), OwnA a' c' (code ++ awayI wh.length wh k e left) j' ∧ Ho = [(0, some b, .cells #[.int .i64 wh.length, .slice a' (code ++ awayI wh.length wh k e left).length c', .slice wa wh.length wc] 139), (1, a'.map (·.block), Row 50 (code ++ awayI wh.length wh k e left) j')]) := by
  have hl0 : code.length ≤ 1048576 := by rw [List.length_append] at hl; omega
  obtain ⟨hnk, hzk⟩ := hok k.toNat (by omega)
  obtain ⟨_, b2, _, _⟩ := bez_facts hnk hzk
  refine Does.enter Tryz.func85 rfl Tryz.ntmps85 rfl (fun w => ?_)
  refine Wc.scope ?_
  refine Wc.gl 7 [0] ?_
  refine Wl.q rfl (Qy.at (α := R2) T.sl22 rfl rfl (by assumption) (by omega)) ?_
  refine Wl.q rfl (Qy.loadsG T.agg34 rfl (Arr.elem (by assumption) (by omega)) rfl) ?_
  refine Wl.alloc 2 rfl T.zero34 (fun b1 => ?_)
  refine Wl.gl 6 [2, 2] ?_
  refine Wl.call0 rfl T.fn83 rfl (c83 _ _ _ (by assumption) (by assumption)) ?_
  refine Wl.gc 22 [] ?_
  generalize hTg : code ++ awayI wh.length wh k e left = Tg at *
  refine Wc.loop (ι := Nat × List Sl.Instr × (Option Addr × Nat × List Value)) (fun (t, cd, (o, d, q)) => ([(35, .int .i64 (t : Int)), (34, Go.Value.int Go.IntKind.i64 (↑(List.length left) : Int)), (33, Go.Value.slice la (List.length left) lc), (11, Go.Value.int Go.IntKind.i64 (Go.Proofs.YtelbhbbiejalhaaGreat.bezT (Go.Sl.R2.a (Option.getD wh[Int.toNat k]? Inhabited.default)) (Go.Sl.R2.b (Option.getD wh[Int.toNat k]? Inhabited.default)))), (10, Go.Value.int Go.IntKind.i64 (Go.Proofs.YtelbhbbiejalhaaGreat.bezS (Go.Sl.R2.a (Option.getD wh[Int.toNat k]? Inhabited.default)) (Go.Sl.R2.b (Option.getD wh[Int.toNat k]? Inhabited.default)))), (8, Go.Value.pointer (Option.some (Go.Addr.mk b1 0 Option.none))), (0, Go.Value.pointer (Option.some (Go.Addr.mk b 0 Option.none))), (1, Go.Value.int Go.IntKind.i64 k), (3, Go.Value.int Go.IntKind.i64 (↑e : Int))], [(0, some b, .cells #[.int .i64 wh.length, .slice o cd.length d, .slice wa wh.length wc] 139), (1, o.map (·.block), Row 50 cd q), (2, Option.some b1, Go.Obj.cells (List.toArray (Go.Sl.Cells.enc (Option.getD wh[Int.toNat k]? Inhabited.default))) 34)])) (fun (t, cd, (o, d, q)) => t ≤ left.length ∧ cd ++ awayI wh.length wh k e (left.drop t) = Tg ∧ OwnA o d cd q) (fun (t, cd, (o, d, q)) => left.length - t) ((0, code, (ac, cc, j))) (⟨Nat.zero_le _, hTg, ho⟩) ⟨rfl, rfl, rfl, rfl, rfl, rfl, rfl, rfl, rfl, trivial⟩ ⟨rfl, rfl, rfl, trivial⟩ (fun ⟨t, cd, (o, d, q)⟩ => fun (hk : t ≤ left.length ∧ cd ++ awayI wh.length wh k e (left.drop t) = Tg ∧ OwnA o d cd q) => ?_)
  obtain ⟨ht1, ht3, ht4⟩ := hk
  have htl : cd.length ≤ 1048576 := by rw [← ht3, List.length_append] at hl; omega
  rcases Nat.lt_or_ge t left.length with hte | hte
  · have hi := hleft t hte
    have hdr : left.drop t = left[((t : Nat) : Int).toNat]?.getD default :: left.drop (t + 1) := by
      rw [List.drop_eq_getElem_cons hte, Int.toNat_natCast, List.getElem?_eq_getElem hte]; rfl
    rw [Int.toNat_natCast] at hdr
    obtain ⟨hni, hzi⟩ := hok (left[((t : Nat) : Int).toNat]?.getD default).toNat (by rw [Int.toNat_natCast]; omega)
    have hi' : 0 ≤ left[((t : Nat) : Int).toNat]?.getD default ∧ left[((t : Nat) : Int).toNat]?.getD default < wh.length := by rw [Int.toNat_natCast]; exact hi
    rw [hdr] at ht3
    have ht3 : cd ++ (awayOne wh.length wh k e (left[((t : Nat) : Int).toNat]?.getD default) ++ awayI wh.length wh k e (left.drop (t + 1))) = Tg := by rw [Int.toNat_natCast]; exact ht3
    have hlr : -512 ≤ linC wh k (left[((t : Nat) : Int).toNat]?.getD default) ∧ linC wh k (left[((t : Nat) : Int).toNat]?.getD default) ≤ 512 := lin_rng b2 hni
    have hm1 : (bezS (wh[k.toNat]?.getD default).a (wh[k.toNat]?.getD default).b * (wh[(left[((t : Nat) : Int).toNat]?.getD default).toNat]?.getD default).a).natAbs ≤ 17 * 16 := by rw [Int.natAbs_mul]; exact Nat.mul_le_mul (by omega) (by unfold near at hni; omega)
    have hm2 : (bezT (wh[k.toNat]?.getD default).a (wh[k.toNat]?.getD default).b * (wh[(left[((t : Nat) : Int).toNat]?.getD default).toNat]?.getD default).b).natAbs ≤ 17 * 16 := by rw [Int.natAbs_mul]; exact Nat.mul_le_mul (by omega) (by unfold near at hni; omega)
    have hTl : cd.length + (awayOne wh.length wh k e (left[((t : Nat) : Int).toNat]?.getD default)).length ≤ 1048576 := by rw [← ht3, List.length_append, List.length_append] at hl; omega
    unfold awayOne at ht3 hTl
    rw [List.length_append] at hTl
    refine Wc.gl 13 [1] ?_
    refine Wl.q rfl (Qy.at (α := Int) T.sl27 rfl rfl (by assumption) (by omega)) ?_
    refine Wl.q rfl (Qy.loadG T.one3 rfl (Arr.cell (by assumption) (by omega) 0 rfl rfl)) ?_
    refine Wl.gl 10 [0] ?_
    refine Wl.q rfl (Qy.at (α := R2) T.sl22 rfl rfl (by assumption) (by omega)) ?_
    refine Wl.q rfl (Qy.loadsG T.agg34 rfl (Arr.elem (by assumption) (by omega)) rfl) ?_
    refine Wl.alloc 3 rfl T.zero34 (fun b3 => ?_)
    refine Wl.gl 7 [3, 2, 3] ?_
    refine Wl.call0 rfl T.fn119 rfl (c119N _ _ _ _ _ (by assumption) (by assumption)) ?_
    refine Wl.gl 12 [3] ?_
    refine Wl.q rfl (Qy.mul rfl rfl (by omega)) ?_
    refine Wl.ll0 3 [3] ?_
    refine Wl.q rfl (Qy.mul rfl rfl (by omega)) ?_
    refine Wl.gl 10 [] ?_
    apply Wl.joinOr 3 63 66 rfl
    intro hg1
    refine Wl.ll0 5 [] ?_
    exact Wl.back 3 0 rfl rfl rfl rfl rfl
    intro hg1
    refine Wl.ll0 3 [] ?_
    exact Wl.back 3 0 rfl rfl rfl rfl rfl
    refine Wl.gc 2 [] ?_
    refine Wc.cond rfl (fun hc1 => ?_) (fun hc1 => ?_)
    refine Wc.gl 4 [] ?_
    refine Wl.call1 0 rfl T.fn121 rfl (c121 _ b _ _ _ (by omega)) (tags_of ⟨rfl, trivial⟩) ?_
    refine Wl.ll0 3 [] ?_
    rotate_left
    refine Wc.gc 9 [] ?_
    refine Wc.cond rfl (fun hc2 => ?_) (fun hc2 => ?_)
    refine Wc.ga 8 [] ?_
    rotate_left
    refine Wc.gl 6 [] ?_
    rotate_left
    · have hcc : linC wh k (left[((t : Nat) : Int).toNat]?.getD default) ≠ 0 ∨ e = 0 := by
        rcases hc1 with h | h
        · exact .inl h
        · exact .inr (by omega)
      rw [if_pos hcc] at ht3 hTl
      rw [List.length_append, List.length_singleton] at hTl
      have hq1 : (cd ++ powI (3 * (wh.length : Int)) k (linC wh k (left[((t : Nat) : Int).toNat]?.getD default)) e).length ≤ 1048576 := by rw [List.length_append]; omega
      refine Wl.call 0 rfl T.fn120 rfl (c120 _ b _ o d cd q wa _ wc (3 * (wh.length : Int)) k (linC wh k (left[((t : Nat) : Int).toNat]?.getD default)) e ht4 hq1 hlr (by omega)) (tags_of ⟨rfl, rfl, trivial⟩) (fun v1 G1 Ho1 hle1 hp => ?_)
      obtain ⟨rfl, rfl, a1, d1, j1, ho1, rfl⟩ := hp
      refine Wl.gl 7 [] ?_
      refine Wl.call1 0 rfl T.fn121 rfl (c121 _ b _ _ _ (by omega)) (tags_of ⟨rfl, trivial⟩) ?_
      refine Wl.call 0 rfl T.fn118 rfl (c118 _ b _ a1 d1 (cd ++ powI (3 * (wh.length : Int)) k (linC wh k (left[((t : Nat) : Int).toNat]?.getD default)) e) j1 wa _ wc _ _ _ _ _ ho1 hq1) (tags_of ⟨rfl, rfl, trivial⟩) (fun v2 G2 Ho2 hle2 hp => ?_)
      obtain ⟨rfl, rfl, a2, d2, j2, ho2, rfl⟩ := hp
      refine Wl.gc 9 [] ?_
      refine Wc.cond rfl (fun hc2 => ?_) (fun hc2 => ?_)
      refine Wc.ga 8 [] ?_
      rotate_left
      refine Wc.gl 6 [] ?_
      rotate_left
      · have hdd : detC wh k (left[((t : Nat) : Int).toNat]?.getD default) = 1 := hc2
        rw [if_pos hdd, List.append_nil] at ht3
        refine Ar.re 35 rfl (show _ = Value.int .i64 ((t + 1 : Nat) : Int) from rfl) ?_
        refine Ar.again ((t + 1, (cd ++ powI (3 * (wh.length : Int)) k (linC wh k (left[((t : Nat) : Int).toNat]?.getD default)) e ++ [(⟨4, (left[((t : Nat) : Int).toNat]?.getD default), (left[((t : Nat) : Int).toNat]?.getD default), 3 * (wh.length : Int), 0⟩ : Sl.Instr)]), (a2, d2, j2))) ?_ ?_ rfl ⟨rfl, rfl, rfl, rfl, rfl, rfl, rfl, rfl, rfl, trivial⟩ ⟨rfl, rfl, rfl, trivial⟩
        · refine ⟨hte, ?_, ho2⟩
          rw [← ht3]; simp only [List.append_assoc]
        · show left.length - (t + 1) < left.length - t
          omega
      · have hdd : ¬ detC wh k (left[((t : Nat) : Int).toNat]?.getD default) = 1 := hc2
        rw [if_neg hdd] at ht3 hTl
        have hq2 : (cd ++ powI (3 * (wh.length : Int)) k (linC wh k (left[((t : Nat) : Int).toNat]?.getD default)) e ++ [(⟨4, (left[((t : Nat) : Int).toNat]?.getD default), (left[((t : Nat) : Int).toNat]?.getD default), 3 * (wh.length : Int), 0⟩ : Sl.Instr)]).length ≤ 1048576 := by rw [List.length_append, List.length_append, List.length_singleton]; omega
        refine Wl.call 0 rfl T.fn84 rfl (c84 _ b _ a2 d2 (cd ++ powI (3 * (wh.length : Int)) k (linC wh k (left[((t : Nat) : Int).toNat]?.getD default)) e ++ [(⟨4, (left[((t : Nat) : Int).toNat]?.getD default), (left[((t : Nat) : Int).toNat]?.getD default), 3 * (wh.length : Int), 0⟩ : Sl.Instr)]) j2 wa _ wc _ _ ho2 hq2) (tags_of ⟨rfl, rfl, trivial⟩) (fun v3 G3 Ho3 hle3 hp => ?_)
        obtain ⟨rfl, rfl, a3, d3, j3, ho3, rfl⟩ := hp
        refine Wl.ga 7 [] ?_
        refine Ar.re 35 rfl (show _ = Value.int .i64 ((t + 1 : Nat) : Int) from rfl) ?_
        refine Ar.again ((t + 1, (cd ++ powI (3 * (wh.length : Int)) k (linC wh k (left[((t : Nat) : Int).toNat]?.getD default)) e ++ [(⟨4, (left[((t : Nat) : Int).toNat]?.getD default), (left[((t : Nat) : Int).toNat]?.getD default), 3 * (wh.length : Int), 0⟩ : Sl.Instr)]) ++ overI (left[((t : Nat) : Int).toNat]?.getD default) (detC wh k (left[((t : Nat) : Int).toNat]?.getD default)), (a3, d3, j3))) ?_ ?_ rfl ⟨rfl, rfl, rfl, rfl, rfl, rfl, rfl, rfl, rfl, trivial⟩ ⟨rfl, rfl, rfl, trivial⟩
        · refine ⟨hte, ?_, ho3⟩
          rw [← ht3]; simp only [List.append_assoc]
        · show left.length - (t + 1) < left.length - t
          omega
    · have hcc : ¬ (linC wh k (left[((t : Nat) : Int).toNat]?.getD default) ≠ 0 ∨ e = 0) := fun h => hc1 (h.elim .inl (fun h => .inr (by omega)))
      rw [if_neg hcc] at ht3 hTl
      have hdd : detC wh k (left[((t : Nat) : Int).toNat]?.getD default) = 1 := hc2
      rw [if_pos hdd] at ht3
      refine Ar.re 35 rfl (show _ = Value.int .i64 ((t + 1 : Nat) : Int) from rfl) ?_
      refine Ar.again ((t + 1, cd, (o, d, q))) ?_ ?_ rfl ⟨rfl, rfl, rfl, rfl, rfl, rfl, rfl, rfl, rfl, trivial⟩ ⟨rfl, rfl, rfl, trivial⟩
      · exact ⟨hte, ht3, ht4⟩
      · show left.length - (t + 1) < left.length - t
        omega
    · have hcc : ¬ (linC wh k (left[((t : Nat) : Int).toNat]?.getD default) ≠ 0 ∨ e = 0) := fun h => hc1 (h.elim .inl (fun h => .inr (by omega)))
      rw [if_neg hcc] at ht3 hTl
      have hdd : ¬ detC wh k (left[((t : Nat) : Int).toNat]?.getD default) = 1 := hc2
      rw [if_neg hdd] at ht3
      refine Wl.call 0 rfl T.fn84 rfl (c84 _ b _ o d cd q wa _ wc _ _ ht4 htl) (tags_of ⟨rfl, rfl, trivial⟩) (fun v1 G1 Ho1 hle1 hp => ?_)
      obtain ⟨rfl, rfl, a1, d1, j1, ho1, rfl⟩ := hp
      refine Wl.ga 7 [] ?_
      refine Ar.re 35 rfl (show _ = Value.int .i64 ((t + 1 : Nat) : Int) from rfl) ?_
      refine Ar.again ((t + 1, cd ++ overI (left[((t : Nat) : Int).toNat]?.getD default) (detC wh k (left[((t : Nat) : Int).toNat]?.getD default)), (a1, d1, j1))) ?_ ?_ rfl ⟨rfl, rfl, rfl, rfl, rfl, rfl, rfl, rfl, rfl, trivial⟩ ⟨rfl, rfl, rfl, trivial⟩
      · refine ⟨hte, ?_, ho1⟩
        rw [← ht3, List.nil_append]; simp only [List.append_assoc]
      · show left.length - (t + 1) < left.length - t
        omega
  · have hte : t = left.length := by omega
    subst hte
    rw [List.drop_length] at ht3
    have ht3 : cd = Tg := by rw [← ht3]; exact (List.append_nil _).symm
    subst ht3
    refine Wc.ga 11 [0] ?_
    refine Ar.scopeN ?_
    refine Ar.out0 (by first | exact .inl rfl | exact .inr rfl) (Ho := [(0, some b, .cells #[.int .i64 wh.length, .slice o cd.length d, .slice wa wh.length wc] 139), (1, o.map (·.block), Row 50 cd q)]) rfl ⟨rfl, rfl, trivial⟩ ?_
    exact ⟨rfl, rfl, o, d, q, ht4, rfl⟩
end Go.Proofs.YtelbhbbiejalhaaGreat
set_option linter.unusedVariables false
namespace Go.Sl
open Go
/-- a truth value as a decision -/
theorem boolDec (y : Bool) : Value.bool y = Value.bool (decide (y = true)) := by cases y <;> rfl
section
variable {α : Type} [Cells α] [Inhabited α] {P : Program} {ops : Array Oper} {rest : List Oper} {B : Bs} {e : Env} {D : List Deferred} {H : Hp} {G : Imm} {K : Act → World → Prop}
  {ty : TypeId} {pos : String} {after : Array Edge} {d : Nat}
end
section
variable {α : Type} [Cells α] {P : Program} {ops : Array Oper} {rest : List Oper} {B : Bs} {e : Env} {D : List Deferred} {H : Hp} {G : Imm} {K : Act → World → Prop}
  {ty : TypeId} {pos : String} {after : Array Edge} {d : Nat}
end
end Go.Sl
