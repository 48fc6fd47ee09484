/- Parts of the proof (part 4): what the rows' text needs of the texts that lead to it. -/
import Derived.Test.YtelbhbbiejalhaaGreatMWc
set_option linter.unusedVariables false
set_option linter.unusedSimpArgs false
set_option linter.unusedSectionVars false
set_option maxRecDepth 100000
set_option linter.unusedVariables false
namespace Go.Proofs.YtelbhbbiejalhaaGreat
open Go Go.Sl
def near (a b : Int) : Prop := -16 ≤ a ∧ a ≤ 16 ∧ -16 ≤ b ∧ b ≤ 16
instance (a b : Int) : Decidable (near a b) := inferInstanceAs (Decidable (_ ∧ _))
theorem c77 (G : Imm) (n : Int) : Does Tryz.prog 77 [.int .i64 n] G [] (fun v G' Ho => v = .bool (decide (-16 ≤ n ∧ n ≤ 16)) ∧ G' = G ∧ Ho = []) := by
  refine Does.enter Tryz.func77 rfl Tryz.ntmps77 rfl (fun w => ?_)
  refine Wc.gl 10 [] ?_
  apply Wl.joinAnd 3 5 8 rfl
  intro hg1
  refine Wl.ll0 5 [] ?_
  exact Wl.back 3 0 rfl rfl rfl rfl rfl
  intro hg1
  refine Wl.ll0 3 [] ?_
  exact Wl.back 3 0 rfl rfl rfl rfl rfl
  refine Wl.ga 4 [] ?_
  refine Ar.out1 (.inr rfl) (Ho := Hp.only _ []) rfl (.tmp rfl) (Hp.sub_only _ _) ?_
  exact ⟨rfl, rfl, rfl⟩
theorem c146 (G : Imm) (n : Int) (h : -9223372036854775807 ≤ n) : Does Tryz.prog 146 [.int .i64 n] G [] (fun v G' Ho => v = .int .i64 (n.natAbs : Int) ∧ G' = G ∧ Ho = []) := by
  refine Does.enter Tryz.func146 rfl Tryz.ntmps146 rfl (fun w => ?_)
  refine Wc.gc 12 [] ?_
  refine Wc.cond rfl (fun hc1 => ?_) (fun hc1 => ?_)
  refine Wc.gl 3 [] ?_
  refine Wl.q rfl (Qy.neg rfl (by omega)) ?_
  refine Wl.ga 5 [] ?_
  refine Ar.out1 (.inr rfl) (Ho := Hp.only _ []) rfl (.tmp rfl) (Hp.sub_only _ _) ?_
  rotate_left
  refine Wc.ga 9 [] ?_
  refine Ar.out1 (.inr rfl) (Ho := Hp.only _ []) rfl (.tmp rfl) (Hp.sub_only _ _) ?_
  rotate_left
  · exact ⟨by congr 1; omega, rfl, rfl⟩
  · exact ⟨by congr 1; omega, rfl, rfl⟩
theorem c117 (G : Imm) (a b : Int) (h1 : -4611686018427387904 ≤ a ∧ a ≤ 4611686018427387904) (h2 : -4611686018427387904 ≤ b ∧ b ≤ 4611686018427387904) : Does Tryz.prog 117 [.int .i64 a, .int .i64 b] G [] (fun v G' Ho => v = .int .i64 (Int.gcd a b : Int) ∧ G' = G ∧ Ho = []) := by
  refine Does.enter Tryz.func117 rfl Tryz.ntmps117 rfl (fun w => ?_)
  refine Wc.gc 7 [] ?_
  refine Wc.loop (ι := Int × Int) (fun (x, y) => ([(0, .int .i64 x), (1, .int .i64 y), (4, Go.Value.int Go.IntKind.i64 0)], [])) (fun (x, y) => Int.gcd x y = Int.gcd a b ∧ (-4611686018427387904 ≤ x ∧ x ≤ 4611686018427387904) ∧ (-4611686018427387904 ≤ y ∧ y ≤ 4611686018427387904)) (fun (x, y) => y.natAbs) ((a, b)) (⟨rfl, h1, h2⟩) ⟨rfl, rfl, rfl, trivial⟩ trivial (fun ⟨x, y⟩ => fun (hk : Int.gcd x y = Int.gcd a b ∧ (-4611686018427387904 ≤ x ∧ x ≤ 4611686018427387904) ∧ (-4611686018427387904 ≤ y ∧ y ≤ 4611686018427387904)) => ?_)
  obtain ⟨hg, hx, hy⟩ := hk
  refine Wc.gc 7 [] ?_
  refine Wc.cond rfl (fun hc1 => ?_) (fun hc1 => ?_)
  refine Wc.gc 3 [] ?_
  refine Wc.draw [] [] T.mixed rfl ?_
  refine Gm.q 0 [] (by kernel_rfl) rfl rfl (Qy.move rfl) ?_
  refine Gm.q 1 [] (by kernel_rfl) rfl rfl (Qy.move rfl) ?_
  refine Gm.q 2 [] (by kernel_rfl) rfl rfl (Qy.move rfl) ?_
  refine Gm.q 3 [] (by kernel_rfl) rfl rfl (Qy.rem rfl rfl (by omega)) ?_
  refine Gm.q 4 [] (by kernel_rfl) rfl rfl (Qy.assign rfl) ?_
  refine Gm.q 5 [] (by kernel_rfl) rfl rfl (Qy.assign rfl) ?_
  refine Gm.doneA (by kernel_rfl) trivial (by first | exact Imm.le_refl _ | assumption | (refine Imm.le_trans ?_ (by assumption); first | assumption | (refine Imm.le_trans ?_ (by assumption); assumption))) ?_
  refine Ar.outNormal ?_
  rotate_left
  refine Wc.gl 8 [] ?_
  refine Wl.call0 rfl T.fn146 rfl (c146 _ _ (by omega)) ?_
  refine Wl.ga 4 [] ?_
  refine Ar.out1 (.inr rfl) (Ho := Hp.only _ []) rfl (.tmp rfl) (Hp.sub_only _ _) ?_
  rotate_left
  · have e := Int.natAbs_tmod x y
    have hyp : 0 < y.natAbs := by omega
    have e2 := Nat.mod_lt x.natAbs hyp
    have e3 := Nat.mod_le x.natAbs y.natAbs
    refine Ar.again ((y, x.tmod y)) ?_ ?_ rfl ⟨rfl, rfl, rfl, trivial⟩ trivial
    · refine ⟨?_, hy, by omega⟩
      rw [← hg]
      show Nat.gcd y.natAbs (x.tmod y).natAbs = Nat.gcd x.natAbs y.natAbs
      rw [e, Nat.gcd_comm, ← Nat.gcd_rec, Nat.gcd_comm]
    · show (x.tmod y).natAbs < y.natAbs
      omega
  · refine ⟨?_, rfl, rfl⟩
    rw [← hg]
    have e : y = 0 := by omega
    subst e
    rw [Int.gcd_zero_right]
theorem c47 (G : Imm) (a b : Int) : Does Tryz.prog 47 [.agg #[.int .i64 a, .int .i64 b]] G [] (fun v G' Ho => v = .bool (decide (near a b)) ∧ G' = G ∧ Ho = []) := by
  refine Does.enter Tryz.func47 rfl Tryz.ntmps47 rfl (fun w => ?_)
  refine Wc.gl 2 [] ?_
  refine Wl.box 0 rfl rfl rfl (fun b1 => ?_)
  refine Wl.gl 7 [0] ?_
  refine Wl.call0 rfl T.fn77 rfl (by apply c77 <;> first | assumption | omega | rfl) ?_
  refine Wl.q rfl (Qy.move rfl) ?_
  apply Wl.joinAnd 4 6 10 rfl
  intro hg1
  refine Wl.ll0 5 [0] ?_
  refine Wl.call0 rfl T.fn77 rfl (by apply c77 <;> first | assumption | omega | rfl) ?_
  refine Wl.q rfl (Qy.pick rfl rfl) ?_
  exact Wl.back 4 0 rfl rfl rfl rfl rfl
  intro hg1
  refine Wl.ll0 4 [] ?_
  exact Wl.back 4 0 rfl rfl rfl rfl rfl
  refine Wl.ga 4 [] ?_
  refine Ar.out1 (.inr rfl) (Ho := Hp.only _ []) rfl (.tmp rfl) (Hp.sub_only _ _) ?_
  exact ⟨by congr 1; exact decide_eq_decide.mpr (by unfold near; omega), rfl, rfl⟩
theorem c48 (G : Imm) (a b : Int) : Does Tryz.prog 48 [.agg #[.int .i64 a, .int .i64 b]] G [] (fun v G' Ho => v = .bool (decide (a = 0 ∧ b = 0)) ∧ G' = G ∧ Ho = []) := by
  refine Does.enter Tryz.func48 rfl Tryz.ntmps48 rfl (fun w => ?_)
  refine Wc.gl 2 [] ?_
  refine Wl.box 0 rfl rfl rfl (fun b1 => ?_)
  refine Wl.gl 6 [0] ?_
  refine Wl.q rfl (Qy.build (cs := [_, _]) T.st34 rfl rfl rfl) ?_
  refine Wl.q rfl (Qy.eqlI [_, _] [_, _] T.ai34 rfl rfl rfl rfl) ?_
  refine Wl.ga 4 [] ?_
  refine Ar.out1 (.inr rfl) (Ho := Hp.only _ []) rfl (.tmp rfl) (Hp.sub_only _ _) ?_
  exact ⟨by congr 1; exact decide_eq_decide.mpr (by simp), rfl, rfl⟩
theorem c21 (G : Imm) (a b : Int) : Does Tryz.prog 21 [.agg #[.int .i64 a, .int .i64 b]] G [] (fun v G' Ho => v = .bool (decide (near a b)) ∧ G' = G ∧ Ho = []) := by
  refine Does.enter Tryz.func21 rfl Tryz.ntmps21 rfl (fun w => ?_)
  refine Wc.gl 2 [] ?_
  refine Wl.box 0 rfl rfl rfl (fun b1 => ?_)
  refine Wl.gl 9 [0] ?_
  apply Wl.joinAnd 4 6 10 rfl
  intro hg1
  refine Wl.ll0 7 [0] ?_
  exact Wl.back 4 0 rfl rfl rfl rfl rfl
  intro hg1
  refine Wl.ll0 4 [] ?_
  exact Wl.back 4 0 rfl rfl rfl rfl rfl
  refine Wl.q rfl (Qy.move rfl) ?_
  apply Wl.joinAnd 4 11 15 rfl
  intro hg1
  refine Wl.ll0 7 [0] ?_
  exact Wl.back 4 0 rfl rfl rfl rfl rfl
  intro hg1
  refine Wl.ll0 4 [] ?_
  exact Wl.back 4 0 rfl rfl rfl rfl rfl
  refine Wl.q rfl (Qy.move rfl) ?_
  apply Wl.joinAnd 4 16 20 rfl
  intro hg1
  refine Wl.ll0 7 [0] ?_
  exact Wl.back 4 0 rfl rfl rfl rfl rfl
  intro hg1
  refine Wl.ll0 4 [] ?_
  exact Wl.back 4 0 rfl rfl rfl rfl rfl
  refine Wl.ga 4 [] ?_
  refine Ar.out1 (.inr rfl) (Ho := Hp.only _ []) rfl (.tmp rfl) (Hp.sub_only _ _) ?_
  exact ⟨by congr 1; exact decide_eq_decide.mpr (by unfold near; omega), rfl, rfl⟩
theorem c22 (G : Imm) (a b : Int) : Does Tryz.prog 22 [.agg #[.int .i64 a, .int .i64 b]] G [] (fun v G' Ho => v = .bool (decide (a = 0 ∧ b = 0)) ∧ G' = G ∧ Ho = []) := by
  refine Does.enter Tryz.func22 rfl Tryz.ntmps22 rfl (fun w => ?_)
  refine Wc.gl 2 [] ?_
  refine Wl.box 0 rfl rfl rfl (fun b1 => ?_)
  refine Wl.gl 9 [0] ?_
  apply Wl.joinAnd 4 6 10 rfl
  intro hg1
  refine Wl.ll0 7 [0] ?_
  exact Wl.back 4 0 rfl rfl rfl rfl rfl
  intro hg1
  refine Wl.ll0 4 [] ?_
  exact Wl.back 4 0 rfl rfl rfl rfl rfl
  refine Wl.ga 4 [] ?_
  refine Ar.out1 (.inr rfl) (Ho := Hp.only _ []) rfl (.tmp rfl) (Hp.sub_only _ _) ?_
  exact ⟨rfl, rfl, rfl⟩
def normG (a b : Int) : Int := if b < 0 ∨ (b = 0 ∧ a < 0) then -(Int.gcd a b : Int) else (Int.gcd a b : Int)
def nrm (a b : Int) : Int × Int := if a = 0 ∧ b = 0 then (a, b) else (a.tdiv (normG a b), b.tdiv (normG a b))
theorem tdiv_rng (a g : Int) : -(a.natAbs : Int) ≤ a.tdiv g ∧ a.tdiv g ≤ a.natAbs := by
  have h : (a.tdiv g).natAbs = a.natAbs / g.natAbs := Int.natAbs_tdiv a g
  have h2 := Nat.div_le_self a.natAbs g.natAbs
  omega
theorem c113 (G : Imm) (a b : Int) (h1 : -4611686018427387904 ≤ a ∧ a ≤ 4611686018427387904) (h2 : -4611686018427387904 ≤ b ∧ b ≤ 4611686018427387904) : Does Tryz.prog 113 [.agg #[.int .i64 a, .int .i64 b]] G [] (fun v G' Ho => v = .agg #[.int .i64 (nrm a b).1, .int .i64 (nrm a b).2] ∧ G' = G ∧ Ho = []) := by
  refine Does.enter Tryz.func113 rfl Tryz.ntmps113 rfl (fun w => ?_)
  have hga := Int.gcd_dvd_left a b
  have hgb := Int.gcd_dvd_right a b
  have hgm : (Int.gcd a b : Int) ≤ 4611686018427387904 := by
    by_cases h : a = 0
    · subst h; rw [Int.gcd_zero_left]; omega
    · have := Int.le_of_dvd (show 0 < (a.natAbs : Int) by omega) (Int.dvd_natAbs.mpr hga); omega
  have q1 := tdiv_rng a (Int.gcd a b : Int)
  have q2 := tdiv_rng b (Int.gcd a b : Int)
  have q3 := tdiv_rng a (-(Int.gcd a b : Int))
  have q4 := tdiv_rng b (-(Int.gcd a b : Int))
  refine Wc.gl 2 [] ?_
  refine Wl.box 0 rfl rfl rfl (fun b1 => ?_)
  refine Wl.alloc 1 rfl T.zero34 (fun b2 => ?_)
  refine Wl.gl 8 [0, 0] ?_
  refine Wl.call0 rfl T.fn117 rfl (c117 _ _ _ (by omega) (by omega)) ?_
  refine Wl.gc 12 [] ?_
  refine Wc.cond rfl (fun hc1 => ?_) (fun hc1 => ?_)
  refine Wc.ga 9 [0, 1] ?_
  refine Ar.out1 (.inr rfl) (Ho := Hp.only _ []) rfl (.agg 1 rfl rfl T.agg34) (Hp.sub_only _ _) ?_
  rotate_left
  refine Wc.gc 9 [0] ?_
  refine Wc.cond rfl (fun hc2 => ?_) (fun hc2 => ?_)
  refine Wc.gl 5 [1] ?_
  refine Wl.q rfl (Qy.neg rfl (by omega)) ?_
  refine Wl.gc 5 [] ?_
  refine Wc.draw [0, 1] [(1, 9)] T.mixed rfl ?_
  refine Gm.q 0 [] (by kernel_rfl) rfl rfl (Qy.fieldAddr T.fa34_0 rfl) ?_
  refine Gm.q 1 [0] (by kernel_rfl) rfl rfl (Qy.load 0 T.one3 rfl rfl rfl) ?_
  refine Gm.q 2 [] (by kernel_rfl) rfl rfl (Qy.move rfl) ?_
  refine Gm.q 3 [] (by kernel_rfl) rfl rfl (Qy.quo rfl rfl (by omega) (by omega)) ?_
  refine Gm.q 4 [] (by kernel_rfl) rfl rfl (Qy.fieldAddr T.fa34_1 rfl) ?_
  refine Gm.q 5 [0] (by kernel_rfl) rfl rfl (Qy.load 0 T.one3 rfl rfl rfl) ?_
  refine Gm.q 6 [] (by kernel_rfl) rfl rfl (Qy.move rfl) ?_
  refine Gm.q 7 [] (by kernel_rfl) rfl rfl (Qy.quo rfl rfl (by omega) (by omega)) ?_
  refine Gm.q 8 [] (by kernel_rfl) rfl rfl (Qy.build (cs := [_, _]) T.st34 rfl rfl rfl) ?_
  refine Gm.one 9 ⟨rfl, rfl, trivial⟩ (by first | exact Imm.le_refl _ | assumption | (refine Imm.le_trans ?_ (by assumption); first | assumption | (refine Imm.le_trans ?_ (by assumption); assumption))) (by kernel_rfl) rfl ?_
  refine Wl.storeAll 1 T.size34 rfl rfl rfl rfl rfl rfl ?_
  refine Wl.on0 ?_
  refine Gm.doneA (by kernel_rfl) ⟨rfl, trivial⟩ (by first | exact Imm.le_refl _ | assumption | (refine Imm.le_trans ?_ (by assumption); first | assumption | (refine Imm.le_trans ?_ (by assumption); assumption))) ?_
  refine Ar.ga 2 [] ?_
  refine Ar.out1 (.inr rfl) (Ho := Hp.only _ []) rfl (.agg 1 rfl rfl T.agg34) (Hp.sub_only _ _) ?_
  rotate_left
  refine Wc.gl 5 [0] ?_
  apply Wl.joinAnd 4 20 24 rfl
  intro hg1
  refine Wl.ll0 7 [0] ?_
  exact Wl.back 4 0 rfl rfl rfl rfl rfl
  intro hg1
  refine Wl.ll0 4 [] ?_
  exact Wl.back 4 0 rfl rfl rfl rfl rfl
  refine Wl.gc 3 [] ?_
  refine Wc.cond rfl (fun hc3 => ?_) (fun hc3 => ?_)
  refine Wc.gl 2 [] ?_
  refine Wl.q rfl (Qy.neg rfl (by omega)) ?_
  refine Wl.gc 5 [] ?_
  refine Wc.draw [0, 1] [(1, 9)] T.mixed rfl ?_
  refine Gm.q 0 [] (by kernel_rfl) rfl rfl (Qy.fieldAddr T.fa34_0 rfl) ?_
  refine Gm.q 1 [0] (by kernel_rfl) rfl rfl (Qy.load 0 T.one3 rfl rfl rfl) ?_
  refine Gm.q 2 [] (by kernel_rfl) rfl rfl (Qy.move rfl) ?_
  refine Gm.q 3 [] (by kernel_rfl) rfl rfl (Qy.quo rfl rfl (by omega) (by omega)) ?_
  refine Gm.q 4 [] (by kernel_rfl) rfl rfl (Qy.fieldAddr T.fa34_1 rfl) ?_
  refine Gm.q 5 [0] (by kernel_rfl) rfl rfl (Qy.load 0 T.one3 rfl rfl rfl) ?_
  refine Gm.q 6 [] (by kernel_rfl) rfl rfl (Qy.move rfl) ?_
  refine Gm.q 7 [] (by kernel_rfl) rfl rfl (Qy.quo rfl rfl (by omega) (by omega)) ?_
  refine Gm.q 8 [] (by kernel_rfl) rfl rfl (Qy.build (cs := [_, _]) T.st34 rfl rfl rfl) ?_
  refine Gm.one 9 ⟨rfl, rfl, trivial⟩ (by first | exact Imm.le_refl _ | assumption | (refine Imm.le_trans ?_ (by assumption); first | assumption | (refine Imm.le_trans ?_ (by assumption); assumption))) (by kernel_rfl) rfl ?_
  refine Wl.storeAll 1 T.size34 rfl rfl rfl rfl rfl rfl ?_
  refine Wl.on0 ?_
  refine Gm.doneA (by kernel_rfl) ⟨rfl, trivial⟩ (by first | exact Imm.le_refl _ | assumption | (refine Imm.le_trans ?_ (by assumption); first | assumption | (refine Imm.le_trans ?_ (by assumption); assumption))) ?_
  refine Ar.ga 2 [] ?_
  refine Ar.out1 (.inr rfl) (Ho := Hp.only _ []) rfl (.agg 1 rfl rfl T.agg34) (Hp.sub_only _ _) ?_
  rotate_left
  refine Wc.gc 4 [] ?_
  refine Wc.draw [0, 1] [(1, 9)] T.mixed rfl ?_
  refine Gm.q 0 [] (by kernel_rfl) rfl rfl (Qy.fieldAddr T.fa34_0 rfl) ?_
  refine Gm.q 1 [0] (by kernel_rfl) rfl rfl (Qy.load 0 T.one3 rfl rfl rfl) ?_
  refine Gm.q 2 [] (by kernel_rfl) rfl rfl (Qy.move rfl) ?_
  refine Gm.q 3 [] (by kernel_rfl) rfl rfl (Qy.quo rfl rfl (by omega) (by omega)) ?_
  refine Gm.q 4 [] (by kernel_rfl) rfl rfl (Qy.fieldAddr T.fa34_1 rfl) ?_
  refine Gm.q 5 [0] (by kernel_rfl) rfl rfl (Qy.load 0 T.one3 rfl rfl rfl) ?_
  refine Gm.q 6 [] (by kernel_rfl) rfl rfl (Qy.move rfl) ?_
  refine Gm.q 7 [] (by kernel_rfl) rfl rfl (Qy.quoP rfl rfl (by omega)) ?_
  refine Gm.q 8 [] (by kernel_rfl) rfl rfl (Qy.build (cs := [_, _]) T.st34 rfl rfl rfl) ?_
  refine Gm.one 9 ⟨rfl, rfl, trivial⟩ (by first | exact Imm.le_refl _ | assumption | (refine Imm.le_trans ?_ (by assumption); first | assumption | (refine Imm.le_trans ?_ (by assumption); assumption))) (by kernel_rfl) rfl ?_
  refine Wl.storeAll 1 T.size34 rfl rfl rfl rfl rfl rfl ?_
  refine Wl.on0 ?_
  refine Gm.doneA (by kernel_rfl) ⟨rfl, trivial⟩ (by first | exact Imm.le_refl _ | assumption | (refine Imm.le_trans ?_ (by assumption); first | assumption | (refine Imm.le_trans ?_ (by assumption); assumption))) ?_
  refine Ar.ga 2 [] ?_
  refine Ar.out1 (.inr rfl) (Ho := Hp.only _ []) rfl (.agg 1 rfl rfl T.agg34) (Hp.sub_only _ _) ?_
  rotate_left
  · obtain ⟨ea, eb⟩ := Int.gcd_eq_zero_iff.mp (show Int.gcd a b = 0 by omega)
    exact ⟨by unfold nrm; rw [if_pos ⟨ea, eb⟩], rfl, rfl⟩
  · have hn : ¬(a = 0 ∧ b = 0) := by omega
    exact ⟨by unfold nrm normG; rw [if_neg hn, if_pos (by omega)], rfl, rfl⟩
  · have hn : ¬(a = 0 ∧ b = 0) := by omega
    exact ⟨by unfold nrm normG; rw [if_neg hn, if_pos (by omega)], rfl, rfl⟩
  · have hn : ¬(a = 0 ∧ b = 0) := fun h => hc1 (by rw [h.1, h.2]; rfl)
    exact ⟨by unfold nrm normG; rw [if_neg hn, if_neg (by omega), Int.tdiv_eq_ediv_of_nonneg (a := b) (by omega)], rfl, rfl⟩
def same (a b c d : Int) : Prop := nrm a b = nrm c d
instance (a b c d : Int) : Decidable (same a b c d) := inferInstanceAs (Decidable (_ = _))
theorem c78 (G : Imm) (a b c d : Int) : Does Tryz.prog 78 [.agg #[.int .i64 a, .int .i64 b], .agg #[.int .i64 c, .int .i64 d]] G [] (fun v G' Ho => v = .tuple #[.bool (decide (near a b ∧ near c d ∧ same a b c d)), .int .i64 (if near a b ∧ near c d then 0 else 2)] ∧ G' = G ∧ Ho = []) := by
  refine Does.enter Tryz.func78 rfl Tryz.ntmps78 rfl (fun w => ?_)
  refine Wc.gl 2 [] ?_
  refine Wl.box 0 rfl rfl rfl (fun b1 => ?_)
  refine Wl.box 1 rfl rfl rfl (fun b2 => ?_)
  refine Wl.gl 8 [0] ?_
  refine Wl.call0 rfl T.fn47 rfl (by apply c47 <;> first | assumption | omega | rfl) ?_
  refine Wl.q rfl (Qy.notD rfl) ?_
  refine Wl.q rfl (Qy.move rfl) ?_
  apply Wl.joinOr 4 9 13 rfl
  intro hg1
  refine Wl.ll0 3 [1] ?_
  refine Wl.call0 rfl T.fn47 rfl (by apply c47 <;> first | assumption | omega | rfl) ?_
  refine Wl.want rfl rfl ?_
  refine Wl.q rfl (Qy.notD rfl) ?_
  refine Wl.q rfl (Qy.pick rfl rfl) ?_
  exact Wl.back 4 0 rfl rfl rfl rfl rfl
  intro hg1
  refine Wl.ll0 4 [] ?_
  exact Wl.back 4 0 rfl rfl rfl rfl rfl
  refine Wl.gc 2 [] ?_
  refine Wc.cond rfl (fun hc1 => ?_) (fun hc1 => ?_)
  refine Wc.ga 8 [] ?_
  refine Ar.out2 (.inr rfl) (Ho := Hp.only _ []) rfl (.tmp rfl) (.tmp rfl) (Hp.sub_only _ _) ?_
  rotate_left
  refine Wc.gc 3 [] ?_
  refine Wc.draw [0, 1] [] T.mixed rfl ?_
  refine Gm.q 0 [0] (by kernel_rfl) rfl rfl (Qy.loadAll 0 T.agg34 rfl rfl rfl) ?_
  refine Gm.q 2 [1] (by kernel_rfl) rfl rfl (Qy.loadAll 1 T.agg34 rfl rfl rfl) ?_
  refine Gm.one 1 ⟨rfl, rfl, trivial⟩ (by first | exact Imm.le_refl _ | assumption | (refine Imm.le_trans ?_ (by assumption); first | assumption | (refine Imm.le_trans ?_ (by assumption); assumption))) (by kernel_rfl) rfl ?_
  refine Wl.call0 rfl T.fn113 rfl (c113 _ _ _ (by unfold near at *; omega) (by unfold near at *; omega)) ?_
  refine Wl.on0 ?_
  refine Gm.one 3 ⟨rfl, rfl, trivial⟩ (by first | exact Imm.le_refl _ | assumption | (refine Imm.le_trans ?_ (by assumption); first | assumption | (refine Imm.le_trans ?_ (by assumption); assumption))) (by kernel_rfl) rfl ?_
  refine Wl.call0 rfl T.fn113 rfl (c113 _ _ _ (by unfold near at *; omega) (by unfold near at *; omega)) ?_
  refine Wl.on0 ?_
  refine Gm.q 4 [] (by kernel_rfl) rfl rfl (Qy.eqlI [_, _] [_, _] T.ai34 rfl rfl rfl rfl) ?_
  refine Gm.q 5 [] (by kernel_rfl) rfl rfl (Qy.assign rfl) ?_
  refine Gm.q 6 [] (by kernel_rfl) rfl rfl (Qy.assign rfl) ?_
  refine Gm.doneA (by kernel_rfl) ⟨rfl, rfl, trivial⟩ (by first | exact Imm.le_refl _ | assumption | (refine Imm.le_trans ?_ (by assumption); first | assumption | (refine Imm.le_trans ?_ (by assumption); assumption))) ?_
  refine Ar.ga 2 [] ?_
  refine Ar.out2 (.inr rfl) (Ho := Hp.only _ []) rfl (.tmp rfl) (.tmp rfl) (Hp.sub_only _ _) ?_
  rotate_left
  · exact ⟨by rw [if_neg (by unfold near at *; omega), decide_eq_false (fun h => absurd (And.intro h.1 h.2.1) (by unfold near at *; omega))], rfl, rfl⟩
  · refine ⟨?_, rfl, rfl⟩
    rw [if_pos (by unfold near at *; omega)]
    congr 4
    exact decide_eq_decide.mpr (by unfold same near at *; rw [Prod.ext_iff]; simp; omega)
theorem mul_rng {a b c d : Int} (h : near a b) (k : near c d) : -256 ≤ a * d ∧ a * d ≤ 256 := by
  unfold near at *
  have h1 : (a * d).natAbs ≤ 16 * 16 := by rw [Int.natAbs_mul]; exact Nat.mul_le_mul (by omega) (by omega)
  omega
theorem c119 (G : Imm) (a b c d : Int) : Does Tryz.prog 119 [.agg #[.int .i64 a, .int .i64 b], .agg #[.int .i64 c, .int .i64 d]] G [] (fun v G' Ho => v = .tuple #[.int .i64 (if near a b ∧ near c d then a * d - c * b else 0), .int .i64 (if near a b ∧ near c d then 0 else 2)] ∧ G' = G ∧ Ho = []) := by
  refine Does.enter Tryz.func119 rfl Tryz.ntmps119 rfl (fun w => ?_)
  refine Wc.gl 2 [] ?_
  refine Wl.box 0 rfl rfl rfl (fun b1 => ?_)
  refine Wl.box 1 rfl rfl rfl (fun b2 => ?_)
  refine Wl.gl 8 [0] ?_
  refine Wl.call0 rfl T.fn47 rfl (by apply c47 <;> first | assumption | omega | rfl) ?_
  refine Wl.q rfl (Qy.notD rfl) ?_
  refine Wl.q rfl (Qy.move rfl) ?_
  apply Wl.joinOr 4 9 13 rfl
  intro hg1
  refine Wl.ll0 3 [1] ?_
  refine Wl.call0 rfl T.fn47 rfl (by apply c47 <;> first | assumption | omega | rfl) ?_
  refine Wl.want rfl rfl ?_
  refine Wl.q rfl (Qy.notD rfl) ?_
  refine Wl.q rfl (Qy.pick rfl rfl) ?_
  exact Wl.back 4 0 rfl rfl rfl rfl rfl
  intro hg1
  refine Wl.ll0 4 [] ?_
  exact Wl.back 4 0 rfl rfl rfl rfl rfl
  refine Wl.gc 2 [] ?_
  refine Wc.cond rfl (fun hc1 => ?_) (fun hc1 => ?_)
  refine Wc.ga 8 [] ?_
  refine Ar.out2 (.inr rfl) (Ho := Hp.only _ []) rfl (.tmp rfl) (.tmp rfl) (Hp.sub_only _ _) ?_
  rotate_left
  refine Wc.gl 8 [0, 1] ?_
  refine Wl.q rfl (Qy.mulW rfl rfl) ?_
  refine Wl.ll0 4 [1, 0] ?_
  refine Wl.q rfl (Qy.mulW rfl rfl) ?_
  refine Wl.q rfl (Qy.subW rfl rfl) ?_
  refine Wl.ga 5 [] ?_
  refine Ar.out2 (.inr rfl) (Ho := Hp.only _ []) rfl (.tmp rfl) (.tmp rfl) (Hp.sub_only _ _) ?_
  rotate_left
  · exact ⟨by rw [if_neg (by unfold near at *; omega), if_neg (by unfold near at *; omega)], rfl, rfl⟩
  · have hn : near a b ∧ near c d := by unfold near at *; omega
    have m1 := mul_rng hn.1 hn.2
    have m2 := mul_rng hn.2 hn.1
    exact ⟨by rw [if_pos hn, if_pos hn, IntWalk.i64_in (a * d) (by omega), IntWalk.i64_in (c * b) (by omega), IntWalk.i64_in _ (by omega)], rfl, rfl⟩
end Go.Proofs.YtelbhbbiejalhaaGreat
set_option maxRecDepth 100000
set_option linter.unusedVariables false
namespace Go.Proofs.YtelbhbbiejalhaaGreat
open Go Go.Sl
def alikeP (p q : R2) : Prop := near p.a p.b ∧ near q.a q.b ∧ same p.a p.b q.a q.b
def Twin (l : List R2) : Prop := ∃ j, j < l.length ∧ ∃ i, i < j ∧ alikeP (l[i]?.getD default) (l[j]?.getD default)
theorem c49 (G : Imm) (a : Option Addr) (c : Nat) (l : List R2) (ha : Arr G a l) (h1 : l.length ≤ 1048576) (hc : l.length ≤ c) : Does Tryz.prog 49 [.slice a l.length c] G [] (fun v G' Ho => ∃ (i j : Int) (b : Bool), v = .tuple #[.int .i64 i, .int .i64 j, .bool b] ∧ (b = true ↔ Twin l) ∧ G' = G ∧ Ho = []) := by
  refine Does.enter Tryz.func49 rfl Tryz.ntmps49 rfl (fun w => ?_)
  refine Wc.gc 16 [] ?_
  refine Wc.loop (ι := Nat) (fun j => ([(13, .int .i64 (j : Int)), (12, Go.Value.int Go.IntKind.i64 (↑(List.length l) : Int)), (11, Go.Value.slice a (List.length l) c), (0, Go.Value.slice a (List.length l) c)], [])) (fun j => j ≤ l.length ∧ (∀ j', j' < j → ∀ i, i < j' → ¬ alikeP (l[i]?.getD default) (l[j']?.getD default))) (fun j => l.length - j) (0) (⟨Nat.zero_le _, fun j' h => absurd h (by omega)⟩) ⟨rfl, rfl, rfl, rfl, trivial⟩ trivial (fun j => fun (hk : j ≤ l.length ∧ (∀ j', j' < j → ∀ i, i < j' → ¬ alikeP (l[i]?.getD default) (l[j']?.getD default))) => ?_)
  obtain ⟨hj, hno⟩ := hk
  refine Wc.gc 6 [] ?_
  refine Wc.cond rfl (fun hc1 => ?_) (fun hc1 => ?_)
  refine Wc.gl 7 [] ?_
  refine Wl.q rfl (Qy.at (α := R2) T.sl22 rfl rfl (by assumption) (by omega)) ?_
  refine Wl.q rfl (Qy.loadsG T.agg34 rfl (Arr.elem (by assumption) (by omega)) rfl) ?_
  refine Wl.alloc 0 rfl T.zero34 (fun b1 => ?_)
  refine Wl.gl 8 [0] ?_
  refine Wl.q rfl (Qy.cutH T.sl22 rfl rfl (by omega)) ?_
  refine Wl.gc 5 [] ?_
  rotate_left
  refine Wc.ga 13 [] ?_
  refine Ar.out3 (.inr rfl) (Ho := Hp.only _ []) rfl (.tmp rfl) (.tmp rfl) (.tmp rfl) (Hp.sub_only _ _) ?_
  rotate_left
  · have haj : Arr G (subA a c 0 2) (l.take j) := barr_sub ha j
    have ej : (l.take j).length = j := by rw [List.length_take]; omega
    refine Wc.re 20 rfl (show _ = Value.slice (subA a c 0 2) (l.take j).length c by rw [ej]; rfl) ?_
    refine Wc.loop (ι := Nat) (fun i => ([(22, .int .i64 (i : Int)), (0, .slice a l.length c), (11, .slice a l.length c), (12, .int .i64 (l.length : Int)), (20, Go.Value.slice (Go.Sl.subA a c 0 2) (List.length (List.take j l)) c), (21, Go.Value.int Go.IntKind.i64 (↑(Int.toNat (↑j : Int)) : Int)), (5, Go.Value.int Go.IntKind.i64 (↑j : Int)), (6, Go.Value.pointer (Option.some (Go.Addr.mk b1 0 Option.none))), (13, Go.Value.int Go.IntKind.i64 (↑j : Int))], [(0, Option.some b1, Go.Obj.cells (List.toArray (Go.Sl.Cells.enc (Option.getD l[Int.toNat (↑j : Int)]? Inhabited.default))) 34)])) (fun i => i ≤ j ∧ (∀ i', i' < i → ¬ alikeP (l[i']?.getD default) (l[j]?.getD default))) (fun i => j - i) (0) (⟨Nat.zero_le _, fun i' h => absurd h (by omega)⟩) ⟨rfl, rfl, rfl, rfl, rfl, rfl, rfl, rfl, rfl, trivial⟩ ⟨rfl, trivial⟩ (fun i => fun (hk : i ≤ j ∧ (∀ i', i' < i → ¬ alikeP (l[i']?.getD default) (l[j]?.getD default))) => ?_)
    obtain ⟨hi, hni⟩ := hk
    have eti : i < j → (l.take j)[((i : Nat) : Int).toNat]?.getD default = l[i]?.getD default := fun h => by rw [List.getElem?_take, if_pos (by omega)]; rfl
    have etj : l[((j : Nat) : Int).toNat]?.getD default = l[j]?.getD default := rfl
    refine Wc.gc 6 [] ?_
    refine Wc.cond rfl (fun hc2 => ?_) (fun hc2 => ?_)
    refine Wc.gl 7 [] ?_
    refine Wl.q rfl (Qy.at (α := R2) T.sl22 rfl rfl (by assumption) (by omega)) ?_
    refine Wl.q rfl (Qy.loadsG T.agg34 rfl (Arr.elem (by assumption) (by omega)) rfl) ?_
    refine Wl.alloc 1 rfl T.zero34 (fun b2 => ?_)
    refine Wl.gl 8 [1, 1, 0] ?_
    refine Wl.call0 rfl T.fn78 rfl (by apply c78 <;> first | assumption | omega | rfl) ?_
    refine Wl.gc 12 [] ?_
    refine Wc.cond rfl (fun hc3 => ?_) (fun hc3 => ?_)
    refine Wc.ga 19 [] ?_
    refine Ar.out3 (.inr rfl) (Ho := Hp.only _ []) rfl (.tmp rfl) (.tmp rfl) (.tmp rfl) (Hp.sub_only _ _) ?_
    rotate_left
    refine Wc.ga 7 [] ?_
    rotate_left
    refine Wc.ga 10 [] ?_
    rotate_left
    · rw [eti (by omega)] at hc3
      exact ⟨_, _, true, rfl, ⟨fun _ => ⟨j, by omega, i, by omega, hc3⟩, fun _ => rfl⟩, rfl, rfl⟩
    · refine Ar.re 22 rfl (show _ = Value.int .i64 ((i + 1 : Nat) : Int) from rfl) ?_
      refine Ar.again (i + 1) ?_ ?_ rfl ⟨rfl, rfl, rfl, rfl, rfl, rfl, rfl, rfl, rfl, trivial⟩ ⟨rfl, trivial⟩
      · refine ⟨by omega, fun i' h2 => ?_⟩
        rcases Nat.lt_or_ge i' i with h | h
        · exact hni i' h
        · have e : i' = i := by omega
          subst e; intro hq; rw [eti (by omega)] at hc3; exact hc3 hq
      · omega
    · refine Ar.re 13 rfl (show _ = Value.int .i64 ((j + 1 : Nat) : Int) from rfl) ?_
      refine Ar.again (j + 1) ?_ ?_ rfl ⟨rfl, rfl, rfl, rfl, trivial⟩ trivial
      · refine ⟨by omega, fun j' h1 i h2 => ?_⟩
        rcases Nat.lt_or_ge j' j with h | h
        · exact hno j' h i h2
        · have e : j' = j := by omega
          subst e; exact hni i (by omega)
      · omega
  · refine ⟨0, 0, false, rfl, ⟨fun h => absurd h (by decide), fun ⟨j', h1, i', h2, h3⟩ => absurd h3 (hno j' (by omega) i' h2)⟩, rfl, rfl⟩
def okP (p : R2) : Prop := near p.a p.b ∧ ¬ (p.a = 0 ∧ p.b = 0)
def RightL (l : List R2) : Prop := 1 ≤ l.length ∧ l.length ≤ 15 ∧ (∀ i, i < l.length → okP (l[i]?.getD default)) ∧ ¬ Twin l
theorem c20 (G : Imm) (a : Option Addr) (c : Nat) (l : List R2) (ha : Arr G a l) (h1 : l.length ≤ 1048576) (hc : l.length ≤ c) : Does Tryz.prog 20 [.slice a l.length c] G [] (fun v G' Ho => ∃ b : Bool, v = .bool b ∧ (b = true ↔ RightL l) ∧ G' = G ∧ Ho = []) := by
  refine Does.enter Tryz.func20 rfl Tryz.ntmps20 rfl (fun w => ?_)
  refine Wc.gl 12 [] ?_
  apply Wl.joinOr 4 11 15 rfl
  intro hg1
  refine Wl.ll0 7 [] ?_
  exact Wl.back 4 0 rfl rfl rfl rfl rfl
  intro hg1
  refine Wl.ll0 4 [] ?_
  exact Wl.back 4 0 rfl rfl rfl rfl rfl
  refine Wl.gc 2 [] ?_
  refine Wc.cond rfl (fun hc1 => ?_) (fun hc1 => ?_)
  refine Wc.ga 7 [] ?_
  refine Ar.out1 (.inr rfl) (Ho := Hp.only _ []) rfl (.tmp rfl) (Hp.sub_only _ _) ?_
  rotate_left
  refine Wc.gc 11 [] ?_
  rotate_left
  · exact ⟨false, rfl, ⟨fun h => absurd h (by decide), fun h => absurd h.1 (by have := h.2.1; omega)⟩, rfl, rfl⟩
  refine Wc.loop (ι := Nat) (fun j => ([(18, .int .i64 (j : Int)), (0, .slice a l.length c), (17, Go.Value.int Go.IntKind.i64 (↑(List.length l) : Int)), (16, Go.Value.slice a (List.length l) c)], [])) (fun j => j ≤ l.length ∧ (∀ i, i < j → okP (l[i]?.getD default))) (fun j => l.length - j) (0) (⟨Nat.zero_le _, fun j' h => absurd h (by omega)⟩) ⟨rfl, rfl, rfl, rfl, trivial⟩ trivial (fun j => fun (hk : j ≤ l.length ∧ (∀ i, i < j → okP (l[i]?.getD default))) => ?_)
  obtain ⟨hj, hno⟩ := hk
  refine Wc.gc 6 [] ?_
  refine Wc.cond rfl (fun hc2 => ?_) (fun hc2 => ?_)
  refine Wc.gl 6 [] ?_
  refine Wl.q rfl (Qy.at (α := R2) T.sl22 rfl rfl (by assumption) (by omega)) ?_
  refine Wl.q rfl (Qy.loadsG T.agg34 rfl (Arr.elem (by assumption) (by omega)) rfl) ?_
  refine Wl.alloc 0 rfl T.zero34 (fun b1 => ?_)
  refine Wl.gl 6 [0, 0] ?_
  refine Wl.call0 rfl T.fn47 rfl (by apply c47 <;> first | assumption | omega | rfl) ?_
  refine Wl.q rfl (Qy.notD rfl) ?_
  refine Wl.q rfl (Qy.move rfl) ?_
  apply Wl.joinOr 3 25 28 rfl
  intro hg1
  refine Wl.ll0 3 [0] ?_
  refine Wl.call0 rfl T.fn48 rfl (by apply c48 <;> first | assumption | omega | rfl) ?_
  refine Wl.q rfl (Qy.pick rfl rfl) ?_
  exact Wl.back 3 0 rfl rfl rfl rfl rfl
  intro hg1
  refine Wl.ll0 3 [] ?_
  exact Wl.back 3 0 rfl rfl rfl rfl rfl
  refine Wl.gc 2 [] ?_
  refine Wc.cond rfl (fun hc3 => ?_) (fun hc3 => ?_)
  refine Wc.ga 11 [] ?_
  refine Ar.out1 (.inr rfl) (Ho := Hp.only _ []) rfl (.tmp rfl) (Hp.sub_only _ _) ?_
  rotate_left
  refine Wc.ga 7 [] ?_
  rotate_left
  refine Wc.gl 8 [] ?_
  refine Wl.call 0 rfl T.fn49 rfl (c49 _ _ _ _ (by assumption) (by omega) (by first | assumption | omega)) (tags_of trivial) (fun v1 G1 Ho1 hle1 hp => ?_)
  obtain ⟨ti1, tj1, tb1, rfl, htb1, rfl, rfl⟩ := hp
  refine Wl.ga 17 [] ?_
  refine Ar.out1 (.inr rfl) (Ho := Hp.only _ []) rfl (.tmp rfl) (Hp.sub_only _ _) ?_
  rotate_left
  · exact ⟨false, rfl, ⟨fun h => absurd h (by decide), fun h => absurd (h.2.2.1 j (by omega)) (by show ¬ okP (l[((j : Nat) : Int).toNat]?.getD default); unfold okP; unfold near at *; omega)⟩, rfl, rfl⟩
  · refine Ar.re 18 rfl (show _ = Value.int .i64 ((j + 1 : Nat) : Int) from rfl) ?_
    refine Ar.again (j + 1) ?_ ?_ rfl ⟨rfl, rfl, rfl, rfl, trivial⟩ trivial
    · refine ⟨by omega, fun i' h2 => ?_⟩
      rcases Nat.lt_or_ge i' j with h | h
      · exact hno i' h
      · have e : i' = j := by omega
        subst e
        show okP (l[((i' : Nat) : Int).toNat]?.getD default)
        unfold okP; unfold near at *; omega
    · omega
  · refine ⟨!tb1, rfl, ?_, rfl, rfl⟩
    have e : (∀ i, i < l.length → okP (l[i]?.getD default)) := fun i hi => hno i (by omega)
    rw [Bool.not_eq_true', Bool.eq_false_iff, ne_eq, htb1]
    exact ⟨fun h => ⟨by omega, by omega, e, h⟩, fun h => h.2.2.2⟩
end Go.Proofs.YtelbhbbiejalhaaGreat
set_option maxRecDepth 100000
set_option linter.unusedVariables false
namespace Go.Proofs.YtelbhbbiejalhaaGreat
open Go Go.Sl
theorem c79 (G : Imm) (a b c d : Int) (hp : near a b) (hq : near c d) : Does Tryz.prog 79 [.agg #[.int .i64 a, .int .i64 b], .agg #[.int .i64 c, .int .i64 d]] G [] (fun v G' Ho => v = .int .i64 (a * d - c * b) ∧ G' = G ∧ Ho = []) := by
  refine Does.enter Tryz.func79 rfl Tryz.ntmps79 rfl (fun w => ?_)
  have m1 := mul_rng hp hq
  have m2 := mul_rng hq hp
  refine Wc.gl 2 [] ?_
  refine Wl.box 0 rfl rfl rfl (fun b1 => ?_)
  refine Wl.box 1 rfl rfl rfl (fun b2 => ?_)
  refine Wl.gl 9 [0, 1] ?_
  refine Wl.q rfl (Qy.mul rfl rfl (by omega)) ?_
  refine Wl.ll0 4 [1, 0] ?_
  refine Wl.q rfl (Qy.mul rfl rfl (by omega)) ?_
  refine Wl.ga 5 [] ?_
  refine Ar.out1 (.inr rfl) (Ho := Hp.only _ []) rfl (.tmp rfl) (Hp.sub_only _ _) ?_
  exact ⟨rfl, rfl, rfl⟩
instance (a b c d : Int) : Decidable (if (a = 0 ∧ b = 0) ∨ (c = 0 ∧ d = 0) then (a = 0 ∧ b = 0) ∧ (c = 0 ∧ d = 0) else a * d - c * b = 0) := by split <;> infer_instance
def oneR (a b c d : Int) : Prop := if (a = 0 ∧ b = 0) ∨ (c = 0 ∧ d = 0) then (a = 0 ∧ b = 0) ∧ (c = 0 ∧ d = 0) else a * d - c * b = 0
instance (a b c d : Int) : Decidable (oneR a b c d) := inferInstanceAs (Decidable (if (a = 0 ∧ b = 0) ∨ (c = 0 ∧ d = 0) then (a = 0 ∧ b = 0) ∧ (c = 0 ∧ d = 0) else a * d - c * b = 0))
theorem c50 (G : Imm) (a b c d : Int) (hp : near a b) (hq : near c d) : Does Tryz.prog 50 [.agg #[.int .i64 a, .int .i64 b], .agg #[.int .i64 c, .int .i64 d]] G [] (fun v G' Ho => v = .bool (decide (oneR a b c d)) ∧ G' = G ∧ Ho = []) := by
  refine Does.enter Tryz.func50 rfl Tryz.ntmps50 rfl (fun w => ?_)
  refine Wc.gl 2 [] ?_
  refine Wl.box 0 rfl rfl rfl (fun b1 => ?_)
  refine Wl.box 1 rfl rfl rfl (fun b2 => ?_)
  refine Wl.gl 7 [0] ?_
  refine Wl.call0 rfl T.fn22 rfl (by apply c22 <;> first | assumption | omega | rfl) ?_
  refine Wl.q rfl (Qy.move rfl) ?_
  apply Wl.joinOr 3 7 10 rfl
  intro hg1
  refine Wl.ll0 3 [1] ?_
  refine Wl.call0 rfl T.fn22 rfl (by apply c22 <;> first | assumption | omega | rfl) ?_
  refine Wl.q rfl (Qy.pick rfl rfl) ?_
  exact Wl.back 3 0 rfl rfl rfl rfl rfl
  intro hg1
  refine Wl.ll0 3 [] ?_
  exact Wl.back 3 0 rfl rfl rfl rfl rfl
  refine Wl.gc 2 [] ?_
  refine Wc.cond rfl (fun hc1 => ?_) (fun hc1 => ?_)
  refine Wc.gl 3 [0] ?_
  refine Wl.call0 rfl T.fn22 rfl (by apply c22 <;> first | assumption | omega | rfl) ?_
  refine Wl.q rfl (Qy.move rfl) ?_
  apply Wl.joinAnd 3 13 16 rfl
  intro hg1
  refine Wl.ll0 3 [1] ?_
  refine Wl.call0 rfl T.fn22 rfl (by apply c22 <;> first | assumption | omega | rfl) ?_
  refine Wl.q rfl (Qy.pick rfl rfl) ?_
  exact Wl.back 3 0 rfl rfl rfl rfl rfl
  intro hg1
  refine Wl.ll0 3 [] ?_
  exact Wl.back 3 0 rfl rfl rfl rfl rfl
  refine Wl.ga 5 [] ?_
  refine Ar.out1 (.inr rfl) (Ho := Hp.only _ []) rfl (.tmp rfl) (Hp.sub_only _ _) ?_
  rotate_left
  refine Wc.gl 6 [0, 1] ?_
  refine Wl.call0 rfl T.fn79 rfl (c79 _ _ _ _ _ (by assumption) (by assumption)) ?_
  refine Wl.ga 5 [] ?_
  refine Ar.out1 (.inr rfl) (Ho := Hp.only _ []) rfl (.tmp rfl) (Hp.sub_only _ _) ?_
  rotate_left
  · exact ⟨by congr 1; exact decide_eq_decide.mpr (by unfold oneR; rw [if_pos hc1]), rfl, rfl⟩
  · exact ⟨by congr 1; exact decide_eq_decide.mpr (by unfold oneR; rw [if_neg hc1]), rfl, rfl⟩
def alikeR (p q : R2) : Prop := near p.a p.b ∧ near q.a q.b ∧ oneR p.a p.b q.a q.b
def TwinR (l : List R2) : Prop := ∃ j, j < l.length ∧ ∃ i, i < j ∧ alikeR (l[i]?.getD default) (l[j]?.getD default)
theorem c23 (G : Imm) (a : Option Addr) (c : Nat) (l : List R2) (ha : Arr G a l) (h1 : l.length ≤ 1048576) (hc : l.length ≤ c) : Does Tryz.prog 23 [.slice a l.length c] G [] (fun v G' Ho => ∃ (i j : Int) (b : Bool), v = .tuple #[.int .i64 i, .int .i64 j, .bool b] ∧ (b = true ↔ TwinR l) ∧ G' = G ∧ Ho = []) := by
  refine Does.enter Tryz.func23 rfl Tryz.ntmps23 rfl (fun w => ?_)
  refine Wc.gc 14 [] ?_
  refine Wc.loop (ι := Nat) (fun j => ([(5, .int .i64 (j : Int)), (0, .slice a l.length c)], [])) (fun j => j ≤ l.length ∧ (∀ j', j' < j → ∀ i, i < j' → ¬ alikeR (l[i]?.getD default) (l[j']?.getD default))) (fun j => l.length - j) (0) (⟨Nat.zero_le _, fun j' h => absurd h (by omega)⟩) ⟨rfl, rfl, trivial⟩ trivial (fun j => fun (hk : j ≤ l.length ∧ (∀ j', j' < j → ∀ i, i < j' → ¬ alikeR (l[i]?.getD default) (l[j']?.getD default))) => ?_)
  obtain ⟨hj, hno⟩ := hk
  refine Wc.gc 9 [] ?_
  refine Wc.cond rfl (fun hc1 => ?_) (fun hc1 => ?_)
  refine Wc.gc 10 [] ?_
  rotate_left
  refine Wc.ga 13 [] ?_
  refine Ar.out3 (.inr rfl) (Ho := Hp.only _ []) rfl (.tmp rfl) (.tmp rfl) (.tmp rfl) (Hp.sub_only _ _) ?_
  rotate_left
  · refine Wc.loop (ι := Nat) (fun i => ([(6, .int .i64 (i : Int)), (5, .int .i64 (j : Int)), (0, .slice a l.length c)], [])) (fun i => i ≤ j ∧ (∀ i', i' < i → ¬ alikeR (l[i']?.getD default) (l[j]?.getD default))) (fun i => j - i) (0) (⟨Nat.zero_le _, fun i' h => absurd h (by omega)⟩) ⟨rfl, rfl, rfl, trivial⟩ trivial (fun i => fun (hk : i ≤ j ∧ (∀ i', i' < i → ¬ alikeR (l[i']?.getD default) (l[j]?.getD default))) => ?_)
    obtain ⟨hi, hni⟩ := hk
    have eti : l[((i : Nat) : Int).toNat]?.getD default = l[i]?.getD default := rfl
    have etj : l[((j : Nat) : Int).toNat]?.getD default = l[j]?.getD default := rfl
    refine Wc.gc 8 [] ?_
    refine Wc.cond rfl (fun hc2 => ?_) (fun hc2 => ?_)
    refine Wc.gc 5 [] ?_
    refine Wc.draw [] [] T.mixed rfl ?_
    refine Gm.q 0 [] (by kernel_rfl) rfl rfl (Qy.move rfl) ?_
    refine Gm.q 1 [] (by kernel_rfl) rfl rfl (Qy.move rfl) ?_
    refine Gm.q 2 [] (by kernel_rfl) rfl rfl (Qy.at (α := R2) T.sl22 rfl rfl (by assumption) (by omega)) ?_
    refine Gm.q 3 [] (by kernel_rfl) rfl rfl (Qy.loadsG T.agg34 rfl (Arr.elem (by assumption) (by omega)) rfl) ?_
    refine Gm.one 4 trivial (by first | exact Imm.le_refl _ | assumption | (refine Imm.le_trans ?_ (by assumption); first | assumption | (refine Imm.le_trans ?_ (by assumption); assumption))) (by kernel_rfl) rfl ?_
    refine Wl.call0 rfl T.fn21 rfl (by apply c21 <;> first | assumption | omega | rfl) ?_
    refine Wl.on0 ?_
    refine Gm.q 5 [] (by kernel_rfl) rfl rfl (Qy.move rfl) ?_
    refine Gm.cases 23 rfl (fun hg1 => ?_) (fun hg1 => ?_)
    refine Gm.qYes 6 [] (by kernel_rfl) rfl rfl rfl rfl (Qy.move rfl) ?_
    refine Gm.qYes 7 [] (by kernel_rfl) rfl rfl rfl rfl (Qy.move rfl) ?_
    refine Gm.qYes 8 [] (by kernel_rfl) rfl rfl rfl rfl (Qy.at (α := R2) T.sl22 rfl rfl (by assumption) (by omega)) ?_
    refine Gm.qYes 9 [] (by kernel_rfl) rfl rfl rfl rfl (Qy.loadsG T.agg34 rfl (Arr.elem (by assumption) (by omega)) rfl) ?_
    refine Gm.one 10 trivial (by first | exact Imm.le_refl _ | assumption | (refine Imm.le_trans ?_ (by assumption); first | assumption | (refine Imm.le_trans ?_ (by assumption); assumption))) (by kernel_rfl) rfl ?_
    refine Wl.want rfl rfl ?_
    refine Wl.call0 rfl T.fn21 rfl (by apply c21 <;> first | assumption | omega | rfl) ?_
    refine Wl.on0 ?_
    refine Gm.q 11 [] (by kernel_rfl) rfl rfl (Qy.pick rfl rfl) ?_
    refine Gm.q 12 [] (by kernel_rfl) rfl rfl (Qy.move rfl) ?_
    refine Gm.cases 30 rfl (fun hg2 => ?_) (fun hg2 => ?_)
    refine Gm.qYes 13 [] (by kernel_rfl) rfl rfl rfl rfl (Qy.move rfl) ?_
    refine Gm.qYes 14 [] (by kernel_rfl) rfl rfl rfl rfl (Qy.move rfl) ?_
    refine Gm.qYes 15 [] (by kernel_rfl) rfl rfl rfl rfl (Qy.at (α := R2) T.sl22 rfl rfl (by assumption) (by omega)) ?_
    refine Gm.qYes 16 [] (by kernel_rfl) rfl rfl rfl rfl (Qy.loadsG T.agg34 rfl (Arr.elem (by assumption) (by omega)) rfl) ?_
    refine Gm.qYes 17 [] (by kernel_rfl) rfl rfl rfl rfl (Qy.move rfl) ?_
    refine Gm.qYes 18 [] (by kernel_rfl) rfl rfl rfl rfl (Qy.move rfl) ?_
    refine Gm.qYes 19 [] (by kernel_rfl) rfl rfl rfl rfl (Qy.at (α := R2) T.sl22 rfl rfl (by assumption) (by omega)) ?_
    refine Gm.qYes 20 [] (by kernel_rfl) rfl rfl rfl rfl (Qy.loadsG T.agg34 rfl (Arr.elem (by assumption) (by omega)) rfl) ?_
    refine Gm.one 21 trivial (by first | exact Imm.le_refl _ | assumption | (refine Imm.le_trans ?_ (by assumption); first | assumption | (refine Imm.le_trans ?_ (by assumption); assumption))) (by kernel_rfl) rfl ?_
    refine Wl.want rfl rfl ?_
    refine Wl.call0 rfl T.fn50 rfl (c50 _ _ _ _ _ (by first | assumption | exact And.left (by assumption)) (by first | assumption | exact And.right (by assumption))) ?_
    refine Wl.on0 ?_
    refine Gm.q 22 [] (by kernel_rfl) rfl rfl (Qy.pick rfl rfl) ?_
    refine Gm.doneA (by kernel_rfl) trivial (by first | exact Imm.le_refl _ | assumption | (refine Imm.le_trans ?_ (by assumption); first | assumption | (refine Imm.le_trans ?_ (by assumption); assumption))) ?_
    refine Ar.next ?_
    refine Wc.cond rfl (fun hc3 => ?_) (fun hc3 => ?_)
    refine Wc.ga 19 [] ?_
    refine Ar.out3 (.inr rfl) (Ho := Hp.only _ []) rfl (.tmp rfl) (.tmp rfl) (.tmp rfl) (Hp.sub_only _ _) ?_
    rotate_left
    refine Wc.ga 8 [] ?_
    rotate_left
    refine Gm.qNo 13 (by kernel_rfl) rfl rfl rfl rfl ?_
    refine Gm.qNo 14 (by kernel_rfl) rfl rfl rfl rfl ?_
    refine Gm.qNo 15 (by kernel_rfl) rfl rfl rfl rfl ?_
    refine Gm.qNo 16 (by kernel_rfl) rfl rfl rfl rfl ?_
    refine Gm.qNo 17 (by kernel_rfl) rfl rfl rfl rfl ?_
    refine Gm.qNo 18 (by kernel_rfl) rfl rfl rfl rfl ?_
    refine Gm.qNo 19 (by kernel_rfl) rfl rfl rfl rfl ?_
    refine Gm.qNo 20 (by kernel_rfl) rfl rfl rfl rfl ?_
    refine Gm.qNo 21 (by kernel_rfl) rfl rfl rfl rfl ?_
    refine Gm.q 22 [] (by kernel_rfl) rfl rfl (Qy.pick rfl rfl) ?_
    refine Gm.doneA (by kernel_rfl) trivial (by first | exact Imm.le_refl _ | assumption | (refine Imm.le_trans ?_ (by assumption); first | assumption | (refine Imm.le_trans ?_ (by assumption); assumption))) ?_
    refine Ar.ga 10 [0] ?_
    rotate_left
    refine Gm.qNo 6 (by kernel_rfl) rfl rfl rfl rfl ?_
    refine Gm.qNo 7 (by kernel_rfl) rfl rfl rfl rfl ?_
    refine Gm.qNo 8 (by kernel_rfl) rfl rfl rfl rfl ?_
    refine Gm.qNo 9 (by kernel_rfl) rfl rfl rfl rfl ?_
    refine Gm.qNo 10 (by kernel_rfl) rfl rfl rfl rfl ?_
    refine Gm.q 11 [] (by kernel_rfl) rfl rfl (Qy.pick rfl rfl) ?_
    refine Gm.q 12 [] (by kernel_rfl) rfl rfl (Qy.move rfl) ?_
    refine Gm.qNo 13 (by kernel_rfl) rfl rfl rfl rfl ?_
    refine Gm.qNo 14 (by kernel_rfl) rfl rfl rfl rfl ?_
    refine Gm.qNo 15 (by kernel_rfl) rfl rfl rfl rfl ?_
    refine Gm.qNo 16 (by kernel_rfl) rfl rfl rfl rfl ?_
    refine Gm.qNo 17 (by kernel_rfl) rfl rfl rfl rfl ?_
    refine Gm.qNo 18 (by kernel_rfl) rfl rfl rfl rfl ?_
    refine Gm.qNo 19 (by kernel_rfl) rfl rfl rfl rfl ?_
    refine Gm.qNo 20 (by kernel_rfl) rfl rfl rfl rfl ?_
    refine Gm.qNo 21 (by kernel_rfl) rfl rfl rfl rfl ?_
    refine Gm.q 22 [] (by kernel_rfl) rfl rfl (Qy.pick rfl rfl) ?_
    refine Gm.doneA (by kernel_rfl) trivial (by first | exact Imm.le_refl _ | assumption | (refine Imm.le_trans ?_ (by assumption); first | assumption | (refine Imm.le_trans ?_ (by assumption); assumption))) ?_
    refine Ar.ga 10 [0] ?_
    rotate_left
    refine Wc.ga 11 [] ?_
    rotate_left
    · exact ⟨_, _, true, rfl, ⟨fun _ => ⟨j, by omega, i, by omega, hg1, hg2, hc3⟩, fun _ => rfl⟩, rfl, rfl⟩
    · refine Ar.re 6 rfl (show _ = Value.int .i64 ((i + 1 : Nat) : Int) from rfl) ?_
      refine Ar.again (i + 1) ?_ ?_ rfl ⟨rfl, rfl, rfl, trivial⟩ trivial
      · refine ⟨by omega, fun i' h2 => ?_⟩
        rcases Nat.lt_or_ge i' i with h | h
        · exact hni i' h
        · have e : i' = i := by omega
          subst e; exact fun hq => hc3 hq.2.2
      · omega
    · refine Ar.re 6 rfl (show _ = Value.int .i64 ((i + 1 : Nat) : Int) from rfl) ?_
      refine Ar.again (i + 1) ?_ ?_ rfl ⟨rfl, rfl, rfl, trivial⟩ trivial
      · refine ⟨by omega, fun i' h2 => ?_⟩
        rcases Nat.lt_or_ge i' i with h | h
        · exact hni i' h
        · have e : i' = i := by omega
          subst e; exact fun hq => hg2 hq.2.1
      · omega
    · refine Ar.re 6 rfl (show _ = Value.int .i64 ((i + 1 : Nat) : Int) from rfl) ?_
      refine Ar.again (i + 1) ?_ ?_ rfl ⟨rfl, rfl, rfl, trivial⟩ trivial
      · refine ⟨by omega, fun i' h2 => ?_⟩
        rcases Nat.lt_or_ge i' i with h | h
        · exact hni i' h
        · have e : i' = i := by omega
          subst e; exact fun hq => hg1 hq.1
      · omega
    · refine Ar.re 5 rfl (show _ = Value.int .i64 ((j + 1 : Nat) : Int) from rfl) ?_
      refine Ar.again (j + 1) ?_ ?_ rfl ⟨rfl, rfl, trivial⟩ trivial
      · refine ⟨by omega, fun j' h1 i h2 => ?_⟩
        rcases Nat.lt_or_ge j' j with h | h
        · exact hno j' h i h2
        · have e : j' = j := by omega
          subst e; exact hni i (by omega)
      · omega
  · refine ⟨0, 0, false, rfl, ⟨fun h => absurd h (by decide), fun ⟨j', h1, i', h2, h3⟩ => absurd h3 (hno j' (by omega) i' h2)⟩, rfl, rfl⟩
def RightR (l : List R2) : Prop := 1 ≤ l.length ∧ l.length ≤ 15 ∧ (∀ i, i < l.length → okP (l[i]?.getD default)) ∧ ¬ TwinR l
theorem c7 (G : Imm) (a : Option Addr) (c : Nat) (l : List R2) (ha : Arr G a l) (h1 : l.length ≤ 1048576) (hc : l.length ≤ c) : Does Tryz.prog 7 [.slice a l.length c] G [] (fun v G' Ho => ∃ b : Bool, v = .bool b ∧ (b = true ↔ RightR l) ∧ G' = G ∧ Ho = []) := by
  refine Does.enter Tryz.func7 rfl Tryz.ntmps7 rfl (fun w => ?_)
  refine Wc.gl 12 [] ?_
  apply Wl.joinOr 4 10 14 rfl
  intro hg1
  refine Wl.ll0 7 [] ?_
  exact Wl.back 4 0 rfl rfl rfl rfl rfl
  intro hg1
  refine Wl.ll0 4 [] ?_
  exact Wl.back 4 0 rfl rfl rfl rfl rfl
  refine Wl.gc 2 [] ?_
  refine Wc.cond rfl (fun hc1 => ?_) (fun hc1 => ?_)
  refine Wc.ga 7 [] ?_
  refine Ar.out1 (.inr rfl) (Ho := Hp.only _ []) rfl (.tmp rfl) (Hp.sub_only _ _) ?_
  rotate_left
  refine Wc.gc 9 [] ?_
  rotate_left
  · exact ⟨false, rfl, ⟨fun h => absurd h (by decide), fun h => absurd h.1 (by have := h.2.1; omega)⟩, rfl, rfl⟩
  refine Wc.loop (ι := Nat) (fun j => ([(3, .int .i64 (j : Int)), (0, .slice a l.length c)], [])) (fun j => j ≤ l.length ∧ (∀ i, i < j → okP (l[i]?.getD default))) (fun j => l.length - j) (0) (⟨Nat.zero_le _, fun j' h => absurd h (by omega)⟩) ⟨rfl, rfl, trivial⟩ trivial (fun j => fun (hk : j ≤ l.length ∧ (∀ i, i < j → okP (l[i]?.getD default))) => ?_)
  obtain ⟨hj, hno⟩ := hk
  have etj : l[((j : Nat) : Int).toNat]?.getD default = l[j]?.getD default := rfl
  refine Wc.gc 9 [] ?_
  refine Wc.cond rfl (fun hc2 => ?_) (fun hc2 => ?_)
  refine Wc.gl 8 [] ?_
  refine Wl.q rfl (Qy.at (α := R2) T.sl22 rfl rfl (by assumption) (by omega)) ?_
  refine Wl.q rfl (Qy.loadsG T.agg34 rfl (Arr.elem (by assumption) (by omega)) rfl) ?_
  refine Wl.call0 rfl T.fn21 rfl (by apply c21 <;> first | assumption | omega | rfl) ?_
  refine Wl.q rfl (Qy.notD rfl) ?_
  refine Wl.q rfl (Qy.move rfl) ?_
  apply Wl.joinOr 6 27 33 rfl
  intro hg1
  refine Wl.ll0 5 [] ?_
  refine Wl.q rfl (Qy.at (α := R2) T.sl22 rfl rfl (by assumption) (by omega)) ?_
  refine Wl.want rfl rfl ?_
  refine Wl.q rfl (Qy.loadsG T.agg34 rfl (Arr.elem (by assumption) (by omega)) rfl) ?_
  refine Wl.want rfl rfl ?_
  refine Wl.call0 rfl T.fn22 rfl (by apply c22 <;> first | assumption | omega | rfl) ?_
  refine Wl.q rfl (Qy.pick rfl rfl) ?_
  exact Wl.back 6 0 rfl rfl rfl rfl rfl
  intro hg1
  refine Wl.ll0 6 [] ?_
  exact Wl.back 6 0 rfl rfl rfl rfl rfl
  refine Wl.gc 2 [] ?_
  refine Wc.cond rfl (fun hc3 => ?_) (fun hc3 => ?_)
  refine Wc.ga 11 [] ?_
  refine Ar.out1 (.inr rfl) (Ho := Hp.only _ []) rfl (.tmp rfl) (Hp.sub_only _ _) ?_
  rotate_left
  refine Wc.ga 8 [] ?_
  rotate_left
  refine Wc.gl 8 [] ?_
  refine Wl.call 0 rfl T.fn23 rfl (c23 _ _ _ _ (by assumption) (by omega) (by first | assumption | omega)) (tags_of trivial) (fun v1 G1 Ho1 hle1 hp => ?_)
  obtain ⟨ti1, tj1, tb1, rfl, htb1, rfl, rfl⟩ := hp
  refine Wl.ga 17 [] ?_
  refine Ar.out1 (.inr rfl) (Ho := Hp.only _ []) rfl (.tmp rfl) (Hp.sub_only _ _) ?_
  rotate_left
  · exact ⟨false, rfl, ⟨fun h => absurd h (by decide), fun h => absurd (h.2.2.1 j (by omega)) (by show ¬ okP (l[((j : Nat) : Int).toNat]?.getD default); unfold okP; unfold near at *; omega)⟩, rfl, rfl⟩
  · refine Ar.re 3 rfl (show _ = Value.int .i64 ((j + 1 : Nat) : Int) from rfl) ?_
    refine Ar.again (j + 1) ?_ ?_ rfl ⟨rfl, rfl, trivial⟩ trivial
    · refine ⟨by omega, fun i' h2 => ?_⟩
      rcases Nat.lt_or_ge i' j with h | h
      · exact hno i' h
      · have e : i' = j := by omega
        subst e
        show okP (l[((i' : Nat) : Int).toNat]?.getD default)
        unfold okP; unfold near at *; omega
    · omega
  · refine ⟨!tb1, rfl, ?_, rfl, rfl⟩
    have e : (∀ i, i < l.length → okP (l[i]?.getD default)) := fun i hi => hno i (by omega)
    rw [Bool.not_eq_true', Bool.eq_false_iff, ne_eq, htb1]
    exact ⟨fun h => ⟨by omega, by omega, e, h⟩, fun h => h.2.2.2⟩
end Go.Proofs.YtelbhbbiejalhaaGreat
set_option linter.unusedVariables false
namespace Go.Proofs.YtelbhbbiejalhaaGreat
open Go Go.Sl
theorem mul_sign_pos {y g : Int} (h : y * g < 0) (hg : g < 0) : 0 < y := by
  rcases Int.lt_trichotomy y 0 with h1 | h1 | h1
  · have := Int.mul_pos_of_neg_of_neg h1 hg; omega
  · subst h1; rw [Int.zero_mul] at h; omega
  · exact h1
theorem mul_sign_pos' {y g : Int} (h : 0 < y * g) (hg : 0 < g) : 0 < y := by
  rcases Int.lt_trichotomy y 0 with h1 | h1 | h1
  · have := Int.mul_neg_of_neg_of_pos h1 hg; omega
  · subst h1; rw [Int.zero_mul] at h; omega
  · exact h1
theorem nrm_canon {a b : Int} (h : ¬ (a = 0 ∧ b = 0)) : ∃ x y g : Int, nrm a b = (x, y) ∧ g ≠ 0 ∧ x * g = a ∧ y * g = b ∧ Int.gcd x y = 1 ∧ (0 < y ∨ (y = 0 ∧ 0 < x)) := by
  have hg0 : 0 < Int.gcd a b := by
    rcases Nat.eq_zero_or_pos (Int.gcd a b) with h0 | h0
    · exact absurd (Int.gcd_eq_zero_iff.mp h0) h
    · exact h0
  have hgn : normG a b ≠ 0 := by unfold normG; split <;> omega
  have habs : (normG a b).natAbs = Int.gcd a b := by unfold normG; split <;> omega
  have d1 : normG a b ∣ a := Int.natAbs_dvd.mp (by rw [habs]; exact Int.gcd_dvd_left a b)
  have d2 : normG a b ∣ b := Int.natAbs_dvd.mp (by rw [habs]; exact Int.gcd_dvd_right a b)
  have e1 := Int.tdiv_mul_cancel d1
  have e2 := Int.tdiv_mul_cancel d2
  refine ⟨a.tdiv (normG a b), b.tdiv (normG a b), normG a b, by unfold nrm; rw [if_neg h], hgn, e1, e2, ?_, ?_⟩
  · show Nat.gcd (a.tdiv (normG a b)).natAbs (b.tdiv (normG a b)).natAbs = 1
    rw [show (a.tdiv (normG a b)).natAbs = a.natAbs / (normG a b).natAbs from Int.natAbs_tdiv _ _, show (b.tdiv (normG a b)).natAbs = b.natAbs / (normG a b).natAbs from Int.natAbs_tdiv _ _, habs]
    exact Nat.coprime_div_gcd_div_gcd hg0
  · generalize hx : a.tdiv (normG a b) = x at *
    generalize hy : b.tdiv (normG a b) = y at *
    rcases Int.lt_trichotomy b 0 with hb | hb | hb
    · left
      refine mul_sign_pos (g := normG a b) (by omega) ?_
      unfold normG; rw [if_pos (.inl hb)]; omega
    · right
      have hy0 : y = 0 := by
        rcases Int.mul_eq_zero.mp (show y * normG a b = 0 by omega) with h1 | h1
        · exact h1
        · exact absurd h1 hgn
      refine ⟨hy0, ?_⟩
      rcases (show a < 0 ∨ 0 ≤ a by omega) with ha | ha
      · refine mul_sign_pos (g := normG a b) (by omega) ?_
        unfold normG; rw [if_pos (.inr ⟨hb, ha⟩)]; omega
      · refine mul_sign_pos' (g := normG a b) (by omega) ?_
        unfold normG; rw [if_neg (by omega)]; omega
    · left
      refine mul_sign_pos' (g := normG a b) (by omega) ?_
      unfold normG; rw [if_neg (by omega)]; omega
theorem canon_one {x y u v : Int} (h1 : Int.gcd x y = 1) (h2 : Int.gcd u v = 1) (s1 : 0 < y ∨ (y = 0 ∧ 0 < x)) (s2 : 0 < v ∨ (v = 0 ∧ 0 < u)) (h : x * v = u * y) : x = u ∧ y = v := by
  have e : x.natAbs * v.natAbs = u.natAbs * y.natAbs := by rw [← Int.natAbs_mul, ← Int.natAbs_mul, h]
  have c1 : Nat.Coprime x.natAbs y.natAbs := h1
  have c2 : Nat.Coprime u.natAbs v.natAbs := h2
  have p1 : x.natAbs ∣ u.natAbs := c1.dvd_of_dvd_mul_right (e ▸ Nat.dvd_mul_right _ _)
  have p2 : u.natAbs ∣ x.natAbs := c2.dvd_of_dvd_mul_right (e ▸ Nat.dvd_mul_right _ _)
  have p3 : y.natAbs ∣ v.natAbs := c1.symm.dvd_of_dvd_mul_left (e ▸ Nat.dvd_mul_left _ _)
  have p4 : v.natAbs ∣ y.natAbs := c2.symm.dvd_of_dvd_mul_left (e ▸ Nat.dvd_mul_left _ _)
  have q1 := Nat.dvd_antisymm p1 p2
  have q2 := Nat.dvd_antisymm p3 p4
  have hyv : y = v := by omega
  refine ⟨?_, hyv⟩
  subst hyv
  rcases s1 with s | s
  · exact Int.eq_of_mul_eq_mul_right (by omega) h
  · omega
theorem same_iff (a b c d : Int) : same a b c d ↔ oneR a b c d := by
  unfold same oneR
  by_cases hp : a = 0 ∧ b = 0
  · by_cases hq : c = 0 ∧ d = 0
    · rw [if_pos (.inl hp)]
      obtain ⟨rfl, rfl⟩ := hp
      obtain ⟨rfl, rfl⟩ := hq
      exact ⟨fun _ => ⟨⟨rfl, rfl⟩, rfl, rfl⟩, fun _ => rfl⟩
    · rw [if_pos (.inl hp)]
      refine ⟨fun h => ?_, fun h => absurd h.2 hq⟩
      obtain ⟨u, v, k, e2, hk, _, _, _, s2⟩ := nrm_canon hq
      have e1 : nrm a b = (0, 0) := by unfold nrm; rw [if_pos hp, hp.1, hp.2]
      rw [e1, e2] at h
      injection h with h3 h4
      omega
  · obtain ⟨x, y, g, e1, hg, f1, f2, c1, s1⟩ := nrm_canon hp
    by_cases hq : c = 0 ∧ d = 0
    · rw [if_pos (.inr hq)]
      refine ⟨fun h => ?_, fun h => absurd h.1 hp⟩
      have e2 : nrm c d = (0, 0) := by unfold nrm; rw [if_pos hq, hq.1, hq.2]
      rw [e1, e2] at h
      injection h with h3 h4
      omega
    · obtain ⟨u, v, k, e2, hk, f3, f4, c2, s2⟩ := nrm_canon hq
      rw [if_neg (fun h => h.elim hp hq), e1, e2]
      have key : a * d - c * b = (x * v - u * y) * (g * k) := by
        rw [← f1, ← f2, ← f3, ← f4, Int.sub_mul]
        congr 1 <;> ac_rfl
      constructor
      · intro h
        injection h with h3 h4
        rw [key, h3, h4, Int.sub_self, Int.zero_mul]
      · intro h
        rw [key] at h
        have hgk : g * k ≠ 0 := fun h0 => (Int.mul_eq_zero.mp h0).elim hg hk
        have h5 : x * v - u * y = 0 := (Int.mul_eq_zero.mp h).resolve_right hgk
        obtain ⟨r1, r2⟩ := canon_one c1 c2 s1 s2 (by omega)
        rw [r1, r2]
theorem twin_iff (l : List R2) : Twin l ↔ TwinR l := by
  unfold Twin TwinR alikeP alikeR
  simp only [same_iff]
theorem right_iff (l : List R2) : RightL l ↔ RightR l := by
  unfold RightL RightR
  rw [twin_iff]
end Go.Proofs.YtelbhbbiejalhaaGreat
set_option maxRecDepth 100000
set_option linter.unusedVariables false
namespace Go.Proofs.YtelbhbbiejalhaaGreat
open Go Go.Sl
set_option maxHeartbeats 4000000
attribute [local irreducible] valB pb cmpZ lstWp p2
theorem c11 (G : Imm) (x : IV) (z n : Int) (hx : Big G x z) (h1 : x.n ≤ 536870912) (hn : -9223372036854775808 ≤ n ∧ n ≤ 9223372036854775807) :
    Does Tryz.prog 11 [.agg (Cells.enc x).toArray, .int .i64 n] G [] (fun v G' Ho => ∃ r : IV, v = .agg (Cells.enc r).toArray ∧ Big G' r (z * n) ∧ Ho = []) := by
  have hn3 : (n.natAbs : Int) < pb 3 := by
    have e : pb 3 = 79228162514264337593543950336 := by unfold pb; decide
    omega
  obtain ⟨n1, a, k1, ca⟩ := x
  refine Does.enter Tryz.func11 rfl Tryz.ntmps11 rfl (fun w => ?_)
  refine Wc.gl 2 [] ?_
  refine Wl.box 0 rfl rfl rfl (fun b1 => ?_)
  refine Wl.alloc 1 rfl T.zero37 (fun b2 => ?_)
  refine Wl.gc 3 [] ?_
  refine Wc.draw [0, 1] [(1, 4)] T.mixed rfl ?_
  refine Gm.q 0 [0] (by kernel_rfl) rfl rfl (Qy.loadAll 0 T.agg37 rfl rfl rfl) ?_
  refine Gm.q 1 [] (by kernel_rfl) rfl rfl (Qy.move rfl) ?_
  refine Gm.one 2 ⟨rfl, rfl, trivial⟩ (by first | exact Imm.le_refl _ | assumption | (refine Imm.le_trans ?_ (by assumption); first | assumption | (refine Imm.le_trans ?_ (by assumption); assumption))) (by kernel_rfl) rfl ?_
  refine Wl.call 2 rfl T.fn10 rfl (c10 _ _ (by omega)) (tags_of trivial) (fun v1 G1 Ho1 hle1 hp => ?_)
  obtain ⟨ro, rfl, hro, rfl⟩ := hp
  replace hx := hx.up hle1
  refine Wl.on0 ?_
  refine Gm.one 3 ⟨rfl, rfl, trivial⟩ (by first | exact Imm.le_refl _ | assumption | (refine Imm.le_trans ?_ (by assumption); first | assumption | (refine Imm.le_trans ?_ (by assumption); assumption))) (by kernel_rfl) rfl ?_
  refine Wl.call 2 rfl T.fn13 rfl (c13 _ _ _ _ _ hx hro h1 (Nat.le_trans (Big.len hro hn3) (by decide))) (tags_of trivial) (fun v2 G2 Ho2 hle2 hp => ?_)
  obtain ⟨rm, rfl, hrm, rfl⟩ := hp
  replace hro := hro.up hle2
  replace hx := hx.up hle2
  refine Wl.on0 ?_
  refine Gm.one 4 ⟨rfl, rfl, trivial⟩ (by first | exact Imm.le_refl _ | assumption | (refine Imm.le_trans ?_ (by assumption); first | assumption | (refine Imm.le_trans ?_ (by assumption); assumption))) (by kernel_rfl) rfl ?_
  refine Wl.storeAll 1 T.size37 rfl rfl rfl rfl rfl rfl ?_
  refine Wl.on0 ?_
  refine Gm.doneA (by kernel_rfl) ⟨rfl, trivial⟩ (by first | exact Imm.le_refl _ | assumption | (refine Imm.le_trans ?_ (by assumption); first | assumption | (refine Imm.le_trans ?_ (by assumption); assumption))) ?_
  refine Ar.ga 2 [] ?_
  refine Ar.out1 (.inr rfl) (Ho := Hp.only _ []) rfl (.agg 1 rfl rfl T.agg37) (Hp.sub_only _ _) ?_
  exact ⟨rm, rfl, hrm, rfl⟩
end Go.Proofs.YtelbhbbiejalhaaGreat
set_option maxRecDepth 100000
set_option linter.unusedVariables false
namespace Go.Proofs.YtelbhbbiejalhaaGreat
open Go Go.Sl
set_option maxHeartbeats 4000000
attribute [local irreducible] valB pb cmpZ lstWp p2
def powR (a b : Int) (n : Nat) : List Int := (List.range n).map fun j => a ^ j * b ^ (n - 1 - j)
theorem c64 (G : Imm) (a b : Int) (n : Nat) (hp : near a b) (hn : n ≤ 15) :
    Does Tryz.prog 64 [.agg #[.int .i64 a, .int .i64 b], .int .i64 n] G [] (fun v G' Ho => ∃ (s : Option Addr) (r : List IV) (c' : Nat), v = .tuple #[.slice s r.length c', .int .i64 0] ∧ Arr G' s r ∧ Bigs G' r (powR a b n) ∧ r.length ≤ c' ∧ Ho = []) := by
  refine Does.enter Tryz.func64 rfl Tryz.ntmps64 rfl (fun w => ?_)
  have hpn : ¬((¬near a b ∨ (n : Int) < 0) ∨ 16 < (n : Int)) := by unfold near at *; omega
  refine Wc.gl 2 [] ?_
  refine Wl.box 0 rfl rfl rfl (fun b1 => ?_)
  refine Wl.gl 8 [0] ?_
  refine Wl.call0 rfl T.fn47 rfl (by apply c47 <;> first | assumption | omega | rfl) ?_
  refine Wl.q rfl (Qy.notD rfl) ?_
  refine Wl.q rfl (Qy.move rfl) ?_
  apply Wl.joinOr 3 14 17 rfl
  intro hg1
  refine Wl.ll0 5 [] ?_
  exact Wl.back 3 0 rfl rfl rfl rfl rfl
  intro hg1
  refine Wl.ll0 3 [] ?_
  exact Wl.back 3 0 rfl rfl rfl rfl rfl
  refine Wl.q rfl (Qy.move rfl) ?_
  apply Wl.joinOr 3 18 21 rfl
  intro hg1
  refine Wl.ll0 5 [] ?_
  exact Wl.back 3 0 rfl rfl rfl rfl rfl
  intro hg1
  refine Wl.ll0 3 [] ?_
  exact Wl.back 3 0 rfl rfl rfl rfl rfl
  refine Wl.gl 8 [0] ?_
  refine Wl.make (α := IV) 1 rfl T.sl42 T.el37 rfl rfl (by omega) (by omega) (fun b2 => ?_)
  refine Wl.gl 5 [] ?_
  refine Wl.call 2 rfl T.fn10 rfl (c10 _ 1 (by decide)) (tags_of trivial) (fun v1 G1 Ho1 hle1 hp => ?_)
  obtain ⟨ro1, rfl, hro1, rfl⟩ := hp
  refine Wl.call 2 rfl T.fn10 rfl (c10 _ 1 (by decide)) (tags_of trivial) (fun v2 G2 Ho2 hle2 hp => ?_)
  obtain ⟨ro2, rfl, hro2, rfl⟩ := hp
  replace hro1 := hro1.up hle2
  refine Wl.alloc 2 rfl T.zero37 (fun b3 => ?_)
  refine Wl.alloc 3 rfl T.zero37 (fun b4 => ?_)
  refine Wl.gc 13 [2, 3] ?_
  refine Wc.re 6 rfl (show _ = Value.slice (some ⟨b2, 0, none⟩) (List.replicate n (default : IV)).length n by simp) ?_
  have e2 : (List.replicate n (default : IV)).length = n := List.length_replicate ..
  refine Wc.loopG (ι := Nat × Imm × List IV × IV × (Option Addr × Nat × List Value)) (fun (k, Gx, r, x, (o, d, j)) => ([(28, .int .i64 (k : Int)), (6, .slice o r.length d), (27, Go.Value.int Go.IntKind.i64 (↑(List.length (List.replicate (Int.toNat (↑n : Int)) Inhabited.default)) : Int)), (8, Go.Value.pointer (Option.some (Go.Addr.mk b4 0 Option.none))), (7, Go.Value.pointer (Option.some (Go.Addr.mk b3 0 Option.none))), (5, Go.Value.int Go.IntKind.i64 0), (4, Go.Value.slice Option.none 0 0), (2, Go.Value.pointer (Option.some (Go.Addr.mk b1 0 Option.none))), (1, Go.Value.int Go.IntKind.i64 (↑n : Int))], [(1, o.map (·.block), Row 37 r j), (2, some b3, .cells (Cells.enc x).toArray 37), (3, Option.some b4, Go.Obj.cells (List.toArray (Go.Sl.Cells.enc ro2)) 37), (0, Option.some b1, Go.Obj.cells #[Go.Value.int Go.IntKind.i64 a, Go.Value.int Go.IntKind.i64 b] 34)])) (fun (k, Gx, r, x, (o, d, j)) => Gx) (fun (k, Gx, r, x, (o, d, j)) => k ≤ n ∧ G2.le Gx ∧ r.length = n ∧ Bigs Gx r ((List.range n).map fun i => if i < k then a ^ i else 0) ∧ Big Gx x (a ^ k) ∧ OwnA o d r j) (fun (k, Gx, r, x, (o, d, j)) => n - k) ((0, G2, List.replicate n default, ro1, (some ⟨b2, 0, none⟩, n, []))) (⟨Nat.zero_le _, Imm.le_refl _, List.length_replicate .., by have e : (List.range n).map (fun i => if i < 0 then a ^ i else 0) = List.replicate n (0 : Int) := by { apply List.ext_getElem <;> simp }; rw [e]; exact Bigs.zeros _ _, by rw [Int.pow_zero]; exact hro1, .inr ⟨b2, rfl, by rw [List.length_replicate]; rfl, by omega, by simp only [maxLen]; omega⟩⟩) rfl ⟨rfl, rfl, rfl, rfl, rfl, rfl, rfl, rfl, rfl, trivial⟩ ⟨rfl, rfl, rfl, rfl, trivial⟩ (fun ⟨k, Gx, r, x, (o, d, j)⟩ => fun (hk : k ≤ n ∧ G2.le Gx ∧ r.length = n ∧ Bigs Gx r ((List.range n).map fun i => if i < k then a ^ i else 0) ∧ Big Gx x (a ^ k) ∧ OwnA o d r j) => ?_)
  obtain ⟨hk1, hk2, hk3, hk4, hk5, hob⟩ := hk
  have e1 : (List.replicate ((n : Int)).toNat (default : IV)).length = n := by rw [List.length_replicate]; omega
  have e0 : (List.replicate n (default : IV)).length = n := List.length_replicate ..
  have hx3 : k ≤ 15 → ((a ^ k).natAbs : Int) < pb 3 := fun h => by
    have e : pb 3 = 79228162514264337593543950336 := by unfold pb; decide
    have e2 : (a ^ k).natAbs ≤ 16 ^ 15 := by
      rw [Int.natAbs_pow]
      exact Nat.le_trans (Nat.pow_le_pow_left (show a.natAbs ≤ 16 by unfold near at hp; omega) k) (Nat.pow_le_pow_right (by omega) h)
    have e3 : (16 : Nat) ^ 15 = 1152921504606846976 := by decide
    omega
  have hxn : x.n ≤ 536870912 := Nat.le_trans (Big.len hk5 (hx3 (by omega))) (by decide)
  refine Wc.gc 6 [] ?_
  refine Wc.cond rfl (fun hc1 => ?_) (fun hc1 => ?_)
  refine Wc.gl 15 [2] ?_
  refine Wl.q rfl (Qy.indexAddrO (α := IV) T.sl42 rfl rfl (by assumption) (by omega)) ?_
  rotate_left
  refine Wc.gc 14 [] ?_
  rotate_left
  · refine Wl.setO (z := x) 1 T.size37 rfl rfl rfl (by assumption) (by omega) rfl (fun h9 => ?_)
    refine Wl.gl 6 [2, 0] ?_
    refine Wl.call 4 rfl T.fn11 rfl (c11 _ _ _ a hk5 hxn (by unfold near at hp; omega)) (tags_of trivial) (fun v3 G3 Ho3 hle3 hp => ?_)
    obtain ⟨rt, rfl, hrt, rfl⟩ := hp
    replace hk4 := hk4.up hle3
    replace hk5 := hk5.up hle3
    refine Wl.ga 8 [2] ?_
    have hle3' : Gx.le G3 := hle3
    refine Ar.re 28 rfl (show _ = Value.int .i64 ((k + 1 : Nat) : Int) from rfl) ?_
    refine Ar.re 6 rfl (show _ = Value.slice o (r.set ((k : Nat) : Int).toNat x).length d by rw [List.length_set]) ?_
    refine Ar.again ((k + 1, G3, r.set ((k : Nat) : Int).toNat x, rt, (o, d, j))) ?_ ?_ rfl ⟨rfl, rfl, rfl, rfl, rfl, rfl, rfl, rfl, rfl, trivial⟩ ⟨rfl, rfl, rfl, rfl, trivial⟩
    · refine ⟨by omega, Imm.le_trans hk2 hle3', by rw [List.length_set]; exact hk3, ?_, by rw [Int.pow_succ]; exact hrt, h9⟩
      have h8 := hk4.set k hk5
      rw [Int.toNat_natCast]
      have e : ((List.range n).map fun i => if i < k then a ^ i else 0).set k (a ^ k) = (List.range n).map fun i => if i < k + 1 then a ^ i else 0 := by
        apply List.ext_getElem
        · simp
        · intro i h1 h2
          rw [List.getElem_set]
          simp only [List.getElem_map, List.getElem_range]
          by_cases h : k = i
          · subst h; simp
          · rw [if_neg h]
            by_cases h7 : i < k
            · rw [if_pos h7, if_pos (by omega)]
            · rw [if_neg h7, if_neg (by omega)]
      rw [e] at h8; exact h8
    · show n - (k + 1) < n - k
      omega
  have hkn : k = n := by omega
  subst hkn
  have hl1 : (List.range k).map (fun i => if i < k then a ^ i else (0 : Int)) = (List.range k).map fun m => if ((m : Nat) : Int) ≤ (k : Int) - 1 then a ^ m else a ^ m * b ^ (k - 1 - m) := by
    apply List.map_congr_left
    intro m hm
    rw [List.mem_range] at hm
    rw [if_pos hm, if_pos (by omega)]
  rw [hl1] at hk4
  refine Wc.loopG (ι := Int × Imm × List IV × IV) (fun (i, Gy, q, y) => ([(10, .int .i64 i), (6, .slice o q.length d), (8, Go.Value.pointer (Option.some (Go.Addr.mk b4 0 Option.none))), (5, Go.Value.int Go.IntKind.i64 0), (4, Go.Value.slice Option.none 0 0), (2, Go.Value.pointer (Option.some (Go.Addr.mk b1 0 Option.none)))], [(1, o.map (·.block), Row 37 q j), (3, some b4, .cells (Cells.enc y).toArray 37), (2, Option.some b3, Go.Obj.cells (List.toArray (Go.Sl.Cells.enc x)) 37), (0, Option.some b1, Go.Obj.cells #[Go.Value.int Go.IntKind.i64 a, Go.Value.int Go.IntKind.i64 b] 34)])) (fun (i, Gy, q, y) => Gy) (fun (i, Gy, q, y) => -1 ≤ i ∧ i < k ∧ Gx.le Gy ∧ q.length = k ∧ Bigs Gy q ((List.range k).map fun m => if ((m : Nat) : Int) ≤ i then a ^ m else a ^ m * b ^ (k - 1 - m)) ∧ Big Gy y (b ^ ((k : Int) - 1 - i).toNat) ∧ OwnA o d q j) (fun (i, Gy, q, y) => (i + 1).toNat) (((k : Int) - 1, Gx, r, ro2)) (⟨by omega, by omega, Imm.le_refl _, hk3, hk4, by rw [show ((k : Int) - 1 - ((k : Int) - 1)).toNat = 0 by omega, Int.pow_zero]; exact hro2.up hk2, hob⟩) rfl ⟨rfl, rfl, rfl, rfl, rfl, rfl, trivial⟩ ⟨rfl, rfl, rfl, rfl, trivial⟩ (fun ⟨i, Gy, q, y⟩ => fun (hk : -1 ≤ i ∧ i < k ∧ Gx.le Gy ∧ q.length = k ∧ Bigs Gy q ((List.range k).map fun m => if ((m : Nat) : Int) ≤ i then a ^ m else a ^ m * b ^ (k - 1 - m)) ∧ Big Gy y (b ^ ((k : Int) - 1 - i).toNat) ∧ OwnA o d q j) => ?_)
  obtain ⟨hi1, hi2, hi3, hi4, hi5, hi6, hi7⟩ := hk
  rcases Int.lt_or_le i 0 with hi0 | hi0
  · have hi9 : i = -1 := by omega
    subst hi9
    have hl2 : (List.range k).map (fun m => if ((m : Nat) : Int) ≤ -1 then a ^ m else a ^ m * b ^ (k - 1 - m)) = powR a b k := by
      unfold powR
      apply List.map_congr_left
      intro m hm
      rw [if_neg (by omega)]
    rw [hl2] at hi5
    refine Wc.ga 21 [0] ?_
    refine Ar.freezeRow 1 rfl hi7 (fun G8 hle8 hA8 => ?_)
    refine Ar.out2 (.inr rfl) (Ho := []) rfl (.tmp rfl) (.tmp rfl) trivial ?_
    exact ⟨_, _, _, rfl, hA8, hi5.up hle8, hi7.le, rfl⟩
  · obtain ⟨m, rfl⟩ : ∃ m : Nat, i = (m : Int) := ⟨i.toNat, by omega⟩
    have hmk : m < k := by omega
    have hbe : Big Gy (q[((m : Nat) : Int).toNat]?.getD default) (a ^ m) := by
      have h9 := hi5.2 m (by omega)
      rw [List.getElem?_map, List.getElem?_range hmk] at h9
      rw [Int.toNat_natCast]
      simpa using h9
    have hsm : ∀ (c : Int) (e : Nat), -16 ≤ c ∧ c ≤ 16 → e ≤ 15 → ((c ^ e).natAbs : Int) < pb 3 := fun c e hc he => by
      have e0 : pb 3 = 79228162514264337593543950336 := by unfold pb; decide
      have e2 : (c ^ e).natAbs ≤ 16 ^ 15 := by
        rw [Int.natAbs_pow]
        exact Nat.le_trans (Nat.pow_le_pow_left (show c.natAbs ≤ 16 by omega) e) (Nat.pow_le_pow_right (by omega) he)
      have e3 : (16 : Nat) ^ 15 = 1152921504606846976 := by decide
      omega
    have hlq := Big.len hbe (hsm a m (by unfold near at hp; omega) (by omega))
    have hly := Big.len hi6 (hsm b _ (by unfold near at hp; omega) (by omega))
    have hyn : y.n ≤ 536870912 := Nat.le_trans hly (by decide)
    refine Wc.gc 13 [1] ?_
    refine Wc.draw [0, 2, 3, 1] [(1, 9), (3, 9), (2, 9), (0, 9)] T.mixed rfl ?_
    refine Gm.q 0 [] (by kernel_rfl) rfl rfl (Qy.move rfl) ?_
    refine Gm.q 1 [] (by kernel_rfl) rfl rfl (Qy.move rfl) ?_
    refine Gm.q 2 [] (by kernel_rfl) rfl rfl (Qy.move rfl) ?_
    refine Gm.q 3 [] (by kernel_rfl) rfl rfl (Qy.move rfl) ?_
    refine Gm.q 4 [] (by kernel_rfl) rfl rfl (Qy.indexAddrO (α := IV) T.sl42 rfl rfl (by assumption) (by omega)) ?_
    refine Gm.q 5 [1] (by kernel_rfl) rfl rfl (Qy.loadsO 1 T.agg37 rfl rfl (by assumption) (by omega)) ?_
    refine Gm.q 6 [3] (by kernel_rfl) rfl rfl (Qy.loadAll 3 T.agg37 rfl rfl rfl) ?_
    refine Gm.one 7 ⟨rfl, rfl, rfl, rfl, trivial⟩ (by first | exact Imm.le_refl _ | assumption | (refine Imm.le_trans ?_ (by assumption); first | assumption | (refine Imm.le_trans ?_ (by assumption); assumption))) (by kernel_rfl) rfl ?_
    refine Wl.call 4 rfl T.fn13 rfl (c13 _ _ _ _ _ hbe hi6 (Nat.le_trans hlq (by decide)) (Nat.le_trans hly (by decide))) (tags_of trivial) (fun v3 G3 Ho3 hle3 hp => ?_)
    obtain ⟨rm3, rfl, hrm3, rfl⟩ := hp
    replace hi5 := hi5.up hle3
    replace hi6 := hi6.up hle3
    replace hbe := hbe.up hle3
    refine Wl.on0 ?_
    refine Gm.q 8 [] (by kernel_rfl) rfl rfl (Qy.indexAddrO (α := IV) T.sl42 rfl rfl (by assumption) (by omega)) ?_
    refine Gm.one 9 ⟨rfl, rfl, rfl, rfl, trivial⟩ (by first | exact Imm.le_refl _ | assumption | (refine Imm.le_trans ?_ (by assumption); first | assumption | (refine Imm.le_trans ?_ (by assumption); assumption))) (by kernel_rfl) rfl ?_
    refine Wl.setO (z := rm3) 1 T.size37 rfl rfl rfl (by assumption) (by omega) rfl (fun h9 => ?_)
    refine Wl.on0 ?_
    refine Gm.doneA (by kernel_rfl) trivial (by first | exact Imm.le_refl _ | assumption | (refine Imm.le_trans ?_ (by assumption); first | assumption | (refine Imm.le_trans ?_ (by assumption); assumption))) ?_
    refine Ar.gl 5 [3, 0] ?_
    refine Wl.call 4 rfl T.fn11 rfl (c11 _ _ _ b (by assumption) hyn (by unfold near at hp; omega)) (tags_of trivial) (fun v4 G4 Ho4 hle4 hp => ?_)
    obtain ⟨rt4, rfl, hrt4, rfl⟩ := hp
    replace hrm3 := hrm3.up hle4
    replace hi5 := hi5.up hle4
    replace hi6 := hi6.up hle4
    replace hbe := hbe.up hle4
    refine Wl.ga 9 [3] ?_
    refine Ar.re 6 rfl (show _ = Value.slice o (q.set ((m : Nat) : Int).toNat rm3).length d by rw [List.length_set]) ?_
    refine Ar.again (((m : Int) - 1, _, q.set ((m : Nat) : Int).toNat rm3, rt4)) ?_ ?_ rfl ⟨rfl, rfl, rfl, rfl, rfl, rfl, trivial⟩ ⟨rfl, rfl, rfl, rfl, trivial⟩
    · refine ⟨by omega, by omega, Imm.le_trans hi3 (Imm.le_trans (by assumption) (by assumption)), by rw [List.length_set]; exact hi4, ?_, ?_, h9⟩
      · have h8 := hi5.set m hrm3
        rw [Int.toNat_natCast]
        have e : ((List.range k).map fun q => if ((q : Nat) : Int) ≤ (m : Int) then a ^ q else a ^ q * b ^ (k - 1 - q)).set m (a ^ m * b ^ ((k : Int) - 1 - (m : Int)).toNat) = (List.range k).map fun q => if ((q : Nat) : Int) ≤ (m : Int) - 1 then a ^ q else a ^ q * b ^ (k - 1 - q) := by
          apply List.ext_getElem
          · simp
          · intro i h1 h2
            rw [List.getElem_set]
            simp only [List.getElem_map, List.getElem_range]
            by_cases h : m = i
            · subst h
              rw [if_pos rfl, if_neg (by omega)]
              congr 2
              omega
            · rw [if_neg h]
              by_cases h7 : (i : Int) ≤ (m : Int)
              · rw [if_pos h7, if_pos (by omega)]
              · rw [if_neg h7, if_neg (by omega)]
        rw [e] at h8; exact h8
      · have e : ((k : Int) - 1 - ((m : Int) - 1)).toNat = ((k : Int) - 1 - (m : Int)).toNat + 1 := by omega
        rw [e, Int.pow_succ]; exact hrt4
    · show ((m : Int) - 1 + 1).toNat < ((m : Int) + 1).toNat
      omega
end Go.Proofs.YtelbhbbiejalhaaGreat
set_option maxRecDepth 100000
set_option linter.unusedVariables false
namespace Go.Proofs.YtelbhbbiejalhaaGreat
open Go Go.Sl
set_option maxHeartbeats 4000000
attribute [local irreducible] valB pb cmpZ lstWp p2 RightL powR
/-- a row of big numbers, by its slice -/
def BRow (G : Imm) (s : SV) (zs : List Int) : Prop := ∃ l : List IV, l.length = s.n ∧ s.n ≤ s.c ∧ Arr G s.a l ∧ Bigs G l zs
theorem BRow.up {G G' : Imm} {s : SV} {zs : List Int} (h : BRow G s zs) (hl : G.le G') : BRow G' s zs := by
  obtain ⟨l, h1, h2, h3, h4⟩ := h
  exact ⟨l, h1, h2, h3.up hl, h4.up hl⟩
def BGrid (G : Imm) (l : List SV) (rs : List (List Int)) : Prop := l.length = rs.length ∧ ∀ i : Nat, i < l.length → BRow G (l[i]?.getD default) (rs[i]?.getD [])
theorem BGrid.up {G G' : Imm} {l : List SV} {rs : List (List Int)} (h : BGrid G l rs) (hl : G.le G') : BGrid G' l rs := ⟨h.1, fun i hi => (h.2 i hi).up hl⟩
theorem BGrid.nil (G : Imm) : BGrid G [] [] := ⟨rfl, fun i hi => by simp at hi⟩
theorem BGrid.snoc {G : Imm} {l : List SV} {rs : List (List Int)} (h : BGrid G l rs) {s : SV} {zs : List Int} (hs : BRow G s zs) : BGrid G (l ++ [s]) (rs ++ [zs]) := by
  refine ⟨by rw [List.length_append, List.length_append, h.1]; rfl, fun i hi => ?_⟩
  rw [List.length_append, List.length_singleton] at hi
  rcases Nat.lt_or_ge i l.length with h1 | h1
  · rw [List.getElem?_append_left h1, List.getElem?_append_left (by rw [← h.1]; exact h1)]; exact h.2 i h1
  · have : i = l.length := by omega
    subst this
    rw [List.getElem?_append_right (Nat.le_refl _), List.getElem?_append_right (by rw [h.1]; exact Nat.le_refl _), Nat.sub_self, h.1, Nat.sub_self]
    exact hs
theorem c20Y (G : Imm) (a : Option Addr) (c : Nat) (l : List R2) (ha : Arr G a l) (h1 : l.length ≤ 1048576) (hc : l.length ≤ c) (hR : RightL l) : Does Tryz.prog 20 [.slice a l.length c] G [] (fun v G' Ho => v = .bool true ∧ G' = G ∧ Ho = []) :=
  (c20 G a c l ha h1 hc).mono fun v G' Ho _ ⟨b, e1, e2, e3, e4⟩ => ⟨by rw [e1, e2.2 hR], e3, e4⟩
def gridR (l : List R2) : List (List Int) := l.map fun p => powR p.a p.b l.length
theorem c37R (G : Imm) (a : Option Addr) (c : Nat) (l : List R2) (ha : Arr G a l) (h1 : l.length ≤ 1048576) (hc : l.length ≤ c) (hR : RightL l) (hr1 : l.length ≤ 15) (hr2 : ∀ i, i < l.length → okP (l[i]?.getD default)) :
    Does Tryz.prog 37 [.slice a l.length c] G [] (fun v G' Ho => ∃ (s : Option Addr) (r : List SV) (c' : Nat), v = .tuple #[.slice s r.length c', .int .i64 0] ∧ Arr G' s r ∧ BGrid G' r (gridR l) ∧ r.length ≤ c' ∧ Ho = []) := by
  refine Does.enter Tryz.func37 rfl Tryz.ntmps37 rfl (fun w => ?_)
  refine Wc.nilRow 9 (Row 42 ([] : List SV) []) ?_
  refine Wc.gl 10 [] ?_
  refine Wl.call0 rfl T.fn20 rfl (c20Y _ _ _ l (by assumption) (by omega) hc hR) ?_
  refine Wl.gc 20 [0] ?_
  refine Wc.loopG (ι := Nat × Imm × List SV × (Option Addr × Nat × List Value)) (fun (i, Gx, r, (o, d, j)) => ([(14, .int .i64 (i : Int)), (4, .slice o r.length d), (13, Go.Value.int Go.IntKind.i64 (↑(List.length l) : Int)), (12, Go.Value.slice a (List.length l) c), (3, Go.Value.int Go.IntKind.i64 0), (2, Go.Value.slice Option.none 0 0), (0, Go.Value.slice a (List.length l) c)], [(9, o.map (·.block), Row 42 r j)])) (fun (i, Gx, r, (o, d, j)) => Gx) (fun (i, Gx, r, (o, d, j)) => i ≤ l.length ∧ G.le Gx ∧ r.length = i ∧ BGrid Gx r ((gridR l).take i) ∧ OwnA o d r j) (fun (i, Gx, r, (o, d, j)) => l.length - i) ((0, G, [], (none, 0, []))) (⟨Nat.zero_le _, Imm.le_refl _, rfl, by rw [List.take_zero]; exact BGrid.nil _, OwnA.nil⟩) rfl ⟨rfl, rfl, rfl, rfl, rfl, rfl, rfl, trivial⟩ ⟨rfl, trivial⟩ (fun ⟨i, Gx, r, (o, d, j)⟩ => fun (hk : i ≤ l.length ∧ G.le Gx ∧ r.length = i ∧ BGrid Gx r ((gridR l).take i) ∧ OwnA o d r j) => ?_)
  obtain ⟨hi1, hi2, hi3, hi4, hi5⟩ := hk
  replace ha := ha.up hi2
  rcases Nat.lt_or_ge i l.length with hil | hil
  · have hnear : near (l[((i : Nat) : Int).toNat]?.getD default).a (l[((i : Nat) : Int).toNat]?.getD default).b := (hr2 i hil).1
    refine Wc.gl 13 [1] ?_
    refine Wl.q rfl (Qy.at (α := R2) T.sl22 rfl rfl (by assumption) (by omega)) ?_
    refine Wl.q rfl (Qy.loadsG T.agg34 rfl (Arr.elem (by assumption) (by omega)) rfl) ?_
    refine Wl.alloc 10 rfl T.zero34 (fun b1 => ?_)
    refine Wl.gl 8 [10, 10] ?_
    refine Wl.call 11 rfl T.fn64 rfl (c64 _ _ _ l.length hnear (by omega)) (tags_of trivial) (fun v1 G1 Ho1 hle1 hp => ?_)
    obtain ⟨ps1, pr1, pc1, rfl, hpA1, hpB1, hpL1, rfl⟩ := hp
    replace ha := ha.up hle1
    refine Wl.gl 10 [] ?_
    refine Wl.lit (α := SV) 11 [⟨_, _, _⟩] rfl T.sl78 T.el42 rfl rfl rfl rfl rfl (fun b2 => ?_)
    refine Wl.append (α := SV) 9 rfl T.sl78 T.el42 rfl rfl rfl (by first | assumption | exact OwnA.nil | exact OwnA.made (by simp)) (Src.row 11 rfl) (by first | omega | (simp only [List.length_append, List.length_cons, List.length_nil, maxLen]; omega)) (by first | omega | (simp only [List.length_append, List.length_cons, List.length_nil, maxLen]; omega)) (fun a1 c1 junk1 ho1 => ?_)
    refine Wl.ga 8 [] ?_
    refine Ar.re 14 rfl (show _ = Value.int .i64 ((i + 1 : Nat) : Int) from rfl) ?_
    refine Ar.again ((i + 1, _, r ++ [⟨ps1, pr1.length, pc1⟩], (a1, c1, junk1))) ?_ ?_ rfl ⟨rfl, rfl, rfl, rfl, rfl, rfl, rfl, trivial⟩ ⟨rfl, trivial⟩
    · refine ⟨by omega, Imm.le_trans hi2 (by assumption), by rw [List.length_append, hi3]; rfl, ?_, ho1⟩
      have e : (gridR l).take (i + 1) = (gridR l).take i ++ [powR (l[((i : Nat) : Int).toNat]?.getD default).a (l[((i : Nat) : Int).toNat]?.getD default).b l.length] := by
        rw [List.take_add_one]
        congr 1
        unfold gridR
        rw [List.getElem?_map, Int.toNat_natCast, List.getElem?_eq_getElem hil]; rfl
      rw [e]
      exact (hi4.up (by assumption)).snoc ⟨pr1, rfl, hpL1, hpA1, hpB1⟩
    · show l.length - (i + 1) < l.length - i
      omega
  · have hie : i = l.length := by omega
    subst hie
    have e : (gridR l).take l.length = gridR l := List.take_of_length_le (by unfold gridR; rw [List.length_map]; exact Nat.le_refl _)
    rw [e] at hi4
    refine Wc.ga 20 [0] ?_
    refine Ar.freezeRow 9 rfl hi5 (fun G8 hle8 hA8 => ?_)
    refine Ar.out2 (.inr rfl) (Ho := []) rfl (.tmp rfl) (.tmp rfl) trivial ?_
    exact ⟨_, _, _, rfl, hA8, hi4.up hle8, hi5.le, rfl⟩
end Go.Proofs.YtelbhbbiejalhaaGreat
set_option maxRecDepth 100000
set_option linter.unusedVariables false
namespace Go.Proofs.YtelbhbbiejalhaaGreat
open Go Go.Sl
set_option maxHeartbeats 4000000
attribute [local irreducible] valB pb cmpZ lstWp p2 cst
/-- rows of one length, of numbers below a bound -/
def EvenB (m N : Nat) (rs : List (List Int)) : Prop := ∀ zs ∈ rs, zs.length = N ∧ Below m zs
theorem EvenB.at {m N : Nat} {rs : List (List Int)} (h : EvenB m N rs) {k : Nat} (hk : k < rs.length) : (rs[k]?.getD []).length = N ∧ Below m (rs[k]?.getD []) := by
  rw [List.getElem?_eq_getElem hk]; exact h _ (List.getElem_mem hk)
/-- what 'do' answers of rows -/
def DoRPost (i : Sl.Instr) (rs : List (List Int)) (H0 : Hp) (v : Value) (G' : Imm) (Ho : Hp) : Prop :=
  ∃ s : SV, v = .tuple #[.slice s.a s.n s.c, .bool (decide (doI i rs ≠ none))] ∧ (∀ z, doI i rs = some z → BRow G' s z) ∧ Ho = H0
theorem doR_some {i : Sl.Instr} {rs : List (List Int)} {H0 : Hp} {s : SV} {G' : Imm} {z : List Int} (h : doI i rs = some z) (hx : BRow G' s z) : DoRPost i rs H0 (.tuple #[.slice s.a s.n s.c, .bool true]) G' H0 :=
  ⟨s, by rw [decide_eq_true (show doI i rs ≠ none from fun e => by rw [e] at h; cases h)], fun z' h' => by rw [h] at h'; cases h'; exact hx, rfl⟩
theorem doR_none {i : Sl.Instr} {rs : List (List Int)} {H0 : Hp} {G' : Imm} (h : doI i rs = none) : DoRPost i rs H0 (.tuple #[.slice none 0 0, .bool false]) G' H0 :=
  ⟨⟨none, 0, 0⟩, by rw [decide_eq_false (show ¬ doI i rs ≠ none from fun e => e h)], (fun z hz => by rw [h] at hz; cases hz), rfl⟩
theorem brow_post {G : Imm} {s : Option Addr} {r : List IV} {d : Nat} {zs : List Int} (hA : Arr G s r) (hd : r.length ≤ d) (hB : Bigs G r zs) : BRow G ⟨s, r.length, d⟩ zs := ⟨r, rfl, hd, hA, hB⟩
theorem neg_rows (xs : List Int) : (xs.map fun x => -1 * x) = xs.map fun x => -x := by
  congr 1; funext x; rw [Int.neg_mul, Int.one_mul]
theorem add_rows (xs ys : List Int) : List.zipWith (fun x y => x + 1 * y) xs ys = List.zipWith (· + ·) xs ys := by
  congr 1; funext x y; rw [Int.one_mul]
theorem sub_rows (xs ys : List Int) : List.zipWith (fun x y => x + (-1) * y) xs ys = List.zipWith (· - ·) xs ys := by
  congr 1; funext x y; rw [Int.neg_mul, Int.one_mul]; rfl
theorem c95 (G : Imm) (i : Sl.Instr) (o : Option Addr) (d : Nat) (r : List SV) (j : List Value) (rs : List (List Int)) (m N : Nat) (hob : OwnA o d r j) (hg : BGrid G r rs) (hm : EvenB m N rs) (hN : N ≤ 1048576) (hm2 : m ≤ 268435456)
    (hop : 1 ≤ i.op ∧ i.op ≤ 8) (ha : 0 ≤ i.a ∧ i.a < r.length) (hb : 0 ≤ i.b ∧ i.b < r.length)
    (hcst : i.op ≠ 1 → i.op ≠ 2 → i.op ≠ 3 → i.op ≠ 4 → cst i ≠ 0 ∧ ((cst i).natAbs : Int) < pb 3)
    (hc1 : i.op = 5 ∨ i.op = 6 → -9223372036854775808 ≤ i.c ∧ i.c ≤ 9223372036854775807) (hc2 : ¬ (i.op = 5 ∨ i.op = 6) → 0 ≤ i.c ∧ i.c ≤ 64) :
    Does Tryz.prog 95 [waysR, .slice o r.length d, .agg (Cells.enc i).toArray] G [(0, o.map (·.block), Row 42 r j)] (fun v G' Ho => DoRPost i rs [(0, o.map (·.block), Row 42 r j)] v G' Ho) := by
  have hca := hob.le
  obtain ⟨la, a1, a2, a3, a4⟩ := hg.2 i.a.toNat (by omega)
  obtain ⟨lb, b1, b2, b3, b4⟩ := hg.2 i.b.toNat (by omega)
  have hrl := hg.1
  obtain ⟨na, ma⟩ := hm.at (k := i.a.toNat) (by omega)
  obtain ⟨nb, mb⟩ := hm.at (k := i.b.toNat) (by omega)
  have hla : la.length ≤ 1048576 := by rw [a4.1, na]; exact hN
  have hlab : la.length = lb.length := by rw [a4.1, b4.1, na, nb]
  refine Does.enter Tryz.func95 rfl Tryz.ntmps95 rfl (fun w => ?_)
  have h118 := c96 G _ (r[i.a.toNat]?.getD default).c la _ m a3 a4 ma hm2 hla
  have h119 := c97 G _ _ (r[i.a.toNat]?.getD default).c (r[i.b.toNat]?.getD default).c la lb _ _ m a3 b3 a4 b4 ma mb hm2 hlab hla
  have h121 := c99 G _ _ (r[i.a.toNat]?.getD default).c (r[i.b.toNat]?.getD default).c la lb _ _ m a3 b3 a4 b4 ma mb hm2 hlab hla
  rw [a1] at h118
  rw [a1, b1] at h119 h121
  have h123 : ∀ G1 y z, G.le G1 → Big G1 y z → y.n ≤ 268435456 → Does Tryz.prog 101 [.slice (r[i.a.toNat]?.getD default).a (r[i.a.toNat]?.getD default).n (r[i.a.toNat]?.getD default).c, .agg (Cells.enc y).toArray] G1 [] (fun v G' Ho => RowPost G' v ((rs[i.a.toNat]?.getD []).map fun x => z * x) ∧ Ho = []) := fun G1 y z hG hy hyn => by
    have h := c101 G1 _ (r[i.a.toNat]?.getD default).c la _ y z m (a3.up hG) (a4.up hG) ma hm2 hla hy hyn
    rw [a1] at h; exact h
  have h124 : ∀ G1 y z, G.le G1 → Big G1 y z → y.n ≤ 268435456 → z ≠ 0 → Does Tryz.prog 102 [.slice (r[i.a.toNat]?.getD default).a (r[i.a.toNat]?.getD default).n (r[i.a.toNat]?.getD default).c, .agg (Cells.enc y).toArray] G1 [] (fun v G' Ho => (AllDiv z (rs[i.a.toNat]?.getD []) → ∃ (s : Option Addr) (r' : List IV) (d : Nat), v = .tuple #[.slice s r'.length d, .bool true] ∧ Arr G' s r' ∧ r'.length ≤ d ∧ Bigs G' r' ((rs[i.a.toNat]?.getD []).map (· / z))) ∧
      (¬ AllDiv z (rs[i.a.toNat]?.getD []) → v = .tuple #[.slice none 0 0, .bool false]) ∧ Ho = []) := fun G1 y z hG hy hyn hz => by
    have h := c102 G1 _ (r[i.a.toNat]?.getD default).c la _ y z m (a3.up hG) (a4.up hG) ma hm2 hla hy hyn hz
    rw [a1] at h; exact h
  by_cases h2 : i.op = 2
  · refine Wc.gl 2 [] ?_
    refine Wl.box 1 rfl rfl rfl (fun b5 => ?_)
    refine Wl.box 2 rfl rfl rfl (fun b6 => ?_)
    refine Wl.gc 5 [] ?_
    refine Wc.draw [0, 1, 2] [] T.mixed rfl ?_
    refine Gm.c 0 [] [] ?_
    refine Gm.c 1 [] [] ?_
    refine Gm.c 2 [2] [2] ?_
    refine Gm.u 3 [] rfl (Qy.indexAddrO (α := SV) T.sl78 rfl rfl (by assumption) (by omega)) ?_
    refine Gm.u 4 [0] rfl (Qy.loadO 0 0 T.one42 rfl rfl (by assumption) (by omega) rfl rfl) ?_
    refine Gm.c 5 [] [] ?_
    refine Gm.c 6 [] [] ?_
    refine Gm.c 7 [2] [2] ?_
    refine Gm.u 8 [] rfl (Qy.indexAddrO (α := SV) T.sl78 rfl rfl (by assumption) (by omega)) ?_
    refine Gm.u 9 [0] rfl (Qy.loadO 0 0 T.one42 rfl rfl (by assumption) (by omega) rfl rfl) ?_
    refine Gm.c 10 [] [] ?_
    refine Gm.c 11 [] [] ?_
    refine Gm.fin ?_
    refine Ar.gl 21 [2, 1, 1] ?_
    refine Wl.callV (fst := []) (cap := []) 3 rfl T.fn96 rfl rfl (h118) (tags_of trivial) (fun v1 G1 Ho1 hle1 hp => ?_)
    obtain ⟨⟨s1, r1, d1, rfl, hA1, hl81, hB1⟩, rfl⟩ := hp
    replace a3 := a3.up hle1
    replace a4 := a4.up hle1
    replace b3 := b3.up hle1
    replace b4 := b4.up hle1
    refine Wl.ga 7 [] ?_
    refine Ar.out2 (.inr rfl) (Ho := Hp.only _ [0]) rfl (.tmp rfl) (.tmp rfl) (Hp.sub_only _ _) ?_
    exact doR_some (by unfold doI; simp only [h2, if_true]; rw [neg_rows]) (brow_post hA1 hl81 hB1)
  by_cases h3 : i.op = 3
  · refine Wc.gl 2 [] ?_
    refine Wl.box 1 rfl rfl rfl (fun b5 => ?_)
    refine Wl.box 2 rfl rfl rfl (fun b6 => ?_)
    refine Wl.gc 5 [] ?_
    refine Wc.draw [0, 1, 2] [] T.mixed rfl ?_
    refine Gm.c 0 [] [] ?_
    refine Gm.c 1 [] [] ?_
    refine Gm.c 2 [2] [2] ?_
    refine Gm.u 3 [] rfl (Qy.indexAddrO (α := SV) T.sl78 rfl rfl (by assumption) (by omega)) ?_
    refine Gm.u 4 [0] rfl (Qy.loadO 0 0 T.one42 rfl rfl (by assumption) (by omega) rfl rfl) ?_
    refine Gm.c 5 [] [] ?_
    refine Gm.c 6 [] [] ?_
    refine Gm.c 7 [2] [2] ?_
    refine Gm.u 8 [] rfl (Qy.indexAddrO (α := SV) T.sl78 rfl rfl (by assumption) (by omega)) ?_
    refine Gm.u 9 [0] rfl (Qy.loadO 0 0 T.one42 rfl rfl (by assumption) (by omega) rfl rfl) ?_
    refine Gm.c 10 [] [] ?_
    refine Gm.c 11 [] [] ?_
    refine Gm.fin ?_
    refine Ar.gl 29 [2, 0, 1, 1] ?_
    refine Wl.callV (fst := []) (cap := []) 3 rfl T.fn97 rfl rfl (h119) (tags_of trivial) (fun v1 G1 Ho1 hle1 hp => ?_)
    obtain ⟨⟨s1, r1, d1, rfl, hA1, hl81, hB1⟩, rfl⟩ := hp
    replace a3 := a3.up hle1
    replace a4 := a4.up hle1
    replace b3 := b3.up hle1
    replace b4 := b4.up hle1
    refine Wl.ga 7 [] ?_
    refine Ar.out2 (.inr rfl) (Ho := Hp.only _ [0]) rfl (.tmp rfl) (.tmp rfl) (Hp.sub_only _ _) ?_
    exact doR_some (by unfold doI; simp only [h3, if_true]; rw [if_neg (by decide), add_rows]) (brow_post hA1 hl81 hB1)
  by_cases h4 : i.op = 4
  · refine Wc.gl 2 [] ?_
    refine Wl.box 1 rfl rfl rfl (fun b5 => ?_)
    refine Wl.box 2 rfl rfl rfl (fun b6 => ?_)
    refine Wl.gc 5 [] ?_
    refine Wc.draw [0, 1, 2] [] T.mixed rfl ?_
    refine Gm.c 0 [] [] ?_
    refine Gm.c 1 [] [] ?_
    refine Gm.c 2 [2] [2] ?_
    refine Gm.u 3 [] rfl (Qy.indexAddrO (α := SV) T.sl78 rfl rfl (by assumption) (by omega)) ?_
    refine Gm.u 4 [0] rfl (Qy.loadO 0 0 T.one42 rfl rfl (by assumption) (by omega) rfl rfl) ?_
    refine Gm.c 5 [] [] ?_
    refine Gm.c 6 [] [] ?_
    refine Gm.c 7 [2] [2] ?_
    refine Gm.u 8 [] rfl (Qy.indexAddrO (α := SV) T.sl78 rfl rfl (by assumption) (by omega)) ?_
    refine Gm.u 9 [0] rfl (Qy.loadO 0 0 T.one42 rfl rfl (by assumption) (by omega) rfl rfl) ?_
    refine Gm.c 10 [] [] ?_
    refine Gm.c 11 [] [] ?_
    refine Gm.fin ?_
    refine Ar.gl 36 [2, 0, 0, 1, 1] ?_
    refine Wl.callV (fst := []) (cap := []) 3 rfl T.fn99 rfl rfl (h121) (tags_of trivial) (fun v1 G1 Ho1 hle1 hp => ?_)
    obtain ⟨⟨s1, r1, d1, rfl, hA1, hl81, hB1⟩, rfl⟩ := hp
    replace a3 := a3.up hle1
    replace a4 := a4.up hle1
    replace b3 := b3.up hle1
    replace b4 := b4.up hle1
    refine Wl.ga 7 [] ?_
    refine Ar.out2 (.inr rfl) (Ho := Hp.only _ [0]) rfl (.tmp rfl) (.tmp rfl) (Hp.sub_only _ _) ?_
    exact doR_some (by unfold doI; simp only [h4, if_true]; rw [if_neg (by decide), if_neg (by decide), sub_rows]) (brow_post hA1 hl81 hB1)
  by_cases h1 : i.op = 1
  · refine Wc.gl 2 [] ?_
    refine Wl.box 1 rfl rfl rfl (fun b5 => ?_)
    refine Wl.box 2 rfl rfl rfl (fun b6 => ?_)
    refine Wl.gc 5 [] ?_
    refine Wc.draw [0, 1, 2] [] T.mixed rfl ?_
    refine Gm.c 0 [] [] ?_
    refine Gm.c 1 [] [] ?_
    refine Gm.c 2 [2] [2] ?_
    refine Gm.u 3 [] rfl (Qy.indexAddrO (α := SV) T.sl78 rfl rfl (by assumption) (by omega)) ?_
    refine Gm.u 4 [0] rfl (Qy.loadO 0 0 T.one42 rfl rfl (by assumption) (by omega) rfl rfl) ?_
    refine Gm.c 5 [] [] ?_
    refine Gm.c 6 [] [] ?_
    refine Gm.c 7 [2] [2] ?_
    refine Gm.u 8 [] rfl (Qy.indexAddrO (α := SV) T.sl78 rfl rfl (by assumption) (by omega)) ?_
    refine Gm.u 9 [0] rfl (Qy.loadO 0 0 T.one42 rfl rfl (by assumption) (by omega) rfl rfl) ?_
    refine Gm.c 10 [] [] ?_
    refine Gm.c 11 [] [] ?_
    refine Gm.fin ?_
    refine Ar.ga 69 [2, 0, 0, 0, 0, 0, 0, 0] ?_
    refine Ar.out2 (.inr rfl) (Ho := Hp.only _ [0]) rfl (.tmp rfl) (.tmp rfl) (Hp.sub_only _ _) ?_
    exact doR_some (by unfold doI; simp only [h1]; rfl) ⟨la, a1, a2, a3, a4⟩
  obtain ⟨hk0, hk3⟩ := hcst h1 h2 h3 h4
  by_cases h5 : i.op = 5
  · have hc9 := hc1 (.inl h5)
    have e5 : cst i = i.c := cst_c (.inl h5)
    rw [e5] at hk3
    refine Wc.gl 2 [] ?_
    refine Wl.box 1 rfl rfl rfl (fun b5 => ?_)
    refine Wl.box 2 rfl rfl rfl (fun b6 => ?_)
    refine Wl.gc 5 [] ?_
    refine Wc.draw [0, 1, 2] [] T.mixed rfl ?_
    refine Gm.c 0 [] [] ?_
    refine Gm.c 1 [] [] ?_
    refine Gm.c 2 [2] [2] ?_
    refine Gm.u 3 [] rfl (Qy.indexAddrO (α := SV) T.sl78 rfl rfl (by assumption) (by omega)) ?_
    refine Gm.u 4 [0] rfl (Qy.loadO 0 0 T.one42 rfl rfl (by assumption) (by omega) rfl rfl) ?_
    refine Gm.c 5 [] [] ?_
    refine Gm.c 6 [] [] ?_
    refine Gm.c 7 [2] [2] ?_
    refine Gm.u 8 [] rfl (Qy.indexAddrO (α := SV) T.sl78 rfl rfl (by assumption) (by omega)) ?_
    refine Gm.u 9 [0] rfl (Qy.loadO 0 0 T.one42 rfl rfl (by assumption) (by omega) rfl rfl) ?_
    refine Gm.c 10 [] [] ?_
    refine Gm.c 11 [] [] ?_
    refine Gm.fin ?_
    refine Ar.gc 38 [2, 0, 0, 0, 1] ?_
    refine Wc.draw [0, 1, 2] [(2, 6), (1, 6), (0, 6)] T.mixed rfl ?_
    refine Gm.c 0 [] [] ?_
    refine Gm.c 1 [1] [1] ?_
    refine Gm.c 2 [] [] ?_
    refine Gm.c 3 [] [] ?_
    refine Gm.o1 4 ?_
    refine Wl.ll0 1 [2] ?_
    refine Wl.on0 ?_
    refine Gm.o1 5 ?_
    refine Wl.k 3 rfl (c10 _ i.c hc9) (fun v1 G1 Ho1 hle1 hp => ?_)
    obtain ⟨rk, rfl, hrk, rfl⟩ := hp
    replace a3 := a3.up hle1
    replace a4 := a4.up hle1
    replace b3 := b3.up hle1
    replace b4 := b4.up hle1
    refine Wl.on0 ?_
    refine Gm.o1 6 ?_
    refine Wl.callV (fst := []) (cap := []) 3 rfl T.fn101 rfl rfl (h123 _ rk _ (by assumption) hrk (Nat.le_trans (Big.len hrk hk3) (by decide))) (tags_of trivial) (fun v2 G2 Ho2 hle2 hp => ?_)
    obtain ⟨⟨s2, r2, d2, rfl, hA2, hl82, hB2⟩, rfl⟩ := hp
    replace hrk := hrk.up hle2
    replace a3 := a3.up hle2
    replace a4 := a4.up hle2
    replace b3 := b3.up hle2
    replace b4 := b4.up hle2
    refine Wl.on0 ?_
    refine Gm.c 7 [] [] ?_
    refine Gm.c 8 [] [] ?_
    refine Gm.doneA (by kernel_rfl) trivial (by first | exact Imm.le_refl _ | repeat (first | assumption | refine Imm.le_trans ?_ (by assumption))) ?_
    refine Ar.ga 4 [] ?_
    refine Ar.out2 (.inr rfl) (Ho := Hp.only _ [0]) rfl (.tmp rfl) (.tmp rfl) (Hp.sub_only _ _) ?_
    all_goals exact doR_some (by unfold doI; simp only [h5, true_or, if_true]; rw [if_neg (by decide), if_neg (by decide), if_neg (by decide), e5]) (brow_post (by assumption) (by assumption) (by assumption))
  by_cases h6 : i.op = 6
  · have hc9 := hc1 (.inr h6)
    have e5 : cst i = i.c := cst_c (.inr h6)
    rw [e5] at hk3 hk0
    have h124Y : AllDiv (i.c) (rs[i.a.toNat]?.getD []) → ∀ G1 y, G.le G1 → Big G1 y (i.c) → y.n ≤ 268435456 → Does Tryz.prog 102 [.slice (r[i.a.toNat]?.getD default).a (r[i.a.toNat]?.getD default).n (r[i.a.toNat]?.getD default).c, .agg (Cells.enc y).toArray] G1 [] (fun v G' Ho => (∃ (s : Option Addr) (r' : List IV) (d : Nat), v = .tuple #[.slice s r'.length d, .bool true] ∧ Arr G' s r' ∧ r'.length ≤ d ∧ Bigs G' r' ((rs[i.a.toNat]?.getD []).map (· / (i.c)))) ∧ Ho = []) :=
      fun hd G1 y hG hy hyn => (h124 G1 y _ hG hy hyn hk0).mono fun v G' Ho _ ⟨p1, p2, p3⟩ => ⟨p1 hd, p3⟩
    have h124N : ¬ AllDiv (i.c) (rs[i.a.toNat]?.getD []) → ∀ G1 y, G.le G1 → Big G1 y (i.c) → y.n ≤ 268435456 → Does Tryz.prog 102 [.slice (r[i.a.toNat]?.getD default).a (r[i.a.toNat]?.getD default).n (r[i.a.toNat]?.getD default).c, .agg (Cells.enc y).toArray] G1 [] (fun v G' Ho => v = .tuple #[.slice none 0 0, .bool false] ∧ Ho = []) :=
      fun hd G1 y hG hy hyn => (h124 G1 y _ hG hy hyn hk0).mono fun v G' Ho _ ⟨p1, p2, p3⟩ => ⟨p2 hd, p3⟩
    by_cases hd : AllDiv (i.c) (rs[i.a.toNat]?.getD [])
    · skip
      refine Wc.gl 2 [] ?_
      refine Wl.box 1 rfl rfl rfl (fun b5 => ?_)
      refine Wl.box 2 rfl rfl rfl (fun b6 => ?_)
      refine Wl.gc 5 [] ?_
      refine Wc.draw [0, 1, 2] [] T.mixed rfl ?_
      refine Gm.c 0 [] [] ?_
      refine Gm.c 1 [] [] ?_
      refine Gm.c 2 [2] [2] ?_
      refine Gm.u 3 [] rfl (Qy.indexAddrO (α := SV) T.sl78 rfl rfl (by assumption) (by omega)) ?_
      refine Gm.u 4 [0] rfl (Qy.loadO 0 0 T.one42 rfl rfl (by assumption) (by omega) rfl rfl) ?_
      refine Gm.c 5 [] [] ?_
      refine Gm.c 6 [] [] ?_
      refine Gm.c 7 [2] [2] ?_
      refine Gm.u 8 [] rfl (Qy.indexAddrO (α := SV) T.sl78 rfl rfl (by assumption) (by omega)) ?_
      refine Gm.u 9 [0] rfl (Qy.loadO 0 0 T.one42 rfl rfl (by assumption) (by omega) rfl rfl) ?_
      refine Gm.c 10 [] [] ?_
      refine Gm.c 11 [] [] ?_
      refine Gm.fin ?_
      refine Ar.gc 52 [2, 0, 0, 0, 0, 0, 1] ?_
      refine Wc.draw [0, 1, 2] [(2, 6), (1, 6), (0, 6)] T.mixed rfl ?_
      refine Gm.c 0 [] [] ?_
      refine Gm.c 1 [1] [1] ?_
      refine Gm.c 2 [] [] ?_
      refine Gm.c 3 [] [] ?_
      refine Gm.o1 4 ?_
      refine Wl.ll0 1 [2] ?_
      refine Wl.on0 ?_
      refine Gm.o1 5 ?_
      refine Wl.k 3 rfl (c10 _ i.c hc9) (fun v1 G1 Ho1 hle1 hp => ?_)
      obtain ⟨rk, rfl, hrk, rfl⟩ := hp
      replace a3 := a3.up hle1
      replace a4 := a4.up hle1
      replace b3 := b3.up hle1
      replace b4 := b4.up hle1
      refine Wl.on0 ?_
      refine Gm.o1 6 ?_
      refine Wl.callV (fst := []) (cap := []) 3 rfl T.fn102 rfl rfl (h124Y hd _ rk (by assumption) hrk (Nat.le_trans (Big.len hrk hk3) (by decide))) (tags_of trivial) (fun v2 G2 Ho2 hle2 hp => ?_)
      obtain ⟨⟨s2, r2, d2, rfl, hA2, hl82, hB2⟩, rfl⟩ := hp
      replace hrk := hrk.up hle2
      replace a3 := a3.up hle2
      replace a4 := a4.up hle2
      replace b3 := b3.up hle2
      replace b4 := b4.up hle2
      refine Wl.on0 ?_
      refine Gm.c 7 [] [] ?_
      refine Gm.c 8 [] [] ?_
      refine Gm.c 9 [] [] ?_
      refine Gm.c 10 [] [] ?_
      refine Gm.doneA (by kernel_rfl) trivial (by first | exact Imm.le_refl _ | repeat (first | assumption | refine Imm.le_trans ?_ (by assumption))) ?_
      refine Ar.ga 4 [] ?_
      refine Ar.out2 (.inr rfl) (Ho := Hp.only _ [0]) rfl (.tmp rfl) (.tmp rfl) (Hp.sub_only _ _) ?_
      all_goals exact doR_some (by unfold doI; simp only [h6, true_or, if_true]; first | (rw [if_neg (by decide), if_neg (by decide), if_neg (by decide), if_neg (by decide), e5, if_pos hd]) | (rw [if_neg (by decide), if_neg (by decide), if_neg (by decide), if_neg (by decide)]; exact (by rw [e5]; exact if_pos hd))) (brow_post (by assumption) (by assumption) (by assumption))
    · skip
      refine Wc.gl 2 [] ?_
      refine Wl.box 1 rfl rfl rfl (fun b5 => ?_)
      refine Wl.box 2 rfl rfl rfl (fun b6 => ?_)
      refine Wl.gc 5 [] ?_
      refine Wc.draw [0, 1, 2] [] T.mixed rfl ?_
      refine Gm.c 0 [] [] ?_
      refine Gm.c 1 [] [] ?_
      refine Gm.c 2 [2] [2] ?_
      refine Gm.u 3 [] rfl (Qy.indexAddrO (α := SV) T.sl78 rfl rfl (by assumption) (by omega)) ?_
      refine Gm.u 4 [0] rfl (Qy.loadO 0 0 T.one42 rfl rfl (by assumption) (by omega) rfl rfl) ?_
      refine Gm.c 5 [] [] ?_
      refine Gm.c 6 [] [] ?_
      refine Gm.c 7 [2] [2] ?_
      refine Gm.u 8 [] rfl (Qy.indexAddrO (α := SV) T.sl78 rfl rfl (by assumption) (by omega)) ?_
      refine Gm.u 9 [0] rfl (Qy.loadO 0 0 T.one42 rfl rfl (by assumption) (by omega) rfl rfl) ?_
      refine Gm.c 10 [] [] ?_
      refine Gm.c 11 [] [] ?_
      refine Gm.fin ?_
      refine Ar.gc 52 [2, 0, 0, 0, 0, 0, 1] ?_
      refine Wc.draw [0, 1, 2] [(2, 6), (1, 6), (0, 6)] T.mixed rfl ?_
      refine Gm.c 0 [] [] ?_
      refine Gm.c 1 [1] [1] ?_
      refine Gm.c 2 [] [] ?_
      refine Gm.c 3 [] [] ?_
      refine Gm.o1 4 ?_
      refine Wl.ll0 1 [2] ?_
      refine Wl.on0 ?_
      refine Gm.o1 5 ?_
      refine Wl.k 3 rfl (c10 _ i.c hc9) (fun v1 G1 Ho1 hle1 hp => ?_)
      obtain ⟨rk, rfl, hrk, rfl⟩ := hp
      replace a3 := a3.up hle1
      replace a4 := a4.up hle1
      replace b3 := b3.up hle1
      replace b4 := b4.up hle1
      refine Wl.on0 ?_
      refine Gm.o1 6 ?_
      refine Wl.callV (fst := []) (cap := []) 3 rfl T.fn102 rfl rfl (h124N hd _ rk (by assumption) hrk (Nat.le_trans (Big.len hrk hk3) (by decide))) (tags_of trivial) (fun v2 G2 Ho2 hle2 hp => ?_)
      obtain ⟨rfl, rfl⟩ := hp
      replace hrk := hrk.up hle2
      replace a3 := a3.up hle2
      replace a4 := a4.up hle2
      replace b3 := b3.up hle2
      replace b4 := b4.up hle2
      refine Wl.on0 ?_
      refine Gm.c 7 [] [] ?_
      refine Gm.c 8 [] [] ?_
      refine Gm.c 9 [] [] ?_
      refine Gm.c 10 [] [] ?_
      refine Gm.doneA (by kernel_rfl) trivial (by first | exact Imm.le_refl _ | repeat (first | assumption | refine Imm.le_trans ?_ (by assumption))) ?_
      refine Ar.ga 4 [] ?_
      refine Ar.out2 (.inr rfl) (Ho := Hp.only _ [0]) rfl (.tmp rfl) (.tmp rfl) (Hp.sub_only _ _) ?_
      all_goals exact doR_none (by unfold doI; simp only [h6, true_or, if_true]; rw [if_neg (by decide), if_neg (by decide), if_neg (by decide), if_neg (by decide), e5, if_neg hd])
  have hc64 := hc2 (fun h => h.elim h5 h6)
  have e5 : cst i = p2 i.c.toNat := cst_p (fun h => h.elim h5 h6)
  rw [e5] at hk3 hk0
  by_cases h7 : i.op = 7
  · refine Wc.gl 2 [] ?_
    refine Wl.box 1 rfl rfl rfl (fun b5 => ?_)
    refine Wl.box 2 rfl rfl rfl (fun b6 => ?_)
    refine Wl.gc 5 [] ?_
    refine Wc.draw [0, 1, 2] [] T.mixed rfl ?_
    refine Gm.c 0 [] [] ?_
    refine Gm.c 1 [] [] ?_
    refine Gm.c 2 [2] [2] ?_
    refine Gm.u 3 [] rfl (Qy.indexAddrO (α := SV) T.sl78 rfl rfl (by assumption) (by omega)) ?_
    refine Gm.u 4 [0] rfl (Qy.loadO 0 0 T.one42 rfl rfl (by assumption) (by omega) rfl rfl) ?_
    refine Gm.c 5 [] [] ?_
    refine Gm.c 6 [] [] ?_
    refine Gm.c 7 [2] [2] ?_
    refine Gm.u 8 [] rfl (Qy.indexAddrO (α := SV) T.sl78 rfl rfl (by assumption) (by omega)) ?_
    refine Gm.u 9 [0] rfl (Qy.loadO 0 0 T.one42 rfl rfl (by assumption) (by omega) rfl rfl) ?_
    refine Gm.c 10 [] [] ?_
    refine Gm.c 11 [] [] ?_
    refine Gm.fin ?_
    refine Ar.gc 45 [2, 0, 0, 0, 0, 1] ?_
    refine Wc.draw [0, 1, 2] [(2, 6), (1, 6), (0, 6)] T.mixed rfl ?_
    refine Gm.c 0 [] [] ?_
    refine Gm.c 1 [1] [1] ?_
    refine Gm.c 2 [] [] ?_
    refine Gm.c 3 [] [] ?_
    refine Gm.o1 4 ?_
    refine Wl.ll0 1 [2] ?_
    refine Wl.on0 ?_
    refine Gm.o1 5 ?_
    refine Wl.k 3 rfl (c89i _ i.c hc64) (fun v1 G1 Ho1 hle1 hp => ?_)
    obtain ⟨rk, rfl, hrk, rfl⟩ := hp
    replace a3 := a3.up hle1
    replace a4 := a4.up hle1
    replace b3 := b3.up hle1
    replace b4 := b4.up hle1
    refine Wl.on0 ?_
    refine Gm.o1 6 ?_
    refine Wl.callV (fst := []) (cap := []) 3 rfl T.fn101 rfl rfl (h123 _ rk _ (by assumption) hrk (Nat.le_trans (Big.len hrk hk3) (by decide))) (tags_of trivial) (fun v2 G2 Ho2 hle2 hp => ?_)
    obtain ⟨⟨s2, r2, d2, rfl, hA2, hl82, hB2⟩, rfl⟩ := hp
    replace hrk := hrk.up hle2
    replace a3 := a3.up hle2
    replace a4 := a4.up hle2
    replace b3 := b3.up hle2
    replace b4 := b4.up hle2
    refine Wl.on0 ?_
    refine Gm.c 7 [] [] ?_
    refine Gm.c 8 [] [] ?_
    refine Gm.doneA (by kernel_rfl) trivial (by first | exact Imm.le_refl _ | repeat (first | assumption | refine Imm.le_trans ?_ (by assumption))) ?_
    refine Ar.ga 4 [] ?_
    refine Ar.out2 (.inr rfl) (Ho := Hp.only _ [0]) rfl (.tmp rfl) (.tmp rfl) (Hp.sub_only _ _) ?_
    all_goals exact doR_some (by unfold doI; simp only [h7, or_true, if_true]; rw [if_neg (by decide), if_neg (by decide), if_neg (by decide), e5]) (brow_post (by assumption) (by assumption) (by assumption))
  · have h8 : i.op = 8 := by omega
    have h124Y : AllDiv (p2 i.c.toNat) (rs[i.a.toNat]?.getD []) → ∀ G1 y, G.le G1 → Big G1 y (p2 i.c.toNat) → y.n ≤ 268435456 → Does Tryz.prog 102 [.slice (r[i.a.toNat]?.getD default).a (r[i.a.toNat]?.getD default).n (r[i.a.toNat]?.getD default).c, .agg (Cells.enc y).toArray] G1 [] (fun v G' Ho => (∃ (s : Option Addr) (r' : List IV) (d : Nat), v = .tuple #[.slice s r'.length d, .bool true] ∧ Arr G' s r' ∧ r'.length ≤ d ∧ Bigs G' r' ((rs[i.a.toNat]?.getD []).map (· / (p2 i.c.toNat)))) ∧ Ho = []) :=
      fun hd G1 y hG hy hyn => (h124 G1 y _ hG hy hyn hk0).mono fun v G' Ho _ ⟨p1, p2, p3⟩ => ⟨p1 hd, p3⟩
    have h124N : ¬ AllDiv (p2 i.c.toNat) (rs[i.a.toNat]?.getD []) → ∀ G1 y, G.le G1 → Big G1 y (p2 i.c.toNat) → y.n ≤ 268435456 → Does Tryz.prog 102 [.slice (r[i.a.toNat]?.getD default).a (r[i.a.toNat]?.getD default).n (r[i.a.toNat]?.getD default).c, .agg (Cells.enc y).toArray] G1 [] (fun v G' Ho => v = .tuple #[.slice none 0 0, .bool false] ∧ Ho = []) :=
      fun hd G1 y hG hy hyn => (h124 G1 y _ hG hy hyn hk0).mono fun v G' Ho _ ⟨p1, p2, p3⟩ => ⟨p2 hd, p3⟩
    by_cases hd : AllDiv (p2 i.c.toNat) (rs[i.a.toNat]?.getD [])
    · skip
      refine Wc.gl 2 [] ?_
      refine Wl.box 1 rfl rfl rfl (fun b5 => ?_)
      refine Wl.box 2 rfl rfl rfl (fun b6 => ?_)
      refine Wl.gc 5 [] ?_
      refine Wc.draw [0, 1, 2] [] T.mixed rfl ?_
      refine Gm.c 0 [] [] ?_
      refine Gm.c 1 [] [] ?_
      refine Gm.c 2 [2] [2] ?_
      refine Gm.u 3 [] rfl (Qy.indexAddrO (α := SV) T.sl78 rfl rfl (by assumption) (by omega)) ?_
      refine Gm.u 4 [0] rfl (Qy.loadO 0 0 T.one42 rfl rfl (by assumption) (by omega) rfl rfl) ?_
      refine Gm.c 5 [] [] ?_
      refine Gm.c 6 [] [] ?_
      refine Gm.c 7 [2] [2] ?_
      refine Gm.u 8 [] rfl (Qy.indexAddrO (α := SV) T.sl78 rfl rfl (by assumption) (by omega)) ?_
      refine Gm.u 9 [0] rfl (Qy.loadO 0 0 T.one42 rfl rfl (by assumption) (by omega) rfl rfl) ?_
      refine Gm.c 10 [] [] ?_
      refine Gm.c 11 [] [] ?_
      refine Gm.fin ?_
      refine Ar.gc 59 [2, 0, 0, 0, 0, 0, 0, 1] ?_
      refine Wc.draw [0, 1, 2] [(2, 6), (1, 6), (0, 6)] T.mixed rfl ?_
      refine Gm.c 0 [] [] ?_
      refine Gm.c 1 [1] [1] ?_
      refine Gm.c 2 [] [] ?_
      refine Gm.c 3 [] [] ?_
      refine Gm.o1 4 ?_
      refine Wl.ll0 1 [2] ?_
      refine Wl.on0 ?_
      refine Gm.o1 5 ?_
      refine Wl.k 3 rfl (c89i _ i.c hc64) (fun v1 G1 Ho1 hle1 hp => ?_)
      obtain ⟨rk, rfl, hrk, rfl⟩ := hp
      replace a3 := a3.up hle1
      replace a4 := a4.up hle1
      replace b3 := b3.up hle1
      replace b4 := b4.up hle1
      refine Wl.on0 ?_
      refine Gm.o1 6 ?_
      refine Wl.callV (fst := []) (cap := []) 3 rfl T.fn102 rfl rfl (h124Y hd _ rk (by assumption) hrk (Nat.le_trans (Big.len hrk hk3) (by decide))) (tags_of trivial) (fun v2 G2 Ho2 hle2 hp => ?_)
      obtain ⟨⟨s2, r2, d2, rfl, hA2, hl82, hB2⟩, rfl⟩ := hp
      replace hrk := hrk.up hle2
      replace a3 := a3.up hle2
      replace a4 := a4.up hle2
      replace b3 := b3.up hle2
      replace b4 := b4.up hle2
      refine Wl.on0 ?_
      refine Gm.c 7 [] [] ?_
      refine Gm.c 8 [] [] ?_
      refine Gm.c 9 [] [] ?_
      refine Gm.c 10 [] [] ?_
      refine Gm.doneA (by kernel_rfl) trivial (by first | exact Imm.le_refl _ | repeat (first | assumption | refine Imm.le_trans ?_ (by assumption))) ?_
      refine Ar.ga 4 [] ?_
      refine Ar.out2 (.inr rfl) (Ho := Hp.only _ [0]) rfl (.tmp rfl) (.tmp rfl) (Hp.sub_only _ _) ?_
      all_goals exact doR_some (by unfold doI; simp only [h8, or_true, if_true]; first | (rw [if_neg (by decide), if_neg (by decide), if_neg (by decide), if_neg (by decide), e5, if_pos hd]) | (rw [if_neg (by decide), if_neg (by decide), if_neg (by decide), if_neg (by decide)]; exact (by rw [e5]; exact if_pos hd))) (brow_post (by assumption) (by assumption) (by assumption))
    · skip
      refine Wc.gl 2 [] ?_
      refine Wl.box 1 rfl rfl rfl (fun b5 => ?_)
      refine Wl.box 2 rfl rfl rfl (fun b6 => ?_)
      refine Wl.gc 5 [] ?_
      refine Wc.draw [0, 1, 2] [] T.mixed rfl ?_
      refine Gm.c 0 [] [] ?_
      refine Gm.c 1 [] [] ?_
      refine Gm.c 2 [2] [2] ?_
      refine Gm.u 3 [] rfl (Qy.indexAddrO (α := SV) T.sl78 rfl rfl (by assumption) (by omega)) ?_
      refine Gm.u 4 [0] rfl (Qy.loadO 0 0 T.one42 rfl rfl (by assumption) (by omega) rfl rfl) ?_
      refine Gm.c 5 [] [] ?_
      refine Gm.c 6 [] [] ?_
      refine Gm.c 7 [2] [2] ?_
      refine Gm.u 8 [] rfl (Qy.indexAddrO (α := SV) T.sl78 rfl rfl (by assumption) (by omega)) ?_
      refine Gm.u 9 [0] rfl (Qy.loadO 0 0 T.one42 rfl rfl (by assumption) (by omega) rfl rfl) ?_
      refine Gm.c 10 [] [] ?_
      refine Gm.c 11 [] [] ?_
      refine Gm.fin ?_
      refine Ar.gc 59 [2, 0, 0, 0, 0, 0, 0, 1] ?_
      refine Wc.draw [0, 1, 2] [(2, 6), (1, 6), (0, 6)] T.mixed rfl ?_
      refine Gm.c 0 [] [] ?_
      refine Gm.c 1 [1] [1] ?_
      refine Gm.c 2 [] [] ?_
      refine Gm.c 3 [] [] ?_
      refine Gm.o1 4 ?_
      refine Wl.ll0 1 [2] ?_
      refine Wl.on0 ?_
      refine Gm.o1 5 ?_
      refine Wl.k 3 rfl (c89i _ i.c hc64) (fun v1 G1 Ho1 hle1 hp => ?_)
      obtain ⟨rk, rfl, hrk, rfl⟩ := hp
      replace a3 := a3.up hle1
      replace a4 := a4.up hle1
      replace b3 := b3.up hle1
      replace b4 := b4.up hle1
      refine Wl.on0 ?_
      refine Gm.o1 6 ?_
      refine Wl.callV (fst := []) (cap := []) 3 rfl T.fn102 rfl rfl (h124N hd _ rk (by assumption) hrk (Nat.le_trans (Big.len hrk hk3) (by decide))) (tags_of trivial) (fun v2 G2 Ho2 hle2 hp => ?_)
      obtain ⟨rfl, rfl⟩ := hp
      replace hrk := hrk.up hle2
      replace a3 := a3.up hle2
      replace a4 := a4.up hle2
      replace b3 := b3.up hle2
      replace b4 := b4.up hle2
      refine Wl.on0 ?_
      refine Gm.c 7 [] [] ?_
      refine Gm.c 8 [] [] ?_
      refine Gm.c 9 [] [] ?_
      refine Gm.c 10 [] [] ?_
      refine Gm.doneA (by kernel_rfl) trivial (by first | exact Imm.le_refl _ | repeat (first | assumption | refine Imm.le_trans ?_ (by assumption))) ?_
      refine Ar.ga 4 [] ?_
      refine Ar.out2 (.inr rfl) (Ho := Hp.only _ [0]) rfl (.tmp rfl) (.tmp rfl) (Hp.sub_only _ _) ?_
      all_goals exact doR_none (by unfold doI; simp only [h8, or_true, if_true]; rw [if_neg (by decide), if_neg (by decide), if_neg (by decide), if_neg (by decide), e5, if_neg hd])
end Go.Proofs.YtelbhbbiejalhaaGreat
set_option maxRecDepth 100000
set_option linter.unusedVariables false
namespace Go.Proofs.YtelbhbbiejalhaaGreat
open Go Go.Sl
set_option maxHeartbeats 4000000
theorem pw5_pb3 : pw 5 ≤ pb 3 := by unfold pw pb; decide
theorem mul_lt_pb {m k : Nat} {x y : Int} (hx : (x.natAbs : Int) < pb m) (hy : (y.natAbs : Int) < pb k) : ((x * y).natAbs : Int) < pb (m + k) := by
  rw [Int.natAbs_mul, Int.natCast_mul, pb_add]
  have h1 := Int.mul_le_mul_of_nonneg_left (Int.le_of_lt hy) (show (0 : Int) ≤ x.natAbs by omega)
  have h2 := Int.mul_lt_mul_of_pos_right hx (pb_pos k)
  omega
theorem Below.mono {m k : Nat} {zs : List Int} (h : Below m zs) (hk : m ≤ k) : Below k zs := fun z hz => Int.lt_of_lt_of_le (h z hz) (pb_le hk)
attribute [local irreducible] valB pb cmpZ lstWp p2 cst
end Go.Proofs.YtelbhbbiejalhaaGreat
set_option maxRecDepth 100000
set_option linter.unusedVariables false
namespace Go.Proofs.YtelbhbbiejalhaaGreat
open Go Go.Sl
set_option maxHeartbeats 4000000
/-- so many digits are left, if the noughts at the top are struck -/
def TrimTo (l : List U32) (n : Nat) : Prop := n ≤ l.length ∧ (∀ j, n ≤ j → j < l.length → (l[j]?.getD default).v = 0) ∧ (n = 0 ∨ (l[n - 1]?.getD default).v ≠ 0)
theorem arr_sub {α : Type} [Cells α] {G : Imm} {a : Option Addr} {c sz : Nat} {l : List α} (h : Arr G a l) (n : Nat) : Arr G (subA a c 0 sz) (l.take n) := by
  refine ⟨flat_length _, ?_⟩
  rcases h.2 with h0 | ⟨b, o, rfl, hr⟩
  · left; rw [List.length_take]; omega
  · refine .inr ⟨b, o, ?_, fun i v hi => hr i v ?_⟩
    · unfold subA
      split
      · rfl
      · simp [Addr.add]
    · have e : flat l = flat (l.take n) ++ flat (l.drop n) := by rw [← flat_append, List.take_append_drop]
      rw [e, List.getElem?_append_left (List.getElem?_eq_some_iff.1 hi).1]; exact hi
theorem c75 (G : Imm) (neg : Bool) (a : Option Addr) (c : Nat) (l : List U32) (hl : Arr G a l) (hb : l.length ≤ 1099511627776) (hc : l.length ≤ c) :
    Does Tryz.prog 75 [.bool neg, .slice a l.length c] G [] (fun v G' Ho => ∃ n, v = .agg #[.bool (neg && decide (0 < n)), .slice (subA a c 0 1) n c] ∧ TrimTo l n ∧ G' = G ∧ Ho = []) := by
  refine Does.enter Tryz.func75 rfl Tryz.ntmps75 rfl (fun w => ?_)
  refine Wc.gl 2 [] ?_
  refine Wl.alloc 0 rfl T.zero97 (fun b1 => ?_)
  refine Wl.gc 11 [] ?_
  refine Wc.loop (ι := Nat) (fun n => ([(5, .int .i64 (n : Int)), (4, Go.Value.pointer (Option.some (Go.Addr.mk b1 0 Option.none))), (0, Go.Value.bool neg), (1, Go.Value.slice a (List.length l) c)], [(0, Option.some b1, Go.Obj.cells #[Go.Value.bool Bool.false, Go.Value.slice Option.none 0 0] 97)])) (fun n => n ≤ l.length ∧ (∀ j, n ≤ j → j < l.length → (l[j]?.getD default).v = 0)) (fun n => n) (l.length) (⟨Nat.le_refl _, fun j h1 h2 => absurd h2 (by omega)⟩) ⟨rfl, rfl, rfl, rfl, trivial⟩ ⟨rfl, trivial⟩ (fun n => fun (hk : n ≤ l.length ∧ (∀ j, n ≤ j → j < l.length → (l[j]?.getD default).v = 0)) => ?_)
  obtain ⟨hn, hz⟩ := hk
  refine Wc.gl 6 [] ?_
  apply Wl.joinAnd 7 10 17 rfl
  intro hg1
  refine Wl.ll0 7 [] ?_
  refine Wl.q rfl (Qy.at (α := U32) T.sl35 rfl rfl (by assumption) (by omega)) ?_
  refine Wl.want rfl rfl ?_
  refine Wl.q rfl (Qy.loadG T.one63 rfl (Arr.cell (by assumption) (by omega) 0 rfl rfl)) ?_
  refine Wl.ll0 3 [] ?_
  exact Wl.back 7 0 rfl rfl rfl rfl rfl
  intro hg1
  refine Wl.ll0 7 [] ?_
  exact Wl.back 7 0 rfl rfl rfl rfl rfl
  refine Wl.gc 2 [] ?_
  refine Wc.cond rfl (fun hc1 => ?_) (fun hc1 => ?_)
  refine Wc.ga 9 [] ?_
  rotate_left
  refine Wc.gl 9 [] ?_
  refine Wl.casesB 21 rfl (fun hg1 => ?_) (fun hg1 => ?_)
  refine Wl.ll0 7 [] ?_
  refine Wl.q rfl (Qy.cutH T.sl35 rfl rfl (by omega)) ?_
  refine Wl.q rfl (Qy.build (cs := [_, _]) T.st97 rfl rfl rfl) ?_
  refine Wl.ga 4 [0] ?_
  refine Ar.out1 (.inr rfl) (Ho := Hp.only _ []) rfl (.agg 0 rfl rfl T.agg97) (Hp.sub_only _ _) ?_
  rotate_left
  refine Wl.ll0 5 [] ?_
  refine Wl.q rfl (Qy.cutH T.sl35 rfl rfl (by omega)) ?_
  refine Wl.q rfl (Qy.build (cs := [_, _]) T.st97 rfl rfl rfl) ?_
  refine Wl.ga 4 [0] ?_
  refine Ar.out1 (.inr rfl) (Ho := Hp.only _ []) rfl (.agg 0 rfl rfl T.agg97) (Hp.sub_only _ _) ?_
  rotate_left
  · refine Ar.re 5 rfl (show _ = Value.int .i64 ((n - 1 : Nat) : Int) by congr 1; omega) ?_
    refine Ar.again (n - 1) ?_ ?_ rfl ⟨rfl, rfl, rfl, rfl, trivial⟩ ⟨rfl, trivial⟩
    · refine ⟨by omega, fun j h1 h2 => ?_⟩
      rcases Nat.lt_or_ge j n with h3 | h3
      · have e : j = (((n : Nat) : Int) - 1).toNat := by omega
        rw [e]; exact hc1.2
      · exact hz j h3 h2
    · omega
  · refine ⟨n, ?_, ⟨hn, hz, ?_⟩, rfl, rfl⟩
    · rw [hg1]
      have e : ((0 : Int) < (n : Int)) = (0 < n) := by rw [eq_iff_iff]; omega
      simp only [e, Bool.true_and, Int.toNat_natCast]
    · rcases Nat.eq_zero_or_pos n with h | h
      · exact .inl h
      · refine .inr fun h2 => hc1 ⟨by omega, ?_⟩
        have e : (((n : Nat) : Int) - 1).toNat = n - 1 := by omega
        rw [e]; exact h2
  · refine ⟨n, ?_, ⟨hn, hz, ?_⟩, rfl, rfl⟩
    · rw [hg1]
      simp only [Bool.false_and, Int.toNat_natCast]
    · rcases Nat.eq_zero_or_pos n with h | h
      · exact .inl h
      · refine .inr fun h2 => hc1 ⟨by omega, ?_⟩
        have e : (((n : Nat) : Int) - 1).toNat = n - 1 := by omega
        rw [e]; exact h2
theorem TrimTo.val {l : List U32} {n : Nat} (h : TrimTo l n) : valL (l.take n) = valL l := valL_trim h.2.1
theorem TrimTo.top {l : List U32} {n : Nat} (h : TrimTo l n) : Top (l.take n) := by
  obtain ⟨h1, h2, h3⟩ := h
  rcases h3 with h3 | h3
  · subst h3; exact .inl rfl
  · by_cases h0 : n = 0
    · subst h0; exact .inl rfl
    · refine .inr ?_
      rw [List.length_take, Nat.min_eq_left h1, List.getElem?_take, if_pos (by omega)]
      exact h3
theorem TrimTo.len {l : List U32} {n : Nat} (h : TrimTo l n) : (l.take n).length = n := by rw [List.length_take, Nat.min_eq_left h.1]
theorem TrimTo.isInt {l : List U32} {n : Nat} (h : TrimTo l n) (hd : Digs l) (neg : Bool) : IsInt (neg && decide (0 < n)) (l.take n) (if neg = true then -valL l else valL l) := by
  refine ⟨hd.take n, h.top, fun e => ?_, ?_⟩
  · have hl := h.len
    rw [e] at hl
    have : n = 0 := by simpa using hl.symm
    subst this; simp
  · have hv := h.val
    rw [← hv]
    cases neg with
    | false => simp
    | true =>
      by_cases h0 : n = 0
      · subst h0; simp [valL_nil]
      · have : 0 < n := by omega
        simp [this]
/-- a number that is struck of a row that stays -/
theorem TrimTo.num {G : Imm} {a : Option Addr} {c : Nat} {l : List U32} {n : Nat} (h : TrimTo l n) (hd : Digs l) (hl : Arr G a l) (hc : l.length ≤ c) (neg : Bool) : Num G ⟨neg && decide (0 < n), subA a c 0 1, n, c⟩ (if neg = true then -valL l else valL l) := by
  refine ⟨l.take n, h.len, Nat.le_trans h.1 hc, ?_, h.isInt hd neg⟩
  exact arr_sub hl n
end Go.Proofs.YtelbhbbiejalhaaGreat
set_option maxRecDepth 100000
set_option linter.unusedVariables false
namespace Go.Proofs.YtelbhbbiejalhaaGreat
open Go Go.Sl
set_option maxHeartbeats 4000000
theorem carry (P s : Int) : P * (s % 65536) + 65536 * P * (s / 65536) = P * s := by
  have h := Int.emod_add_mul_ediv s 65536
  have e : 65536 * P * (s / 65536) = P * (65536 * (s / 65536)) := by rw [Int.mul_comm 65536 P, Int.mul_assoc]
  rw [e, ← Int.mul_add, h]
/-- a digit, nought behind the end -/
def dg (l : List U32) (i : Nat) : Int := (l[((i : Nat) : Int).toNat]?.getD default).v
theorem dg_lt {l : List U32} (h : Digs l) {i : Nat} (hi : i < l.length) : 0 ≤ dg l i ∧ dg l i < 65536 := h.at (by omega)
theorem dg_end {l : List U32} {i : Nat} (hi : l.length ≤ i) : dg l i = 0 := by
  unfold dg; rw [Int.toNat_natCast, List.getElem?_eq_none hi]; rfl
theorem val_step (l : List U32) (i : Nat) : valL (l.take (i + 1)) = valL (l.take i) + pw i * dg l i := by
  rcases Nat.lt_or_ge i l.length with h | h
  · exact valL_take_succ h
  · rw [take_all h, take_all (by omega), dg_end h, Int.mul_zero, Int.add_zero]
theorem plus_next {la lb r : List U32} {i : Nat} {cy s : Int} (hri : r.length = i) (hv : valL (la.take i) + valL (lb.take i) = valL r + pw i * cy) (hs : s = cy + dg la i + dg lb i) :
    valL (la.take (i + 1)) + valL (lb.take (i + 1)) = valL (r ++ [⟨s % 65536⟩]) + pw (i + 1) * (s / 65536) := by
  rw [val_step, val_step, valL_snoc, hri, pw_succ]
  have h := carry (pw i) s
  rw [hs, Int.mul_add, Int.mul_add] at h
  rw [← hs] at h
  show _ = valL r + pw i * (s % 65536) + 65536 * pw i * (s / 65536)
  omega
theorem digs_snoc {r : List U32} (h : Digs r) (s : Int) : Digs (r ++ [⟨s % 65536⟩]) := h.append (Digs.one ⟨Int.emod_nonneg _ (by decide), Int.emod_lt_of_pos _ (by decide)⟩)
attribute [local irreducible] valL pw
theorem c157 (G : Imm) (a b : Option Addr) (ca cb : Nat) (la lb : List U32) (ha : Arr G a la) (hb : Arr G b lb) (da : Digs la) (db : Digs lb) (h1 : la.length ≤ 1073741824) (h2 : lb.length ≤ 1073741824) :
    Does Tryz.prog 157 [.slice a la.length ca, .slice b lb.length cb] G [] (fun v G' Ho => ∃ o c r j, v = .slice o r.length c ∧ OwnA o c r j ∧ Ho = [(0, o.map (·.block), Row 63 r j)] ∧ G' = G ∧ Digs r ∧ valL r = valL la + valL lb ∧ r.length ≤ max la.length lb.length + 1) := by
  refine Does.enter Tryz.func157 rfl Tryz.ntmps157 rfl (fun w => ?_)
  refine Wc.nilRow 0 (Row 63 ([] : List U32) []) ?_
  refine Wc.gc 22 [] ?_
  refine Wc.loop (ι := Nat × Int × List U32 × (Option Addr × Nat × List Value)) (fun (i, cy, r, (o, d, j)) => ([(7, .int .i64 (i : Int)), (6, .int .u32 cy), (5, .slice o r.length d), (4, Go.Value.slice Option.none 0 0), (0, Go.Value.slice a (List.length la) ca), (1, Go.Value.slice b (List.length lb) cb)], [(0, o.map (·.block), Row 63 r j)])) (fun (i, cy, r, (o, d, j)) => r.length = i ∧ (i ≤ max la.length lb.length ∨ (i ≤ max la.length lb.length + 1 ∧ cy = 0)) ∧ 0 ≤ cy ∧ cy ≤ 1 ∧ Digs r ∧ valL (la.take i) + valL (lb.take i) = valL r + pw i * cy ∧ OwnA o d r j) (fun (i, cy, r, (o, d, j)) => 2 * (max la.length lb.length - i) + cy.toNat) ((0, 0, [], (none, 0, []))) (⟨rfl, .inl (Nat.zero_le _), by decide, by decide, Digs.nil, by rw [List.take_zero, List.take_zero, Int.mul_zero, Int.add_zero, valL_nil]; rfl, OwnA.nil⟩) ⟨rfl, rfl, rfl, rfl, rfl, rfl, trivial⟩ ⟨rfl, trivial⟩ (fun ⟨i, cy, r, (o, d, j)⟩ => fun (hk : r.length = i ∧ (i ≤ max la.length lb.length ∨ (i ≤ max la.length lb.length + 1 ∧ cy = 0)) ∧ 0 ≤ cy ∧ cy ≤ 1 ∧ Digs r ∧ valL (la.take i) + valL (lb.take i) = valL r + pw i * cy ∧ OwnA o d r j) => ?_)
  obtain ⟨hri, hiM, hc0, hc1, hdr, hv, hob⟩ := hk
  rcases Nat.lt_or_ge i la.length with hia | hia
  · have da1 : 0 ≤ (la[((i : Nat) : Int).toNat]?.getD default).v ∧ (la[((i : Nat) : Int).toNat]?.getD default).v < 65536 := dg_lt da hia
    rcases Nat.lt_or_ge i lb.length with hib | hib
    · have db1 : 0 ≤ (lb[((i : Nat) : Int).toNat]?.getD default).v ∧ (lb[((i : Nat) : Int).toNat]?.getD default).v < 65536 := dg_lt db hib
      refine Wc.gl 8 [] ?_
      refine Wl.yes 12 rfl (by first | assumption | omega) ?_
      refine Wl.gl 30 [1, 1] ?_
      refine Wl.q rfl (Qy.at (α := U32) T.sl35 rfl rfl (by assumption) (by omega)) ?_
      refine Wl.q rfl (Qy.loadG T.one63 rfl (Arr.cell (by assumption) (by omega) 0 rfl rfl)) ?_
      refine Wl.q rfl (Qy.uadd32 rfl rfl (by omega)) ?_
      refine Wl.gl 17 [1] ?_
      refine Wl.q rfl (Qy.at (α := U32) T.sl35 rfl rfl (by assumption) (by omega)) ?_
      refine Wl.q rfl (Qy.loadG T.one63 rfl (Arr.cell (by assumption) (by omega) 0 rfl rfl)) ?_
      refine Wl.q rfl (Qy.uadd32 rfl rfl (by omega)) ?_
      refine Wl.gl 7 [] ?_
      refine Wl.q rfl (Qy.urem rfl rfl (by omega)) ?_
      refine Wl.lit (α := U32) 1 [⟨(cy + Go.Sl.U32.v (Option.getD la[Int.toNat (↑i : Int)]? Inhabited.default) + Go.Sl.U32.v (Option.getD lb[Int.toNat (↑i : Int)]? Inhabited.default)) % 65536⟩] rfl T.sl35 T.el63 rfl rfl rfl rfl rfl (fun b1 => ?_)
      refine Wl.append (α := U32) 0 rfl T.sl35 T.el63 rfl rfl rfl (by first | assumption | exact OwnA.nil | exact OwnA.made (by simp)) (Src.row 1 rfl) (by first | omega | (simp only [List.length_append, List.length_cons, List.length_nil, maxLen]; omega)) (by first | omega | (simp only [List.length_append, List.length_cons, List.length_nil, maxLen]; omega)) (fun a1 c1 junk1 ho1 => ?_)
      refine Wl.gl 5 [] ?_
      refine Wl.q rfl (Qy.uquo32 rfl rfl (by omega)) ?_
      refine Wl.ga 9 [] ?_
      refine Ar.again ((i + 1, (cy + (la[((i : Nat) : Int).toNat]?.getD default).v + (lb[((i : Nat) : Int).toNat]?.getD default).v) / 65536, _, (a1, c1, junk1))) ?_ ?_ rfl ⟨rfl, rfl, rfl, rfl, rfl, rfl, trivial⟩ ⟨rfl, trivial⟩
      · exact ⟨by rw [List.length_append, hri]; rfl, by omega, by omega, by omega, digs_snoc hdr _, plus_next hri hv (by rfl), ho1⟩
      · show 2 * (max la.length lb.length - (i + 1)) + ((cy + (la[((i : Nat) : Int).toNat]?.getD default).v + (lb[((i : Nat) : Int).toNat]?.getD default).v) / 65536).toNat < 2 * (max la.length lb.length - i) + cy.toNat
        omega
    · have z := dg_end hib
      refine Wc.gl 8 [] ?_
      refine Wl.yes 12 rfl (by first | assumption | omega) ?_
      refine Wl.gl 30 [1, 1] ?_
      refine Wl.q rfl (Qy.at (α := U32) T.sl35 rfl rfl (by assumption) (by omega)) ?_
      refine Wl.q rfl (Qy.loadG T.one63 rfl (Arr.cell (by assumption) (by omega) 0 rfl rfl)) ?_
      refine Wl.q rfl (Qy.uadd32 rfl rfl (by omega)) ?_
      refine Wl.gl 19 [0] ?_
      refine Wl.q rfl (Qy.urem rfl rfl (by omega)) ?_
      refine Wl.lit (α := U32) 1 [⟨(cy + Go.Sl.U32.v (Option.getD la[Int.toNat (↑i : Int)]? Inhabited.default)) % 65536⟩] rfl T.sl35 T.el63 rfl rfl rfl rfl rfl (fun b1 => ?_)
      refine Wl.append (α := U32) 0 rfl T.sl35 T.el63 rfl rfl rfl (by first | assumption | exact OwnA.nil | exact OwnA.made (by simp)) (Src.row 1 rfl) (by first | omega | (simp only [List.length_append, List.length_cons, List.length_nil, maxLen]; omega)) (by first | omega | (simp only [List.length_append, List.length_cons, List.length_nil, maxLen]; omega)) (fun a1 c1 junk1 ho1 => ?_)
      refine Wl.gl 5 [] ?_
      refine Wl.q rfl (Qy.uquo32 rfl rfl (by omega)) ?_
      refine Wl.ga 9 [] ?_
      refine Ar.again ((i + 1, (cy + (la[((i : Nat) : Int).toNat]?.getD default).v) / 65536, _, (a1, c1, junk1))) ?_ ?_ rfl ⟨rfl, rfl, rfl, rfl, rfl, rfl, trivial⟩ ⟨rfl, trivial⟩
      · exact ⟨by rw [List.length_append, hri]; rfl, by omega, by omega, by omega, digs_snoc hdr _, plus_next hri hv (by rw [z, Int.add_zero]; rfl), ho1⟩
      · show 2 * (max la.length lb.length - (i + 1)) + ((cy + (la[((i : Nat) : Int).toNat]?.getD default).v) / 65536).toNat < 2 * (max la.length lb.length - i) + cy.toNat
        omega
  · have z := dg_end hia
    rcases Nat.lt_or_ge i lb.length with hib | hib
    · have db1 : 0 ≤ (lb[((i : Nat) : Int).toNat]?.getD default).v ∧ (lb[((i : Nat) : Int).toNat]?.getD default).v < 65536 := dg_lt db hib
      refine Wc.gl 8 [] ?_
      refine Wl.no 12 rfl (by first | assumption | omega) ?_
      refine Wl.ll0 10 [] ?_
      refine Wl.yes 18 rfl (by first | assumption | omega) ?_
      refine Wl.gl 36 [1, 0, 1] ?_
      refine Wl.q rfl (Qy.at (α := U32) T.sl35 rfl rfl (by assumption) (by omega)) ?_
      refine Wl.q rfl (Qy.loadG T.one63 rfl (Arr.cell (by assumption) (by omega) 0 rfl rfl)) ?_
      refine Wl.q rfl (Qy.uadd32 rfl rfl (by omega)) ?_
      refine Wl.gl 7 [] ?_
      refine Wl.q rfl (Qy.urem rfl rfl (by omega)) ?_
      refine Wl.lit (α := U32) 1 [⟨(cy + Go.Sl.U32.v (Option.getD lb[Int.toNat (↑i : Int)]? Inhabited.default)) % 65536⟩] rfl T.sl35 T.el63 rfl rfl rfl rfl rfl (fun b1 => ?_)
      refine Wl.append (α := U32) 0 rfl T.sl35 T.el63 rfl rfl rfl (by first | assumption | exact OwnA.nil | exact OwnA.made (by simp)) (Src.row 1 rfl) (by first | omega | (simp only [List.length_append, List.length_cons, List.length_nil, maxLen]; omega)) (by first | omega | (simp only [List.length_append, List.length_cons, List.length_nil, maxLen]; omega)) (fun a1 c1 junk1 ho1 => ?_)
      refine Wl.gl 5 [] ?_
      refine Wl.q rfl (Qy.uquo32 rfl rfl (by omega)) ?_
      refine Wl.ga 9 [] ?_
      refine Ar.again ((i + 1, (cy + (lb[((i : Nat) : Int).toNat]?.getD default).v) / 65536, _, (a1, c1, junk1))) ?_ ?_ rfl ⟨rfl, rfl, rfl, rfl, rfl, rfl, trivial⟩ ⟨rfl, trivial⟩
      · exact ⟨by rw [List.length_append, hri]; rfl, by omega, by omega, by omega, digs_snoc hdr _, plus_next hri hv (by rw [z, Int.add_zero]; rfl), ho1⟩
      · show 2 * (max la.length lb.length - (i + 1)) + ((cy + (lb[((i : Nat) : Int).toNat]?.getD default).v) / 65536).toNat < 2 * (max la.length lb.length - i) + cy.toNat
        omega
    · have z2 := dg_end hib
      by_cases hcy : 0 < cy
      · refine Wc.gl 8 [] ?_
        refine Wl.no 12 rfl (by first | assumption | omega) ?_
        refine Wl.ll0 10 [] ?_
        refine Wl.no 18 rfl (by first | assumption | omega) ?_
        refine Wl.gl 40 [1, 0, 0] ?_
        refine Wl.q rfl (Qy.urem rfl rfl (by omega)) ?_
        refine Wl.lit (α := U32) 1 [⟨cy % 65536⟩] rfl T.sl35 T.el63 rfl rfl rfl rfl rfl (fun b1 => ?_)
        refine Wl.append (α := U32) 0 rfl T.sl35 T.el63 rfl rfl rfl (by first | assumption | exact OwnA.nil | exact OwnA.made (by simp)) (Src.row 1 rfl) (by first | omega | (simp only [List.length_append, List.length_cons, List.length_nil, maxLen]; omega)) (by first | omega | (simp only [List.length_append, List.length_cons, List.length_nil, maxLen]; omega)) (fun a1 c1 junk1 ho1 => ?_)
        refine Wl.gl 5 [] ?_
        refine Wl.q rfl (Qy.uquo32 rfl rfl (by omega)) ?_
        refine Wl.ga 9 [] ?_
        refine Ar.again ((i + 1, (cy) / 65536, _, (a1, c1, junk1))) ?_ ?_ rfl ⟨rfl, rfl, rfl, rfl, rfl, rfl, trivial⟩ ⟨rfl, trivial⟩
        · exact ⟨by rw [List.length_append, hri]; rfl, by omega, by omega, by omega, digs_snoc hdr _, plus_next hri hv (by rw [z, z2]; omega), ho1⟩
        · show 2 * (max la.length lb.length - (i + 1)) + ((cy) / 65536).toNat < 2 * (max la.length lb.length - i) + cy.toNat
          omega
      · have e0 : cy = 0 := by omega
        subst e0
        rw [take_all hia, take_all hib, Int.mul_zero, Int.add_zero] at hv
        refine Wc.gl 8 [] ?_
        refine Wl.no 12 rfl (by first | assumption | omega) ?_
        refine Wl.ll0 10 [] ?_
        refine Wl.no 18 rfl (by first | assumption | omega) ?_
        refine Wl.ga 20 [0] ?_
        refine Ar.out1 (.inr rfl) (Ho := Hp.only _ [0]) rfl (.tmp rfl) (Hp.sub_only _ _) ?_
        exact ⟨_, _, _, _, rfl, hob, rfl, rfl, hdr, hv.symm, by omega⟩
theorem minus_next {la lb r : List U32} {i : Nat} {cy cy' s : Int} (hri : r.length = i) (hv : valL (la.take i) - valL (lb.take i) = valL r - pw i * cy) (hs : s = dg la i - dg lb i - cy + 65536 * cy') :
    valL (la.take (i + 1)) - valL (lb.take (i + 1)) = valL (r ++ [⟨s⟩]) - pw (i + 1) * cy' := by
  rw [val_step, val_step, valL_snoc, hri, pw_succ]
  have h : pw i * s = pw i * dg la i - pw i * dg lb i - pw i * cy + 65536 * pw i * cy' := by
    rw [hs, Int.mul_add, Int.mul_sub, Int.mul_sub, ← Int.mul_assoc, Int.mul_comm (pw i) 65536]
  show _ = valL r + pw i * s - 65536 * pw i * cy'
  omega
theorem minus_end {la lb r : List U32} {n : Nat} {cy : Int} (hn : n = la.length) (hb : lb.length ≤ la.length) (hle : valL lb ≤ valL la) (hri : r.length = n) (hd : Digs r) (hc : 0 ≤ cy ∧ cy ≤ 1) (hv : valL (la.take n) - valL (lb.take n) = valL r - pw n * cy) : valL r = valL la - valL lb := by
  rw [take_all (by omega), take_all (by omega)] at hv
  have h := valL_lt hd
  rw [hri] at h
  have hcy : cy = 0 := by
    rcases (show cy = 0 ∨ cy = 1 by omega) with h1 | h1
    · exact h1
    · rw [h1, Int.mul_one] at hv; omega
  rw [hcy, Int.mul_zero] at hv
  omega
theorem c158 (G : Imm) (a b : Option Addr) (ca cb : Nat) (la lb : List U32) (ha : Arr G a la) (hb : Arr G b lb) (da : Digs la) (db : Digs lb) (h1 : la.length ≤ 1073741824) (h2 : lb.length ≤ la.length) (hle : valL lb ≤ valL la) :
    Does Tryz.prog 158 [.slice a la.length ca, .slice b lb.length cb] G [] (fun v G' Ho => ∃ o c r j, v = .slice o r.length c ∧ OwnA o c r j ∧ Ho = [(0, o.map (·.block), Row 63 r j)] ∧ G' = G ∧ Digs r ∧ valL r = valL la - valL lb ∧ r.length = la.length) := by
  refine Does.enter Tryz.func158 rfl Tryz.ntmps158 rfl (fun w => ?_)
  refine Wc.nilRow 0 (Row 63 ([] : List U32) []) ?_
  refine Wc.gc 22 [] ?_
  refine Wc.loop (ι := Nat × Int × List U32 × (Option Addr × Nat × List Value)) (fun (i, cy, r, (o, d, j)) => ([(7, .int .i64 (i : Int)), (6, .int .u32 cy), (5, .slice o r.length d), (4, Go.Value.slice Option.none 0 0), (0, Go.Value.slice a (List.length la) ca), (1, Go.Value.slice b (List.length lb) cb)], [(0, o.map (·.block), Row 63 r j)])) (fun (i, cy, r, (o, d, j)) => r.length = i ∧ i ≤ la.length ∧ 0 ≤ cy ∧ cy ≤ 1 ∧ Digs r ∧ valL (la.take i) - valL (lb.take i) = valL r - pw i * cy ∧ OwnA o d r j) (fun (i, cy, r, (o, d, j)) => la.length - i) ((0, 0, [], (none, 0, []))) (⟨rfl, Nat.zero_le _, by decide, by decide, Digs.nil, by rw [List.take_zero, List.take_zero, Int.mul_zero, Int.sub_zero, Int.sub_self, valL_nil], OwnA.nil⟩) ⟨rfl, rfl, rfl, rfl, rfl, rfl, trivial⟩ ⟨rfl, trivial⟩ (fun ⟨i, cy, r, (o, d, j)⟩ => fun (hk : r.length = i ∧ i ≤ la.length ∧ 0 ≤ cy ∧ cy ≤ 1 ∧ Digs r ∧ valL (la.take i) - valL (lb.take i) = valL r - pw i * cy ∧ OwnA o d r j) => ?_)
  obtain ⟨hri, hiM, hc0, hc1, hdr, hv, hob⟩ := hk
  rcases Nat.lt_or_ge i la.length with hia | hia
  · have da1 : 0 ≤ (la[((i : Nat) : Int).toNat]?.getD default).v ∧ (la[((i : Nat) : Int).toNat]?.getD default).v < 65536 := dg_lt da hia
    rcases Nat.lt_or_ge i lb.length with hib | hib
    · have db1 : 0 ≤ (lb[((i : Nat) : Int).toNat]?.getD default).v ∧ (lb[((i : Nat) : Int).toNat]?.getD default).v < 65536 := dg_lt db hib
      by_cases hlt : (la[((i : Nat) : Int).toNat]?.getD default).v < cy + (lb[((i : Nat) : Int).toNat]?.getD default).v
      · refine Wc.gl 34 [1, 1] ?_
        refine Wl.q rfl (Qy.at (α := U32) T.sl35 rfl rfl (by assumption) (by omega)) ?_
        refine Wl.q rfl (Qy.loadG T.one63 rfl (Arr.cell (by assumption) (by omega) 0 rfl rfl)) ?_
        refine Wl.q rfl (Qy.uadd32 rfl rfl (by omega)) ?_
        refine Wl.gl 12 [] ?_
        refine Wl.q rfl (Qy.at (α := U32) T.sl35 rfl rfl (by assumption) (by omega)) ?_
        refine Wl.q rfl (Qy.loadG T.one63 rfl (Arr.cell (by assumption) (by omega) 0 rfl rfl)) ?_
        refine Wl.gl 15 [1] ?_
        refine Wl.q rfl (Qy.uadd32 rfl rfl (by omega)) ?_
        refine Wl.gl 11 [] ?_
        refine Wl.q rfl (Qy.usub32 rfl rfl (by omega)) ?_
        refine Wl.lit (α := U32) 1 [⟨Go.Sl.U32.v (Option.getD la[Int.toNat (↑i : Int)]? Inhabited.default) + 65536 - (cy + Go.Sl.U32.v (Option.getD lb[Int.toNat (↑i : Int)]? Inhabited.default))⟩] rfl T.sl35 T.el63 rfl rfl rfl rfl rfl (fun b1 => ?_)
        refine Wl.append (α := U32) 0 rfl T.sl35 T.el63 rfl rfl rfl (by first | assumption | exact OwnA.nil | exact OwnA.made (by simp)) (Src.row 1 rfl) (by first | omega | (simp only [List.length_append, List.length_cons, List.length_nil, maxLen]; omega)) (by first | omega | (simp only [List.length_append, List.length_cons, List.length_nil, maxLen]; omega)) (fun a1 c1 junk1 ho1 => ?_)
        refine Wl.ga 9 [] ?_
        refine Ar.again ((i + 1, 1, _, (a1, c1, junk1))) ?_ ?_ rfl ⟨rfl, rfl, rfl, rfl, rfl, rfl, trivial⟩ ⟨rfl, trivial⟩
        · exact ⟨by rw [List.length_append, hri]; rfl, by omega, by decide, by decide, hdr.append (Digs.one (by omega)), minus_next hri hv (by unfold dg; omega), ho1⟩
        · show la.length - (i + 1) < la.length - i
          omega
      · refine Wc.gl 34 [1, 1] ?_
        refine Wl.q rfl (Qy.at (α := U32) T.sl35 rfl rfl (by assumption) (by omega)) ?_
        refine Wl.q rfl (Qy.loadG T.one63 rfl (Arr.cell (by assumption) (by omega) 0 rfl rfl)) ?_
        refine Wl.q rfl (Qy.uadd32 rfl rfl (by omega)) ?_
        refine Wl.gl 12 [] ?_
        refine Wl.q rfl (Qy.at (α := U32) T.sl35 rfl rfl (by assumption) (by omega)) ?_
        refine Wl.q rfl (Qy.loadG T.one63 rfl (Arr.cell (by assumption) (by omega) 0 rfl rfl)) ?_
        refine Wl.gl 18 [0] ?_
        refine Wl.q rfl (Qy.usub32 rfl rfl (by omega)) ?_
        refine Wl.lit (α := U32) 1 [⟨Go.Sl.U32.v (Option.getD la[Int.toNat (↑i : Int)]? Inhabited.default) - (cy + Go.Sl.U32.v (Option.getD lb[Int.toNat (↑i : Int)]? Inhabited.default))⟩] rfl T.sl35 T.el63 rfl rfl rfl rfl rfl (fun b1 => ?_)
        refine Wl.append (α := U32) 0 rfl T.sl35 T.el63 rfl rfl rfl (by first | assumption | exact OwnA.nil | exact OwnA.made (by simp)) (Src.row 1 rfl) (by first | omega | (simp only [List.length_append, List.length_cons, List.length_nil, maxLen]; omega)) (by first | omega | (simp only [List.length_append, List.length_cons, List.length_nil, maxLen]; omega)) (fun a1 c1 junk1 ho1 => ?_)
        refine Wl.ga 9 [] ?_
        refine Ar.again ((i + 1, 0, _, (a1, c1, junk1))) ?_ ?_ rfl ⟨rfl, rfl, rfl, rfl, rfl, rfl, trivial⟩ ⟨rfl, trivial⟩
        · exact ⟨by rw [List.length_append, hri]; rfl, by omega, by decide, by decide, hdr.append (Digs.one (by omega)), minus_next hri hv (by unfold dg; omega), ho1⟩
        · show la.length - (i + 1) < la.length - i
          omega
    · have z := dg_end hib
      by_cases hlt : (la[((i : Nat) : Int).toNat]?.getD default).v < cy
      · refine Wc.gl 41 [1, 0] ?_
        refine Wl.q rfl (Qy.at (α := U32) T.sl35 rfl rfl (by assumption) (by omega)) ?_
        refine Wl.q rfl (Qy.loadG T.one63 rfl (Arr.cell (by assumption) (by omega) 0 rfl rfl)) ?_
        refine Wl.gl 15 [1] ?_
        refine Wl.q rfl (Qy.uadd32 rfl rfl (by omega)) ?_
        refine Wl.gl 11 [] ?_
        refine Wl.q rfl (Qy.usub32 rfl rfl (by omega)) ?_
        refine Wl.lit (α := U32) 1 [⟨Go.Sl.U32.v (Option.getD la[Int.toNat (↑i : Int)]? Inhabited.default) + 65536 - cy⟩] rfl T.sl35 T.el63 rfl rfl rfl rfl rfl (fun b1 => ?_)
        refine Wl.append (α := U32) 0 rfl T.sl35 T.el63 rfl rfl rfl (by first | assumption | exact OwnA.nil | exact OwnA.made (by simp)) (Src.row 1 rfl) (by first | omega | (simp only [List.length_append, List.length_cons, List.length_nil, maxLen]; omega)) (by first | omega | (simp only [List.length_append, List.length_cons, List.length_nil, maxLen]; omega)) (fun a1 c1 junk1 ho1 => ?_)
        refine Wl.ga 9 [] ?_
        refine Ar.again ((i + 1, 1, _, (a1, c1, junk1))) ?_ ?_ rfl ⟨rfl, rfl, rfl, rfl, rfl, rfl, trivial⟩ ⟨rfl, trivial⟩
        · exact ⟨by rw [List.length_append, hri]; rfl, by omega, by decide, by decide, hdr.append (Digs.one (by omega)), minus_next hri hv (by rw [z]; unfold dg; omega), ho1⟩
        · show la.length - (i + 1) < la.length - i
          omega
      · refine Wc.gl 41 [1, 0] ?_
        refine Wl.q rfl (Qy.at (α := U32) T.sl35 rfl rfl (by assumption) (by omega)) ?_
        refine Wl.q rfl (Qy.loadG T.one63 rfl (Arr.cell (by assumption) (by omega) 0 rfl rfl)) ?_
        refine Wl.gl 18 [0] ?_
        refine Wl.q rfl (Qy.usub32 rfl rfl (by omega)) ?_
        refine Wl.lit (α := U32) 1 [⟨Go.Sl.U32.v (Option.getD la[Int.toNat (↑i : Int)]? Inhabited.default) - cy⟩] rfl T.sl35 T.el63 rfl rfl rfl rfl rfl (fun b1 => ?_)
        refine Wl.append (α := U32) 0 rfl T.sl35 T.el63 rfl rfl rfl (by first | assumption | exact OwnA.nil | exact OwnA.made (by simp)) (Src.row 1 rfl) (by first | omega | (simp only [List.length_append, List.length_cons, List.length_nil, maxLen]; omega)) (by first | omega | (simp only [List.length_append, List.length_cons, List.length_nil, maxLen]; omega)) (fun a1 c1 junk1 ho1 => ?_)
        refine Wl.ga 9 [] ?_
        refine Ar.again ((i + 1, 0, _, (a1, c1, junk1))) ?_ ?_ rfl ⟨rfl, rfl, rfl, rfl, rfl, rfl, trivial⟩ ⟨rfl, trivial⟩
        · exact ⟨by rw [List.length_append, hri]; rfl, by omega, by decide, by decide, hdr.append (Digs.one (by omega)), minus_next hri hv (by rw [z]; unfold dg; omega), ho1⟩
        · show la.length - (i + 1) < la.length - i
          omega
  · refine Wc.ga 22 [0] ?_
    refine Ar.out1 (.inr rfl) (Ho := Hp.only _ [0]) rfl (.tmp rfl) (Hp.sub_only _ _) ?_
    exact ⟨_, _, _, _, rfl, hob, rfl, rfl, hdr, minus_end (by omega) h2 hle hri hdr ⟨hc0, hc1⟩ hv, by omega⟩
end Go.Proofs.YtelbhbbiejalhaaGreat
set_option maxRecDepth 100000
set_option linter.unusedVariables false
namespace Go.Proofs.YtelbhbbiejalhaaGreat
open Go Go.Sl
set_option maxHeartbeats 4000000
theorem val_split (l : List U32) {m : Nat} (h : m ≤ l.length) : valL l = valL (l.take m) + pw m * valL (l.drop m) := by
  have e : valL l = valL (l.take m ++ l.drop m) := by rw [List.take_append_drop]
  rw [e, valL_append, List.length_take, Nat.min_eq_left h]
theorem u32_eq {x y : U32} (h : x.v = y.v) : x = y := by cases x; cases y; simp only at h; rw [h]
theorem drop_same {la lb : List U32} {k : Nat} (hn : la.length = lb.length) (h : ∀ j, k ≤ j → j < la.length → dg la j = dg lb j) : la.drop k = lb.drop k := by
  apply List.ext_getElem?
  intro j
  rw [List.getElem?_drop, List.getElem?_drop]
  rcases Nat.lt_or_ge (k + j) la.length with hj | hj
  · have := h (k + j) (by omega) hj
    unfold dg at this
    rw [Int.toNat_natCast, List.getElem?_eq_getElem hj, List.getElem?_eq_getElem (by omega)] at this
    rw [List.getElem?_eq_getElem hj, List.getElem?_eq_getElem (by omega)]; exact congrArg some (u32_eq this)
  · rw [List.getElem?_eq_none hj, List.getElem?_eq_none (by omega)]
theorem high_lt {la lb : List U32} {k : Nat} (hn : la.length = lb.length) (hk : k < la.length) (da : Digs la) (db : Digs lb) (h : ∀ j, k + 1 ≤ j → j < la.length → dg la j = dg lb j) (hlt : dg la k < dg lb k) : valL la < valL lb := by
  have e1 := val_split la (m := k + 1) (by omega)
  have e2 := val_split lb (m := k + 1) (by omega)
  rw [val_step, drop_same hn h] at e1
  rw [val_step] at e2
  have h1 := valL_lt (da.take k)
  have h2 := valL_nonneg (db.take k)
  rw [List.length_take, Nat.min_eq_left (by omega)] at h1
  have h3 := Int.mul_le_mul_of_nonneg_left (show dg la k + 1 ≤ dg lb k by omega) (Int.le_of_lt (pw_pos k))
  rw [Int.mul_add, Int.mul_one] at h3
  omega
attribute [local irreducible] valL pw cmpZ
theorem c112 (G : Imm) (a b : Option Addr) (ca cb : Nat) (la lb : List U32) (ha : Arr G a la) (hb : Arr G b lb) (da : Digs la) (db : Digs lb) (ta : Top la) (tb : Top lb) (h1 : la.length ≤ 1073741824) (h2 : lb.length ≤ 1073741824) :
    Does Tryz.prog 112 [.slice a la.length ca, .slice b lb.length cb] G [] (fun v G' Ho => v = .int .i64 (cmpZ (valL la) (valL lb)) ∧ G' = G ∧ Ho = []) := by
  refine Does.enter Tryz.func112 rfl Tryz.ntmps112 rfl (fun w => ?_)
  by_cases hn : la.length = lb.length
  · refine Wc.gc 28 [0] ?_
    refine Wc.loop (ι := Nat) (fun k => ([(5, .int .i64 ((k : Int) - 1)), (0, Go.Value.slice a (List.length la) ca), (1, Go.Value.slice b (List.length lb) cb)], [])) (fun k => k ≤ la.length ∧ ∀ j, k ≤ j → j < la.length → dg la j = dg lb j) (fun k => k) (la.length) (⟨Nat.le_refl _, fun j h1 h2 => absurd h2 (by omega)⟩) ⟨rfl, rfl, rfl, trivial⟩ trivial (fun k => fun (hk : k ≤ la.length ∧ ∀ j, k ≤ j → j < la.length → dg la j = dg lb j) => ?_)
    obtain ⟨hk1, hz⟩ := hk
    rcases Nat.eq_zero_or_pos k with rfl | hpos
    · refine Wc.ga 19 [0] ?_
      refine Ar.out1 (.inr rfl) (Ho := Hp.only _ []) rfl (.tmp rfl) (Hp.sub_only _ _) ?_
      have e : la = lb := by
        have := drop_same (k := 0) hn hz
        simpa using this
      exact ⟨by rw [e, cmpZ_eq rfl], rfl, rfl⟩
    · have e1 : (la[(((k : Nat) : Int) - 1).toNat]?.getD default).v = dg la (k - 1) := by
        unfold dg; rw [show (((k : Nat) : Int) - 1).toNat = ((k - 1 : Nat) : Int).toNat by omega]
      have e2 : (lb[(((k : Nat) : Int) - 1).toNat]?.getD default).v = dg lb (k - 1) := by
        unfold dg; rw [show (((k : Nat) : Int) - 1).toNat = ((k - 1 : Nat) : Int).toNat by omega]
      have hz' : ∀ j, (k - 1) + 1 ≤ j → j < la.length → dg la j = dg lb j := fun j h1 h2 => hz j (by omega) h2
      refine Wc.gc 14 [1] ?_
      refine Wc.draw [] [] T.mixed rfl ?_
      refine Gm.q 0 [] (by kernel_rfl) rfl rfl (Qy.move rfl) ?_
      refine Gm.q 1 [] (by kernel_rfl) rfl rfl (Qy.move rfl) ?_
      refine Gm.q 2 [] (by kernel_rfl) rfl rfl (Qy.at (α := U32) T.sl35 rfl rfl (by assumption) (by omega)) ?_
      refine Gm.q 3 [] (by kernel_rfl) rfl rfl (Qy.loadG T.one63 rfl (Arr.cell (by assumption) (by omega) 0 rfl rfl)) ?_
      refine Gm.q 4 [] (by kernel_rfl) rfl rfl (Qy.move rfl) ?_
      refine Gm.q 5 [] (by kernel_rfl) rfl rfl (Qy.move rfl) ?_
      refine Gm.q 6 [] (by kernel_rfl) rfl rfl (Qy.at (α := U32) T.sl35 rfl rfl (by assumption) (by omega)) ?_
      refine Gm.q 7 [] (by kernel_rfl) rfl rfl (Qy.loadG T.one63 rfl (Arr.cell (by assumption) (by omega) 0 rfl rfl)) ?_
      refine Gm.q 8 [] (by kernel_rfl) rfl rfl (Qy.lss rfl rfl) ?_
      refine Gm.doneA (by kernel_rfl) trivial (by first | exact Imm.le_refl _ | assumption) ?_
      refine Ar.next ?_
      refine Wc.cond rfl (fun hc1 => ?_) (fun hc1 => ?_)
      refine Wc.ga 12 [] ?_
      refine Ar.out1 (.inr rfl) (Ho := Hp.only _ []) rfl (.tmp rfl) (Hp.sub_only _ _) ?_
      rotate_left
      refine Wc.gc 3 [] ?_
      refine Wc.draw [] [] T.mixed rfl ?_
      refine Gm.q 0 [] (by kernel_rfl) rfl rfl (Qy.move rfl) ?_
      refine Gm.q 1 [] (by kernel_rfl) rfl rfl (Qy.move rfl) ?_
      refine Gm.q 2 [] (by kernel_rfl) rfl rfl (Qy.at (α := U32) T.sl35 rfl rfl (by assumption) (by omega)) ?_
      refine Gm.q 3 [] (by kernel_rfl) rfl rfl (Qy.loadG T.one63 rfl (Arr.cell (by assumption) (by omega) 0 rfl rfl)) ?_
      refine Gm.q 4 [] (by kernel_rfl) rfl rfl (Qy.move rfl) ?_
      refine Gm.q 5 [] (by kernel_rfl) rfl rfl (Qy.move rfl) ?_
      refine Gm.q 6 [] (by kernel_rfl) rfl rfl (Qy.at (α := U32) T.sl35 rfl rfl (by assumption) (by omega)) ?_
      refine Gm.q 7 [] (by kernel_rfl) rfl rfl (Qy.loadG T.one63 rfl (Arr.cell (by assumption) (by omega) 0 rfl rfl)) ?_
      refine Gm.q 8 [] (by kernel_rfl) rfl rfl (Qy.gtr rfl rfl) ?_
      refine Gm.doneA (by kernel_rfl) trivial (by first | exact Imm.le_refl _ | assumption) ?_
      refine Ar.next ?_
      refine Wc.cond rfl (fun hc2 => ?_) (fun hc2 => ?_)
      refine Wc.ga 11 [] ?_
      refine Ar.out1 (.inr rfl) (Ho := Hp.only _ []) rfl (.tmp rfl) (Hp.sub_only _ _) ?_
      rotate_left
      refine Wc.ga 8 [] ?_
      rotate_left
      · exact ⟨by rw [cmpZ_lt (high_lt hn (by omega) da db hz' (by omega))], rfl, rfl⟩
      · exact ⟨by rw [cmpZ_gt (high_lt hn.symm (by omega) db da (fun j h1 h2 => (hz' j h1 (by omega)).symm) (by omega))], rfl, rfl⟩
      · refine Ar.re 5 rfl (show _ = Value.int .i64 (((k - 1 : Nat) : Int) - 1) by congr 1; omega) ?_
        refine Ar.again (k - 1) ?_ ?_ rfl ⟨rfl, rfl, rfl, trivial⟩ trivial
        · refine ⟨by omega, fun j h1 h2 => ?_⟩
          rcases Nat.lt_or_ge j k with h3 | h3
          · have e : j = k - 1 := by omega
            rw [e]; omega
          · exact hz j h3 h2
        · omega
  · by_cases hlt : la.length < lb.length
    · refine Wc.ga 35 [1, 1] ?_
      refine Ar.out1 (.inr rfl) (Ho := Hp.only _ []) rfl (.tmp rfl) (Hp.sub_only _ _) ?_
      exact ⟨by rw [cmpZ_lt (top_lt_len da db tb hlt)], rfl, rfl⟩
    · refine Wc.ga 36 [1, 0] ?_
      refine Ar.out1 (.inr rfl) (Ho := Hp.only _ []) rfl (.tmp rfl) (Hp.sub_only _ _) ?_
      exact ⟨by rw [cmpZ_gt (top_lt_len db da ta (by omega))], rfl, rfl⟩
theorem c111 (G : Imm) (neg : Bool) (a : Option Addr) (c : Nat) (l : List U32) (z : Int) (h : IsInt neg l z) (h1 : l.length ≤ 1073741824) :
    Does Tryz.prog 111 [.agg #[.bool neg, .slice a l.length c]] G [] (fun v G' Ho => v = .int .i64 (sgZ z) ∧ G' = G ∧ Ho = []) := by
  have hz := h.zero_iff
  have hn := h.neg_iff
  refine Does.enter Tryz.func111 rfl Tryz.ntmps111 rfl (fun w => ?_)
  by_cases h0 : l.length = 0
  · have hz0 := hz.1 h0
    refine Wc.gl 2 [] ?_
    refine Wl.box 0 rfl rfl rfl (fun b1 => ?_)
    refine Wl.ga 20 [0, 1] ?_
    refine Ar.out1 (.inr rfl) (Ho := Hp.only _ []) rfl (.tmp rfl) (Hp.sub_only _ _) ?_
    exact ⟨by rw [hz0]; rfl, rfl, rfl⟩
  · have hz0 : z ≠ 0 := fun e => h0 (hz.2 e)
    by_cases hs : z < 0
    · rw [hn, decide_eq_true hs]
      refine Wc.gl 2 [] ?_
      refine Wl.box 0 rfl rfl rfl (fun b1 => ?_)
      refine Wl.ga 30 [0, 0, 0, 1] ?_
      refine Ar.out1 (.inr rfl) (Ho := Hp.only _ []) rfl (.tmp rfl) (Hp.sub_only _ _) ?_
      exact ⟨by unfold sgZ; rw [if_neg hz0, if_pos hs], rfl, rfl⟩
    · rw [hn, decide_eq_false hs]
      refine Wc.gl 2 [] ?_
      refine Wl.box 0 rfl rfl rfl (fun b1 => ?_)
      refine Wl.ga 31 [0, 0, 0, 0] ?_
      refine Ar.out1 (.inr rfl) (Ho := Hp.only _ []) rfl (.tmp rfl) (Hp.sub_only _ _) ?_
      exact ⟨by unfold sgZ; rw [if_neg hz0, if_neg hs], rfl, rfl⟩
theorem c76 (G : Imm) (n1 n2 : Bool) (a b : Option Addr) (ca cb : Nat) (la lb : List U32) (x y : Int) (ha : Arr G a la) (hb : Arr G b lb) (hx : IsInt n1 la x) (hy : IsInt n2 lb y) (h1 : la.length ≤ 1073741824) (h2 : lb.length ≤ 1073741824) :
    Does Tryz.prog 76 [.agg #[.bool n1, .slice a la.length ca], .agg #[.bool n2, .slice b lb.length cb]] G [] (fun v G' Ho => v = .int .i64 (cmpZ x y) ∧ G' = G ∧ Ho = []) := by
  have da := hx.digs
  have db := hy.digs
  have ta := hx.top
  have tb := hy.top
  have va := hx.abs
  have vb := hy.abs
  have cs : ∀ u v : Int, u < v → cmpZ u v = -1 := fun u v h => cmpZ_lt h
  have cg : ∀ u v : Int, v < u → cmpZ u v = 1 := fun u v h => cmpZ_gt h
  refine Does.enter Tryz.func76 rfl Tryz.ntmps76 rfl (fun w => ?_)
  have sx : (sgZ x = -1 ∧ x < 0) ∨ (sgZ x = 0 ∧ x = 0) ∨ (sgZ x = 1 ∧ 0 < x) := by
    rcases Int.lt_trichotomy x 0 with h | h | h
    · exact .inl ⟨sgZ_lt h, h⟩
    · exact .inr (.inl ⟨sgZ_eq h, h⟩)
    · exact .inr (.inr ⟨sgZ_gt h, h⟩)
  have sy : (sgZ y = -1 ∧ y < 0) ∨ (sgZ y = 0 ∧ y = 0) ∨ (sgZ y = 1 ∧ 0 < y) := by
    rcases Int.lt_trichotomy y 0 with h | h | h
    · exact .inl ⟨sgZ_lt h, h⟩
    · exact .inr (.inl ⟨sgZ_eq h, h⟩)
    · exact .inr (.inr ⟨sgZ_gt h, h⟩)
  refine Wc.gl 2 [] ?_
  refine Wl.box 0 rfl rfl rfl (fun b1 => ?_)
  refine Wl.box 1 rfl rfl rfl (fun b2 => ?_)
  refine Wl.gc 4 [] ?_
  refine Wc.draw [0, 1] [] T.mixed rfl ?_
  refine Gm.q 0 [0] (by kernel_rfl) rfl rfl (Qy.loadAll 0 T.agg97 rfl rfl rfl) ?_
  refine Gm.q 2 [1] (by kernel_rfl) rfl rfl (Qy.loadAll 1 T.agg97 rfl rfl rfl) ?_
  refine Gm.one 1 ⟨rfl, rfl, trivial⟩ (by first | exact Imm.le_refl _ | assumption) (by kernel_rfl) rfl ?_
  refine Wl.call0 rfl T.fn111 rfl (c111 _ _ _ _ _ _ (by assumption) (by assumption)) ?_
  refine Wl.on0 ?_
  refine Gm.one 3 ⟨rfl, rfl, trivial⟩ (by first | exact Imm.le_refl _ | assumption) (by kernel_rfl) rfl ?_
  refine Wl.call0 rfl T.fn111 rfl (c111 _ _ _ _ _ _ (by assumption) (by assumption)) ?_
  refine Wl.on0 ?_
  refine Gm.q 4 [] (by kernel_rfl) rfl rfl (Qy.assign rfl) ?_
  refine Gm.q 5 [] (by kernel_rfl) rfl rfl (Qy.assign rfl) ?_
  refine Gm.doneA (by kernel_rfl) ⟨rfl, rfl, trivial⟩ (by first | exact Imm.le_refl _ | assumption) ?_
  refine Ar.gc 9 [] ?_
  refine Wc.cond rfl (fun hc1 => ?_) (fun hc1 => ?_)
  refine Wc.gc 8 [] ?_
  refine Wc.cond rfl (fun hc2 => ?_) (fun hc2 => ?_)
  refine Wc.ga 8 [] ?_
  refine Ar.out1 (.inr rfl) (Ho := Hp.only _ []) rfl (.tmp rfl) (Hp.sub_only _ _) ?_
  rotate_left
  refine Wc.ga 9 [] ?_
  refine Ar.out1 (.inr rfl) (Ho := Hp.only _ []) rfl (.tmp rfl) (Hp.sub_only _ _) ?_
  rotate_left
  refine Wc.gc 9 [] ?_
  refine Wc.cond rfl (fun hc2 => ?_) (fun hc2 => ?_)
  refine Wc.gl 6 [1, 0] ?_
  refine Wl.call0 rfl T.fn112 rfl (c112 _ _ _ _ _ _ _ (by assumption) (by assumption) (by assumption) (by assumption) (by assumption) (by assumption) (by assumption) (by assumption)) ?_
  refine Wl.ga 5 [] ?_
  refine Ar.out1 (.inr rfl) (Ho := Hp.only _ []) rfl (.tmp rfl) (Hp.sub_only _ _) ?_
  rotate_left
  refine Wc.gl 8 [0, 1] ?_
  refine Wl.call0 rfl T.fn112 rfl (c112 _ _ _ _ _ _ _ (by assumption) (by assumption) (by assumption) (by assumption) (by assumption) (by assumption) (by assumption) (by assumption)) ?_
  refine Wl.ga 4 [] ?_
  refine Ar.out1 (.inr rfl) (Ho := Hp.only _ []) rfl (.tmp rfl) (Hp.sub_only _ _) ?_
  rotate_left
  · exact ⟨by rw [cs x y (by omega)], rfl, rfl⟩
  · exact ⟨by rw [cg x y (by omega)], rfl, rfl⟩
  · exact ⟨by rw [cmpZ_congr (x := valL lb) (y := valL la) (u := x) (v := y) (by omega) (by omega)], rfl, rfl⟩
  · exact ⟨by rw [cmpZ_congr (x := valL la) (y := valL lb) (u := x) (v := y) (by omega) (by omega)], rfl, rfl⟩
end Go.Proofs.YtelbhbbiejalhaaGreat
set_option maxRecDepth 100000
set_option linter.unusedVariables false
namespace Go.Proofs.YtelbhbbiejalhaaGreat
open Go Go.Sl
set_option maxHeartbeats 4000000
attribute [local irreducible] valL pw cmpZ
theorem c165 (G : Imm) (neg : Bool) (a : Option Addr) (c : Nat) (l : List U32) (z : Int) (ha : Arr G a l) (h : IsInt neg l z) (h1 : l.length ≤ 1073741824) (hc : l.length ≤ c) :
    Does Tryz.prog 165 [.agg #[.bool neg, .slice a l.length c]] G [] (fun v G' Ho => ∃ r : IV, v = .agg #[.bool r.neg, .slice r.a r.n r.c] ∧ Num G r (-z) ∧ G' = G ∧ Ho = []) := by
  refine Does.enter Tryz.func165 rfl Tryz.ntmps165 rfl (fun w => ?_)
  refine Wc.gl 2 [] ?_
  refine Wl.box 0 rfl rfl rfl (fun b1 => ?_)
  refine Wl.alloc 1 rfl T.zero97 (fun b2 => ?_)
  refine Wl.gl 9 [0, 0] ?_
  refine Wl.call 2 rfl T.fn75 rfl (c75 _ _ _ _ _ (by assumption) (by omega) (by assumption)) (tags_of trivial) (fun v1 G1 Ho1 hle1 hp => ?_)
  obtain ⟨tn1, rfl, htr1, rfl, rfl⟩ := hp
  refine Wl.ga 4 [1] ?_
  refine Ar.out1 (.inr rfl) (Ho := Hp.only _ []) rfl (.agg 1 rfl rfl T.agg97) (Hp.sub_only _ _) ?_
  refine ⟨⟨!neg && decide (0 < tn1), subA a c 0 1, tn1, c⟩, rfl, ?_, rfl, rfl⟩
  have e := htr1.num h.digs ha hc (!neg)
  have e2 : (if (!neg) = true then -valL l else valL l) = -z := by
    rw [h.val]; cases neg <;> simp
  rw [e2] at e; exact e
theorem c160 (G : Imm) (neg : Bool) (a : Option Addr) (c : Nat) (l : List U32) (z : Int) (ha : Arr G a l) (h : IsInt neg l z) (h1 : l.length ≤ 1073741824) (hc : l.length ≤ c) :
    Does Tryz.prog 160 [.agg #[.bool neg, .slice a l.length c]] G [] (fun v G' Ho => ∃ r : IV, v = .agg #[.bool r.neg, .slice r.a r.n r.c] ∧ Num G r (z.natAbs : Int) ∧ G' = G ∧ Ho = []) := by
  refine Does.enter Tryz.func160 rfl Tryz.ntmps160 rfl (fun w => ?_)
  refine Wc.gl 2 [] ?_
  refine Wl.box 0 rfl rfl rfl (fun b1 => ?_)
  refine Wl.alloc 1 rfl T.zero97 (fun b2 => ?_)
  refine Wl.gl 6 [0] ?_
  refine Wl.call 2 rfl T.fn75 rfl (c75 _ _ _ _ _ (by assumption) (by omega) (by assumption)) (tags_of trivial) (fun v1 G1 Ho1 hle1 hp => ?_)
  obtain ⟨tn1, rfl, htr1, rfl, rfl⟩ := hp
  refine Wl.ga 4 [1] ?_
  refine Ar.out1 (.inr rfl) (Ho := Hp.only _ []) rfl (.agg 1 rfl rfl T.agg97) (Hp.sub_only _ _) ?_
  refine ⟨⟨false && decide (0 < tn1), subA a c 0 1, tn1, c⟩, rfl, ?_, rfl, rfl⟩
  have e := htr1.num h.digs ha hc false
  rw [if_neg (by decide), h.abs] at e
  exact e
theorem pw_lt_iff {a b : Nat} (h : pw a < pw b) : a < b := by
  rcases Nat.lt_or_ge a b with h1 | h1
  · exact h1
  · have := pw_le h1; omega
theorem of_next {r : List U32} {u m : Int} (h : valL r + pw r.length * u = m) : valL (r ++ [(⟨u % 65536⟩ : U32)]) + pw (r ++ [(⟨u % 65536⟩ : U32)]).length * (u / 65536) = m := by
  rw [valL_snoc, List.length_append, List.length_singleton, pw_succ]
  have := carry (pw r.length) u
  show valL r + pw r.length * (u % 65536) + 65536 * pw r.length * (u / 65536) = m
  omega
theorem of_len {r : List U32} {u m : Int} (h : valL r + pw r.length * u = m) (hd : Digs r) (hu : 0 < u) (hm : m ≤ 9223372036854775808) : r.length < 4 := by
  have h1 := valL_nonneg hd
  have h2 := Int.mul_le_mul_of_nonneg_left (show (1 : Int) ≤ u by omega) (Int.le_of_lt (pw_pos r.length))
  refine pw_lt_iff ?_
  have h3 : pw 4 = 18446744073709551616 := by unfold pw; decide
  omega
theorem c45 (G : Imm) (n : Int) (hn : -9223372036854775808 ≤ n ∧ n ≤ 9223372036854775807) :
    Does Tryz.prog 45 [.int .i64 n] G [] (fun v G' Ho => ∃ r : IV, v = .agg #[.bool r.neg, .slice r.a r.n r.c] ∧ Num G' r n ∧ Ho = []) := by
  refine Does.enter Tryz.func45 rfl Tryz.ntmps45 rfl (fun w => ?_)
  refine Wc.nilRow 0 (Row 63 ([] : List U32) []) ?_
  by_cases hneg : n < 0
  · refine Wc.gl 2 [] ?_
    refine Wl.alloc 1 rfl T.zero97 (fun b1 => ?_)
    refine Wl.gl 5 [] ?_
    refine Wl.q rfl (Qy.conv rfl T.u61 rfl) ?_
    refine Wl.gl 13 [1] ?_
    refine Wl.q rfl (Qy.negW rfl) ?_
    refine Wl.gc 10 [] ?_
    refine Wc.re 3 rfl (show _ = Value.int .u64 (-n) by rw [wrap_neg ⟨hn.1, hneg⟩]) ?_
    refine Wc.loop (ι := Int × List U32 × (Option Addr × Nat × List Value)) (fun (u, r, (o, d, j)) => ([(3, .int .u64 u), (4, .slice o r.length d), (2, Go.Value.pointer (Option.some (Go.Addr.mk b1 0 Option.none))), (0, Go.Value.int Go.IntKind.i64 n)], [(0, o.map (·.block), Row 63 r j), (1, Option.some b1, Go.Obj.cells #[Go.Value.bool Bool.false, Go.Value.slice Option.none 0 0] 97)])) (fun (u, r, (o, d, j)) => 0 ≤ u ∧ u ≤ 9223372036854775808 ∧ Digs r ∧ valL r + pw r.length * u = n.natAbs ∧ r.length ≤ 4 ∧ OwnA o d r j) (fun (u, r, (o, d, j)) => u.toNat) ((-n, [], (none, 0, []))) (⟨by omega, by omega, Digs.nil, by rw [valL_nil, List.length_nil, pw_zero]; omega, by decide, OwnA.nil⟩) ⟨rfl, rfl, rfl, rfl, trivial⟩ ⟨rfl, rfl, trivial⟩ (fun ⟨u, r, (o, d, j)⟩ => fun (hk : 0 ≤ u ∧ u ≤ 9223372036854775808 ∧ Digs r ∧ valL r + pw r.length * u = n.natAbs ∧ r.length ≤ 4 ∧ OwnA o d r j) => ?_)
    obtain ⟨hu0, hu1, hdr, hv, hrl, hob⟩ := hk
    by_cases hu : 0 < u
    · have hl4 := of_len hv hdr hu (by omega)
      refine Wc.gl 15 [1] ?_
      refine Wl.q rfl (Qy.urem rfl rfl (by omega)) ?_
      refine Wl.q rfl (Qy.conv32 rfl T.u63 rfl (by omega)) ?_
      refine Wl.lit (α := U32) 2 [⟨u % 65536⟩] rfl T.sl35 T.el63 rfl rfl rfl rfl rfl (fun b2 => ?_)
      refine Wl.append (α := U32) 0 rfl T.sl35 T.el63 rfl rfl rfl (by first | assumption | exact OwnA.nil | exact OwnA.made (by simp)) (Src.row 2 rfl) (by first | omega | (simp only [List.length_append, List.length_cons, List.length_nil, maxLen]; omega)) (by first | omega | (simp only [List.length_append, List.length_cons, List.length_nil, maxLen]; omega)) (fun a1 c1 junk1 ho1 => ?_)
      refine Wl.gl 5 [] ?_
      refine Wl.q rfl (Qy.uquo64 rfl rfl (by omega)) ?_
      refine Wl.ga 3 [] ?_
      refine Ar.again ((u / 65536, _, (a1, c1, junk1))) ?_ ?_ rfl ⟨rfl, rfl, rfl, rfl, trivial⟩ ⟨rfl, rfl, trivial⟩
      · exact ⟨by omega, by omega, digs_snoc hdr _, of_next hv, by rw [List.length_append]; show r.length + 1 ≤ 4; omega, ho1⟩
      · show (u / 65536).toNat < u.toNat
        omega
    · have hu : u = 0 := by omega
      subst hu
      rw [Int.mul_zero, Int.add_zero] at hv
      refine Wc.gl 18 [0] ?_
      have hcap := hob.le
      refine Wl.freezeRow 0 rfl hob (fun G1 hle1 hA => ?_)
      refine Wl.call 2 rfl T.fn75 rfl (c75 _ _ _ _ _ (by assumption) (by omega) (by assumption)) (tags_of trivial) (fun v2 G2 Ho2 hle2 hp => ?_)
      obtain ⟨tn2, rfl, htr2, rfl, rfl⟩ := hp
      refine Wl.ga 4 [1] ?_
      refine Ar.out1 (.inr rfl) (Ho := Hp.only _ []) rfl (.agg 1 rfl rfl T.agg97) (Hp.sub_only _ _) ?_
      refine ⟨⟨decide (n < 0) && decide (0 < tn2), subA o d 0 1, tn2, d⟩, rfl, ?_, rfl⟩
      have e := htr2.num hdr hA hcap (decide (n < 0))
      have e2 : (if decide (n < 0) = true then -valL r else valL r) = n := by
        rw [hv]; by_cases h : n < 0
        · rw [if_pos (by simpa using h)]; omega
        · rw [if_neg (by simpa using h)]; omega
      rw [e2] at e; exact e
  · refine Wc.gl 2 [] ?_
    refine Wl.alloc 1 rfl T.zero97 (fun b1 => ?_)
    refine Wl.gl 5 [] ?_
    refine Wl.q rfl (Qy.conv64 rfl T.u61 rfl (by omega)) ?_
    refine Wl.gc 20 [0] ?_
    refine Wc.loop (ι := Int × List U32 × (Option Addr × Nat × List Value)) (fun (u, r, (o, d, j)) => ([(3, .int .u64 u), (4, .slice o r.length d), (2, Go.Value.pointer (Option.some (Go.Addr.mk b1 0 Option.none))), (0, Go.Value.int Go.IntKind.i64 n)], [(0, o.map (·.block), Row 63 r j), (1, Option.some b1, Go.Obj.cells #[Go.Value.bool Bool.false, Go.Value.slice Option.none 0 0] 97)])) (fun (u, r, (o, d, j)) => 0 ≤ u ∧ u ≤ 9223372036854775808 ∧ Digs r ∧ valL r + pw r.length * u = n.natAbs ∧ r.length ≤ 4 ∧ OwnA o d r j) (fun (u, r, (o, d, j)) => u.toNat) ((n, [], (none, 0, []))) (⟨by omega, by omega, Digs.nil, by rw [valL_nil, List.length_nil, pw_zero]; omega, by decide, OwnA.nil⟩) ⟨rfl, rfl, rfl, rfl, trivial⟩ ⟨rfl, rfl, trivial⟩ (fun ⟨u, r, (o, d, j)⟩ => fun (hk : 0 ≤ u ∧ u ≤ 9223372036854775808 ∧ Digs r ∧ valL r + pw r.length * u = n.natAbs ∧ r.length ≤ 4 ∧ OwnA o d r j) => ?_)
    obtain ⟨hu0, hu1, hdr, hv, hrl, hob⟩ := hk
    by_cases hu : 0 < u
    · have hl4 := of_len hv hdr hu (by omega)
      refine Wc.gl 15 [1] ?_
      refine Wl.q rfl (Qy.urem rfl rfl (by omega)) ?_
      refine Wl.q rfl (Qy.conv32 rfl T.u63 rfl (by omega)) ?_
      refine Wl.lit (α := U32) 2 [⟨u % 65536⟩] rfl T.sl35 T.el63 rfl rfl rfl rfl rfl (fun b2 => ?_)
      refine Wl.append (α := U32) 0 rfl T.sl35 T.el63 rfl rfl rfl (by first | assumption | exact OwnA.nil | exact OwnA.made (by simp)) (Src.row 2 rfl) (by first | omega | (simp only [List.length_append, List.length_cons, List.length_nil, maxLen]; omega)) (by first | omega | (simp only [List.length_append, List.length_cons, List.length_nil, maxLen]; omega)) (fun a1 c1 junk1 ho1 => ?_)
      refine Wl.gl 5 [] ?_
      refine Wl.q rfl (Qy.uquo64 rfl rfl (by omega)) ?_
      refine Wl.ga 3 [] ?_
      refine Ar.again ((u / 65536, _, (a1, c1, junk1))) ?_ ?_ rfl ⟨rfl, rfl, rfl, rfl, trivial⟩ ⟨rfl, rfl, trivial⟩
      · exact ⟨by omega, by omega, digs_snoc hdr _, of_next hv, by rw [List.length_append]; show r.length + 1 ≤ 4; omega, ho1⟩
      · show (u / 65536).toNat < u.toNat
        omega
    · have hu : u = 0 := by omega
      subst hu
      rw [Int.mul_zero, Int.add_zero] at hv
      refine Wc.gl 18 [0] ?_
      have hcap := hob.le
      refine Wl.freezeRow 0 rfl hob (fun G1 hle1 hA => ?_)
      refine Wl.call 2 rfl T.fn75 rfl (c75 _ _ _ _ _ (by assumption) (by omega) (by assumption)) (tags_of trivial) (fun v2 G2 Ho2 hle2 hp => ?_)
      obtain ⟨tn2, rfl, htr2, rfl, rfl⟩ := hp
      refine Wl.ga 4 [1] ?_
      refine Ar.out1 (.inr rfl) (Ho := Hp.only _ []) rfl (.agg 1 rfl rfl T.agg97) (Hp.sub_only _ _) ?_
      refine ⟨⟨decide (n < 0) && decide (0 < tn2), subA o d 0 1, tn2, d⟩, rfl, ?_, rfl⟩
      have e := htr2.num hdr hA hcap (decide (n < 0))
      have e2 : (if decide (n < 0) = true then -valL r else valL r) = n := by
        rw [hv]; by_cases h : n < 0
        · rw [if_pos (by simpa using h)]; omega
        · rw [if_neg (by simpa using h)]; omega
      rw [e2] at e; exact e
theorem c149 (G : Imm) (n1 n2 : Bool) (a b : Option Addr) (ca cb : Nat) (la lb : List U32) (x y : Int) (ha : Arr G a la) (hb : Arr G b lb) (hx : IsInt n1 la x) (hy : IsInt n2 lb y) (h1 : la.length ≤ 1073741824) (h2 : lb.length ≤ 1073741824) :
    Does Tryz.prog 149 [.agg #[.bool n1, .slice a la.length ca], .agg #[.bool n2, .slice b lb.length cb]] G [] (fun v G' Ho => ∃ r : IV, v = .agg #[.bool r.neg, .slice r.a r.n r.c] ∧ Num G' r (x + y) ∧ Ho = []) := by
  have da := hx.digs
  have db := hy.digs
  have ta := hx.top
  have tb := hy.top
  refine Does.enter Tryz.func149 rfl Tryz.ntmps149 rfl (fun w => ?_)
  by_cases hs : n1 = n2
  · refine Wc.gl 2 [] ?_
    refine Wl.box 0 rfl rfl rfl (fun b1 => ?_)
    refine Wl.box 1 rfl rfl rfl (fun b2 => ?_)
    refine Wl.alloc 2 rfl T.zero97 (fun b3 => ?_)
    refine Wl.gl 9 [0, 1] ?_
    refine Wl.q rfl (Qy.eqlB T.u4 rfl rfl) ?_
    refine Wl.gc 4 [1] ?_
    refine Wc.draw [0, 1, 2] [(2, 8)] T.mixed rfl ?_
    refine Gm.q 0 [] (by kernel_rfl) rfl rfl (Qy.fieldAddr T.fa97_0 rfl) ?_
    refine Gm.q 1 [0] (by kernel_rfl) rfl rfl (Qy.load 0 T.one4 rfl rfl rfl) ?_
    refine Gm.q 2 [] (by kernel_rfl) rfl rfl (Qy.fieldAddr T.fa97_1 rfl) ?_
    refine Gm.q 3 [0] (by kernel_rfl) rfl rfl (Qy.load 0 T.one35 rfl rfl rfl) ?_
    refine Gm.q 4 [] (by kernel_rfl) rfl rfl (Qy.fieldAddr T.fa97_1 rfl) ?_
    refine Gm.q 5 [1] (by kernel_rfl) rfl rfl (Qy.load 1 T.one35 rfl rfl rfl) ?_
    refine Gm.one 6 ⟨rfl, rfl, rfl, trivial⟩ (by first | exact Imm.le_refl _ | assumption) (by kernel_rfl) rfl ?_
    refine Wl.call 3 rfl T.fn157 rfl (c157 _ _ _ _ _ _ _ (by assumption) (by assumption) (by assumption) (by assumption) (by assumption) (by assumption)) (tags_of trivial) (fun v1 G1 Ho1 hle1 hp => ?_)
    obtain ⟨po1, pc1, pr1, pj1, rfl, hpo1, rfl, rfl, hpd1, hpv1, hpl1⟩ := hp
    refine Wl.on0 ?_
    refine Gm.one 7 ⟨rfl, rfl, rfl, trivial⟩ (by first | exact Imm.le_refl _ | assumption) (by kernel_rfl) rfl ?_
    have hcap := hpo1.le
    refine Wl.freezeRow 3 rfl hpo1 (fun G9 hle9 hA => ?_)
    refine Wl.call 4 rfl T.fn75 rfl (c75 _ _ _ _ _ (by assumption) (by omega) (by assumption)) (tags_of trivial) (fun v2 G2 Ho2 hle2 hp => ?_)
    obtain ⟨tn2, rfl, htr2, rfl, rfl⟩ := hp
    refine Wl.on0 ?_
    refine Gm.one 8 ⟨rfl, rfl, rfl, trivial⟩ (by first | exact Imm.le_refl _ | assumption) (by kernel_rfl) rfl ?_
    refine Wl.storeAll 2 T.size97 rfl rfl rfl rfl rfl rfl ?_
    refine Wl.on0 ?_
    refine Gm.doneA (by kernel_rfl) ⟨rfl, rfl, trivial⟩ (by first | exact Imm.le_refl _ | assumption) ?_
    refine Ar.ga 3 [] ?_
    refine Ar.out1 (.inr rfl) (Ho := Hp.only _ []) rfl (.agg 2 rfl rfl T.agg97) (Hp.sub_only _ _) ?_
    refine ⟨⟨n1 && decide (0 < tn2), subA po1 pc1 0 1, tn2, pc1⟩, rfl, ?_, rfl⟩
    have e := htr2.num hpd1 hA hcap n1
    have e2 : (if n1 = true then -valL pr1 else valL pr1) = x + y := by
      rw [hpv1, hx.val, hy.val]
      revert hs
      cases n1 <;> cases n2 <;> simp <;> omega
    rw [e2] at e; exact e
  · by_cases hle : valL lb ≤ valL la
    · have hcmp : 0 ≤ cmpZ (valL la) (valL lb) := by
        rcases Int.lt_or_eq_of_le hle with h | h
        · rw [cmpZ_gt h]; decide
        · rw [cmpZ_eq h.symm]; decide
      have hll : lb.length ≤ la.length := by
        rcases Nat.lt_or_ge la.length lb.length with h | h
        · have := top_lt_len da db tb h; omega
        · exact h
      refine Wc.gl 2 [] ?_
      refine Wl.box 0 rfl rfl rfl (fun b1 => ?_)
      refine Wl.box 1 rfl rfl rfl (fun b2 => ?_)
      refine Wl.alloc 2 rfl T.zero97 (fun b3 => ?_)
      refine Wl.gl 9 [0, 1] ?_
      refine Wl.q rfl (Qy.eqlB T.u4 rfl rfl) ?_
      refine Wl.gl 12 [0, 0, 1] ?_
      refine Wl.call0 rfl T.fn112 rfl (c112 _ _ _ _ _ _ _ (by assumption) (by assumption) (by assumption) (by assumption) (by assumption) (by assumption) (by assumption) (by assumption)) ?_
      refine Wl.gc 5 [1] ?_
      refine Wc.draw [0, 1, 2] [(2, 8)] T.mixed rfl ?_
      refine Gm.q 0 [] (by kernel_rfl) rfl rfl (Qy.fieldAddr T.fa97_0 rfl) ?_
      refine Gm.q 1 [0] (by kernel_rfl) rfl rfl (Qy.load 0 T.one4 rfl rfl rfl) ?_
      refine Gm.q 2 [] (by kernel_rfl) rfl rfl (Qy.fieldAddr T.fa97_1 rfl) ?_
      refine Gm.q 3 [0] (by kernel_rfl) rfl rfl (Qy.load 0 T.one35 rfl rfl rfl) ?_
      refine Gm.q 4 [] (by kernel_rfl) rfl rfl (Qy.fieldAddr T.fa97_1 rfl) ?_
      refine Gm.q 5 [1] (by kernel_rfl) rfl rfl (Qy.load 1 T.one35 rfl rfl rfl) ?_
      refine Gm.one 6 ⟨rfl, rfl, rfl, trivial⟩ (by first | exact Imm.le_refl _ | assumption) (by kernel_rfl) rfl ?_
      refine Wl.call 3 rfl T.fn158 rfl (c158 _ _ _ _ _ _ _ (by assumption) (by assumption) (by assumption) (by assumption) (by assumption) (by assumption) (by assumption)) (tags_of trivial) (fun v1 G1 Ho1 hle1 hp => ?_)
      obtain ⟨po1, pc1, pr1, pj1, rfl, hpo1, rfl, rfl, hpd1, hpv1, hpl1⟩ := hp
      refine Wl.on0 ?_
      refine Gm.one 7 ⟨rfl, rfl, rfl, trivial⟩ (by first | exact Imm.le_refl _ | assumption) (by kernel_rfl) rfl ?_
      have hcap := hpo1.le
      refine Wl.freezeRow 3 rfl hpo1 (fun G9 hle9 hA => ?_)
      refine Wl.call 4 rfl T.fn75 rfl (c75 _ _ _ _ _ (by assumption) (by omega) (by assumption)) (tags_of trivial) (fun v2 G2 Ho2 hle2 hp => ?_)
      obtain ⟨tn2, rfl, htr2, rfl, rfl⟩ := hp
      refine Wl.on0 ?_
      refine Gm.one 8 ⟨rfl, rfl, rfl, trivial⟩ (by first | exact Imm.le_refl _ | assumption) (by kernel_rfl) rfl ?_
      refine Wl.storeAll 2 T.size97 rfl rfl rfl rfl rfl rfl ?_
      refine Wl.on0 ?_
      refine Gm.doneA (by kernel_rfl) ⟨rfl, rfl, trivial⟩ (by first | exact Imm.le_refl _ | assumption) ?_
      refine Ar.ga 3 [] ?_
      refine Ar.out1 (.inr rfl) (Ho := Hp.only _ []) rfl (.agg 2 rfl rfl T.agg97) (Hp.sub_only _ _) ?_
      refine ⟨⟨n1 && decide (0 < tn2), subA po1 pc1 0 1, tn2, pc1⟩, rfl, ?_, rfl⟩
      have e := htr2.num hpd1 hA hcap n1
      have e2 : (if n1 = true then -valL pr1 else valL pr1) = x + y := by
        rw [hpv1, hx.val, hy.val]
        revert hs
        cases n1 <;> cases n2 <;> simp <;> omega
      rw [e2] at e; exact e
    · have hcmp : ¬ 0 ≤ cmpZ (valL la) (valL lb) := by rw [cmpZ_lt (by omega)]; decide
      have hge9 : valL la ≤ valL lb := by omega
      have hll : la.length ≤ lb.length := by
        rcases Nat.lt_or_ge lb.length la.length with h | h
        · have := top_lt_len db da ta h; omega
        · exact h
      refine Wc.gl 2 [] ?_
      refine Wl.box 0 rfl rfl rfl (fun b1 => ?_)
      refine Wl.box 1 rfl rfl rfl (fun b2 => ?_)
      refine Wl.alloc 2 rfl T.zero97 (fun b3 => ?_)
      refine Wl.gl 9 [0, 1] ?_
      refine Wl.q rfl (Qy.eqlB T.u4 rfl rfl) ?_
      refine Wl.gl 12 [0, 0, 1] ?_
      refine Wl.call0 rfl T.fn112 rfl (c112 _ _ _ _ _ _ _ (by assumption) (by assumption) (by assumption) (by assumption) (by assumption) (by assumption) (by assumption) (by assumption)) ?_
      refine Wl.gc 7 [0] ?_
      refine Wc.draw [0, 1, 2] [(2, 8)] T.mixed rfl ?_
      refine Gm.q 0 [] (by kernel_rfl) rfl rfl (Qy.fieldAddr T.fa97_0 rfl) ?_
      refine Gm.q 1 [1] (by kernel_rfl) rfl rfl (Qy.load 1 T.one4 rfl rfl rfl) ?_
      refine Gm.q 2 [] (by kernel_rfl) rfl rfl (Qy.fieldAddr T.fa97_1 rfl) ?_
      refine Gm.q 3 [1] (by kernel_rfl) rfl rfl (Qy.load 1 T.one35 rfl rfl rfl) ?_
      refine Gm.q 4 [] (by kernel_rfl) rfl rfl (Qy.fieldAddr T.fa97_1 rfl) ?_
      refine Gm.q 5 [0] (by kernel_rfl) rfl rfl (Qy.load 0 T.one35 rfl rfl rfl) ?_
      refine Gm.one 6 ⟨rfl, rfl, rfl, trivial⟩ (by first | exact Imm.le_refl _ | assumption) (by kernel_rfl) rfl ?_
      refine Wl.call 3 rfl T.fn158 rfl (c158 _ _ _ _ _ _ _ (by assumption) (by assumption) (by assumption) (by assumption) (by assumption) (by assumption) (by assumption)) (tags_of trivial) (fun v1 G1 Ho1 hle1 hp => ?_)
      obtain ⟨po1, pc1, pr1, pj1, rfl, hpo1, rfl, rfl, hpd1, hpv1, hpl1⟩ := hp
      refine Wl.on0 ?_
      refine Gm.one 7 ⟨rfl, rfl, rfl, trivial⟩ (by first | exact Imm.le_refl _ | assumption) (by kernel_rfl) rfl ?_
      have hcap := hpo1.le
      refine Wl.freezeRow 3 rfl hpo1 (fun G9 hle9 hA => ?_)
      refine Wl.call 4 rfl T.fn75 rfl (c75 _ _ _ _ _ (by assumption) (by omega) (by assumption)) (tags_of trivial) (fun v2 G2 Ho2 hle2 hp => ?_)
      obtain ⟨tn2, rfl, htr2, rfl, rfl⟩ := hp
      refine Wl.on0 ?_
      refine Gm.one 8 ⟨rfl, rfl, rfl, trivial⟩ (by first | exact Imm.le_refl _ | assumption) (by kernel_rfl) rfl ?_
      refine Wl.storeAll 2 T.size97 rfl rfl rfl rfl rfl rfl ?_
      refine Wl.on0 ?_
      refine Gm.doneA (by kernel_rfl) ⟨rfl, rfl, trivial⟩ (by first | exact Imm.le_refl _ | assumption) ?_
      refine Ar.ga 2 [] ?_
      refine Ar.out1 (.inr rfl) (Ho := Hp.only _ []) rfl (.agg 2 rfl rfl T.agg97) (Hp.sub_only _ _) ?_
      refine ⟨⟨n2 && decide (0 < tn2), subA po1 pc1 0 1, tn2, pc1⟩, rfl, ?_, rfl⟩
      have e := htr2.num hpd1 hA hcap n2
      have e2 : (if n2 = true then -valL pr1 else valL pr1) = x + y := by
        rw [hpv1, hx.val, hy.val]
        revert hs
        cases n1 <;> cases n2 <;> simp <;> omega
      rw [e2] at e; exact e
theorem c161 (G : Imm) (n1 n2 : Bool) (a b : Option Addr) (ca cb : Nat) (la lb : List U32) (x y : Int) (ha : Arr G a la) (hb : Arr G b lb) (hx : IsInt n1 la x) (hy : IsInt n2 lb y) (h1 : la.length ≤ 1073741824) (h2 : lb.length ≤ 1073741824) (hcb : lb.length ≤ cb) :
    Does Tryz.prog 161 [.agg #[.bool n1, .slice a la.length ca], .agg #[.bool n2, .slice b lb.length cb]] G [] (fun v G' Ho => ∃ r : IV, v = .agg #[.bool r.neg, .slice r.a r.n r.c] ∧ Num G' r (x - y) ∧ Ho = []) := by
  refine Does.enter Tryz.func161 rfl Tryz.ntmps161 rfl (fun w => ?_)
  refine Wc.gl 2 [] ?_
  refine Wl.box 0 rfl rfl rfl (fun b1 => ?_)
  refine Wl.box 1 rfl rfl rfl (fun b2 => ?_)
  refine Wl.alloc 2 rfl T.zero97 (fun b3 => ?_)
  refine Wl.gc 3 [] ?_
  refine Wc.draw [0, 1, 2] [(2, 4)] T.mixed rfl ?_
  refine Gm.q 0 [0] (by kernel_rfl) rfl rfl (Qy.loadAll 0 T.agg97 rfl rfl rfl) ?_
  refine Gm.q 1 [1] (by kernel_rfl) rfl rfl (Qy.loadAll 1 T.agg97 rfl rfl rfl) ?_
  refine Gm.one 2 ⟨rfl, rfl, rfl, trivial⟩ (by first | exact Imm.le_refl _ | assumption) (by kernel_rfl) rfl ?_
  refine Wl.call 3 rfl T.fn165 rfl (c165 _ _ _ _ _ _ (by assumption) (by assumption) (by assumption) (by assumption)) (tags_of trivial) (fun v1 G1 Ho1 hle1 hp => ?_)
  obtain ⟨nr1, rfl, hnr1, rfl, rfl⟩ := hp
  refine Wl.on0 ?_
  refine Gm.one 3 ⟨rfl, rfl, rfl, trivial⟩ (by first | exact Imm.le_refl _ | assumption) (by kernel_rfl) rfl ?_
  obtain ⟨rn, ra, rk, rc⟩ := nr1
  obtain ⟨l, hl, hlc, hA, hI⟩ := hnr1
  simp only at hl hlc hA hI
  subst hl
  have hll : l.length ≤ lb.length := hI.len (by
    have := valL_lt hy.digs
    rw [hy.abs] at this
    omega)
  refine Wl.call 20 rfl T.fn149 rfl (c149 _ _ _ _ _ _ _ _ _ _ _ ha hA hx hI h1 (by omega)) (tags_of trivial) (fun v2 G2 Ho2 hle2 hp => ?_)
  obtain ⟨r2, rfl, hr2, rfl⟩ := hp
  refine Wl.on0 ?_
  refine Gm.one 4 ⟨rfl, rfl, rfl, trivial⟩ (by first | exact Imm.le_refl _ | assumption) (by kernel_rfl) rfl ?_
  refine Wl.storeAll 2 T.size97 rfl rfl rfl rfl rfl rfl ?_
  refine Wl.on0 ?_
  refine Gm.doneA (by kernel_rfl) ⟨rfl, rfl, trivial⟩ (by first | exact Imm.le_refl _ | assumption) ?_
  refine Ar.ga 2 [] ?_
  refine Ar.out1 (.inr rfl) (Ho := Hp.only _ []) rfl (.agg 2 rfl rfl T.agg97) (Hp.sub_only _ _) ?_
  refine ⟨r2, rfl, ?_, rfl⟩
  rw [Int.sub_eq_add_neg]; exact hr2
theorem num_add (G : Imm) (x y : IV) (zx zy : Int) (hx : Num G x zx) (hy : Num G y zy) (h1 : x.n ≤ 1073741824) (h2 : y.n ≤ 1073741824) :
    Does Tryz.prog 149 [.agg (Cells.enc x).toArray, .agg (Cells.enc y).toArray] G [] (fun v G' Ho => ∃ r : IV, v = .agg (Cells.enc r).toArray ∧ Num G' r (zx + zy) ∧ Ho = []) := by
  obtain ⟨n1, a, k1, ca⟩ := x
  obtain ⟨n2, b, k2, cb⟩ := y
  obtain ⟨la, hl, hlc, hA, hI⟩ := hx
  obtain ⟨lb, hl', hlc', hA', hI'⟩ := hy
  simp only at hl hlc hA hI hl' hlc' hA' hI' h1 h2
  subst hl hl'
  exact c149 G n1 n2 a b ca cb la lb zx zy hA hA' hI hI' h1 h2
theorem num_cmp (G : Imm) (x y : IV) (zx zy : Int) (hx : Num G x zx) (hy : Num G y zy) (h1 : x.n ≤ 1073741824) (h2 : y.n ≤ 1073741824) :
    Does Tryz.prog 76 [.agg (Cells.enc x).toArray, .agg (Cells.enc y).toArray] G [] (fun v G' Ho => v = .int .i64 (cmpZ zx zy) ∧ G' = G ∧ Ho = []) := by
  obtain ⟨n1, a, k1, ca⟩ := x
  obtain ⟨n2, b, k2, cb⟩ := y
  obtain ⟨la, hl, hlc, hA, hI⟩ := hx
  obtain ⟨lb, hl', hlc', hA', hI'⟩ := hy
  simp only at hl hlc hA hI hl' hlc' hA' hI' h1 h2
  subst hl hl'
  exact c76 G n1 n2 a b ca cb la lb zx zy hA hA' hI hI' h1 h2
end Go.Proofs.YtelbhbbiejalhaaGreat
set_option maxRecDepth 100000
set_option linter.unusedVariables false
namespace Go.Proofs.YtelbhbbiejalhaaGreat
open Go Go.Sl
set_option maxHeartbeats 4000000
theorem valL_set : ∀ (l : List U32) (k : Nat) (d : U32), k < l.length → valL (l.set k d) = valL l + pw k * (d.v - dg l k)
  | [], k, d, h => by simp at h
  | x :: l, 0, d, _ => by
    rw [List.set_cons_zero, valL_cons, valL_cons, pw_zero]
    show _ = _ + 1 * (d.v - x.v)
    omega
  | x :: l, k + 1, d, h => by
    have ih := valL_set l k d (by simpa using h)
    have e : dg (x :: l) (k + 1) = dg l k := by unfold dg; rw [Int.toNat_natCast, Int.toNat_natCast, List.getElem?_cons_succ]
    rw [List.set_cons_succ, valL_cons, valL_cons, ih, pw_succ, e, Int.mul_add, ← Int.mul_assoc]
    omega
theorem digs_set {l : List U32} (h : Digs l) (k : Nat) {s : Int} (hs : 0 ≤ s ∧ s < 65536) : Digs (l.set k ⟨s⟩) := fun d hd => by
  rcases List.mem_or_eq_of_mem_set hd with h1 | h1
  · exact h d h1
  · subst h1; exact hs
theorem mul_next {r lb : List U32} {i j : Nat} {c s x A : Int} (hk : i + j < r.length) (hv : valL r + pw (i + j) * c = A + pw i * (x * valL (lb.take j))) (hs : s = c + dg r (i + j) + x * dg lb j) :
    valL (r.set (i + j) ⟨s % 65536⟩) + pw (i + (j + 1)) * (s / 65536) = A + pw i * (x * valL (lb.take (j + 1))) := by
  rw [valL_set r (i + j) ⟨s % 65536⟩ hk, val_step, ← Nat.add_assoc, pw_succ]
  have h1 := carry (pw (i + j)) s
  have h2 : pw (i + j) * s = pw (i + j) * c + pw (i + j) * dg r (i + j) + pw (i + j) * (x * dg lb j) := by rw [hs, Int.mul_add, Int.mul_add]
  have h3 : pw i * (x * (valL (lb.take j) + pw j * dg lb j)) = pw i * (x * valL (lb.take j)) + pw (i + j) * (x * dg lb j) := by
    rw [Int.mul_add, Int.mul_add, pw_add]
    congr 1
    rw [Int.mul_assoc, ← Int.mul_assoc x, Int.mul_comm x (pw j), Int.mul_assoc]
  have h4 : pw (i + j) * (s % 65536 - dg r (i + j)) = pw (i + j) * (s % 65536) - pw (i + j) * dg r (i + j) := Int.mul_sub _ _ _
  show valL r + pw (i + j) * (s % 65536 - dg r (i + j)) + 65536 * pw (i + j) * (s / 65536) = _
  rw [h3, h4]
  omega
theorem mul_end {la lb : List U32} {i j : Nat} {v : Int} (hj : lb.length ≤ j) (h : v = valL (la.take i) * valL lb + pw i * (dg la i * valL (lb.take j))) : v = valL (la.take (i + 1)) * valL lb := by
  rw [h, take_all hj, val_step, Int.add_mul, Int.mul_assoc]
theorem mul_lt {a b c d : Int} (ha : 0 ≤ a) (hb : 0 ≤ b) (h1 : a < c) (h2 : b < d) : a * b < c * d := by
  have e1 : a * b ≤ a * d := Int.mul_le_mul_of_nonneg_left (Int.le_of_lt h2) ha
  have e2 : a * d < c * d := Int.mul_lt_mul_of_pos_right h1 (by omega)
  omega
/-- the carry is 0 where the row ends -/
theorem mul_bound {la lb r : List U32} {i j : Nat} {c : Int} (da : Digs la) (db : Digs lb) (hi : i < la.length) (hj : lb.length ≤ j) (hdr : Digs r) (hc : 0 < c) (hv : valL r + pw (i + j) * c = valL (la.take i) * valL lb + pw i * (dg la i * valL (lb.take j))) : j ≤ lb.length := by
  have h1 := mul_end hj hv
  have h2 := valL_lt (da.take (i + 1))
  rw [List.length_take, Nat.min_eq_left (by omega)] at h2
  have h3 := mul_lt (valL_nonneg (da.take (i + 1))) (valL_nonneg db) h2 (valL_lt db)
  rw [← pw_add] at h3
  have h4 := valL_nonneg hdr
  have h5 := Int.mul_le_mul_of_nonneg_left (show (1 : Int) ≤ c by omega) (Int.le_of_lt (pw_pos (i + j)))
  have h6 : pw (i + j) < pw (i + 1 + lb.length) := by omega
  have := pw_lt_iff h6
  omega
theorem mul_small16 {x y : Int} (hx : 0 ≤ x ∧ x < 65536) (hy : 0 ≤ y ∧ y < 65536) : 0 ≤ x * y ∧ x * y ≤ 4294836225 := by
  refine ⟨Int.mul_nonneg hx.1 hy.1, ?_⟩
  have h1 : x * y ≤ 65535 * y := Int.mul_le_mul_of_nonneg_right (by omega) hy.1
  omega
attribute [local irreducible] valL pw cmpZ
theorem c109 (G : Imm) (n1 n2 : Bool) (a b : Option Addr) (ca cb : Nat) (la lb : List U32) (x y : Int) (ha : Arr G a la) (hb : Arr G b lb) (hx : IsInt n1 la x) (hy : IsInt n2 lb y) (h1 : la.length ≤ 536870912) (h2 : lb.length ≤ 536870912) :
    Does Tryz.prog 109 [.agg #[.bool n1, .slice a la.length ca], .agg #[.bool n2, .slice b lb.length cb]] G [] (fun v G' Ho => ∃ r : IV, v = .agg #[.bool r.neg, .slice r.a r.n r.c] ∧ Num G' r (x * y) ∧ Ho = []) := by
  have da := hx.digs
  have db := hy.digs
  refine Does.enter Tryz.func109 rfl Tryz.ntmps109 rfl (fun w => ?_)
  refine Wc.gl 2 [] ?_
  refine Wl.box 0 rfl rfl rfl (fun b1 => ?_)
  refine Wl.box 1 rfl rfl rfl (fun b2 => ?_)
  refine Wl.alloc 2 rfl T.zero97 (fun b3 => ?_)
  refine Wl.gl 12 [0, 1] ?_
  refine Wl.make (α := U32) 3 rfl T.sl35 T.el63 rfl rfl (by omega) (by omega) (fun b4 => ?_)
  refine Wl.gc 10 [] ?_
  obtain ⟨N, hN⟩ : ∃ N, N = la.length + lb.length + 1 := ⟨_, rfl⟩
  have hM : ((la.length : Int) + (lb.length : Int) + 1).toNat = N := by omega
  rw [hM]
  have hown : ∀ r : List U32, r.length = N → OwnA (some ⟨b4, 0, none⟩) N r [] := fun r hr => .inr ⟨b4, rfl, by rw [hr]; rfl, by omega, by simp only [maxLen]; omega⟩
  refine Wc.re 5 rfl (show _ = Value.slice (some ⟨b4, 0, none⟩) (List.replicate N (default : U32)).length N by rw [List.length_replicate]) ?_
  refine Wc.loop (ι := Nat × List U32) (fun (i, r) => ([(6, .int .i64 (i : Int)), (5, .slice (some ⟨b4, 0, none⟩) r.length N), (4, Go.Value.pointer (Option.some (Go.Addr.mk b3 0 Option.none))), (3, Go.Value.pointer (Option.some (Go.Addr.mk b2 0 Option.none))), (2, Go.Value.pointer (Option.some (Go.Addr.mk b1 0 Option.none)))], [(3, some b4, Row 63 r []), (2, Option.some b3, Go.Obj.cells #[Go.Value.bool Bool.false, Go.Value.slice Option.none 0 0] 97), (1, Option.some b2, Go.Obj.cells #[Go.Value.bool n2, Go.Value.slice b (List.length lb) cb] 97), (0, Option.some b1, Go.Obj.cells #[Go.Value.bool n1, Go.Value.slice a (List.length la) ca] 97)])) (fun (i, r) => i ≤ la.length ∧ r.length = N ∧ Digs r ∧ valL r = valL (la.take i) * valL lb) (fun (i, r) => la.length - i) ((0, List.replicate N (default : U32))) (⟨Nat.zero_le _, List.length_replicate, Digs.zeros N, by rw [List.take_zero, valL_nil, Int.zero_mul]; exact valL_replicate N⟩) ⟨rfl, rfl, rfl, rfl, rfl, trivial⟩ ⟨rfl, rfl, rfl, rfl, trivial⟩ (fun ⟨i, r⟩ => fun (hk : i ≤ la.length ∧ r.length = N ∧ Digs r ∧ valL r = valL (la.take i) * valL lb) => ?_)
  obtain ⟨hi, hrN, hdr, hv⟩ := hk
  rcases Nat.lt_or_ge i la.length with hia | hia
  · have hxi : 0 ≤ (la[((i : Nat) : Int).toNat]?.getD default).v ∧ (la[((i : Nat) : Int).toNat]?.getD default).v < 65536 := dg_lt da hia
    refine Wc.gc 26 [0, 1] ?_
    refine Wc.loop (ι := Nat × Int × List U32) (fun (j, c, s) => ([(8, .int .i64 (j : Int)), (7, .int .u64 c), (5, .slice (some ⟨b4, 0, none⟩) s.length N), (2, .pointer (some ⟨b1, 0, none⟩)), (6, Go.Value.int Go.IntKind.i64 (↑i : Int)), (4, Go.Value.pointer (Option.some (Go.Addr.mk b3 0 Option.none))), (3, Go.Value.pointer (Option.some (Go.Addr.mk b2 0 Option.none)))], [(3, some b4, Row 63 s []), (2, Option.some b3, Go.Obj.cells #[Go.Value.bool Bool.false, Go.Value.slice Option.none 0 0] 97), (1, Option.some b2, Go.Obj.cells #[Go.Value.bool n2, Go.Value.slice b (List.length lb) cb] 97), (0, Option.some b1, Go.Obj.cells #[Go.Value.bool n1, Go.Value.slice a (List.length la) ca] 97)])) (fun (j, c, s) => 0 ≤ c ∧ c ≤ 65535 ∧ s.length = N ∧ Digs s ∧ valL s + pw (i + j) * c = valL (la.take i) * valL lb + pw i * (dg la i * valL (lb.take j)) ∧ j ≤ lb.length + 1) (fun (j, c, s) => lb.length + 1 - j) ((0, 0, r)) (⟨by decide, by decide, hrN, hdr, by rw [Int.mul_zero, List.take_zero, valL_nil, Int.mul_zero, Int.mul_zero, Int.add_zero, Int.add_zero]; exact hv, Nat.zero_le _⟩) ⟨rfl, rfl, rfl, rfl, rfl, rfl, rfl, trivial⟩ ⟨rfl, rfl, rfl, rfl, trivial⟩ (fun ⟨j, c, s⟩ => fun (hk : 0 ≤ c ∧ c ≤ 65535 ∧ s.length = N ∧ Digs s ∧ valL s + pw (i + j) * c = valL (la.take i) * valL lb + pw i * (dg la i * valL (lb.take j)) ∧ j ≤ lb.length + 1) => ?_)
    obtain ⟨hc0, hc1, hsN, hds, hvs, hjl⟩ := hk
    have hos := hown s hsN
    have hbnd : lb.length ≤ j → 0 < c → j ≤ lb.length := fun h1 h2 => mul_bound da db hia h1 hds h2 hvs
    have ekk : ((i : Int) + (j : Int)).toNat = i + j := by omega
    rcases Nat.lt_or_ge j lb.length with hjb | hjb
    · have hyj : 0 ≤ (lb[((j : Nat) : Int).toNat]?.getD default).v ∧ (lb[((j : Nat) : Int).toNat]?.getD default).v < 65536 := dg_lt db hjb
      have hxy := mul_small16 hxi hyj
      have hsk : 0 ≤ (s[((i : Int) + (j : Int)).toNat]?.getD default).v ∧ (s[((i : Int) + (j : Int)).toNat]?.getD default).v < 65536 := hds.at (by omega)
      refine Wc.gl 9 [1] ?_
      refine Wl.yes 30 rfl (by first | assumption | omega) ?_
      refine Wl.gl 17 [1] ?_
      refine Wl.q rfl (Qy.indexAddrO (α := U32) T.sl35 rfl rfl (by assumption) (by omega)) ?_
      refine Wl.q rfl (Qy.loadO 3 0 T.one63 rfl rfl (by assumption) (by omega) rfl rfl) ?_
      refine Wl.q rfl (Qy.conv64 rfl T.u61 rfl (by omega)) ?_
      refine Wl.q rfl (Qy.uadd64 rfl rfl (by omega)) ?_
      refine Wl.gc 14 [1, 1] ?_
      refine Wc.draw [0, 1, 2, 3] [] T.mixed rfl ?_
      refine Gm.q 0 [] (by kernel_rfl) rfl rfl (Qy.move rfl) ?_
      refine Gm.q 1 [] (by kernel_rfl) rfl rfl (Qy.fieldAddr T.fa97_1 rfl) ?_
      refine Gm.q 2 [0] (by kernel_rfl) rfl rfl (Qy.load 0 T.one35 rfl rfl rfl) ?_
      refine Gm.q 3 [] (by kernel_rfl) rfl rfl (Qy.move rfl) ?_
      refine Gm.q 4 [] (by kernel_rfl) rfl rfl (Qy.at (α := U32) T.sl35 rfl rfl (by assumption) (by omega)) ?_
      refine Gm.q 5 [0] (by kernel_rfl) rfl rfl (Qy.loadG T.one63 rfl (Arr.cell (by assumption) (by omega) 0 rfl rfl)) ?_
      refine Gm.q 6 [] (by kernel_rfl) rfl rfl (Qy.conv64 rfl T.u61 rfl (by omega)) ?_
      refine Gm.q 7 [] (by kernel_rfl) rfl rfl (Qy.fieldAddr T.fa97_1 rfl) ?_
      refine Gm.q 8 [1] (by kernel_rfl) rfl rfl (Qy.load 1 T.one35 rfl rfl rfl) ?_
      refine Gm.q 9 [] (by kernel_rfl) rfl rfl (Qy.move rfl) ?_
      refine Gm.q 10 [] (by kernel_rfl) rfl rfl (Qy.at (α := U32) T.sl35 rfl rfl (by assumption) (by omega)) ?_
      refine Gm.q 11 [0] (by kernel_rfl) rfl rfl (Qy.loadG T.one63 rfl (Arr.cell (by assumption) (by omega) 0 rfl rfl)) ?_
      refine Gm.q 12 [] (by kernel_rfl) rfl rfl (Qy.conv64 rfl T.u61 rfl (by omega)) ?_
      refine Gm.q 13 [] (by kernel_rfl) rfl rfl (Qy.umul64 rfl rfl (by first | assumption | omega)) ?_
      refine Gm.q 14 [] (by kernel_rfl) rfl rfl (Qy.uadd64 rfl rfl (by omega)) ?_
      refine Gm.q 15 [] (by kernel_rfl) rfl rfl (Qy.assign rfl) ?_
      refine Gm.doneA (by kernel_rfl) ⟨rfl, rfl, rfl, rfl, trivial⟩ (by first | exact Imm.le_refl _ | assumption) ?_
      refine Ar.gl 8 [] ?_
      refine Wl.q rfl (Qy.urem rfl rfl (by omega)) ?_
      refine Wl.q rfl (Qy.conv32 rfl T.u63 rfl (by omega)) ?_
      refine Wl.q rfl (Qy.indexAddrO (α := U32) T.sl35 rfl rfl (by assumption) (by omega)) ?_
      refine Wl.setO (z := _) 3 T.size63 rfl rfl rfl (by assumption) (by omega) rfl (fun ho1 => ?_)
      refine Wl.gl 4 [] ?_
      refine Wl.q rfl (Qy.uquo64 rfl rfl (by omega)) ?_
      refine Wl.ga 9 [] ?_
      rw [ekk] at ⊢ hsk
      refine Ar.re 5 rfl (show _ = Value.slice (some ⟨b4, 0, none⟩) (s.set (i + j) (⟨(c + (s[i + j]?.getD default).v + (la[((i : Nat) : Int).toNat]?.getD default).v * (lb[((j : Nat) : Int).toNat]?.getD default).v) % 65536⟩ : U32)).length N by rw [List.length_set]) ?_
      refine Ar.again ((j + 1, (c + (s[i + j]?.getD default).v + (la[((i : Nat) : Int).toNat]?.getD default).v * (lb[((j : Nat) : Int).toNat]?.getD default).v) / 65536, s.set (i + j) (⟨(c + (s[i + j]?.getD default).v + (la[((i : Nat) : Int).toNat]?.getD default).v * (lb[((j : Nat) : Int).toNat]?.getD default).v) % 65536⟩ : U32))) ?_ ?_ rfl ⟨rfl, rfl, rfl, rfl, rfl, rfl, rfl, trivial⟩ ⟨rfl, rfl, rfl, rfl, trivial⟩
      · exact ⟨by omega, by omega, by rw [List.length_set]; exact hsN, digs_set hds _ (by omega), mul_next (by omega) hvs (by simp only [dg, Int.toNat_natCast]), by omega⟩
      · show lb.length + 1 - (j + 1) < lb.length + 1 - j
        omega
    · by_cases hcy : 0 < c
      · have hjle := hbnd hjb hcy
        have hsk : 0 ≤ (s[((i : Int) + (j : Int)).toNat]?.getD default).v ∧ (s[((i : Int) + (j : Int)).toNat]?.getD default).v < 65536 := hds.at (by omega)
        refine Wc.gl 9 [1] ?_
        refine Wl.no 30 rfl (by first | assumption | omega) ?_
        refine Wl.gl 19 [1] ?_
        refine Wl.q rfl (Qy.indexAddrO (α := U32) T.sl35 rfl rfl (by assumption) (by omega)) ?_
        refine Wl.q rfl (Qy.loadO 3 0 T.one63 rfl rfl (by assumption) (by omega) rfl rfl) ?_
        refine Wl.q rfl (Qy.conv64 rfl T.u61 rfl (by omega)) ?_
        refine Wl.q rfl (Qy.uadd64 rfl rfl (by omega)) ?_
        refine Wl.gl 23 [1, 0] ?_
        refine Wl.q rfl (Qy.urem rfl rfl (by omega)) ?_
        refine Wl.q rfl (Qy.conv32 rfl T.u63 rfl (by omega)) ?_
        refine Wl.q rfl (Qy.indexAddrO (α := U32) T.sl35 rfl rfl (by assumption) (by omega)) ?_
        refine Wl.setO (z := _) 3 T.size63 rfl rfl rfl (by assumption) (by omega) rfl (fun ho1 => ?_)
        refine Wl.gl 4 [] ?_
        refine Wl.q rfl (Qy.uquo64 rfl rfl (by omega)) ?_
        refine Wl.ga 9 [] ?_
        rw [ekk] at ⊢ hsk
        refine Ar.re 5 rfl (show _ = Value.slice (some ⟨b4, 0, none⟩) (s.set (i + j) (⟨(c + (s[i + j]?.getD default).v) % 65536⟩ : U32)).length N by rw [List.length_set]) ?_
        refine Ar.again ((j + 1, (c + (s[i + j]?.getD default).v) / 65536, s.set (i + j) (⟨(c + (s[i + j]?.getD default).v) % 65536⟩ : U32))) ?_ ?_ rfl ⟨rfl, rfl, rfl, rfl, rfl, rfl, rfl, trivial⟩ ⟨rfl, rfl, rfl, rfl, trivial⟩
        · exact ⟨by omega, by omega, by rw [List.length_set]; exact hsN, digs_set hds _ (by omega), mul_next (by omega) hvs (by rw [dg_end hjb, Int.mul_zero, Int.add_zero]; simp only [dg, Int.toNat_natCast]), by omega⟩
        · show lb.length + 1 - (j + 1) < lb.length + 1 - j
          omega
      · have hc : c = 0 := by omega
        subst hc
        rw [Int.mul_zero, Int.add_zero] at hvs
        refine Wc.gl 9 [1] ?_
        refine Wl.no 30 rfl (by first | assumption | omega) ?_
        refine Wl.ga 19 [0] ?_
        refine Ar.again ((i + 1, s)) ?_ ?_ rfl ⟨rfl, rfl, rfl, rfl, rfl, trivial⟩ ⟨rfl, rfl, rfl, rfl, trivial⟩
        · exact ⟨by omega, hsN, hds, mul_end hjb hvs⟩
        · show la.length - (i + 1) < la.length - i
          omega
  · have hor := hown r hrN
    rw [take_all hia] at hv
    refine Wc.gl 22 [0, 0, 0, 1] ?_
    refine Wl.q rfl (Qy.neqB T.u4 rfl rfl) ?_
    refine Wl.q rfl (Qy.move rfl) ?_
    have hcap := hor.le
    refine Wl.freezeRow 3 rfl hor (fun G9 hle9 hA => ?_)
    refine Wl.call 4 rfl T.fn75 rfl (c75 _ _ _ _ _ (by assumption) (by omega) (by assumption)) (tags_of trivial) (fun v1 G1 Ho1 hle1 hp => ?_)
    obtain ⟨tn1, rfl, htr1, rfl, rfl⟩ := hp
    refine Wl.ga 4 [2] ?_
    refine Ar.out1 (.inr rfl) (Ho := Hp.only _ []) rfl (.agg 2 rfl rfl T.agg97) (Hp.sub_only _ _) ?_
    refine ⟨⟨decide (n1 ≠ n2) && decide (0 < tn1), subA (some ⟨b4, 0, none⟩) N 0 1, tn1, N⟩, rfl, ?_, rfl⟩
    have e := htr1.num hdr hA hcap (decide (n1 ≠ n2))
    have e2 : (if decide (n1 ≠ n2) = true then -valL r else valL r) = x * y := by
      rw [hv, hx.val, hy.val]
      cases n1 <;> cases n2 <;> simp [Int.neg_mul, Int.mul_neg]
    rw [e2] at e; exact e
theorem num_mul (G : Imm) (x y : IV) (zx zy : Int) (hx : Num G x zx) (hy : Num G y zy) (h1 : x.n ≤ 536870912) (h2 : y.n ≤ 536870912) :
    Does Tryz.prog 109 [.agg (Cells.enc x).toArray, .agg (Cells.enc y).toArray] G [] (fun v G' Ho => ∃ r : IV, v = .agg (Cells.enc r).toArray ∧ Num G' r (zx * zy) ∧ Ho = []) := by
  obtain ⟨n1, a, k1, ca⟩ := x
  obtain ⟨n2, b, k2, cb⟩ := y
  obtain ⟨la, hl, hlc, hA, hI⟩ := hx
  obtain ⟨lb, hl', hlc', hA', hI'⟩ := hy
  simp only at hl hlc hA hI hl' hlc' hA' hI' h1 h2
  subst hl hl'
  exact c109 G n1 n2 a b ca cb la lb zx zy hA hA' hI hI' h1 h2
end Go.Proofs.YtelbhbbiejalhaaGreat
set_option maxRecDepth 100000
set_option linter.unusedVariables false
namespace Go.Proofs.YtelbhbbiejalhaaGreat
open Go Go.Sl
set_option maxHeartbeats 4000000
theorem bits_end {l : List U32} {m : Nat} (h0 : 0 < l.length) (hd : Digs l) (hm : dg l (l.length - 1) < p2 m) : valL l < p2 (16 * (l.length - 1) + m) := by
  have e := val_step l (l.length - 1)
  rw [Nat.sub_add_cancel h0, take_all (Nat.le_refl _)] at e
  have h1 := valL_lt (hd.take (l.length - 1))
  rw [List.length_take, Nat.min_eq_left (by omega)] at h1
  have h2 := Int.mul_le_mul_of_nonneg_left (show dg l (l.length - 1) + 1 ≤ p2 m by omega) (Int.le_of_lt (pw_pos (l.length - 1)))
  rw [Int.mul_add, Int.mul_one] at h2
  rw [p2_add, ← pw_p2]
  omega
theorem half_lo (t : Int) (m : Nat) : t / 2 * p2 (m + 1) ≤ t * p2 m := by
  rw [p2_succ, ← Int.mul_assoc]
  exact Int.mul_le_mul_of_nonneg_right (by omega) (Int.le_of_lt (p2_pos m))
theorem half_hi (t : Int) (m : Nat) : (t + 1) * p2 m ≤ (t / 2 + 1) * p2 (m + 1) := by
  rw [p2_succ, ← Int.mul_assoc]
  exact Int.mul_le_mul_of_nonneg_right (by omega) (Int.le_of_lt (p2_pos m))
attribute [local irreducible] valL pw cmpZ p2
theorem c163 (G : Imm) (a : Option Addr) (c : Nat) (l : List U32) (ha : Arr G a l) (hd : Digs l) (h1 : l.length ≤ 536870912) :
    Does Tryz.prog 163 [.slice a l.length c] G [] (fun v G' Ho => ∃ n : Nat, v = .int .i64 (n : Int) ∧ valL l < p2 n ∧ n ≤ 16 * l.length ∧ G' = G ∧ Ho = []) := by
  refine Does.enter Tryz.func163 rfl Tryz.ntmps163 rfl (fun w => ?_)
  by_cases h0 : l.length = 0
  · refine Wc.ga 21 [1] ?_
    refine Ar.out1 (.inr rfl) (Ho := Hp.only _ []) rfl (.tmp rfl) (Hp.sub_only _ _) ?_
    refine ⟨0, rfl, ?_, Nat.zero_le _, rfl, rfl⟩
    rw [List.eq_nil_of_length_eq_zero h0, valL_nil, p2_zero]; decide
  · have hlast : (l[((l.length : Int) - 1).toNat]?.getD default).v = dg l (l.length - 1) := by
      unfold dg; rw [show ((l.length : Int) - 1).toNat = ((l.length - 1 : Nat) : Int).toNat by omega]
    have hdl := dg_lt hd (i := l.length - 1) (by omega)
    refine Wc.gl 21 [0] ?_
    refine Wl.q rfl (Qy.mul rfl rfl (by omega)) ?_
    refine Wl.gl 9 [] ?_
    refine Wl.q rfl (Qy.at (α := U32) T.sl35 rfl rfl (by assumption) (by omega)) ?_
    refine Wl.q rfl (Qy.loadG T.one63 rfl (Arr.cell (by assumption) (by omega) 0 rfl rfl)) ?_
    refine Wl.gc 5 [] ?_
    refine Wc.re 4 rfl (show _ = Value.int .u32 (dg l (l.length - 1)) by rw [hlast]) (Wc.re 3 rfl (show _ = Value.int .i64 (16 * ((l.length : Int) - 1) + ((0 : Nat) : Int)) by rw [Int.natCast_zero, Int.add_zero]) ?_)
    refine Wc.loop (ι := Nat × Int) (fun (m, t) => ([(3, .int .i64 (16 * ((l.length : Int) - 1) + (m : Int))), (4, .int .u32 t), (2, Go.Value.int Go.IntKind.i64 0)], [])) (fun (m, t) => 0 ≤ t ∧ t ≤ 65535 ∧ t * p2 m ≤ dg l (l.length - 1) ∧ dg l (l.length - 1) < (t + 1) * p2 m ∧ m ≤ 16) (fun (m, t) => t.toNat) ((0, dg l (l.length - 1))) (⟨hdl.1, by omega, by rw [p2_zero]; omega, by rw [p2_zero]; omega, by decide⟩) ⟨rfl, rfl, rfl, trivial⟩ trivial (fun ⟨m, t⟩ => fun (hk : 0 ≤ t ∧ t ≤ 65535 ∧ t * p2 m ≤ dg l (l.length - 1) ∧ dg l (l.length - 1) < (t + 1) * p2 m ∧ m ≤ 16) => ?_)
    obtain ⟨ht0, ht1, hlo, hhi, hm⟩ := hk
    by_cases ht : 0 < t
    · have hm15 : m < 16 := by
        refine p2_lt_iff ?_
        have h2 := Int.mul_le_mul_of_nonneg_right (show (1 : Int) ≤ t by omega) (Int.le_of_lt (p2_pos m))
        rw [p2_16]; omega
      refine Wc.gl 20 [1] ?_
      refine Wl.q rfl (Qy.uquo32 rfl rfl (by omega)) ?_
      refine Wl.ga 3 [] ?_
      refine Ar.re 3 rfl (show _ = Value.int .i64 (16 * ((l.length : Int) - 1) + ((m + 1 : Nat) : Int)) by congr 1; omega) ?_
      refine Ar.again ((m + 1, t / 2)) ?_ ?_ rfl ⟨rfl, rfl, rfl, trivial⟩ trivial
      · exact ⟨by omega, by omega, Int.le_trans (half_lo t m) hlo, Int.lt_of_lt_of_le hhi (half_hi t m), by omega⟩
      · show (t / 2).toNat < t.toNat
        omega
    · have htz : t = 0 := by omega
      subst htz
      rw [Int.zero_add, Int.one_mul] at hhi
      refine Wc.ga 20 [0] ?_
      refine Ar.out1 (.inr rfl) (Ho := Hp.only _ []) rfl (.tmp rfl) (Hp.sub_only _ _) ?_
      refine ⟨16 * (l.length - 1) + m, ?_, bits_end (by omega) hd hhi, by omega, rfl, rfl⟩
      congr 1; omega
/-- a bit of a digit -/
theorem dig_bit {l : List U32} (hd : Digs l) {k : Nat} (hk : k < 16 * l.length) : valL l / p2 k % 2 = dg l (k / 16) / p2 (k % 16) % 2 := by
  have hq : k / 16 < l.length := by omega
  have e := val_split l (m := k / 16 + 1) (by omega)
  rw [val_step] at e
  have h1 := valL_lt (hd.take (k / 16))
  have h0 := valL_nonneg (hd.take (k / 16))
  rw [List.length_take, Nat.min_eq_left (by omega)] at h1
  have ek : p2 k = pw (k / 16) * p2 (k % 16) := by rw [pw_p2, ← p2_add, Nat.div_add_mod]
  have e2 : valL l = valL (l.take (k / 16)) + (dg l (k / 16) + 65536 * valL (l.drop (k / 16 + 1))) * pw (k / 16) := by
    rw [e, pw_succ, Int.add_mul, Int.mul_comm (dg l (k / 16)), Int.mul_assoc 65536 (pw (k / 16)), Int.mul_assoc 65536 (valL _), Int.mul_comm (valL (l.drop _)) (pw _)]
    omega
  have e3 : valL l / pw (k / 16) = dg l (k / 16) + 65536 * valL (l.drop (k / 16 + 1)) := by
    rw [e2, Int.add_mul_ediv_right _ _ (Int.ne_of_gt (pw_pos _)), Int.ediv_eq_zero_of_lt h0 h1, Int.zero_add]
  rw [ek, ← Int.ediv_ediv_of_nonneg (Int.le_of_lt (pw_pos _)), e3]
  obtain ⟨r, hr⟩ : ∃ r, 16 = k % 16 + (r + 1) := ⟨15 - k % 16, by omega⟩
  have e4 : p2 16 = p2 (k % 16) * (2 * p2 r) := (congrArg p2 hr).trans (by rw [p2_add, p2_succ])
  rw [p2_16] at e4
  have e5 : 65536 * valL (l.drop (k / 16 + 1)) = p2 (k % 16) * (2 * (p2 r * valL (l.drop (k / 16 + 1)))) := by rw [e4, Int.mul_assoc, Int.mul_assoc]
  rw [e5, Int.add_mul_ediv_left _ _ (Int.ne_of_gt (p2_pos _))]
  omega
theorem fdiv_pos {x y : Int} (hy : 0 ≤ y) : x.fdiv y = x / y := Int.fdiv_eq_ediv_of_nonneg x hy
theorem c164 (G : Imm) (a : Option Addr) (c : Nat) (l : List U32) (k : Nat) (ha : Arr G a l) (hd : Digs l) (h1 : l.length ≤ 536870912) (hk : k < 16 * l.length) :
    Does Tryz.prog 164 [.slice a l.length c, .int .i64 (k : Int)] G [] (fun v G' Ho => v = .int .u32 (valL l / p2 k % 2) ∧ G' = G ∧ Ho = []) := by
  have hq : k / 16 < l.length := by omega
  have hdg := dg_lt hd hq
  refine Does.enter Tryz.func164 rfl Tryz.ntmps164 rfl (fun w => ?_)
  refine Wc.gl 9 [] ?_
  refine Wl.q rfl (Qy.quoP rfl rfl (by omega)) ?_
  refine Wl.q rfl (Qy.at (α := U32) T.sl35 rfl rfl (by assumption) (by omega)) ?_
  refine Wl.q rfl (Qy.loadG T.one63 rfl (Arr.cell (by assumption) (by omega) 0 rfl rfl)) ?_
  refine Wl.q rfl (Qy.move rfl) ?_
  refine Wl.q rfl (Qy.urem rfl rfl (by omega)) ?_
  refine Wl.q rfl (Qy.shr rfl rfl (by omega)) ?_
  refine Wl.q rfl (Qy.andW rfl rfl) ?_
  refine Wl.ga 4 [] ?_
  refine Ar.out1 (.inr rfl) (Ho := Hp.only _ []) rfl (.tmp rfl) (Hp.sub_only _ _) ?_
  refine ⟨?_, rfl, rfl⟩
  have e1 : (l[((k : Int) / 16).toNat]?.getD default).v = dg l (k / 16) := by
    unfold dg; rw [show ((k : Int) / 16).toNat = ((k / 16 : Nat) : Int).toNat by omega]
  have e2 : (2 : Int) ^ min ((k : Int) % 16).toNat IntKind.u32.bits = p2 (k % 16) := by
    have e : min ((k : Int) % 16).toNat IntKind.u32.bits = k % 16 := by
      rw [show IntKind.u32.bits = 32 from rfl]; omega
    rw [e, show p2 (k % 16) = ((2 ^ (k % 16) : Nat) : Int) from by unfold p2; rfl, Int.natCast_pow]; rfl
  have h2 := div_le (n := p2 (k % 16)) hdg.1 (p2_pos _)
  rw [e1, e2, fdiv_pos (Int.le_of_lt (p2_pos _)), and_one_u32 _ (by omega), dig_bit hd hk]
end Go.Proofs.YtelbhbbiejalhaaGreat
set_option maxRecDepth 100000
set_option linter.unusedVariables false
namespace Go.Proofs.YtelbhbbiejalhaaGreat.T
open Go Go.Sl
theorem fld97_1 : ∀ (w : World) (v0 v1 : Value), (Instr.field 97 (.agg #[v0, v1]) 1).run Tryz.prog w = .ok (#[v0, v1][1]?.getD undef) w := fun _ _ _ => by kernel_rfl
end Go.Proofs.YtelbhbbiejalhaaGreat.T
namespace Go.Proofs.YtelbhbbiejalhaaGreat
open Go Go.Sl
set_option maxHeartbeats 4000000
theorem drop_step {l : List U32} {i : Nat} (h : i < l.length) : valL (l.drop i) = dg l i + 65536 * valL (l.drop (i + 1)) := by
  rw [List.drop_eq_getElem_cons h, valL_cons]
  unfold dg
  rw [Int.toNat_natCast, List.getElem?_eq_getElem h]; rfl
theorem dg_set {l : List U32} {i : Nat} (h : i < l.length) (d : Int) : dg (l.set i ⟨d⟩) i = d := by
  unfold dg
  rw [Int.toNat_natCast, List.getElem?_eq_getElem (by rw [List.length_set]; exact h), List.getElem_set_self]; rfl
theorem short_next {la q : List U32} {i : Nat} {r B : Int} (hi : i < la.length) (hq : i < q.length) (hv : valL (la.drop (i + 1)) = valL (q.drop (i + 1)) * B + r) :
    valL (la.drop i) = valL ((q.set i ⟨(r * 65536 + dg la i) / B⟩).drop i) * B + (r * 65536 + dg la i) % B := by
  rw [drop_step hi, drop_step (l := q.set i _) (by rw [List.length_set]; exact hq), dg_set hq, List.drop_set_of_lt (by omega), hv]
  have h := Int.emod_add_mul_ediv (r * 65536 + dg la i) B
  rw [Int.add_mul, Int.mul_comm ((r * 65536 + dg la i) / B) B, Int.mul_assoc 65536, Int.mul_add]
  omega
theorem short_lt {r a B : Int} (hr : 0 ≤ r ∧ r < B) (ha : 0 ≤ a ∧ a < 65536) : 0 ≤ (r * 65536 + a) / B ∧ (r * 65536 + a) / B < 65536 := by
  refine ⟨Int.ediv_nonneg (by omega) (by omega), Int.ediv_lt_of_lt_mul (by omega) ?_⟩
  have h1 := Int.mul_le_mul_of_nonneg_right (show r + 1 ≤ B by omega) (show (0 : Int) ≤ 65536 by decide)
  rw [Int.mul_comm 65536 B]
  omega
theorem one_val {lb : List U32} (h : lb.length = 1) : valL lb = dg lb 0 := by
  match lb, h with
  | [d], _ => rw [valL_one]; rfl
/-- quotient and remainder of digits -/
def DivOk (G : Imm) (la lb : List U32) (v : Value) : Prop := ∃ (qa ra : Option Addr) (qc rc : Nat) (lq lr : List U32), v = .tuple #[.slice qa lq.length qc, .slice ra lr.length rc] ∧ Arr G qa lq ∧ Arr G ra lr ∧ Digs lq ∧ Top lq ∧ Digs lr ∧ Top lr ∧
  valL la = valL lq * valL lb + valL lr ∧ valL lr < valL lb ∧ lq.length ≤ qc ∧ lr.length ≤ rc ∧ lq.length ≤ la.length
attribute [local irreducible] valL pw cmpZ p2
theorem c159S (G : Imm) (a b : Option Addr) (ca cb : Nat) (la lb : List U32) (ha : Arr G a la) (hb : Arr G b lb) (da : Digs la) (db : Digs lb) (tb : Top lb) (h1 : la.length ≤ 536870912) (hl1 : lb.length = 1) :
    Does Tryz.prog 159 [.slice a la.length ca, .slice b lb.length cb] G [] (fun v G' Ho => DivOk G' la lb v ∧ Ho = []) := by
  have hB : 0 < dg lb 0 := by
    rw [← one_val hl1]; exact top_pos db tb (fun e => by rw [e] at hl1; simp at hl1)
  have hB2 := dg_lt db (show 0 < lb.length by omega)
  have hb0 : (lb[((0 : Nat) : Int).toNat]?.getD default).v = dg lb 0 := rfl
  refine Does.enter Tryz.func159 rfl Tryz.ntmps159 rfl (fun w => ?_)
  refine Wc.gl 19 [1] ?_
  refine Wl.make (α := U32) 0 rfl T.sl35 T.el63 rfl rfl (by omega) (by omega) (fun b1 => ?_)
  refine Wl.gc 18 [] ?_
  obtain ⟨N, hN⟩ : ∃ N, N = la.length := ⟨_, rfl⟩
  have hM : (la.length : Int).toNat = N := by omega
  rw [hM]
  have hown : ∀ r : List U32, r.length = N → OwnA (some ⟨b1, 0, none⟩) N r [] := fun r hr => .inr ⟨b1, rfl, by rw [hr]; rfl, by omega, by simp only [maxLen]; omega⟩
  refine Wc.re 6 rfl (show _ = Value.slice (some ⟨b1, 0, none⟩) (List.replicate N (default : U32)).length N by rw [List.length_replicate]) ?_
  refine Wc.loop (ι := Nat × Int × List U32) (fun (k, r, q) => ([(8, .int .i64 ((k : Int) - 1)), (7, .int .u64 r), (6, .slice (some ⟨b1, 0, none⟩) q.length N), (5, Go.Value.slice Option.none 0 0), (4, Go.Value.slice Option.none 0 0), (0, Go.Value.slice a (List.length la) ca), (1, Go.Value.slice b (List.length lb) cb)], [(0, some b1, Row 63 q [])])) (fun (k, r, q) => k ≤ la.length ∧ q.length = N ∧ Digs q ∧ 0 ≤ r ∧ r < dg lb 0 ∧ valL (la.drop k) = valL (q.drop k) * dg lb 0 + r) (fun (k, r, q) => k) ((la.length, 0, List.replicate N (default : U32))) (⟨Nat.le_refl _, List.length_replicate, Digs.zeros N, by decide, hB, by rw [List.drop_eq_nil_of_le (Nat.le_refl _), List.drop_eq_nil_of_le (by rw [List.length_replicate]; omega), valL_nil, Int.zero_mul]; rfl⟩) ⟨rfl, rfl, rfl, rfl, rfl, rfl, rfl, trivial⟩ ⟨rfl, trivial⟩ (fun ⟨k, r, q⟩ => fun (hk : k ≤ la.length ∧ q.length = N ∧ Digs q ∧ 0 ≤ r ∧ r < dg lb 0 ∧ valL (la.drop k) = valL (q.drop k) * dg lb 0 + r) => ?_)
  obtain ⟨hk1, hqN, hdq, hr0, hr1, hv⟩ := hk
  have hoq := hown q hqN
  rcases Nat.eq_zero_or_pos k with rfl | hpos
  · rw [List.drop_zero, List.drop_zero] at hv
    have hcap := hoq.le
    refine Wc.gl 16 [0] ?_
    refine Wl.freezeRow 0 rfl hoq (fun G8 hle8 hA => ?_)
    refine Wl.call 1 rfl T.fn75 rfl (c75 _ _ _ _ _ (by assumption) (by first | omega | (simp only [List.length_cons, List.length_nil]; omega)) (by first | assumption | exact Nat.le_refl _)) (tags_of trivial) (fun v1 G1 Ho1 hle1 hp => ?_)
    obtain ⟨tn1, rfl, htr1, rfl, rfl⟩ := hp
    refine Wl.q rfl (Qy.fieldR T.fld97_1 rfl rfl) ?_
    refine Wl.q rfl (Qy.move rfl) ?_
    refine Wl.q rfl (Qy.conv32 rfl T.u63 rfl (by omega)) ?_
    refine Wl.lit (α := U32) 1 [⟨r⟩] rfl T.sl35 T.el63 rfl rfl rfl rfl rfl (fun b2 => ?_)
    have hdr : Digs [(⟨r⟩ : U32)] := Digs.one (by omega)
    refine Wl.freezeRow 1 rfl (OwnA.made (xs := [(⟨r⟩ : U32)]) (by simp [maxLen])) (fun G9 hle9 hA2 => ?_)
    replace hA := hA.up hle9
    refine Wl.call 2 rfl T.fn75 rfl (c75 _ _ _ _ _ (by assumption) (by first | omega | (simp only [List.length_cons, List.length_nil]; omega)) (by first | assumption | exact Nat.le_refl _)) (tags_of trivial) (fun v2 G2 Ho2 hle2 hp => ?_)
    obtain ⟨tn2, rfl, htr2, rfl, rfl⟩ := hp
    refine Wl.q rfl (Qy.fieldR T.fld97_1 rfl rfl) ?_
    refine Wl.ga 6 [] ?_
    refine Ar.out2 (.inr rfl) (Ho := []) rfl (.tmp rfl) (.tmp rfl) trivial ?_
    refine ⟨⟨subA (some ⟨b1, 0, none⟩) N 0 1, subA (some ⟨b2, 0, none⟩) 1 0 1, N, 1, q.take tn1, [(⟨r⟩ : U32)].take tn2, ?_, arr_sub hA _, arr_sub hA2 _, hdq.take _, htr1.top, hdr.take _, htr2.top, ?_, ?_, ?_, ?_, ?_⟩, rfl⟩
    · rw [htr1.len, htr2.len]; rfl
    · rw [htr1.val, htr2.val, valL_one, one_val hl1]; exact hv
    · rw [htr2.val, valL_one, one_val hl1]; exact hr1
    · rw [htr1.len]; exact Nat.le_trans htr1.1 hcap
    · rw [htr2.len]; exact htr2.1
    · rw [htr1.len, ← hN, ← hqN]; exact htr1.1
  · obtain ⟨i, rfl⟩ : ∃ i, k = i + 1 := ⟨k - 1, by omega⟩
    have hai := dg_lt da (show i < la.length by omega)
    have ei : (((i + 1 : Nat) : Int) - 1).toNat = i := by omega
    have eA : (la[(((i + 1 : Nat) : Int) - 1).toNat]?.getD default).v = dg la i := by unfold dg; rw [ei, Int.toNat_natCast]
    have hsl := short_lt ⟨hr0, hr1⟩ hai
    have hb1 : 0 < (lb[(0 : Int).toNat]?.getD default).v := hB
    have hb2 : (lb[(0 : Int).toNat]?.getD default).v < 65536 := hB2.2
    have hsl' : 0 ≤ (r * 65536 + (la[(((i + 1 : Nat) : Int) - 1).toNat]?.getD default).v) / (lb[(0 : Int).toNat]?.getD default).v ∧ (r * 65536 + (la[(((i + 1 : Nat) : Int) - 1).toNat]?.getD default).v) / (lb[(0 : Int).toNat]?.getD default).v ≤ 65535 := by
      rw [eA]
      exact ⟨hsl.1, by have := hsl.2; show _ / dg lb 0 ≤ _; omega⟩
    have hrm : 0 ≤ (r * 65536 + dg la i) % dg lb 0 ∧ (r * 65536 + dg la i) % dg lb 0 < dg lb 0 := ⟨Int.emod_nonneg _ (by omega), Int.emod_lt_of_pos _ hB⟩
    refine Wc.gl 15 [1] ?_
    refine Wl.q rfl (Qy.umul64 rfl rfl (by first | assumption | omega)) ?_
    refine Wl.ll0 2 [] ?_
    refine Wl.q rfl (Qy.at (α := U32) T.sl35 rfl rfl (by assumption) (by omega)) ?_
    refine Wl.q rfl (Qy.loadG T.one63 rfl (Arr.cell (by assumption) (by omega) 0 rfl rfl)) ?_
    refine Wl.q rfl (Qy.conv64 rfl T.u61 rfl (by omega)) ?_
    refine Wl.q rfl (Qy.uadd64 rfl rfl (by omega)) ?_
    refine Wl.gl 9 [] ?_
    refine Wl.q rfl (Qy.at (α := U32) T.sl35 rfl rfl (by assumption) (by omega)) ?_
    refine Wl.q rfl (Qy.loadG T.one63 rfl (Arr.cell (by assumption) (by omega) 0 rfl rfl)) ?_
    refine Wl.q rfl (Qy.conv64 rfl T.u61 rfl (by omega)) ?_
    refine Wl.q rfl (Qy.uquo64 rfl rfl (by omega)) ?_
    refine Wl.q rfl (Qy.conv32 rfl T.u63 rfl (by omega)) ?_
    refine Wl.q rfl (Qy.indexAddrO (α := U32) T.sl35 rfl rfl (by assumption) (by omega)) ?_
    refine Wl.setO (z := _) 0 T.size63 rfl rfl rfl (by assumption) (by omega) rfl (fun ho1 => ?_)
    refine Wl.gl 5 [] ?_
    refine Wl.q rfl (Qy.at (α := U32) T.sl35 rfl rfl (by assumption) (by omega)) ?_
    refine Wl.q rfl (Qy.loadG T.one63 rfl (Arr.cell (by assumption) (by omega) 0 rfl rfl)) ?_
    refine Wl.q rfl (Qy.conv64 rfl T.u61 rfl (by omega)) ?_
    refine Wl.q rfl (Qy.urem rfl rfl (by omega)) ?_
    refine Wl.ga 9 [] ?_
    rw [eA]
    refine Ar.re 8 rfl (show _ = Value.int .i64 ((i : Int) - 1) by congr 1; omega) ?_
    refine Ar.reH 0 (Row 63 (q.set i ⟨(r * 65536 + dg la i) / dg lb 0⟩) []) rfl (by rw [ei]; rfl) ?_
    refine Ar.re 6 rfl (show _ = Value.slice (some ⟨b1, 0, none⟩) (q.set i ⟨(r * 65536 + dg la i) / dg lb 0⟩).length N by rw [List.length_set]) ?_
    refine Ar.again ((i, (r * 65536 + dg la i) % dg lb 0, q.set i ⟨(r * 65536 + dg la i) / dg lb 0⟩)) ?_ ?_ rfl ⟨rfl, rfl, rfl, rfl, rfl, rfl, rfl, trivial⟩ ⟨rfl, trivial⟩
    · exact ⟨by omega, by rw [List.length_set]; exact hqN, digs_set hdq _ hsl, hrm.1, hrm.2, short_next (by omega) (by omega) hv⟩
    · show i < i + 1
      omega
end Go.Proofs.YtelbhbbiejalhaaGreat
set_option maxRecDepth 100000
set_option linter.unusedVariables false
namespace Go.Proofs.YtelbhbbiejalhaaGreat
open Go Go.Sl
set_option maxHeartbeats 4000000
theorem row_take {α : Type} [Cells α] (E : TypeId) (xs : List α) (j : List Value) (n : Nat) : Row E xs j = Row E (xs.take n) (flat (xs.drop n) ++ j) := by
  unfold Row
  rw [← List.append_assoc, ← flat_append, List.take_append_drop]
theorem own_take {α : Type} [Cells α] {a : Option Addr} {c : Nat} {xs : List α} {j : List Value} (h : OwnA a c xs j) (n : Nat) : OwnA a c (xs.take n) (flat (xs.drop n) ++ j) := by
  rcases h with ⟨h1, rfl, rfl, h4⟩ | ⟨b, h1, h2, h3, h4⟩
  · exact .inl ⟨h1, by simp, by simp [flat], h4⟩
  · refine .inr ⟨b, h1, ?_, ?_, h4⟩
    · rw [List.length_append, flat_length, ← Nat.add_assoc, ← Nat.add_mul, ← List.length_append, List.take_append_drop]; exact h2
    · rw [List.length_take]; omega
theorem top_of_ge {l : List U32} (hd : Digs l) (h0 : l ≠ []) (h : pw (l.length - 1) ≤ valL l) : Top l := by
  refine .inr fun hz => ?_
  have hl : 0 < l.length := List.length_pos_iff.2 h0
  have e := val_step l (l.length - 1)
  have hz' : dg l (l.length - 1) = 0 := by unfold dg; rw [Int.toNat_natCast]; exact hz
  rw [Nat.sub_add_cancel hl, take_all (Nat.le_refl _), hz', Int.mul_zero, Int.add_zero] at e
  have h1 := valL_lt (hd.take (l.length - 1))
  rw [List.length_take, Nat.min_eq_left (by omega)] at h1
  omega
theorem len_le_of_val {l m : List U32} (hl : Digs l) (hm : Digs m) (tm : Top m) (h : valL m ≤ valL l) : m.length ≤ l.length := by
  rcases Nat.lt_or_ge l.length m.length with h1 | h1
  · have := top_lt_len hl hm tm h1; omega
  · exact h1
theorem take_set {l : List U32} {i : Nat} (h : i < l.length) (d : U32) : (l.set i d).take (i + 1) = l.take i ++ [d] := by
  rw [List.take_add_one, List.take_set_of_le (Nat.le_refl _), List.getElem?_set_self h]; rfl
theorem dg_drop {r s : List U32} {i : Nat} (h : s.drop i = r.drop i) : dg s i = dg r i := by
  have e : s[i]? = r[i]? := by
    have := congrArg (·[0]?) h
    simpa [List.getElem?_drop] using this
  unfold dg; rw [Int.toNat_natCast, e]
theorem drop_set_next {r s : List U32} {i : Nat} (h : s.drop i = r.drop i) (d : U32) : (s.set i d).drop (i + 1) = r.drop (i + 1) := by
  rw [List.drop_set_of_lt (by omega), ← List.drop_drop, ← List.drop_drop, h]
theorem twice_next {r s : List U32} {i : Nat} {c c0 : Int} (hi : i < s.length) (hd : s.drop i = r.drop i) (hv : valL (s.take i) + pw i * c = 2 * valL (r.take i) + c0) :
    valL ((s.set i ⟨(c + 2 * dg s i) % 65536⟩).take (i + 1)) + pw (i + 1) * ((c + 2 * dg s i) / 65536) = 2 * valL (r.take (i + 1)) + c0 := by
  rw [take_set hi, valL_snoc, List.length_take, Nat.min_eq_left (Nat.le_of_lt hi), val_step, pw_succ, ← dg_drop hd]
  have h := carry (pw i) (c + 2 * dg s i)
  rw [Int.mul_add, Int.mul_left_comm] at h
  show valL (s.take i) + pw i * ((c + 2 * dg s i) % 65536) + 65536 * pw i * ((c + 2 * dg s i) / 65536) = _
  omega
theorem half_bit (x : Int) (e : Nat) : x / p2 e = 2 * (x / p2 (e + 1)) + x / p2 e % 2 := by
  rw [p2_succ, Int.mul_comm 2 (p2 e), ← Int.ediv_ediv_of_nonneg (Int.le_of_lt (p2_pos e))]
  omega
/-- where a power of two divides, a digit's low bits are noughts -/
theorem dig_zero {q : List U32} (hd : Digs q) {e : Nat} {Q : Int} (he : e / 16 < q.length) (h : valL q = p2 (e + 1) * Q) : dg q (e / 16) % p2 (e % 16 + 1) = 0 := by
  have e0 := val_split q (m := e / 16 + 1) (by omega)
  rw [val_step, pw_succ] at e0
  have h1 := valL_lt (hd.take (e / 16))
  have h0 := valL_nonneg (hd.take (e / 16))
  rw [List.length_take, Nat.min_eq_left (by omega)] at h1
  have ek : p2 (e + 1) = pw (e / 16) * p2 (e % 16 + 1) := by rw [pw_p2, ← p2_add, ← Nat.add_assoc, Nat.div_add_mod]
  obtain ⟨r, hr⟩ : ∃ r, 16 = e % 16 + 1 + r := ⟨15 - e % 16, by omega⟩
  have e4 : p2 16 = p2 (e % 16 + 1) * p2 r := (congrArg p2 hr).trans (by rw [p2_add])
  rw [p2_16] at e4
  have e2 : valL (q.take (e / 16)) + pw (e / 16) * (dg q (e / 16) + p2 (e % 16 + 1) * (p2 r * valL (q.drop (e / 16 + 1)))) = pw (e / 16) * (p2 (e % 16 + 1) * Q) := by
    rw [← Int.mul_assoc (pw (e / 16)) (p2 (e % 16 + 1)) Q, ← ek, ← h, e0, Int.mul_add, ← Int.mul_assoc (p2 (e % 16 + 1)) (p2 r), ← e4, ← Int.mul_assoc (pw (e / 16)) 65536, Int.mul_comm (pw (e / 16)) 65536]
    omega
  have e3 : dg q (e / 16) + p2 (e % 16 + 1) * (p2 r * valL (q.drop (e / 16 + 1))) = p2 (e % 16 + 1) * Q := by
    have h2 := congrArg (fun z => z / pw (e / 16)) e2
    rw [Int.add_mul_ediv_left _ _ (Int.ne_of_gt (pw_pos _)), Int.ediv_eq_zero_of_lt h0 h1, Int.zero_add, Int.mul_ediv_cancel_left _ (Int.ne_of_gt (pw_pos _))] at h2
    exact h2
  have e5 : dg q (e / 16) = p2 (e % 16 + 1) * (Q - p2 r * valL (q.drop (e / 16 + 1))) := by rw [Int.mul_sub]; omega
  rw [e5]; exact Int.mul_emod_right _ _
theorem long_yes {q : List U32} {e : Nat} {Q : Int} (he : e / 16 < q.length) (h : valL q = p2 (e + 1) * Q) : valL (q.set (e / 16) ⟨dg q (e / 16) + p2 (e % 16)⟩) = p2 e * (2 * Q + 1) := by
  have ek : p2 e = pw (e / 16) * p2 (e % 16) := by rw [pw_p2, ← p2_add, Nat.div_add_mod]
  rw [valL_set q (e / 16) _ he, h, p2_succ, Int.mul_add, Int.mul_one]
  show 2 * p2 e * Q + pw (e / 16) * (dg q (e / 16) + p2 (e % 16) - dg q (e / 16)) = _
  rw [show dg q (e / 16) + p2 (e % 16) - dg q (e / 16) = p2 (e % 16) by omega, ← ek, Int.mul_left_comm (p2 e) 2 Q, Int.mul_assoc 2 (p2 e) Q]
theorem dig_room {q : List U32} (hd : Digs q) {e : Nat} (he : e / 16 < q.length) (hz : dg q (e / 16) % p2 (e % 16 + 1) = 0) : 0 ≤ dg q (e / 16) + p2 (e % 16) ∧ dg q (e / 16) + p2 (e % 16) < 65536 := by
  have h1 := dg_lt hd he
  have h2 := p2_pos (e % 16)
  obtain ⟨r, hr⟩ : ∃ r, 16 = e % 16 + 1 + r := ⟨15 - e % 16, by omega⟩
  have e4 : p2 16 = p2 (e % 16 + 1) * p2 r := (congrArg p2 hr).trans (by rw [p2_add])
  rw [p2_16] at e4
  obtain ⟨y, hy⟩ : ∃ y, dg q (e / 16) = p2 (e % 16 + 1) * y := ⟨_, (Int.mul_ediv_cancel' (Int.dvd_of_emod_eq_zero hz)).symm⟩
  have hlt : y < p2 r := by
    rw [hy, e4] at h1
    exact Int.lt_of_mul_lt_mul_left h1.2 (Int.le_of_lt (p2_pos _))
  have h3 := Int.mul_le_mul_of_nonneg_left (show y + 1 ≤ p2 r by omega) (Int.le_of_lt (p2_pos (e % 16 + 1)))
  rw [Int.mul_add, Int.mul_one, ← e4, ← hy, p2_succ] at h3
  omega
theorem p2_defN (n : Nat) : p2 n = ((2 ^ n : Nat) : Int) := rfl
theorem shl_one {e : Nat} : IntKind.u32.wrap (1 * 2 ^ min ((e : Int) % 16).toNat IntKind.u32.bits) = p2 (e % 16) := by
  have e1 : min ((e : Int) % 16).toNat IntKind.u32.bits = e % 16 := by
    rw [show IntKind.u32.bits = 32 from rfl]; omega
  have e2 : (2 : Int) ^ (e % 16) = p2 (e % 16) := by rw [p2_defN, Int.natCast_pow]; rfl
  have h1 : p2 (e % 16) ≤ p2 16 := p2_le (by omega)
  rw [p2_16] at h1
  have h2 := p2_pos (e % 16)
  rw [e1, e2, Int.one_mul, IntWalk.u32_in _ (by omega)]
theorem or_dig {q : List U32} {e : Nat} (h : 0 ≤ dg q (e / 16) ∧ dg q (e / 16) < 65536) (hz : dg q (e / 16) % p2 (e % 16 + 1) = 0) :
    bits BinOp.or IntKind.u32 (q[((e : Int) / 16).toNat]?.getD default).v (IntKind.u32.wrap (1 * 2 ^ min ((e : Int) % 16).toNat IntKind.u32.bits)) = dg q (e / 16) + p2 (e % 16) := by
  have e1 : (q[((e : Int) / 16).toNat]?.getD default).v = dg q (e / 16) := by
    unfold dg; rw [show ((e : Int) / 16).toNat = ((e / 16 : Nat) : Int).toNat by omega]
  rw [shl_one, e1, p2_defN (e % 16)]
  exact or_bit_u32 _ _ h (by omega) hz
attribute [local irreducible] valL pw cmpZ p2
theorem c159L (G : Imm) (a b : Option Addr) (ca cb : Nat) (la lb : List U32) (ha : Arr G a la) (hb : Arr G b lb) (da : Digs la) (db : Digs lb) (tb : Top lb) (h1 : la.length ≤ 536870912) (h2 : lb.length ≤ 536870912) (hl1 : lb.length ≠ 1) (hB : 0 < valL lb) :
    Does Tryz.prog 159 [.slice a la.length ca, .slice b lb.length cb] G [] (fun v G' Ho => DivOk G' la lb v ∧ Ho = []) := by
  refine Does.enter Tryz.func159 rfl Tryz.ntmps159 rfl (fun w => ?_)
  refine Wc.nilRow 50 (Row 63 ([] : List U32) []) ?_
  refine Wc.gl 21 [0] ?_
  refine Wl.make (α := U32) 51 rfl T.sl35 T.el63 rfl rfl (by omega) (by omega) (fun b1 => ?_)
  refine Wl.gl 12 [] ?_
  refine Wl.call 52 rfl T.fn163 rfl (c163 _ _ _ _ (by assumption) (by assumption) (by assumption)) (tags_of trivial) (fun v1 G1 Ho1 hle1 hp => ?_)
  obtain ⟨nb1, rfl, hnv1, hnl1, rfl, rfl⟩ := hp
  refine Wl.gc 5 [] ?_
  obtain ⟨N, hN⟩ : ∃ N, N = la.length := ⟨_, rfl⟩
  have hM : (la.length : Int).toNat = N := by omega
  rw [hM]
  have hown : ∀ r : List U32, r.length = N → OwnA (some ⟨b1, 0, none⟩) N r [] := fun r hr => .inr ⟨b1, rfl, by rw [hr]; rfl, by omega, by simp only [maxLen]; omega⟩
  refine Wc.re 9 rfl (show _ = Value.slice (some ⟨b1, 0, none⟩) (List.replicate N (default : U32)).length N by rw [List.length_replicate]) ?_
  have hstart : valL la / p2 nb1 = 0 := Int.ediv_eq_zero_of_lt (valL_nonneg da) hnv1
  refine Wc.loop (ι := Nat × Int × List U32 × List U32 × (Option Addr × Nat × List Value)) (fun (k, Q, q, r, (o, d, j)) => ([(11, .int .i64 ((k : Int) - 1)), (9, .slice (some ⟨b1, 0, none⟩) q.length N), (10, .slice o r.length d), (5, Go.Value.slice Option.none 0 0), (4, Go.Value.slice Option.none 0 0), (0, Go.Value.slice a (List.length la) ca), (1, Go.Value.slice b (List.length lb) cb)], [(51, some b1, Row 63 q []), (50, o.map (·.block), Row 63 r j)])) (fun (k, Q, q, r, (o, d, j)) => k ≤ nb1 ∧ q.length = N ∧ Digs q ∧ Digs r ∧ Top r ∧ valL q = p2 k * Q ∧ valL la / p2 k = Q * valL lb + valL r ∧ valL r < valL lb ∧ r.length ≤ lb.length ∧ OwnA o d r j) (fun (k, Q, q, r, (o, d, j)) => k) ((nb1, 0, List.replicate N (default : U32), [], (none, 0, []))) (⟨Nat.le_refl _, List.length_replicate, Digs.zeros N, Digs.nil, Top.nil, by rw [Int.mul_zero]; exact valL_replicate N, by rw [hstart, Int.zero_mul, valL_nil]; rfl, by rw [valL_nil]; exact hB, Nat.zero_le _, OwnA.nil⟩) ⟨rfl, rfl, rfl, rfl, rfl, rfl, rfl, trivial⟩ ⟨rfl, rfl, trivial⟩ (fun ⟨k, Q, q, r, (o, d, j)⟩ => fun (hk : k ≤ nb1 ∧ q.length = N ∧ Digs q ∧ Digs r ∧ Top r ∧ valL q = p2 k * Q ∧ valL la / p2 k = Q * valL lb + valL r ∧ valL r < valL lb ∧ r.length ≤ lb.length ∧ OwnA o d r j) => ?_)
  obtain ⟨hk1, hqN, hdq, hdr, htr, hvq, hva, hrB, hrl, hob⟩ := hk
  have hoq := hown q hqN
  rcases Nat.eq_zero_or_pos k with rfl | hpos
  · rw [p2_zero, Int.ediv_one] at hva
    rw [p2_zero, Int.one_mul] at hvq
    have hcap := hoq.le
    have hcap2 := hob.le
    refine Wc.gl 16 [0] ?_
    refine Wl.freezeRow 51 rfl hoq (fun G8 hle8 hA => Wl.freezeRow 50 rfl hob (fun G9 hle9 hA2 => ?_))
    replace hA := hA.up hle9
    refine Wl.call 52 rfl T.fn75 rfl (c75 _ _ _ _ _ (by assumption) (by first | omega | (simp only [List.length_cons, List.length_nil]; omega)) (by first | assumption | exact Nat.le_refl _)) (tags_of trivial) (fun v2 G2 Ho2 hle2 hp => ?_)
    obtain ⟨tn2, rfl, htr2, rfl, rfl⟩ := hp
    refine Wl.q rfl (Qy.fieldR T.fld97_1 rfl rfl) ?_
    refine Wl.ga 6 [] ?_
    refine Ar.out2 (.inr rfl) (Ho := []) rfl (.tmp rfl) (.tmp rfl) trivial ?_
    refine ⟨⟨subA (some ⟨b1, 0, none⟩) N 0 1, o, N, d, q.take tn2, r, ?_, arr_sub hA _, hA2, hdq.take _, htr2.top, hdr, htr, ?_, hrB, ?_, hcap2, ?_⟩, rfl⟩
    · rw [htr2.len]; rfl
    · rw [htr2.val, hvq]; exact hva
    · rw [htr2.len]; exact Nat.le_trans htr2.1 hcap
    · rw [htr2.len, ← hN, ← hqN]; exact htr2.1
  · obtain ⟨e, rfl⟩ : ∃ e, k = e + 1 := ⟨k - 1, by omega⟩
    have he16 : e < 16 * la.length := by omega
    refine Wc.re 11 rfl (show _ = Value.int .i64 (e : Int) by congr 1; omega) ?_
    have hbit : 0 ≤ valL la / p2 e % 2 ∧ valL la / p2 e % 2 ≤ 1 := by omega
    have hhb := half_bit (valL la) e
    generalize hc : valL la / p2 e % 2 = c0 at *
    refine Wc.gl 16 [1] ?_
    refine Wl.call0 rfl T.fn164 rfl (c164 _ _ _ _ _ (by assumption) (by assumption) (by assumption) (by assumption)) ?_
    refine Wl.gc 10 [] ?_
    refine Wc.re 12 rfl (show _ = Value.int .u32 c0 by rw [hc]) ?_
    refine Wc.loop (ι := Nat × Int × List U32) (fun (i, c, s) => ([(13, .int .i64 (i : Int)), (12, .int .u32 c), (10, .slice o s.length d), (0, .slice a la.length ca), (1, .slice b lb.length cb), (11, Go.Value.int Go.IntKind.i64 (↑e : Int)), (9, Go.Value.slice (Option.some (Go.Addr.mk b1 0 Option.none)) (List.length q) N), (5, Go.Value.slice Option.none 0 0), (4, Go.Value.slice Option.none 0 0)], [(50, o.map (·.block), Row 63 s j), (51, Option.some b1, Go.Sl.Row (α := Go.Sl.U32) 63 (q) ([]))])) (fun (i, c, s) => i ≤ r.length ∧ s.length = r.length ∧ Digs s ∧ 0 ≤ c ∧ c ≤ 1 ∧ valL (s.take i) + pw i * c = 2 * valL (r.take i) + c0 ∧ s.drop i = r.drop i ∧ OwnA o d s j) (fun (i, c, s) => r.length - i) ((0, c0, r)) (⟨Nat.zero_le _, rfl, hdr, hbit.1, hbit.2, by rw [List.take_zero, valL_nil, pw_zero, Int.one_mul]; omega, rfl, hob⟩) ⟨rfl, rfl, rfl, rfl, rfl, rfl, rfl, rfl, rfl, trivial⟩ ⟨rfl, rfl, trivial⟩ (fun ⟨i, c, s⟩ => fun (hk : i ≤ r.length ∧ s.length = r.length ∧ Digs s ∧ 0 ≤ c ∧ c ≤ 1 ∧ valL (s.take i) + pw i * c = 2 * valL (r.take i) + c0 ∧ s.drop i = r.drop i ∧ OwnA o d s j) => ?_)
    obtain ⟨hi1, hsl, hds, hcc0, hcc1, hvs, hdrop, hos⟩ := hk
    rcases Nat.lt_or_ge i r.length with hil | hil
    · have hsi : 0 ≤ (s[((i : Nat) : Int).toNat]?.getD default).v ∧ (s[((i : Nat) : Int).toNat]?.getD default).v < 65536 := dg_lt hds (by omega)
      refine Wc.gl 19 [1] ?_
      refine Wl.q rfl (Qy.indexAddrO (α := U32) T.sl35 rfl rfl (by assumption) (by omega)) ?_
      refine Wl.q rfl (Qy.loadO 50 0 T.one63 rfl rfl (by assumption) (by omega) rfl rfl) ?_
      refine Wl.q rfl (Qy.umul32 rfl rfl (by first | assumption | omega)) ?_
      refine Wl.q rfl (Qy.uadd32 rfl rfl (by omega)) ?_
      refine Wl.gl 8 [] ?_
      refine Wl.q rfl (Qy.urem rfl rfl (by omega)) ?_
      refine Wl.q rfl (Qy.indexAddrO (α := U32) T.sl35 rfl rfl (by assumption) (by omega)) ?_
      refine Wl.setO (z := _) 50 T.size63 rfl rfl rfl (by assumption) (by omega) rfl (fun ho1 => ?_)
      refine Wl.gl 4 [] ?_
      refine Wl.q rfl (Qy.uquo32 rfl rfl (by omega)) ?_
      refine Wl.ga 9 [] ?_
      refine Ar.reH 50 (Row 63 (s.set i ⟨(c + 2 * (s[((i : Nat) : Int).toNat]?.getD default).v) % 65536⟩) j) rfl (by rw [Int.toNat_natCast]) ?_
      refine Ar.re 10 rfl (show _ = Value.slice o (s.set i ⟨(c + 2 * (s[((i : Nat) : Int).toNat]?.getD default).v) % 65536⟩).length d by rw [List.length_set]) ?_
      refine Ar.again ((i + 1, (c + 2 * (s[((i : Nat) : Int).toNat]?.getD default).v) / 65536, s.set i ⟨(c + 2 * (s[((i : Nat) : Int).toNat]?.getD default).v) % 65536⟩)) ?_ ?_ rfl ⟨rfl, rfl, rfl, rfl, rfl, rfl, rfl, rfl, rfl, trivial⟩ ⟨rfl, rfl, trivial⟩
      · refine ⟨by omega, by rw [List.length_set]; exact hsl, digs_set hds _ (by omega), by omega, by omega, twice_next (by omega) hdrop hvs, drop_set_next hdrop _, ?_⟩
        rw [Int.toNat_natCast] at ho1; exact ho1
      · show r.length - (i + 1) < r.length - i
        omega
    · have hii : i = r.length := by omega
      subst hii
      rw [take_all (by omega), take_all (Nat.le_refl _)] at hvs
      refine Wc.gc 15 [0] ?_
      refine Wc.meet (ι := List U32 × (Option Addr × Nat × List Value)) (fun (s1, (o1, d1, j1)) => ([(10, .slice o1 s1.length d1), (0, .slice a la.length ca), (1, .slice b lb.length cb), (11, Go.Value.int Go.IntKind.i64 (↑e : Int)), (9, Go.Value.slice (Option.some (Go.Addr.mk b1 0 Option.none)) (List.length q) N), (5, Go.Value.slice Option.none 0 0), (4, Go.Value.slice Option.none 0 0)], [(50, o1.map (·.block), Row 63 s1 j1), (51, Option.some b1, Go.Sl.Row (α := Go.Sl.U32) 63 (q) ([]))])) (fun (s1, (o1, d1, j1)) => Digs s1 ∧ Top s1 ∧ valL s1 = 2 * valL r + c0 ∧ s1.length ≤ r.length + 1 ∧ OwnA o1 d1 s1 j1) ?_ (fun ⟨s1, (o1, d1, j1)⟩ => fun (hk : Digs s1 ∧ Top s1 ∧ valL s1 = 2 * valL r + c0 ∧ s1.length ≤ r.length + 1 ∧ OwnA o1 d1 s1 j1) => ?_)
      · by_cases hcy : 0 < c
        · have hcE : c = 1 := by omega
          subst hcE
          rw [Int.mul_one, ← hsl] at hvs
          refine Wc.gl 10 [1] ?_
          refine Wl.lit (α := U32) 52 [⟨1⟩] rfl T.sl35 T.el63 rfl rfl rfl rfl rfl (fun b2 => ?_)
          refine Wl.append (α := U32) 50 rfl T.sl35 T.el63 rfl rfl rfl (by first | assumption | exact OwnA.nil | exact OwnA.made (by simp)) (Src.row 52 rfl) (by first | omega | (simp only [List.length_append, List.length_cons, List.length_nil, maxLen]; omega)) (by first | omega | (simp only [List.length_append, List.length_cons, List.length_nil, maxLen]; omega)) (fun a1 c1 junk1 ho1 => ?_)
          refine Wl.ga 2 [] ?_
          refine Ar.meet ((s ++ [⟨1⟩], (a1, c1, junk1))) ?_ rfl ⟨rfl, rfl, rfl, rfl, rfl, rfl, rfl, trivial⟩ ⟨rfl, rfl, trivial⟩
          refine ⟨hds.append (Digs.one (by decide)), ?_, by rw [valL_snoc, Int.mul_one]; exact hvs, by rw [List.length_append, hsl]; exact Nat.le_refl _, ho1⟩
          refine .inr ?_
          rw [List.length_append, List.length_singleton, Nat.add_sub_cancel, List.getElem?_append_right (Nat.le_refl _), Nat.sub_self]
          decide
        · have hcE : c = 0 := by omega
          subst hcE
          rw [Int.mul_zero, Int.add_zero] at hvs
          refine Wc.ga 8 [0] ?_
          refine Ar.meet ((s, (o, d, j))) ?_ rfl ⟨rfl, rfl, rfl, rfl, rfl, rfl, rfl, trivial⟩ ⟨rfl, rfl, trivial⟩
          refine ⟨hds, ?_, hvs, by omega, hos⟩
          by_cases hr0 : r = []
          · left
            rw [hr0] at hsl
            exact List.eq_nil_of_length_eq_zero hsl
          · refine top_of_ge hds (fun e0 => hr0 (List.eq_nil_of_length_eq_zero (by rw [← hsl, e0]; rfl))) ?_
            have := top_ge hdr htr hr0
            have h0 := valL_nonneg hdr
            rw [hsl, hvs]; omega
      clear hvs hos hds hsl hdrop hcc0 hcc1
      obtain ⟨hd1, ht1, hv1, hsl1, ho1⟩ := hk
      have heq : e / 16 < q.length := by omega
      have hdz := dig_zero hdq heq hvq
      have hroom := dig_room hdq heq hdz
      have hdgq := dg_lt hdq heq
      refine Wc.gl 4 [] ?_
      refine Wl.callB 60 rfl T.fn112 rfl (fun Gx hGx hgx => c112 Gx _ _ _ _ s1 lb (Arr.own hgx 50 rfl ho1) (hb.up hGx) hd1 db ht1 tb (by omega) (by omega)) (fun v5 Gx5 G5 Ho5 hlx5 hp => ?_)
      obtain ⟨rfl, rfl, rfl⟩ := hp
      by_cases hge : valL lb ≤ valL s1
      · have hcmp : 0 ≤ cmpZ (valL s1) (valL lb) := by
          rcases Int.lt_or_eq_of_le hge with h | h
          · rw [cmpZ_gt h]; decide
          · rw [cmpZ_eq h.symm]; decide
        have hll := len_le_of_val hd1 db tb hge
        refine Wl.gl 8 [1] ?_
        refine Wl.callB 50 rfl T.fn158 rfl (fun Gx hGx hgx => c158 Gx _ _ _ _ s1 lb (Arr.own hgx 50 rfl ho1) (hb.up hGx) hd1 db (by omega) hll hge) (fun v7 Gx7 G7 Ho7 hlx7 hp => ?_)
        obtain ⟨mo, mc, mr, mj, rfl, hmo, rfl, rfl, hmd, hmv, hml⟩ := hp
        have hmc := hmo.le
        skip
        refine Wl.callB 70 rfl T.fn75 rfl (fun Gx hGx hgx => c75 Gx _ _ _ mr (Arr.own hgx 50 rfl hmo) (by omega) hmc) (fun v8 Gx8 G8 Ho8 hlx8 hp => ?_)
        obtain ⟨tn, rfl, htm, rfl, rfl⟩ := hp
        refine Wl.q rfl (Qy.fieldR T.fld97_1 rfl rfl) ?_
        refine Wl.gc 3 [] ?_
        refine Wc.draw [51, 50] [(50, 13), (51, 13)] T.mixed rfl ?_
        refine Gm.q 0 [] (by kernel_rfl) rfl rfl (Qy.move rfl) ?_
        refine Gm.q 1 [] (by kernel_rfl) rfl rfl (Qy.move rfl) ?_
        refine Gm.q 2 [] (by kernel_rfl) rfl rfl (Qy.quoP rfl rfl (by omega)) ?_
        refine Gm.q 3 [] (by kernel_rfl) rfl rfl (Qy.move rfl) ?_
        refine Gm.q 4 [] (by kernel_rfl) rfl rfl (Qy.move rfl) ?_
        refine Gm.q 5 [] (by kernel_rfl) rfl rfl (Qy.quoP rfl rfl (by omega)) ?_
        refine Gm.q 6 [] (by kernel_rfl) rfl rfl (Qy.indexAddrO (α := U32) T.sl35 rfl rfl (by assumption) (by omega)) ?_
        refine Gm.q 7 [51] (by kernel_rfl) rfl rfl (Qy.loadO 51 0 T.one63 rfl rfl (by assumption) (by omega) rfl rfl) ?_
        refine Gm.q 8 [] (by kernel_rfl) rfl rfl (Qy.move rfl) ?_
        refine Gm.q 9 [] (by kernel_rfl) rfl rfl (Qy.urem rfl rfl (by omega)) ?_
        refine Gm.q 10 [] (by kernel_rfl) rfl rfl (Qy.shl rfl rfl (by omega)) ?_
        refine Gm.q 11 [] (by kernel_rfl) rfl rfl (Qy.orW rfl rfl) ?_
        refine Gm.q 12 [] (by kernel_rfl) rfl rfl (Qy.indexAddrO (α := U32) T.sl35 rfl rfl (by assumption) (by omega)) ?_
        refine Gm.one 13 ⟨rfl, rfl, trivial⟩ (by first | exact Imm.le_refl _ | assumption) (by kernel_rfl) rfl ?_
        refine Wl.setO (z := _) 51 T.size63 rfl rfl rfl (by assumption) (by omega) rfl (fun ho2 => ?_)
        refine Wl.on0 ?_
        refine Gm.doneA (by kernel_rfl) trivial (by first | exact Imm.le_refl _ | assumption) ?_
        refine Ar.ga 7 [] ?_
        refine Ar.reH 51 (Row 63 (q.set (e / 16) ⟨dg q (e / 16) + p2 (e % 16)⟩) []) rfl ?_ ?_
        · show Row 63 (q.set ((e : Int) / 16).toNat ⟨bits BinOp.or IntKind.u32 (q[((e : Int) / 16).toNat]?.getD default).v (IntKind.u32.wrap (1 * 2 ^ min ((e : Int) % 16).toNat IntKind.u32.bits))⟩) [] = _
          rw [or_dig hdgq hdz, show ((e : Int) / 16).toNat = e / 16 by omega]
        refine Ar.reH 50 (Row 63 (mr.take tn) (flat (mr.drop tn) ++ mj)) rfl (row_take 63 mr mj tn) ?_
        refine Ar.re 10 rfl (show _ = Value.slice mo (mr.take tn).length mc by rw [subA_zero_own hmo, htm.len]; rfl) ?_
        refine Ar.re 9 rfl (show _ = Value.slice (some ⟨b1, 0, none⟩) (q.set (e / 16) ⟨dg q (e / 16) + p2 (e % 16)⟩).length N by rw [List.length_set]) ?_
        refine Ar.again ((e, 2 * Q + 1, q.set (e / 16) ⟨dg q (e / 16) + p2 (e % 16)⟩, mr.take tn, (mo, mc, flat (mr.drop tn) ++ mj))) ?_ ?_ rfl ⟨rfl, rfl, rfl, rfl, rfl, rfl, rfl, trivial⟩ ⟨rfl, rfl, trivial⟩
        · have hvm := htm.val
          have hlt : valL (mr.take tn) < valL lb := by rw [hvm, hmv]; omega
          refine ⟨by omega, by rw [List.length_set]; exact hqN, digs_set hdq _ hroom, hmd.take _, htm.top, long_yes heq hvq, ?_, hlt, len_le_of_val db (hmd.take _) htm.top (Int.le_of_lt hlt), own_take hmo tn⟩
          rw [hhb, hva, hvm, hmv, hv1, Int.add_mul, Int.one_mul, Int.mul_add, ← Int.mul_assoc]; omega
        · show e < e + 1
          omega
      · have hcmp : ¬ 0 ≤ cmpZ (valL s1) (valL lb) := by rw [cmpZ_lt (by omega)]; decide
        have hll : s1.length ≤ lb.length := len_le_of_val db hd1 ht1 (by omega)
        refine Wl.ga 12 [0] ?_
        refine Ar.again ((e, 2 * Q, q, s1, (o1, d1, j1))) ?_ ?_ rfl ⟨rfl, rfl, rfl, rfl, rfl, rfl, rfl, trivial⟩ ⟨rfl, rfl, trivial⟩
        · refine ⟨by omega, hqN, hdq, hd1, ht1, ?_, ?_, by omega, hll, ho1⟩
          · rw [hvq, p2_succ, Int.mul_left_comm (p2 e) 2 Q, Int.mul_assoc]
          · rw [hhb, hva, Int.mul_add, ← Int.mul_assoc, hv1]; omega
        · show e < e + 1
          omega
end Go.Proofs.YtelbhbbiejalhaaGreat
