/- Parts of the proof (part 5): what the rows' text needs of the texts that lead to it. -/
import Derived.Test.YtbppmiimeccclaaGreatMKd
set_option maxRecDepth 100000
set_option linter.unusedVariables false
namespace Go.Proofs.YtbppmiimeccclaaGreat
open Go Go.Sl
def near (a b : Int) : Prop := -16 ≤ a ∧ a ≤ 16 ∧ -16 ≤ b ∧ b ≤ 16
instance (a b : Int) : Decidable (near a b) := inferInstanceAs (Decidable (_ ∧ _))
theorem c126 (G : Imm) (n : Int) : Does Tryz.prog 126 [.int .i64 n] G [] (fun v G' Ho => v = .bool (decide (-16 ≤ n ∧ n ≤ 16)) ∧ G' = G ∧ Ho = []) := by
  refine Does.enter Tryz.func126 rfl Tryz.ntmps126 rfl (fun w => ?_)
  refine Wc.gl 10 [] ?_
  apply Wl.joinAnd 3 5 8 rfl
  intro hg1
  refine Wl.ll0 5 [] ?_
  exact Wl.back 3 0 rfl rfl rfl rfl rfl
  intro hg1
  refine Wl.ll0 3 [] ?_
  exact Wl.back 3 0 rfl rfl rfl rfl rfl
  refine Wl.ga 4 [] ?_
  refine Ar.out1 (.inr rfl) (Ho := Hp.only _ []) rfl (.tmp rfl) (Hp.sub_only _ _) ?_
  exact ⟨rfl, rfl, rfl⟩
theorem c186 (G : Imm) (n : Int) (h : -9223372036854775807 ≤ n) : Does Tryz.prog 186 [.int .i64 n] G [] (fun v G' Ho => v = .int .i64 (n.natAbs : Int) ∧ G' = G ∧ Ho = []) := by
  refine Does.enter Tryz.func186 rfl Tryz.ntmps186 rfl (fun w => ?_)
  refine Wc.gc 12 [] ?_
  refine Wc.cond rfl (fun hc1 => ?_) (fun hc1 => ?_)
  refine Wc.gl 3 [] ?_
  refine Wl.q rfl (Qy.neg rfl (by omega)) ?_
  refine Wl.ga 5 [] ?_
  refine Ar.out1 (.inr rfl) (Ho := Hp.only _ []) rfl (.tmp rfl) (Hp.sub_only _ _) ?_
  rotate_left
  refine Wc.ga 9 [] ?_
  refine Ar.out1 (.inr rfl) (Ho := Hp.only _ []) rfl (.tmp rfl) (Hp.sub_only _ _) ?_
  rotate_left
  · exact ⟨by congr 1; omega, rfl, rfl⟩
  · exact ⟨by congr 1; omega, rfl, rfl⟩
theorem c139 (G : Imm) (a b : Int) (h1 : -4611686018427387904 ≤ a ∧ a ≤ 4611686018427387904) (h2 : -4611686018427387904 ≤ b ∧ b ≤ 4611686018427387904) : Does Tryz.prog 139 [.int .i64 a, .int .i64 b] G [] (fun v G' Ho => v = .int .i64 (Int.gcd a b : Int) ∧ G' = G ∧ Ho = []) := by
  refine Does.enter Tryz.func139 rfl Tryz.ntmps139 rfl (fun w => ?_)
  refine Wc.gc 7 [] ?_
  refine Wc.loop (ι := Int × Int) (fun (x, y) => ([(0, .int .i64 x), (1, .int .i64 y), (4, Go.Value.int Go.IntKind.i64 0)], [])) (fun (x, y) => Int.gcd x y = Int.gcd a b ∧ (-4611686018427387904 ≤ x ∧ x ≤ 4611686018427387904) ∧ (-4611686018427387904 ≤ y ∧ y ≤ 4611686018427387904)) (fun (x, y) => y.natAbs) ((a, b)) (⟨rfl, h1, h2⟩) ⟨rfl, rfl, rfl, trivial⟩ trivial (fun ⟨x, y⟩ => fun (hk : Int.gcd x y = Int.gcd a b ∧ (-4611686018427387904 ≤ x ∧ x ≤ 4611686018427387904) ∧ (-4611686018427387904 ≤ y ∧ y ≤ 4611686018427387904)) => ?_)
  obtain ⟨hg, hx, hy⟩ := hk
  refine Wc.gc 7 [] ?_
  refine Wc.cond rfl (fun hc1 => ?_) (fun hc1 => ?_)
  refine Wc.gc 3 [] ?_
  refine Wc.draw [] [] T.mixed rfl ?_
  refine Gm.q 0 [] (by kernel_rfl) rfl rfl (Qy.move rfl) ?_
  refine Gm.q 1 [] (by kernel_rfl) rfl rfl (Qy.move rfl) ?_
  refine Gm.q 2 [] (by kernel_rfl) rfl rfl (Qy.move rfl) ?_
  refine Gm.q 3 [] (by kernel_rfl) rfl rfl (Qy.rem rfl rfl (by omega)) ?_
  refine Gm.q 4 [] (by kernel_rfl) rfl rfl (Qy.assign rfl) ?_
  refine Gm.q 5 [] (by kernel_rfl) rfl rfl (Qy.assign rfl) ?_
  refine Gm.doneA (by kernel_rfl) trivial (by first | exact Imm.le_refl _ | assumption | (refine Imm.le_trans ?_ (by assumption); first | assumption | (refine Imm.le_trans ?_ (by assumption); assumption))) ?_
  refine Ar.outNormal ?_
  rotate_left
  refine Wc.gl 8 [] ?_
  refine Wl.call0 rfl T.fn186 rfl (c186 _ _ (by omega)) ?_
  refine Wl.ga 4 [] ?_
  refine Ar.out1 (.inr rfl) (Ho := Hp.only _ []) rfl (.tmp rfl) (Hp.sub_only _ _) ?_
  rotate_left
  · have e := Int.natAbs_tmod x y
    have hyp : 0 < y.natAbs := by omega
    have e2 := Nat.mod_lt x.natAbs hyp
    have e3 := Nat.mod_le x.natAbs y.natAbs
    refine Ar.again ((y, x.tmod y)) ?_ ?_ rfl ⟨rfl, rfl, rfl, trivial⟩ trivial
    · refine ⟨?_, hy, by omega⟩
      rw [← hg]
      show Nat.gcd y.natAbs (x.tmod y).natAbs = Nat.gcd x.natAbs y.natAbs
      rw [e, Nat.gcd_comm, ← Nat.gcd_rec, Nat.gcd_comm]
    · show (x.tmod y).natAbs < y.natAbs
      omega
  · refine ⟨?_, rfl, rfl⟩
    rw [← hg]
    have e : y = 0 := by omega
    subst e
    rw [Int.gcd_zero_right]
theorem c72 (G : Imm) (a b : Int) : Does Tryz.prog 72 [.agg #[.int .i64 a, .int .i64 b]] G [] (fun v G' Ho => v = .bool (decide (near a b)) ∧ G' = G ∧ Ho = []) := by
  refine Does.enter Tryz.func72 rfl Tryz.ntmps72 rfl (fun w => ?_)
  refine Wc.gl 2 [] ?_
  refine Wl.box 0 rfl rfl rfl (fun b1 => ?_)
  refine Wl.gl 7 [0] ?_
  refine Wl.call0 rfl T.fn126 rfl (by apply c126 <;> first | assumption | omega | rfl) ?_
  refine Wl.q rfl (Qy.move rfl) ?_
  apply Wl.joinAnd 4 6 10 rfl
  intro hg1
  refine Wl.ll0 5 [0] ?_
  refine Wl.call0 rfl T.fn126 rfl (by apply c126 <;> first | assumption | omega | rfl) ?_
  refine Wl.q rfl (Qy.pick rfl rfl) ?_
  exact Wl.back 4 0 rfl rfl rfl rfl rfl
  intro hg1
  refine Wl.ll0 4 [] ?_
  exact Wl.back 4 0 rfl rfl rfl rfl rfl
  refine Wl.ga 4 [] ?_
  refine Ar.out1 (.inr rfl) (Ho := Hp.only _ []) rfl (.tmp rfl) (Hp.sub_only _ _) ?_
  exact ⟨by congr 1; exact decide_eq_decide.mpr (by unfold near; omega), rfl, rfl⟩
theorem c73 (G : Imm) (a b : Int) : Does Tryz.prog 73 [.agg #[.int .i64 a, .int .i64 b]] G [] (fun v G' Ho => v = .bool (decide (a = 0 ∧ b = 0)) ∧ G' = G ∧ Ho = []) := by
  refine Does.enter Tryz.func73 rfl Tryz.ntmps73 rfl (fun w => ?_)
  refine Wc.gl 2 [] ?_
  refine Wl.box 0 rfl rfl rfl (fun b1 => ?_)
  refine Wl.gl 6 [0] ?_
  refine Wl.q rfl (Qy.build (cs := [_, _]) T.st59 rfl rfl rfl) ?_
  refine Wl.q rfl (Qy.eqlI [_, _] [_, _] T.ai59 rfl rfl rfl rfl) ?_
  refine Wl.ga 4 [] ?_
  refine Ar.out1 (.inr rfl) (Ho := Hp.only _ []) rfl (.tmp rfl) (Hp.sub_only _ _) ?_
  exact ⟨by congr 1; exact decide_eq_decide.mpr (by simp), rfl, rfl⟩
theorem c30 (G : Imm) (a b : Int) : Does Tryz.prog 30 [.agg #[.int .i64 a, .int .i64 b]] G [] (fun v G' Ho => v = .bool (decide (near a b)) ∧ G' = G ∧ Ho = []) := by
  refine Does.enter Tryz.func30 rfl Tryz.ntmps30 rfl (fun w => ?_)
  refine Wc.gl 2 [] ?_
  refine Wl.box 0 rfl rfl rfl (fun b1 => ?_)
  refine Wl.gl 9 [0] ?_
  apply Wl.joinAnd 4 6 10 rfl
  intro hg1
  refine Wl.ll0 7 [0] ?_
  exact Wl.back 4 0 rfl rfl rfl rfl rfl
  intro hg1
  refine Wl.ll0 4 [] ?_
  exact Wl.back 4 0 rfl rfl rfl rfl rfl
  refine Wl.q rfl (Qy.move rfl) ?_
  apply Wl.joinAnd 4 11 15 rfl
  intro hg1
  refine Wl.ll0 7 [0] ?_
  exact Wl.back 4 0 rfl rfl rfl rfl rfl
  intro hg1
  refine Wl.ll0 4 [] ?_
  exact Wl.back 4 0 rfl rfl rfl rfl rfl
  refine Wl.q rfl (Qy.move rfl) ?_
  apply Wl.joinAnd 4 16 20 rfl
  intro hg1
  refine Wl.ll0 7 [0] ?_
  exact Wl.back 4 0 rfl rfl rfl rfl rfl
  intro hg1
  refine Wl.ll0 4 [] ?_
  exact Wl.back 4 0 rfl rfl rfl rfl rfl
  refine Wl.ga 4 [] ?_
  refine Ar.out1 (.inr rfl) (Ho := Hp.only _ []) rfl (.tmp rfl) (Hp.sub_only _ _) ?_
  exact ⟨by congr 1; exact decide_eq_decide.mpr (by unfold near; omega), rfl, rfl⟩
theorem c31 (G : Imm) (a b : Int) : Does Tryz.prog 31 [.agg #[.int .i64 a, .int .i64 b]] G [] (fun v G' Ho => v = .bool (decide (a = 0 ∧ b = 0)) ∧ G' = G ∧ Ho = []) := by
  refine Does.enter Tryz.func31 rfl Tryz.ntmps31 rfl (fun w => ?_)
  refine Wc.gl 2 [] ?_
  refine Wl.box 0 rfl rfl rfl (fun b1 => ?_)
  refine Wl.gl 9 [0] ?_
  apply Wl.joinAnd 4 6 10 rfl
  intro hg1
  refine Wl.ll0 7 [0] ?_
  exact Wl.back 4 0 rfl rfl rfl rfl rfl
  intro hg1
  refine Wl.ll0 4 [] ?_
  exact Wl.back 4 0 rfl rfl rfl rfl rfl
  refine Wl.ga 4 [] ?_
  refine Ar.out1 (.inr rfl) (Ho := Hp.only _ []) rfl (.tmp rfl) (Hp.sub_only _ _) ?_
  exact ⟨rfl, rfl, rfl⟩
def normG (a b : Int) : Int := if b < 0 ∨ (b = 0 ∧ a < 0) then -(Int.gcd a b : Int) else (Int.gcd a b : Int)
def nrm (a b : Int) : Int × Int := if a = 0 ∧ b = 0 then (a, b) else (a.tdiv (normG a b), b.tdiv (normG a b))
theorem tdiv_rng (a g : Int) : -(a.natAbs : Int) ≤ a.tdiv g ∧ a.tdiv g ≤ a.natAbs := by
  have h : (a.tdiv g).natAbs = a.natAbs / g.natAbs := Int.natAbs_tdiv a g
  have h2 := Nat.div_le_self a.natAbs g.natAbs
  omega
theorem c182 (G : Imm) (a b : Int) (h1 : -4611686018427387904 ≤ a ∧ a ≤ 4611686018427387904) (h2 : -4611686018427387904 ≤ b ∧ b ≤ 4611686018427387904) : Does Tryz.prog 182 [.agg #[.int .i64 a, .int .i64 b]] G [] (fun v G' Ho => v = .agg #[.int .i64 (nrm a b).1, .int .i64 (nrm a b).2] ∧ G' = G ∧ Ho = []) := by
  refine Does.enter Tryz.func182 rfl Tryz.ntmps182 rfl (fun w => ?_)
  have hga := Int.gcd_dvd_left a b
  have hgb := Int.gcd_dvd_right a b
  have hgm : (Int.gcd a b : Int) ≤ 4611686018427387904 := by
    by_cases h : a = 0
    · subst h; rw [Int.gcd_zero_left]; omega
    · have := Int.le_of_dvd (show 0 < (a.natAbs : Int) by omega) (Int.dvd_natAbs.mpr hga); omega
  have q1 := tdiv_rng a (Int.gcd a b : Int)
  have q2 := tdiv_rng b (Int.gcd a b : Int)
  have q3 := tdiv_rng a (-(Int.gcd a b : Int))
  have q4 := tdiv_rng b (-(Int.gcd a b : Int))
  refine Wc.gl 2 [] ?_
  refine Wl.box 0 rfl rfl rfl (fun b1 => ?_)
  refine Wl.alloc 1 rfl T.zero59 (fun b2 => ?_)
  refine Wl.gl 8 [0, 0] ?_
  refine Wl.call0 rfl T.fn139 rfl (c139 _ _ _ (by omega) (by omega)) ?_
  refine Wl.gc 12 [] ?_
  refine Wc.cond rfl (fun hc1 => ?_) (fun hc1 => ?_)
  refine Wc.ga 9 [0, 1] ?_
  refine Ar.out1 (.inr rfl) (Ho := Hp.only _ []) rfl (.agg 1 rfl rfl T.agg59) (Hp.sub_only _ _) ?_
  rotate_left
  refine Wc.gc 9 [0] ?_
  refine Wc.cond rfl (fun hc2 => ?_) (fun hc2 => ?_)
  refine Wc.gl 5 [1] ?_
  refine Wl.q rfl (Qy.neg rfl (by omega)) ?_
  refine Wl.gc 5 [] ?_
  refine Wc.draw [0, 1] [(1, 9)] T.mixed rfl ?_
  refine Gm.q 0 [] (by kernel_rfl) rfl rfl (Qy.fieldAddr T.fa59_0 rfl) ?_
  refine Gm.q 1 [0] (by kernel_rfl) rfl rfl (Qy.load 0 T.one3 rfl rfl rfl) ?_
  refine Gm.q 2 [] (by kernel_rfl) rfl rfl (Qy.move rfl) ?_
  refine Gm.q 3 [] (by kernel_rfl) rfl rfl (Qy.quo rfl rfl (by omega) (by omega)) ?_
  refine Gm.q 4 [] (by kernel_rfl) rfl rfl (Qy.fieldAddr T.fa59_1 rfl) ?_
  refine Gm.q 5 [0] (by kernel_rfl) rfl rfl (Qy.load 0 T.one3 rfl rfl rfl) ?_
  refine Gm.q 6 [] (by kernel_rfl) rfl rfl (Qy.move rfl) ?_
  refine Gm.q 7 [] (by kernel_rfl) rfl rfl (Qy.quo rfl rfl (by omega) (by omega)) ?_
  refine Gm.q 8 [] (by kernel_rfl) rfl rfl (Qy.build (cs := [_, _]) T.st59 rfl rfl rfl) ?_
  refine Gm.one 9 ⟨rfl, rfl, trivial⟩ (by first | exact Imm.le_refl _ | assumption | (refine Imm.le_trans ?_ (by assumption); first | assumption | (refine Imm.le_trans ?_ (by assumption); assumption))) (by kernel_rfl) rfl ?_
  refine Wl.storeAll 1 T.size59 rfl rfl rfl rfl rfl rfl ?_
  refine Wl.on0 ?_
  refine Gm.doneA (by kernel_rfl) ⟨rfl, trivial⟩ (by first | exact Imm.le_refl _ | assumption | (refine Imm.le_trans ?_ (by assumption); first | assumption | (refine Imm.le_trans ?_ (by assumption); assumption))) ?_
  refine Ar.ga 2 [] ?_
  refine Ar.out1 (.inr rfl) (Ho := Hp.only _ []) rfl (.agg 1 rfl rfl T.agg59) (Hp.sub_only _ _) ?_
  rotate_left
  refine Wc.gl 5 [0] ?_
  apply Wl.joinAnd 4 20 24 rfl
  intro hg1
  refine Wl.ll0 7 [0] ?_
  exact Wl.back 4 0 rfl rfl rfl rfl rfl
  intro hg1
  refine Wl.ll0 4 [] ?_
  exact Wl.back 4 0 rfl rfl rfl rfl rfl
  refine Wl.gc 3 [] ?_
  refine Wc.cond rfl (fun hc3 => ?_) (fun hc3 => ?_)
  refine Wc.gl 2 [] ?_
  refine Wl.q rfl (Qy.neg rfl (by omega)) ?_
  refine Wl.gc 5 [] ?_
  refine Wc.draw [0, 1] [(1, 9)] T.mixed rfl ?_
  refine Gm.q 0 [] (by kernel_rfl) rfl rfl (Qy.fieldAddr T.fa59_0 rfl) ?_
  refine Gm.q 1 [0] (by kernel_rfl) rfl rfl (Qy.load 0 T.one3 rfl rfl rfl) ?_
  refine Gm.q 2 [] (by kernel_rfl) rfl rfl (Qy.move rfl) ?_
  refine Gm.q 3 [] (by kernel_rfl) rfl rfl (Qy.quo rfl rfl (by omega) (by omega)) ?_
  refine Gm.q 4 [] (by kernel_rfl) rfl rfl (Qy.fieldAddr T.fa59_1 rfl) ?_
  refine Gm.q 5 [0] (by kernel_rfl) rfl rfl (Qy.load 0 T.one3 rfl rfl rfl) ?_
  refine Gm.q 6 [] (by kernel_rfl) rfl rfl (Qy.move rfl) ?_
  refine Gm.q 7 [] (by kernel_rfl) rfl rfl (Qy.quo rfl rfl (by omega) (by omega)) ?_
  refine Gm.q 8 [] (by kernel_rfl) rfl rfl (Qy.build (cs := [_, _]) T.st59 rfl rfl rfl) ?_
  refine Gm.one 9 ⟨rfl, rfl, trivial⟩ (by first | exact Imm.le_refl _ | assumption | (refine Imm.le_trans ?_ (by assumption); first | assumption | (refine Imm.le_trans ?_ (by assumption); assumption))) (by kernel_rfl) rfl ?_
  refine Wl.storeAll 1 T.size59 rfl rfl rfl rfl rfl rfl ?_
  refine Wl.on0 ?_
  refine Gm.doneA (by kernel_rfl) ⟨rfl, trivial⟩ (by first | exact Imm.le_refl _ | assumption | (refine Imm.le_trans ?_ (by assumption); first | assumption | (refine Imm.le_trans ?_ (by assumption); assumption))) ?_
  refine Ar.ga 2 [] ?_
  refine Ar.out1 (.inr rfl) (Ho := Hp.only _ []) rfl (.agg 1 rfl rfl T.agg59) (Hp.sub_only _ _) ?_
  rotate_left
  refine Wc.gc 4 [] ?_
  refine Wc.draw [0, 1] [(1, 9)] T.mixed rfl ?_
  refine Gm.q 0 [] (by kernel_rfl) rfl rfl (Qy.fieldAddr T.fa59_0 rfl) ?_
  refine Gm.q 1 [0] (by kernel_rfl) rfl rfl (Qy.load 0 T.one3 rfl rfl rfl) ?_
  refine Gm.q 2 [] (by kernel_rfl) rfl rfl (Qy.move rfl) ?_
  refine Gm.q 3 [] (by kernel_rfl) rfl rfl (Qy.quo rfl rfl (by omega) (by omega)) ?_
  refine Gm.q 4 [] (by kernel_rfl) rfl rfl (Qy.fieldAddr T.fa59_1 rfl) ?_
  refine Gm.q 5 [0] (by kernel_rfl) rfl rfl (Qy.load 0 T.one3 rfl rfl rfl) ?_
  refine Gm.q 6 [] (by kernel_rfl) rfl rfl (Qy.move rfl) ?_
  refine Gm.q 7 [] (by kernel_rfl) rfl rfl (Qy.quoP rfl rfl (by omega)) ?_
  refine Gm.q 8 [] (by kernel_rfl) rfl rfl (Qy.build (cs := [_, _]) T.st59 rfl rfl rfl) ?_
  refine Gm.one 9 ⟨rfl, rfl, trivial⟩ (by first | exact Imm.le_refl _ | assumption | (refine Imm.le_trans ?_ (by assumption); first | assumption | (refine Imm.le_trans ?_ (by assumption); assumption))) (by kernel_rfl) rfl ?_
  refine Wl.storeAll 1 T.size59 rfl rfl rfl rfl rfl rfl ?_
  refine Wl.on0 ?_
  refine Gm.doneA (by kernel_rfl) ⟨rfl, trivial⟩ (by first | exact Imm.le_refl _ | assumption | (refine Imm.le_trans ?_ (by assumption); first | assumption | (refine Imm.le_trans ?_ (by assumption); assumption))) ?_
  refine Ar.ga 2 [] ?_
  refine Ar.out1 (.inr rfl) (Ho := Hp.only _ []) rfl (.agg 1 rfl rfl T.agg59) (Hp.sub_only _ _) ?_
  rotate_left
  · obtain ⟨ea, eb⟩ := Int.gcd_eq_zero_iff.mp (show Int.gcd a b = 0 by omega)
    exact ⟨by unfold nrm; rw [if_pos ⟨ea, eb⟩], rfl, rfl⟩
  · have hn : ¬(a = 0 ∧ b = 0) := by omega
    exact ⟨by unfold nrm normG; rw [if_neg hn, if_pos (by omega)], rfl, rfl⟩
  · have hn : ¬(a = 0 ∧ b = 0) := by omega
    exact ⟨by unfold nrm normG; rw [if_neg hn, if_pos (by omega)], rfl, rfl⟩
  · have hn : ¬(a = 0 ∧ b = 0) := fun h => hc1 (by rw [h.1, h.2]; rfl)
    exact ⟨by unfold nrm normG; rw [if_neg hn, if_neg (by omega), Int.tdiv_eq_ediv_of_nonneg (a := b) (by omega)], rfl, rfl⟩
def same (a b c d : Int) : Prop := nrm a b = nrm c d
instance (a b c d : Int) : Decidable (same a b c d) := inferInstanceAs (Decidable (_ = _))
theorem c127 (G : Imm) (a b c d : Int) : Does Tryz.prog 127 [.agg #[.int .i64 a, .int .i64 b], .agg #[.int .i64 c, .int .i64 d]] G [] (fun v G' Ho => v = .tuple #[.bool (decide (near a b ∧ near c d ∧ same a b c d)), .int .i64 (if near a b ∧ near c d then 0 else 2)] ∧ G' = G ∧ Ho = []) := by
  refine Does.enter Tryz.func127 rfl Tryz.ntmps127 rfl (fun w => ?_)
  refine Wc.gl 2 [] ?_
  refine Wl.box 0 rfl rfl rfl (fun b1 => ?_)
  refine Wl.box 1 rfl rfl rfl (fun b2 => ?_)
  refine Wl.gl 8 [0] ?_
  refine Wl.call0 rfl T.fn72 rfl (by apply c72 <;> first | assumption | omega | rfl) ?_
  refine Wl.q rfl (Qy.notD rfl) ?_
  refine Wl.q rfl (Qy.move rfl) ?_
  apply Wl.joinOr 4 9 13 rfl
  intro hg1
  refine Wl.ll0 3 [1] ?_
  refine Wl.call0 rfl T.fn72 rfl (by apply c72 <;> first | assumption | omega | rfl) ?_
  refine Wl.want rfl rfl ?_
  refine Wl.q rfl (Qy.notD rfl) ?_
  refine Wl.q rfl (Qy.pick rfl rfl) ?_
  exact Wl.back 4 0 rfl rfl rfl rfl rfl
  intro hg1
  refine Wl.ll0 4 [] ?_
  exact Wl.back 4 0 rfl rfl rfl rfl rfl
  refine Wl.gc 2 [] ?_
  refine Wc.cond rfl (fun hc1 => ?_) (fun hc1 => ?_)
  refine Wc.ga 8 [] ?_
  refine Ar.out2 (.inr rfl) (Ho := Hp.only _ []) rfl (.tmp rfl) (.tmp rfl) (Hp.sub_only _ _) ?_
  rotate_left
  refine Wc.gc 3 [] ?_
  refine Wc.draw [0, 1] [] T.mixed rfl ?_
  refine Gm.q 0 [0] (by kernel_rfl) rfl rfl (Qy.loadAll 0 T.agg59 rfl rfl rfl) ?_
  refine Gm.q 2 [1] (by kernel_rfl) rfl rfl (Qy.loadAll 1 T.agg59 rfl rfl rfl) ?_
  refine Gm.one 1 ⟨rfl, rfl, trivial⟩ (by first | exact Imm.le_refl _ | assumption | (refine Imm.le_trans ?_ (by assumption); first | assumption | (refine Imm.le_trans ?_ (by assumption); assumption))) (by kernel_rfl) rfl ?_
  refine Wl.call0 rfl T.fn182 rfl (c182 _ _ _ (by unfold near at *; omega) (by unfold near at *; omega)) ?_
  refine Wl.on0 ?_
  refine Gm.one 3 ⟨rfl, rfl, trivial⟩ (by first | exact Imm.le_refl _ | assumption | (refine Imm.le_trans ?_ (by assumption); first | assumption | (refine Imm.le_trans ?_ (by assumption); assumption))) (by kernel_rfl) rfl ?_
  refine Wl.call0 rfl T.fn182 rfl (c182 _ _ _ (by unfold near at *; omega) (by unfold near at *; omega)) ?_
  refine Wl.on0 ?_
  refine Gm.q 4 [] (by kernel_rfl) rfl rfl (Qy.eqlI [_, _] [_, _] T.ai59 rfl rfl rfl rfl) ?_
  refine Gm.q 5 [] (by kernel_rfl) rfl rfl (Qy.assign rfl) ?_
  refine Gm.q 6 [] (by kernel_rfl) rfl rfl (Qy.assign rfl) ?_
  refine Gm.doneA (by kernel_rfl) ⟨rfl, rfl, trivial⟩ (by first | exact Imm.le_refl _ | assumption | (refine Imm.le_trans ?_ (by assumption); first | assumption | (refine Imm.le_trans ?_ (by assumption); assumption))) ?_
  refine Ar.ga 2 [] ?_
  refine Ar.out2 (.inr rfl) (Ho := Hp.only _ []) rfl (.tmp rfl) (.tmp rfl) (Hp.sub_only _ _) ?_
  rotate_left
  · exact ⟨by rw [if_neg (by unfold near at *; omega), decide_eq_false (fun h => absurd (And.intro h.1 h.2.1) (by unfold near at *; omega))], rfl, rfl⟩
  · refine ⟨?_, rfl, rfl⟩
    rw [if_pos (by unfold near at *; omega)]
    congr 4
    exact decide_eq_decide.mpr (by unfold same near at *; rw [Prod.ext_iff]; simp; omega)
theorem mul_rng {a b c d : Int} (h : near a b) (k : near c d) : -256 ≤ a * d ∧ a * d ≤ 256 := by
  unfold near at *
  have h1 : (a * d).natAbs ≤ 16 * 16 := by rw [Int.natAbs_mul]; exact Nat.mul_le_mul (by omega) (by omega)
  omega
theorem c141 (G : Imm) (a b c d : Int) : Does Tryz.prog 141 [.agg #[.int .i64 a, .int .i64 b], .agg #[.int .i64 c, .int .i64 d]] G [] (fun v G' Ho => v = .tuple #[.int .i64 (if near a b ∧ near c d then a * d - c * b else 0), .int .i64 (if near a b ∧ near c d then 0 else 2)] ∧ G' = G ∧ Ho = []) := by
  refine Does.enter Tryz.func141 rfl Tryz.ntmps141 rfl (fun w => ?_)
  refine Wc.gl 2 [] ?_
  refine Wl.box 0 rfl rfl rfl (fun b1 => ?_)
  refine Wl.box 1 rfl rfl rfl (fun b2 => ?_)
  refine Wl.gl 8 [0] ?_
  refine Wl.call0 rfl T.fn72 rfl (by apply c72 <;> first | assumption | omega | rfl) ?_
  refine Wl.q rfl (Qy.notD rfl) ?_
  refine Wl.q rfl (Qy.move rfl) ?_
  apply Wl.joinOr 4 9 13 rfl
  intro hg1
  refine Wl.ll0 3 [1] ?_
  refine Wl.call0 rfl T.fn72 rfl (by apply c72 <;> first | assumption | omega | rfl) ?_
  refine Wl.want rfl rfl ?_
  refine Wl.q rfl (Qy.notD rfl) ?_
  refine Wl.q rfl (Qy.pick rfl rfl) ?_
  exact Wl.back 4 0 rfl rfl rfl rfl rfl
  intro hg1
  refine Wl.ll0 4 [] ?_
  exact Wl.back 4 0 rfl rfl rfl rfl rfl
  refine Wl.gc 2 [] ?_
  refine Wc.cond rfl (fun hc1 => ?_) (fun hc1 => ?_)
  refine Wc.ga 8 [] ?_
  refine Ar.out2 (.inr rfl) (Ho := Hp.only _ []) rfl (.tmp rfl) (.tmp rfl) (Hp.sub_only _ _) ?_
  rotate_left
  refine Wc.gl 8 [0, 1] ?_
  refine Wl.q rfl (Qy.mulW rfl rfl) ?_
  refine Wl.ll0 4 [1, 0] ?_
  refine Wl.q rfl (Qy.mulW rfl rfl) ?_
  refine Wl.q rfl (Qy.subW rfl rfl) ?_
  refine Wl.ga 5 [] ?_
  refine Ar.out2 (.inr rfl) (Ho := Hp.only _ []) rfl (.tmp rfl) (.tmp rfl) (Hp.sub_only _ _) ?_
  rotate_left
  · exact ⟨by rw [if_neg (by unfold near at *; omega), if_neg (by unfold near at *; omega)], rfl, rfl⟩
  · have hn : near a b ∧ near c d := by unfold near at *; omega
    have m1 := mul_rng hn.1 hn.2
    have m2 := mul_rng hn.2 hn.1
    exact ⟨by rw [if_pos hn, if_pos hn, IntWalk.i64_in (a * d) (by omega), IntWalk.i64_in (c * b) (by omega), IntWalk.i64_in _ (by omega)], rfl, rfl⟩
end Go.Proofs.YtbppmiimeccclaaGreat
set_option maxRecDepth 100000
set_option linter.unusedVariables false
namespace Go.Proofs.YtbppmiimeccclaaGreat
open Go Go.Sl
def alikeP (p q : R2) : Prop := near p.a p.b ∧ near q.a q.b ∧ same p.a p.b q.a q.b
def Twin (l : List R2) : Prop := ∃ j, j < l.length ∧ ∃ i, i < j ∧ alikeP (l[i]?.getD default) (l[j]?.getD default)
theorem c74 (G : Imm) (a : Option Addr) (c : Nat) (l : List R2) (ha : Arr G a l) (h1 : l.length ≤ 1048576) (hc : l.length ≤ c) : Does Tryz.prog 74 [.slice a l.length c] G [] (fun v G' Ho => ∃ (i j : Int) (b : Bool), v = .tuple #[.int .i64 i, .int .i64 j, .bool b] ∧ (b = true ↔ Twin l) ∧ G' = G ∧ Ho = []) := by
  refine Does.enter Tryz.func74 rfl Tryz.ntmps74 rfl (fun w => ?_)
  refine Wc.gc 16 [] ?_
  refine Wc.loop (ι := Nat) (fun j => ([(13, .int .i64 (j : Int)), (12, Go.Value.int Go.IntKind.i64 (↑(List.length l) : Int)), (11, Go.Value.slice a (List.length l) c), (0, Go.Value.slice a (List.length l) c)], [])) (fun j => j ≤ l.length ∧ (∀ j', j' < j → ∀ i, i < j' → ¬ alikeP (l[i]?.getD default) (l[j']?.getD default))) (fun j => l.length - j) (0) (⟨Nat.zero_le _, fun j' h => absurd h (by omega)⟩) ⟨rfl, rfl, rfl, rfl, trivial⟩ trivial (fun j => fun (hk : j ≤ l.length ∧ (∀ j', j' < j → ∀ i, i < j' → ¬ alikeP (l[i]?.getD default) (l[j']?.getD default))) => ?_)
  obtain ⟨hj, hno⟩ := hk
  refine Wc.gc 6 [] ?_
  refine Wc.cond rfl (fun hc1 => ?_) (fun hc1 => ?_)
  refine Wc.gl 7 [] ?_
  refine Wl.q rfl (Qy.at (α := R2) T.sl26 rfl rfl (by assumption) (by omega)) ?_
  refine Wl.q rfl (Qy.loadsG T.agg59 rfl (Arr.elem (by assumption) (by omega)) rfl) ?_
  refine Wl.alloc 0 rfl T.zero59 (fun b1 => ?_)
  refine Wl.gl 8 [0] ?_
  refine Wl.q rfl (Qy.cutH T.sl26 rfl rfl (by omega)) ?_
  refine Wl.gc 5 [] ?_
  rotate_left
  refine Wc.ga 13 [] ?_
  refine Ar.out3 (.inr rfl) (Ho := Hp.only _ []) rfl (.tmp rfl) (.tmp rfl) (.tmp rfl) (Hp.sub_only _ _) ?_
  rotate_left
  · have haj : Arr G (subA a c 0 2) (l.take j) := barr_sub ha j
    have ej : (l.take j).length = j := by rw [List.length_take]; omega
    refine Wc.re 20 rfl (show _ = Value.slice (subA a c 0 2) (l.take j).length c by rw [ej]; rfl) ?_
    refine Wc.loop (ι := Nat) (fun i => ([(22, .int .i64 (i : Int)), (0, .slice a l.length c), (11, .slice a l.length c), (12, .int .i64 (l.length : Int)), (20, Go.Value.slice (Go.Sl.subA a c 0 2) (List.length (List.take j l)) c), (21, Go.Value.int Go.IntKind.i64 (↑(Int.toNat (↑j : Int)) : Int)), (5, Go.Value.int Go.IntKind.i64 (↑j : Int)), (6, Go.Value.pointer (Option.some (Go.Addr.mk b1 0 Option.none))), (13, Go.Value.int Go.IntKind.i64 (↑j : Int))], [(0, Option.some b1, Go.Obj.cells (List.toArray (Go.Sl.Cells.enc (Option.getD l[Int.toNat (↑j : Int)]? Inhabited.default))) 59)])) (fun i => i ≤ j ∧ (∀ i', i' < i → ¬ alikeP (l[i']?.getD default) (l[j]?.getD default))) (fun i => j - i) (0) (⟨Nat.zero_le _, fun i' h => absurd h (by omega)⟩) ⟨rfl, rfl, rfl, rfl, rfl, rfl, rfl, rfl, rfl, trivial⟩ ⟨rfl, trivial⟩ (fun i => fun (hk : i ≤ j ∧ (∀ i', i' < i → ¬ alikeP (l[i']?.getD default) (l[j]?.getD default))) => ?_)
    obtain ⟨hi, hni⟩ := hk
    have eti : i < j → (l.take j)[((i : Nat) : Int).toNat]?.getD default = l[i]?.getD default := fun h => by rw [List.getElem?_take, if_pos (by omega)]; rfl
    have etj : l[((j : Nat) : Int).toNat]?.getD default = l[j]?.getD default := rfl
    refine Wc.gc 6 [] ?_
    refine Wc.cond rfl (fun hc2 => ?_) (fun hc2 => ?_)
    refine Wc.gl 7 [] ?_
    refine Wl.q rfl (Qy.at (α := R2) T.sl26 rfl rfl (by assumption) (by omega)) ?_
    refine Wl.q rfl (Qy.loadsG T.agg59 rfl (Arr.elem (by assumption) (by omega)) rfl) ?_
    refine Wl.alloc 1 rfl T.zero59 (fun b2 => ?_)
    refine Wl.gl 8 [1, 1, 0] ?_
    refine Wl.call0 rfl T.fn127 rfl (by apply c127 <;> first | assumption | omega | rfl) ?_
    refine Wl.gc 12 [] ?_
    refine Wc.cond rfl (fun hc3 => ?_) (fun hc3 => ?_)
    refine Wc.ga 19 [] ?_
    refine Ar.out3 (.inr rfl) (Ho := Hp.only _ []) rfl (.tmp rfl) (.tmp rfl) (.tmp rfl) (Hp.sub_only _ _) ?_
    rotate_left
    refine Wc.ga 7 [] ?_
    rotate_left
    refine Wc.ga 10 [] ?_
    rotate_left
    · rw [eti (by omega)] at hc3
      exact ⟨_, _, true, rfl, ⟨fun _ => ⟨j, by omega, i, by omega, hc3⟩, fun _ => rfl⟩, rfl, rfl⟩
    · refine Ar.re 22 rfl (show _ = Value.int .i64 ((i + 1 : Nat) : Int) from rfl) ?_
      refine Ar.again (i + 1) ?_ ?_ rfl ⟨rfl, rfl, rfl, rfl, rfl, rfl, rfl, rfl, rfl, trivial⟩ ⟨rfl, trivial⟩
      · refine ⟨by omega, fun i' h2 => ?_⟩
        rcases Nat.lt_or_ge i' i with h | h
        · exact hni i' h
        · have e : i' = i := by omega
          subst e; intro hq; rw [eti (by omega)] at hc3; exact hc3 hq
      · omega
    · refine Ar.re 13 rfl (show _ = Value.int .i64 ((j + 1 : Nat) : Int) from rfl) ?_
      refine Ar.again (j + 1) ?_ ?_ rfl ⟨rfl, rfl, rfl, rfl, trivial⟩ trivial
      · refine ⟨by omega, fun j' h1 i h2 => ?_⟩
        rcases Nat.lt_or_ge j' j with h | h
        · exact hno j' h i h2
        · have e : j' = j := by omega
          subst e; exact hni i (by omega)
      · omega
  · refine ⟨0, 0, false, rfl, ⟨fun h => absurd h (by decide), fun ⟨j', h1, i', h2, h3⟩ => absurd h3 (hno j' (by omega) i' h2)⟩, rfl, rfl⟩
def okP (p : R2) : Prop := near p.a p.b ∧ ¬ (p.a = 0 ∧ p.b = 0)
def RightL (l : List R2) : Prop := 1 ≤ l.length ∧ l.length ≤ 15 ∧ (∀ i, i < l.length → okP (l[i]?.getD default)) ∧ ¬ Twin l
theorem c26 (G : Imm) (a : Option Addr) (c : Nat) (l : List R2) (ha : Arr G a l) (h1 : l.length ≤ 1048576) (hc : l.length ≤ c) : Does Tryz.prog 26 [.slice a l.length c] G [] (fun v G' Ho => ∃ b : Bool, v = .bool b ∧ (b = true ↔ RightL l) ∧ G' = G ∧ Ho = []) := by
  refine Does.enter Tryz.func26 rfl Tryz.ntmps26 rfl (fun w => ?_)
  refine Wc.gl 12 [] ?_
  apply Wl.joinOr 4 11 15 rfl
  intro hg1
  refine Wl.ll0 7 [] ?_
  exact Wl.back 4 0 rfl rfl rfl rfl rfl
  intro hg1
  refine Wl.ll0 4 [] ?_
  exact Wl.back 4 0 rfl rfl rfl rfl rfl
  refine Wl.gc 2 [] ?_
  refine Wc.cond rfl (fun hc1 => ?_) (fun hc1 => ?_)
  refine Wc.ga 7 [] ?_
  refine Ar.out1 (.inr rfl) (Ho := Hp.only _ []) rfl (.tmp rfl) (Hp.sub_only _ _) ?_
  rotate_left
  refine Wc.gc 11 [] ?_
  rotate_left
  · exact ⟨false, rfl, ⟨fun h => absurd h (by decide), fun h => absurd h.1 (by have := h.2.1; omega)⟩, rfl, rfl⟩
  refine Wc.loop (ι := Nat) (fun j => ([(18, .int .i64 (j : Int)), (0, .slice a l.length c), (17, Go.Value.int Go.IntKind.i64 (↑(List.length l) : Int)), (16, Go.Value.slice a (List.length l) c)], [])) (fun j => j ≤ l.length ∧ (∀ i, i < j → okP (l[i]?.getD default))) (fun j => l.length - j) (0) (⟨Nat.zero_le _, fun j' h => absurd h (by omega)⟩) ⟨rfl, rfl, rfl, rfl, trivial⟩ trivial (fun j => fun (hk : j ≤ l.length ∧ (∀ i, i < j → okP (l[i]?.getD default))) => ?_)
  obtain ⟨hj, hno⟩ := hk
  refine Wc.gc 6 [] ?_
  refine Wc.cond rfl (fun hc2 => ?_) (fun hc2 => ?_)
  refine Wc.gl 6 [] ?_
  refine Wl.q rfl (Qy.at (α := R2) T.sl26 rfl rfl (by assumption) (by omega)) ?_
  refine Wl.q rfl (Qy.loadsG T.agg59 rfl (Arr.elem (by assumption) (by omega)) rfl) ?_
  refine Wl.alloc 0 rfl T.zero59 (fun b1 => ?_)
  refine Wl.gl 6 [0, 0] ?_
  refine Wl.call0 rfl T.fn72 rfl (by apply c72 <;> first | assumption | omega | rfl) ?_
  refine Wl.q rfl (Qy.notD rfl) ?_
  refine Wl.q rfl (Qy.move rfl) ?_
  apply Wl.joinOr 3 25 28 rfl
  intro hg1
  refine Wl.ll0 3 [0] ?_
  refine Wl.call0 rfl T.fn73 rfl (by apply c73 <;> first | assumption | omega | rfl) ?_
  refine Wl.q rfl (Qy.pick rfl rfl) ?_
  exact Wl.back 3 0 rfl rfl rfl rfl rfl
  intro hg1
  refine Wl.ll0 3 [] ?_
  exact Wl.back 3 0 rfl rfl rfl rfl rfl
  refine Wl.gc 2 [] ?_
  refine Wc.cond rfl (fun hc3 => ?_) (fun hc3 => ?_)
  refine Wc.ga 11 [] ?_
  refine Ar.out1 (.inr rfl) (Ho := Hp.only _ []) rfl (.tmp rfl) (Hp.sub_only _ _) ?_
  rotate_left
  refine Wc.ga 7 [] ?_
  rotate_left
  refine Wc.gl 8 [] ?_
  refine Wl.call 0 rfl T.fn74 rfl (c74 _ _ _ _ (by assumption) (by omega) (by first | assumption | omega)) (tags_of trivial) (fun v1 G1 Ho1 hle1 hp => ?_)
  obtain ⟨ti1, tj1, tb1, rfl, htb1, rfl, rfl⟩ := hp
  refine Wl.ga 17 [] ?_
  refine Ar.out1 (.inr rfl) (Ho := Hp.only _ []) rfl (.tmp rfl) (Hp.sub_only _ _) ?_
  rotate_left
  · exact ⟨false, rfl, ⟨fun h => absurd h (by decide), fun h => absurd (h.2.2.1 j (by omega)) (by show ¬ okP (l[((j : Nat) : Int).toNat]?.getD default); unfold okP; unfold near at *; omega)⟩, rfl, rfl⟩
  · refine Ar.re 18 rfl (show _ = Value.int .i64 ((j + 1 : Nat) : Int) from rfl) ?_
    refine Ar.again (j + 1) ?_ ?_ rfl ⟨rfl, rfl, rfl, rfl, trivial⟩ trivial
    · refine ⟨by omega, fun i' h2 => ?_⟩
      rcases Nat.lt_or_ge i' j with h | h
      · exact hno i' h
      · have e : i' = j := by omega
        subst e
        show okP (l[((i' : Nat) : Int).toNat]?.getD default)
        unfold okP; unfold near at *; omega
    · omega
  · refine ⟨!tb1, rfl, ?_, rfl, rfl⟩
    have e : (∀ i, i < l.length → okP (l[i]?.getD default)) := fun i hi => hno i (by omega)
    rw [Bool.not_eq_true', Bool.eq_false_iff, ne_eq, htb1]
    exact ⟨fun h => ⟨by omega, by omega, e, h⟩, fun h => h.2.2.2⟩
end Go.Proofs.YtbppmiimeccclaaGreat
set_option maxRecDepth 100000
set_option linter.unusedVariables false
namespace Go.Proofs.YtbppmiimeccclaaGreat
open Go Go.Sl
theorem c129 (G : Imm) (a b c d : Int) (hp : near a b) (hq : near c d) : Does Tryz.prog 129 [.agg #[.int .i64 a, .int .i64 b], .agg #[.int .i64 c, .int .i64 d]] G [] (fun v G' Ho => v = .int .i64 (a * d - c * b) ∧ G' = G ∧ Ho = []) := by
  refine Does.enter Tryz.func129 rfl Tryz.ntmps129 rfl (fun w => ?_)
  have m1 := mul_rng hp hq
  have m2 := mul_rng hq hp
  refine Wc.gl 2 [] ?_
  refine Wl.box 0 rfl rfl rfl (fun b1 => ?_)
  refine Wl.box 1 rfl rfl rfl (fun b2 => ?_)
  refine Wl.gl 9 [0, 1] ?_
  refine Wl.q rfl (Qy.mul rfl rfl (by omega)) ?_
  refine Wl.ll0 4 [1, 0] ?_
  refine Wl.q rfl (Qy.mul rfl rfl (by omega)) ?_
  refine Wl.ga 5 [] ?_
  refine Ar.out1 (.inr rfl) (Ho := Hp.only _ []) rfl (.tmp rfl) (Hp.sub_only _ _) ?_
  exact ⟨rfl, rfl, rfl⟩
instance (a b c d : Int) : Decidable (if (a = 0 ∧ b = 0) ∨ (c = 0 ∧ d = 0) then (a = 0 ∧ b = 0) ∧ (c = 0 ∧ d = 0) else a * d - c * b = 0) := by split <;> infer_instance
def oneR (a b c d : Int) : Prop := if (a = 0 ∧ b = 0) ∨ (c = 0 ∧ d = 0) then (a = 0 ∧ b = 0) ∧ (c = 0 ∧ d = 0) else a * d - c * b = 0
instance (a b c d : Int) : Decidable (oneR a b c d) := inferInstanceAs (Decidable (if (a = 0 ∧ b = 0) ∨ (c = 0 ∧ d = 0) then (a = 0 ∧ b = 0) ∧ (c = 0 ∧ d = 0) else a * d - c * b = 0))
theorem c78 (G : Imm) (a b c d : Int) (hp : near a b) (hq : near c d) : Does Tryz.prog 78 [.agg #[.int .i64 a, .int .i64 b], .agg #[.int .i64 c, .int .i64 d]] G [] (fun v G' Ho => v = .bool (decide (oneR a b c d)) ∧ G' = G ∧ Ho = []) := by
  refine Does.enter Tryz.func78 rfl Tryz.ntmps78 rfl (fun w => ?_)
  refine Wc.gl 2 [] ?_
  refine Wl.box 0 rfl rfl rfl (fun b1 => ?_)
  refine Wl.box 1 rfl rfl rfl (fun b2 => ?_)
  refine Wl.gl 7 [0] ?_
  refine Wl.call0 rfl T.fn31 rfl (by apply c31 <;> first | assumption | omega | rfl) ?_
  refine Wl.q rfl (Qy.move rfl) ?_
  apply Wl.joinOr 3 7 10 rfl
  intro hg1
  refine Wl.ll0 3 [1] ?_
  refine Wl.call0 rfl T.fn31 rfl (by apply c31 <;> first | assumption | omega | rfl) ?_
  refine Wl.q rfl (Qy.pick rfl rfl) ?_
  exact Wl.back 3 0 rfl rfl rfl rfl rfl
  intro hg1
  refine Wl.ll0 3 [] ?_
  exact Wl.back 3 0 rfl rfl rfl rfl rfl
  refine Wl.gc 2 [] ?_
  refine Wc.cond rfl (fun hc1 => ?_) (fun hc1 => ?_)
  refine Wc.gl 3 [0] ?_
  refine Wl.call0 rfl T.fn31 rfl (by apply c31 <;> first | assumption | omega | rfl) ?_
  refine Wl.q rfl (Qy.move rfl) ?_
  apply Wl.joinAnd 3 13 16 rfl
  intro hg1
  refine Wl.ll0 3 [1] ?_
  refine Wl.call0 rfl T.fn31 rfl (by apply c31 <;> first | assumption | omega | rfl) ?_
  refine Wl.q rfl (Qy.pick rfl rfl) ?_
  exact Wl.back 3 0 rfl rfl rfl rfl rfl
  intro hg1
  refine Wl.ll0 3 [] ?_
  exact Wl.back 3 0 rfl rfl rfl rfl rfl
  refine Wl.ga 5 [] ?_
  refine Ar.out1 (.inr rfl) (Ho := Hp.only _ []) rfl (.tmp rfl) (Hp.sub_only _ _) ?_
  rotate_left
  refine Wc.gl 6 [0, 1] ?_
  refine Wl.call0 rfl T.fn129 rfl (c129 _ _ _ _ _ (by assumption) (by assumption)) ?_
  refine Wl.ga 5 [] ?_
  refine Ar.out1 (.inr rfl) (Ho := Hp.only _ []) rfl (.tmp rfl) (Hp.sub_only _ _) ?_
  rotate_left
  · exact ⟨by congr 1; exact decide_eq_decide.mpr (by unfold oneR; rw [if_pos hc1]), rfl, rfl⟩
  · exact ⟨by congr 1; exact decide_eq_decide.mpr (by unfold oneR; rw [if_neg hc1]), rfl, rfl⟩
def alikeR (p q : R2) : Prop := near p.a p.b ∧ near q.a q.b ∧ oneR p.a p.b q.a q.b
def TwinR (l : List R2) : Prop := ∃ j, j < l.length ∧ ∃ i, i < j ∧ alikeR (l[i]?.getD default) (l[j]?.getD default)
theorem c32 (G : Imm) (a : Option Addr) (c : Nat) (l : List R2) (ha : Arr G a l) (h1 : l.length ≤ 1048576) (hc : l.length ≤ c) : Does Tryz.prog 32 [.slice a l.length c] G [] (fun v G' Ho => ∃ (i j : Int) (b : Bool), v = .tuple #[.int .i64 i, .int .i64 j, .bool b] ∧ (b = true ↔ TwinR l) ∧ G' = G ∧ Ho = []) := by
  refine Does.enter Tryz.func32 rfl Tryz.ntmps32 rfl (fun w => ?_)
  refine Wc.gc 14 [] ?_
  refine Wc.loop (ι := Nat) (fun j => ([(5, .int .i64 (j : Int)), (0, .slice a l.length c)], [])) (fun j => j ≤ l.length ∧ (∀ j', j' < j → ∀ i, i < j' → ¬ alikeR (l[i]?.getD default) (l[j']?.getD default))) (fun j => l.length - j) (0) (⟨Nat.zero_le _, fun j' h => absurd h (by omega)⟩) ⟨rfl, rfl, trivial⟩ trivial (fun j => fun (hk : j ≤ l.length ∧ (∀ j', j' < j → ∀ i, i < j' → ¬ alikeR (l[i]?.getD default) (l[j']?.getD default))) => ?_)
  obtain ⟨hj, hno⟩ := hk
  refine Wc.gc 9 [] ?_
  refine Wc.cond rfl (fun hc1 => ?_) (fun hc1 => ?_)
  refine Wc.gc 10 [] ?_
  rotate_left
  refine Wc.ga 13 [] ?_
  refine Ar.out3 (.inr rfl) (Ho := Hp.only _ []) rfl (.tmp rfl) (.tmp rfl) (.tmp rfl) (Hp.sub_only _ _) ?_
  rotate_left
  · refine Wc.loop (ι := Nat) (fun i => ([(6, .int .i64 (i : Int)), (5, .int .i64 (j : Int)), (0, .slice a l.length c)], [])) (fun i => i ≤ j ∧ (∀ i', i' < i → ¬ alikeR (l[i']?.getD default) (l[j]?.getD default))) (fun i => j - i) (0) (⟨Nat.zero_le _, fun i' h => absurd h (by omega)⟩) ⟨rfl, rfl, rfl, trivial⟩ trivial (fun i => fun (hk : i ≤ j ∧ (∀ i', i' < i → ¬ alikeR (l[i']?.getD default) (l[j]?.getD default))) => ?_)
    obtain ⟨hi, hni⟩ := hk
    have eti : l[((i : Nat) : Int).toNat]?.getD default = l[i]?.getD default := rfl
    have etj : l[((j : Nat) : Int).toNat]?.getD default = l[j]?.getD default := rfl
    refine Wc.gc 8 [] ?_
    refine Wc.cond rfl (fun hc2 => ?_) (fun hc2 => ?_)
    refine Wc.gc 5 [] ?_
    refine Wc.draw [] [] T.mixed rfl ?_
    refine Gm.q 0 [] (by kernel_rfl) rfl rfl (Qy.move rfl) ?_
    refine Gm.q 1 [] (by kernel_rfl) rfl rfl (Qy.move rfl) ?_
    refine Gm.q 2 [] (by kernel_rfl) rfl rfl (Qy.at (α := R2) T.sl26 rfl rfl (by assumption) (by omega)) ?_
    refine Gm.q 3 [] (by kernel_rfl) rfl rfl (Qy.loadsG T.agg59 rfl (Arr.elem (by assumption) (by omega)) rfl) ?_
    refine Gm.one 4 trivial (by first | exact Imm.le_refl _ | assumption | (refine Imm.le_trans ?_ (by assumption); first | assumption | (refine Imm.le_trans ?_ (by assumption); assumption))) (by kernel_rfl) rfl ?_
    refine Wl.call0 rfl T.fn30 rfl (by apply c30 <;> first | assumption | omega | rfl) ?_
    refine Wl.on0 ?_
    refine Gm.q 5 [] (by kernel_rfl) rfl rfl (Qy.move rfl) ?_
    refine Gm.cases 23 rfl (fun hg1 => ?_) (fun hg1 => ?_)
    refine Gm.qYes 6 [] (by kernel_rfl) rfl rfl rfl rfl (Qy.move rfl) ?_
    refine Gm.qYes 7 [] (by kernel_rfl) rfl rfl rfl rfl (Qy.move rfl) ?_
    refine Gm.qYes 8 [] (by kernel_rfl) rfl rfl rfl rfl (Qy.at (α := R2) T.sl26 rfl rfl (by assumption) (by omega)) ?_
    refine Gm.qYes 9 [] (by kernel_rfl) rfl rfl rfl rfl (Qy.loadsG T.agg59 rfl (Arr.elem (by assumption) (by omega)) rfl) ?_
    refine Gm.one 10 trivial (by first | exact Imm.le_refl _ | assumption | (refine Imm.le_trans ?_ (by assumption); first | assumption | (refine Imm.le_trans ?_ (by assumption); assumption))) (by kernel_rfl) rfl ?_
    refine Wl.want rfl rfl ?_
    refine Wl.call0 rfl T.fn30 rfl (by apply c30 <;> first | assumption | omega | rfl) ?_
    refine Wl.on0 ?_
    refine Gm.q 11 [] (by kernel_rfl) rfl rfl (Qy.pick rfl rfl) ?_
    refine Gm.q 12 [] (by kernel_rfl) rfl rfl (Qy.move rfl) ?_
    refine Gm.cases 30 rfl (fun hg2 => ?_) (fun hg2 => ?_)
    refine Gm.qYes 13 [] (by kernel_rfl) rfl rfl rfl rfl (Qy.move rfl) ?_
    refine Gm.qYes 14 [] (by kernel_rfl) rfl rfl rfl rfl (Qy.move rfl) ?_
    refine Gm.qYes 15 [] (by kernel_rfl) rfl rfl rfl rfl (Qy.at (α := R2) T.sl26 rfl rfl (by assumption) (by omega)) ?_
    refine Gm.qYes 16 [] (by kernel_rfl) rfl rfl rfl rfl (Qy.loadsG T.agg59 rfl (Arr.elem (by assumption) (by omega)) rfl) ?_
    refine Gm.qYes 17 [] (by kernel_rfl) rfl rfl rfl rfl (Qy.move rfl) ?_
    refine Gm.qYes 18 [] (by kernel_rfl) rfl rfl rfl rfl (Qy.move rfl) ?_
    refine Gm.qYes 19 [] (by kernel_rfl) rfl rfl rfl rfl (Qy.at (α := R2) T.sl26 rfl rfl (by assumption) (by omega)) ?_
    refine Gm.qYes 20 [] (by kernel_rfl) rfl rfl rfl rfl (Qy.loadsG T.agg59 rfl (Arr.elem (by assumption) (by omega)) rfl) ?_
    refine Gm.one 21 trivial (by first | exact Imm.le_refl _ | assumption | (refine Imm.le_trans ?_ (by assumption); first | assumption | (refine Imm.le_trans ?_ (by assumption); assumption))) (by kernel_rfl) rfl ?_
    refine Wl.want rfl rfl ?_
    refine Wl.call0 rfl T.fn78 rfl (c78 _ _ _ _ _ (by first | assumption | exact And.left (by assumption)) (by first | assumption | exact And.right (by assumption))) ?_
    refine Wl.on0 ?_
    refine Gm.q 22 [] (by kernel_rfl) rfl rfl (Qy.pick rfl rfl) ?_
    refine Gm.doneA (by kernel_rfl) trivial (by first | exact Imm.le_refl _ | assumption | (refine Imm.le_trans ?_ (by assumption); first | assumption | (refine Imm.le_trans ?_ (by assumption); assumption))) ?_
    refine Ar.next ?_
    refine Wc.cond rfl (fun hc3 => ?_) (fun hc3 => ?_)
    refine Wc.ga 19 [] ?_
    refine Ar.out3 (.inr rfl) (Ho := Hp.only _ []) rfl (.tmp rfl) (.tmp rfl) (.tmp rfl) (Hp.sub_only _ _) ?_
    rotate_left
    refine Wc.ga 8 [] ?_
    rotate_left
    refine Gm.qNo 13 (by kernel_rfl) rfl rfl rfl rfl ?_
    refine Gm.qNo 14 (by kernel_rfl) rfl rfl rfl rfl ?_
    refine Gm.qNo 15 (by kernel_rfl) rfl rfl rfl rfl ?_
    refine Gm.qNo 16 (by kernel_rfl) rfl rfl rfl rfl ?_
    refine Gm.qNo 17 (by kernel_rfl) rfl rfl rfl rfl ?_
    refine Gm.qNo 18 (by kernel_rfl) rfl rfl rfl rfl ?_
    refine Gm.qNo 19 (by kernel_rfl) rfl rfl rfl rfl ?_
    refine Gm.qNo 20 (by kernel_rfl) rfl rfl rfl rfl ?_
    refine Gm.qNo 21 (by kernel_rfl) rfl rfl rfl rfl ?_
    refine Gm.q 22 [] (by kernel_rfl) rfl rfl (Qy.pick rfl rfl) ?_
    refine Gm.doneA (by kernel_rfl) trivial (by first | exact Imm.le_refl _ | assumption | (refine Imm.le_trans ?_ (by assumption); first | assumption | (refine Imm.le_trans ?_ (by assumption); assumption))) ?_
    refine Ar.ga 10 [0] ?_
    rotate_left
    refine Gm.qNo 6 (by kernel_rfl) rfl rfl rfl rfl ?_
    refine Gm.qNo 7 (by kernel_rfl) rfl rfl rfl rfl ?_
    refine Gm.qNo 8 (by kernel_rfl) rfl rfl rfl rfl ?_
    refine Gm.qNo 9 (by kernel_rfl) rfl rfl rfl rfl ?_
    refine Gm.qNo 10 (by kernel_rfl) rfl rfl rfl rfl ?_
    refine Gm.q 11 [] (by kernel_rfl) rfl rfl (Qy.pick rfl rfl) ?_
    refine Gm.q 12 [] (by kernel_rfl) rfl rfl (Qy.move rfl) ?_
    refine Gm.qNo 13 (by kernel_rfl) rfl rfl rfl rfl ?_
    refine Gm.qNo 14 (by kernel_rfl) rfl rfl rfl rfl ?_
    refine Gm.qNo 15 (by kernel_rfl) rfl rfl rfl rfl ?_
    refine Gm.qNo 16 (by kernel_rfl) rfl rfl rfl rfl ?_
    refine Gm.qNo 17 (by kernel_rfl) rfl rfl rfl rfl ?_
    refine Gm.qNo 18 (by kernel_rfl) rfl rfl rfl rfl ?_
    refine Gm.qNo 19 (by kernel_rfl) rfl rfl rfl rfl ?_
    refine Gm.qNo 20 (by kernel_rfl) rfl rfl rfl rfl ?_
    refine Gm.qNo 21 (by kernel_rfl) rfl rfl rfl rfl ?_
    refine Gm.q 22 [] (by kernel_rfl) rfl rfl (Qy.pick rfl rfl) ?_
    refine Gm.doneA (by kernel_rfl) trivial (by first | exact Imm.le_refl _ | assumption | (refine Imm.le_trans ?_ (by assumption); first | assumption | (refine Imm.le_trans ?_ (by assumption); assumption))) ?_
    refine Ar.ga 10 [0] ?_
    rotate_left
    refine Wc.ga 11 [] ?_
    rotate_left
    · exact ⟨_, _, true, rfl, ⟨fun _ => ⟨j, by omega, i, by omega, hg1, hg2, hc3⟩, fun _ => rfl⟩, rfl, rfl⟩
    · refine Ar.re 6 rfl (show _ = Value.int .i64 ((i + 1 : Nat) : Int) from rfl) ?_
      refine Ar.again (i + 1) ?_ ?_ rfl ⟨rfl, rfl, rfl, trivial⟩ trivial
      · refine ⟨by omega, fun i' h2 => ?_⟩
        rcases Nat.lt_or_ge i' i with h | h
        · exact hni i' h
        · have e : i' = i := by omega
          subst e; exact fun hq => hc3 hq.2.2
      · omega
    · refine Ar.re 6 rfl (show _ = Value.int .i64 ((i + 1 : Nat) : Int) from rfl) ?_
      refine Ar.again (i + 1) ?_ ?_ rfl ⟨rfl, rfl, rfl, trivial⟩ trivial
      · refine ⟨by omega, fun i' h2 => ?_⟩
        rcases Nat.lt_or_ge i' i with h | h
        · exact hni i' h
        · have e : i' = i := by omega
          subst e; exact fun hq => hg2 hq.2.1
      · omega
    · refine Ar.re 6 rfl (show _ = Value.int .i64 ((i + 1 : Nat) : Int) from rfl) ?_
      refine Ar.again (i + 1) ?_ ?_ rfl ⟨rfl, rfl, rfl, trivial⟩ trivial
      · refine ⟨by omega, fun i' h2 => ?_⟩
        rcases Nat.lt_or_ge i' i with h | h
        · exact hni i' h
        · have e : i' = i := by omega
          subst e; exact fun hq => hg1 hq.1
      · omega
    · refine Ar.re 5 rfl (show _ = Value.int .i64 ((j + 1 : Nat) : Int) from rfl) ?_
      refine Ar.again (j + 1) ?_ ?_ rfl ⟨rfl, rfl, trivial⟩ trivial
      · refine ⟨by omega, fun j' h1 i h2 => ?_⟩
        rcases Nat.lt_or_ge j' j with h | h
        · exact hno j' h i h2
        · have e : j' = j := by omega
          subst e; exact hni i (by omega)
      · omega
  · refine ⟨0, 0, false, rfl, ⟨fun h => absurd h (by decide), fun ⟨j', h1, i', h2, h3⟩ => absurd h3 (hno j' (by omega) i' h2)⟩, rfl, rfl⟩
def RightR (l : List R2) : Prop := 1 ≤ l.length ∧ l.length ≤ 15 ∧ (∀ i, i < l.length → okP (l[i]?.getD default)) ∧ ¬ TwinR l
theorem c8 (G : Imm) (a : Option Addr) (c : Nat) (l : List R2) (ha : Arr G a l) (h1 : l.length ≤ 1048576) (hc : l.length ≤ c) : Does Tryz.prog 8 [.slice a l.length c] G [] (fun v G' Ho => ∃ b : Bool, v = .bool b ∧ (b = true ↔ RightR l) ∧ G' = G ∧ Ho = []) := by
  refine Does.enter Tryz.func8 rfl Tryz.ntmps8 rfl (fun w => ?_)
  refine Wc.gl 12 [] ?_
  apply Wl.joinOr 4 10 14 rfl
  intro hg1
  refine Wl.ll0 7 [] ?_
  exact Wl.back 4 0 rfl rfl rfl rfl rfl
  intro hg1
  refine Wl.ll0 4 [] ?_
  exact Wl.back 4 0 rfl rfl rfl rfl rfl
  refine Wl.gc 2 [] ?_
  refine Wc.cond rfl (fun hc1 => ?_) (fun hc1 => ?_)
  refine Wc.ga 7 [] ?_
  refine Ar.out1 (.inr rfl) (Ho := Hp.only _ []) rfl (.tmp rfl) (Hp.sub_only _ _) ?_
  rotate_left
  refine Wc.gc 9 [] ?_
  rotate_left
  · exact ⟨false, rfl, ⟨fun h => absurd h (by decide), fun h => absurd h.1 (by have := h.2.1; omega)⟩, rfl, rfl⟩
  refine Wc.loop (ι := Nat) (fun j => ([(3, .int .i64 (j : Int)), (0, .slice a l.length c)], [])) (fun j => j ≤ l.length ∧ (∀ i, i < j → okP (l[i]?.getD default))) (fun j => l.length - j) (0) (⟨Nat.zero_le _, fun j' h => absurd h (by omega)⟩) ⟨rfl, rfl, trivial⟩ trivial (fun j => fun (hk : j ≤ l.length ∧ (∀ i, i < j → okP (l[i]?.getD default))) => ?_)
  obtain ⟨hj, hno⟩ := hk
  have etj : l[((j : Nat) : Int).toNat]?.getD default = l[j]?.getD default := rfl
  refine Wc.gc 9 [] ?_
  refine Wc.cond rfl (fun hc2 => ?_) (fun hc2 => ?_)
  refine Wc.gl 8 [] ?_
  refine Wl.q rfl (Qy.at (α := R2) T.sl26 rfl rfl (by assumption) (by omega)) ?_
  refine Wl.q rfl (Qy.loadsG T.agg59 rfl (Arr.elem (by assumption) (by omega)) rfl) ?_
  refine Wl.call0 rfl T.fn30 rfl (by apply c30 <;> first | assumption | omega | rfl) ?_
  refine Wl.q rfl (Qy.notD rfl) ?_
  refine Wl.q rfl (Qy.move rfl) ?_
  apply Wl.joinOr 6 27 33 rfl
  intro hg1
  refine Wl.ll0 5 [] ?_
  refine Wl.q rfl (Qy.at (α := R2) T.sl26 rfl rfl (by assumption) (by omega)) ?_
  refine Wl.want rfl rfl ?_
  refine Wl.q rfl (Qy.loadsG T.agg59 rfl (Arr.elem (by assumption) (by omega)) rfl) ?_
  refine Wl.want rfl rfl ?_
  refine Wl.call0 rfl T.fn31 rfl (by apply c31 <;> first | assumption | omega | rfl) ?_
  refine Wl.q rfl (Qy.pick rfl rfl) ?_
  exact Wl.back 6 0 rfl rfl rfl rfl rfl
  intro hg1
  refine Wl.ll0 6 [] ?_
  exact Wl.back 6 0 rfl rfl rfl rfl rfl
  refine Wl.gc 2 [] ?_
  refine Wc.cond rfl (fun hc3 => ?_) (fun hc3 => ?_)
  refine Wc.ga 11 [] ?_
  refine Ar.out1 (.inr rfl) (Ho := Hp.only _ []) rfl (.tmp rfl) (Hp.sub_only _ _) ?_
  rotate_left
  refine Wc.ga 8 [] ?_
  rotate_left
  refine Wc.gl 8 [] ?_
  refine Wl.call 0 rfl T.fn32 rfl (c32 _ _ _ _ (by assumption) (by omega) (by first | assumption | omega)) (tags_of trivial) (fun v1 G1 Ho1 hle1 hp => ?_)
  obtain ⟨ti1, tj1, tb1, rfl, htb1, rfl, rfl⟩ := hp
  refine Wl.ga 17 [] ?_
  refine Ar.out1 (.inr rfl) (Ho := Hp.only _ []) rfl (.tmp rfl) (Hp.sub_only _ _) ?_
  rotate_left
  · exact ⟨false, rfl, ⟨fun h => absurd h (by decide), fun h => absurd (h.2.2.1 j (by omega)) (by show ¬ okP (l[((j : Nat) : Int).toNat]?.getD default); unfold okP; unfold near at *; omega)⟩, rfl, rfl⟩
  · refine Ar.re 3 rfl (show _ = Value.int .i64 ((j + 1 : Nat) : Int) from rfl) ?_
    refine Ar.again (j + 1) ?_ ?_ rfl ⟨rfl, rfl, trivial⟩ trivial
    · refine ⟨by omega, fun i' h2 => ?_⟩
      rcases Nat.lt_or_ge i' j with h | h
      · exact hno i' h
      · have e : i' = j := by omega
        subst e
        show okP (l[((i' : Nat) : Int).toNat]?.getD default)
        unfold okP; unfold near at *; omega
    · omega
  · refine ⟨!tb1, rfl, ?_, rfl, rfl⟩
    have e : (∀ i, i < l.length → okP (l[i]?.getD default)) := fun i hi => hno i (by omega)
    rw [Bool.not_eq_true', Bool.eq_false_iff, ne_eq, htb1]
    exact ⟨fun h => ⟨by omega, by omega, e, h⟩, fun h => h.2.2.2⟩
end Go.Proofs.YtbppmiimeccclaaGreat
set_option linter.unusedVariables false
namespace Go.Proofs.YtbppmiimeccclaaGreat
open Go Go.Sl
theorem mul_sign_pos {y g : Int} (h : y * g < 0) (hg : g < 0) : 0 < y := by
  rcases Int.lt_trichotomy y 0 with h1 | h1 | h1
  · have := Int.mul_pos_of_neg_of_neg h1 hg; omega
  · subst h1; rw [Int.zero_mul] at h; omega
  · exact h1
theorem mul_sign_pos' {y g : Int} (h : 0 < y * g) (hg : 0 < g) : 0 < y := by
  rcases Int.lt_trichotomy y 0 with h1 | h1 | h1
  · have := Int.mul_neg_of_neg_of_pos h1 hg; omega
  · subst h1; rw [Int.zero_mul] at h; omega
  · exact h1
theorem nrm_canon {a b : Int} (h : ¬ (a = 0 ∧ b = 0)) : ∃ x y g : Int, nrm a b = (x, y) ∧ g ≠ 0 ∧ x * g = a ∧ y * g = b ∧ Int.gcd x y = 1 ∧ (0 < y ∨ (y = 0 ∧ 0 < x)) := by
  have hg0 : 0 < Int.gcd a b := by
    rcases Nat.eq_zero_or_pos (Int.gcd a b) with h0 | h0
    · exact absurd (Int.gcd_eq_zero_iff.mp h0) h
    · exact h0
  have hgn : normG a b ≠ 0 := by unfold normG; split <;> omega
  have habs : (normG a b).natAbs = Int.gcd a b := by unfold normG; split <;> omega
  have d1 : normG a b ∣ a := Int.natAbs_dvd.mp (by rw [habs]; exact Int.gcd_dvd_left a b)
  have d2 : normG a b ∣ b := Int.natAbs_dvd.mp (by rw [habs]; exact Int.gcd_dvd_right a b)
  have e1 := Int.tdiv_mul_cancel d1
  have e2 := Int.tdiv_mul_cancel d2
  refine ⟨a.tdiv (normG a b), b.tdiv (normG a b), normG a b, by unfold nrm; rw [if_neg h], hgn, e1, e2, ?_, ?_⟩
  · show Nat.gcd (a.tdiv (normG a b)).natAbs (b.tdiv (normG a b)).natAbs = 1
    rw [show (a.tdiv (normG a b)).natAbs = a.natAbs / (normG a b).natAbs from Int.natAbs_tdiv _ _, show (b.tdiv (normG a b)).natAbs = b.natAbs / (normG a b).natAbs from Int.natAbs_tdiv _ _, habs]
    exact Nat.coprime_div_gcd_div_gcd hg0
  · generalize hx : a.tdiv (normG a b) = x at *
    generalize hy : b.tdiv (normG a b) = y at *
    rcases Int.lt_trichotomy b 0 with hb | hb | hb
    · left
      refine mul_sign_pos (g := normG a b) (by omega) ?_
      unfold normG; rw [if_pos (.inl hb)]; omega
    · right
      have hy0 : y = 0 := by
        rcases Int.mul_eq_zero.mp (show y * normG a b = 0 by omega) with h1 | h1
        · exact h1
        · exact absurd h1 hgn
      refine ⟨hy0, ?_⟩
      rcases (show a < 0 ∨ 0 ≤ a by omega) with ha | ha
      · refine mul_sign_pos (g := normG a b) (by omega) ?_
        unfold normG; rw [if_pos (.inr ⟨hb, ha⟩)]; omega
      · refine mul_sign_pos' (g := normG a b) (by omega) ?_
        unfold normG; rw [if_neg (by omega)]; omega
    · left
      refine mul_sign_pos' (g := normG a b) (by omega) ?_
      unfold normG; rw [if_neg (by omega)]; omega
theorem canon_one {x y u v : Int} (h1 : Int.gcd x y = 1) (h2 : Int.gcd u v = 1) (s1 : 0 < y ∨ (y = 0 ∧ 0 < x)) (s2 : 0 < v ∨ (v = 0 ∧ 0 < u)) (h : x * v = u * y) : x = u ∧ y = v := by
  have e : x.natAbs * v.natAbs = u.natAbs * y.natAbs := by rw [← Int.natAbs_mul, ← Int.natAbs_mul, h]
  have c1 : Nat.Coprime x.natAbs y.natAbs := h1
  have c2 : Nat.Coprime u.natAbs v.natAbs := h2
  have p1 : x.natAbs ∣ u.natAbs := c1.dvd_of_dvd_mul_right (e ▸ Nat.dvd_mul_right _ _)
  have p2 : u.natAbs ∣ x.natAbs := c2.dvd_of_dvd_mul_right (e ▸ Nat.dvd_mul_right _ _)
  have p3 : y.natAbs ∣ v.natAbs := c1.symm.dvd_of_dvd_mul_left (e ▸ Nat.dvd_mul_left _ _)
  have p4 : v.natAbs ∣ y.natAbs := c2.symm.dvd_of_dvd_mul_left (e ▸ Nat.dvd_mul_left _ _)
  have q1 := Nat.dvd_antisymm p1 p2
  have q2 := Nat.dvd_antisymm p3 p4
  have hyv : y = v := by omega
  refine ⟨?_, hyv⟩
  subst hyv
  rcases s1 with s | s
  · exact Int.eq_of_mul_eq_mul_right (by omega) h
  · omega
theorem same_iff (a b c d : Int) : same a b c d ↔ oneR a b c d := by
  unfold same oneR
  by_cases hp : a = 0 ∧ b = 0
  · by_cases hq : c = 0 ∧ d = 0
    · rw [if_pos (.inl hp)]
      obtain ⟨rfl, rfl⟩ := hp
      obtain ⟨rfl, rfl⟩ := hq
      exact ⟨fun _ => ⟨⟨rfl, rfl⟩, rfl, rfl⟩, fun _ => rfl⟩
    · rw [if_pos (.inl hp)]
      refine ⟨fun h => ?_, fun h => absurd h.2 hq⟩
      obtain ⟨u, v, k, e2, hk, _, _, _, s2⟩ := nrm_canon hq
      have e1 : nrm a b = (0, 0) := by unfold nrm; rw [if_pos hp, hp.1, hp.2]
      rw [e1, e2] at h
      injection h with h3 h4
      omega
  · obtain ⟨x, y, g, e1, hg, f1, f2, c1, s1⟩ := nrm_canon hp
    by_cases hq : c = 0 ∧ d = 0
    · rw [if_pos (.inr hq)]
      refine ⟨fun h => ?_, fun h => absurd h.1 hp⟩
      have e2 : nrm c d = (0, 0) := by unfold nrm; rw [if_pos hq, hq.1, hq.2]
      rw [e1, e2] at h
      injection h with h3 h4
      omega
    · obtain ⟨u, v, k, e2, hk, f3, f4, c2, s2⟩ := nrm_canon hq
      rw [if_neg (fun h => h.elim hp hq), e1, e2]
      have key : a * d - c * b = (x * v - u * y) * (g * k) := by
        rw [← f1, ← f2, ← f3, ← f4, Int.sub_mul]
        congr 1 <;> ac_rfl
      constructor
      · intro h
        injection h with h3 h4
        rw [key, h3, h4, Int.sub_self, Int.zero_mul]
      · intro h
        rw [key] at h
        have hgk : g * k ≠ 0 := fun h0 => (Int.mul_eq_zero.mp h0).elim hg hk
        have h5 : x * v - u * y = 0 := (Int.mul_eq_zero.mp h).resolve_right hgk
        obtain ⟨r1, r2⟩ := canon_one c1 c2 s1 s2 (by omega)
        rw [r1, r2]
theorem twin_iff (l : List R2) : Twin l ↔ TwinR l := by
  unfold Twin TwinR alikeP alikeR
  simp only [same_iff]
theorem right_iff (l : List R2) : RightL l ↔ RightR l := by
  unfold RightL RightR
  rw [twin_iff]
end Go.Proofs.YtbppmiimeccclaaGreat
set_option maxRecDepth 100000
set_option linter.unusedVariables false
namespace Go.Proofs.YtbppmiimeccclaaGreat
open Go Go.Sl
set_option maxHeartbeats 4000000
attribute [local irreducible] valB pb cmpZ lstWp p2
theorem c128 (G : Imm) (x : IV) (z n : Int) (hx : Big G x z) (h1 : x.n ≤ 536870912) (hn : -9223372036854775808 ≤ n ∧ n ≤ 9223372036854775807) :
    Does Tryz.prog 128 [.agg (Cells.enc x).toArray, .int .i64 n] G [] (fun v G' Ho => ∃ r : IV, v = .agg (Cells.enc r).toArray ∧ Big G' r (z * n) ∧ Ho = []) := by
  have hn3 : (n.natAbs : Int) < pb 3 := by
    have e : pb 3 = 79228162514264337593543950336 := by unfold pb; decide
    omega
  obtain ⟨n1, a, k1, ca⟩ := x
  refine Does.enter Tryz.func128 rfl Tryz.ntmps128 rfl (fun w => ?_)
  refine Wc.gl 2 [] ?_
  refine Wl.box 0 rfl rfl rfl (fun b1 => ?_)
  refine Wl.alloc 1 rfl T.zero104 (fun b2 => ?_)
  refine Wl.gc 3 [] ?_
  refine Wc.draw [0, 1] [(1, 4)] T.mixed rfl ?_
  refine Gm.q 0 [0] (by kernel_rfl) rfl rfl (Qy.loadAll 0 T.agg104 rfl rfl rfl) ?_
  refine Gm.q 1 [] (by kernel_rfl) rfl rfl (Qy.move rfl) ?_
  refine Gm.one 2 ⟨rfl, rfl, trivial⟩ (by first | exact Imm.le_refl _ | assumption | (refine Imm.le_trans ?_ (by assumption); first | assumption | (refine Imm.le_trans ?_ (by assumption); assumption))) (by kernel_rfl) rfl ?_
  refine Wl.call 2 rfl T.fn57 rfl (c57 _ _ (by omega)) (tags_of trivial) (fun v1 G1 Ho1 hle1 hp => ?_)
  obtain ⟨ro, rfl, hro, rfl⟩ := hp
  replace hx := hx.up hle1
  refine Wl.on0 ?_
  refine Gm.one 3 ⟨rfl, rfl, trivial⟩ (by first | exact Imm.le_refl _ | assumption | (refine Imm.le_trans ?_ (by assumption); first | assumption | (refine Imm.le_trans ?_ (by assumption); assumption))) (by kernel_rfl) rfl ?_
  refine Wl.call 2 rfl T.fn103 rfl (c103 _ _ _ _ _ hx hro h1 (Nat.le_trans (Big.len hro hn3) (by decide))) (tags_of trivial) (fun v2 G2 Ho2 hle2 hp => ?_)
  obtain ⟨rm, rfl, hrm, rfl⟩ := hp
  replace hro := hro.up hle2
  replace hx := hx.up hle2
  refine Wl.on0 ?_
  refine Gm.one 4 ⟨rfl, rfl, trivial⟩ (by first | exact Imm.le_refl _ | assumption | (refine Imm.le_trans ?_ (by assumption); first | assumption | (refine Imm.le_trans ?_ (by assumption); assumption))) (by kernel_rfl) rfl ?_
  refine Wl.storeAll 1 T.size104 rfl rfl rfl rfl rfl rfl ?_
  refine Wl.on0 ?_
  refine Gm.doneA (by kernel_rfl) ⟨rfl, trivial⟩ (by first | exact Imm.le_refl _ | assumption | (refine Imm.le_trans ?_ (by assumption); first | assumption | (refine Imm.le_trans ?_ (by assumption); assumption))) ?_
  refine Ar.ga 2 [] ?_
  refine Ar.out1 (.inr rfl) (Ho := Hp.only _ []) rfl (.agg 1 rfl rfl T.agg104) (Hp.sub_only _ _) ?_
  exact ⟨rm, rfl, hrm, rfl⟩
end Go.Proofs.YtbppmiimeccclaaGreat
set_option maxRecDepth 100000
set_option linter.unusedVariables false
namespace Go.Proofs.YtbppmiimeccclaaGreat
open Go Go.Sl
set_option maxHeartbeats 4000000
attribute [local irreducible] valB pb cmpZ lstWp p2
def powR (a b : Int) (n : Nat) : List Int := (List.range n).map fun j => a ^ j * b ^ (n - 1 - j)
theorem c75 (G : Imm) (a b : Int) (n : Nat) (hp : near a b) (hn : n ≤ 15) :
    Does Tryz.prog 75 [.agg #[.int .i64 a, .int .i64 b], .int .i64 n] G [] (fun v G' Ho => ∃ (s : Option Addr) (r : List IV) (c' : Nat), v = .tuple #[.slice s r.length c', .int .i64 0] ∧ Arr G' s r ∧ Bigs G' r (powR a b n) ∧ r.length ≤ c' ∧ Ho = []) := by
  refine Does.enter Tryz.func75 rfl Tryz.ntmps75 rfl (fun w => ?_)
  have hpn : ¬((¬near a b ∨ (n : Int) < 0) ∨ 16 < (n : Int)) := by unfold near at *; omega
  refine Wc.gl 2 [] ?_
  refine Wl.box 0 rfl rfl rfl (fun b1 => ?_)
  refine Wl.gl 8 [0] ?_
  refine Wl.call0 rfl T.fn72 rfl (by apply c72 <;> first | assumption | omega | rfl) ?_
  refine Wl.q rfl (Qy.notD rfl) ?_
  refine Wl.q rfl (Qy.move rfl) ?_
  apply Wl.joinOr 3 14 17 rfl
  intro hg1
  refine Wl.ll0 5 [] ?_
  exact Wl.back 3 0 rfl rfl rfl rfl rfl
  intro hg1
  refine Wl.ll0 3 [] ?_
  exact Wl.back 3 0 rfl rfl rfl rfl rfl
  refine Wl.q rfl (Qy.move rfl) ?_
  apply Wl.joinOr 3 18 21 rfl
  intro hg1
  refine Wl.ll0 5 [] ?_
  exact Wl.back 3 0 rfl rfl rfl rfl rfl
  intro hg1
  refine Wl.ll0 3 [] ?_
  exact Wl.back 3 0 rfl rfl rfl rfl rfl
  refine Wl.gl 8 [0] ?_
  refine Wl.make (α := IV) 1 rfl T.sl44 T.el104 rfl rfl (by omega) (by omega) (fun b2 => ?_)
  refine Wl.gl 5 [] ?_
  refine Wl.call 2 rfl T.fn57 rfl (c57 _ 1 (by decide)) (tags_of trivial) (fun v1 G1 Ho1 hle1 hp => ?_)
  obtain ⟨ro1, rfl, hro1, rfl⟩ := hp
  refine Wl.call 2 rfl T.fn57 rfl (c57 _ 1 (by decide)) (tags_of trivial) (fun v2 G2 Ho2 hle2 hp => ?_)
  obtain ⟨ro2, rfl, hro2, rfl⟩ := hp
  replace hro1 := hro1.up hle2
  refine Wl.alloc 2 rfl T.zero104 (fun b3 => ?_)
  refine Wl.alloc 3 rfl T.zero104 (fun b4 => ?_)
  refine Wl.gc 13 [2, 3] ?_
  refine Wc.re 6 rfl (show _ = Value.slice (some ⟨b2, 0, none⟩) (List.replicate n (default : IV)).length n by simp) ?_
  have e2 : (List.replicate n (default : IV)).length = n := List.length_replicate ..
  refine Wc.loopG (ι := Nat × Imm × List IV × IV × (Option Addr × Nat × List Value)) (fun (k, Gx, r, x, (o, d, j)) => ([(28, .int .i64 (k : Int)), (6, .slice o r.length d), (27, Go.Value.int Go.IntKind.i64 (↑(List.length (List.replicate (Int.toNat (↑n : Int)) Inhabited.default)) : Int)), (8, Go.Value.pointer (Option.some (Go.Addr.mk b4 0 Option.none))), (7, Go.Value.pointer (Option.some (Go.Addr.mk b3 0 Option.none))), (5, Go.Value.int Go.IntKind.i64 0), (4, Go.Value.slice Option.none 0 0), (2, Go.Value.pointer (Option.some (Go.Addr.mk b1 0 Option.none))), (1, Go.Value.int Go.IntKind.i64 (↑n : Int))], [(1, o.map (·.block), Row 104 r j), (2, some b3, .cells (Cells.enc x).toArray 104), (3, Option.some b4, Go.Obj.cells (List.toArray (Go.Sl.Cells.enc ro2)) 104), (0, Option.some b1, Go.Obj.cells #[Go.Value.int Go.IntKind.i64 a, Go.Value.int Go.IntKind.i64 b] 59)])) (fun (k, Gx, r, x, (o, d, j)) => Gx) (fun (k, Gx, r, x, (o, d, j)) => k ≤ n ∧ G2.le Gx ∧ r.length = n ∧ Bigs Gx r ((List.range n).map fun i => if i < k then a ^ i else 0) ∧ Big Gx x (a ^ k) ∧ OwnA o d r j) (fun (k, Gx, r, x, (o, d, j)) => n - k) ((0, G2, List.replicate n default, ro1, (some ⟨b2, 0, none⟩, n, []))) (⟨Nat.zero_le _, Imm.le_refl _, List.length_replicate .., by have e : (List.range n).map (fun i => if i < 0 then a ^ i else 0) = List.replicate n (0 : Int) := by { apply List.ext_getElem <;> simp }; rw [e]; exact Bigs.zeros _ _, by rw [Int.pow_zero]; exact hro1, .inr ⟨b2, rfl, by rw [List.length_replicate]; rfl, by omega, by simp only [maxLen]; omega⟩⟩) rfl ⟨rfl, rfl, rfl, rfl, rfl, rfl, rfl, rfl, rfl, trivial⟩ ⟨rfl, rfl, rfl, rfl, trivial⟩ (fun ⟨k, Gx, r, x, (o, d, j)⟩ => fun (hk : k ≤ n ∧ G2.le Gx ∧ r.length = n ∧ Bigs Gx r ((List.range n).map fun i => if i < k then a ^ i else 0) ∧ Big Gx x (a ^ k) ∧ OwnA o d r j) => ?_)
  obtain ⟨hk1, hk2, hk3, hk4, hk5, hob⟩ := hk
  have e1 : (List.replicate ((n : Int)).toNat (default : IV)).length = n := by rw [List.length_replicate]; omega
  have e0 : (List.replicate n (default : IV)).length = n := List.length_replicate ..
  have hx3 : k ≤ 15 → ((a ^ k).natAbs : Int) < pb 3 := fun h => by
    have e : pb 3 = 79228162514264337593543950336 := by unfold pb; decide
    have e2 : (a ^ k).natAbs ≤ 16 ^ 15 := by
      rw [Int.natAbs_pow]
      exact Nat.le_trans (Nat.pow_le_pow_left (show a.natAbs ≤ 16 by unfold near at hp; omega) k) (Nat.pow_le_pow_right (by omega) h)
    have e3 : (16 : Nat) ^ 15 = 1152921504606846976 := by decide
    omega
  have hxn : x.n ≤ 536870912 := Nat.le_trans (Big.len hk5 (hx3 (by omega))) (by decide)
  refine Wc.gc 6 [] ?_
  refine Wc.cond rfl (fun hc1 => ?_) (fun hc1 => ?_)
  refine Wc.gl 15 [2] ?_
  refine Wl.q rfl (Qy.indexAddrO (α := IV) T.sl44 rfl rfl (by assumption) (by omega)) ?_
  rotate_left
  refine Wc.gc 14 [] ?_
  rotate_left
  · refine Wl.setO (z := x) 1 T.size104 rfl rfl rfl (by assumption) (by omega) rfl (fun h9 => ?_)
    refine Wl.gl 6 [2, 0] ?_
    refine Wl.call 4 rfl T.fn128 rfl (c128 _ _ _ a hk5 hxn (by unfold near at hp; omega)) (tags_of trivial) (fun v3 G3 Ho3 hle3 hp => ?_)
    obtain ⟨rt, rfl, hrt, rfl⟩ := hp
    replace hk4 := hk4.up hle3
    replace hk5 := hk5.up hle3
    refine Wl.ga 8 [2] ?_
    have hle3' : Gx.le G3 := hle3
    refine Ar.re 28 rfl (show _ = Value.int .i64 ((k + 1 : Nat) : Int) from rfl) ?_
    refine Ar.re 6 rfl (show _ = Value.slice o (r.set ((k : Nat) : Int).toNat x).length d by rw [List.length_set]) ?_
    refine Ar.again ((k + 1, G3, r.set ((k : Nat) : Int).toNat x, rt, (o, d, j))) ?_ ?_ rfl ⟨rfl, rfl, rfl, rfl, rfl, rfl, rfl, rfl, rfl, trivial⟩ ⟨rfl, rfl, rfl, rfl, trivial⟩
    · refine ⟨by omega, Imm.le_trans hk2 hle3', by rw [List.length_set]; exact hk3, ?_, by rw [Int.pow_succ]; exact hrt, h9⟩
      have h8 := hk4.set k hk5
      rw [Int.toNat_natCast]
      have e : ((List.range n).map fun i => if i < k then a ^ i else 0).set k (a ^ k) = (List.range n).map fun i => if i < k + 1 then a ^ i else 0 := by
        apply List.ext_getElem
        · simp
        · intro i h1 h2
          rw [List.getElem_set]
          simp only [List.getElem_map, List.getElem_range]
          by_cases h : k = i
          · subst h; simp
          · rw [if_neg h]
            by_cases h7 : i < k
            · rw [if_pos h7, if_pos (by omega)]
            · rw [if_neg h7, if_neg (by omega)]
      rw [e] at h8; exact h8
    · show n - (k + 1) < n - k
      omega
  have hkn : k = n := by omega
  subst hkn
  have hl1 : (List.range k).map (fun i => if i < k then a ^ i else (0 : Int)) = (List.range k).map fun m => if ((m : Nat) : Int) ≤ (k : Int) - 1 then a ^ m else a ^ m * b ^ (k - 1 - m) := by
    apply List.map_congr_left
    intro m hm
    rw [List.mem_range] at hm
    rw [if_pos hm, if_pos (by omega)]
  rw [hl1] at hk4
  refine Wc.loopG (ι := Int × Imm × List IV × IV) (fun (i, Gy, q, y) => ([(10, .int .i64 i), (6, .slice o q.length d), (8, Go.Value.pointer (Option.some (Go.Addr.mk b4 0 Option.none))), (5, Go.Value.int Go.IntKind.i64 0), (4, Go.Value.slice Option.none 0 0), (2, Go.Value.pointer (Option.some (Go.Addr.mk b1 0 Option.none)))], [(1, o.map (·.block), Row 104 q j), (3, some b4, .cells (Cells.enc y).toArray 104), (2, Option.some b3, Go.Obj.cells (List.toArray (Go.Sl.Cells.enc x)) 104), (0, Option.some b1, Go.Obj.cells #[Go.Value.int Go.IntKind.i64 a, Go.Value.int Go.IntKind.i64 b] 59)])) (fun (i, Gy, q, y) => Gy) (fun (i, Gy, q, y) => -1 ≤ i ∧ i < k ∧ Gx.le Gy ∧ q.length = k ∧ Bigs Gy q ((List.range k).map fun m => if ((m : Nat) : Int) ≤ i then a ^ m else a ^ m * b ^ (k - 1 - m)) ∧ Big Gy y (b ^ ((k : Int) - 1 - i).toNat) ∧ OwnA o d q j) (fun (i, Gy, q, y) => (i + 1).toNat) (((k : Int) - 1, Gx, r, ro2)) (⟨by omega, by omega, Imm.le_refl _, hk3, hk4, by rw [show ((k : Int) - 1 - ((k : Int) - 1)).toNat = 0 by omega, Int.pow_zero]; exact hro2.up hk2, hob⟩) rfl ⟨rfl, rfl, rfl, rfl, rfl, rfl, trivial⟩ ⟨rfl, rfl, rfl, rfl, trivial⟩ (fun ⟨i, Gy, q, y⟩ => fun (hk : -1 ≤ i ∧ i < k ∧ Gx.le Gy ∧ q.length = k ∧ Bigs Gy q ((List.range k).map fun m => if ((m : Nat) : Int) ≤ i then a ^ m else a ^ m * b ^ (k - 1 - m)) ∧ Big Gy y (b ^ ((k : Int) - 1 - i).toNat) ∧ OwnA o d q j) => ?_)
  obtain ⟨hi1, hi2, hi3, hi4, hi5, hi6, hi7⟩ := hk
  rcases Int.lt_or_le i 0 with hi0 | hi0
  · have hi9 : i = -1 := by omega
    subst hi9
    have hl2 : (List.range k).map (fun m => if ((m : Nat) : Int) ≤ -1 then a ^ m else a ^ m * b ^ (k - 1 - m)) = powR a b k := by
      unfold powR
      apply List.map_congr_left
      intro m hm
      rw [if_neg (by omega)]
    rw [hl2] at hi5
    refine Wc.ga 21 [0] ?_
    refine Ar.freezeRow 1 rfl hi7 (fun G8 hle8 hA8 => ?_)
    refine Ar.out2 (.inr rfl) (Ho := []) rfl (.tmp rfl) (.tmp rfl) trivial ?_
    exact ⟨_, _, _, rfl, hA8, hi5.up hle8, hi7.le, rfl⟩
  · obtain ⟨m, rfl⟩ : ∃ m : Nat, i = (m : Int) := ⟨i.toNat, by omega⟩
    have hmk : m < k := by omega
    have hbe : Big Gy (q[((m : Nat) : Int).toNat]?.getD default) (a ^ m) := by
      have h9 := hi5.2 m (by omega)
      rw [List.getElem?_map, List.getElem?_range hmk] at h9
      rw [Int.toNat_natCast]
      simpa using h9
    have hsm : ∀ (c : Int) (e : Nat), -16 ≤ c ∧ c ≤ 16 → e ≤ 15 → ((c ^ e).natAbs : Int) < pb 3 := fun c e hc he => by
      have e0 : pb 3 = 79228162514264337593543950336 := by unfold pb; decide
      have e2 : (c ^ e).natAbs ≤ 16 ^ 15 := by
        rw [Int.natAbs_pow]
        exact Nat.le_trans (Nat.pow_le_pow_left (show c.natAbs ≤ 16 by omega) e) (Nat.pow_le_pow_right (by omega) he)
      have e3 : (16 : Nat) ^ 15 = 1152921504606846976 := by decide
      omega
    have hlq := Big.len hbe (hsm a m (by unfold near at hp; omega) (by omega))
    have hly := Big.len hi6 (hsm b _ (by unfold near at hp; omega) (by omega))
    have hyn : y.n ≤ 536870912 := Nat.le_trans hly (by decide)
    refine Wc.gc 13 [1] ?_
    refine Wc.draw [0, 2, 3, 1] [(1, 9), (3, 9), (2, 9), (0, 9)] T.mixed rfl ?_
    refine Gm.q 0 [] (by kernel_rfl) rfl rfl (Qy.move rfl) ?_
    refine Gm.q 1 [] (by kernel_rfl) rfl rfl (Qy.move rfl) ?_
    refine Gm.q 2 [] (by kernel_rfl) rfl rfl (Qy.move rfl) ?_
    refine Gm.q 3 [] (by kernel_rfl) rfl rfl (Qy.move rfl) ?_
    refine Gm.q 4 [] (by kernel_rfl) rfl rfl (Qy.indexAddrO (α := IV) T.sl44 rfl rfl (by assumption) (by omega)) ?_
    refine Gm.q 5 [1] (by kernel_rfl) rfl rfl (Qy.loadsO 1 T.agg104 rfl rfl (by assumption) (by omega)) ?_
    refine Gm.q 6 [3] (by kernel_rfl) rfl rfl (Qy.loadAll 3 T.agg104 rfl rfl rfl) ?_
    refine Gm.one 7 ⟨rfl, rfl, rfl, rfl, trivial⟩ (by first | exact Imm.le_refl _ | assumption | (refine Imm.le_trans ?_ (by assumption); first | assumption | (refine Imm.le_trans ?_ (by assumption); assumption))) (by kernel_rfl) rfl ?_
    refine Wl.call 4 rfl T.fn103 rfl (c103 _ _ _ _ _ hbe hi6 (Nat.le_trans hlq (by decide)) (Nat.le_trans hly (by decide))) (tags_of trivial) (fun v3 G3 Ho3 hle3 hp => ?_)
    obtain ⟨rm3, rfl, hrm3, rfl⟩ := hp
    replace hi5 := hi5.up hle3
    replace hi6 := hi6.up hle3
    replace hbe := hbe.up hle3
    refine Wl.on0 ?_
    refine Gm.q 8 [] (by kernel_rfl) rfl rfl (Qy.indexAddrO (α := IV) T.sl44 rfl rfl (by assumption) (by omega)) ?_
    refine Gm.one 9 ⟨rfl, rfl, rfl, rfl, trivial⟩ (by first | exact Imm.le_refl _ | assumption | (refine Imm.le_trans ?_ (by assumption); first | assumption | (refine Imm.le_trans ?_ (by assumption); assumption))) (by kernel_rfl) rfl ?_
    refine Wl.setO (z := rm3) 1 T.size104 rfl rfl rfl (by assumption) (by omega) rfl (fun h9 => ?_)
    refine Wl.on0 ?_
    refine Gm.doneA (by kernel_rfl) trivial (by first | exact Imm.le_refl _ | assumption | (refine Imm.le_trans ?_ (by assumption); first | assumption | (refine Imm.le_trans ?_ (by assumption); assumption))) ?_
    refine Ar.gl 5 [3, 0] ?_
    refine Wl.call 4 rfl T.fn128 rfl (c128 _ _ _ b (by assumption) hyn (by unfold near at hp; omega)) (tags_of trivial) (fun v4 G4 Ho4 hle4 hp => ?_)
    obtain ⟨rt4, rfl, hrt4, rfl⟩ := hp
    replace hrm3 := hrm3.up hle4
    replace hi5 := hi5.up hle4
    replace hi6 := hi6.up hle4
    replace hbe := hbe.up hle4
    refine Wl.ga 9 [3] ?_
    refine Ar.re 6 rfl (show _ = Value.slice o (q.set ((m : Nat) : Int).toNat rm3).length d by rw [List.length_set]) ?_
    refine Ar.again (((m : Int) - 1, _, q.set ((m : Nat) : Int).toNat rm3, rt4)) ?_ ?_ rfl ⟨rfl, rfl, rfl, rfl, rfl, rfl, trivial⟩ ⟨rfl, rfl, rfl, rfl, trivial⟩
    · refine ⟨by omega, by omega, Imm.le_trans hi3 (Imm.le_trans (by assumption) (by assumption)), by rw [List.length_set]; exact hi4, ?_, ?_, h9⟩
      · have h8 := hi5.set m hrm3
        rw [Int.toNat_natCast]
        have e : ((List.range k).map fun q => if ((q : Nat) : Int) ≤ (m : Int) then a ^ q else a ^ q * b ^ (k - 1 - q)).set m (a ^ m * b ^ ((k : Int) - 1 - (m : Int)).toNat) = (List.range k).map fun q => if ((q : Nat) : Int) ≤ (m : Int) - 1 then a ^ q else a ^ q * b ^ (k - 1 - q) := by
          apply List.ext_getElem
          · simp
          · intro i h1 h2
            rw [List.getElem_set]
            simp only [List.getElem_map, List.getElem_range]
            by_cases h : m = i
            · subst h
              rw [if_pos rfl, if_neg (by omega)]
              congr 2
              omega
            · rw [if_neg h]
              by_cases h7 : (i : Int) ≤ (m : Int)
              · rw [if_pos h7, if_pos (by omega)]
              · rw [if_neg h7, if_neg (by omega)]
        rw [e] at h8; exact h8
      · have e : ((k : Int) - 1 - ((m : Int) - 1)).toNat = ((k : Int) - 1 - (m : Int)).toNat + 1 := by omega
        rw [e, Int.pow_succ]; exact hrt4
    · show ((m : Int) - 1 + 1).toNat < ((m : Int) + 1).toNat
      omega
end Go.Proofs.YtbppmiimeccclaaGreat
set_option maxRecDepth 100000
set_option linter.unusedVariables false
namespace Go.Proofs.YtbppmiimeccclaaGreat
open Go Go.Sl
set_option maxHeartbeats 4000000
attribute [local irreducible] valB pb cmpZ lstWp p2 RightL powR
/-- a row of big numbers, by its slice -/
def BRow (G : Imm) (s : SV) (zs : List Int) : Prop := ∃ l : List IV, l.length = s.n ∧ s.n ≤ s.c ∧ Arr G s.a l ∧ Bigs G l zs
theorem BRow.up {G G' : Imm} {s : SV} {zs : List Int} (h : BRow G s zs) (hl : G.le G') : BRow G' s zs := by
  obtain ⟨l, h1, h2, h3, h4⟩ := h
  exact ⟨l, h1, h2, h3.up hl, h4.up hl⟩
def BGrid (G : Imm) (l : List SV) (rs : List (List Int)) : Prop := l.length = rs.length ∧ ∀ i : Nat, i < l.length → BRow G (l[i]?.getD default) (rs[i]?.getD [])
theorem BGrid.up {G G' : Imm} {l : List SV} {rs : List (List Int)} (h : BGrid G l rs) (hl : G.le G') : BGrid G' l rs := ⟨h.1, fun i hi => (h.2 i hi).up hl⟩
theorem BGrid.nil (G : Imm) : BGrid G [] [] := ⟨rfl, fun i hi => by simp at hi⟩
theorem BGrid.snoc {G : Imm} {l : List SV} {rs : List (List Int)} (h : BGrid G l rs) {s : SV} {zs : List Int} (hs : BRow G s zs) : BGrid G (l ++ [s]) (rs ++ [zs]) := by
  refine ⟨by rw [List.length_append, List.length_append, h.1]; rfl, fun i hi => ?_⟩
  rw [List.length_append, List.length_singleton] at hi
  rcases Nat.lt_or_ge i l.length with h1 | h1
  · rw [List.getElem?_append_left h1, List.getElem?_append_left (by rw [← h.1]; exact h1)]; exact h.2 i h1
  · have : i = l.length := by omega
    subst this
    rw [List.getElem?_append_right (Nat.le_refl _), List.getElem?_append_right (by rw [h.1]; exact Nat.le_refl _), Nat.sub_self, h.1, Nat.sub_self]
    exact hs
theorem c26Y (G : Imm) (a : Option Addr) (c : Nat) (l : List R2) (ha : Arr G a l) (h1 : l.length ≤ 1048576) (hc : l.length ≤ c) (hR : RightL l) : Does Tryz.prog 26 [.slice a l.length c] G [] (fun v G' Ho => v = .bool true ∧ G' = G ∧ Ho = []) :=
  (c26 G a c l ha h1 hc).mono fun v G' Ho _ ⟨b, e1, e2, e3, e4⟩ => ⟨by rw [e1, e2.2 hR], e3, e4⟩
theorem c26N (G : Imm) (a : Option Addr) (c : Nat) (l : List R2) (ha : Arr G a l) (h1 : l.length ≤ 1048576) (hc : l.length ≤ c) (hR : ¬ RightL l) : Does Tryz.prog 26 [.slice a l.length c] G [] (fun v G' Ho => v = .bool false ∧ G' = G ∧ Ho = []) :=
  (c26 G a c l ha h1 hc).mono fun v G' Ho _ ⟨b, e1, e2, e3, e4⟩ => ⟨by rw [e1]; congr 1; cases b; { rfl }; exact absurd (e2.1 rfl) hR, e3, e4⟩
def gridR (l : List R2) : List (List Int) := l.map fun p => powR p.a p.b l.length
theorem c27W (G : Imm) (a : Option Addr) (c : Nat) (l : List R2) (ha : Arr G a l) (h1 : l.length ≤ 1048576) (hc : l.length ≤ c) (hR : ¬ RightL l) :
    Does Tryz.prog 27 [.slice a l.length c] G [] (fun v G' Ho => v = .tuple #[.slice none 0 0, .int .i64 2] ∧ G' = G ∧ Ho = []) := by
  refine Does.enter Tryz.func27 rfl Tryz.ntmps27 rfl (fun w => ?_)
  refine Wc.gl 10 [] ?_
  refine Wl.call0 rfl T.fn26 rfl (c26N _ _ _ l (by assumption) (by omega) hc hR) ?_
  refine Wl.ga 12 [1] ?_
  refine Ar.out2 (.inr rfl) (Ho := Hp.only _ []) rfl (.tmp rfl) (.tmp rfl) (Hp.sub_only _ _) ?_
  exact ⟨rfl, rfl, rfl⟩
theorem c27R (G : Imm) (a : Option Addr) (c : Nat) (l : List R2) (ha : Arr G a l) (h1 : l.length ≤ 1048576) (hc : l.length ≤ c) (hR : RightL l) (hr1 : l.length ≤ 15) (hr2 : ∀ i, i < l.length → okP (l[i]?.getD default)) :
    Does Tryz.prog 27 [.slice a l.length c] G [] (fun v G' Ho => ∃ (s : Option Addr) (r : List SV) (c' : Nat), v = .tuple #[.slice s r.length c', .int .i64 0] ∧ Arr G' s r ∧ BGrid G' r (gridR l) ∧ r.length ≤ c' ∧ Ho = []) := by
  refine Does.enter Tryz.func27 rfl Tryz.ntmps27 rfl (fun w => ?_)
  refine Wc.nilRow 9 (Row 44 ([] : List SV) []) ?_
  refine Wc.gl 10 [] ?_
  refine Wl.call0 rfl T.fn26 rfl (c26Y _ _ _ l (by assumption) (by omega) hc hR) ?_
  refine Wl.gc 20 [0] ?_
  refine Wc.loopG (ι := Nat × Imm × List SV × (Option Addr × Nat × List Value)) (fun (i, Gx, r, (o, d, j)) => ([(14, .int .i64 (i : Int)), (4, .slice o r.length d), (13, Go.Value.int Go.IntKind.i64 (↑(List.length l) : Int)), (12, Go.Value.slice a (List.length l) c), (3, Go.Value.int Go.IntKind.i64 0), (2, Go.Value.slice Option.none 0 0), (0, Go.Value.slice a (List.length l) c)], [(9, o.map (·.block), Row 44 r j)])) (fun (i, Gx, r, (o, d, j)) => Gx) (fun (i, Gx, r, (o, d, j)) => i ≤ l.length ∧ G.le Gx ∧ r.length = i ∧ BGrid Gx r ((gridR l).take i) ∧ OwnA o d r j) (fun (i, Gx, r, (o, d, j)) => l.length - i) ((0, G, [], (none, 0, []))) (⟨Nat.zero_le _, Imm.le_refl _, rfl, by rw [List.take_zero]; exact BGrid.nil _, OwnA.nil⟩) rfl ⟨rfl, rfl, rfl, rfl, rfl, rfl, rfl, trivial⟩ ⟨rfl, trivial⟩ (fun ⟨i, Gx, r, (o, d, j)⟩ => fun (hk : i ≤ l.length ∧ G.le Gx ∧ r.length = i ∧ BGrid Gx r ((gridR l).take i) ∧ OwnA o d r j) => ?_)
  obtain ⟨hi1, hi2, hi3, hi4, hi5⟩ := hk
  replace ha := ha.up hi2
  rcases Nat.lt_or_ge i l.length with hil | hil
  · have hnear : near (l[((i : Nat) : Int).toNat]?.getD default).a (l[((i : Nat) : Int).toNat]?.getD default).b := (hr2 i hil).1
    refine Wc.gl 13 [1] ?_
    refine Wl.q rfl (Qy.at (α := R2) T.sl26 rfl rfl (by assumption) (by omega)) ?_
    refine Wl.q rfl (Qy.loadsG T.agg59 rfl (Arr.elem (by assumption) (by omega)) rfl) ?_
    refine Wl.alloc 10 rfl T.zero59 (fun b1 => ?_)
    refine Wl.gl 8 [10, 10] ?_
    refine Wl.call 11 rfl T.fn75 rfl (c75 _ _ _ l.length hnear (by omega)) (tags_of trivial) (fun v1 G1 Ho1 hle1 hp => ?_)
    obtain ⟨ps1, pr1, pc1, rfl, hpA1, hpB1, hpL1, rfl⟩ := hp
    replace ha := ha.up hle1
    refine Wl.gl 10 [] ?_
    refine Wl.lit (α := SV) 11 [⟨_, _, _⟩] rfl T.sl53 T.el44 rfl rfl rfl rfl rfl (fun b2 => ?_)
    refine Wl.append (α := SV) 9 rfl T.sl53 T.el44 rfl rfl rfl (by first | assumption | exact OwnA.nil | exact OwnA.made (by simp)) (Src.row 11 rfl) (by first | omega | (simp only [List.length_append, List.length_cons, List.length_nil, maxLen]; omega)) (by first | omega | (simp only [List.length_append, List.length_cons, List.length_nil, maxLen]; omega)) (fun a1 c1 junk1 ho1 => ?_)
    refine Wl.ga 8 [] ?_
    refine Ar.re 14 rfl (show _ = Value.int .i64 ((i + 1 : Nat) : Int) from rfl) ?_
    refine Ar.again ((i + 1, _, r ++ [⟨ps1, pr1.length, pc1⟩], (a1, c1, junk1))) ?_ ?_ rfl ⟨rfl, rfl, rfl, rfl, rfl, rfl, rfl, trivial⟩ ⟨rfl, trivial⟩
    · refine ⟨by omega, Imm.le_trans hi2 (by assumption), by rw [List.length_append, hi3]; rfl, ?_, ho1⟩
      have e : (gridR l).take (i + 1) = (gridR l).take i ++ [powR (l[((i : Nat) : Int).toNat]?.getD default).a (l[((i : Nat) : Int).toNat]?.getD default).b l.length] := by
        rw [List.take_add_one]
        congr 1
        unfold gridR
        rw [List.getElem?_map, Int.toNat_natCast, List.getElem?_eq_getElem hil]; rfl
      rw [e]
      exact (hi4.up (by assumption)).snoc ⟨pr1, rfl, hpL1, hpA1, hpB1⟩
    · show l.length - (i + 1) < l.length - i
      omega
  · have hie : i = l.length := by omega
    subst hie
    have e : (gridR l).take l.length = gridR l := List.take_of_length_le (by unfold gridR; rw [List.length_map]; exact Nat.le_refl _)
    rw [e] at hi4
    refine Wc.ga 20 [0] ?_
    refine Ar.freezeRow 9 rfl hi5 (fun G8 hle8 hA8 => ?_)
    refine Ar.out2 (.inr rfl) (Ho := []) rfl (.tmp rfl) (.tmp rfl) trivial ?_
    exact ⟨_, _, _, rfl, hA8, hi4.up hle8, hi5.le, rfl⟩
end Go.Proofs.YtbppmiimeccclaaGreat
set_option maxRecDepth 100000
set_option linter.unusedVariables false
namespace Go.Proofs.YtbppmiimeccclaaGreat
open Go Go.Sl
set_option maxHeartbeats 4000000
attribute [local irreducible] valB valL pb pw cmpZ lstWp p2 RightL powR
/-- few digits -/
def small (z : Int) : Prop := z.natAbs < 18446744073709551616
theorem Num.few {G : Imm} {x : IV} {z : Int} (h : Num G x z) (hz : small z) : x.n ≤ 4 := by
  obtain ⟨l, h1, _, _, h4⟩ := h
  rw [← h1]
  refine h4.len ?_
  have e : pw 4 = 18446744073709551616 := by unfold pw; decide
  unfold small at hz; omega
theorem small_pow {c : Int} {e : Nat} (hc : -16 ≤ c ∧ c ≤ 16) (he : e ≤ 15) : small (c ^ e) := by
  unfold small
  have e2 : (c ^ e).natAbs ≤ 16 ^ 15 := by
    rw [Int.natAbs_pow]
    exact Nat.le_trans (Nat.pow_le_pow_left (show c.natAbs ≤ 16 by omega) e) (Nat.pow_le_pow_right (by omega) he)
  have e3 : (16 : Nat) ^ 15 = 1152921504606846976 := by decide
  omega
theorem c135N (G : Imm) (x y : IV) (zx zy : Int) (hx : Num G x zx) (hy : Num G y zy) (bx : small zx) (bz : small zy) :
    Does Tryz.prog 135 [.agg #[.bool x.neg, .slice x.a x.n x.c], .agg #[.bool y.neg, .slice y.a y.n y.c]] G [] (fun v G' Ho => ∃ r : IV, v = .agg #[.bool r.neg, .slice r.a r.n r.c] ∧ Num G' r (zx * zy) ∧ Ho = []) := by
  have f1 := Num.few hx bx
  have f2 := Num.few hy bz
  obtain ⟨n1, a, k1, ca⟩ := x
  obtain ⟨n2, b, k2, cb⟩ := y
  obtain ⟨la, rfl, hla, hA, hx⟩ := hx
  obtain ⟨lb, rfl, hlb, hB, hy⟩ := hy
  exact c135 G n1 n2 a b ca cb la lb zx zy hA hB hx hy (Nat.le_trans f1 (by decide)) (Nat.le_trans f2 (by decide))
theorem c136 (G : Imm) (x : IV) (z : Int) (e : Nat) (hx : Num G x z) (hz : -16 ≤ z ∧ z ≤ 16) (he : e ≤ 15) :
    Does Tryz.prog 136 [.agg #[.bool x.neg, .slice x.a x.n x.c], .int .i64 e] G [] (fun v G' Ho => ∃ r : IV, v = .agg #[.bool r.neg, .slice r.a r.n r.c] ∧ Num G' r (z ^ e) ∧ Ho = []) := by
  refine Does.enter Tryz.func136 rfl Tryz.ntmps136 rfl (fun w => ?_)
  refine Wc.gl 2 [] ?_
  refine Wl.box 0 rfl rfl rfl (fun b1 => ?_)
  refine Wl.alloc 1 rfl T.zero78 (fun b2 => ?_)
  refine Wl.gl 4 [] ?_
  refine Wl.call 2 rfl T.fn37 rfl (c37 _ 1 (by decide)) (tags_of trivial) (fun v1 G1 Ho1 hle1 hp => ?_)
  obtain ⟨ro1, rfl, hro1, rfl⟩ := hp
  replace hx := hx.up hle1
  refine Wl.alloc 2 rfl T.zero78 (fun b3 => ?_)
  refine Wl.gc 10 [2] ?_
  refine Wc.loopG (ι := Nat × Imm × IV) (fun (k, Gx, r) => ([(6, .int .i64 (k : Int)), (5, Go.Value.pointer (Option.some (Go.Addr.mk b3 0 Option.none))), (4, Go.Value.pointer (Option.some (Go.Addr.mk b2 0 Option.none))), (2, Go.Value.pointer (Option.some (Go.Addr.mk b1 0 Option.none))), (1, Go.Value.int Go.IntKind.i64 (↑e : Int))], [(2, some b3, .cells #[.bool r.neg, .slice r.a r.n r.c] 78), (1, Option.some b2, Go.Obj.cells #[Go.Value.bool Bool.false, Go.Value.slice Option.none 0 0] 78), (0, Option.some b1, Go.Obj.cells #[Go.Value.bool (Go.Sl.IV.neg x), Go.Value.slice (Go.Sl.IV.a x) (Go.Sl.IV.n x) (Go.Sl.IV.c x)] 78)])) (fun (k, Gx, r) => Gx) (fun (k, Gx, r) => k ≤ e ∧ G1.le Gx ∧ Num Gx r (z ^ k)) (fun (k, Gx, r) => e - k) ((0, G1, ro1)) (⟨Nat.zero_le _, Imm.le_refl _, by rw [Int.pow_zero]; exact hro1⟩) rfl ⟨rfl, rfl, rfl, rfl, rfl, trivial⟩ ⟨rfl, rfl, rfl, trivial⟩ (fun ⟨k, Gx, r⟩ => fun (hk : k ≤ e ∧ G1.le Gx ∧ Num Gx r (z ^ k)) => ?_)
  obtain ⟨hk1, hk2, hk3⟩ := hk
  rcases Nat.lt_or_ge k e with hke | hke
  · have hx' := hx.up hk2
    have s1 : small (z ^ k) := small_pow hz (by omega)
    have s2 : small z := by unfold small; omega
    refine Wc.gl 16 [1, 2, 0] ?_
    refine Wl.call 3 rfl T.fn135 rfl (c135N _ r x (z ^ k) z (by assumption) (by assumption) s1 s2) (tags_of trivial) (fun v2 G2 Ho2 hle2 hp => ?_)
    obtain ⟨rt2, rfl, hrt2, rfl⟩ := hp
    replace hk3 := hk3.up hle2
    replace hx' := hx'.up hle2
    refine Wl.ga 9 [2] ?_
    refine Ar.re 6 rfl (show _ = Value.int .i64 ((k + 1 : Nat) : Int) from rfl) ?_
    refine Ar.again ((k + 1, _, rt2)) ?_ ?_ rfl ⟨rfl, rfl, rfl, rfl, rfl, trivial⟩ ⟨rfl, rfl, rfl, trivial⟩
    · exact ⟨by omega, Imm.le_trans hk2 (by assumption), by rw [Int.pow_succ]; exact hrt2⟩
    · show e - (k + 1) < e - k
      omega
  · have hke : k = e := by omega
    subst hke
    refine Wc.ga 21 [0, 2, 1] ?_
    refine Ar.out1 (.inr rfl) (Ho := Hp.only _ []) rfl (.agg 1 rfl rfl T.agg78) (Hp.sub_only _ _) ?_
    exact ⟨_, rfl, hk3, rfl⟩
theorem c136I (G : Imm) (x : IV) (z e : Int) (hx : Num G x z) (hz : -16 ≤ z ∧ z ≤ 16) (he : 0 ≤ e ∧ e ≤ 15) :
    Does Tryz.prog 136 [.agg #[.bool x.neg, .slice x.a x.n x.c], .int .i64 e] G [] (fun v G' Ho => ∃ r : IV, v = .agg #[.bool r.neg, .slice r.a r.n r.c] ∧ Num G' r (z ^ e.toNat) ∧ Ho = []) := by
  obtain ⟨k, rfl⟩ : ∃ k : Nat, e = (k : Int) := ⟨e.toNat, by omega⟩
  exact c136 G x z k hx hz (by omega)
theorem c81 (G : Imm) (a b : Int) (n : Nat) (hp : near a b) (hn : n ≤ 15) :
    Does Tryz.prog 81 [.agg #[.int .i64 a, .int .i64 b], .int .i64 n] G [] (fun v G' Ho => ∃ (s : Option Addr) (r : List IV) (c' : Nat), v = .slice s r.length c' ∧ Arr G' s r ∧ Nums G' r (powR a b n) ∧ r.length ≤ c' ∧ Ho = []) := by
  refine Does.enter Tryz.func81 rfl Tryz.ntmps81 rfl (fun w => ?_)
  refine Wc.nilRow 9 (Row 78 ([] : List IV) []) ?_
  refine Wc.gl 2 [] ?_
  refine Wl.box 10 rfl rfl rfl (fun b1 => ?_)
  refine Wl.gc 15 [] ?_
  refine Wc.loopG (ι := Nat × Imm × List IV × (Option Addr × Nat × List Value)) (fun (k, Gx, r, (o, d, j)) => ([(6, .int .i64 (k : Int)), (5, .slice o r.length d), (4, Go.Value.slice Option.none 0 0), (2, Go.Value.pointer (Option.some (Go.Addr.mk b1 0 Option.none))), (1, Go.Value.int Go.IntKind.i64 (↑n : Int))], [(9, o.map (·.block), Row 78 r j), (10, Option.some b1, Go.Obj.cells #[Go.Value.int Go.IntKind.i64 a, Go.Value.int Go.IntKind.i64 b] 59)])) (fun (k, Gx, r, (o, d, j)) => Gx) (fun (k, Gx, r, (o, d, j)) => k ≤ n ∧ G.le Gx ∧ r.length = k ∧ Nums Gx r ((powR a b n).take k) ∧ OwnA o d r j) (fun (k, Gx, r, (o, d, j)) => n - k) ((0, G, [], (none, 0, []))) (⟨Nat.zero_le _, Imm.le_refl _, rfl, by rw [List.take_zero]; exact Nums.nil _, OwnA.nil⟩) rfl ⟨rfl, rfl, rfl, rfl, rfl, trivial⟩ ⟨rfl, rfl, trivial⟩ (fun ⟨k, Gx, r, (o, d, j)⟩ => fun (hk : k ≤ n ∧ G.le Gx ∧ r.length = k ∧ Nums Gx r ((powR a b n).take k) ∧ OwnA o d r j) => ?_)
  obtain ⟨hk1, hk2, hk3, hk4, hk5⟩ := hk
  rcases Nat.lt_or_ge k n with hke | hke
  · have s1 : small (a ^ (k : Int).toNat) := small_pow (by unfold near at hp; omega) (by omega)
    have s2 : small (b ^ ((n : Int) - 1 - (k : Int)).toNat) := small_pow (by unfold near at hp; omega) (by omega)
    refine Wc.gc 13 [1] ?_
    refine Wc.draw [10, 9] [(9, 16)] T.mixed rfl ?_
    refine Gm.q 0 [] (by kernel_rfl) rfl rfl (Qy.move rfl) ?_
    refine Gm.q 1 [] (by kernel_rfl) rfl rfl (Qy.fieldAddr T.fa59_0 rfl) ?_
    refine Gm.q 2 [10] (by kernel_rfl) rfl rfl (Qy.load 10 T.one3 rfl rfl rfl) ?_
    refine Gm.q 4 [] (by kernel_rfl) rfl rfl (Qy.move rfl) ?_
    refine Gm.q 6 [] (by kernel_rfl) rfl rfl (Qy.fieldAddr T.fa59_1 rfl) ?_
    refine Gm.q 7 [10] (by kernel_rfl) rfl rfl (Qy.load 10 T.one3 rfl rfl rfl) ?_
    refine Gm.q 9 [] (by kernel_rfl) rfl rfl (Qy.move rfl) ?_
    refine Gm.q 10 [] (by kernel_rfl) rfl rfl (Qy.sub rfl rfl (by omega)) ?_
    refine Gm.q 11 [] (by kernel_rfl) rfl rfl (Qy.move rfl) ?_
    refine Gm.q 12 [] (by kernel_rfl) rfl rfl (Qy.sub rfl rfl (by omega)) ?_
    refine Gm.one 3 ⟨rfl, rfl, trivial⟩ (by first | exact Imm.le_refl _ | repeat (first | assumption | refine Imm.le_trans ?_ (by assumption))) (by kernel_rfl) rfl ?_
    refine Wl.call 11 rfl T.fn37 rfl (c37 _ _ (by unfold near at hp; omega)) (tags_of trivial) (fun v1 G1 Ho1 hle1 hp => ?_)
    obtain ⟨ro1, rfl, hro1, rfl⟩ := hp
    replace hk4 := hk4.up hle1
    refine Wl.on0 ?_
    refine Gm.one 5 ⟨rfl, rfl, trivial⟩ (by first | exact Imm.le_refl _ | repeat (first | assumption | refine Imm.le_trans ?_ (by assumption))) (by kernel_rfl) rfl ?_
    refine Wl.call 11 rfl T.fn136 rfl (c136I _ _ _ _ (by assumption) (by unfold near at hp; omega) (by omega)) (tags_of trivial) (fun v2 G2 Ho2 hle2 hp => ?_)
    obtain ⟨rp2, rfl, hrp2, rfl⟩ := hp
    replace hro1 := hro1.up hle2
    replace hk4 := hk4.up hle2
    refine Wl.on0 ?_
    refine Gm.one 8 ⟨rfl, rfl, trivial⟩ (by first | exact Imm.le_refl _ | repeat (first | assumption | refine Imm.le_trans ?_ (by assumption))) (by kernel_rfl) rfl ?_
    refine Wl.call 11 rfl T.fn37 rfl (c37 _ _ (by unfold near at hp; omega)) (tags_of trivial) (fun v3 G3 Ho3 hle3 hp => ?_)
    obtain ⟨ro3, rfl, hro3, rfl⟩ := hp
    replace hrp2 := hrp2.up hle3
    replace hro1 := hro1.up hle3
    replace hk4 := hk4.up hle3
    refine Wl.on0 ?_
    refine Gm.one 13 ⟨rfl, rfl, trivial⟩ (by first | exact Imm.le_refl _ | repeat (first | assumption | refine Imm.le_trans ?_ (by assumption))) (by kernel_rfl) rfl ?_
    refine Wl.call 11 rfl T.fn136 rfl (c136I _ _ _ _ (by assumption) (by unfold near at hp; omega) (by omega)) (tags_of trivial) (fun v4 G4 Ho4 hle4 hp => ?_)
    obtain ⟨rp4, rfl, hrp4, rfl⟩ := hp
    replace hro3 := hro3.up hle4
    replace hrp2 := hrp2.up hle4
    replace hro1 := hro1.up hle4
    replace hk4 := hk4.up hle4
    refine Wl.on0 ?_
    refine Gm.one 14 ⟨rfl, rfl, trivial⟩ (by first | exact Imm.le_refl _ | repeat (first | assumption | refine Imm.le_trans ?_ (by assumption))) (by kernel_rfl) rfl ?_
    refine Wl.call 11 rfl T.fn135 rfl (c135N _ _ _ _ _ hrp2 hrp4 s1 s2) (tags_of trivial) (fun v5 G5 Ho5 hle5 hp => ?_)
    obtain ⟨rt5, rfl, hrt5, rfl⟩ := hp
    replace hrp4 := hrp4.up hle5
    replace hro3 := hro3.up hle5
    replace hrp2 := hrp2.up hle5
    replace hro1 := hro1.up hle5
    replace hk4 := hk4.up hle5
    refine Wl.on0 ?_
    refine Gm.one 15 ⟨rfl, rfl, trivial⟩ (by first | exact Imm.le_refl _ | repeat (first | assumption | refine Imm.le_trans ?_ (by assumption))) (by kernel_rfl) rfl ?_
    refine Wl.lit (α := IV) 11 [⟨_, _, _, _⟩] rfl T.sl73 T.el78 rfl rfl rfl rfl rfl (fun b2 => ?_)
    refine Wl.on0 ?_
    refine Gm.one 16 ⟨rfl, rfl, trivial⟩ (by first | exact Imm.le_refl _ | repeat (first | assumption | refine Imm.le_trans ?_ (by assumption))) (by kernel_rfl) rfl ?_
    refine Wl.append (α := IV) 9 rfl T.sl73 T.el78 rfl rfl rfl (by first | assumption | exact OwnA.nil | exact OwnA.made (by simp)) (Src.row 11 rfl) (by first | omega | (simp only [List.length_append, List.length_cons, List.length_nil, maxLen]; omega)) (by first | omega | (simp only [List.length_append, List.length_cons, List.length_nil, maxLen]; omega)) (fun a1 c1 junk1 ho1 => ?_)
    refine Wl.on0 ?_
    refine Gm.q 17 [] (by kernel_rfl) rfl rfl (Qy.assign rfl) ?_
    refine Gm.doneA (by kernel_rfl) ⟨rfl, trivial⟩ (by first | exact Imm.le_refl _ | repeat (first | assumption | refine Imm.le_trans ?_ (by assumption))) ?_
    refine Ar.ga 7 [] ?_
    refine Ar.re 6 rfl (show _ = Value.int .i64 ((k + 1 : Nat) : Int) from rfl) ?_
    refine Ar.again ((k + 1, _, r ++ [rt5], (a1, c1, junk1))) ?_ ?_ rfl ⟨rfl, rfl, rfl, rfl, rfl, trivial⟩ ⟨rfl, rfl, trivial⟩
    · refine ⟨by omega, Imm.le_trans hk2 (by repeat (first | assumption | refine Imm.le_trans ?_ (by assumption))), by rw [List.length_append, hk3]; rfl, ?_, ho1⟩
      have e : (powR a b n).take (k + 1) = (powR a b n).take k ++ [a ^ (k : Int).toNat * b ^ ((n : Int) - 1 - (k : Int)).toNat] := by
        rw [List.take_add_one]
        congr 1
        unfold powR
        rw [List.getElem?_map, List.getElem?_range hke, Int.toNat_natCast, show ((n : Int) - 1 - (k : Int)).toNat = n - 1 - k by omega]; rfl
      rw [e]
      exact hk4.snoc hrt5
    · show n - (k + 1) < n - k
      omega
  · have hie : k = n := by omega
    subst hie
    have e : (powR a b k).take k = powR a b k := List.take_of_length_le (by unfold powR; simp)
    rw [e] at hk4
    refine Wc.ga 21 [0] ?_
    refine Ar.freezeRow 9 rfl hk5 (fun G8 hle8 hA8 => ?_)
    refine Ar.out1 (.inr rfl) (Ho := []) rfl (.tmp rfl) trivial ?_
    exact ⟨_, _, _, rfl, hA8, hk4.up hle8, hk5.le, rfl⟩
end Go.Proofs.YtbppmiimeccclaaGreat
set_option maxRecDepth 100000
set_option linter.unusedVariables false
namespace Go.Proofs.YtbppmiimeccclaaGreat
open Go Go.Sl
set_option maxHeartbeats 4000000
attribute [local irreducible] valB valL pb pw cmpZ lstWp p2 RightL powR
/-- a row of the reference's numbers, by its slice -/
def NRow (G : Imm) (s : SV) (zs : List Int) : Prop := ∃ l : List IV, l.length = s.n ∧ s.n ≤ s.c ∧ Arr G s.a l ∧ Nums G l zs
theorem NRow.up {G G' : Imm} {s : SV} {zs : List Int} (h : NRow G s zs) (hl : G.le G') : NRow G' s zs := by
  obtain ⟨l, h1, h2, h3, h4⟩ := h
  exact ⟨l, h1, h2, h3.up hl, h4.up hl⟩
def NGrid (G : Imm) (l : List SV) (rs : List (List Int)) : Prop := l.length = rs.length ∧ ∀ i : Nat, i < l.length → NRow G (l[i]?.getD default) (rs[i]?.getD [])
theorem NGrid.up {G G' : Imm} {l : List SV} {rs : List (List Int)} (h : NGrid G l rs) (hl : G.le G') : NGrid G' l rs := ⟨h.1, fun i hi => (h.2 i hi).up hl⟩
theorem NGrid.nil (G : Imm) : NGrid G [] [] := ⟨rfl, fun i hi => by simp at hi⟩
theorem NGrid.snoc {G : Imm} {l : List SV} {rs : List (List Int)} (h : NGrid G l rs) {s : SV} {zs : List Int} (hs : NRow G s zs) : NGrid G (l ++ [s]) (rs ++ [zs]) := by
  refine ⟨by rw [List.length_append, List.length_append, h.1]; rfl, fun i hi => ?_⟩
  rw [List.length_append, List.length_singleton] at hi
  rcases Nat.lt_or_ge i l.length with h1 | h1
  · rw [List.getElem?_append_left h1, List.getElem?_append_left (by rw [← h.1]; exact h1)]; exact h.2 i h1
  · have : i = l.length := by omega
    subst this
    rw [List.getElem?_append_right (Nat.le_refl _), List.getElem?_append_right (by rw [h.1]; exact Nat.le_refl _), Nat.sub_self, h.1, Nat.sub_self]
    exact hs
theorem c35 (G : Imm) (a : Option Addr) (c : Nat) (l : List R2) (ha : Arr G a l) (h1 : l.length ≤ 1048576) (hc : l.length ≤ c) (hr1 : l.length ≤ 15) (hr2 : ∀ i, i < l.length → okP (l[i]?.getD default)) :
    Does Tryz.prog 35 [.slice a l.length c] G [] (fun v G' Ho => ∃ (s : Option Addr) (r : List SV) (c' : Nat), v = .slice s r.length c' ∧ Arr G' s r ∧ NGrid G' r (gridR l) ∧ r.length ≤ c' ∧ Ho = []) := by
  refine Does.enter Tryz.func35 rfl Tryz.ntmps35 rfl (fun w => ?_)
  refine Wc.nilRow 9 (Row 74 ([] : List SV) []) ?_
  refine Wc.gc 17 [] ?_
  refine Wc.loopG (ι := Nat × Imm × List SV × (Option Addr × Nat × List Value)) (fun (i, Gx, r, (o, d, j)) => ([(4, .int .i64 (i : Int)), (3, .slice o r.length d), (2, Go.Value.slice Option.none 0 0), (0, Go.Value.slice a (List.length l) c)], [(9, o.map (·.block), Row 74 r j)])) (fun (i, Gx, r, (o, d, j)) => Gx) (fun (i, Gx, r, (o, d, j)) => i ≤ l.length ∧ G.le Gx ∧ r.length = i ∧ NGrid Gx r ((gridR l).take i) ∧ OwnA o d r j) (fun (i, Gx, r, (o, d, j)) => l.length - i) ((0, G, [], (none, 0, []))) (⟨Nat.zero_le _, Imm.le_refl _, rfl, by rw [List.take_zero]; exact NGrid.nil _, OwnA.nil⟩) rfl ⟨rfl, rfl, rfl, rfl, trivial⟩ ⟨rfl, trivial⟩ (fun ⟨i, Gx, r, (o, d, j)⟩ => fun (hk : i ≤ l.length ∧ G.le Gx ∧ r.length = i ∧ NGrid Gx r ((gridR l).take i) ∧ OwnA o d r j) => ?_)
  obtain ⟨hi1, hi2, hi3, hi4, hi5⟩ := hk
  replace ha := ha.up hi2
  rcases Nat.lt_or_ge i l.length with hil | hil
  · have hnear : near (l[((i : Nat) : Int).toNat]?.getD default).a (l[((i : Nat) : Int).toNat]?.getD default).b := (hr2 i hil).1
    refine Wc.gl 18 [1] ?_
    refine Wl.q rfl (Qy.at (α := R2) T.sl26 rfl rfl (by assumption) (by omega)) ?_
    refine Wl.q rfl (Qy.loadsG T.agg59 rfl (Arr.elem (by assumption) (by omega)) rfl) ?_
    refine Wl.ll0 2 [] ?_
    refine Wl.call 10 rfl T.fn81 rfl (c81 _ _ _ l.length hnear (by omega)) (tags_of trivial) (fun v1 G1 Ho1 hle1 hp => ?_)
    obtain ⟨ps1, pr1, pc1, rfl, hpA1, hpB1, hpL1, rfl⟩ := hp
    replace ha := ha.up hle1
    refine Wl.lit (α := SV) 10 [⟨_, _, _⟩] rfl T.sl69 T.el74 rfl rfl rfl rfl rfl (fun b1 => ?_)
    refine Wl.append (α := SV) 9 rfl T.sl69 T.el74 rfl rfl rfl (by first | assumption | exact OwnA.nil | exact OwnA.made (by simp)) (Src.row 10 rfl) (by first | omega | (simp only [List.length_append, List.length_cons, List.length_nil, maxLen]; omega)) (by first | omega | (simp only [List.length_append, List.length_cons, List.length_nil, maxLen]; omega)) (fun a1 c1 junk1 ho1 => ?_)
    refine Wl.ga 9 [] ?_
    refine Ar.re 4 rfl (show _ = Value.int .i64 ((i + 1 : Nat) : Int) from rfl) ?_
    refine Ar.again ((i + 1, _, r ++ [⟨ps1, pr1.length, pc1⟩], (a1, c1, junk1))) ?_ ?_ rfl ⟨rfl, rfl, rfl, rfl, trivial⟩ ⟨rfl, trivial⟩
    · refine ⟨by omega, Imm.le_trans hi2 (by assumption), by rw [List.length_append, hi3]; rfl, ?_, ho1⟩
      have e : (gridR l).take (i + 1) = (gridR l).take i ++ [powR (l[((i : Nat) : Int).toNat]?.getD default).a (l[((i : Nat) : Int).toNat]?.getD default).b l.length] := by
        rw [List.take_add_one]
        congr 1
        unfold gridR
        rw [List.getElem?_map, Int.toNat_natCast, List.getElem?_eq_getElem hil]; rfl
      rw [e]
      exact NGrid.snoc (by first | assumption | exact hi4.up (by assumption)) ⟨pr1, rfl, hpL1, hpA1, hpB1⟩
    · show l.length - (i + 1) < l.length - i
      omega
  · have hie : i = l.length := by omega
    subst hie
    have e : (gridR l).take l.length = gridR l := List.take_of_length_le (by unfold gridR; rw [List.length_map]; exact Nat.le_refl _)
    rw [e] at hi4
    refine Wc.ga 22 [0] ?_
    refine Ar.freezeRow 9 rfl hi5 (fun G8 hle8 hA8 => ?_)
    refine Ar.out1 (.inr rfl) (Ho := []) rfl (.tmp rfl) trivial ?_
    exact ⟨_, _, _, rfl, hA8, hi4.up hle8, hi5.le, rfl⟩
end Go.Proofs.YtbppmiimeccclaaGreat
set_option maxRecDepth 100000
set_option linter.unusedVariables false
namespace Go.Proofs.YtbppmiimeccclaaGreat
open Go Go.Sl
set_option maxHeartbeats 4000000
theorem follow_none (G : Imm) (p : PV) (ac ao ga : Option Addr) (cc co gc : Nat) (gl : List SV) (gs : List (List Int)) (N : Nat) (hc : Arr G ac p.code) (ho : Arr G ao p.outs) (hga : Arr G ga gl) (hgg : Grid G gl gs) (hev : Even 4 N gs) (hN : N ≤ 1048576) (hR : rightP p = true) (hgi : (gl.length : Int) = p.ins) (hcl : p.code.length ≤ 16384) (hf : followP p gs = none) :
    Does Tryz.prog 34 [.agg #[.int .i64 p.ins, .int .i64 p.regs, .slice ac p.code.length cc, .slice ao p.outs.length co], .slice ga gl.length gc] G [] (fun v G' Ho => ∃ sv bad, v = .tuple #[sv, .int .i64 bad, .slice none 0 0] ∧ 0 ≤ bad ∧ Ho = []) := by
  refine (c34 G p ac ao ga cc co gc gl gs N hc ho hga hgg hev hN hR hgi hcl).mono fun v G' Ho _ ⟨sv, bad, ov, e, h1, h2, h3⟩ => ?_
  obtain ⟨e1, e2⟩ := h1 hf
  subst e2
  exact ⟨sv, bad, e, e1, h3⟩
theorem follow_some (G : Imm) (p : PV) (ac ao ga : Option Addr) (cc co gc : Nat) (gl : List SV) (gs : List (List Int)) (N : Nat) (hc : Arr G ac p.code) (ho : Arr G ao p.outs) (hga : Arr G ga gl) (hgg : Grid G gl gs) (hev : Even 4 N gs) (hN : N ≤ 1048576) (hR : rightP p = true) (hgi : (gl.length : Int) = p.ins) (hcl : p.code.length ≤ 16384) (os : List (List Int)) (hf : followP p gs = some os) :
    Does Tryz.prog 34 [.agg #[.int .i64 p.ins, .int .i64 p.regs, .slice ac p.code.length cc, .slice ao p.outs.length co], .slice ga gl.length gc] G [] (fun v G' Ho => ∃ sv oa oc ol, v = .tuple #[sv, .int .i64 (-1), .slice oa ol.length oc] ∧ Arr G' oa ol ∧ Grid G' ol os ∧ Ho = []) := by
  refine (c34 G p ac ao ga cc co gc gl gs N hc ho hga hgg hev hN hR hgi hcl).mono fun v G' Ho _ ⟨sv, bad, ov, e, h1, h2, h3⟩ => ?_
  obtain ⟨e1, oa, oc, ol, e2, e3, e4⟩ := h2 os hf
  subst e1 e2
  exact ⟨sv, oa, oc, ol, e, e3, e4, h3⟩
theorem follow_len {p : PV} {gs os : List (List Int)} (h : followP p gs = some os) : os.length = p.outs.length := by
  unfold followP at h
  obtain ⟨rs, h1, h2⟩ := Option.map_eq_some_iff.1 h
  subst h2
  unfold outsOf; rw [List.length_map]
theorem row_same (G : Imm) (s t : SV) (xs ys : List Int) (hs : RowS G s xs) (ht : RowS G t ys) (m : Nat) (hm : m ≤ 1073741824) (bx : Go.Sl.Below m xs) (by' : Go.Sl.Below m ys) (h1 : s.n ≤ 1048576) (h2 : t.n ≤ 1048576) :
    Does Tryz.prog 38 [.slice s.a s.n s.c, .slice t.a t.n t.c] G [] (fun v G' Ho => v = .bool (decide (xs = ys)) ∧ G' = G ∧ Ho = []) := by
  obtain ⟨sa, sn, sc⟩ := s
  obtain ⟨ta, tn, tc⟩ := t
  obtain ⟨l, hl, hc, hA, hN⟩ := hs
  obtain ⟨l', hl', hc', hA', hN'⟩ := ht
  simp only at hl hc hA h1 hl' hc' hA' h2
  subst hl hl'
  exact c38 G sa ta sc tc l l' xs ys hA hA' hN hN' m hm bx by' (by omega) (by omega)
theorem run_even {p : PV} {gs : List (List Int)} {N : Nat} (hR : rightP p = true) (hev : Even 4 N gs) (h0 : 0 < gs.length) : ∀ (k : Nat) (rs : List (List Int)), k ≤ p.code.length → runTo p gs k = some rs → Even (4 + 5 * k) N rs ∧ rs.length = p.regs.toNat
  | 0, rs, _, h => by
    cases h
    exact ⟨even_regs0 hev h0, regs0_len p gs⟩
  | k + 1, rs, hk, h => by
    obtain ⟨f1, f2, f3, f4, f5, f6, f7, f8⟩ := right_facts hR
    unfold runTo at h
    obtain ⟨rs0, h1, h2⟩ := Option.bind_eq_some_iff.1 h
    obtain ⟨y, h3, h4⟩ := Option.map_eq_some_iff.1 h2
    obtain ⟨he, hl⟩ := run_even hR hev h0 k rs0 (by omega) h1
    subst h4
    have hmem : (p.code[((k : Nat) : Int).toNat]?.getD default) ∈ p.code := by
      rw [Int.toNat_natCast, List.getElem?_eq_getElem (by omega)]; exact List.getElem_mem _
    obtain ⟨m1, m2, m3, m4, m5, m6, m7, m8⟩ := may_facts (f8 _ hmem)
    have hx := doI_even (i := p.code[((k : Nat) : Int).toNat]?.getD default) he (by omega) (fun h => by have := m4 h; omega) (fun h => (m6 (by omega) (by omega) (by omega) (by omega)).2) h3
    refine ⟨?_, by rw [List.length_set]; exact hl⟩
    rw [show 4 + 5 * (k + 1) = 5 + (4 + 5 * k) by omega]
    exact even_set (he.mono (by omega)) hx _
theorem follow_even {p : PV} {gs os : List (List Int)} {N : Nat} (hR : rightP p = true) (hev : Even 4 N gs) (h0 : 0 < gs.length) (h : followP p gs = some os) : Even (4 + 5 * p.code.length) N os := by
  obtain ⟨f1, f2, f3, f4, f5, f6, f7, f8⟩ := right_facts hR
  unfold followP at h
  obtain ⟨rs, h1, h2⟩ := Option.map_eq_some_iff.1 h
  obtain ⟨he, hl⟩ := run_even hR hev h0 _ rs (Nat.le_refl _) h1
  subst h2
  intro zs hz
  unfold outsOf at hz
  obtain ⟨r, hr, rfl⟩ := List.mem_map.1 hz
  exact he.at (k := r) (by have := f7 r hr; omega)
theorem ngrid_grid {G : Imm} {l : List SV} {rs : List (List Int)} (h : NGrid G l rs) : Grid G l rs := ⟨h.1, h.2⟩
theorem gridR_lenN (l : List R2) : (gridR l).length = l.length := by unfold gridR; rw [List.length_map]
theorem powR_even {a b : Int} {n : Nat} (h : near a b) (hn : n ≤ 15) : (powR a b n).length = n ∧ Go.Sl.Below 4 (powR a b n) := by
  refine ⟨by unfold powR; rw [List.length_map, List.length_range], fun z hz => ?_⟩
  unfold powR at hz
  obtain ⟨k, hk, rfl⟩ := List.mem_map.1 hz
  have hk := List.mem_range.1 hk
  have e4 : pw 4 = 18446744073709551616 := by unfold pw; decide
  have e : (a ^ k * b ^ (n - 1 - k)).natAbs ≤ 16 ^ 15 := by
    rw [Int.natAbs_mul, Int.natAbs_pow, Int.natAbs_pow]
    refine Nat.le_trans (Nat.mul_le_mul (Nat.pow_le_pow_left (show a.natAbs ≤ 16 by unfold near at h; omega) k) (Nat.pow_le_pow_left (show b.natAbs ≤ 16 by unfold near at h; omega) _)) ?_
    rw [← Nat.pow_add]
    exact Nat.pow_le_pow_right (by omega) (by omega)
  have e3 : (16 : Nat) ^ 15 = 1152921504606846976 := by decide
  omega
theorem gridR_even {l : List R2} (h1 : l.length ≤ 15) (hr : ∀ i, i < l.length → near (l[i]?.getD default).a (l[i]?.getD default).b) : Even 4 l.length (gridR l) := fun zs hz => by
  unfold gridR at hz
  obtain ⟨p, hp, rfl⟩ := List.mem_map.1 hz
  obtain ⟨i, hi, rfl⟩ := List.mem_iff_getElem.1 hp
  have := hr i hi
  rw [List.getElem?_eq_getElem hi] at this
  have this : near l[i].a l[i].b := this
  exact powR_even this h1
/-- the row with a one at j -/
def unitR (n j : Nat) : List Int := (List.replicate n 0).set j 1
theorem unit_nums {G : Imm} {n j : Nat} {x : IV} (hx : Num G x 1) (hj : j < n) : Nums G ((List.replicate n (default : IV)).set j x) (unitR n j) := by
  unfold unitR
  refine ⟨by rw [List.length_set, List.length_set, List.length_replicate, List.length_replicate], fun i hi => ?_⟩
  rw [List.length_set, List.length_replicate] at hi
  rw [List.getElem?_set, List.getElem?_set]
  by_cases h : j = i
  · subst h
    rw [if_pos rfl, if_pos rfl, if_pos (by rw [List.length_replicate]; exact hj), if_pos (by rw [List.length_replicate]; exact hj)]
    exact hx
  · rw [if_neg h, if_neg h, List.getElem?_replicate, List.getElem?_replicate, if_pos hi, if_pos hi]
    exact Num.zero G
theorem unit_below (n j m : Nat) (hm : 1 ≤ m) : Go.Sl.Below m (unitR n j) := by
  have h1 : pw 1 = 65536 := by unfold pw; decide
  refine Go.Sl.Below.mono (m := 1) (fun z hz => ?_) hm
  unfold unitR at hz
  rcases List.mem_or_eq_of_mem_set hz with h | h
  · rw [List.eq_of_mem_replicate h, h1]; decide
  · rw [h, h1]; decide
/-- does a program interpolate there? -/
def InterpP (p : PV) (l : List R2) : Prop := rightP p = true ∧ p.ins = l.length ∧ p.outs.length = l.length ∧ followP p (gridR l) = some ((List.range l.length).map (unitR l.length))
instance (p : PV) (l : List R2) : Decidable (InterpP p l) := inferInstanceAs (Decidable (_ ∧ _))
attribute [local irreducible] valB valL pb pw cmpZ lstWp p2 powR gridR followP rightP
theorem c36W (G : Imm) (n : Nat) (hn : n ≤ 1048576) :
    Does Tryz.prog 36 [.int .i64 (n : Int)] G [] (fun v G' Ho => ∃ b, v = .slice (some ⟨b, 0, none⟩) (List.replicate n (default : IV)).length n ∧ G' = G ∧ OwnA (some ⟨b, 0, none⟩) n (List.replicate n (default : IV)) [] ∧ Ho = [(0, some b, Row 78 (List.replicate n (default : IV)) [])]) := by
  refine Does.enter Tryz.func36 rfl Tryz.ntmps36 rfl (fun w => ?_)
  refine Wc.gl 8 [] ?_
  refine Wl.make (α := IV) 0 rfl T.sl74 T.el78 rfl rfl (by omega) (by omega) (fun b1 => ?_)
  refine Wl.ga 4 [] ?_
  have e : (List.replicate ((n : Int)).toNat (default : IV)).length = n := by rw [List.length_replicate]; omega
  refine Ar.out1 (.inr rfl) (Ho := [(0, some b1, Row 78 (List.replicate n (default : IV)) [])]) rfl (.tmp rfl) ⟨rfl, trivial⟩ ?_
  refine ⟨b1, by simp, rfl, .inr ⟨b1, rfl, by rw [List.length_replicate]; rfl, by rw [List.length_replicate]; exact Nat.le_refl _, by simp only [maxLen]; omega⟩, rfl⟩
theorem c10 (G : Imm) (p : PV) (ac ao a : Option Addr) (cc co c : Nat) (l : List R2) (hc : Arr G ac p.code) (ho : Arr G ao p.outs) (ha : Arr G a l) (hcl : p.code.length ≤ 16384) (hol : p.outs.length ≤ 1099511627776) (hlc : l.length ≤ c) (hr0 : 1 ≤ l.length) (hr1 : l.length ≤ 15) (hr2 : ∀ i, i < l.length → okP (l[i]?.getD default)) :
    Does Tryz.prog 10 [.agg #[.int .i64 p.ins, .int .i64 p.regs, .slice ac p.code.length cc, .slice ao p.outs.length co], .slice a l.length c] G [] (fun v G' Ho => v = .bool (decide (InterpP p l)) ∧ Ho = []) := by
  have hr : ∀ i, i < l.length → near (l[i]?.getD default).a (l[i]?.getD default).b := fun i hi => (hr2 i hi).1
  have hev := gridR_even hr1 hr
  refine Does.enter Tryz.func10 rfl Tryz.ntmps10 rfl (fun w => ?_)
  refine Wc.gl 2 [] ?_
  refine Wl.box 0 rfl rfl rfl (fun b1 => ?_)
  refine Wl.gl 6 [0] ?_
  refine Wl.call0 rfl T.fn9 rfl (c9 _ p _ _ _ _ (by assumption) (by assumption) (by omega) (by omega)) ?_
  refine Wl.gl 7 [] ?_
  refine Wl.q rfl (Qy.notD rfl) ?_
  refine Wl.q rfl (Qy.move rfl) ?_
  apply Wl.joinOr 6 15 21 rfl
  intro hg1
  refine Wl.ll0 11 [0] ?_
  exact Wl.back 6 0 rfl rfl rfl rfl rfl
  intro hg1
  refine Wl.ll0 6 [] ?_
  exact Wl.back 6 0 rfl rfl rfl rfl rfl
  refine Wl.q rfl (Qy.move rfl) ?_
  apply Wl.joinOr 7 22 29 rfl
  intro hg1
  refine Wl.ll0 13 [0] ?_
  exact Wl.back 7 0 rfl rfl rfl rfl rfl
  intro hg1
  refine Wl.ll0 7 [] ?_
  exact Wl.back 7 0 rfl rfl rfl rfl rfl
  refine Wl.gc 2 [] ?_
  refine Wc.cond rfl (fun hc1 => ?_) (fun hc1 => ?_)
  refine Wc.ga 7 [] ?_
  rotate_left
  refine Wc.gc 3 [] ?_
  refine Wc.draw [0] [(0, 3)] T.mixed rfl ?_
  refine Gm.q 0 [0] (by kernel_rfl) rfl rfl (Qy.loadAll 0 T.agg25 rfl rfl rfl) ?_
  refine Gm.q 1 [] (by kernel_rfl) rfl rfl (Qy.move rfl) ?_
  refine Gm.one 2 ⟨rfl, trivial⟩ (by first | exact Imm.le_refl _ | repeat (first | assumption | refine Imm.le_trans ?_ (by assumption))) (by kernel_rfl) rfl ?_
  refine Wl.call 1 rfl T.fn35 rfl (c35 _ _ _ l (by assumption) (by omega) hlc hr1 hr2) (tags_of trivial) (fun v1 G1 Ho1 hle1 hp => ?_)
  obtain ⟨ws1, wr1, wc1, rfl, hwA1, hwB1, hwL1, rfl⟩ := hp
  replace hc := hc.up hle1
  replace ho := ho.up hle1
  replace ha := ha.up hle1
  refine Wl.on0 ?_
  refine Gm.one 3 ⟨rfl, trivial⟩ (by first | exact Imm.le_refl _ | repeat (first | assumption | refine Imm.le_trans ?_ (by assumption))) (by kernel_rfl) rfl ?_
  rotate_left
  · refine Ar.out1 (.inr rfl) (Ho := []) rfl (.tmp rfl) trivial ?_
    refine ⟨?_, rfl⟩
    congr 1
    refine (decide_eq_false fun h => ?_).symm
    obtain ⟨h1, h2, h3, _⟩ := h
    rcases hc1 with (h | h) | h
    · exact h h1
    · exact h h2
    · omega
  have hR : rightP p = true := Classical.byContradiction fun h => hc1 (.inl (.inl h))
  have hpi : p.ins = l.length := Classical.byContradiction fun h => hc1 (.inl (.inr h))
  have hpo : p.outs.length = l.length := Classical.byContradiction fun h => hc1 (.inr (by omega))
  have hwl : wr1.length = l.length := hwB1.1.trans (gridR_lenN l)
  cases hf : followP p (gridR l) with
  | none =>
    refine Wl.call 1 rfl T.fn34 rfl (follow_none _ p _ _ _ _ _ _ _ (gridR l) l.length (by assumption) (by assumption) (by assumption) (ngrid_grid hwB1) hev (by omega) hR (by omega) hcl hf) (tags_of trivial) (fun v2 G2 Ho2 hle2 hp => ?_)
    obtain ⟨sv2, bad2, rfl, hbad2, rfl⟩ := hp
    replace hwA1 := hwA1.up hle2
    replace hc := hc.up hle2
    replace ho := ho.up hle2
    replace ha := ha.up hle2
    refine Wl.on0 ?_
    refine Gm.q 4 [] (by kernel_rfl) rfl rfl (Qy.move rfl) ?_
    refine Gm.q 5 [] (by kernel_rfl) rfl rfl (Qy.extract rfl rfl) ?_
    refine Gm.q 6 [] (by kernel_rfl) rfl rfl (Qy.extract rfl rfl) ?_
    refine Gm.q 7 [] (by kernel_rfl) rfl rfl (Qy.extract rfl rfl) ?_
    refine Gm.q 8 [] (by kernel_rfl) rfl rfl (Qy.assign rfl) ?_
    refine Gm.q 9 [] (by kernel_rfl) rfl rfl (Qy.assign rfl) ?_
    refine Gm.q 10 [] (by kernel_rfl) rfl rfl (Qy.assign rfl) ?_
    refine Gm.doneA (by kernel_rfl) trivial (by first | exact Imm.le_refl _ | repeat (first | assumption | refine Imm.le_trans ?_ (by assumption))) ?_
    refine Ar.ga 16 [1] ?_
    refine Ar.out1 (.inr rfl) (Ho := []) rfl (.tmp rfl) trivial ?_
    refine ⟨?_, rfl⟩
    congr 1
    refine (decide_eq_false fun h => ?_).symm
    have h4 := h.2.2.2
    rw [hf] at h4
    cases h4
  | some os =>
    refine Wl.call 1 rfl T.fn34 rfl (follow_some _ p _ _ _ _ _ _ _ (gridR l) l.length (by assumption) (by assumption) (by assumption) (ngrid_grid hwB1) hev (by omega) hR (by omega) hcl os hf) (tags_of trivial) (fun v2 G2 Ho2 hle2 hp => ?_)
    obtain ⟨sv2, oa2, oc2, ol2, rfl, hoA2, hoG2, rfl⟩ := hp
    replace hwA1 := hwA1.up hle2
    replace hc := hc.up hle2
    replace ho := ho.up hle2
    replace ha := ha.up hle2
    refine Wl.on0 ?_
    refine Gm.q 4 [] (by kernel_rfl) rfl rfl (Qy.move rfl) ?_
    refine Gm.q 5 [] (by kernel_rfl) rfl rfl (Qy.extract rfl rfl) ?_
    refine Gm.q 6 [] (by kernel_rfl) rfl rfl (Qy.extract rfl rfl) ?_
    refine Gm.q 7 [] (by kernel_rfl) rfl rfl (Qy.extract rfl rfl) ?_
    refine Gm.q 8 [] (by kernel_rfl) rfl rfl (Qy.assign rfl) ?_
    refine Gm.q 9 [] (by kernel_rfl) rfl rfl (Qy.assign rfl) ?_
    refine Gm.q 10 [] (by kernel_rfl) rfl rfl (Qy.assign rfl) ?_
    refine Gm.doneA (by kernel_rfl) trivial (by first | exact Imm.le_refl _ | repeat (first | assumption | refine Imm.le_trans ?_ (by assumption))) ?_
    refine Ar.gc 18 [0] ?_
    have hol2 : ol2.length = l.length := by rw [hoG2.1, follow_len hf, hpo]
    have hose := follow_even hR hev (by rw [gridR_lenN]; omega) hf
    refine Wc.loopG (ι := Nat × Imm) (fun (j, Gx) => ([(9, .int .i64 (j : Int)), (8, Go.Value.slice oa2 (List.length ol2) oc2), (1, Go.Value.slice a (List.length l) c)], [(0, Option.some b1, Go.Obj.cells #[Go.Value.int Go.IntKind.i64 (Go.Proofs.YtbppmiimeccclaaGreat.PV.ins p), Go.Value.int Go.IntKind.i64 (Go.Proofs.YtbppmiimeccclaaGreat.PV.regs p), Go.Value.slice ac (List.length (Go.Proofs.YtbppmiimeccclaaGreat.PV.code p)) cc, Go.Value.slice ao (List.length (Go.Proofs.YtbppmiimeccclaaGreat.PV.outs p)) co] 25)])) (fun (j, Gx) => Gx) (fun (j, Gx) => j ≤ l.length ∧ G2.le Gx ∧ (∀ i, i < j → os[i]?.getD [] = unitR l.length i)) (fun (j, Gx) => l.length - j) ((0, G2)) (⟨Nat.zero_le _, Imm.le_refl _, fun i h => absurd h (by omega)⟩) rfl ⟨rfl, rfl, rfl, trivial⟩ ⟨rfl, trivial⟩ (fun ⟨j, Gx⟩ => fun (hk : j ≤ l.length ∧ G2.le Gx ∧ (∀ i, i < j → os[i]?.getD [] = unitR l.length i)) => ?_)
    obtain ⟨hj1, hj2, hj3⟩ := hk
    replace ha := ha.up hj2
    replace hoA2 := hoA2.up hj2
    rcases Nat.lt_or_ge j l.length with hjl | hjl
    · refine Wc.gl 18 [1] ?_
      refine Wl.call 20 rfl T.fn36 rfl (c36W _ l.length (by omega)) (tags_of trivial) (fun v3 G3 Ho3 hle3 hp => ?_)
      obtain ⟨ub, rfl, rfl, huo, rfl⟩ := hp
      refine Wl.gl 7 [] ?_
      refine Wl.call 21 rfl T.fn37 rfl (c37 _ 1 (by decide)) (tags_of trivial) (fun v4 G4 Ho4 hle4 hp => ?_)
      obtain ⟨ro4, rfl, hro4, rfl⟩ := hp
      replace ha := ha.up hle4
      replace hoA2 := hoA2.up hle4
      refine Wl.q rfl (Qy.indexAddrO (α := IV) T.sl74 rfl rfl huo (by rw [List.length_replicate]; omega)) ?_
      refine Wl.setO (α := IV) (z := ro4) 20 T.size78 rfl rfl rfl huo (by rw [List.length_replicate]; omega) rfl (fun huo2 => ?_)
      refine Wl.gl 6 [] ?_
      refine Wl.q rfl (Qy.at (α := SV) T.sl69 rfl rfl (by assumption) (by omega)) ?_
      refine Wl.q rfl (Qy.loadG T.one74 rfl (Arr.cell (by assumption) (by omega) 0 rfl rfl)) ?_
      refine Wl.q rfl (Qy.move rfl) ?_
      have hRow : RowS G4 (ol2[((j : Nat) : Int).toNat]?.getD default) (os[j]?.getD []) := (hoG2.up (Imm.le_trans hj2 hle4)).2 j (by omega)
      have hose2 : (os[j]?.getD []).length = l.length ∧ Go.Sl.Below (4 + 5 * p.code.length) (os[j]?.getD []) := hose.at (k := (j : Int)) (by rw [follow_len hf]; omega)
      refine Wl.callB 30 rfl T.fn38 rfl (fun Gy hGy hgy => row_same Gy (ol2[((j : Nat) : Int).toNat]?.getD default) ⟨some ⟨ub, 0, none⟩, (List.replicate l.length (default : IV)).length, l.length⟩ (os[j]?.getD []) (unitR l.length j) (hRow.up hGy)
        ⟨(List.replicate l.length (default : IV)).set j ro4, by rw [List.length_set], by rw [List.length_replicate]; exact Nat.le_refl _, Arr.own hgy 20 rfl huo2, unit_nums (hro4.up hGy) hjl⟩ (4 + 5 * p.code.length) (by omega) hose2.2 (unit_below _ _ _ (by omega)) ?_ ?_) (fun v5 Gy5 G5 Ho5 hle5 hp => ?_)
      · obtain ⟨q, hq1, _, _, hq4⟩ := hRow
        rw [← hq1, hq4.1, hose2.1]; omega
      · show (List.replicate l.length (default : IV)).length ≤ 1048576
        rw [List.length_replicate]; omega
      · obtain ⟨rfl, rfl, rfl⟩ := hp
        refine Wl.q rfl (Qy.notD rfl) ?_
        refine Wl.gc 2 [] ?_
        refine Wc.cond rfl (fun hc2 => ?_) (fun hc2 => ?_)
        refine Wc.ga 11 [] ?_
        rotate_left
        refine Wc.ga 8 [] ?_
        rotate_left
        · refine Ar.out1 (.inr rfl) (Ho := []) rfl (.tmp rfl) trivial ?_
          refine ⟨?_, rfl⟩
          congr 1
          refine (decide_eq_false fun h => ?_).symm
          have h4 := h.2.2.2
          rw [hf] at h4
          have h5 : os = (List.range l.length).map (unitR l.length) := Option.some.inj h4
          refine hc2 ?_
          rw [h5, List.getElem?_map, List.getElem?_range hjl]; rfl
        · refine Ar.re 9 rfl (show _ = Value.int .i64 ((j + 1 : Nat) : Int) from rfl) ?_
          refine Ar.again ((j + 1, _)) ?_ ?_ rfl ⟨rfl, rfl, rfl, trivial⟩ ⟨rfl, trivial⟩
          · refine ⟨hjl, Imm.le_trans hj2 hle4, fun i hi => ?_⟩
            rcases Nat.lt_or_ge i j with h | h
            · exact hj3 i h
            · have e : i = j := by omega
              subst e
              exact Classical.byContradiction fun h => hc2 h
          · show l.length - (j + 1) < l.length - j
            omega
    · have hje : j = l.length := by omega
      subst hje
      refine Wc.ga 21 [0] ?_
      refine Ar.out1 (.inr rfl) (Ho := []) rfl (.tmp rfl) trivial ?_
      refine ⟨?_, rfl⟩
      congr 1
      refine (decide_eq_true ⟨hR, hpi, hpo, ?_⟩).symm
      rw [hf]
      congr 1
      have hosl : os.length = l.length := by rw [follow_len hf, hpo]
      apply List.ext_getElem
      · rw [hosl, List.length_map, List.length_range]
      · intro i h1 h2
        have h3 := hj3 i (by omega)
        rw [List.getElem?_eq_getElem h1] at h3
        rw [List.getElem_map, List.getElem_range]
        exact h3
end Go.Proofs.YtbppmiimeccclaaGreat
set_option maxRecDepth 100000
set_option linter.unusedVariables false
namespace Go.Proofs.YtbppmiimeccclaaGreat
open Go Go.Sl
set_option maxHeartbeats 4000000
/-- 0 to n - 1 -/
def idx (n : Nat) : List Int := (List.range n).map fun (k : Nat) => (k : Int)
theorem idx_len (n : Nat) : (idx n).length = n := by unfold idx; rw [List.length_map, List.length_range]
theorem idx_succ (n : Nat) : idx (n + 1) = idx n ++ [(n : Int)] := by unfold idx; rw [List.range_succ, List.map_append]; rfl
theorem c39 (G : Imm) (n : Nat) (hn : n ≤ 1048576) :
    Does Tryz.prog 39 [.int .i64 (n : Int)] G [] (fun v G' Ho => ∃ (s : Option Addr) (c : Nat), v = .slice s (idx n).length c ∧ Arr G' s (idx n) ∧ (idx n).length ≤ c ∧ Ho = []) := by
  refine Does.enter Tryz.func39 rfl Tryz.ntmps39 rfl (fun w => ?_)
  refine Wc.nilRow 9 (Row 3 ([] : List Int) []) ?_
  refine Wc.gc 18 [] ?_
  refine Wc.loop (ι := Nat × (Option Addr × Nat × List Value)) (fun (k, (o, d, j)) => ([(6, .int .i64 (k : Int)), (3, .slice o (idx k).length d), (5, Go.Value.int Go.IntKind.i64 (↑n : Int)), (2, Go.Value.slice Option.none 0 0)], [(9, o.map (·.block), Row 3 (idx k) j)])) (fun (k, (o, d, j)) => k ≤ n ∧ OwnA o d (idx k) j) (fun (k, (o, d, j)) => n - k) ((0, (none, 0, []))) (⟨Nat.zero_le _, OwnA.nil⟩) ⟨rfl, rfl, rfl, rfl, trivial⟩ ⟨rfl, trivial⟩ (fun ⟨k, (o, d, j)⟩ => fun (hk : k ≤ n ∧ OwnA o d (idx k) j) => ?_)
  obtain ⟨hk1, hk2⟩ := hk
  have hkl := idx_len k
  rcases Nat.lt_or_ge k n with hke | hke
  · refine Wc.gl 20 [1] ?_
    refine Wl.lit (α := Int) 10 [((↑k : Int))] rfl T.sl23 T.el3 rfl rfl rfl rfl rfl (fun b1 => ?_)
    refine Wl.append (α := Int) 9 rfl T.sl23 T.el3 rfl rfl rfl (by first | assumption | exact OwnA.nil | exact OwnA.made (by simp)) (Src.row 10 rfl) (by first | omega | (simp only [List.length_append, List.length_cons, List.length_nil, maxLen]; omega)) (by first | omega | (simp only [List.length_append, List.length_cons, List.length_nil, maxLen]; omega)) (fun a1 c1 junk1 ho1 => ?_)
    refine Wl.ga 8 [] ?_
    refine Ar.re 6 rfl (show _ = Value.int .i64 ((k + 1 : Nat) : Int) from rfl) ?_
    refine Ar.re 3 rfl (show _ = Value.slice a1 (idx (k + 1)).length c1 by rw [idx_succ]) ?_
    refine Ar.reH 9 (Row 3 (idx (k + 1)) junk1) rfl (by rw [idx_succ]) ?_
    refine Ar.again ((k + 1, (a1, c1, junk1))) ?_ ?_ rfl ⟨rfl, rfl, rfl, rfl, trivial⟩ ⟨rfl, trivial⟩
    · exact ⟨hke, by rw [idx_succ]; exact ho1⟩
    · show n - (k + 1) < n - k
      omega
  · have hke : k = n := by omega
    subst hke
    refine Wc.ga 19 [0] ?_
    refine Ar.freezeRow 9 rfl hk2 (fun G8 hle8 hA8 => ?_)
    refine Ar.out1 (.inr rfl) (Ho := []) rfl (.tmp rfl) trivial ?_
    exact ⟨_, _, rfl, hA8, hk2.le, rfl⟩
/-- how many points have coordinates with a common factor -/
def uneven (l : List R2) : Nat := (l.filter fun p => decide (Int.gcd p.a p.b ≠ 1)).length
theorem c12 (G : Imm) (p : PV) (ac ao : Option Addr) (cc co : Nat) :
    Does Tryz.prog 12 [.agg #[.int .i64 p.ins, .int .i64 p.regs, .slice ac p.code.length cc, .slice ao p.outs.length co]] G [] (fun v G' Ho => v = .bool (decide (((p.ins = 0 ∧ p.regs = 0) ∧ p.code.length = 0) ∧ p.outs.length = 0)) ∧ G' = G ∧ Ho = []) := by
  refine Does.enter Tryz.func12 rfl Tryz.ntmps12 rfl (fun w => ?_)
  refine Wc.gl 2 [] ?_
  refine Wl.box 0 rfl rfl rfl (fun b1 => ?_)
  refine Wl.gl 9 [0] ?_
  apply Wl.joinAnd 4 6 10 rfl
  intro hg1
  refine Wl.ll0 7 [0] ?_
  exact Wl.back 4 0 rfl rfl rfl rfl rfl
  intro hg1
  refine Wl.ll0 4 [] ?_
  exact Wl.back 4 0 rfl rfl rfl rfl rfl
  refine Wl.q rfl (Qy.move rfl) ?_
  apply Wl.joinAnd 5 11 16 rfl
  intro hg1
  refine Wl.ll0 9 [0] ?_
  exact Wl.back 5 0 rfl rfl rfl rfl rfl
  intro hg1
  refine Wl.ll0 5 [] ?_
  exact Wl.back 5 0 rfl rfl rfl rfl rfl
  refine Wl.q rfl (Qy.move rfl) ?_
  apply Wl.joinAnd 5 17 22 rfl
  intro hg1
  refine Wl.ll0 9 [0] ?_
  exact Wl.back 5 0 rfl rfl rfl rfl rfl
  intro hg1
  refine Wl.ll0 5 [] ?_
  exact Wl.back 5 0 rfl rfl rfl rfl rfl
  refine Wl.ga 4 [] ?_
  refine Ar.out1 (.inr rfl) (Ho := Hp.only _ []) rfl (.tmp rfl) (Hp.sub_only _ _) ?_
  exact ⟨by congr 1; exact decide_eq_decide.mpr (by omega), rfl, rfl⟩
end Go.Proofs.YtbppmiimeccclaaGreat
set_option maxRecDepth 100000
set_option linter.unusedVariables false
namespace Go.Proofs.YtbppmiimeccclaaGreat
open Go Go.Sl
set_option maxHeartbeats 4000000
/-- a division? -/
def isDiv (i : Sl.Instr) : Prop := i.op = 6 ∨ i.op = 8
instance (i : Sl.Instr) : Decidable (isDiv i) := inferInstanceAs (Decidable (_ ∨ _))
/-- a constant that is too great -/
def farC (i : Sl.Instr) : Prop := (i.op = 6 ∨ i.op = 5) ∧ (512 < i.c ∨ i.c < -512)
instance (i : Sl.Instr) : Decidable (farC i) := inferInstanceAs (Decidable (_ ∧ _))
def divs (c : List Sl.Instr) : Nat := (c.filter fun i => decide (isDiv i)).length
/-- no more divisions than allowed, constants within reach -/
def FewP (p : PV) (l : List R2) : Prop := (∀ i ∈ p.code, ¬ farC i) ∧ (divs p.code : Int) ≤ (l.length : Int) * ((l.length : Int) - 1) / 2 + ((l.length : Int) - 1) * (uneven l : Int)
instance (p : PV) (l : List R2) : Decidable (FewP p l) := inferInstanceAs (Decidable (_ ∧ _))
end Go.Proofs.YtbppmiimeccclaaGreat
set_option maxRecDepth 100000
set_option linter.unusedVariables false
namespace Go.Proofs.YtbppmiimeccclaaGreat
open Go Go.Sl
set_option maxHeartbeats 4000000
theorem c140 (G : Imm) (b : Nat) (n : Int) (ac : Option Addr) (cc : Nat) (code : List Sl.Instr) (j : List Value) (wa : Option Addr) (wn wc : Nat) (op to x y c : Int) (ho : OwnA ac cc code j) (hl : code.length ≤ 1048576) :
    Does Tryz.prog 140 [.pointer (some ⟨b, 0, none⟩), .int .i64 op, .int .i64 to, .int .i64 x, .int .i64 y, .int .i64 c] G [(0, some b, .cells #[.int .i64 n, .slice ac code.length cc, .slice wa wn wc] 149), (1, ac.map (·.block), Row 93 code j)]
      (fun v G' Ho => v = .tuple #[] ∧ G' = G ∧ ∃ (a' : Option Addr) (c' : Nat) (j' : List Value), OwnA a' c' (code ++ [⟨op, to, x, y, c⟩]) j' ∧ Ho = [(0, some b, .cells #[.int .i64 n, .slice a' (code ++ [(⟨op, to, x, y, c⟩ : Sl.Instr)]).length c', .slice wa wn wc] 149), (1, a'.map (·.block), Row 93 (code ++ [⟨op, to, x, y, c⟩]) j')]) := by
  refine Does.enter Tryz.func140 rfl Tryz.ntmps140 rfl (fun w => ?_)
  refine Wc.gl 11 [0] ?_
  refine Wl.q rfl (Qy.build (cs := [_, _, _, _, _]) T.st93 rfl rfl rfl) ?_
  refine Wl.lit (α := Sl.Instr) 2 [⟨op, to, x, y, c⟩] rfl T.sl22 T.el93 rfl rfl rfl rfl rfl (fun b1 => ?_)
  refine Wl.append (α := Sl.Instr) 1 rfl T.sl22 T.el93 rfl rfl rfl (by first | assumption | exact OwnA.nil | exact OwnA.made (by simp)) (Src.row 2 rfl) (by first | omega | (simp only [List.length_append, List.length_cons, List.length_nil, maxLen]; omega)) (by first | omega | (simp only [List.length_append, List.length_cons, List.length_nil, maxLen]; omega)) (fun a1 c1 junk1 ho1 => ?_)
  refine Wl.ga 4 [0] ?_
  refine Ar.out0 (.inl rfl) (Ho := [(0, some b, .cells #[.int .i64 n, .slice a1 (code ++ [(⟨op, to, x, y, c⟩ : Sl.Instr)]).length c1, .slice wa wn wc] 149), (1, a1.map (·.block), Row 93 (code ++ [⟨op, to, x, y, c⟩]) junk1)]) rfl ⟨rfl, rfl, trivial⟩ ?_
  exact ⟨rfl, rfl, a1, c1, junk1, ho1, rfl⟩
end Go.Proofs.YtbppmiimeccclaaGreat
set_option maxRecDepth 100000
set_option linter.unusedVariables false
namespace Go.Proofs.YtbppmiimeccclaaGreat
open Go Go.Sl
set_option maxHeartbeats 4000000
/-- what over adds -/
def overI (to c : Int) : List Sl.Instr := if c = 1 then [] else if c = -1 then [⟨2, to, to, 0, 0⟩] else [⟨6, to, to, 0, c⟩]
theorem c87 (G : Imm) (b : Nat) (n : Int) (ac : Option Addr) (cc : Nat) (code : List Sl.Instr) (j : List Value) (wa : Option Addr) (wn wc : Nat) (to c : Int) (ho : OwnA ac cc code j) (hl : code.length ≤ 1048576) :
    Does Tryz.prog 87 [.pointer (some ⟨b, 0, none⟩), .int .i64 to, .int .i64 c] G [(0, some b, .cells #[.int .i64 n, .slice ac code.length cc, .slice wa wn wc] 149), (1, ac.map (·.block), Row 93 code j)]
      (fun v G' Ho => v = .tuple #[] ∧ G' = G ∧ ∃ (a' : Option Addr) (c' : Nat) (j' : List Value), OwnA a' c' (code ++ overI to c) j' ∧ Ho = [(0, some b, .cells #[.int .i64 n, .slice a' (code ++ overI to c).length c', .slice wa wn wc] 149), (1, a'.map (·.block), Row 93 (code ++ overI to c) j')]) := by
  refine Does.enter Tryz.func87 rfl Tryz.ntmps87 rfl (fun w => ?_)
  refine Wc.gc 12 [] ?_
  refine Wc.cond rfl (fun hc1 => ?_) (fun hc1 => ?_)
  refine Wc.ga 2 [] ?_
  rotate_left
  refine Wc.gc 6 [] ?_
  refine Wc.cond rfl (fun hc2 => ?_) (fun hc2 => ?_)
  refine Wc.gl 4 [] ?_
  refine Wl.call 0 rfl T.fn140 rfl (c140 _ b n ac cc code j wa wn wc _ _ _ _ _ ho hl) (tags_of ⟨rfl, rfl, trivial⟩) (fun v1 G1 Ho1 hle1 hp => ?_)
  obtain ⟨rfl, rfl, a1, d1, j1, ho1, rfl⟩ := hp
  refine Wl.ga 2 [] ?_
  rotate_left
  refine Wc.gl 5 [] ?_
  refine Wl.call 0 rfl T.fn140 rfl (c140 _ b n ac cc code j wa wn wc _ _ _ _ _ ho hl) (tags_of ⟨rfl, rfl, trivial⟩) (fun v1 G1 Ho1 hle1 hp => ?_)
  obtain ⟨rfl, rfl, a1, d1, j1, ho1, rfl⟩ := hp
  refine Wl.ga 2 [] ?_
  rotate_left
  · have e : overI to c = [] := by unfold overI; rw [if_pos hc1]
    rw [e, List.append_nil]
    refine Ar.out0 (by first | exact .inl rfl | exact .inr rfl) (Ho := [(0, some b, .cells #[.int .i64 n, .slice ac code.length cc, .slice wa wn wc] 149), (1, ac.map (·.block), Row 93 code j)]) rfl ⟨rfl, rfl, trivial⟩ ?_
    exact ⟨rfl, rfl, ac, cc, j, ho, rfl⟩
  · have e : overI to c = [⟨2, to, to, 0, 0⟩] := by unfold overI; rw [if_neg hc1, if_pos hc2]
    rw [e]
    refine Ar.out0 (by first | exact .inl rfl | exact .inr rfl) (Ho := [(0, some b, .cells #[.int .i64 n, .slice a1 (code ++ [(⟨2, to, to, 0, 0⟩ : Sl.Instr)]).length d1, .slice wa wn wc] 149), (1, a1.map (·.block), Row 93 (code ++ [⟨2, to, to, 0, 0⟩]) j1)]) rfl ⟨rfl, rfl, trivial⟩ ?_
    exact ⟨rfl, rfl, a1, d1, j1, ho1, rfl⟩
  · have e : overI to c = [⟨6, to, to, 0, c⟩] := by unfold overI; rw [if_neg hc1, if_neg hc2]
    rw [e]
    refine Ar.out0 (by first | exact .inl rfl | exact .inr rfl) (Ho := [(0, some b, .cells #[.int .i64 n, .slice a1 (code ++ [(⟨6, to, to, 0, c⟩ : Sl.Instr)]).length d1, .slice wa wn wc] 149), (1, a1.map (·.block), Row 93 (code ++ [⟨6, to, to, 0, c⟩]) j1)]) rfl ⟨rfl, rfl, trivial⟩ ?_
    exact ⟨rfl, rfl, a1, d1, j1, ho1, rfl⟩
/-- what times adds -/
def timesI (to x c : Int) : List Sl.Instr := if c = 0 then [⟨4, to, x, x, 0⟩] else if c = 1 ∧ to = x then [] else if c = 1 then [⟨1, to, x, 0, 0⟩] else if c = -1 then [⟨2, to, x, 0, 0⟩] else [⟨5, to, x, 0, c⟩]
theorem c89 (G : Imm) (b : Nat) (n : Int) (ac : Option Addr) (cc : Nat) (code : List Sl.Instr) (j : List Value) (wa : Option Addr) (wn wc : Nat) (to x c : Int) (ho : OwnA ac cc code j) (hl : code.length ≤ 1048576) :
    Does Tryz.prog 89 [.pointer (some ⟨b, 0, none⟩), .int .i64 to, .int .i64 x, .int .i64 c] G [(0, some b, .cells #[.int .i64 n, .slice ac code.length cc, .slice wa wn wc] 149), (1, ac.map (·.block), Row 93 code j)]
      (fun v G' Ho => v = .tuple #[] ∧ G' = G ∧ ∃ (a' : Option Addr) (c' : Nat) (j' : List Value), OwnA a' c' (code ++ timesI to x c) j' ∧ Ho = [(0, some b, .cells #[.int .i64 n, .slice a' (code ++ timesI to x c).length c', .slice wa wn wc] 149), (1, a'.map (·.block), Row 93 (code ++ timesI to x c) j')]) := by
  refine Does.enter Tryz.func89 rfl Tryz.ntmps89 rfl (fun w => ?_)
  refine Wc.gc 8 [] ?_
  refine Wc.cond rfl (fun hc1 => ?_) (fun hc1 => ?_)
  refine Wc.gl 5 [] ?_
  refine Wl.call 0 rfl T.fn140 rfl (c140 _ b n ac cc code j wa wn wc _ _ _ _ _ ho hl) (tags_of ⟨rfl, rfl, trivial⟩) (fun v1 G1 Ho1 hle1 hp => ?_)
  obtain ⟨rfl, rfl, a1, d1, j1, ho1, rfl⟩ := hp
  refine Wl.ga 2 [] ?_
  rotate_left
  refine Wc.gl 5 [] ?_
  apply Wl.joinAnd 4 24 28 rfl
  intro hg1
  refine Wl.ll0 7 [] ?_
  exact Wl.back 4 0 rfl rfl rfl rfl rfl
  intro hg1
  refine Wl.ll0 4 [] ?_
  exact Wl.back 4 0 rfl rfl rfl rfl rfl
  refine Wl.gc 3 [] ?_
  refine Wc.cond rfl (fun hc2 => ?_) (fun hc2 => ?_)
  refine Wc.ga 2 [] ?_
  rotate_left
  refine Wc.gc 7 [] ?_
  refine Wc.cond rfl (fun hc3 => ?_) (fun hc3 => ?_)
  refine Wc.gl 4 [] ?_
  refine Wl.call 0 rfl T.fn140 rfl (c140 _ b n ac cc code j wa wn wc _ _ _ _ _ ho hl) (tags_of ⟨rfl, rfl, trivial⟩) (fun v1 G1 Ho1 hle1 hp => ?_)
  obtain ⟨rfl, rfl, a1, d1, j1, ho1, rfl⟩ := hp
  refine Wl.ga 2 [] ?_
  rotate_left
  refine Wc.gc 7 [] ?_
  refine Wc.cond rfl (fun hc4 => ?_) (fun hc4 => ?_)
  refine Wc.gl 4 [] ?_
  refine Wl.call 0 rfl T.fn140 rfl (c140 _ b n ac cc code j wa wn wc _ _ _ _ _ ho hl) (tags_of ⟨rfl, rfl, trivial⟩) (fun v1 G1 Ho1 hle1 hp => ?_)
  obtain ⟨rfl, rfl, a1, d1, j1, ho1, rfl⟩ := hp
  refine Wl.ga 2 [] ?_
  rotate_left
  refine Wc.gl 5 [] ?_
  refine Wl.call 0 rfl T.fn140 rfl (c140 _ b n ac cc code j wa wn wc _ _ _ _ _ ho hl) (tags_of ⟨rfl, rfl, trivial⟩) (fun v1 G1 Ho1 hle1 hp => ?_)
  obtain ⟨rfl, rfl, a1, d1, j1, ho1, rfl⟩ := hp
  refine Wl.ga 2 [] ?_
  rotate_left
  · have e : timesI to x c = [⟨4, to, x, x, 0⟩] := by unfold timesI; rw [if_pos hc1]
    rw [e]
    refine Ar.out0 (by first | exact .inl rfl | exact .inr rfl) (Ho := [(0, some b, .cells #[.int .i64 n, .slice a1 (code ++ [(⟨4, to, x, x, 0⟩ : Sl.Instr)]).length d1, .slice wa wn wc] 149), (1, a1.map (·.block), Row 93 (code ++ [⟨4, to, x, x, 0⟩]) j1)]) rfl ⟨rfl, rfl, trivial⟩ ?_
    exact ⟨rfl, rfl, a1, d1, j1, ho1, rfl⟩
  · have e : timesI to x c = [] := by unfold timesI; rw [if_neg hc1, if_pos hc2]
    rw [e, List.append_nil]
    refine Ar.out0 (by first | exact .inl rfl | exact .inr rfl) (Ho := [(0, some b, .cells #[.int .i64 n, .slice ac code.length cc, .slice wa wn wc] 149), (1, ac.map (·.block), Row 93 code j)]) rfl ⟨rfl, rfl, trivial⟩ ?_
    exact ⟨rfl, rfl, ac, cc, j, ho, rfl⟩
  · have e : timesI to x c = [⟨1, to, x, 0, 0⟩] := by unfold timesI; rw [if_neg hc1, if_neg hc2, if_pos hc3]
    rw [e]
    refine Ar.out0 (by first | exact .inl rfl | exact .inr rfl) (Ho := [(0, some b, .cells #[.int .i64 n, .slice a1 (code ++ [(⟨1, to, x, 0, 0⟩ : Sl.Instr)]).length d1, .slice wa wn wc] 149), (1, a1.map (·.block), Row 93 (code ++ [⟨1, to, x, 0, 0⟩]) j1)]) rfl ⟨rfl, rfl, trivial⟩ ?_
    exact ⟨rfl, rfl, a1, d1, j1, ho1, rfl⟩
  · have e : timesI to x c = [⟨2, to, x, 0, 0⟩] := by unfold timesI; rw [if_neg hc1, if_neg hc2, if_neg hc3, if_pos hc4]
    rw [e]
    refine Ar.out0 (by first | exact .inl rfl | exact .inr rfl) (Ho := [(0, some b, .cells #[.int .i64 n, .slice a1 (code ++ [(⟨2, to, x, 0, 0⟩ : Sl.Instr)]).length d1, .slice wa wn wc] 149), (1, a1.map (·.block), Row 93 (code ++ [⟨2, to, x, 0, 0⟩]) j1)]) rfl ⟨rfl, rfl, trivial⟩ ?_
    exact ⟨rfl, rfl, a1, d1, j1, ho1, rfl⟩
  · have e : timesI to x c = [⟨5, to, x, 0, c⟩] := by unfold timesI; rw [if_neg hc1, if_neg hc2, if_neg hc3, if_neg hc4]
    rw [e]
    refine Ar.out0 (by first | exact .inl rfl | exact .inr rfl) (Ho := [(0, some b, .cells #[.int .i64 n, .slice a1 (code ++ [(⟨5, to, x, 0, c⟩ : Sl.Instr)]).length d1, .slice wa wn wc] 149), (1, a1.map (·.block), Row 93 (code ++ [⟨5, to, x, 0, c⟩]) j1)]) rfl ⟨rfl, rfl, trivial⟩ ?_
    exact ⟨rfl, rfl, a1, d1, j1, ho1, rfl⟩
end Go.Proofs.YtbppmiimeccclaaGreat
set_option maxRecDepth 100000
set_option linter.unusedVariables false
namespace Go.Proofs.YtbppmiimeccclaaGreat
open Go Go.Sl
set_option maxHeartbeats 4000000
theorem c90 (G : Imm) (b : Nat) (n m : Int) (sv wv : Value) (hn : 0 ≤ n ∧ n ≤ 1000) (hm : 0 ≤ m ∧ m ≤ 1000) :
    Does Tryz.prog 90 [.pointer (some ⟨b, 0, none⟩), .int .i64 m] G [(0, some b, .cells #[.int .i64 n, sv, wv] 149)] (fun v G' Ho => v = .int .i64 (n + m) ∧ G' = G ∧ Ho = [(0, some b, .cells #[.int .i64 n, sv, wv] 149)]) := by
  refine Does.enter Tryz.func90 rfl Tryz.ntmps90 rfl (fun w => ?_)
  refine Wc.ga 17 [0] ?_
  refine Ar.out1 (.inr rfl) (Ho := [(0, some b, .cells #[.int .i64 n, sv, wv] 149)]) rfl (.tmp rfl) ⟨rfl, trivial⟩ ?_
  exact ⟨rfl, rfl, rfl⟩
theorem c145 (G : Imm) (b : Nat) (n m : Int) (sv wv : Value) (hn : 0 ≤ n ∧ n ≤ 1000) (hm : 0 ≤ m ∧ m ≤ 1000) :
    Does Tryz.prog 145 [.pointer (some ⟨b, 0, none⟩), .int .i64 m] G [(0, some b, .cells #[.int .i64 n, sv, wv] 149)] (fun v G' Ho => v = .int .i64 (2 * n + m) ∧ G' = G ∧ Ho = [(0, some b, .cells #[.int .i64 n, sv, wv] 149)]) := by
  refine Does.enter Tryz.func145 rfl Tryz.ntmps145 rfl (fun w => ?_)
  refine Wc.gl 11 [0] ?_
  refine Wl.q rfl (Qy.mul rfl rfl (by omega)) ?_
  refine Wl.ga 6 [] ?_
  refine Ar.out1 (.inr rfl) (Ho := [(0, some b, .cells #[.int .i64 n, sv, wv] 149)]) rfl (.tmp rfl) ⟨rfl, trivial⟩ ?_
  exact ⟨rfl, rfl, rfl⟩
theorem c143 (G : Imm) (b : Nat) (n : Int) (sv wv : Value) (hn : 0 ≤ n ∧ n ≤ 1000) :
    Does Tryz.prog 143 [.pointer (some ⟨b, 0, none⟩)] G [(0, some b, .cells #[.int .i64 n, sv, wv] 149)] (fun v G' Ho => v = .int .i64 (3 * n) ∧ G' = G ∧ Ho = [(0, some b, .cells #[.int .i64 n, sv, wv] 149)]) := by
  refine Does.enter Tryz.func143 rfl Tryz.ntmps143 rfl (fun w => ?_)
  refine Wc.gl 11 [0] ?_
  refine Wl.q rfl (Qy.mul rfl rfl (by omega)) ?_
  refine Wl.ga 4 [] ?_
  refine Ar.out1 (.inr rfl) (Ho := [(0, some b, .cells #[.int .i64 n, sv, wv] 149)]) rfl (.tmp rfl) ⟨rfl, trivial⟩ ?_
  exact ⟨rfl, rfl, rfl⟩
end Go.Proofs.YtbppmiimeccclaaGreat
set_option linter.unusedVariables false
namespace Go.Proofs.YtbppmiimeccclaaGreat
open Go Go.Sl
def ev : List Int → Int → Int → Int
  | [], _, _ => 0
  | c :: f, a, b => c * b ^ f.length + a * ev f a b
theorem ev_scale (g a b : Int) : ∀ f : List Int, ev f (g * a) (g * b) * g = g ^ f.length * ev f a b
  | [] => by simp [ev]
  | c :: f => by
    have ih := ev_scale g a b f
    show (c * (g * b) ^ f.length + g * a * ev f (g * a) (g * b)) * g = g ^ (f.length + 1) * (c * b ^ f.length + a * ev f a b)
    rw [Int.mul_pow, Int.pow_succ, Int.add_mul, Int.mul_add]
    congr 1
    · ac_rfl
    · calc g * a * ev f (g * a) (g * b) * g = g * a * (ev f (g * a) (g * b) * g) := by ac_rfl
        _ = g * a * (g ^ f.length * ev f a b) := by rw [ih]
        _ = g ^ f.length * g * (a * ev f a b) := by ac_rfl
/-- .. a coordinate's common factor goes out, to the degree -/
theorem ev_norm {g : Int} (a b : Int) (c : Int) (f : List Int) (hg : g ≠ 0) : ev (c :: f) (g * a) (g * b) = g ^ f.length * ev (c :: f) a b := by
  have h := ev_scale g a b (c :: f)
  refine Int.eq_of_mul_eq_mul_right hg ?_
  rw [h, List.length_cons, Int.pow_succ]
  ac_rfl
/-- a form by the linear form p Y - q X (p, q a point's coordinates), from the lowest coefficient on -/
def byLin (p q : Int) : Int → List Int → List Int
  | last, [] => [-(q * last)]
  | last, c :: f => (p * c - q * last) :: byLin p q c f
theorem byLin_len (p q : Int) : ∀ (last : Int) (f : List Int), (byLin p q last f).length = f.length + 1
  | _, [] => rfl
  | _, c :: f => by show (byLin p q c f).length + 1 = f.length + 1 + 1; rw [byLin_len]
theorem byLin_ev (p q a b : Int) : ∀ (last : Int) (f : List Int), ev (byLin p q last f) a b = (p * b - q * a) * ev f a b - q * last * b ^ f.length
  | last, [] => by
    show -(q * last) * b ^ 0 + a * 0 = (p * b - q * a) * 0 - q * last * b ^ 0
    rw [Int.mul_zero, Int.mul_zero, Int.add_zero, Int.neg_mul]; omega
  | last, c :: f => by
    show (p * c - q * last) * b ^ (byLin p q c f).length + a * ev (byLin p q c f) a b = (p * b - q * a) * (c * b ^ f.length + a * ev f a b) - q * last * b ^ (f.length + 1)
    rw [byLin_len, byLin_ev p q a b c f, Int.pow_succ]
    generalize b ^ f.length = B
    generalize ev f a b = E
    have h1 : (p * c - q * last) * (B * b) = p * c * (B * b) - q * last * (B * b) := Int.sub_mul ..
    have h2 : a * ((p * b - q * a) * E - q * c * B) = a * ((p * b - q * a) * E) - a * (q * c * B) := Int.mul_sub ..
    have h3 : (p * b - q * a) * (c * B + a * E) = (p * b - q * a) * (c * B) + (p * b - q * a) * (a * E) := Int.mul_add ..
    have h4 : (p * b - q * a) * (c * B) = p * b * (c * B) - q * a * (c * B) := Int.sub_mul ..
    have h5 : a * ((p * b - q * a) * E) = (p * b - q * a) * (a * E) := by ac_rfl
    have h6 : p * c * (B * b) = p * b * (c * B) := by ac_rfl
    have h7 : a * (q * c * B) = q * a * (c * B) := by ac_rfl
    rw [h1, h2, h3, h4, h5, h6, h7]
    omega
theorem cop_dvd {p q x : Int} (hc : Int.gcd p q = 1) (k : Nat) (h : p ∣ x * q ^ k) : p ∣ x := by
  have h1 : p.natAbs ∣ x.natAbs * q.natAbs ^ k := by rw [← Int.natAbs_pow, ← Int.natAbs_mul]; exact Int.natAbs_dvd_natAbs.mpr h
  exact Int.natAbs_dvd_natAbs.mp ((Nat.Coprime.pow_right k (show Nat.Coprime p.natAbs q.natAbs from hc)).dvd_of_dvd_mul_right h1)
/-- a form that is nought at a point without common factor is one by the point's linear form, over the whole numbers -/
theorem lin_div {p q : Int} (hc : Int.gcd p q = 1) : ∀ (F : List Int) (last : Int) (m : Nat), F.length = m + 1 → ev F p q = -(q * last) * q ^ m → ∃ f : List Int, f.length = m ∧ F = byLin p q last f
  | [], _, _, h, _ => by simp at h
  | [c], last, m, h, he => by
    have hm : m = 0 := by simpa using h.symm
    subst hm
    refine ⟨[], rfl, ?_⟩
    have e : c * q ^ 0 + p * 0 = -(q * last) * q ^ 0 := he
    rw [Int.pow_zero, Int.mul_one, Int.mul_zero, Int.add_zero, Int.mul_one] at e
    rw [e]; rfl
  | c :: c' :: F, last, m, h, he => by
    obtain ⟨k, rfl⟩ : ∃ k, m = k + 1 := ⟨F.length, by simp at h; omega⟩
    have hl : (c' :: F).length = k + 1 := by simp at h ⊢; omega
    have e : c * q ^ (c' :: F).length + p * ev (c' :: F) p q = -(q * last) * q ^ (k + 1) := he
    rw [hl] at e
    have e1 : (c + q * last) * q ^ (k + 1) = p * (-ev (c' :: F) p q) := by
      rw [Int.add_mul, Int.mul_neg]
      rw [Int.neg_mul] at e
      omega
    have hd : ∃ d : Int, c = p * d - q * last ∧ ev (c' :: F) p q = -(q * d) * q ^ k := by
      by_cases hp : p = 0
      · subst hp
        have hq : q.natAbs = 1 := by simpa [Int.gcd] using hc
        have hq2 : q * q = 1 := by
          rcases Int.natAbs_eq q with h | h <;> rw [hq] at h <;> rw [h] <;> rfl
        have hqk : ∀ n : Nat, q ^ n * q ^ n = 1 := fun n => by
          induction n with
          | zero => simp
          | succ n ih => rw [Int.pow_succ, show q ^ n * q * (q ^ n * q) = (q ^ n * q ^ n) * (q * q) by ac_rfl, ih, hq2]; rfl
        refine ⟨-(ev (c' :: F) 0 q * q ^ (k + 1)), ?_, ?_⟩
        · rw [Int.zero_mul] at e1
          have : c + q * last = 0 := by
            rcases Int.mul_eq_zero.mp e1 with h | h
            · exact h
            · have := hqk (k + 1); rw [h] at this; simp at this
          rw [Int.zero_mul]; omega
        · have h2 : -(q * -(ev (c' :: F) 0 q * q ^ (k + 1))) * q ^ k = ev (c' :: F) 0 q * (q ^ (k + 1) * q ^ (k + 1)) := by
            rw [Int.mul_neg, Int.neg_neg, Int.pow_succ]; ac_rfl
          rw [h2, hqk, Int.mul_one]
      · obtain ⟨d, hd⟩ := cop_dvd (x := c + q * last) hc (k + 1) ⟨_, e1⟩
        refine ⟨d, by omega, ?_⟩
        refine Int.eq_of_mul_eq_mul_left hp ?_
        rw [hd] at e1
        have h3 : p * (-(q * d) * q ^ k) = -(p * d * q ^ (k + 1)) := by
          rw [Int.pow_succ, Int.neg_mul, Int.mul_neg]; congr 1; ac_rfl
        rw [h3, e1, Int.mul_neg, Int.neg_neg]
    obtain ⟨d, hd1, hd2⟩ := hd
    obtain ⟨f, hf1, hf2⟩ := lin_div hc (c' :: F) d k hl hd2
    refine ⟨d :: f, by rw [List.length_cons, hf1], ?_⟩
    show c :: c' :: F = (p * d - q * last) :: byLin p q d f
    rw [← hf2, ← hd1]
/-- the powers of the form u X + v Y -/
def linPow (u v : Int) : Nat → List Int
  | 0 => [1]
  | e + 1 => byLin v (-u) 0 (linPow u v e)
theorem linPow_len (u v : Int) : ∀ e, (linPow u v e).length = e + 1
  | 0 => rfl
  | e + 1 => by show (byLin v (-u) 0 (linPow u v e)).length = _; rw [byLin_len, linPow_len]
theorem linPow_ev (u v a b : Int) : ∀ e, ev (linPow u v e) a b = (u * a + v * b) ^ e
  | 0 => by show (1 : Int) * b ^ 0 + a * 0 = _; simp
  | e + 1 => by
    show ev (byLin v (-u) 0 (linPow u v e)) a b = _
    rw [byLin_ev, linPow_ev, Int.mul_zero, Int.zero_mul, Int.sub_zero, Int.pow_succ, Int.neg_mul, Int.sub_neg, Int.mul_comm, Int.add_comm (v * b)]
/-- F less t times G -/
def lessT (t : Int) (F G : List Int) : List Int := List.zipWith (fun x y => x - t * y) F G
theorem lessT_ev (t a b : Int) : ∀ F G : List Int, F.length = G.length → ev (lessT t F G) a b = ev F a b - t * ev G a b
  | [], [], _ => by show (0 : Int) = 0 - t * 0; simp
  | x :: F, y :: G, h => by
    have hl : F.length = G.length := by simpa using h
    show (x - t * y) * b ^ (lessT t F G).length + a * ev (lessT t F G) a b = (x * b ^ F.length + a * ev F a b) - t * (y * b ^ G.length + a * ev G a b)
    have hz : (lessT t F G).length = G.length := by unfold lessT; rw [List.length_zipWith, hl, Nat.min_self]
    rw [hz, lessT_ev t a b F G hl, hl, Int.sub_mul, Int.mul_sub, Int.mul_add]
    have h1 : t * y * b ^ G.length = t * (y * b ^ G.length) := by ac_rfl
    have h2 : a * (t * ev G a b) = t * (a * ev G a b) := by ac_rfl
    rw [h1, h2]; omega
/-- a form less its value at a point times the power that is one there: what is left, by the point's linear form -/
theorem take_away {p q u v : Int} (hc : Int.gcd p q = 1) (h1 : u * p + v * q = 1) (F : List Int) (e : Nat) (hF : F.length = e + 1) :
    ∃ f : List Int, f.length = e ∧ lessT (ev F p q) F (linPow u v e) = byLin p q 0 f ∧ ∀ a b : Int, ev F a b - ev F p q * (u * a + v * b) ^ e = (p * b - q * a) * ev f a b := by
  have hl : F.length = (linPow u v e).length := by rw [hF, linPow_len]
  have hz : (lessT (ev F p q) F (linPow u v e)).length = e + 1 := by unfold lessT; rw [List.length_zipWith, linPow_len, hF, Nat.min_self]
  obtain ⟨f, hf1, hf2⟩ := lin_div hc (lessT (ev F p q) F (linPow u v e)) 0 e hz (by
    rw [lessT_ev _ _ _ _ _ hl, linPow_ev, h1, Int.one_pow, Int.mul_one, Int.sub_self]; simp)
  refine ⟨f, hf1, hf2, fun a b => ?_⟩
  have h3 := byLin_ev p q a b 0 f
  rw [← hf2, lessT_ev _ _ _ _ _ hl, linPow_ev, Int.mul_zero, Int.zero_mul, Int.sub_zero] at h3
  exact h3
theorem ev_zeros (a b : Int) : ∀ n : Nat, ev (List.replicate n 0) a b = 0
  | 0 => rfl
  | n + 1 => by
    show (0 : Int) * b ^ (List.replicate n (0 : Int)).length + a * ev (List.replicate n 0) a b = 0
    rw [ev_zeros, Int.zero_mul, Int.mul_zero]; rfl
/-- the form that is one power alone -/
theorem ev_unit (a b : Int) : ∀ (n j : Nat), j < n → ev ((List.replicate n (0 : Int)).set j 1) a b = a ^ j * b ^ (n - 1 - j)
  | n + 1, 0, _ => by
    show (1 : Int) * b ^ (List.replicate n (0 : Int)).length + a * ev (List.replicate n 0) a b = a ^ 0 * b ^ (n + 1 - 1 - 0)
    rw [ev_zeros, List.length_replicate, Int.mul_zero, Int.add_zero, Int.pow_zero]; rfl
  | n + 1, j + 1, h => by
    show (0 : Int) * b ^ ((List.replicate n (0 : Int)).set j 1).length + a * ev ((List.replicate n (0 : Int)).set j 1) a b = a ^ (j + 1) * b ^ (n + 1 - 1 - (j + 1))
    rw [ev_unit a b n j (by omega), Int.zero_mul, Int.zero_add, Int.pow_succ, show n + 1 - 1 - (j + 1) = n - 1 - j by omega]
    ac_rfl
end Go.Proofs.YtbppmiimeccclaaGreat
set_option maxRecDepth 100000
set_option linter.unusedVariables false
namespace Go.Proofs.YtbppmiimeccclaaGreat
open Go Go.Sl
/-- does s do? -/
def hitB (a b s : Int) : Bool := ((Int.gcd a b : Int) - s * a).tmod b == 0
/-- the first u of those from k on, at most n more, that does, with either sign -/
def bezF (a b : Int) : Nat → Nat → Nat
  | 0, k => k
  | n + 1, k => if hitB a b (k : Int) || hitB a b (-(k : Int)) then k else bezF a b n (k + 1)
def bezK (a b : Int) : Nat := bezF a b 16 0
def bezS (a b : Int) : Int := if b = 0 then a.tdiv (Int.gcd a b) else if hitB a b (bezK a b : Int) then (bezK a b : Int) else -(bezK a b : Int)
def bezT (a b : Int) : Int := if b = 0 then 0 else ((Int.gcd a b : Int) - bezS a b * a).tdiv b
def bezOk (a b : Int) : Bool := (a == 0 && b == 0) || (bezS a b * a + bezT a b * b == (Int.gcd a b : Int) && decide ((bezS a b).natAbs + (bezT a b).natAbs ≤ 17) && decide (bezK a b ≤ 15) && (b == 0 || hitB a b (bezK a b : Int) || hitB a b (-(bezK a b : Int))))
theorem bez_all : ((List.range 33).all fun i => (List.range 33).all fun j => bezOk ((i : Int) - 16) ((j : Int) - 16)) = true := by decide +kernel
theorem bez_ok {a b : Int} (h : near a b) : bezOk a b = true := by
  have h1 := List.all_eq_true.mp bez_all (a + 16).toNat (List.mem_range.mpr (by unfold near at h; omega))
  have h2 := List.all_eq_true.mp h1 (b + 16).toNat (List.mem_range.mpr (by unfold near at h; omega))
  rw [show (((a + 16).toNat : Nat) : Int) - 16 = a by unfold near at h; omega, show (((b + 16).toNat : Nat) : Int) - 16 = b by unfold near at h; omega] at h2
  exact h2
theorem bez_facts {a b : Int} (h : near a b) (h0 : ¬ (a = 0 ∧ b = 0)) : bezS a b * a + bezT a b * b = Int.gcd a b ∧ (bezS a b).natAbs + (bezT a b).natAbs ≤ 17 ∧ bezK a b ≤ 15 ∧ (b = 0 ∨ hitB a b (bezK a b : Int) = true ∨ hitB a b (-(bezK a b : Int)) = true) := by
  have h1 := bez_ok h
  unfold bezOk at h1
  simp only [Bool.or_eq_true, Bool.and_eq_true, beq_iff_eq, decide_eq_true_eq] at h1
  rcases h1 with h1 | ⟨⟨⟨e1, e2⟩, e3⟩, e4⟩
  · exact absurd h1 h0
  · exact ⟨e1, e2, e3, e4.elim (fun h => h.elim .inl (fun h => .inr (.inl h))) (fun h => .inr (.inr h))⟩
end Go.Proofs.YtbppmiimeccclaaGreat
set_option linter.unusedVariables false
namespace Go.Proofs.YtbppmiimeccclaaGreat
open Go Go.Sl
def doF (i : Sl.Instr) (σ : Int → Int) : Option Int :=
  if i.op = 2 then some (-σ i.a)
  else if i.op = 3 then some (σ i.a + σ i.b)
  else if i.op = 4 then some (σ i.a - σ i.b)
  else if i.op = 5 ∨ i.op = 7 then some (σ i.a * cst i)
  else if i.op = 6 ∨ i.op = 8 then (if σ i.a % cst i = 0 then some (σ i.a / cst i) else none)
  else some (σ i.a)
def upd (σ : Int → Int) (r v : Int) : Int → Int := fun x => if x = r then v else σ x
theorem upd_at (σ : Int → Int) (r v : Int) : upd σ r v r = v := if_pos rfl
theorem upd_ne (σ : Int → Int) {r x : Int} (v : Int) (h : x ≠ r) : upd σ r v x = σ x := if_neg h
theorem upd_upd (σ : Int → Int) (r v w : Int) : upd (upd σ r v) r w = upd σ r w := by
  funext x; unfold upd; split <;> rfl
theorem upd_self (σ : Int → Int) (r : Int) : upd σ r (σ r) = σ := by
  funext x; unfold upd; split
  · rename_i h; rw [h]
  · rfl
def runF : List Sl.Instr → (Int → Int) → Option (Int → Int)
  | [], σ => some σ
  | i :: l, σ => (doF i σ).bind fun x => runF l (upd σ i.to x)
theorem runF_append (l m : List Sl.Instr) (σ : Int → Int) : runF (l ++ m) σ = (runF l σ).bind (runF m) := by
  induction l generalizing σ with
  | nil => rfl
  | cons i l ih =>
    show (doF i σ).bind (fun x => runF (l ++ m) (upd σ i.to x)) = ((doF i σ).bind fun x => runF l (upd σ i.to x)).bind (runF m)
    cases doF i σ with
    | none => rfl
    | some x => exact ih _
theorem runF_seq {l m : List Sl.Instr} {σ σ1 σ2 : Int → Int} (h1 : runF l σ = some σ1) (h2 : runF m σ1 = some σ2) : runF (l ++ m) σ = some σ2 := by
  rw [runF_append, h1]; exact h2
theorem runF_one {i : Sl.Instr} {σ : Int → Int} {x : Int} (h : doF i σ = some x) : runF [i] σ = some (upd σ i.to x) := by
  show (doF i σ).bind (fun x => some (upd σ i.to x)) = _
  rw [h]; rfl
theorem run_add (to a b : Int) (σ : Int → Int) : runF [⟨3, to, a, b, 0⟩] σ = some (upd σ to (σ a + σ b)) := runF_one rfl
theorem run_sub (to a b : Int) (σ : Int → Int) : runF [⟨4, to, a, b, 0⟩] σ = some (upd σ to (σ a - σ b)) := runF_one rfl
theorem times_run (to x c : Int) (σ : Int → Int) : runF (timesI to x c) σ = some (upd σ to (c * σ x)) := by
  unfold timesI
  by_cases h0 : c = 0
  · rw [if_pos h0, run_sub, h0, Int.sub_self, Int.zero_mul]
  rw [if_neg h0]
  by_cases h1 : c = 1 ∧ to = x
  · rw [if_pos h1, h1.1, h1.2, Int.one_mul, upd_self]; rfl
  rw [if_neg h1]
  by_cases h2 : c = 1
  · rw [if_pos h2, h2, Int.one_mul]; rfl
  rw [if_neg h2]
  by_cases h3 : c = -1
  · rw [if_pos h3, h3, Int.neg_mul, Int.one_mul]; rfl
  rw [if_neg h3]
  refine (runF_one (x := σ x * c) ?_).trans (by rw [Int.mul_comm])
  unfold doF
  rw [if_neg (show ¬ ((5 : Int) = 2) by decide), if_neg (show ¬ ((5 : Int) = 3) by decide), if_neg (show ¬ ((5 : Int) = 4) by decide), if_pos (.inl rfl), cst_c (.inl rfl)]
theorem over_run (to c : Int) (σ : Int → Int) (hc : c ≠ 0) (hd : c ∣ σ to) : runF (overI to c) σ = some (upd σ to (σ to / c)) := by
  unfold overI
  by_cases h1 : c = 1
  · rw [if_pos h1, h1, Int.ediv_one, upd_self]; rfl
  rw [if_neg h1]
  by_cases h2 : c = -1
  · rw [if_pos h2, h2, Int.ediv_neg, Int.ediv_one]; rfl
  rw [if_neg h2]
  refine runF_one ?_
  unfold doF
  rw [if_neg (show ¬ ((6 : Int) = 2) by decide), if_neg (show ¬ ((6 : Int) = 3) by decide), if_neg (show ¬ ((6 : Int) = 4) by decide), if_neg (show ¬ ((6 : Int) = 5 ∨ (6 : Int) = 7) by decide), if_pos (.inl rfl), cst_c (.inr rfl)]
  exact if_pos (Int.emod_eq_zero_of_dvd hd)
/-- .. so often -/
theorem over_many (to g : Int) (hg : g ≠ 0) : ∀ (m : Nat) (σ : Int → Int) (v : Int), σ to = g ^ m * v → runF ((List.replicate m (overI to g)).flatten) σ = some (upd σ to v)
  | 0, σ, v, h => by
    rw [Int.pow_zero, Int.one_mul] at h
    rw [← h, upd_self]; rfl
  | m + 1, σ, v, h => by
    have e : σ to = g * (g ^ m * v) := by rw [h, Int.pow_succ]; ac_rfl
    rw [List.replicate_succ, List.flatten_cons]
    refine (runF_seq (over_run to g σ hg ⟨_, e⟩) (over_many to g hg m _ v ?_)).trans ?_
    · rw [upd_at, e, Int.mul_ediv_cancel_left _ hg]
    · rw [upd_upd]
def powL (to c : Int) : Int → Int → Nat → List Sl.Instr
  | fr, k, 0 => timesI to fr k
  | fr, k, e + 1 => if 512 < k * c ∨ k * c < -512 then timesI to fr k ++ powL to c to c e else powL to c fr (k * c) e
def powI (to a c : Int) (e : Nat) : List Sl.Instr :=
  if (c = 0 ∧ 0 < e) ∨ c = 1 ∨ c = -1 then timesI to a (if c = -1 ∧ e % 2 = 0 then 1 else c) else powL to c a 1 e
theorem powL_run (to c : Int) : ∀ (e : Nat) (fr k : Int) (σ : Int → Int), runF (powL to c fr k e) σ = some (upd σ to (σ fr * (k * c ^ e)))
  | 0, fr, k, σ => by
    unfold powL
    rw [times_run, Int.pow_zero, Int.mul_one, Int.mul_comm]
  | e + 1, fr, k, σ => by
    unfold powL
    split
    · refine (runF_seq (times_run to fr k σ) (powL_run to c e to c _)).trans ?_
      rw [upd_upd, upd_at]
      congr 2
      rw [Int.pow_succ]; ac_rfl
    · rw [powL_run to c e fr (k * c) σ]
      congr 2
      rw [Int.pow_succ]; ac_rfl
theorem neg_one_pow (e : Nat) : (-1 : Int) ^ e = if e % 2 = 0 then 1 else -1 := by
  induction e with
  | zero => rfl
  | succ e ih =>
    rw [Int.pow_succ, ih]
    by_cases h : e % 2 = 0
    · rw [if_pos h, if_neg (by omega)]; rfl
    · rw [if_neg h, if_pos (by omega)]; rfl
theorem powI_run (to a c : Int) (e : Nat) (σ : Int → Int) : runF (powI to a c e) σ = some (upd σ to (σ a * c ^ e)) := by
  unfold powI
  by_cases h : (c = 0 ∧ 0 < e) ∨ c = 1 ∨ c = -1
  · rw [if_pos h, times_run]
    congr 2
    rw [Int.mul_comm]
    congr 1
    rcases h with ⟨rfl, h⟩ | rfl | rfl
    · rw [if_neg (fun h => absurd h.1 (by decide)), Int.zero_pow (by omega)]
    · rw [if_neg (fun h => absurd h.1 (by decide)), Int.one_pow]
    · rw [neg_one_pow]
      by_cases he : e % 2 = 0
      · rw [if_pos ⟨rfl, he⟩, if_pos he]
      · rw [if_neg (fun h => he h.2), if_neg he]
  · rw [if_neg h, powL_run, Int.one_mul]
def ptW (wh : List R2) (k : Int) : R2 := wh[k.toNat]?.getD default
/-- what the linear form of the point k is worth at the point i -/
def linC (wh : List R2) (k i : Int) : Int := bezS (ptW wh k).a (ptW wh k).b * (ptW wh i).a + bezT (ptW wh k).a (ptW wh k).b * (ptW wh i).b
def detC (wh : List R2) (k i : Int) : Int := (ptW wh k).a * (ptW wh i).b - (ptW wh i).a * (ptW wh k).b
def awayOne (n : Int) (wh : List R2) (k : Int) (e : Nat) (i : Int) : List Sl.Instr :=
  (if linC wh k i ≠ 0 ∨ e = 0 then powI (3 * n) k (linC wh k i) e ++ [⟨4, i, i, 3 * n, 0⟩] else []) ++ (if detC wh k i = 1 then [] else overI i (detC wh k i))
def awayI (n : Int) (wh : List R2) (k : Int) (e : Nat) : List Int → List Sl.Instr
  | [] => []
  | i :: left => awayOne n wh k e i ++ awayI n wh k e left
theorem awayOne_run {n : Int} {wh : List R2} {k : Int} {e : Nat} {i : Int} {σ : Int → Int} {y : Int} (hk : k ≠ 3 * n) (hi : i ≠ 3 * n) (hd : detC wh k i ≠ 0) (hy : σ i - σ k * linC wh k i ^ e = detC wh k i * y) :
    ∃ σ', runF (awayOne n wh k e i) σ = some σ' ∧ σ' i = y ∧ ∀ r, r ≠ i → r ≠ 3 * n → σ' r = σ r := by
  obtain ⟨σ1, h1, h2, h3⟩ : ∃ σ1, runF (if linC wh k i ≠ 0 ∨ e = 0 then powI (3 * n) k (linC wh k i) e ++ [⟨4, i, i, 3 * n, 0⟩] else []) σ = some σ1 ∧ σ1 i = detC wh k i * y ∧ ∀ r, r ≠ i → r ≠ 3 * n → σ1 r = σ r := by
    by_cases h : linC wh k i ≠ 0 ∨ e = 0
    · rw [if_pos h]
      refine ⟨_, runF_seq (powI_run _ _ _ _ _) (run_sub _ _ _ _), ?_, fun r h1 h2 => ?_⟩
      · rw [upd_at, upd_at, upd_ne _ _ hi, hy]
      · rw [upd_ne _ _ h1, upd_ne _ _ h2]
    · rw [if_neg h]
      refine ⟨σ, rfl, ?_, fun _ _ _ => rfl⟩
      have hl : linC wh k i = 0 := Classical.byContradiction fun x => h (.inl x)
      have he : e ≠ 0 := fun x => h (.inr x)
      rw [← hy, hl, Int.zero_pow he, Int.mul_zero, Int.sub_zero]
  unfold awayOne
  by_cases h : detC wh k i = 1
  · rw [if_pos h, List.append_nil]
    exact ⟨σ1, h1, by rw [h2, h, Int.one_mul], h3⟩
  · rw [if_neg h]
    refine ⟨_, runF_seq h1 (over_run i (detC wh k i) σ1 hd ⟨y, h2⟩), ?_, fun r g1 g2 => ?_⟩
    · rw [upd_at, h2, Int.mul_ediv_cancel_left _ hd]
    · rw [upd_ne _ _ g1]; exact h3 r g1 g2
theorem awayI_run {n : Int} {wh : List R2} {k : Int} {e : Nat} (hk : k ≠ 3 * n) (y : Int → Int) : ∀ (left : List Int) (σ : Int → Int), left.Nodup → k ∉ left → (∀ i ∈ left, i ≠ 3 * n ∧ detC wh k i ≠ 0 ∧ σ i - σ k * linC wh k i ^ e = detC wh k i * y i) →
    ∃ σ', runF (awayI n wh k e left) σ = some σ' ∧ (∀ i ∈ left, σ' i = y i) ∧ ∀ r, r ∉ left → r ≠ 3 * n → σ' r = σ r
  | [], σ, _, _, _ => ⟨σ, rfl, fun i h => (by cases h), fun _ _ _ => rfl⟩
  | i :: left, σ, hn, hkl, h => by
    obtain ⟨hn1, hn2⟩ := List.nodup_cons.1 hn
    obtain ⟨g1, g2, g3⟩ := h i List.mem_cons_self
    obtain ⟨σ1, a1, a2, a3⟩ := awayOne_run hk g1 g2 g3
    have hki : k ≠ i := fun e => hkl (by rw [e]; exact List.mem_cons_self)
    obtain ⟨σ2, b1, b2, b3⟩ := awayI_run hk y left σ1 hn2 (fun x => hkl (List.mem_cons_of_mem _ x)) (fun j hj => by
      obtain ⟨k1, k2, k3⟩ := h j (List.mem_cons_of_mem _ hj)
      have hji : j ≠ i := fun e => hn1 (e ▸ hj)
      refine ⟨k1, k2, ?_⟩
      rw [a3 j hji k1, a3 k hki hk]; exact k3)
    refine ⟨σ2, runF_seq a1 b1, fun j hj => ?_, fun r hr hr2 => ?_⟩
    · rcases List.mem_cons.1 hj with rfl | hj
      · rw [b3 j hn1 g1, a2]
      · exact b2 j hj
    · rw [b3 r (fun x => hr (List.mem_cons_of_mem _ x)) hr2, a3 r (fun x => hr (by rw [x]; exact List.mem_cons_self)) hr2]
def rStep (n u v : Int) (th : List Bool) (j : Nat) : List Bool × List Sl.Instr :=
  let low := decide (0 < j) && th[j - 1]?.getD false && decide (u ≠ 0)
  let own := th[j]?.getD false && decide (v ≠ 0)
  (th.set j (own || low),
   (if low then timesI (3 * n) (2 * n + (j - 1)) u else []) ++
   (if own && low then timesI (2 * n + j) (2 * n + j) v ++ [⟨3, 2 * n + j, 2 * n + j, 3 * n, 0⟩] else if own then timesI (2 * n + j) (2 * n + j) v else if low then timesI (2 * n + j) (3 * n) 1 else []))
/-- the places m - 1 down to 0 -/
def rIn (n u v : Int) : Nat → List Bool → List Bool × List Sl.Instr
  | 0, th => (th, [])
  | m + 1, th => ((rIn n u v m (rStep n u v th m).1).1, (rStep n u v th m).2 ++ (rIn n u v m (rStep n u v th m).1).2)
/-- m times, from the power d on -/
def rOut (n u v : Int) : Nat → Nat → List Bool → List Bool × List Sl.Instr
  | 0, _, th => (th, [])
  | m + 1, d, th => ((rOut n u v m (d + 1) (rIn n u v (d + 1) th).1).1, (rIn n u v (d + 1) th).2 ++ (rOut n u v m (d + 1) (rIn n u v (d + 1) th).1).2)
def raisedT (n u v : Int) (e : Nat) : List Bool := (rOut n u v e 1 ((List.replicate (e + 1) false).set 0 true)).1
def raisedI (n u v k : Int) (e : Nat) : List Sl.Instr := timesI (2 * n) k 1 ++ (rOut n u v e 1 ((List.replicate (e + 1) false).set 0 true)).2
/-- the place j says x -/
def Rep (n : Int) (th : List Bool) (σ : Int → Int) (j : Nat) (x : Int) : Prop := (th[j]?.getD false = true → σ (2 * n + j) = x) ∧ (th[j]?.getD false = false → x = 0)
theorem rStep_len (n u v : Int) (th : List Bool) (j : Nat) : (rStep n u v th j).1.length = th.length := List.length_set
theorem rStep_other (n u v : Int) (th : List Bool) {j i : Nat} (h : i ≠ j) : (rStep n u v th j).1[i]? = th[i]? := by
  show (th.set j _)[i]? = _
  rw [List.getElem?_set, if_neg (fun e => h e.symm)]
theorem rStep_run {n u v : Int} {th : List Bool} {j : Nat} {σ : Int → Int} {x y : Int} (hj : j < th.length) (hn : (j : Int) < n) (hx : Rep n th σ j x) (hy : 0 < j → Rep n th σ (j - 1) y) (hy0 : j = 0 → y = 0) :
    ∃ σ', runF (rStep n u v th j).2 σ = some σ' ∧ Rep n (rStep n u v th j).1 σ' j (v * x + u * y) ∧ ∀ r, r ≠ 2 * n + j → r ≠ 3 * n → σ' r = σ r := by
  have hne : (2 * n + j : Int) ≠ 3 * n := by omega
  have hset : ∀ b : Bool, (th.set j b)[j]?.getD false = b := fun b => by rw [List.getElem?_set, if_pos rfl, if_pos hj]; rfl
  have hown : (th[j]?.getD false && decide (v ≠ 0)) = false → v * x = 0 := fun h => by
    rcases Bool.and_eq_false_iff.1 h with h | h
    · rw [hx.2 h, Int.mul_zero]
    · rw [Classical.byContradiction fun h2 => of_decide_eq_false h h2, Int.zero_mul]
  have hown1 : (th[j]?.getD false && decide (v ≠ 0)) = true → σ (2 * n + j) = x := fun h => hx.1 (Bool.and_eq_true_iff.1 h).1
  have hlow : (decide (0 < j) && th[j - 1]?.getD false && decide (u ≠ 0)) = false → u * y = 0 := fun h => by
    by_cases hj0 : j = 0
    · rw [hy0 hj0, Int.mul_zero]
    rcases Bool.and_eq_false_iff.1 h with h | h
    · rcases Bool.and_eq_false_iff.1 h with h | h
      · exact absurd (by omega) (of_decide_eq_false h)
      · rw [(hy (by omega)).2 h, Int.mul_zero]
    · rw [Classical.byContradiction fun h2 => of_decide_eq_false h h2, Int.zero_mul]
  have hlow1 : (decide (0 < j) && th[j - 1]?.getD false && decide (u ≠ 0)) = true → σ (2 * n + ((j : Int) - 1)) = y := fun h => by
    have h2 := (Bool.and_eq_true_iff.1 h).1
    have h3 := Bool.and_eq_true_iff.1 h2
    have hj1 : 0 < j := of_decide_eq_true h3.1
    have := (hy hj1).1 h3.2
    rw [show ((j : Int) - 1) = ((j - 1 : Nat) : Int) by omega]; exact this
  unfold rStep
  simp only
  generalize (decide (0 < j) && th[j - 1]?.getD false && decide (u ≠ 0)) = low at *
  generalize (th[j]?.getD false && decide (v ≠ 0)) = own at *
  cases low <;> cases own
  · refine ⟨σ, rfl, ⟨fun h => ?_, fun _ => ?_⟩, fun _ _ _ => rfl⟩
    · rw [hset] at h; cases h
    · rw [hown rfl, hlow rfl]; rfl
  · refine ⟨_, times_run _ _ _ _, ⟨fun _ => ?_, fun h => ?_⟩, fun r h1 h2 => upd_ne _ _ h1⟩
    · rw [upd_at, hown1 rfl, hlow rfl, Int.add_zero]
    · rw [hset] at h; cases h
  · refine ⟨_, runF_seq (m := timesI (2 * n + j) (3 * n) 1) (times_run _ _ _ _) (times_run _ _ _ _), ⟨fun _ => ?_, fun h => ?_⟩, fun r h1 h2 => ?_⟩
    · rw [upd_at, upd_at, hlow1 rfl, hown rfl, Int.zero_add, Int.one_mul]
    · rw [hset] at h; cases h
    · rw [upd_ne _ _ h1, upd_ne _ _ h2]
  · have h9 := runF_seq (times_run (3 * n) (2 * n + (j - 1)) u σ) (runF_seq (times_run (2 * n + j) (2 * n + j) v _) (run_add (2 * n + j) (2 * n + j) (3 * n) _))
    refine ⟨_, h9, ⟨fun _ => ?_, fun h => ?_⟩, fun r h1 h2 => ?_⟩
    · rw [upd_at, upd_at, upd_ne _ _ hne, upd_ne _ _ (Ne.symm hne), upd_at, hown1 rfl, hlow1 rfl]
    · rw [hset] at h; cases h
    · rw [upd_ne _ _ h1, upd_ne _ _ h1, upd_ne _ _ h2]
/-- a form's coefficients by u X + v Y -/
def nx (u v : Int) (C : Nat → Int) (j : Nat) : Int := v * C j + u * (if j = 0 then 0 else C (j - 1))
theorem rep_frame {n : Int} {th th' : List Bool} {σ σ' : Int → Int} {j : Nat} {x : Int} (h : Rep n th σ j x) (ht : th'[j]? = th[j]?) (hs : σ' (2 * n + j) = σ (2 * n + j)) : Rep n th' σ' j x := by
  unfold Rep at *
  rw [ht, hs]; exact h
theorem rIn_run {n u v : Int} {C : Nat → Int} : ∀ (m : Nat) (th : List Bool) (σ : Int → Int), m ≤ th.length → (m : Int) ≤ n → (∀ j, j < m → Rep n th σ j (C j)) →
    ∃ σ', runF (rIn n u v m th).2 σ = some σ' ∧ (rIn n u v m th).1.length = th.length ∧ (∀ j, j < m → Rep n (rIn n u v m th).1 σ' j (nx u v C j)) ∧ (∀ j, m ≤ j → (rIn n u v m th).1[j]? = th[j]?) ∧ (∀ r, (∀ j : Nat, j < m → r ≠ 2 * n + j) → r ≠ 3 * n → σ' r = σ r)
  | 0, th, σ, _, _, _ => ⟨σ, rfl, rfl, fun j h => (by omega), fun _ _ => rfl, fun _ _ _ => rfl⟩
  | m + 1, th, σ, hl, hn, h => by
    obtain ⟨σ1, a1, a2, a3⟩ := rStep_run (u := u) (v := v) (y := if m = 0 then 0 else C (m - 1)) (show m < th.length by omega) (by omega) (h m (by omega)) (fun hm => by rw [if_neg (by omega)]; exact h (m - 1) (by omega)) (fun hm => if_pos hm)
    obtain ⟨σ2, b1, b2, b3, b4, b5⟩ := rIn_run (u := u) (v := v) (C := C) m (rStep n u v th m).1 σ1 (by rw [rStep_len]; omega) (by omega) (fun j hj => rep_frame (h j (by omega)) (rStep_other n u v th (by omega)) (a3 _ (by omega) (by omega)))
    refine ⟨σ2, runF_seq a1 b1, by rw [← rStep_len n u v th m]; exact b2, fun j hj => ?_, fun j hj => ?_, fun r hr hr2 => ?_⟩
    · rcases Nat.lt_or_ge j m with hjm | hjm
      · exact b3 j hjm
      · have e : j = m := by omega
        subst e
        exact rep_frame a2 (b4 j (Nat.le_refl _)) (b5 _ (fun i hi => by omega) (by omega))
    · exact (b4 j (by omega)).trans (rStep_other n u v th (by omega))
    · rw [b5 r (fun j hj => hr j (by omega)) hr2, a3 r (hr m (by omega)) hr2]
def nxs (u v : Int) : Nat → (Nat → Int) → Nat → Int
  | 0, C => C
  | m + 1, C => nxs u v m (nx u v C)
theorem rOut_run {n u v : Int} : ∀ (m d : Nat) (th : List Bool) (σ : Int → Int) (C : Nat → Int), d + m ≤ th.length → (th.length : Int) ≤ n → (∀ j, d ≤ j → C j = 0) → (∀ j, j < th.length → Rep n th σ j (C j)) → (∀ j, d ≤ j → th[j]?.getD false = false) →
    ∃ σ', runF (rOut n u v m d th).2 σ = some σ' ∧ (rOut n u v m d th).1.length = th.length ∧ (∀ j, j < th.length → Rep n (rOut n u v m d th).1 σ' j (nxs u v m C j)) ∧ (∀ r, (∀ j : Nat, j < th.length → r ≠ 2 * n + j) → r ≠ 3 * n → σ' r = σ r)
  | 0, d, th, σ, C, _, _, _, h, _ => ⟨σ, rfl, rfl, h, fun _ _ _ => rfl⟩
  | m + 1, d, th, σ, C, hl, hn, hC, h, hf => by
    obtain ⟨σ1, a1, a2, a3, a4, a5⟩ := rIn_run (u := u) (v := v) (C := C) (d + 1) th σ (by omega) (by omega) (fun j hj => h j (by omega))
    have hC' : ∀ j, d + 1 ≤ j → nx u v C j = 0 := fun j hj => by
      unfold nx
      rw [if_neg (by omega), hC j (by omega), hC (j - 1) (by omega), Int.mul_zero, Int.mul_zero]; rfl
    have hf' : ∀ j, d + 1 ≤ j → (rIn n u v (d + 1) th).1[j]?.getD false = false := fun j hj => by rw [a4 j hj]; exact hf j (by omega)
    obtain ⟨σ2, b1, b2, b3, b4⟩ := rOut_run (u := u) (v := v) m (d + 1) (rIn n u v (d + 1) th).1 σ1 (nx u v C) (by rw [a2]; omega) (by rw [a2]; exact hn) hC' (fun j hj => by
      rcases Nat.lt_or_ge j (d + 1) with hjd | hjd
      · exact a3 j hjd
      · exact ⟨fun x => (by rw [hf' j hjd] at x; cases x), fun _ => hC' j hjd⟩) hf'
    refine ⟨σ2, runF_seq a1 b1, by rw [← a2]; exact b2, fun j hj => b3 j (by rw [a2]; exact hj), fun r hr hr2 => ?_⟩
    rw [b4 r (fun j hj => hr j (by rw [← a2]; exact hj)) hr2, a5 r (fun j hj => hr j (by omega)) hr2]
/-- a form's coefficient -/
def co (f : List Int) (j : Nat) : Int := f[j]?.getD 0
theorem byLin_co (p q : Int) : ∀ (f : List Int) (last : Int) (j : Nat), co (byLin p q last f) j = p * co f j - q * (if j = 0 then last else co f (j - 1))
  | [], last, 0 => by show -(q * last) = p * 0 - q * last; rw [Int.mul_zero]; omega
  | [], last, j + 1 => by show (0 : Int) = p * 0 - q * 0; rw [Int.mul_zero, Int.mul_zero]; rfl
  | c :: f, last, 0 => rfl
  | c :: f, last, j + 1 => by
    show co (byLin p q c f) j = p * co f j - q * co (c :: f) j
    rw [byLin_co p q f c j]
    cases j <;> rfl
theorem linPow_co (u v : Int) (e : Nat) : co (linPow u v (e + 1)) = nx u v (co (linPow u v e)) := by
  funext j
  show co (byLin v (-u) 0 (linPow u v e)) j = _
  rw [byLin_co]
  unfold nx
  rw [Int.neg_mul, Int.sub_neg]
theorem nx_scale (u v y : Int) (C : Nat → Int) : nx u v (fun j => y * C j) = fun j => y * nx u v C j := by
  funext j
  unfold nx
  rw [Int.mul_add]
  split
  · rw [Int.mul_zero, Int.mul_zero]; congr 1; ac_rfl
  · congr 1 <;> ac_rfl
theorem nxs_lin (u v y : Int) : ∀ (m e : Nat), nxs u v m (fun j => y * co (linPow u v e) j) = fun j => y * co (linPow u v (e + m)) j
  | 0, e => rfl
  | m + 1, e => by
    show nxs u v m (nx u v fun j => y * co (linPow u v e) j) = _
    rw [nx_scale, ← linPow_co, nxs_lin u v y m (e + 1), show e + 1 + m = e + (m + 1) by omega]
theorem raised_len (n u v : Int) : ∀ (m : Nat) (th : List Bool), (rIn n u v m th).1.length = th.length
  | 0, _ => rfl
  | m + 1, th => by show (rIn n u v m _).1.length = _; rw [raised_len, rStep_len]
theorem rOut_len (n u v : Int) : ∀ (m d : Nat) (th : List Bool), (rOut n u v m d th).1.length = th.length
  | 0, _, _ => rfl
  | m + 1, d, th => by show (rOut n u v m _ _).1.length = _; rw [rOut_len, raised_len]
theorem raisedT_len (n u v : Int) (e : Nat) : (raisedT n u v e).length = e + 1 := by unfold raisedT; rw [rOut_len, List.length_set, List.length_replicate]
theorem raised_run {n u v k : Int} {e : Nat} {σ : Int → Int} (he : (e : Int) < n) :
    ∃ σ', runF (raisedI n u v k e) σ = some σ' ∧ (∀ j, j ≤ e → Rep n (raisedT n u v e) σ' j (σ k * co (linPow u v e) j)) ∧ ∀ r, r < 2 * n → σ' r = σ r := by
  have hl : ((List.replicate (e + 1) false).set 0 true).length = e + 1 := by rw [List.length_set, List.length_replicate]
  have hget : ∀ j : Nat, ((List.replicate (e + 1) false).set 0 true)[j]?.getD false = decide (j = 0) := fun j => by
    rw [List.getElem?_set]
    split
    · rename_i h; subst h
      rw [if_pos (by rw [List.length_replicate]; omega)]; rfl
    · rename_i h
      rw [List.getElem?_replicate, decide_eq_false (fun e => h e.symm)]
      split <;> rfl
  have e0 : ∀ j : Nat, σ k * co (linPow u v 0) j = if j = 0 then σ k else 0 := fun j => by
    cases j with
    | zero => show σ k * 1 = _; rw [Int.mul_one]; rfl
    | succ j => show σ k * 0 = _; rw [Int.mul_zero]; rfl
  obtain ⟨σ', h1, h2, h3, h4⟩ := rOut_run (n := n) (u := u) (v := v) e 1 ((List.replicate (e + 1) false).set 0 true) (upd σ (2 * n) (1 * σ k)) (fun j => σ k * co (linPow u v 0) j) (by rw [hl]; omega) (by rw [hl]; omega) (fun j hj => by simp only [e0]; exact if_neg (by omega))
    (fun j hj => by
      unfold Rep
      rw [hget, e0]
      by_cases hj0 : j = 0
      · subst hj0
        refine ⟨fun _ => ?_, fun h => (by cases h)⟩
        show upd σ (2 * n) (1 * σ k) (2 * n + ((0 : Nat) : Int)) = σ k
        rw [show (2 * n + ((0 : Nat) : Int)) = 2 * n by omega, upd_at, Int.one_mul]
      · rw [decide_eq_false hj0, if_neg hj0]
        exact ⟨fun h => (by cases h), fun _ => rfl⟩) (fun j hj => by rw [hget]; exact decide_eq_false (by omega))
  refine ⟨σ', runF_seq (times_run _ _ _ _) h1, fun j hj => ?_, fun r hr => ?_⟩
  · have := h3 j (by rw [hl]; omega)
    rw [nxs_lin, Nat.zero_add] at this
    exact this
  · rw [h4 r (fun j _ => by omega) (by omega), upd_ne _ _ (by omega)]
def bkIn (n : Int) (p : R2) : Nat → List Sl.Instr
  | 0 => []
  | j + 1 => (if 0 < j then timesI (3 * n) (n + ((j : Int) - 1)) p.b else []) ++ (timesI (n + j) (n + j) p.a ++ ((if 0 < j then [⟨4, n + j, n + j, 3 * n, 0⟩] else []) ++ bkIn n p j))
def backA (n : Int) (p : R2) (e : Nat) : List Sl.Instr := timesI (n + e) (n + ((e : Int) - 1)) (-p.b) ++ bkIn n p e
def addAll (n : Int) : List Bool → Nat → List Sl.Instr
  | [], _ => []
  | t :: ts, j => (if t then [⟨3, n + j, n + j, 2 * n + j, 0⟩] else []) ++ addAll n ts (j + 1)
def backI (n : Int) (wh : List R2) (k : Int) (e : Nat) : List Sl.Instr :=
  backA n (ptW wh k) e ++ (raisedI n (bezS (ptW wh k).a (ptW wh k).b) (bezT (ptW wh k).a (ptW wh k).b) k e ++ addAll n (raisedT n (bezS (ptW wh k).a (ptW wh k).b) (bezT (ptW wh k).a (ptW wh k).b) e) 0)
theorem bkIn_run {n : Int} {p : R2} {c : Nat → Int} : ∀ (m : Nat) (σ : Int → Int), (m : Int) ≤ n → (∀ j : Nat, j < m → σ (n + j) = c j) →
    ∃ σ', runF (bkIn n p m) σ = some σ' ∧ (∀ j : Nat, j < m → σ' (n + j) = p.a * c j - p.b * (if j = 0 then 0 else c (j - 1))) ∧ ∀ r, (∀ j : Nat, j < m → r ≠ n + j) → r ≠ 3 * n → σ' r = σ r
  | 0, σ, _, _ => ⟨σ, rfl, fun j h => (by omega), fun _ _ _ => rfl⟩
  | m + 1, σ, hm, h => by
    obtain ⟨σ1, a1, a2, a3⟩ : ∃ σ1, runF ((if 0 < m then timesI (3 * n) (n + ((m : Int) - 1)) p.b else []) ++ (timesI (n + m) (n + m) p.a ++ (if 0 < m then [⟨4, n + m, n + m, 3 * n, 0⟩] else []))) σ = some σ1 ∧ σ1 (n + m) = p.a * c m - p.b * (if m = 0 then 0 else c (m - 1)) ∧ ∀ r, r ≠ n + m → r ≠ 3 * n → σ1 r = σ r := by
      by_cases hm0 : 0 < m
      · rw [if_pos hm0, if_pos hm0, if_neg (by omega)]
        refine ⟨_, runF_seq (times_run _ _ _ _) (runF_seq (times_run _ _ _ _) (run_sub _ _ _ _)), ?_, fun r h1 h2 => ?_⟩
        · have e1 : σ (n + ((m : Int) - 1)) = c (m - 1) := by
            rw [show ((m : Int) - 1) = ((m - 1 : Nat) : Int) by omega]; exact h (m - 1) (by omega)
          rw [upd_at, upd_at, upd_ne _ _ (by omega), upd_ne _ _ (by omega), upd_at, h m (by omega), e1]
        · rw [upd_ne _ _ h1, upd_ne _ _ h1, upd_ne _ _ h2]
      · rw [if_neg hm0, if_neg hm0, if_pos (by omega), List.nil_append, List.append_nil]
        refine ⟨_, times_run _ _ _ _, ?_, fun r h1 h2 => upd_ne _ _ h1⟩
        rw [upd_at, h m (by omega), Int.mul_zero, Int.sub_zero]
    obtain ⟨σ2, b1, b2, b3⟩ := bkIn_run (n := n) (p := p) (c := c) m σ1 (by omega) (fun j hj => by rw [a3 _ (by omega) (by omega)]; exact h j (by omega))
    refine ⟨σ2, ?_, fun j hj => ?_, fun r hr hr2 => ?_⟩
    · have := runF_seq a1 b1
      rw [List.append_assoc, List.append_assoc] at this
      exact this
    · rcases Nat.lt_or_ge j m with hjm | hjm
      · exact b2 j hjm
      · have e : j = m := by omega
        subst e
        rw [b3 _ (fun i hi => by omega) (by omega)]; exact a2
    · rw [b3 r (fun j hj => hr j (by omega)) hr2, a3 r (hr m (by omega)) hr2]
theorem addAll_run {n : Int} (σ0 : Int → Int) : ∀ (th : List Bool) (j0 : Nat) (σ : Int → Int), ((j0 + th.length : Nat) : Int) ≤ n → (∀ r, (∀ j : Nat, j < j0 → r ≠ n + j) → σ r = σ0 r) →
    ∃ σ', runF (addAll n th j0) σ = some σ' ∧ (∀ j : Nat, j < th.length → σ' (n + (j0 + j : Nat)) = σ0 (n + (j0 + j : Nat)) + (if th[j]?.getD false = true then σ0 (2 * n + (j0 + j : Nat)) else 0)) ∧ ∀ r, (∀ j : Nat, j < th.length → r ≠ n + (j0 + j : Nat)) → σ' r = σ r
  | [], j0, σ, _, _ => ⟨σ, rfl, fun j h => (by simp at h), fun _ _ => rfl⟩
  | t :: th, j0, σ, hn, h0 => by
    rw [List.length_cons] at hn
    obtain ⟨σ1, a1, a2, a3⟩ : ∃ σ1, runF (if t then [⟨3, n + j0, n + j0, 2 * n + j0, 0⟩] else []) σ = some σ1 ∧ σ1 (n + j0) = σ0 (n + j0) + (if t = true then σ0 (2 * n + j0) else 0) ∧ ∀ r, r ≠ n + j0 → σ1 r = σ r := by
      have e1 : σ (n + j0) = σ0 (n + j0) := h0 _ (fun j hj => by omega)
      have e2 : σ (2 * n + j0) = σ0 (2 * n + j0) := h0 _ (fun j hj => by omega)
      cases t
      · exact ⟨σ, rfl, by rw [e1]; exact (Int.add_zero _).symm, fun _ _ => rfl⟩
      · refine ⟨_, run_add _ _ _ _, ?_, fun r hr => upd_ne _ _ hr⟩
        rw [upd_at, e1, e2]; rfl
    obtain ⟨σ2, b1, b2, b3⟩ := addAll_run (n := n) σ0 th (j0 + 1) σ1 (by omega) (fun r hr => by
      rw [a3 r (hr j0 (by omega))]; exact h0 r (fun j hj => hr j (by omega)))
    refine ⟨σ2, runF_seq a1 b1, fun j hj => ?_, fun r hr => ?_⟩
    · rw [List.length_cons] at hj
      cases j with
      | zero =>
        rw [b3 _ (fun j hj => by omega)]
        exact a2
      | succ j =>
        have := b2 j (by omega)
        rw [show j0 + 1 + j = j0 + (j + 1) by omega] at this
        exact this
    · rw [b3 r (fun j hj => by have := hr (j + 1) (by rw [List.length_cons]; omega); rw [show j0 + 1 + j = j0 + (j + 1) by omega]; exact this)]
      refine a3 r ?_
      have := hr 0 (by rw [List.length_cons]; omega)
      exact this
theorem back_run {n : Int} {wh : List R2} {k : Int} {e : Nat} {σ : Int → Int} (f : List Int) (hf : f.length = e) (h1 : 1 ≤ e) (he : (e : Int) < n) (hk : k < n) (hs : ∀ j : Nat, j < e → σ (n + j) = co f j) :
    ∃ σ', runF (backI n wh k e) σ = some σ' ∧ (∀ j : Nat, j ≤ e → σ' (n + j) = co (byLin (ptW wh k).a (ptW wh k).b 0 f) j + σ k * co (linPow (bezS (ptW wh k).a (ptW wh k).b) (bezT (ptW wh k).a (ptW wh k).b) e) j) ∧ ∀ r, r < n → σ' r = σ r := by
  generalize hp : ptW wh k = p
  generalize hu : bezS p.a p.b = u
  generalize hv : bezT p.a p.b = v
  unfold backI
  rw [hp, hu, hv]
  obtain ⟨σ1, a1, a2, a3⟩ := bkIn_run (n := n) (p := p) (c := co f) e (upd σ (n + e) (-p.b * σ (n + ((e : Int) - 1)))) (by omega) (fun j hj => by rw [upd_ne _ _ (by omega)]; exact hs j hj)
  have hA : runF (backA n p e) σ = some σ1 := runF_seq (times_run _ _ _ _) a1
  have hB : ∀ j : Nat, j ≤ e → σ1 (n + j) = co (byLin p.a p.b 0 f) j := fun j hj => by
    rw [byLin_co]
    rcases Nat.lt_or_ge j e with hje | hje
    · exact a2 j hje
    · have e1 : j = e := by omega
      subst e1
      rw [a3 _ (fun i hi => by omega) (by omega), upd_at, if_neg (by omega)]
      have e2 : co f j = 0 := by unfold co; rw [List.getElem?_eq_none (by omega)]; rfl
      have e3 : σ (n + ((j : Int) - 1)) = co f (j - 1) := by
        rw [show ((j : Int) - 1) = ((j - 1 : Nat) : Int) by omega]; exact hs (j - 1) (by omega)
      rw [e2, e3, Int.mul_zero, Int.neg_mul]; omega
  have hC : ∀ r, r < n → σ1 r = σ r := fun r hr => by rw [a3 r (fun j hj => by omega) (by omega), upd_ne _ _ (by omega)]
  obtain ⟨σ2, b1, b2, b3⟩ := raised_run (u := u) (v := v) (k := k) (σ := σ1) he
  obtain ⟨σ3, c1, c2, c3⟩ := addAll_run (n := n) σ2 (raisedT n u v e) 0 σ2 (by rw [raisedT_len]; omega) (fun _ _ => rfl)
  refine ⟨σ3, runF_seq hA (runF_seq b1 c1), fun j hj => ?_, fun r hr => ?_⟩
  · have h2 := c2 j (by rw [raisedT_len]; omega)
    rw [Nat.zero_add] at h2
    rw [h2, b3 _ (by omega), hB j hj]
    congr 1
    obtain ⟨g1, g2⟩ := b2 j hj
    rw [hC k hk] at g1 g2
    cases ht : (raisedT n u v e)[j]?.getD false with
    | true => rw [if_pos rfl]; exact g1 ht
    | false => rw [if_neg (by decide)]; exact (g2 ht).symm
  · rw [c3 r (fun j hj => by omega), b3 r (by omega), hC r hr]
def awayAll (n : Int) (wh : List R2) : List Int → List Sl.Instr
  | [] => []
  | k :: left => awayI n wh k left.length left ++ awayAll n wh left
def backAll (n : Int) (wh : List R2) : List Int → List Sl.Instr
  | [] => []
  | [k] => timesI n k 1
  | k :: i :: left => backAll n wh (i :: left) ++ backI n wh k (i :: left).length
theorem co_less {t : Int} {F G : List Int} (h : F.length = G.length) (j : Nat) : co (lessT t F G) j = co F j - t * co G j := by
  unfold co lessT
  rw [List.getElem?_zipWith]
  rcases Nat.lt_or_ge j F.length with hj | hj
  · rw [List.getElem?_eq_getElem hj, List.getElem?_eq_getElem (show j < G.length by omega)]; rfl
  · rw [List.getElem?_eq_none hj, List.getElem?_eq_none (show G.length ≤ j by omega)]
    show (0 : Int) = 0 - t * 0
    rw [Int.mul_zero]; rfl
theorem smith_run {n : Int} {wh : List R2} : ∀ (o : List Int) (f : List Int) (σ : Int → Int), o.Nodup → o ≠ [] → (∀ k ∈ o, 0 ≤ k ∧ k < n) → (o.length : Int) ≤ n →
    (∀ k ∈ o, Int.gcd (ptW wh k).a (ptW wh k).b = 1 ∧ bezS (ptW wh k).a (ptW wh k).b * (ptW wh k).a + bezT (ptW wh k).a (ptW wh k).b * (ptW wh k).b = 1) → (∀ k ∈ o, ∀ i ∈ o, k ≠ i → detC wh k i ≠ 0) → f.length = o.length → (∀ k ∈ o, σ k = ev f (ptW wh k).a (ptW wh k).b) →
    ∃ σ', runF (awayAll n wh o ++ backAll n wh o) σ = some σ' ∧ (∀ j : Nat, j < f.length → σ' (n + j) = co f j) ∧ ∀ r, r < n → r ∉ o → σ' r = σ r
  | [], f, σ, _, h, _, _, _, _, _, _ => absurd rfl h
  | [k], f, σ, _, _, ho, _, _, _, hf, hv => by
    obtain ⟨c, rfl⟩ : ∃ c, f = [c] := by
      match f, hf with
      | [c], _ => exact ⟨c, rfl⟩
    have hk := ho k (by simp)
    refine ⟨_, (times_run n k 1 σ : runF (timesI n k 1) σ = _), fun j hj => ?_, fun r hr hr2 => upd_ne _ _ (by omega)⟩
    have hj0 : j = 0 := by simpa using hj
    subst hj0
    show upd σ n (1 * σ k) (n + ((0 : Nat) : Int)) = c
    rw [show n + ((0 : Nat) : Int) = n by omega, upd_at, hv k (by simp), Int.one_mul]
    show c * _ ^ 0 + _ * 0 = c
    rw [Int.pow_zero, Int.mul_one, Int.mul_zero, Int.add_zero]
  | k :: i :: left, f, σ, hn, _, ho, hon, hg, hd, hf, hv => by
    obtain ⟨hn1, hn2⟩ := List.nodup_cons.1 hn
    obtain ⟨hk0, hkn⟩ := ho k List.mem_cons_self
    obtain ⟨hgk, hbk⟩ := hg k List.mem_cons_self
    generalize hrest : i :: left = rest at *
    have hrl : 1 ≤ rest.length := by rw [← hrest]; simp
    rw [List.length_cons] at hf hon
    obtain ⟨g, g1, g2, g3⟩ := take_away hgk hbk f rest.length hf
    have hvk := hv k List.mem_cons_self
    obtain ⟨σ1, a1, a2, a3⟩ := awayI_run (n := n) (wh := wh) (k := k) (e := rest.length) (by omega) (fun i => ev g (ptW wh i).a (ptW wh i).b) rest σ hn2 hn1 (fun i hi => by
      have := ho i (List.mem_cons_of_mem _ hi)
      refine ⟨by omega, hd k List.mem_cons_self i (List.mem_cons_of_mem _ hi) (fun e => hn1 (e ▸ hi)), ?_⟩
      rw [hvk, hv i (List.mem_cons_of_mem _ hi)]
      have e2 := g3 (ptW wh i).a (ptW wh i).b
      have e3 : detC wh k i = (ptW wh k).a * (ptW wh i).b - (ptW wh k).b * (ptW wh i).a := by unfold detC; rw [Int.mul_comm (ptW wh i).a]
      rw [e3]
      exact e2)
    obtain ⟨σ2, b1, b2, b3⟩ := smith_run rest g σ1 hn2 (by intro e; rw [e] at hrl; simp at hrl) (fun k hk => ho k (List.mem_cons_of_mem _ hk)) (by omega) (fun k hk => hg k (List.mem_cons_of_mem _ hk)) (fun k hk i hi => hd k (List.mem_cons_of_mem _ hk) i (List.mem_cons_of_mem _ hi)) g1 (fun i hi => a2 i hi)
    have hk2 : σ2 k = σ k := by rw [b3 k hkn hn1, a3 k hn1 (by omega)]
    obtain ⟨σ3, c1, c2, c3⟩ := back_run (wh := wh) (σ := σ2) g g1 hrl (by omega) hkn (fun j hj => b2 j (by omega))
    refine ⟨σ3, ?_, fun j hj => ?_, fun r hr hr2 => ?_⟩
    · have e1 : awayAll n wh (k :: rest) ++ backAll n wh (k :: rest) = awayI n wh k rest.length rest ++ ((awayAll n wh rest ++ backAll n wh rest) ++ backI n wh k rest.length) := by
        have e2 : backAll n wh (k :: rest) = backAll n wh rest ++ backI n wh k rest.length := by rw [← hrest]; rfl
        rw [e2]
        show (awayI n wh k rest.length rest ++ awayAll n wh rest) ++ _ = _
        simp only [List.append_assoc]
      rw [e1]
      exact runF_seq a1 (runF_seq b1 c1)
    · rw [c2 j (by omega), ← g2, hk2, hvk, co_less (by rw [hf, linPow_len])]
      omega
    · rw [c3 r hr, b3 r hr (fun x => hr2 (List.mem_cons_of_mem _ x)), a3 r (fun x => hr2 (List.mem_cons_of_mem _ x)) (by omega)]
end Go.Proofs.YtbppmiimeccclaaGreat
set_option maxRecDepth 100000
set_option linter.unusedVariables false
namespace Go.Proofs.YtbppmiimeccclaaGreat
open Go Go.Sl
set_option maxHeartbeats 4000000
theorem c142 (G : Imm) (b : Nat) (n : Int) (ac : Option Addr) (cc : Nat) (code : List Sl.Instr) (j : List Value) (wa : Option Addr) (wn wc : Nat) (to x c : Int) (e : Nat) (ho : OwnA ac cc code j) (hl : (code ++ powI to x c e).length ≤ 1048576) (hc : -512 ≤ c ∧ c ≤ 512) (he : e ≤ 1000) :
    Does Tryz.prog 142 [.pointer (some ⟨b, 0, none⟩), .int .i64 to, .int .i64 x, .int .i64 c, .int .i64 e] G [(0, some b, .cells #[.int .i64 n, .slice ac code.length cc, .slice wa wn wc] 149), (1, ac.map (·.block), Row 93 code j)]
      (fun v G' Ho => v = .tuple #[] ∧ G' = G ∧ ∃ (a' : Option Addr) (c' : Nat) (j' : List Value), OwnA a' c' (code ++ powI to x c e) j' ∧ Ho = [(0, some b, .cells #[.int .i64 n, .slice a' (code ++ powI to x c e).length c', .slice wa wn wc] 149), (1, a'.map (·.block), Row 93 (code ++ powI to x c e) j')]) := by
  have hl0 : code.length ≤ 1048576 := by rw [List.length_append] at hl; omega
  refine Does.enter Tryz.func142 rfl Tryz.ntmps142 rfl (fun w => ?_)
  refine Wc.gl 6 [] ?_
  apply Wl.joinAnd 3 14 17 rfl
  intro hg1
  refine Wl.ll0 5 [] ?_
  exact Wl.back 3 0 rfl rfl rfl rfl rfl
  intro hg1
  refine Wl.ll0 3 [] ?_
  exact Wl.back 3 0 rfl rfl rfl rfl rfl
  refine Wl.q rfl (Qy.move rfl) ?_
  apply Wl.joinOr 3 18 21 rfl
  intro hg1
  refine Wl.ll0 5 [] ?_
  exact Wl.back 3 0 rfl rfl rfl rfl rfl
  intro hg1
  refine Wl.ll0 3 [] ?_
  exact Wl.back 3 0 rfl rfl rfl rfl rfl
  refine Wl.q rfl (Qy.move rfl) ?_
  apply Wl.joinOr 3 22 25 rfl
  intro hg1
  refine Wl.ll0 5 [] ?_
  exact Wl.back 3 0 rfl rfl rfl rfl rfl
  intro hg1
  refine Wl.ll0 3 [] ?_
  exact Wl.back 3 0 rfl rfl rfl rfl rfl
  refine Wl.gc 2 [] ?_
  refine Wc.cond rfl (fun hc1 => ?_) (fun hc1 => ?_)
  refine Wc.gl 6 [] ?_
  apply Wl.joinAnd 4 28 32 rfl
  intro hg1
  refine Wl.ll0 3 [] ?_
  refine Wl.q rfl (Qy.urem rfl rfl (by omega)) ?_
  refine Wl.ll0 3 [] ?_
  exact Wl.back 4 0 rfl rfl rfl rfl rfl
  intro hg1
  refine Wl.ll0 4 [] ?_
  exact Wl.back 4 0 rfl rfl rfl rfl rfl
  refine Wl.gc 2 [] ?_
  refine Wc.cond rfl (fun hc2 => ?_) (fun hc2 => ?_)
  refine Wc.gl 10 [] ?_
  refine Wl.call 0 rfl T.fn89 rfl (c89 _ b n ac cc code j wa wn wc _ _ _ ho hl0) (tags_of ⟨rfl, rfl, trivial⟩) (fun v1 G1 Ho1 hle1 hp => ?_)
  obtain ⟨rfl, rfl, a1, d1, j1, ho1, rfl⟩ := hp
  refine Wl.ga 4 [] ?_
  rotate_left
  refine Wc.gl 8 [] ?_
  refine Wl.call 0 rfl T.fn89 rfl (c89 _ b n ac cc code j wa wn wc _ _ _ ho hl0) (tags_of ⟨rfl, rfl, trivial⟩) (fun v1 G1 Ho1 hle1 hp => ?_)
  obtain ⟨rfl, rfl, a1, d1, j1, ho1, rfl⟩ := hp
  refine Wl.ga 4 [] ?_
  rotate_left
  refine Wc.gc 17 [] ?_
  rotate_left
  · have e1 : powI to x c e = timesI to x 1 := by unfold powI; rw [if_pos (by omega), if_pos (by omega)]
    rw [e1]
    refine Ar.out0 (by first | exact .inl rfl | exact .inr rfl) (Ho := [(0, some b, .cells #[.int .i64 n, .slice a1 (code ++ timesI to x 1).length d1, .slice wa wn wc] 149), (1, a1.map (·.block), Row 93 (code ++ timesI to x 1) j1)]) rfl ⟨rfl, rfl, trivial⟩ ?_
    exact ⟨rfl, rfl, a1, d1, j1, ho1, rfl⟩
  · have e1 : powI to x c e = timesI to x c := by unfold powI; rw [if_pos (by omega), if_neg (by omega)]
    rw [e1]
    refine Ar.out0 (by first | exact .inl rfl | exact .inr rfl) (Ho := [(0, some b, .cells #[.int .i64 n, .slice a1 (code ++ timesI to x c).length d1, .slice wa wn wc] 149), (1, a1.map (·.block), Row 93 (code ++ timesI to x c) j1)]) rfl ⟨rfl, rfl, trivial⟩ ?_
    exact ⟨rfl, rfl, a1, d1, j1, ho1, rfl⟩
  · have hT0 : code ++ powL to c x 1 e = code ++ powI to x c e := by unfold powI; rw [if_neg (by omega)]
    generalize code ++ powI to x c e = Tg at *
    refine Wc.loop (ι := Nat × Int × Int × List Sl.Instr × (Option Addr × Nat × List Value)) (fun (t, fr, k, cd, (o, d, q)) => ([(40, .int .i64 (t : Int)), (11, .int .i64 k), (10, .int .i64 fr), (39, Go.Value.int Go.IntKind.i64 (↑e : Int)), (0, Go.Value.pointer (Option.some (Go.Addr.mk b 0 Option.none))), (1, Go.Value.int Go.IntKind.i64 to), (3, Go.Value.int Go.IntKind.i64 c)], [(0, some b, .cells #[.int .i64 n, .slice o cd.length d, .slice wa wn wc] 149), (1, o.map (·.block), Row 93 cd q)])) (fun (t, fr, k, cd, (o, d, q)) => t ≤ e ∧ (-512 ≤ k ∧ k ≤ 512) ∧ cd ++ powL to c fr k (e - t) = Tg ∧ OwnA o d cd q) (fun (t, fr, k, cd, (o, d, q)) => e - t) ((0, x, 1, code, (ac, cc, j))) (⟨Nat.zero_le _, by omega, hT0, ho⟩) ⟨rfl, rfl, rfl, rfl, rfl, rfl, rfl, trivial⟩ ⟨rfl, rfl, trivial⟩ (fun ⟨t, fr, k, cd, (o, d, q)⟩ => fun (hk : t ≤ e ∧ (-512 ≤ k ∧ k ≤ 512) ∧ cd ++ powL to c fr k (e - t) = Tg ∧ OwnA o d cd q) => ?_)
    obtain ⟨ht1, ht2, ht3, ht4⟩ := hk
    have htl : cd.length ≤ 1048576 := by rw [← ht3, List.length_append] at hl; omega
    have hkc : (k * c).natAbs ≤ 512 * 512 := by rw [Int.natAbs_mul]; exact Nat.mul_le_mul (by omega) (by omega)
    have hkc2 : -9223372036854775808 ≤ k * c ∧ k * c ≤ 9223372036854775807 := by omega
    have hkc3 : -9223372036854775808 ≤ 1 * c ∧ 1 * c ≤ 9223372036854775807 := by omega
    rcases Nat.lt_or_ge t e with hte | hte
    · have e2 : e - t = (e - (t + 1)) + 1 := by omega
      rw [e2] at ht3
      unfold powL at ht3
      refine Wc.gl 16 [1] ?_
      refine Wl.q rfl (Qy.mul rfl rfl (by omega)) ?_
      refine Wl.ll0 2 [] ?_
      apply Wl.joinOr 5 46 51 rfl
      intro hg1
      refine Wl.ll0 5 [] ?_
      refine Wl.q rfl (Qy.mul rfl rfl (by omega)) ?_
      refine Wl.ll0 3 [] ?_
      exact Wl.back 5 0 rfl rfl rfl rfl rfl
      intro hg1
      refine Wl.ll0 5 [] ?_
      exact Wl.back 5 0 rfl rfl rfl rfl rfl
      refine Wl.gc 2 [] ?_
      refine Wc.cond rfl (fun hc2 => ?_) (fun hc2 => ?_)
      refine Wc.gl 6 [] ?_
      refine Wl.call 0 rfl T.fn89 rfl (c89 _ b n o d cd q wa wn wc _ _ _ ht4 htl) (tags_of ⟨rfl, rfl, trivial⟩) (fun v1 G1 Ho1 hle1 hp => ?_)
      obtain ⟨rfl, rfl, a1, d1, j1, ho1, rfl⟩ := hp
      refine Wl.gl 11 [] ?_
      refine Wl.q rfl (Qy.mul rfl rfl (by omega)) ?_
      refine Wl.ga 8 [] ?_
      rotate_left
      refine Wc.gl 5 [] ?_
      refine Wl.q rfl (Qy.mul rfl rfl (by omega)) ?_
      refine Wl.ga 8 [] ?_
      rotate_left
      · refine Ar.re 40 rfl (show _ = Value.int .i64 ((t + 1 : Nat) : Int) from rfl) ?_
        refine Ar.re 11 rfl (show _ = Value.int .i64 c by rw [Int.one_mul]) ?_
        refine Ar.again ((t + 1, to, c, cd ++ timesI to fr k, (a1, d1, j1))) ?_ ?_ rfl ⟨rfl, rfl, rfl, rfl, rfl, rfl, rfl, trivial⟩ ⟨rfl, rfl, trivial⟩
        · rw [if_pos hc2, ← List.append_assoc] at ht3
          exact ⟨hte, hc, ht3, ho1⟩
        · show e - (t + 1) < e - t
          omega
      · refine Ar.re 40 rfl (show _ = Value.int .i64 ((t + 1 : Nat) : Int) from rfl) ?_
        refine Ar.again ((t + 1, fr, k * c, cd, (o, d, q))) ?_ ?_ rfl ⟨rfl, rfl, rfl, rfl, rfl, rfl, rfl, trivial⟩ ⟨rfl, rfl, trivial⟩
        · rw [if_neg hc2] at ht3
          exact ⟨hte, by omega, ht3, ht4⟩
        · show e - (t + 1) < e - t
          omega
    · have hte : t = e := by omega
      subst hte
      rw [Nat.sub_self] at ht3
      have ht3 : cd ++ timesI to fr k = Tg := ht3
      subst ht3
      refine Wc.gl 17 [0] ?_
      refine Wl.call 0 rfl T.fn89 rfl (c89 _ b n o d cd q wa wn wc _ _ _ ht4 htl) (tags_of ⟨rfl, rfl, trivial⟩) (fun v1 G1 Ho1 hle1 hp => ?_)
      obtain ⟨rfl, rfl, a1, d1, j1, ho1, rfl⟩ := hp
      refine Wl.done ?_
      refine Ar.out0 (by first | exact .inl rfl | exact .inr rfl) (Ho := [(0, some b, .cells #[.int .i64 n, .slice a1 (cd ++ timesI to fr k).length d1, .slice wa wn wc] 149), (1, a1.map (·.block), Row 93 (cd ++ timesI to fr k) j1)]) rfl ⟨rfl, rfl, trivial⟩ ?_
      exact ⟨rfl, rfl, a1, d1, j1, ho1, rfl⟩
end Go.Proofs.YtbppmiimeccclaaGreat
set_option maxRecDepth 100000
set_option linter.unusedVariables false
namespace Go.Proofs.YtbppmiimeccclaaGreat
open Go Go.Sl
section
variable {P : Program} {e : Env} {H : Hp} {G : Imm}
theorem Qy.indexLit {ty : TypeId} {T et : TypeId} {len i : Nat} {x y : Operand} {cs : List Value} {v : Value} (hT : P.underlying T = some (.array len et)) (h1 : P.plainKey et = true) (hs : (P.info? et).map (·.size) = some 1)
    (hx : e.ev x = some (.agg cs.toArray)) (hy : e.ev y = some (.int .i64 (i : Int))) (hi : i < len) (hv : cs[i]? = some v) : Qy P (.index T x y) ty e H G v := fun a w _ _ _ _ hh => by
  have hp : (part et cs.toArray i).run P w = .ok v w := by
    unfold Program.plainKey at h1
    cases hu : P.underlying et with
    | none => simp [hu] at h1
    | some d => cases d <;> simp [hu] at h1 <;> simp [part, isAgg, run_underlying hu, hv, Result.andThen]
  have hsz := Go.Sl.run_sizeOf (P := P) w hs
  have h2 : (0 : Int) ≤ (i : Int) ∧ (i : Int) < (len : Int) := by omega
  simp only [execOp, hh.eval hx, hh.eval hy, Instr.index, asIntOf, Sem.run_bind, Sem.run_pure, Result.andThen_ok, run_underlying hT]
  rw [if_pos h2]
  simp only [Sem.run_bind, hsz, Result.andThen_ok, Int.toNat_natCast, Nat.mul_one, hp, Sem.run_pure]
end
theorem und201 : Tryz.prog.underlying 201 = some (.array 2 3) := by kernel_rfl
theorem pkey3 : Tryz.prog.plainKey 3 = true := by kernel_rfl
theorem siz3 : (Tryz.prog.info? 3).map (·.size) = some 1 := by kernel_rfl
theorem bez_first (a b : Int) : ∀ (n k j : Nat), k ≤ j → j < bezF a b n k → hitB a b (j : Int) = false ∧ hitB a b (-(j : Int)) = false
  | 0, k, j, h1, h2 => by unfold bezF at h2; omega
  | n + 1, k, j, h1, h2 => by
    unfold bezF at h2
    split at h2
    · omega
    · rename_i hh
      by_cases hjk : j = k
      · subst hjk
        cases h3 : hitB a b (j : Int) <;> cases h4 : hitB a b (-(j : Int)) <;> simp [h3, h4] at hh ⊢
      · exact bez_first a b n (k + 1) j (by omega) h2
set_option maxHeartbeats 4000000
theorem c86 (G : Imm) (x y : Int) (hn : near x y) (h0 : ¬ (x = 0 ∧ y = 0)) :
    Does Tryz.prog 86 [.agg #[.int .i64 x, .int .i64 y]] G [] (fun v G' Ho => v = .tuple #[.int .i64 (Int.gcd x y), .int .i64 (bezS x y), .int .i64 (bezT x y), .int .i64 0] ∧ G' = G ∧ Ho = []) := by
  have hn2 := hn
  unfold near at hn2
  refine Does.enter Tryz.func86 rfl Tryz.ntmps86 rfl (fun w => ?_)
  obtain ⟨hb1, hb2, hb3, hb4⟩ := bez_facts hn h0
  have q1 := tdiv_rng x (Int.gcd x y)
  have hg0 : 0 < Int.gcd x y := Nat.pos_of_ne_zero fun h1 => h0 (Int.gcd_eq_zero_iff.mp h1)
  have hg16 : Int.gcd x y ≤ 16 := by
    by_cases ha : x = 0
    · have := Nat.le_of_dvd (by omega) (show Int.gcd x y ∣ y.natAbs from Nat.gcd_dvd_right _ _)
      omega
    · have := Nat.le_of_dvd (by omega) (show Int.gcd x y ∣ x.natAbs from Nat.gcd_dvd_left _ _)
      omega
  refine Wc.gl 2 [] ?_
  refine Wl.box 0 rfl rfl rfl (fun b1 => ?_)
  refine Wl.gl 12 [0, 0] ?_
  refine Wl.call0 rfl T.fn139 rfl (c139 _ _ _ (by omega) (by omega)) ?_
  refine Wl.gl 8 [0] ?_
  refine Wl.call0 rfl T.fn72 rfl (c72 _ _ _) ?_
  refine Wl.q rfl (Qy.notD rfl) ?_
  refine Wl.gc 3 [] ?_
  refine Wc.cond rfl (fun hc1 => ?_) (fun hc1 => ?_)
  refine Wc.ga 11 [] ?_
  refine Ar.out4 (.inr rfl) (Ho := Hp.only _ []) rfl (.tmp rfl) (.tmp rfl) (.tmp rfl) (.tmp rfl) (Hp.sub_only _ _) ?_
  rotate_left
  refine Wc.gc 16 [0, 0] ?_
  refine Wc.cond rfl (fun hc2 => ?_) (fun hc2 => ?_)
  refine Wc.seq ?_
  refine Wc.draw [0] [] T.mixed rfl ?_
  refine Gm.q 0 [] (by kernel_rfl) rfl rfl (Qy.move rfl) ?_
  refine Gm.q 1 [] (by kernel_rfl) rfl rfl (Qy.fieldAddr T.fa59_0 rfl) ?_
  refine Gm.q 2 [0] (by kernel_rfl) rfl rfl (Qy.load 0 T.one3 rfl rfl rfl) ?_
  refine Gm.q 3 [] (by kernel_rfl) rfl rfl (Qy.move rfl) ?_
  refine Gm.q 4 [] (by kernel_rfl) rfl rfl (Qy.quo rfl rfl (by omega) (by omega)) ?_
  refine Gm.q 5 [] (by kernel_rfl) rfl rfl (Qy.assign rfl) ?_
  refine Gm.q 6 [] (by kernel_rfl) rfl rfl (Qy.assign rfl) ?_
  refine Gm.q 7 [] (by kernel_rfl) rfl rfl (Qy.assign rfl) ?_
  refine Gm.q 8 [] (by kernel_rfl) rfl rfl (Qy.assign rfl) ?_
  refine Gm.doneA (by kernel_rfl) ⟨rfl, trivial⟩ (by first | exact Imm.le_refl _ | repeat (first | assumption | refine Imm.le_trans ?_ (by assumption))) ?_
  refine Ar.ga 4 [] ?_
  refine Ar.out4 (.inr rfl) (Ho := Hp.only _ []) rfl (.tmp rfl) (.tmp rfl) (.tmp rfl) (.tmp rfl) (Hp.sub_only _ _) ?_
  rotate_left
  refine Wc.gc 9 [] ?_
  rotate_left
  · exact absurd hn hc1
  · refine ⟨?_, rfl, rfl⟩
    unfold bezS bezT
    rw [if_pos hc2, if_pos hc2]
  · refine Wc.loop (ι := Nat) (fun k => ([(7, .int .i64 (k : Int)), (6, Go.Value.int Go.IntKind.i64 (↑(Int.gcd x y) : Int)), (1, Go.Value.pointer (Option.some (Go.Addr.mk b1 0 Option.none)))], [(0, Option.some b1, Go.Obj.cells #[Go.Value.int Go.IntKind.i64 x, Go.Value.int Go.IntKind.i64 y] 59)])) (fun k => k ≤ bezK x y) (fun k => bezK x y + 1 - k) (0) (Nat.zero_le _) ⟨rfl, rfl, rfl, trivial⟩ ⟨rfl, trivial⟩ (fun k => fun (hk : k ≤ bezK x y) => ?_)
    have hm1 : ((k : Int) * x).natAbs ≤ 15 * 16 := by rw [Int.natAbs_mul]; exact Nat.mul_le_mul (by omega) (by omega)
    have hm2 : (-(k : Int) * x).natAbs ≤ 15 * 16 := by rw [Int.natAbs_mul]; exact Nat.mul_le_mul (by omega) (by omega)
    have hm3 : -9223372036854775808 ≤ (k : Int) * x ∧ (k : Int) * x ≤ 9223372036854775807 := by omega
    have hm4 : -9223372036854775808 ≤ -(k : Int) * x ∧ -(k : Int) * x ≤ 9223372036854775807 := by omega
    refine Wc.gl 6 [] ?_
    refine Wl.q rfl (Qy.neg rfl (by omega)) ?_
    refine Wl.q rfl (Qy.buildA (cs := [_, _]) T.ar201 rfl rfl rfl) ?_
    refine Wl.gc 4 [] ?_
    refine Wc.loop (ι := Nat) (fun i => ([(37, .int .i64 (i : Int)), (7, .int .i64 (k : Int)), (36, Go.Value.agg #[Go.Value.int Go.IntKind.i64 (↑k : Int), Go.Value.int Go.IntKind.i64 (-(↑k : Int))]), (6, Go.Value.int Go.IntKind.i64 (↑(Int.gcd x y) : Int)), (1, Go.Value.pointer (Option.some (Go.Addr.mk b1 0 Option.none)))], [(0, Option.some b1, Go.Obj.cells #[Go.Value.int Go.IntKind.i64 x, Go.Value.int Go.IntKind.i64 y] 59)])) (fun i => i ≤ 2 ∧ (1 ≤ i → hitB x y (k : Int) = false) ∧ (2 ≤ i → hitB x y (-(k : Int)) = false)) (fun i => 2 - i) (0) (⟨Nat.zero_le _, fun h => absurd h (by omega), fun h => absurd h (by omega)⟩) ⟨rfl, rfl, rfl, rfl, rfl, trivial⟩ ⟨rfl, trivial⟩ (fun i => fun (hk : i ≤ 2 ∧ (1 ≤ i → hitB x y (k : Int) = false) ∧ (2 ≤ i → hitB x y (-(k : Int)) = false)) => ?_)
    obtain ⟨hi1, hi2, hi3⟩ := hk
    have hcase : i = 0 ∨ i = 1 ∨ i = 2 := by omega
    have q2 := tdiv_rng ((Int.gcd x y : Int) - (k : Int) * x) y
    have q3 := tdiv_rng ((Int.gcd x y : Int) - -(k : Int) * x) y
    have hit : ∀ s : Int, hitB x y s = true ↔ ((Int.gcd x y : Int) - s * x).tmod y = 0 := fun s => by unfold hitB; rw [beq_iff_eq]
    rcases hcase with hi | hi | hi
    · subst hi
      refine Wc.gl 13 [1] ?_
      refine Wl.q rfl (Qy.indexLit (i := 0) (cs := [.int .i64 (k : Int), .int .i64 (-(k : Int))]) und201 pkey3 siz3 rfl rfl (by decide) rfl) ?_
      refine Wl.gl 9 [0] ?_
      refine Wl.q rfl (Qy.mul rfl rfl (by omega)) ?_
      refine Wl.ll0 3 [0] ?_
      refine Wl.q rfl (Qy.rem rfl rfl (by omega)) ?_
      refine Wl.gc 3 [] ?_
      refine Wc.cond rfl (fun hc3 => ?_) (fun hc3 => ?_)
      refine Wc.seq ?_
      refine Wc.draw [0] [] T.mixed rfl ?_
      refine Gm.q 0 [] (by kernel_rfl) rfl rfl (Qy.move rfl) ?_
      refine Gm.q 1 [] (by kernel_rfl) rfl rfl (Qy.move rfl) ?_
      refine Gm.q 2 [] (by kernel_rfl) rfl rfl (Qy.move rfl) ?_
      refine Gm.q 3 [] (by kernel_rfl) rfl rfl (Qy.move rfl) ?_
      refine Gm.q 4 [] (by kernel_rfl) rfl rfl (Qy.fieldAddr T.fa59_0 rfl) ?_
      refine Gm.q 5 [0] (by kernel_rfl) rfl rfl (Qy.load 0 T.one3 rfl rfl rfl) ?_
      refine Gm.q 6 [] (by kernel_rfl) rfl rfl (Qy.mul rfl rfl (by omega)) ?_
      refine Gm.q 7 [] (by kernel_rfl) rfl rfl (Qy.sub rfl rfl (by omega)) ?_
      refine Gm.q 8 [] (by kernel_rfl) rfl rfl (Qy.fieldAddr T.fa59_1 rfl) ?_
      refine Gm.q 9 [0] (by kernel_rfl) rfl rfl (Qy.load 0 T.one3 rfl rfl rfl) ?_
      refine Gm.q 10 [] (by kernel_rfl) rfl rfl (Qy.quo rfl rfl (by omega) (by omega)) ?_
      refine Gm.q 11 [] (by kernel_rfl) rfl rfl (Qy.assign rfl) ?_
      refine Gm.q 12 [] (by kernel_rfl) rfl rfl (Qy.assign rfl) ?_
      refine Gm.q 13 [] (by kernel_rfl) rfl rfl (Qy.assign rfl) ?_
      refine Gm.q 14 [] (by kernel_rfl) rfl rfl (Qy.assign rfl) ?_
      refine Gm.doneA (by kernel_rfl) ⟨rfl, trivial⟩ (by first | exact Imm.le_refl _ | repeat (first | assumption | refine Imm.le_trans ?_ (by assumption))) ?_
      refine Ar.ga 10 [] ?_
      refine Ar.out4 (.inr rfl) (Ho := Hp.only _ []) rfl (.tmp rfl) (.tmp rfl) (.tmp rfl) (.tmp rfl) (Hp.sub_only _ _) ?_
      rotate_left
      refine Wc.ga 7 [] ?_
      rotate_left
      · have hkk : k = bezK x y := by
          rcases Nat.lt_or_ge k (bezK x y) with h | h
          · have := (bez_first x y 16 0 k (Nat.zero_le _) h).1
            rw [(hit _).2 hc3] at this; cases this
          · omega
        have hs : bezS x y = k := by unfold bezS; rw [if_neg hc2, ← hkk, if_pos ((hit _).2 hc3)]
        have ht : bezT x y = ((Int.gcd x y : Int) - (k : Int) * x).tdiv y := by unfold bezT; rw [if_neg hc2, hs]
        refine ⟨by rw [hs, ht], rfl, rfl⟩
      · refine Ar.re 37 rfl (show _ = Value.int .i64 ((1 : Nat) : Int) from rfl) ?_
        refine Ar.again (1) ?_ ?_ rfl ⟨rfl, rfl, rfl, rfl, rfl, trivial⟩ ⟨rfl, trivial⟩
        · refine ⟨by omega, fun _ => ?_, fun h => absurd h (by omega)⟩
          cases hh : hitB x y (k : Int)
          · rfl
          · exact absurd ((hit _).1 hh) hc3
        · show 2 - 1 < 2 - 0
          omega
    · subst hi
      refine Wc.gl 13 [1] ?_
      refine Wl.q rfl (Qy.indexLit (i := 1) (cs := [.int .i64 (k : Int), .int .i64 (-(k : Int))]) und201 pkey3 siz3 rfl rfl (by decide) rfl) ?_
      refine Wl.gl 9 [0] ?_
      refine Wl.q rfl (Qy.mul rfl rfl (by omega)) ?_
      refine Wl.ll0 3 [0] ?_
      refine Wl.q rfl (Qy.rem rfl rfl (by omega)) ?_
      refine Wl.gc 3 [] ?_
      refine Wc.cond rfl (fun hc3 => ?_) (fun hc3 => ?_)
      refine Wc.seq ?_
      refine Wc.draw [0] [] T.mixed rfl ?_
      refine Gm.q 0 [] (by kernel_rfl) rfl rfl (Qy.move rfl) ?_
      refine Gm.q 1 [] (by kernel_rfl) rfl rfl (Qy.move rfl) ?_
      refine Gm.q 2 [] (by kernel_rfl) rfl rfl (Qy.move rfl) ?_
      refine Gm.q 3 [] (by kernel_rfl) rfl rfl (Qy.move rfl) ?_
      refine Gm.q 4 [] (by kernel_rfl) rfl rfl (Qy.fieldAddr T.fa59_0 rfl) ?_
      refine Gm.q 5 [0] (by kernel_rfl) rfl rfl (Qy.load 0 T.one3 rfl rfl rfl) ?_
      refine Gm.q 6 [] (by kernel_rfl) rfl rfl (Qy.mul rfl rfl (by omega)) ?_
      refine Gm.q 7 [] (by kernel_rfl) rfl rfl (Qy.sub rfl rfl (by omega)) ?_
      refine Gm.q 8 [] (by kernel_rfl) rfl rfl (Qy.fieldAddr T.fa59_1 rfl) ?_
      refine Gm.q 9 [0] (by kernel_rfl) rfl rfl (Qy.load 0 T.one3 rfl rfl rfl) ?_
      refine Gm.q 10 [] (by kernel_rfl) rfl rfl (Qy.quo rfl rfl (by omega) (by omega)) ?_
      refine Gm.q 11 [] (by kernel_rfl) rfl rfl (Qy.assign rfl) ?_
      refine Gm.q 12 [] (by kernel_rfl) rfl rfl (Qy.assign rfl) ?_
      refine Gm.q 13 [] (by kernel_rfl) rfl rfl (Qy.assign rfl) ?_
      refine Gm.q 14 [] (by kernel_rfl) rfl rfl (Qy.assign rfl) ?_
      refine Gm.doneA (by kernel_rfl) ⟨rfl, trivial⟩ (by first | exact Imm.le_refl _ | repeat (first | assumption | refine Imm.le_trans ?_ (by assumption))) ?_
      refine Ar.ga 10 [] ?_
      refine Ar.out4 (.inr rfl) (Ho := Hp.only _ []) rfl (.tmp rfl) (.tmp rfl) (.tmp rfl) (.tmp rfl) (Hp.sub_only _ _) ?_
      rotate_left
      refine Wc.ga 7 [] ?_
      rotate_left
      · have hkk : k = bezK x y := by
          rcases Nat.lt_or_ge k (bezK x y) with h | h
          · have := (bez_first x y 16 0 k (Nat.zero_le _) h).2
            rw [(hit _).2 hc3] at this; cases this
          · omega
        have hs : bezS x y = -k := by unfold bezS; rw [if_neg hc2, ← hkk, if_neg (by rw [hi2 (by omega)]; decide)]
        have ht : bezT x y = ((Int.gcd x y : Int) - -(k : Int) * x).tdiv y := by unfold bezT; rw [if_neg hc2, hs]
        refine ⟨by rw [hs, ht], rfl, rfl⟩
      · refine Ar.re 37 rfl (show _ = Value.int .i64 ((2 : Nat) : Int) from rfl) ?_
        refine Ar.again (2) ?_ ?_ rfl ⟨rfl, rfl, rfl, rfl, rfl, trivial⟩ ⟨rfl, trivial⟩
        · refine ⟨by omega, fun _ => hi2 (by omega), fun _ => ?_⟩
          cases hh : hitB x y (-(k : Int))
          · rfl
          · exact absurd ((hit _).1 hh) hc3
        · show 2 - 2 < 2 - 1
          omega
    · subst hi
      refine Wc.ga 18 [0] ?_
      refine Ar.re 7 rfl (show _ = Value.int .i64 ((k + 1 : Nat) : Int) from rfl) ?_
      refine Ar.again (k + 1) ?_ ?_ rfl ⟨rfl, rfl, rfl, trivial⟩ ⟨rfl, trivial⟩
      · rcases Nat.lt_or_ge k (bezK x y) with h | h
        · exact h
        · have hkk : k = bezK x y := by omega
          have h1 := hi2 (by omega)
          have h2 := hi3 (by omega)
          rw [hkk] at h1 h2
          rw [h1, h2] at hb4
          rcases hb4 with h | h | h
          · exact absurd h hc2
          · cases h
          · cases h
      · show bezK x y + 1 - (k + 1) < bezK x y + 1 - k
        omega
end Go.Proofs.YtbppmiimeccclaaGreat
set_option maxRecDepth 100000
set_option linter.unusedVariables false
namespace Go.Proofs.YtbppmiimeccclaaGreat
open Go Go.Sl
set_option maxHeartbeats 4000000
/-- Det of two points' norms -/
def dt (p q : R2) : Int := (nrm p.a p.b).1 * (nrm q.a q.b).2 - (nrm q.a q.b).1 * (nrm p.a p.b).2
/-- the amounts of the pairs before the pair (i, j) -/
def Amt (l : List R2) (j i : Nat) (d : Int) : Prop := ∃ j' i', i' < j' ∧ (j' < j ∨ (j' = j ∧ i' < i)) ∧ d = ((dt (l[i']?.getD default) (l[j']?.getD default)).natAbs : Int)
theorem Amt.zero {l : List R2} {d : Int} : ¬ Amt l 0 0 d := fun ⟨j', i', h1, h2, _⟩ => by omega
theorem Amt.row {l : List R2} {j : Nat} {d : Int} : Amt l j j d ↔ Amt l (j + 1) 0 d :=
  ⟨fun ⟨j', i', h1, h2, h3⟩ => ⟨j', i', h1, by omega, h3⟩, fun ⟨j', i', h1, h2, h3⟩ => ⟨j', i', h1, by omega, h3⟩⟩
theorem Amt.step {l : List R2} {j i : Nat} {d : Int} (h : i < j) : Amt l j (i + 1) d ↔ Amt l j i d ∨ d = ((dt (l[i]?.getD default) (l[j]?.getD default)).natAbs : Int) := by
  constructor
  · rintro ⟨j', i', h1, h2, h3⟩
    by_cases hc : j' = j ∧ i' = i
    · rw [hc.1, hc.2] at h3; exact .inr h3
    · exact .inl ⟨j', i', h1, by omega, h3⟩
  · rintro (⟨j', i', h1, h2, h3⟩ | h3)
    · exact ⟨j', i', h1, by omega, h3⟩
    · exact ⟨j, i, h, by omega, h3⟩
/-- a table that marks what is among them -/
def Marks (xs : List Bool) (A : Int → Prop) : Prop := xs.length = 513 ∧ ∀ d : Nat, d < 513 → (xs[d]?.getD false = true ↔ A d)
theorem Marks.set {xs : List Bool} {A B : Int → Prop} {m : Int} (h : Marks xs A) (h0 : 0 ≤ m) (hB : ∀ d : Int, B d ↔ A d ∨ d = m) : Marks (xs.set m.toNat true) B := by
  refine ⟨by rw [List.length_set]; exact h.1, fun d hd => ?_⟩
  rw [hB, ← h.2 d hd, List.getElem?_set]
  by_cases e : m.toNat = d
  · rw [if_pos e, if_pos (by rw [h.1]; omega)]
    exact ⟨fun _ => .inr (by omega), fun _ => rfl⟩
  · rw [if_neg e]
    exact ⟨.inl, fun h => h.resolve_right (by omega)⟩
end Go.Proofs.YtbppmiimeccclaaGreat
set_option maxRecDepth 100000
set_option linter.unusedVariables false
namespace Go.Proofs.YtbppmiimeccclaaGreat
open Go Go.Sl
set_option maxHeartbeats 4000000
/-- an order of n things -/
def OrderP (o : List Int) (n : Nat) : Prop := o.length = n ∧ (∀ x ∈ o, 0 ≤ x ∧ x < n) ∧ o.Nodup
instance (o : List Int) (n : Nat) : Decidable (OrderP o n) := inferInstanceAs (Decidable (_ ∧ _))
/-- a table of n that marks what is among them -/
def MarksN (xs : List Bool) (n : Nat) (A : Int → Prop) : Prop := xs.length = n ∧ ∀ d : Nat, d < n → (xs[d]?.getD false = true ↔ A d)
theorem MarksN.set {xs : List Bool} {n : Nat} {A B : Int → Prop} {m : Int} (h : MarksN xs n A) (h0 : 0 ≤ m) (hB : ∀ d : Int, B d ↔ A d ∨ d = m) : MarksN (xs.set m.toNat true) n B := by
  refine ⟨by rw [List.length_set]; exact h.1, fun d hd => ?_⟩
  rw [hB, ← h.2 d hd, List.getElem?_set]
  by_cases e : m.toNat = d
  · rw [if_pos e, if_pos (by rw [h.1]; omega)]
    exact ⟨fun _ => .inr (by omega), fun _ => rfl⟩
  · rw [if_neg e]
    exact ⟨.inl, fun h => h.resolve_right (by omega)⟩
theorem c14 (G : Imm) (a : Option Addr) (c : Nat) (o : List Int) (n : Nat) (ha : Arr G a o) (h1 : o.length ≤ 1048576) (hn : n ≤ 1048576) :
    Does Tryz.prog 14 [.slice a o.length c, .int .i64 (n : Int)] G [] (fun v G' Ho => v = .bool (decide (OrderP o n)) ∧ G' = G ∧ Ho = []) := by
  refine Does.enter Tryz.func14 rfl Tryz.ntmps14 rfl (fun w => ?_)
  refine Wc.gc 14 [] ?_
  refine Wc.cond rfl (fun hc1 => ?_) (fun hc1 => ?_)
  refine Wc.ga 7 [] ?_
  rotate_left
  refine Wc.gl 5 [] ?_
  refine Wl.make (α := Bool) 0 rfl T.sl87 T.el4 rfl rfl (by omega) (by omega) (fun b1 => ?_)
  refine Wl.gc 10 [] ?_
  rotate_left
  · refine Ar.out1 (.inr rfl) (Ho := []) rfl (.tmp rfl) trivial ?_
    exact ⟨by congr 1; exact (decide_eq_false (fun h => hc1 (by rw [h.1]))).symm, rfl, rfl⟩
  have hon : o.length = n := by omega
  refine Wc.re 5 rfl (show _ = Value.slice (some ⟨b1, 0, none⟩) (List.replicate n false).length n by simp) ?_
  refine Wc.reH 0 (Row 4 (List.replicate n false) []) rfl (by rw [Int.toNat_natCast]; rfl) ?_
  refine Wc.loop (ι := Nat × List Bool) (fun (i, xs) => ([(6, .int .i64 (i : Int)), (5, .slice (some ⟨b1, 0, none⟩) xs.length n), (0, Go.Value.slice a (List.length o) c), (1, Go.Value.int Go.IntKind.i64 (↑n : Int))], [(0, some b1, Row 4 xs [])])) (fun (i, xs) => i ≤ n ∧ MarksN xs n (fun d => d ∈ o.take i) ∧ (o.take i).Nodup ∧ (∀ x ∈ o.take i, 0 ≤ x ∧ x < (n : Int))) (fun (i, xs) => n - i) ((0, List.replicate n false)) (⟨Nat.zero_le _, ⟨List.length_replicate .., fun d hd => by rw [List.getElem?_replicate, if_pos hd]; simp⟩, by simp, by simp⟩) ⟨rfl, rfl, rfl, rfl, trivial⟩ ⟨rfl, trivial⟩ (fun ⟨i, xs⟩ => fun (hk : i ≤ n ∧ MarksN xs n (fun d => d ∈ o.take i) ∧ (o.take i).Nodup ∧ (∀ x ∈ o.take i, 0 ≤ x ∧ x < (n : Int))) => ?_)
  obtain ⟨hi1, hi2, hi3, hi4⟩ := hk
  have hxn := hi2.1
  have hown : OwnA (some ⟨b1, 0, none⟩) n xs [] := .inr ⟨b1, rfl, by rw [hxn]; rfl, by rw [hxn]; exact Nat.le_refl _, by simp only [maxLen]; omega⟩
  have hx : i < n → o[((i : Nat) : Int).toNat]?.getD default ∈ o ∧ o.take (i + 1) = o.take i ++ [o[((i : Nat) : Int).toNat]?.getD default] := fun h => by
    have hio : i < o.length := by omega
    refine ⟨?_, ?_⟩
    · rw [Int.toNat_natCast, List.getElem?_eq_getElem hio]; exact List.getElem_mem hio
    · rw [List.take_add_one, Int.toNat_natCast, List.getElem?_eq_getElem hio]; rfl
  rcases Nat.lt_or_ge i n with hil | hil
  · refine Wc.gl 18 [1] ?_
    refine Wl.q rfl (Qy.at (α := Int) T.sl23 rfl rfl (by assumption) (by omega)) ?_
    refine Wl.q rfl (Qy.loadG T.one3 rfl (Arr.cell (by assumption) (by omega) 0 rfl rfl)) ?_
    refine Wl.ll0 2 [] ?_
    apply Wl.joinOr 7 23 30 rfl
    intro hg1
    refine Wl.ll0 5 [] ?_
    refine Wl.q rfl (Qy.at (α := Int) T.sl23 rfl rfl (by assumption) (by omega)) ?_
    refine Wl.want rfl rfl ?_
    refine Wl.q rfl (Qy.loadG T.one3 rfl (Arr.cell (by assumption) (by omega) 0 rfl rfl)) ?_
    refine Wl.ll0 5 [] ?_
    exact Wl.back 7 0 rfl rfl rfl rfl rfl
    intro hg1
    refine Wl.ll0 7 [] ?_
    exact Wl.back 7 0 rfl rfl rfl rfl rfl
    refine Wl.q rfl (Qy.move rfl) ?_
    apply Wl.joinOr 8 31 39 rfl
    intro hg1
    refine Wl.ll0 7 [] ?_
    refine Wl.q rfl (Qy.at (α := Int) T.sl23 rfl rfl (by assumption) (by omega)) ?_
    refine Wl.want rfl rfl ?_
    refine Wl.q rfl (Qy.loadG T.one3 rfl (Arr.cell (by assumption) (by omega) 0 rfl rfl)) ?_
    refine Wl.want rfl rfl ?_
    refine Wl.q rfl (Qy.indexAddrO (α := Bool) T.sl87 rfl rfl (by assumption) (by omega)) ?_
    refine Wl.want rfl rfl ?_
    refine Wl.q rfl (Qy.loadO 0 0 T.one4 rfl rfl (by assumption) (by omega) rfl rfl) ?_
    refine Wl.q rfl (Qy.pick rfl rfl) ?_
    rotate_left
    intro hg1
    refine Wl.ll0 8 [] ?_
    exact Wl.back 8 0 rfl rfl rfl rfl rfl
    refine Wl.gc 2 [] ?_
    rotate_left
    rotate_left
    rotate_left
    · refine Wl.re 39 rfl (show _ = Value.bool (decide (xs[(o[((i : Nat) : Int).toNat]?.getD default).toNat]?.getD default = true)) by congr 1; exact Bool.decide_eq_true.symm) ?_
      first | exact Wl.back 7 0 rfl rfl rfl rfl rfl | exact Wl.back 8 0 rfl rfl rfl rfl rfl | exact Wl.back 9 0 rfl rfl rfl rfl rfl | exact Wl.back 10 0 rfl rfl rfl rfl rfl | exact Wl.back 11 0 rfl rfl rfl rfl rfl | exact Wl.back 6 0 rfl rfl rfl rfl rfl
    obtain ⟨hxm, hxt⟩ := hx hil
    generalize hxe : o[((i : Nat) : Int).toNat]?.getD default = x at hxm hxt
    refine Wc.cond rfl (fun hc2 => ?_) (fun hc2 => ?_)
    refine Wc.ga 12 [] ?_
    rotate_left
    refine Wc.gl 6 [] ?_
    refine Wl.q rfl (Qy.at (α := Int) T.sl23 rfl rfl (by assumption) (by omega)) ?_
    refine Wl.q rfl (Qy.loadG T.one3 rfl (Arr.cell (by assumption) (by omega) 0 rfl rfl)) ?_
    refine Wl.q rfl (Qy.indexAddrO (α := Bool) T.sl87 rfl rfl (by assumption) (by omega)) ?_
    refine Wl.setO (z := _) 0 T.size4 rfl rfl rfl (by assumption) (by omega) rfl (fun ho1 => ?_)
    refine Wl.ga 8 [] ?_
    rotate_left
    · refine Ar.out1 (.inr rfl) (Ho := []) rfl (.tmp rfl) trivial ?_
      refine ⟨?_, rfl, rfl⟩
      congr 1
      refine (decide_eq_false fun h => ?_).symm
      have hr := h.2.1 x hxm
      rcases hc2 with (h2 | h2) | h2
      · omega
      · omega
      · have h3 := (hi2.2 x.toNat (by omega)).1 h2
        rw [show ((x.toNat : Nat) : Int) = x by omega] at h3
        have h4 : (o.take (i + 1)).Nodup := h.2.2.sublist (List.take_sublist _ _)
        rw [hxt, List.nodup_append] at h4
        exact h4.2.2 x h3 x (List.mem_singleton_self _) rfl
    · have hr : 0 ≤ x ∧ x < n := by omega
      have hni : x ∉ o.take i := fun h => hc2 (.inr ((hi2.2 x.toNat (by omega)).2 (by rw [show ((x.toNat : Nat) : Int) = x by omega]; exact h)))
      subst hxe
      refine Ar.re 6 rfl (show _ = Value.int .i64 ((i + 1 : Nat) : Int) from rfl) ?_
      refine Ar.re 5 rfl (show _ = Value.slice (some ⟨b1, 0, none⟩) (xs.set (o[((i : Nat) : Int).toNat]?.getD default).toNat true).length n by rw [List.length_set]) ?_
      refine Ar.again ((i + 1, _)) ?_ ?_ rfl ⟨rfl, rfl, rfl, rfl, trivial⟩ ⟨rfl, trivial⟩
      · refine ⟨hil, hi2.set hr.1 (fun d => by rw [hxt, List.mem_append, List.mem_singleton]), ?_, fun y hy => ?_⟩
        · rw [hxt, List.nodup_append]
          refine ⟨hi3, by simp, fun y hy z hz => ?_⟩
          rw [List.mem_singleton] at hz
          intro e
          subst e; subst hz
          exact hni hy
        · rw [hxt, List.mem_append, List.mem_singleton] at hy
          rcases hy with hy | rfl
          · exact hi4 y hy
          · exact hr
      · show n - (i + 1) < n - i
        omega
  · have hin : i = o.length := by omega
    refine Wc.ga 20 [0] ?_
    refine Ar.out1 (.inr rfl) (Ho := []) rfl (.tmp rfl) trivial ?_
    refine ⟨?_, rfl, rfl⟩
    congr 1
    rw [hin, List.take_length] at hi3 hi4
    exact (decide_eq_true ⟨hon, hi4, hi3⟩).symm
end Go.Proofs.YtbppmiimeccclaaGreat
