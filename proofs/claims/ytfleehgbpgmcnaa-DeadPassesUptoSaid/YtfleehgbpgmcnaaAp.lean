import Derived.Test.YtfleehgbpgmcnaaSlN
import Derived.Test.YtfleehgbpgmcnaaAo
namespace Go.Proofs.Ytfleehgbpgmcnaa
open Go Go.Sl
set_option maxRecDepth 100000

set_option maxHeartbeats 2000000
theorem c37 (G : Imm) (xs ys : List Int) (a b : Option Addr) (c d : Nat) (hx : Arr G a xs) (hy : Arr G b ys) (h1 : xs.length ≤ 1099511627776) (h2 : ys.length ≤ 1099511627776) :
    Does Try.prog 37 [.slice a xs.length c, .slice b ys.length d] G [] (fun v G' Ho => v = .bool (decide (xs = ys)) ∧ G' = G ∧ Ho = []) := by
  refine Does.enter Try.func37 rfl Try.ntmps37 rfl (fun w => ?_)
  refine Wc.seq ?_
  refine Wc.region rfl ?_
  refine Wl.q rfl (Qy.assign rfl) ?_
  refine Wl.done ?_
  refine Ar.next ?_
  refine Wc.seq ?_
  refine Wc.seq ?_
  refine Wc.region rfl ?_
  refine Wl.q rfl (Qy.move rfl) ?_
  refine Wl.q rfl (Qy.len T.sl23 rfl) ?_
  refine Wl.q rfl (Qy.move rfl) ?_
  refine Wl.q rfl (Qy.len T.sl23 rfl) ?_
  refine Wl.q rfl (Qy.neq rfl rfl) ?_
  refine Wl.done ?_
  refine Ar.next ?_
  refine Wc.cond rfl (fun hc1 => ?_) (fun hc1 => ?_)
  refine Wc.seq ?_
  refine Wc.region rfl ?_
  refine Wl.q rfl (Qy.assign rfl) ?_
  refine Wl.done ?_
  refine Ar.next ?_
  refine Wc.ret ?_
  refine Ar.passRet ?_
  refine Ar.out1 (.inr rfl) (Ho := Hp.only _ []) rfl (.tmp rfl) (Hp.sub_only _ _) ?_
  rotate_left
  refine Wc.skip ?_
  refine Ar.next ?_
  refine Wc.seq ?_
  refine Wc.seq ?_
  refine Wc.region rfl ?_
  refine Wl.q rfl (Qy.move rfl) ?_
  refine Wl.q rfl (Qy.len T.sl23 rfl) ?_
  refine Wl.q rfl (Qy.move rfl) ?_
  refine Wl.done ?_
  refine Ar.next ?_
  refine Wc.block ?_
  rotate_left
  · have : xs ≠ ys := by rintro rfl; exact hc1 rfl
    exact ⟨by simp [this], rfl, rfl⟩
  have hl : xs.length = ys.length := by omega
  clear hc1
  refine Wc.loop (ι := Nat) (fun k => ([(13, .int .i64 (k : Int)), (12, Go.Value.int Go.IntKind.i64 (↑(List.length xs) : Int)), (0, Go.Value.slice a (List.length xs) c), (1, Go.Value.slice b (List.length ys) d)], [])) (fun k => k ≤ xs.length ∧ xs.take k = ys.take k) (fun k => xs.length - k) (0) (⟨Nat.zero_le _, rfl⟩) ⟨rfl, rfl, rfl, rfl, trivial⟩ trivial (fun k => fun (hk : k ≤ xs.length ∧ xs.take k = ys.take k) => ?_)
  obtain ⟨hk1, hk2⟩ := hk
  refine Wc.seq ?_
  refine Wc.region rfl ?_
  refine Wl.q rfl (Qy.lss rfl rfl) ?_
  refine Wl.done ?_
  refine Ar.next ?_
  refine Wc.seq ?_
  refine Wc.cond rfl (fun hc1 => ?_) (fun hc1 => ?_)
  refine Wc.skip ?_
  refine Ar.next ?_
  refine Wc.seq ?_
  refine Wc.block ?_
  refine Wc.seq ?_
  refine Wc.region rfl ?_
  refine Wl.q rfl (Qy.move rfl) ?_
  refine Wl.q rfl (Qy.assign rfl) ?_
  refine Wl.done ?_
  refine Ar.next ?_
  refine Wc.seq ?_
  refine Wc.draw [] [] T.mixed rfl ?_
  refine Gm.q 0 [] (by kernel_rfl) rfl rfl (Qy.move rfl) ?_
  refine Gm.q 1 [] (by kernel_rfl) rfl rfl (Qy.move rfl) ?_
  refine Gm.q 2 [] (by kernel_rfl) rfl rfl (Qy.at (α := Int) T.sl23 rfl rfl (by assumption) (by omega)) ?_
  refine Gm.q 3 [] (by kernel_rfl) rfl rfl (Qy.loadG T.one3 rfl (Arr.cell (by assumption) (by omega) 0 rfl rfl)) ?_
  refine Gm.q 4 [] (by kernel_rfl) rfl rfl (Qy.move rfl) ?_
  refine Gm.q 5 [] (by kernel_rfl) rfl rfl (Qy.move rfl) ?_
  refine Gm.q 6 [] (by kernel_rfl) rfl rfl (Qy.at (α := Int) T.sl23 rfl rfl (by assumption) (by omega)) ?_
  refine Gm.q 7 [] (by kernel_rfl) rfl rfl (Qy.loadG T.one3 rfl (Arr.cell (by assumption) (by omega) 0 rfl rfl)) ?_
  refine Gm.q 8 [] (by kernel_rfl) rfl rfl (Qy.neq rfl rfl) ?_
  refine Gm.doneA (by kernel_rfl) trivial (by first | exact Imm.le_refl _ | assumption) ?_
  refine Ar.next ?_
  refine Wc.cond rfl (fun hc2 => ?_) (fun hc2 => ?_)
  refine Wc.seq ?_
  refine Wc.region rfl ?_
  refine Wl.q rfl (Qy.assign rfl) ?_
  refine Wl.done ?_
  refine Ar.next ?_
  refine Wc.ret ?_
  refine Ar.outRet ?_
  refine Ar.passRet ?_
  refine Ar.passRet ?_
  refine Ar.outRet ?_
  refine Ar.passRet ?_
  refine Ar.out1 (.inr rfl) (Ho := Hp.only _ []) rfl (.tmp rfl) (Hp.sub_only _ _) ?_
  rotate_left
  refine Wc.skip ?_
  refine Ar.outNormal ?_
  refine Ar.next ?_
  refine Wc.region rfl ?_
  refine Wl.q rfl (Qy.add rfl rfl (by omega)) ?_
  refine Wl.q rfl (Qy.move rfl) ?_
  refine Wl.done ?_
  rotate_left
  refine Wc.exit ?_
  refine Ar.passExit ?_
  refine Ar.passExit ?_
  refine Ar.here ?_
  refine Ar.next ?_
  refine Wc.seq ?_
  refine Wc.region rfl ?_
  refine Wl.q rfl (Qy.assign rfl) ?_
  refine Wl.done ?_
  refine Ar.next ?_
  refine Wc.ret ?_
  refine Ar.out1 (.inr rfl) (Ho := Hp.only _ []) rfl (.tmp rfl) (Hp.sub_only _ _) ?_
  rotate_left
  · have : xs ≠ ys := by rintro rfl; exact hc2 rfl
    exact ⟨by simp [this], rfl, rfl⟩
  · refine Ar.again (k + 1) ?_ ?_ rfl ⟨rfl, rfl, rfl, rfl, trivial⟩ trivial
    · exact ⟨by omega, take_eq_step (by omega) (by omega) hk2 (Decidable.not_not.1 hc2)⟩
    · omega
  · have hk : k = xs.length := by omega
    subst hk
    rw [List.take_length, hl, List.take_length] at hk2
    exact ⟨by simp [hk2], rfl, rfl⟩
theorem c30 (G : Imm) (xs ys : List Bool) (a b : Option Addr) (c d : Nat) (hx : Arr G a xs) (hy : Arr G b ys) (h1 : xs.length ≤ 1099511627776) (h2 : ys.length ≤ 1099511627776) :
    Does Try.prog 30 [.slice a xs.length c, .slice b ys.length d] G [] (fun v G' Ho => v = .bool (decide (xs = ys)) ∧ G' = G ∧ Ho = []) := by
  refine Does.enter Try.func30 rfl Try.ntmps30 rfl (fun w => ?_)
  refine Wc.seq ?_
  refine Wc.region rfl ?_
  refine Wl.q rfl (Qy.assign rfl) ?_
  refine Wl.done ?_
  refine Ar.next ?_
  refine Wc.seq ?_
  refine Wc.seq ?_
  refine Wc.region rfl ?_
  refine Wl.q rfl (Qy.move rfl) ?_
  refine Wl.q rfl (Qy.len T.sl64 rfl) ?_
  refine Wl.q rfl (Qy.move rfl) ?_
  refine Wl.q rfl (Qy.len T.sl64 rfl) ?_
  refine Wl.q rfl (Qy.neq rfl rfl) ?_
  refine Wl.done ?_
  refine Ar.next ?_
  refine Wc.cond rfl (fun hc1 => ?_) (fun hc1 => ?_)
  refine Wc.seq ?_
  refine Wc.region rfl ?_
  refine Wl.q rfl (Qy.assign rfl) ?_
  refine Wl.done ?_
  refine Ar.next ?_
  refine Wc.ret ?_
  refine Ar.passRet ?_
  refine Ar.out1 (.inr rfl) (Ho := Hp.only _ []) rfl (.tmp rfl) (Hp.sub_only _ _) ?_
  rotate_left
  refine Wc.skip ?_
  refine Ar.next ?_
  refine Wc.seq ?_
  refine Wc.seq ?_
  refine Wc.region rfl ?_
  refine Wl.q rfl (Qy.move rfl) ?_
  refine Wl.q rfl (Qy.len T.sl64 rfl) ?_
  refine Wl.q rfl (Qy.move rfl) ?_
  refine Wl.done ?_
  refine Ar.next ?_
  refine Wc.block ?_
  rotate_left
  · have : xs ≠ ys := by rintro rfl; exact hc1 rfl
    exact ⟨by simp [this], rfl, rfl⟩
  have hl : xs.length = ys.length := by omega
  clear hc1
  refine Wc.loop (ι := Nat) (fun k => ([(13, .int .i64 (k : Int)), (12, Go.Value.int Go.IntKind.i64 (↑(List.length xs) : Int)), (0, Go.Value.slice a (List.length xs) c), (1, Go.Value.slice b (List.length ys) d)], [])) (fun k => k ≤ xs.length ∧ xs.take k = ys.take k) (fun k => xs.length - k) (0) (⟨Nat.zero_le _, rfl⟩) ⟨rfl, rfl, rfl, rfl, trivial⟩ trivial (fun k => fun (hk : k ≤ xs.length ∧ xs.take k = ys.take k) => ?_)
  obtain ⟨hk1, hk2⟩ := hk
  refine Wc.seq ?_
  refine Wc.region rfl ?_
  refine Wl.q rfl (Qy.lss rfl rfl) ?_
  refine Wl.done ?_
  refine Ar.next ?_
  refine Wc.seq ?_
  refine Wc.cond rfl (fun hc1 => ?_) (fun hc1 => ?_)
  refine Wc.skip ?_
  refine Ar.next ?_
  refine Wc.seq ?_
  refine Wc.block ?_
  refine Wc.seq ?_
  refine Wc.region rfl ?_
  refine Wl.q rfl (Qy.move rfl) ?_
  refine Wl.q rfl (Qy.assign rfl) ?_
  refine Wl.done ?_
  refine Ar.next ?_
  refine Wc.seq ?_
  refine Wc.draw [] [] T.mixed rfl ?_
  refine Gm.q 0 [] (by kernel_rfl) rfl rfl (Qy.move rfl) ?_
  refine Gm.q 1 [] (by kernel_rfl) rfl rfl (Qy.move rfl) ?_
  refine Gm.q 2 [] (by kernel_rfl) rfl rfl (Qy.at (α := Bool) T.sl64 rfl rfl (by assumption) (by omega)) ?_
  refine Gm.q 3 [] (by kernel_rfl) rfl rfl (Qy.loadG T.one4 rfl (Arr.cell (by assumption) (by omega) 0 rfl rfl)) ?_
  refine Gm.q 4 [] (by kernel_rfl) rfl rfl (Qy.move rfl) ?_
  refine Gm.q 5 [] (by kernel_rfl) rfl rfl (Qy.move rfl) ?_
  refine Gm.q 6 [] (by kernel_rfl) rfl rfl (Qy.at (α := Bool) T.sl64 rfl rfl (by assumption) (by omega)) ?_
  refine Gm.q 7 [] (by kernel_rfl) rfl rfl (Qy.loadG T.one4 rfl (Arr.cell (by assumption) (by omega) 0 rfl rfl)) ?_
  refine Gm.q 8 [] (by kernel_rfl) rfl rfl (Qy.neqB T.u4 rfl rfl) ?_
  refine Gm.doneA (by kernel_rfl) trivial (by first | exact Imm.le_refl _ | assumption) ?_
  refine Ar.next ?_
  refine Wc.cond rfl (fun hc2 => ?_) (fun hc2 => ?_)
  refine Wc.seq ?_
  refine Wc.region rfl ?_
  refine Wl.q rfl (Qy.assign rfl) ?_
  refine Wl.done ?_
  refine Ar.next ?_
  refine Wc.ret ?_
  refine Ar.outRet ?_
  refine Ar.passRet ?_
  refine Ar.passRet ?_
  refine Ar.outRet ?_
  refine Ar.passRet ?_
  refine Ar.out1 (.inr rfl) (Ho := Hp.only _ []) rfl (.tmp rfl) (Hp.sub_only _ _) ?_
  rotate_left
  refine Wc.skip ?_
  refine Ar.outNormal ?_
  refine Ar.next ?_
  refine Wc.region rfl ?_
  refine Wl.q rfl (Qy.add rfl rfl (by omega)) ?_
  refine Wl.q rfl (Qy.move rfl) ?_
  refine Wl.done ?_
  rotate_left
  refine Wc.exit ?_
  refine Ar.passExit ?_
  refine Ar.passExit ?_
  refine Ar.here ?_
  refine Ar.next ?_
  refine Wc.seq ?_
  refine Wc.region rfl ?_
  refine Wl.q rfl (Qy.assign rfl) ?_
  refine Wl.done ?_
  refine Ar.next ?_
  refine Wc.ret ?_
  refine Ar.out1 (.inr rfl) (Ho := Hp.only _ []) rfl (.tmp rfl) (Hp.sub_only _ _) ?_
  rotate_left
  · have : xs ≠ ys := by rintro rfl; exact hc2 rfl
    exact ⟨by simp [this], rfl, rfl⟩
  · refine Ar.again (k + 1) ?_ ?_ rfl ⟨rfl, rfl, rfl, rfl, trivial⟩ trivial
    · exact ⟨by omega, take_eq_step (by omega) (by omega) hk2 (Decidable.not_not.1 hc2)⟩
    · omega
  · have hk : k = xs.length := by omega
    subst hk
    rw [List.take_length, hl, List.take_length] at hk2
    exact ⟨by simp [hk2], rfl, rfl⟩
def exD : PV := ⟨2, 4, [⟨3, 2, 0, 1, 0⟩, ⟨5, 3, 2, 0, 5⟩, ⟨4, 2, 0, 1, 0⟩, ⟨1, 1, 1, 0, 0⟩], [2, 0]⟩
theorem c65 (G : Imm) : Does Try.prog 65 [] G [] (fun v G' Ho => ∃ b d, v = .agg #[.int .i64 exD.ins, .int .i64 exD.regs, .slice (some ⟨b, 0, none⟩) exD.code.length exD.code.length, .slice (some ⟨d, 0, none⟩) exD.outs.length exD.outs.length] ∧
    Ho = [(0, some b, Row 34 exD.code []), (1, some d, Row 3 exD.outs [])] ∧ G' = G) := by
  refine Does.enter Try.func65 rfl Try.ntmps65 rfl (fun w => ?_)
  refine Wc.seq ?_
  refine Wc.region rfl ?_
  refine Wl.alloc 0 rfl T.zero25 (fun b1 => ?_)
  refine Wl.done ?_
  refine Ar.next ?_
  refine Wc.seq ?_
  refine Wc.region rfl ?_
  refine Wl.q rfl (Qy.build (cs := [_, _, _, _, _]) T.st34 rfl rfl rfl) ?_
  refine Wl.q rfl (Qy.build (cs := [_, _, _, _, _]) T.st34 rfl rfl rfl) ?_
  refine Wl.q rfl (Qy.build (cs := [_, _, _, _, _]) T.st34 rfl rfl rfl) ?_
  refine Wl.q rfl (Qy.build (cs := [_, _, _, _, _]) T.st34 rfl rfl rfl) ?_
  refine Wl.lit (α := Instr) 1 [⟨3, 2, 0, 1, 0⟩, ⟨5, 3, 2, 0, 5⟩, ⟨4, 2, 0, 1, 0⟩, ⟨1, 1, 1, 0, 0⟩] rfl T.sl22 T.el34 rfl rfl rfl rfl rfl (fun b2 => ?_)
  refine Wl.lit (α := Int) 2 [(2), (0)] rfl T.sl23 T.el3 rfl rfl rfl rfl rfl (fun b3 => ?_)
  refine Wl.q rfl (Qy.build (cs := [_, _, _, _]) T.st25 rfl rfl rfl) ?_
  refine Wl.storeAll 0 T.size25 rfl rfl rfl rfl rfl rfl ?_
  refine Wl.done ?_
  refine Ar.next ?_
  refine Wc.ret ?_
  refine Ar.pick [1, 2, 0] (by decide) (Ar.out1 (.inr rfl) (Ho := Hp.only _ [0, 1]) rfl (.agg 2 rfl rfl T.agg25) (Hp.sub_only _ _) ?_)
  exact ⟨_, _, rfl, rfl, rfl⟩
theorem keepTo_mem (p : PV) : ∀ k, k ≤ p.code.length → ∀ i ∈ keepTo p k, i ∈ p.code
  | 0, _, i, h => by simp [keepTo] at h
  | k + 1, hk, i, h => by
    have hlt : k < p.code.length := by omega
    have hel : p.code[((k : Nat) : Int).toNat]?.getD default ∈ p.code := by rw [Int.toNat_natCast, List.getElem?_eq_getElem hlt, Option.getD_some]; exact List.getElem_mem _
    simp only [keepTo] at h
    split at h
    · rw [List.mem_append, List.mem_singleton] at h
      rcases h with h | h
      · exact keepTo_mem p k (by omega) i h
      · rw [h]; exact hel
    · exact keepTo_mem p k (by omega) i h
/-- right_facts, the other way -/
theorem right_of {q : PV} (h : 1 ≤ q.ins ∧ q.ins ≤ q.regs ∧ q.regs ≤ 128 ∧ q.code.length ≤ 16384 ∧ 1 ≤ q.outs.length ∧ q.outs.length ≤ 128) (ho : ∀ r ∈ q.outs, 0 ≤ r ∧ r < q.regs) (hc : ∀ i ∈ q.code, mayOk i q.regs = true) : rightP q = true := by
  have h1 : headOk q = true := by
    unfold headOk
    rw [Bool.and_eq_true, decide_eq_true_eq, List.all_eq_true]
    exact ⟨by omega, fun r hr => by rw [decide_eq_true_eq]; exact ho r hr⟩
  have h2 : badAt q = none := by
    unfold badAt
    rw [List.findIdx?_eq_none_iff]
    intro i hi
    rw [hc i hi]; rfl
  unfold rightP checkP
  rw [if_neg (by rw [h1]; decide), h2]; rfl
theorem dead_right {p : PV} (h : rightP p = true) : rightP (deadP p) = true := by
  obtain ⟨r1, r2, r3, r4, r5, r6, r7, r8⟩ := right_facts h
  have hl := keepTo_len p p.code.length
  exact right_of ⟨r1, r2, r3, by show (keepTo p p.code.length).length ≤ 16384; omega, r5, r6⟩ r7 (fun i hi => r8 i (keepTo_mem p _ (Nat.le_refl _) i hi))
/-- from behind: which registers are asked ahead of an instruction -/
def askStep (s : List Bool) (i : Sl.Instr) : List Bool := setAll (s.set i.to.toNat false) (asks i)
def askTo (q : PV) : Nat → List Bool
  | 0 => setAll (List.replicate q.regs.toNat false) q.outs
  | j + 1 => askStep (askTo q j) (q.code[q.code.length - 1 - j]?.getD default)
def askAll (q : PV) : List Bool := askTo q q.code.length
theorem askTo_len (q : PV) (j : Nat) : (askTo q j).length = q.regs.toNat := by
  induction j with
  | zero => simp [askTo, setAll_len]
  | succ j ih => simp [askTo, askStep, setAll_len, ih]
def askE (p : PV) : List Bool := if rightP p then askAll (deadP p) else []
theorem c29R (G : Imm) (p : PV) (ac ao : Option Addr) (cc co : Nat) (hc : Arr G ac p.code) (ho : Arr G ao p.outs) (h1 : p.code.length ≤ 1099511627776) (h2 : p.outs.length ≤ 1099511627776) (hR : rightP p = true) :
    Does Try.prog 29 [.agg #[.int .i64 p.ins, .int .i64 p.regs, .slice ac p.code.length cc, .slice ao p.outs.length co]] G [] (fun v G' Ho => ∃ b c j, v = .tuple #[.slice b (askAll (deadP p)).length c, .int .i64 0] ∧
      OwnA b c (askAll (deadP p)) j ∧ Ho = [(0, b.map (·.block), Row 4 (askAll (deadP p)) j)] ∧ G' = G) := by
  have hD := dead_right hR
  have hE : deadE p = deadP p := if_pos hR
  have hEr : errP p = 0 := if_pos hR
  refine Does.enterM Try.func29 rfl Try.ntmps29 rfl (fun w => ?_)
  refine Wc.seq ?_
  refine Wc.region rfl ?_
  refine Wl.box 0 rfl rfl rfl (fun b1 => ?_)
  refine Wl.q rfl (Qy.assign rfl) ?_
  refine Wl.q rfl (Qy.assign rfl) ?_
  refine Wl.done ?_
  refine Ar.next ?_
  refine Wc.seq ?_
  refine Wc.region rfl ?_
  refine Wl.q rfl (Qy.loadAll 0 T.agg25 rfl rfl rfl) ?_
  refine Wl.call 1 rfl T.fn28 rfl (c28 _ _ _ _ _ _ (by assumption) (by assumption) (by omega) (by omega)) (tags_of trivial) (fun v1 G1 Ho1 hle1 hp => ?_)
  obtain ⟨q1, e1, qc1, qo1, qcc1, qoc1, qj1, qk1, rfl, hq1, hqc1, hqo1, rfl, rfl⟩ := hp
  refine Wl.q rfl (Qy.move rfl) ?_
  refine Wl.q rfl (Qy.extract rfl rfl) ?_
  refine Wl.q rfl (Qy.extract rfl rfl) ?_
  refine Wl.alloc 3 rfl T.zero25 (fun b2 => ?_)
  refine Wl.storeAll 3 T.size25 rfl rfl rfl rfl rfl rfl ?_
  refine Wl.q rfl (Qy.assign rfl) ?_
  refine Wl.done ?_
  refine Ar.next ?_
  refine Wc.seq ?_
  refine Wc.seq ?_
  refine Wc.region rfl ?_
  refine Wl.q rfl (Qy.move rfl) ?_
  refine Wl.q rfl (Qy.neq rfl rfl) ?_
  refine Wl.done ?_
  refine Ar.next ?_
  refine Wc.condN rfl (by first | assumption | omega) ?_
  refine Wc.skip ?_
  refine Ar.next ?_
  refine Wc.seq ?_
  refine Wc.region rfl ?_
  refine Wl.q rfl (Qy.fieldAddr T.fa25_1 rfl) ?_
  refine Wl.q rfl (Qy.load 3 T.one3 rfl rfl rfl) ?_
  obtain ⟨hq, he⟩ := hq1
  rw [hE] at hq
  rw [hEr] at he
  subst hq he
  obtain ⟨r1, r2, r3, r4, r5, r6, r7, r8⟩ := right_facts hD
  generalize hQ : deadP p = z at *
  refine Wl.freezeRow 1 rfl hqc1 (fun G2 hle2 hQc => Wl.freezeRow 2 rfl hqo1 (fun G3 hle3 hQo => ?_))
  replace hQc := hQc.up hle3
  clear hqc1 hqo1 hc ho hle1 hle2 hle3
  refine Wl.make (α := Bool) 4 rfl T.sl64 T.el4 rfl rfl (by omega) (by omega) (fun b3 => ?_)
  refine Wl.alloc 5 rfl T.zero64 (fun b4 => ?_)
  refine Wl.store 5 T.one64 rfl rfl rfl rfl rfl ?_
  refine Wl.done ?_
  refine Ar.next ?_
  refine Wc.seq ?_
  refine Wc.seq ?_
  refine Wc.region rfl ?_
  refine Wl.q rfl (Qy.fieldAddr T.fa25_3 rfl) ?_
  refine Wl.q rfl (Qy.load 3 T.one23 rfl rfl rfl) ?_
  refine Wl.q rfl (Qy.len T.sl23 rfl) ?_
  refine Wl.q rfl (Qy.move rfl) ?_
  refine Wl.done ?_
  refine Ar.next ?_
  refine Wc.block ?_
  generalize hR0 : List.replicate z.regs.toNat (default : Bool) = R0 at *
  have hR0l : (R0.length : Int) = z.regs := by rw [← hR0, List.length_replicate]; omega
  refine Wc.loop (ι := Nat × List Bool) (fun (k, xs) => ([(27, .int .i64 (k : Int)), (26, Go.Value.int Go.IntKind.i64 (↑(List.length (Go.Proofs.Ytfleehgbpgmcnaa.PV.outs z)) : Int)), (25, Go.Value.slice qo1 (List.length (Go.Proofs.Ytfleehgbpgmcnaa.PV.outs z)) qoc1), (6, Go.Value.pointer (Option.some (Go.Addr.mk b4 0 Option.none))), (4, Go.Value.pointer (Option.some (Go.Addr.mk b2 0 Option.none))), (3, Go.Value.int Go.IntKind.i64 0), (2, Go.Value.slice Option.none 0 0)], [(5, some b4, .cells #[.slice (some ⟨b3, 0, none⟩) xs.length R0.length] 64), (4, some b3, Row 4 xs []), (3, Option.some b2, Go.Obj.cells #[Go.Value.int Go.IntKind.i64 (Go.Proofs.Ytfleehgbpgmcnaa.PV.ins z), Go.Value.int Go.IntKind.i64 (Go.Proofs.Ytfleehgbpgmcnaa.PV.regs z), Go.Value.slice qc1 (List.length (Go.Proofs.Ytfleehgbpgmcnaa.PV.code z)) qcc1, Go.Value.slice qo1 (List.length (Go.Proofs.Ytfleehgbpgmcnaa.PV.outs z)) qoc1] 25), (0, Option.some b1, Go.Obj.cells #[Go.Value.int Go.IntKind.i64 (Go.Proofs.Ytfleehgbpgmcnaa.PV.ins p), Go.Value.int Go.IntKind.i64 (Go.Proofs.Ytfleehgbpgmcnaa.PV.regs p), Go.Value.slice ac (List.length (Go.Proofs.Ytfleehgbpgmcnaa.PV.code p)) cc, Go.Value.slice ao (List.length (Go.Proofs.Ytfleehgbpgmcnaa.PV.outs p)) co] 25)])) (fun (k, xs) => k ≤ z.outs.length ∧ xs = setAll R0 (z.outs.take k) ∧ OwnA (some ⟨b3, 0, none⟩) R0.length xs []) (fun (k, xs) => z.outs.length - k) ((0, R0)) (⟨Nat.zero_le _, rfl, OwnA.made (by simp only [maxLen]; omega)⟩) ⟨rfl, rfl, rfl, rfl, rfl, rfl, rfl, trivial⟩ ⟨rfl, rfl, rfl, rfl, trivial⟩ (fun ⟨k, xs⟩ => fun (hk : k ≤ z.outs.length ∧ xs = setAll R0 (z.outs.take k) ∧ OwnA (some ⟨b3, 0, none⟩) R0.length xs []) => ?_)
  obtain ⟨hk1, hxs, hox⟩ := hk
  have hxl : (xs.length : Int) = z.regs := by rw [hxs, setAll_len]; exact hR0l
  rcases Nat.lt_or_ge k z.outs.length with hlt | hge
  · have hr : 0 ≤ z.outs[((k : Nat) : Int).toNat]?.getD default ∧ z.outs[((k : Nat) : Int).toNat]?.getD default < xs.length := by
      rw [hxl]; refine r7 _ ?_
      rw [Int.toNat_natCast, List.getElem?_eq_getElem hlt]; simp
    refine Wc.seq ?_
    refine Wc.region rfl ?_
    refine Wl.q rfl (Qy.lss rfl rfl) ?_
    refine Wl.done ?_
    refine Ar.next ?_
    refine Wc.seq ?_
    refine Wc.condP rfl (by first | assumption | omega) ?_
    refine Wc.skip ?_
    refine Ar.next ?_
    refine Wc.seq ?_
    refine Wc.block ?_
    refine Wc.seq ?_
    refine Wc.region rfl ?_
    refine Wl.q rfl (Qy.at (α := Int) T.sl23 rfl rfl (by assumption) (by omega)) ?_
    refine Wl.q rfl (Qy.loadG T.one3 rfl (Arr.cell (by assumption) (by omega) 0 rfl rfl)) ?_
    refine Wl.q rfl (Qy.assign rfl) ?_
    refine Wl.done ?_
    refine Ar.next ?_
    refine Wc.region rfl ?_
    refine Wl.q rfl (Qy.load 5 T.one64 rfl rfl rfl) ?_
    refine Wl.q rfl (Qy.move rfl) ?_
    refine Wl.q rfl (Qy.indexAddrO (α := Bool) T.sl64 rfl rfl (by assumption) (by omega)) ?_
    refine Wl.setO (z := _) 4 T.size4 rfl rfl rfl (by assumption) (by omega) rfl (fun ho1 => ?_)
    refine Wl.done ?_
    refine Ar.outNormal ?_
    refine Ar.next ?_
    refine Wc.region rfl ?_
    refine Wl.q rfl (Qy.add rfl rfl (by omega)) ?_
    refine Wl.q rfl (Qy.move rfl) ?_
    refine Wl.done ?_
    refine Ar.reH 5 (.cells #[.slice (some ⟨b3, 0, none⟩) (xs.set (z.outs[((k : Nat) : Int).toNat]?.getD default).toNat true).length R0.length] 64) rfl (by rw [List.length_set]) ?_
    refine Ar.again ((k + 1, _)) ?_ ?_ rfl ⟨rfl, rfl, rfl, rfl, rfl, rfl, rfl, trivial⟩ ⟨rfl, rfl, rfl, rfl, trivial⟩
    · exact ⟨by omega, by rw [setAll_step _ _ hlt, hxs], ho1⟩
    · show z.outs.length - (k + 1) < z.outs.length - k
      omega
  have hk : k = z.outs.length := by omega
  subst hk
  rw [List.take_length] at hxs
  clear hk1 hge
  refine Wc.seq ?_
  refine Wc.region rfl ?_
  refine Wl.q rfl (Qy.lss rfl rfl) ?_
  refine Wl.done ?_
  refine Ar.next ?_
  refine Wc.seq ?_
  refine Wc.condN rfl (by first | assumption | omega) ?_
  refine Wc.exit ?_
  refine Ar.passExit ?_
  refine Ar.passExit ?_
  refine Ar.here ?_
  refine Ar.next ?_
  refine Wc.seq ?_
  refine Wc.seq ?_
  refine Wc.region rfl ?_
  refine Wl.q rfl (Qy.loadAll 3 T.agg25 rfl rfl rfl) ?_
  refine Wl.call 6 rfl T.fn69 rfl (c69 _ _ _ _ _ _) (tags_of trivial) (fun v1 G1 Ho1 hle1 hp => ?_)
  obtain ⟨bb1, rfl, rfl, hbb1⟩ := hp
  replace hQo := hQo.up hle1
  replace hQc := hQc.up hle1
  refine Wl.done ?_
  refine Ar.next ?_
  refine Wc.block ?_
  refine Wc.rangeFunc (ι := List Bool) 900 901 (fun A => [(5, some b4, .cells #[.slice (some ⟨b3, 0, none⟩) A.length R0.length] 64), (4, some b3, Row 4 A []), (3, Option.some b2, Go.Obj.cells #[Go.Value.int Go.IntKind.i64 (Go.Proofs.Ytfleehgbpgmcnaa.PV.ins z), Go.Value.int Go.IntKind.i64 (Go.Proofs.Ytfleehgbpgmcnaa.PV.regs z), Go.Value.slice qc1 (List.length (Go.Proofs.Ytfleehgbpgmcnaa.PV.code z)) qcc1, Go.Value.slice qo1 (List.length (Go.Proofs.Ytfleehgbpgmcnaa.PV.outs z)) qoc1] 25), (0, Option.some b1, Go.Obj.cells #[Go.Value.int Go.IntKind.i64 (Go.Proofs.Ytfleehgbpgmcnaa.PV.ins p), Go.Value.int Go.IntKind.i64 (Go.Proofs.Ytfleehgbpgmcnaa.PV.regs p), Go.Value.slice ac (List.length (Go.Proofs.Ytfleehgbpgmcnaa.PV.code p)) cc, Go.Value.slice ao (List.length (Go.Proofs.Ytfleehgbpgmcnaa.PV.outs p)) co] 25)]) (fun k A => A = askTo z k ∧ OwnA (some ⟨b3, 0, none⟩) R0.length A []) (fun c A => False) (xs) rfl T.fn92 (fun _ => rfl) rfl (c92R _ z _ _ _ _ _ hQc hQo (by omega) (by omega) hbb1 hD) (⟨by rw [hxs, ← hR0]; rfl, hox⟩) (Hp.got ⟨rfl, rfl, rfl, rfl, trivial⟩) ⟨rfl, fun _ => rfl⟩ (fun k x A l dd q w0 hx hi => ?_) (fun A dd hi => ?_) (fun A dd c hi => ?_)
  · obtain ⟨hn, hoA⟩ := hi
    have hkl : k < z.code.length := by have := (List.getElem?_eq_some_iff.1 hx).1; rw [backL_len] at this; exact this
    have hxe : x = (((z.code.length - 1 - k : Nat) : Int), z.code[z.code.length - 1 - k]?.getD default) := by rw [backL_get _ hkl] at hx; exact (Option.some.inj hx).symm
    have hx2 : x.2 = z.code[z.code.length - 1 - k]?.getD default := by rw [hxe]
    clear hxe
    have hm : mayOk x.2 z.regs = true := by
      rw [hx2]; refine r8 _ ?_
      rw [List.getElem?_eq_getElem (by omega), Option.getD_some]; exact List.getElem_mem _
    have hAl : (A.length : Int) = z.regs := by rw [hn, askTo_len]; omega
    have hto : 0 ≤ x.2.to ∧ x.2.to < A.length := by rw [hAl]; rw [mayOk_iff] at hm; exact ⟨hm.1.2.2.1, hm.1.2.2.2.1⟩
    have hask : ∀ r ∈ asks x.2, 0 ≤ r ∧ r < A.length := by rw [hAl]; exact asks_in hm
    have hst : askTo z (k + 1) = askStep A x.2 := by rw [hx2, hn]; rfl
    have hasks : (asks x.2).length ≤ 2 := by unfold asks; split <;> (try split) <;> simp
    refine Wc.region rfl ?_
    refine Wl.alloc 902 rfl T.zero34 (fun b5 => ?_)
    refine Wl.storeAll 902 T.size34 rfl rfl rfl rfl rfl rfl ?_
    refine Wl.done ?_
    refine Ar.begin 900 rfl ?_
    refine Wc.block ?_
    refine Wc.seq ?_
    refine Wc.region rfl ?_
    refine Wl.q rfl (Qy.load 5 T.one64 rfl rfl rfl) ?_
    refine Wl.q rfl (Qy.fieldAddr T.fa34_1 rfl) ?_
    refine Wl.q rfl (Qy.load 902 T.one3 rfl rfl rfl) ?_
    refine Wl.q rfl (Qy.indexAddrO (α := Bool) T.sl64 rfl rfl (by assumption) (by omega)) ?_
    refine Wl.setO (z := _) 4 T.size4 rfl rfl rfl (by assumption) (by omega) rfl (fun ho1 => ?_)
    refine Wl.done ?_
    refine Ar.next ?_
    refine Wc.seq ?_
    refine Wc.region rfl ?_
    refine Wl.q rfl (Qy.loadAll 902 T.agg34 rfl rfl rfl) ?_
    refine Wl.call 903 rfl T.fn70 rfl (c70 _ _) (tags_of trivial) (fun v2 G2 Ho2 hle2 hp => ?_)
    obtain ⟨ad2, cd2, junk2, rfl, hoa2, rfl, rfl⟩ := hp
    refine Wl.q rfl (Qy.len T.sl23 rfl) ?_
    refine Wl.q rfl (Qy.move rfl) ?_
    refine Wl.done ?_
    refine Ar.next ?_
    refine Wc.block ?_
    refine Wc.reH 5 (.cells #[.slice (some ⟨b3, 0, none⟩) (A.set x.2.to.toNat false).length R0.length] 64) rfl (by rw [List.length_set]) ?_
    refine Wc.loop (ι := Nat × List Bool) (fun (m, B) => ([(46, .int .i64 (m : Int)), (45, Go.Value.int Go.IntKind.i64 (↑(List.length (Go.Proofs.Ytfleehgbpgmcnaa.asks (Prod.snd x))) : Int)), (44, Go.Value.slice ad2 (List.length (Go.Proofs.Ytfleehgbpgmcnaa.asks (Prod.snd x))) cd2), (6, Go.Value.pointer (Option.some (Go.Addr.mk b4 0 Option.none)))], [(5, some b4, .cells #[.slice (some ⟨b3, 0, none⟩) B.length R0.length] 64), (4, some b3, Row 4 B []), (904, Option.map (fun x => Go.Addr.block x) ad2, Go.Sl.Row (α := Int) 3 (Go.Proofs.Ytfleehgbpgmcnaa.asks (Prod.snd x)) (junk2)), (900, Option.some l, Go.Sl.lrec q Go.LoopState.busy Option.none), (902, Option.some b5, Go.Obj.cells (List.toArray (Go.Sl.Cells.enc (Prod.snd x))) 34), (901, Option.some dd, Go.Obj.deferred (Option.some [])), (3, Option.some b2, Go.Obj.cells #[Go.Value.int Go.IntKind.i64 (Go.Proofs.Ytfleehgbpgmcnaa.PV.ins z), Go.Value.int Go.IntKind.i64 (Go.Proofs.Ytfleehgbpgmcnaa.PV.regs z), Go.Value.slice qc1 (List.length (Go.Proofs.Ytfleehgbpgmcnaa.PV.code z)) qcc1, Go.Value.slice qo1 (List.length (Go.Proofs.Ytfleehgbpgmcnaa.PV.outs z)) qoc1] 25), (0, Option.some b1, Go.Obj.cells #[Go.Value.int Go.IntKind.i64 (Go.Proofs.Ytfleehgbpgmcnaa.PV.ins p), Go.Value.int Go.IntKind.i64 (Go.Proofs.Ytfleehgbpgmcnaa.PV.regs p), Go.Value.slice ac (List.length (Go.Proofs.Ytfleehgbpgmcnaa.PV.code p)) cc, Go.Value.slice ao (List.length (Go.Proofs.Ytfleehgbpgmcnaa.PV.outs p)) co] 25)])) (fun (m, B) => m ≤ (asks x.2).length ∧ B = setAll (A.set x.2.to.toNat false) ((asks x.2).take m) ∧ OwnA (some ⟨b3, 0, none⟩) R0.length B []) (fun (m, B) => (asks x.2).length - m) ((0, A.set x.2.to.toNat false)) (⟨Nat.zero_le _, rfl, ho1⟩) ⟨rfl, rfl, rfl, rfl, trivial⟩ ⟨rfl, rfl, rfl, rfl, rfl, rfl, rfl, rfl, trivial⟩ (fun ⟨m, B⟩ => fun (hk : m ≤ (asks x.2).length ∧ B = setAll (A.set x.2.to.toNat false) ((asks x.2).take m) ∧ OwnA (some ⟨b3, 0, none⟩) R0.length B []) => ?_)
    obtain ⟨hm1, hB, hoB⟩ := hk
    have hBl : B.length = A.length := by rw [hB, setAll_len, List.length_set]
    rcases Nat.lt_or_ge m (asks x.2).length with hlt | hge
    · have hr : 0 ≤ (asks x.2)[((m : Nat) : Int).toNat]?.getD default ∧ (asks x.2)[((m : Nat) : Int).toNat]?.getD default < B.length := by
        rw [hBl]; refine hask _ ?_
        rw [Int.toNat_natCast, List.getElem?_eq_getElem hlt]; simp
      refine Wc.seq ?_
      refine Wc.region rfl ?_
      refine Wl.q rfl (Qy.lss rfl rfl) ?_
      refine Wl.done ?_
      refine Ar.next ?_
      refine Wc.seq ?_
      refine Wc.condP rfl (by first | assumption | omega) ?_
      refine Wc.skip ?_
      refine Ar.next ?_
      refine Wc.seq ?_
      refine Wc.block ?_
      refine Wc.seq ?_
      refine Wc.region rfl ?_
      refine Wl.q rfl (Qy.indexAddrO (α := Int) T.sl23 rfl rfl (by assumption) (by omega)) ?_
      refine Wl.q rfl (Qy.loadO 904 0 T.one3 rfl rfl (by assumption) (by omega) rfl rfl) ?_
      refine Wl.q rfl (Qy.assign rfl) ?_
      refine Wl.done ?_
      refine Ar.next ?_
      refine Wc.region rfl ?_
      refine Wl.q rfl (Qy.load 5 T.one64 rfl rfl rfl) ?_
      refine Wl.q rfl (Qy.move rfl) ?_
      refine Wl.q rfl (Qy.indexAddrO (α := Bool) T.sl64 rfl rfl (by assumption) (by omega)) ?_
      refine Wl.setO (z := _) 4 T.size4 rfl rfl rfl (by assumption) (by omega) rfl (fun ho2 => ?_)
      refine Wl.done ?_
      refine Ar.outNormal ?_
      refine Ar.next ?_
      refine Wc.region rfl ?_
      refine Wl.q rfl (Qy.add rfl rfl (by omega)) ?_
      refine Wl.q rfl (Qy.move rfl) ?_
      refine Wl.done ?_
      refine Ar.reH 5 (.cells #[.slice (some ⟨b3, 0, none⟩) (B.set ((asks x.2)[((m : Nat) : Int).toNat]?.getD default).toNat true).length R0.length] 64) rfl (by rw [List.length_set]) ?_
      refine Ar.again ((m + 1, _)) ?_ ?_ rfl ⟨rfl, rfl, rfl, rfl, trivial⟩ ⟨rfl, rfl, rfl, rfl, rfl, rfl, rfl, rfl, trivial⟩
      · exact ⟨by omega, by rw [setAll_step _ _ hlt, hB], ho2⟩
      · show (asks x.2).length - (m + 1) < (asks x.2).length - m
        omega
    · have hm : m = (asks x.2).length := by omega
      subst hm
      rw [List.take_length] at hB
      refine Wc.seq ?_
      refine Wc.region rfl ?_
      refine Wl.q rfl (Qy.lss rfl rfl) ?_
      refine Wl.done ?_
      refine Ar.next ?_
      refine Wc.seq ?_
      refine Wc.condN rfl (by first | assumption | omega) ?_
      refine Wc.exit ?_
      refine Ar.passExit ?_
      refine Ar.passExit ?_
      refine Ar.here ?_
      refine Ar.outNormal ?_
      refine Ar.roundEnd none (.inl ⟨rfl, rfl⟩) 900 rfl ⟨rfl, (B, none), rfl, .inl ⟨rfl, rfl, ?_⟩⟩ (Hp.got ⟨rfl, rfl, rfl, rfl, rfl, rfl, trivial⟩)
      exact ⟨by rw [hst, hB]; rfl, hoB⟩
  · obtain ⟨hn, hoA⟩ := hi
    rw [backL_len] at hn
    have hO : A = askAll z := hn
    subst hO
    refine Ar.outNormal ?_
    refine Ar.next ?_
    refine Wc.seq ?_
    refine Wc.region rfl ?_
    refine Wl.q rfl (Qy.load 5 T.one64 rfl rfl rfl) ?_
    refine Wl.q rfl (Qy.assign rfl) ?_
    refine Wl.q rfl (Qy.assign rfl) ?_
    refine Wl.done ?_
    refine Ar.next ?_
    refine Wc.ret ?_
    refine Ar.collect (.inr rfl) 901 rfl ?_
    refine Ar.outOf (.inr rfl) ?_
    refine Ar.base (Ar.pick [4] (by decide) (Ar.out2 (.inr rfl) rfl (.tmp rfl) (.tmp rfl) (Hp.sub_self 0 _) ?_))
    exact ⟨_, _, _, rfl, hoA, rfl, rfl⟩
  · exact hi.elim
theorem c29W (G : Imm) (p : PV) (ac ao : Option Addr) (cc co : Nat) (hc : Arr G ac p.code) (ho : Arr G ao p.outs) (h1 : p.code.length ≤ 1099511627776) (h2 : p.outs.length ≤ 1099511627776) (hR : ¬ rightP p = true) :
    Does Try.prog 29 [.agg #[.int .i64 p.ins, .int .i64 p.regs, .slice ac p.code.length cc, .slice ao p.outs.length co]] G [] (fun v G' Ho => v = .tuple #[.slice none 0 0, .int .i64 80] ∧
      Ho = [(0, none, Row 4 ([] : List Bool) [])] ∧ G' = G) := by
  have hE : deadE p = ⟨0, 0, [], []⟩ := if_neg hR
  have hEr : errP p = 80 := if_neg hR
  refine Does.enterM Try.func29 rfl Try.ntmps29 rfl (fun w => ?_)
  refine Wc.nilRow 20 (Row 4 ([] : List Bool) []) ?_
  refine Wc.seq ?_
  refine Wc.region rfl ?_
  refine Wl.box 21 rfl rfl rfl (fun b1 => ?_)
  refine Wl.q rfl (Qy.assign rfl) ?_
  refine Wl.q rfl (Qy.assign rfl) ?_
  refine Wl.done ?_
  refine Ar.next ?_
  refine Wc.seq ?_
  refine Wc.region rfl ?_
  refine Wl.q rfl (Qy.loadAll 21 T.agg25 rfl rfl rfl) ?_
  refine Wl.call 22 rfl T.fn28 rfl (c28 _ _ _ _ _ _ (by assumption) (by assumption) (by omega) (by omega)) (tags_of trivial) (fun v1 G1 Ho1 hle1 hp => ?_)
  obtain ⟨q1, e1, qc1, qo1, qcc1, qoc1, qj1, qk1, rfl, hq1, hqc1, hqo1, rfl, rfl⟩ := hp
  refine Wl.q rfl (Qy.move rfl) ?_
  refine Wl.q rfl (Qy.extract rfl rfl) ?_
  refine Wl.q rfl (Qy.extract rfl rfl) ?_
  refine Wl.alloc 24 rfl T.zero25 (fun b2 => ?_)
  refine Wl.storeAll 24 T.size25 rfl rfl rfl rfl rfl rfl ?_
  refine Wl.q rfl (Qy.assign rfl) ?_
  refine Wl.done ?_
  refine Ar.next ?_
  refine Wc.seq ?_
  refine Wc.seq ?_
  refine Wc.region rfl ?_
  refine Wl.q rfl (Qy.move rfl) ?_
  refine Wl.q rfl (Qy.neq rfl rfl) ?_
  refine Wl.done ?_
  refine Ar.next ?_
  refine Wc.condP rfl (by first | assumption | omega) ?_
  refine Wc.seq ?_
  refine Wc.region rfl ?_
  refine Wl.q rfl (Qy.move rfl) ?_
  refine Wl.q rfl (Qy.assign rfl) ?_
  refine Wl.q rfl (Qy.assign rfl) ?_
  refine Wl.done ?_
  refine Ar.next ?_
  refine Wc.ret ?_
  refine Ar.passRet ?_
  refine Ar.outOf (.inr rfl) ?_
  refine Ar.pick [20] (by decide) (Ar.out2 (.inr rfl) rfl (.tmp rfl) (.tmp rfl) (Hp.sub_self 0 _) ?_)
  rw [hq1.2, hEr]
  exact ⟨rfl, rfl, rfl⟩
theorem c29 (G : Imm) (p : PV) (ac ao : Option Addr) (cc co : Nat) (hc : Arr G ac p.code) (ho : Arr G ao p.outs) (h1 : p.code.length ≤ 1099511627776) (h2 : p.outs.length ≤ 1099511627776) :
    Does Try.prog 29 [.agg #[.int .i64 p.ins, .int .i64 p.regs, .slice ac p.code.length cc, .slice ao p.outs.length co]] G [] (fun v G' Ho => ∃ l e b c j, v = .tuple #[.slice b l.length c, .int .i64 e] ∧ (l = askE p ∧ e = errP p ∧ (rightP p ≠ true → b = none)) ∧
      OwnA b c l j ∧ Ho = [(0, b.map (·.block), Row 4 l j)] ∧ G' = G) := by
  by_cases hR : rightP p = true
  · refine (c29R G p ac ao cc co hc ho h1 h2 hR).mono fun v G' Ho _ ⟨b, c, j, q1, q2, q3, q4⟩ => ?_
    exact ⟨askAll (deadP p), 0, b, c, j, q1, ⟨(if_pos hR).symm, (if_pos hR).symm, fun h => absurd hR h⟩, q2, q3, q4⟩
  · refine (c29W G p ac ao cc co hc ho h1 h2 hR).mono fun v G' Ho _ ⟨q1, q2, q3⟩ => ?_
    exact ⟨[], 80, none, 0, [], q1, ⟨(if_neg hR).symm, (if_neg hR).symm, fun _ => rfl⟩, OwnA.nil, q2, q3⟩
end Go.Proofs.Ytfleehgbpgmcnaa
