import Derived.Test.YtfleehgbpgmcnaaNe
set_option maxRecDepth 100000
set_option linter.unusedVariables false
namespace Go.Proofs.Ytfleehgbpgmcnaa
open Go Go.Sl

set_option maxHeartbeats 4000000
def p2 (n : Nat) : Int := ((2 ^ n : Nat) : Int)
theorem p2_zero : p2 0 = 1 := rfl
theorem p2_succ (n : Nat) : p2 (n + 1) = 2 * p2 n := by unfold p2; rw [Nat.pow_succ, Nat.mul_comm, Int.natCast_mul]; rfl
theorem p2_pos (n : Nat) : 0 < p2 n := by unfold p2; exact Int.ofNat_lt.2 (Nat.pow_pos (by decide))
theorem p2_add (m n : Nat) : p2 (m + n) = p2 m * p2 n := by unfold p2; rw [Nat.pow_add, Int.natCast_mul]
theorem p2_le {m n : Nat} (h : m ≤ n) : p2 m ≤ p2 n := by unfold p2; exact Int.ofNat_le.2 (Nat.pow_le_pow_right (by decide) h)
theorem p2_lt_iff {a b : Nat} (h : p2 a < p2 b) : a < b := by
  rcases Nat.lt_or_ge a b with h1 | h1
  · exact h1
  · have := p2_le h1; omega
theorem pw_p2 (n : Nat) : pw n = p2 (16 * n) := by unfold pw p2; rw [Nat.pow_mul]
theorem p2_16 : p2 16 = 65536 := by unfold p2; decide
theorem valL_lt_p2 {l : List U32} (h : Digs l) : valL l < p2 (16 * l.length) := by rw [← pw_p2]; exact valL_lt h
theorem bits_end {l : List U32} {m : Nat} (h0 : 0 < l.length) (hd : Digs l) (hm : dg l (l.length - 1) < p2 m) : valL l < p2 (16 * (l.length - 1) + m) := by
  have e := val_step l (l.length - 1)
  rw [Nat.sub_add_cancel h0, take_all (Nat.le_refl _)] at e
  have h1 := valL_lt (hd.take (l.length - 1))
  rw [List.length_take, Nat.min_eq_left (by omega)] at h1
  have h2 := Int.mul_le_mul_of_nonneg_left (show dg l (l.length - 1) + 1 ≤ p2 m by omega) (Int.le_of_lt (pw_pos (l.length - 1)))
  rw [Int.mul_add, Int.mul_one] at h2
  rw [p2_add, ← pw_p2]
  omega
theorem half_lo (t : Int) (m : Nat) : t / 2 * p2 (m + 1) ≤ t * p2 m := by
  rw [p2_succ, ← Int.mul_assoc]
  exact Int.mul_le_mul_of_nonneg_right (by omega) (Int.le_of_lt (p2_pos m))
theorem half_hi (t : Int) (m : Nat) : (t + 1) * p2 m ≤ (t / 2 + 1) * p2 (m + 1) := by
  rw [p2_succ, ← Int.mul_assoc]
  exact Int.mul_le_mul_of_nonneg_right (by omega) (Int.le_of_lt (p2_pos m))
attribute [local irreducible] valL pw cmpZ p2
theorem c109 (G : Imm) (a : Option Addr) (c : Nat) (l : List U32) (ha : Arr G a l) (hd : Digs l) (h1 : l.length ≤ 536870912) :
    Does Try.prog 109 [.slice a l.length c] G [] (fun v G' Ho => ∃ n : Nat, v = .int .i64 (n : Int) ∧ valL l < p2 n ∧ n ≤ 16 * l.length ∧ G' = G ∧ Ho = []) := by
  refine Does.enter Try.func109 rfl Try.ntmps109 rfl (fun w => ?_)
  by_cases h0 : l.length = 0
  · refine Wc.seq ?_
    refine Wc.region rfl ?_
    refine Wl.q rfl (Qy.assign rfl) ?_
    refine Wl.done ?_
    refine Ar.next ?_
    refine Wc.seq ?_
    refine Wc.seq ?_
    refine Wc.region rfl ?_
    refine Wl.q rfl (Qy.move rfl) ?_
    refine Wl.q rfl (Qy.len T.sl41 rfl) ?_
    refine Wl.q rfl (Qy.eql rfl rfl) ?_
    refine Wl.done ?_
    refine Ar.next ?_
    refine Wc.condP rfl (by first | assumption | omega) ?_
    refine Wc.seq ?_
    refine Wc.region rfl ?_
    refine Wl.q rfl (Qy.assign rfl) ?_
    refine Wl.done ?_
    refine Ar.next ?_
    refine Wc.ret ?_
    refine Ar.passRet ?_
    refine Ar.out1 (.inr rfl) (Ho := Hp.only _ []) rfl (.tmp rfl) (Hp.sub_only _ _) ?_
    refine ⟨0, rfl, ?_, Nat.zero_le _, rfl, rfl⟩
    rw [List.eq_nil_of_length_eq_zero h0, valL_nil, p2_zero]; decide
  · have hlast : (l[((l.length : Int) - 1).toNat]?.getD default).v = dg l (l.length - 1) := by
      unfold dg; rw [show ((l.length : Int) - 1).toNat = ((l.length - 1 : Nat) : Int).toNat by omega]
    have hdl := dg_lt hd (i := l.length - 1) (by omega)
    refine Wc.seq ?_
    refine Wc.region rfl ?_
    refine Wl.q rfl (Qy.assign rfl) ?_
    refine Wl.done ?_
    refine Ar.next ?_
    refine Wc.seq ?_
    refine Wc.seq ?_
    refine Wc.region rfl ?_
    refine Wl.q rfl (Qy.move rfl) ?_
    refine Wl.q rfl (Qy.len T.sl41 rfl) ?_
    refine Wl.q rfl (Qy.eql rfl rfl) ?_
    refine Wl.done ?_
    refine Ar.next ?_
    refine Wc.condN rfl (by first | assumption | omega) ?_
    refine Wc.skip ?_
    refine Ar.next ?_
    refine Wc.seq ?_
    refine Wc.region rfl ?_
    refine Wl.q rfl (Qy.move rfl) ?_
    refine Wl.q rfl (Qy.len T.sl41 rfl) ?_
    refine Wl.q rfl (Qy.sub rfl rfl (by omega)) ?_
    refine Wl.q rfl (Qy.mul rfl rfl (by omega)) ?_
    refine Wl.q rfl (Qy.assign rfl) ?_
    refine Wl.done ?_
    refine Ar.next ?_
    refine Wc.seq ?_
    refine Wc.region rfl ?_
    refine Wl.q rfl (Qy.move rfl) ?_
    refine Wl.q rfl (Qy.move rfl) ?_
    refine Wl.q rfl (Qy.len T.sl41 rfl) ?_
    refine Wl.q rfl (Qy.sub rfl rfl (by omega)) ?_
    refine Wl.q rfl (Qy.at (α := U32) T.sl41 rfl rfl (by assumption) (by omega)) ?_
    refine Wl.q rfl (Qy.loadG T.one91 rfl (Arr.cell (by assumption) (by omega) 0 rfl rfl)) ?_
    refine Wl.q rfl (Qy.assign rfl) ?_
    refine Wl.done ?_
    refine Ar.next ?_
    refine Wc.seq ?_
    refine Wc.block ?_
    refine Wc.re 4 rfl (show _ = Value.int .u32 (dg l (l.length - 1)) by rw [hlast]) (Wc.re 3 rfl (show _ = Value.int .i64 (16 * ((l.length : Int) - 1) + ((0 : Nat) : Int)) by rw [Int.natCast_zero, Int.add_zero]) ?_)
    refine Wc.loop (ι := Nat × Int) (fun (m, t) => ([(3, .int .i64 (16 * ((l.length : Int) - 1) + (m : Int))), (4, .int .u32 t), (2, Go.Value.int Go.IntKind.i64 0)], [])) (fun (m, t) => 0 ≤ t ∧ t ≤ 65535 ∧ t * p2 m ≤ dg l (l.length - 1) ∧ dg l (l.length - 1) < (t + 1) * p2 m ∧ m ≤ 16) (fun (m, t) => t.toNat) ((0, dg l (l.length - 1))) (⟨hdl.1, by omega, by rw [p2_zero]; omega, by rw [p2_zero]; omega, by decide⟩) ⟨rfl, rfl, rfl, trivial⟩ trivial (fun ⟨m, t⟩ => fun (hk : 0 ≤ t ∧ t ≤ 65535 ∧ t * p2 m ≤ dg l (l.length - 1) ∧ dg l (l.length - 1) < (t + 1) * p2 m ∧ m ≤ 16) => ?_)
    obtain ⟨ht0, ht1, hlo, hhi, hm⟩ := hk
    by_cases ht : 0 < t
    · have hm15 : m < 16 := by
        refine p2_lt_iff ?_
        have h2 := Int.mul_le_mul_of_nonneg_right (show (1 : Int) ≤ t by omega) (Int.le_of_lt (p2_pos m))
        rw [p2_16]; omega
      refine Wc.seq ?_
      refine Wc.seq ?_
      refine Wc.region rfl ?_
      refine Wl.q rfl (Qy.move rfl) ?_
      refine Wl.q rfl (Qy.gtr rfl rfl) ?_
      refine Wl.done ?_
      refine Ar.next ?_
      refine Wc.condP rfl (by first | assumption | omega) ?_
      refine Wc.skip ?_
      refine Ar.next ?_
      refine Wc.block ?_
      refine Wc.seq ?_
      refine Wc.region rfl ?_
      refine Wl.q rfl (Qy.move rfl) ?_
      refine Wl.q rfl (Qy.add rfl rfl (by omega)) ?_
      refine Wl.q rfl (Qy.assign rfl) ?_
      refine Wl.done ?_
      refine Ar.next ?_
      refine Wc.region rfl ?_
      refine Wl.q rfl (Qy.move rfl) ?_
      refine Wl.q rfl (Qy.uquo32 rfl rfl (by omega)) ?_
      refine Wl.q rfl (Qy.assign rfl) ?_
      refine Wl.done ?_
      refine Ar.outNormal ?_
      refine Ar.re 3 rfl (show _ = Value.int .i64 (16 * ((l.length : Int) - 1) + ((m + 1 : Nat) : Int)) by congr 1; omega) ?_
      refine Ar.again ((m + 1, t / 2)) ?_ ?_ rfl ⟨rfl, rfl, rfl, trivial⟩ trivial
      · exact ⟨by omega, by omega, Int.le_trans (half_lo t m) hlo, Int.lt_of_lt_of_le hhi (half_hi t m), by omega⟩
      · show (t / 2).toNat < t.toNat
        omega
    · have htz : t = 0 := by omega
      subst htz
      rw [Int.zero_add, Int.one_mul] at hhi
      refine Wc.seq ?_
      refine Wc.seq ?_
      refine Wc.region rfl ?_
      refine Wl.q rfl (Qy.move rfl) ?_
      refine Wl.q rfl (Qy.gtr rfl rfl) ?_
      refine Wl.done ?_
      refine Ar.next ?_
      refine Wc.condN rfl (by first | assumption | omega) ?_
      refine Wc.exit ?_
      refine Ar.passExit ?_
      refine Ar.passExit ?_
      refine Ar.here ?_
      refine Ar.next ?_
      refine Wc.seq ?_
      refine Wc.region rfl ?_
      refine Wl.q rfl (Qy.move rfl) ?_
      refine Wl.q rfl (Qy.assign rfl) ?_
      refine Wl.done ?_
      refine Ar.next ?_
      refine Wc.ret ?_
      refine Ar.out1 (.inr rfl) (Ho := Hp.only _ []) rfl (.tmp rfl) (Hp.sub_only _ _) ?_
      refine ⟨16 * (l.length - 1) + m, ?_, bits_end (by omega) hd hhi, by omega, rfl, rfl⟩
      congr 1; omega
/-- a bit of a digit -/
theorem dig_bit {l : List U32} (hd : Digs l) {k : Nat} (hk : k < 16 * l.length) : valL l / p2 k % 2 = dg l (k / 16) / p2 (k % 16) % 2 := by
  have hq : k / 16 < l.length := by omega
  have e := val_split l (m := k / 16 + 1) (by omega)
  rw [val_step] at e
  have h1 := valL_lt (hd.take (k / 16))
  have h0 := valL_nonneg (hd.take (k / 16))
  rw [List.length_take, Nat.min_eq_left (by omega)] at h1
  have ek : p2 k = pw (k / 16) * p2 (k % 16) := by rw [pw_p2, ← p2_add, Nat.div_add_mod]
  have e2 : valL l = valL (l.take (k / 16)) + (dg l (k / 16) + 65536 * valL (l.drop (k / 16 + 1))) * pw (k / 16) := by
    rw [e, pw_succ, Int.add_mul, Int.mul_comm (dg l (k / 16)), Int.mul_assoc 65536 (pw (k / 16)), Int.mul_assoc 65536 (valL _), Int.mul_comm (valL (l.drop _)) (pw _)]
    omega
  have e3 : valL l / pw (k / 16) = dg l (k / 16) + 65536 * valL (l.drop (k / 16 + 1)) := by
    rw [e2, Int.add_mul_ediv_right _ _ (Int.ne_of_gt (pw_pos _)), Int.ediv_eq_zero_of_lt h0 h1, Int.zero_add]
  rw [ek, ← Int.ediv_ediv_of_nonneg (Int.le_of_lt (pw_pos _)), e3]
  obtain ⟨r, hr⟩ : ∃ r, 16 = k % 16 + (r + 1) := ⟨15 - k % 16, by omega⟩
  have e4 : p2 16 = p2 (k % 16) * (2 * p2 r) := (congrArg p2 hr).trans (by rw [p2_add, p2_succ])
  rw [p2_16] at e4
  have e5 : 65536 * valL (l.drop (k / 16 + 1)) = p2 (k % 16) * (2 * (p2 r * valL (l.drop (k / 16 + 1)))) := by rw [e4, Int.mul_assoc, Int.mul_assoc]
  rw [e5, Int.add_mul_ediv_left _ _ (Int.ne_of_gt (p2_pos _))]
  omega
theorem fdiv_pos {x y : Int} (hy : 0 ≤ y) : x.fdiv y = x / y := Int.fdiv_eq_ediv_of_nonneg x hy
theorem c110 (G : Imm) (a : Option Addr) (c : Nat) (l : List U32) (k : Nat) (ha : Arr G a l) (hd : Digs l) (h1 : l.length ≤ 536870912) (hk : k < 16 * l.length) :
    Does Try.prog 110 [.slice a l.length c, .int .i64 (k : Int)] G [] (fun v G' Ho => v = .int .u32 (valL l / p2 k % 2) ∧ G' = G ∧ Ho = []) := by
  have hq : k / 16 < l.length := by omega
  have hdg := dg_lt hd hq
  refine Does.enter Try.func110 rfl Try.ntmps110 rfl (fun w => ?_)
  refine Wc.seq ?_
  refine Wc.region rfl ?_
  refine Wl.q rfl (Qy.assign rfl) ?_
  refine Wl.done ?_
  refine Ar.next ?_
  refine Wc.seq ?_
  refine Wc.region rfl ?_
  refine Wl.q rfl (Qy.move rfl) ?_
  refine Wl.q rfl (Qy.move rfl) ?_
  refine Wl.q rfl (Qy.quoP rfl rfl (by omega)) ?_
  refine Wl.q rfl (Qy.at (α := U32) T.sl41 rfl rfl (by assumption) (by omega)) ?_
  refine Wl.q rfl (Qy.loadG T.one91 rfl (Arr.cell (by assumption) (by omega) 0 rfl rfl)) ?_
  refine Wl.q rfl (Qy.move rfl) ?_
  refine Wl.q rfl (Qy.urem rfl rfl (by omega)) ?_
  refine Wl.q rfl (Qy.shr rfl rfl (by omega)) ?_
  refine Wl.q rfl (Qy.andW rfl rfl) ?_
  refine Wl.q rfl (Qy.assign rfl) ?_
  refine Wl.done ?_
  refine Ar.next ?_
  refine Wc.ret ?_
  refine Ar.out1 (.inr rfl) (Ho := Hp.only _ []) rfl (.tmp rfl) (Hp.sub_only _ _) ?_
  refine ⟨?_, rfl, rfl⟩
  have e1 : (l[((k : Int) / 16).toNat]?.getD default).v = dg l (k / 16) := by
    unfold dg; rw [show ((k : Int) / 16).toNat = ((k / 16 : Nat) : Int).toNat by omega]
  have e2 : (2 : Int) ^ min ((k : Int) % 16).toNat IntKind.u32.bits = p2 (k % 16) := by
    have e : min ((k : Int) % 16).toNat IntKind.u32.bits = k % 16 := by
      rw [show IntKind.u32.bits = 32 from rfl]; omega
    rw [e, show p2 (k % 16) = ((2 ^ (k % 16) : Nat) : Int) from by unfold p2; rfl, Int.natCast_pow]; rfl
  have h2 := div_le (n := p2 (k % 16)) hdg.1 (p2_pos _)
  rw [e1, e2, fdiv_pos (Int.le_of_lt (p2_pos _)), and_one_u32 _ (by omega), dig_bit hd hk]
end Go.Proofs.Ytfleehgbpgmcnaa
