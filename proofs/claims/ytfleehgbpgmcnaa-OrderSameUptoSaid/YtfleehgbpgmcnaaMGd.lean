/- Parts of the proof (part 4): what the rows' text needs of the texts that lead to it. -/
import Derived.Test.YtfleehgbpgmcnaaMGc
set_option maxRecDepth 100000
set_option linter.unusedVariables false
namespace Go.Proofs.Ytfleehgbpgmcnaa
open Go Go.Sl
set_option maxHeartbeats 4000000
attribute [local irreducible] valL pw cmpZ p2
theorem one_lt5 : (((-1 : Int)).natAbs : Int) < pw 5 := Int.lt_of_lt_of_le mone_lt (pw_le (by decide))
/-- what 'do' answers -/
def DoPost (i : Sl.Instr) (rs : List (List Int)) (H0 : Hp) (v : Value) (G' : Imm) (Ho : Hp) : Prop :=
  ∃ rv, v = .tuple #[rv, .bool (decide (doI i rs ≠ none))] ∧ (∀ zs, doI i rs = some zs → ∃ s : SV, rv = .slice s.a s.n s.c ∧ RowS G' s zs) ∧ Ho = H0
theorem do_some {i : Sl.Instr} {rs : List (List Int)} {H0 : Hp} {s : SV} {G' : Imm} {zs : List Int} (h : doI i rs = some zs) (hs : RowS G' s zs) : DoPost i rs H0 (.tuple #[.slice s.a s.n s.c, .bool true]) G' H0 :=
  ⟨_, by rw [decide_eq_true (show doI i rs ≠ none from fun e => by rw [e] at h; cases h)], fun zs' h' => by rw [h] at h'; cases h'; exact ⟨s, rfl, hs⟩, rfl⟩
theorem do_over {i : Sl.Instr} {rs : List (List Int)} {H0 : Hp} {rv : Value} {G' : Imm} {y : Int} {xs : List Int} (h : doI i rs = if AllDiv y xs then some (xs.map (· / y)) else none)
    (hs : AllDiv y xs → ∃ s : SV, rv = .slice s.a s.n s.c ∧ RowS G' s (xs.map (· / y))) : DoPost i rs H0 (.tuple #[rv, .bool (decide (AllDiv y xs))]) G' H0 := by
  by_cases ha : AllDiv y xs
  · rw [if_pos ha] at h
    obtain ⟨s, e1, e2⟩ := hs ha
    subst e1
    rw [decide_eq_true ha]
    exact do_some h e2
  · rw [if_neg ha] at h
    refine ⟨rv, by rw [decide_eq_false ha, decide_eq_false (show ¬ doI i rs ≠ none from fun e => e h)], (fun zs hz => by rw [h] at hz; cases hz), rfl⟩
theorem c62 (G : Imm) (i : Sl.Instr) (o : Option Addr) (d : Nat) (r : List SV) (j : List Value) (rs : List (List Int)) (m N : Nat) (hob : OwnA o d r j) (hg : Grid G r rs) (he : Even m N rs) (hN : N ≤ 1048576) (hm : 5 + m ≤ 134217728)
    (hop : 1 ≤ i.op ∧ i.op ≤ 8) (ha : 0 ≤ i.a ∧ i.a < r.length) (hb : i.op = 3 ∨ i.op = 4 → 0 ≤ i.b ∧ i.b < r.length) (hcc : constOk i.op i.c = true) (hr : r.length ≤ 1048576) (hz : i.op ≠ 1 → i.op ≠ 2 → i.op ≠ 3 → i.op ≠ 4 → cst i ≠ 0 ∧ ((cst i).natAbs : Int) < pw 5)
    (hc1 : i.op = 5 ∨ i.op = 6 → -9223372036854775808 ≤ i.c ∧ i.c ≤ 9223372036854775807) (hc2 : ¬ (i.op = 5 ∨ i.op = 6) → 0 ≤ i.c ∧ i.c ≤ 64) :
    Does Try.prog 62 [.agg (Cells.enc i).toArray, .slice o r.length d] G [(0, o.map (·.block), Row 40 r j)] (fun v G' Ho => DoPost i rs [(0, o.map (·.block), Row 40 r j)] v G' Ho) := by
  have hgl := hg.1
  have hca := hob.le
  have haR := hg.at ha
  obtain ⟨haL, haB⟩ := he.at (k := i.a) (by omega)
  have haN : (r[i.a.toNat]?.getD default).n ≤ 1048576 := by rw [haR.len, haL]; exact hN
  have hm1 : 1 + m ≤ 134217728 := by omega
  have hm2 : m ≤ 134217728 := by omega
  have hmone := one_lt5
  refine Does.enter Try.func62 rfl Try.ntmps62 rfl (fun w => ?_)
  by_cases h2 : i.op = 2
  · refine Wc.seq ?_
    refine Wc.region rfl ?_
    refine Wl.box 1 rfl rfl rfl (fun b1 => ?_)
    refine Wl.q rfl (Qy.assign rfl) ?_
    refine Wl.q rfl (Qy.assign rfl) ?_
    refine Wl.done ?_
    refine Ar.next ?_
    refine Wc.seq ?_
    refine Wc.region rfl ?_
    refine Wl.q rfl (Qy.move rfl) ?_
    refine Wl.q rfl (Qy.fieldAddr T.fa34_2 rfl) ?_
    refine Wl.q rfl (Qy.load 1 T.one3 rfl rfl rfl) ?_
    refine Wl.q rfl (Qy.indexAddrO (α := SV) T.sl37 rfl rfl (by assumption) (by omega)) ?_
    refine Wl.q rfl (Qy.loadO 0 0 T.one40 rfl rfl (by assumption) (by omega) rfl rfl) ?_
    refine Wl.q rfl (Qy.assign rfl) ?_
    refine Wl.done ?_
    refine Ar.next ?_
    refine Wc.seq ?_
    refine Wc.seq ?_
    refine Wc.region rfl ?_
    refine Wl.q rfl (Qy.fieldAddr T.fa34_0 rfl) ?_
    refine Wl.q rfl (Qy.load 1 T.one3 rfl rfl rfl) ?_
    refine Wl.q rfl (Qy.eql rfl rfl) ?_
    refine Wl.done ?_
    refine Ar.next ?_
    refine Wc.condP rfl (by first | assumption | omega) ?_
    refine Wc.seq ?_
    refine Wc.region rfl ?_
    refine Wl.q rfl (Qy.move rfl) ?_
    refine Wl.call 2 rfl T.fn20 rfl (num_of _ _ ⟨by decide, by decide⟩) (tags_of trivial) (fun v1 G1 Ho1 hle1 hp => ?_)
    obtain ⟨ri1, rfl, hri1, rfl⟩ := hp
    replace hg := hg.up hle1
    replace haR := haR.up hle1
    refine Wl.call 2 rfl T.fn85 rfl (row_scale _ _ _ _ _ (by assumption) (by assumption) m hm (by assumption) (by assumption) (by assumption)) (tags_of trivial) (fun v2 G2 Ho2 hle2 hp => ?_)
    obtain ⟨rs2, rfl, hrs2, rfl⟩ := hp
    replace hri1 := hri1.up hle2
    replace hg := hg.up hle2
    replace haR := haR.up hle2
    refine Wl.q rfl (Qy.assign rfl) ?_
    refine Wl.q rfl (Qy.assign rfl) ?_
    refine Wl.done ?_
    refine Ar.next ?_
    refine Wc.ret ?_
    refine Ar.passRet ?_
    refine Ar.out2 (.inr rfl) (Ho := [(0, o.map (·.block), Row 40 r j)]) rfl (.tmp rfl) (.tmp rfl) ⟨rfl, trivial⟩ ?_
    exact do_some (by unfold doI; exact if_pos h2) hrs2
  by_cases h34 : i.op = 3 ∨ i.op = 4
  · have hb := hb h34
    have hbR := hg.at hb
    obtain ⟨hbL, hbB⟩ := he.at (k := i.b) (by omega)
    have hll : (rs[i.a.toNat]?.getD []).length = (rs[i.b.toNat]?.getD []).length := by rw [haL, hbL]
    by_cases h3 : i.op = 3
    · refine Wc.seq ?_
      refine Wc.region rfl ?_
      refine Wl.box 1 rfl rfl rfl (fun b1 => ?_)
      refine Wl.q rfl (Qy.assign rfl) ?_
      refine Wl.q rfl (Qy.assign rfl) ?_
      refine Wl.done ?_
      refine Ar.next ?_
      refine Wc.seq ?_
      refine Wc.region rfl ?_
      refine Wl.q rfl (Qy.move rfl) ?_
      refine Wl.q rfl (Qy.fieldAddr T.fa34_2 rfl) ?_
      refine Wl.q rfl (Qy.load 1 T.one3 rfl rfl rfl) ?_
      refine Wl.q rfl (Qy.indexAddrO (α := SV) T.sl37 rfl rfl (by assumption) (by omega)) ?_
      refine Wl.q rfl (Qy.loadO 0 0 T.one40 rfl rfl (by assumption) (by omega) rfl rfl) ?_
      refine Wl.q rfl (Qy.assign rfl) ?_
      refine Wl.done ?_
      refine Ar.next ?_
      refine Wc.seq ?_
      refine Wc.seq ?_
      refine Wc.region rfl ?_
      refine Wl.q rfl (Qy.fieldAddr T.fa34_0 rfl) ?_
      refine Wl.q rfl (Qy.load 1 T.one3 rfl rfl rfl) ?_
      refine Wl.q rfl (Qy.eql rfl rfl) ?_
      refine Wl.done ?_
      refine Ar.next ?_
      refine Wc.condN rfl (by first | assumption | omega) ?_
      refine Wc.skip ?_
      refine Ar.next ?_
      refine Wc.seq ?_
      refine Wc.seq ?_
      refine Wc.region rfl ?_
      refine Wl.q rfl (Qy.fieldAddr T.fa34_0 rfl) ?_
      refine Wl.q rfl (Qy.load 1 T.one3 rfl rfl rfl) ?_
      refine Wl.q rfl (Qy.eql rfl rfl) ?_
      refine Wl.done ?_
      refine Ar.next ?_
      refine Wc.condP rfl (by first | assumption | omega) ?_
      refine Wc.seq ?_
      refine Wc.region rfl ?_
      refine Wl.q rfl (Qy.move rfl) ?_
      refine Wl.q rfl (Qy.move rfl) ?_
      refine Wl.q rfl (Qy.fieldAddr T.fa34_3 rfl) ?_
      refine Wl.q rfl (Qy.load 1 T.one3 rfl rfl rfl) ?_
      refine Wl.q rfl (Qy.indexAddrO (α := SV) T.sl37 rfl rfl (by assumption) (by omega)) ?_
      refine Wl.q rfl (Qy.loadO 0 0 T.one40 rfl rfl (by assumption) (by omega) rfl rfl) ?_
      refine Wl.call 2 rfl T.fn86 rfl (row_add _ _ _ _ _ (by assumption) hbR hll m hm1 (by assumption) hbB (by assumption)) (tags_of trivial) (fun v1 G1 Ho1 hle1 hp => ?_)
      obtain ⟨rs1, rfl, hrs1, rfl⟩ := hp
      replace hg := hg.up hle1
      replace haR := haR.up hle1
      replace hbR := hbR.up hle1
      refine Wl.q rfl (Qy.assign rfl) ?_
      refine Wl.q rfl (Qy.assign rfl) ?_
      refine Wl.done ?_
      refine Ar.next ?_
      refine Wc.ret ?_
      refine Ar.passRet ?_
      refine Ar.out2 (.inr rfl) (Ho := [(0, o.map (·.block), Row 40 r j)]) rfl (.tmp rfl) (.tmp rfl) ⟨rfl, trivial⟩ ?_
      exact do_some (by unfold doI; exact (if_neg h2).trans (if_pos h3)) hrs1
    · have h4 : i.op = 4 := by omega
      refine Wc.seq ?_
      refine Wc.region rfl ?_
      refine Wl.box 1 rfl rfl rfl (fun b1 => ?_)
      refine Wl.q rfl (Qy.assign rfl) ?_
      refine Wl.q rfl (Qy.assign rfl) ?_
      refine Wl.done ?_
      refine Ar.next ?_
      refine Wc.seq ?_
      refine Wc.region rfl ?_
      refine Wl.q rfl (Qy.move rfl) ?_
      refine Wl.q rfl (Qy.fieldAddr T.fa34_2 rfl) ?_
      refine Wl.q rfl (Qy.load 1 T.one3 rfl rfl rfl) ?_
      refine Wl.q rfl (Qy.indexAddrO (α := SV) T.sl37 rfl rfl (by assumption) (by omega)) ?_
      refine Wl.q rfl (Qy.loadO 0 0 T.one40 rfl rfl (by assumption) (by omega) rfl rfl) ?_
      refine Wl.q rfl (Qy.assign rfl) ?_
      refine Wl.done ?_
      refine Ar.next ?_
      refine Wc.seq ?_
      refine Wc.seq ?_
      refine Wc.region rfl ?_
      refine Wl.q rfl (Qy.fieldAddr T.fa34_0 rfl) ?_
      refine Wl.q rfl (Qy.load 1 T.one3 rfl rfl rfl) ?_
      refine Wl.q rfl (Qy.eql rfl rfl) ?_
      refine Wl.done ?_
      refine Ar.next ?_
      refine Wc.condN rfl (by first | assumption | omega) ?_
      refine Wc.skip ?_
      refine Ar.next ?_
      refine Wc.seq ?_
      refine Wc.seq ?_
      refine Wc.region rfl ?_
      refine Wl.q rfl (Qy.fieldAddr T.fa34_0 rfl) ?_
      refine Wl.q rfl (Qy.load 1 T.one3 rfl rfl rfl) ?_
      refine Wl.q rfl (Qy.eql rfl rfl) ?_
      refine Wl.done ?_
      refine Ar.next ?_
      refine Wc.condN rfl (by first | assumption | omega) ?_
      refine Wc.skip ?_
      refine Ar.next ?_
      refine Wc.seq ?_
      refine Wc.seq ?_
      refine Wc.region rfl ?_
      refine Wl.q rfl (Qy.fieldAddr T.fa34_0 rfl) ?_
      refine Wl.q rfl (Qy.load 1 T.one3 rfl rfl rfl) ?_
      refine Wl.q rfl (Qy.eql rfl rfl) ?_
      refine Wl.done ?_
      refine Ar.next ?_
      refine Wc.condP rfl (by first | assumption | omega) ?_
      refine Wc.seq ?_
      refine Wc.region rfl ?_
      refine Wl.q rfl (Qy.move rfl) ?_
      refine Wl.q rfl (Qy.move rfl) ?_
      refine Wl.q rfl (Qy.fieldAddr T.fa34_3 rfl) ?_
      refine Wl.q rfl (Qy.load 1 T.one3 rfl rfl rfl) ?_
      refine Wl.q rfl (Qy.indexAddrO (α := SV) T.sl37 rfl rfl (by assumption) (by omega)) ?_
      refine Wl.q rfl (Qy.loadO 0 0 T.one40 rfl rfl (by assumption) (by omega) rfl rfl) ?_
      refine Wl.call 2 rfl T.fn87 rfl (row_sub _ _ _ _ _ (by assumption) hbR hll m hm1 (by assumption) hbB (by assumption)) (tags_of trivial) (fun v1 G1 Ho1 hle1 hp => ?_)
      obtain ⟨rs1, rfl, hrs1, rfl⟩ := hp
      replace hg := hg.up hle1
      replace haR := haR.up hle1
      replace hbR := hbR.up hle1
      refine Wl.q rfl (Qy.assign rfl) ?_
      refine Wl.q rfl (Qy.assign rfl) ?_
      refine Wl.done ?_
      refine Ar.next ?_
      refine Wc.ret ?_
      refine Ar.passRet ?_
      refine Ar.out2 (.inr rfl) (Ho := [(0, o.map (·.block), Row 40 r j)]) rfl (.tmp rfl) (.tmp rfl) ⟨rfl, trivial⟩ ?_
      exact do_some (by unfold doI; exact (if_neg h2).trans ((if_neg h3).trans (if_pos h4))) hrs1
  by_cases h1 : i.op = 1
  · refine Wc.seq ?_
    refine Wc.region rfl ?_
    refine Wl.box 1 rfl rfl rfl (fun b1 => ?_)
    refine Wl.q rfl (Qy.assign rfl) ?_
    refine Wl.q rfl (Qy.assign rfl) ?_
    refine Wl.done ?_
    refine Ar.next ?_
    refine Wc.seq ?_
    refine Wc.region rfl ?_
    refine Wl.q rfl (Qy.move rfl) ?_
    refine Wl.q rfl (Qy.fieldAddr T.fa34_2 rfl) ?_
    refine Wl.q rfl (Qy.load 1 T.one3 rfl rfl rfl) ?_
    refine Wl.q rfl (Qy.indexAddrO (α := SV) T.sl37 rfl rfl (by assumption) (by omega)) ?_
    refine Wl.q rfl (Qy.loadO 0 0 T.one40 rfl rfl (by assumption) (by omega) rfl rfl) ?_
    refine Wl.q rfl (Qy.assign rfl) ?_
    refine Wl.done ?_
    refine Ar.next ?_
    refine Wc.seq ?_
    refine Wc.seq ?_
    refine Wc.region rfl ?_
    refine Wl.q rfl (Qy.fieldAddr T.fa34_0 rfl) ?_
    refine Wl.q rfl (Qy.load 1 T.one3 rfl rfl rfl) ?_
    refine Wl.q rfl (Qy.eql rfl rfl) ?_
    refine Wl.done ?_
    refine Ar.next ?_
    refine Wc.condN rfl (by first | assumption | omega) ?_
    refine Wc.skip ?_
    refine Ar.next ?_
    refine Wc.seq ?_
    refine Wc.seq ?_
    refine Wc.region rfl ?_
    refine Wl.q rfl (Qy.fieldAddr T.fa34_0 rfl) ?_
    refine Wl.q rfl (Qy.load 1 T.one3 rfl rfl rfl) ?_
    refine Wl.q rfl (Qy.eql rfl rfl) ?_
    refine Wl.done ?_
    refine Ar.next ?_
    refine Wc.condN rfl (by first | assumption | omega) ?_
    refine Wc.skip ?_
    refine Ar.next ?_
    refine Wc.seq ?_
    refine Wc.seq ?_
    refine Wc.region rfl ?_
    refine Wl.q rfl (Qy.fieldAddr T.fa34_0 rfl) ?_
    refine Wl.q rfl (Qy.load 1 T.one3 rfl rfl rfl) ?_
    refine Wl.q rfl (Qy.eql rfl rfl) ?_
    refine Wl.done ?_
    refine Ar.next ?_
    refine Wc.condN rfl (by first | assumption | omega) ?_
    refine Wc.skip ?_
    refine Ar.next ?_
    refine Wc.seq ?_
    refine Wc.seq ?_
    refine Wc.region rfl ?_
    refine Wl.q rfl (Qy.fieldAddr T.fa34_0 rfl) ?_
    refine Wl.q rfl (Qy.load 1 T.one3 rfl rfl rfl) ?_
    refine Wl.q rfl (Qy.eql rfl rfl) ?_
    refine Wl.q rfl (Qy.move rfl) ?_
    refine Wl.no 41 rfl (by first | assumption | omega) ?_
    refine Wl.want rfl rfl ?_
    refine Wl.q rfl (Qy.fieldAddr T.fa34_0 rfl) ?_
    refine Wl.want rfl rfl ?_
    refine Wl.q rfl (Qy.load 1 T.one3 rfl rfl rfl) ?_
    refine Wl.want rfl rfl ?_
    refine Wl.q rfl (Qy.eql rfl rfl) ?_
    refine Wl.q rfl (Qy.pick rfl rfl) ?_
    refine Wl.done ?_
    refine Ar.next ?_
    refine Wc.condN rfl (by first | assumption | omega) ?_
    refine Wc.skip ?_
    refine Ar.next ?_
    refine Wc.seq ?_
    refine Wc.seq ?_
    refine Wc.region rfl ?_
    refine Wl.q rfl (Qy.fieldAddr T.fa34_0 rfl) ?_
    refine Wl.q rfl (Qy.load 1 T.one3 rfl rfl rfl) ?_
    refine Wl.q rfl (Qy.eql rfl rfl) ?_
    refine Wl.q rfl (Qy.move rfl) ?_
    refine Wl.no 53 rfl (by first | assumption | omega) ?_
    refine Wl.want rfl rfl ?_
    refine Wl.q rfl (Qy.fieldAddr T.fa34_0 rfl) ?_
    refine Wl.want rfl rfl ?_
    refine Wl.q rfl (Qy.load 1 T.one3 rfl rfl rfl) ?_
    refine Wl.want rfl rfl ?_
    refine Wl.q rfl (Qy.eql rfl rfl) ?_
    refine Wl.q rfl (Qy.pick rfl rfl) ?_
    refine Wl.done ?_
    refine Ar.next ?_
    refine Wc.condN rfl (by first | assumption | omega) ?_
    refine Wc.skip ?_
    refine Ar.next ?_
    refine Wc.seq ?_
    refine Wc.region rfl ?_
    refine Wl.q rfl (Qy.move rfl) ?_
    refine Wl.q rfl (Qy.assign rfl) ?_
    refine Wl.q rfl (Qy.assign rfl) ?_
    refine Wl.done ?_
    refine Ar.next ?_
    refine Wc.ret ?_
    refine Ar.out2 (.inr rfl) (Ho := [(0, o.map (·.block), Row 40 r j)]) rfl (.tmp rfl) (.tmp rfl) ⟨rfl, trivial⟩ ?_
    exact do_some (by unfold doI; exact (if_neg h2).trans ((if_neg (fun e => h34 (.inl e))).trans ((if_neg (fun e => h34 (.inr e))).trans ((if_neg (by omega)).trans (if_neg (by omega)))))) haR
  obtain ⟨hy0, hyb⟩ := hz h1 h2 (by omega) (by omega)
  by_cases h5 : i.op = 5
  · refine Wc.seq ?_
    refine Wc.region rfl ?_
    refine Wl.box 1 rfl rfl rfl (fun b1 => ?_)
    refine Wl.q rfl (Qy.assign rfl) ?_
    refine Wl.q rfl (Qy.assign rfl) ?_
    refine Wl.done ?_
    refine Ar.next ?_
    refine Wc.seq ?_
    refine Wc.region rfl ?_
    refine Wl.q rfl (Qy.move rfl) ?_
    refine Wl.q rfl (Qy.fieldAddr T.fa34_2 rfl) ?_
    refine Wl.q rfl (Qy.load 1 T.one3 rfl rfl rfl) ?_
    refine Wl.q rfl (Qy.indexAddrO (α := SV) T.sl37 rfl rfl (by assumption) (by omega)) ?_
    refine Wl.q rfl (Qy.loadO 0 0 T.one40 rfl rfl (by assumption) (by omega) rfl rfl) ?_
    refine Wl.q rfl (Qy.assign rfl) ?_
    refine Wl.done ?_
    refine Ar.next ?_
    refine Wc.seq ?_
    refine Wc.seq ?_
    refine Wc.region rfl ?_
    refine Wl.q rfl (Qy.fieldAddr T.fa34_0 rfl) ?_
    refine Wl.q rfl (Qy.load 1 T.one3 rfl rfl rfl) ?_
    refine Wl.q rfl (Qy.eql rfl rfl) ?_
    refine Wl.done ?_
    refine Ar.next ?_
    refine Wc.condN rfl (by first | assumption | omega) ?_
    refine Wc.skip ?_
    refine Ar.next ?_
    refine Wc.seq ?_
    refine Wc.seq ?_
    refine Wc.region rfl ?_
    refine Wl.q rfl (Qy.fieldAddr T.fa34_0 rfl) ?_
    refine Wl.q rfl (Qy.load 1 T.one3 rfl rfl rfl) ?_
    refine Wl.q rfl (Qy.eql rfl rfl) ?_
    refine Wl.done ?_
    refine Ar.next ?_
    refine Wc.condN rfl (by first | assumption | omega) ?_
    refine Wc.skip ?_
    refine Ar.next ?_
    refine Wc.seq ?_
    refine Wc.seq ?_
    refine Wc.region rfl ?_
    refine Wl.q rfl (Qy.fieldAddr T.fa34_0 rfl) ?_
    refine Wl.q rfl (Qy.load 1 T.one3 rfl rfl rfl) ?_
    refine Wl.q rfl (Qy.eql rfl rfl) ?_
    refine Wl.done ?_
    refine Ar.next ?_
    refine Wc.condN rfl (by first | assumption | omega) ?_
    refine Wc.skip ?_
    refine Ar.next ?_
    refine Wc.seq ?_
    refine Wc.seq ?_
    refine Wc.region rfl ?_
    refine Wl.q rfl (Qy.fieldAddr T.fa34_0 rfl) ?_
    refine Wl.q rfl (Qy.load 1 T.one3 rfl rfl rfl) ?_
    refine Wl.q rfl (Qy.eql rfl rfl) ?_
    refine Wl.q rfl (Qy.move rfl) ?_
    refine Wl.yes 41 rfl (by first | assumption | omega) ?_
    refine Wl.pass rfl rfl rfl ?_
    refine Wl.pass rfl rfl rfl ?_
    refine Wl.pass rfl rfl rfl ?_
    refine Wl.q rfl (Qy.pick rfl rfl) ?_
    refine Wl.done ?_
    refine Ar.next ?_
    refine Wc.condT rfl ?_
    refine Wc.seq ?_
    refine Wc.region rfl ?_
    refine Wl.q rfl (Qy.move rfl) ?_
    refine Wl.q rfl (Qy.loadAll 1 T.agg34 rfl rfl rfl) ?_
    refine Wl.call 2 rfl T.fn88 rfl (c88 _ i hc1 hc2) (tags_of trivial) (fun v1 G1 Ho1 hle1 hp => ?_)
    obtain ⟨ri1, rfl, hri1, rfl⟩ := hp
    replace hg := hg.up hle1
    replace haR := haR.up hle1
    refine Wl.call 2 rfl T.fn85 rfl (row_scale _ _ _ _ _ (by assumption) (by assumption) m hm (by assumption) (by assumption) (by assumption)) (tags_of trivial) (fun v2 G2 Ho2 hle2 hp => ?_)
    obtain ⟨rs2, rfl, hrs2, rfl⟩ := hp
    replace hri1 := hri1.up hle2
    replace hg := hg.up hle2
    replace haR := haR.up hle2
    refine Wl.q rfl (Qy.assign rfl) ?_
    refine Wl.q rfl (Qy.assign rfl) ?_
    refine Wl.done ?_
    refine Ar.next ?_
    refine Wc.ret ?_
    refine Ar.passRet ?_
    refine Ar.out2 (.inr rfl) (Ho := [(0, o.map (·.block), Row 40 r j)]) rfl (.tmp rfl) (.tmp rfl) ⟨rfl, trivial⟩ ?_
    exact do_some (by unfold doI; exact (if_neg h2).trans ((if_neg (fun e => h34 (.inl e))).trans ((if_neg (fun e => h34 (.inr e))).trans (if_pos (.inl h5))))) hrs2
  by_cases h7 : i.op = 7
  · refine Wc.seq ?_
    refine Wc.region rfl ?_
    refine Wl.box 1 rfl rfl rfl (fun b1 => ?_)
    refine Wl.q rfl (Qy.assign rfl) ?_
    refine Wl.q rfl (Qy.assign rfl) ?_
    refine Wl.done ?_
    refine Ar.next ?_
    refine Wc.seq ?_
    refine Wc.region rfl ?_
    refine Wl.q rfl (Qy.move rfl) ?_
    refine Wl.q rfl (Qy.fieldAddr T.fa34_2 rfl) ?_
    refine Wl.q rfl (Qy.load 1 T.one3 rfl rfl rfl) ?_
    refine Wl.q rfl (Qy.indexAddrO (α := SV) T.sl37 rfl rfl (by assumption) (by omega)) ?_
    refine Wl.q rfl (Qy.loadO 0 0 T.one40 rfl rfl (by assumption) (by omega) rfl rfl) ?_
    refine Wl.q rfl (Qy.assign rfl) ?_
    refine Wl.done ?_
    refine Ar.next ?_
    refine Wc.seq ?_
    refine Wc.seq ?_
    refine Wc.region rfl ?_
    refine Wl.q rfl (Qy.fieldAddr T.fa34_0 rfl) ?_
    refine Wl.q rfl (Qy.load 1 T.one3 rfl rfl rfl) ?_
    refine Wl.q rfl (Qy.eql rfl rfl) ?_
    refine Wl.done ?_
    refine Ar.next ?_
    refine Wc.condN rfl (by first | assumption | omega) ?_
    refine Wc.skip ?_
    refine Ar.next ?_
    refine Wc.seq ?_
    refine Wc.seq ?_
    refine Wc.region rfl ?_
    refine Wl.q rfl (Qy.fieldAddr T.fa34_0 rfl) ?_
    refine Wl.q rfl (Qy.load 1 T.one3 rfl rfl rfl) ?_
    refine Wl.q rfl (Qy.eql rfl rfl) ?_
    refine Wl.done ?_
    refine Ar.next ?_
    refine Wc.condN rfl (by first | assumption | omega) ?_
    refine Wc.skip ?_
    refine Ar.next ?_
    refine Wc.seq ?_
    refine Wc.seq ?_
    refine Wc.region rfl ?_
    refine Wl.q rfl (Qy.fieldAddr T.fa34_0 rfl) ?_
    refine Wl.q rfl (Qy.load 1 T.one3 rfl rfl rfl) ?_
    refine Wl.q rfl (Qy.eql rfl rfl) ?_
    refine Wl.done ?_
    refine Ar.next ?_
    refine Wc.condN rfl (by first | assumption | omega) ?_
    refine Wc.skip ?_
    refine Ar.next ?_
    refine Wc.seq ?_
    refine Wc.seq ?_
    refine Wc.region rfl ?_
    refine Wl.q rfl (Qy.fieldAddr T.fa34_0 rfl) ?_
    refine Wl.q rfl (Qy.load 1 T.one3 rfl rfl rfl) ?_
    refine Wl.q rfl (Qy.eql rfl rfl) ?_
    refine Wl.q rfl (Qy.move rfl) ?_
    refine Wl.no 41 rfl (by first | assumption | omega) ?_
    refine Wl.want rfl rfl ?_
    refine Wl.q rfl (Qy.fieldAddr T.fa34_0 rfl) ?_
    refine Wl.want rfl rfl ?_
    refine Wl.q rfl (Qy.load 1 T.one3 rfl rfl rfl) ?_
    refine Wl.want rfl rfl ?_
    refine Wl.q rfl (Qy.eql rfl rfl) ?_
    refine Wl.q rfl (Qy.pick rfl rfl) ?_
    refine Wl.done ?_
    refine Ar.next ?_
    refine Wc.condP rfl (by first | assumption | omega) ?_
    refine Wc.seq ?_
    refine Wc.region rfl ?_
    refine Wl.q rfl (Qy.move rfl) ?_
    refine Wl.q rfl (Qy.loadAll 1 T.agg34 rfl rfl rfl) ?_
    refine Wl.call 2 rfl T.fn88 rfl (c88 _ i hc1 hc2) (tags_of trivial) (fun v1 G1 Ho1 hle1 hp => ?_)
    obtain ⟨ri1, rfl, hri1, rfl⟩ := hp
    replace hg := hg.up hle1
    replace haR := haR.up hle1
    refine Wl.call 2 rfl T.fn85 rfl (row_scale _ _ _ _ _ (by assumption) (by assumption) m hm (by assumption) (by assumption) (by assumption)) (tags_of trivial) (fun v2 G2 Ho2 hle2 hp => ?_)
    obtain ⟨rs2, rfl, hrs2, rfl⟩ := hp
    replace hri1 := hri1.up hle2
    replace hg := hg.up hle2
    replace haR := haR.up hle2
    refine Wl.q rfl (Qy.assign rfl) ?_
    refine Wl.q rfl (Qy.assign rfl) ?_
    refine Wl.done ?_
    refine Ar.next ?_
    refine Wc.ret ?_
    refine Ar.passRet ?_
    refine Ar.out2 (.inr rfl) (Ho := [(0, o.map (·.block), Row 40 r j)]) rfl (.tmp rfl) (.tmp rfl) ⟨rfl, trivial⟩ ?_
    exact do_some (by unfold doI; exact (if_neg h2).trans ((if_neg (fun e => h34 (.inl e))).trans ((if_neg (fun e => h34 (.inr e))).trans (if_pos (.inr h7))))) hrs2
  by_cases h6 : i.op = 6
  · refine Wc.seq ?_
    refine Wc.region rfl ?_
    refine Wl.box 1 rfl rfl rfl (fun b1 => ?_)
    refine Wl.q rfl (Qy.assign rfl) ?_
    refine Wl.q rfl (Qy.assign rfl) ?_
    refine Wl.done ?_
    refine Ar.next ?_
    refine Wc.seq ?_
    refine Wc.region rfl ?_
    refine Wl.q rfl (Qy.move rfl) ?_
    refine Wl.q rfl (Qy.fieldAddr T.fa34_2 rfl) ?_
    refine Wl.q rfl (Qy.load 1 T.one3 rfl rfl rfl) ?_
    refine Wl.q rfl (Qy.indexAddrO (α := SV) T.sl37 rfl rfl (by assumption) (by omega)) ?_
    refine Wl.q rfl (Qy.loadO 0 0 T.one40 rfl rfl (by assumption) (by omega) rfl rfl) ?_
    refine Wl.q rfl (Qy.assign rfl) ?_
    refine Wl.done ?_
    refine Ar.next ?_
    refine Wc.seq ?_
    refine Wc.seq ?_
    refine Wc.region rfl ?_
    refine Wl.q rfl (Qy.fieldAddr T.fa34_0 rfl) ?_
    refine Wl.q rfl (Qy.load 1 T.one3 rfl rfl rfl) ?_
    refine Wl.q rfl (Qy.eql rfl rfl) ?_
    refine Wl.done ?_
    refine Ar.next ?_
    refine Wc.condN rfl (by first | assumption | omega) ?_
    refine Wc.skip ?_
    refine Ar.next ?_
    refine Wc.seq ?_
    refine Wc.seq ?_
    refine Wc.region rfl ?_
    refine Wl.q rfl (Qy.fieldAddr T.fa34_0 rfl) ?_
    refine Wl.q rfl (Qy.load 1 T.one3 rfl rfl rfl) ?_
    refine Wl.q rfl (Qy.eql rfl rfl) ?_
    refine Wl.done ?_
    refine Ar.next ?_
    refine Wc.condN rfl (by first | assumption | omega) ?_
    refine Wc.skip ?_
    refine Ar.next ?_
    refine Wc.seq ?_
    refine Wc.seq ?_
    refine Wc.region rfl ?_
    refine Wl.q rfl (Qy.fieldAddr T.fa34_0 rfl) ?_
    refine Wl.q rfl (Qy.load 1 T.one3 rfl rfl rfl) ?_
    refine Wl.q rfl (Qy.eql rfl rfl) ?_
    refine Wl.done ?_
    refine Ar.next ?_
    refine Wc.condN rfl (by first | assumption | omega) ?_
    refine Wc.skip ?_
    refine Ar.next ?_
    refine Wc.seq ?_
    refine Wc.seq ?_
    refine Wc.region rfl ?_
    refine Wl.q rfl (Qy.fieldAddr T.fa34_0 rfl) ?_
    refine Wl.q rfl (Qy.load 1 T.one3 rfl rfl rfl) ?_
    refine Wl.q rfl (Qy.eql rfl rfl) ?_
    refine Wl.q rfl (Qy.move rfl) ?_
    refine Wl.no 41 rfl (by first | assumption | omega) ?_
    refine Wl.want rfl rfl ?_
    refine Wl.q rfl (Qy.fieldAddr T.fa34_0 rfl) ?_
    refine Wl.want rfl rfl ?_
    refine Wl.q rfl (Qy.load 1 T.one3 rfl rfl rfl) ?_
    refine Wl.want rfl rfl ?_
    refine Wl.q rfl (Qy.eql rfl rfl) ?_
    refine Wl.q rfl (Qy.pick rfl rfl) ?_
    refine Wl.done ?_
    refine Ar.next ?_
    refine Wc.condN rfl (by first | assumption | omega) ?_
    refine Wc.skip ?_
    refine Ar.next ?_
    refine Wc.seq ?_
    refine Wc.seq ?_
    refine Wc.region rfl ?_
    refine Wl.q rfl (Qy.fieldAddr T.fa34_0 rfl) ?_
    refine Wl.q rfl (Qy.load 1 T.one3 rfl rfl rfl) ?_
    refine Wl.q rfl (Qy.eql rfl rfl) ?_
    refine Wl.q rfl (Qy.move rfl) ?_
    refine Wl.yes 53 rfl (by first | assumption | omega) ?_
    refine Wl.pass rfl rfl rfl ?_
    refine Wl.pass rfl rfl rfl ?_
    refine Wl.pass rfl rfl rfl ?_
    refine Wl.q rfl (Qy.pick rfl rfl) ?_
    refine Wl.done ?_
    refine Ar.next ?_
    refine Wc.condT rfl ?_
    refine Wc.seq ?_
    refine Wc.region rfl ?_
    refine Wl.q rfl (Qy.move rfl) ?_
    refine Wl.q rfl (Qy.loadAll 1 T.agg34 rfl rfl rfl) ?_
    refine Wl.call 2 rfl T.fn88 rfl (c88 _ i hc1 hc2) (tags_of trivial) (fun v1 G1 Ho1 hle1 hp => ?_)
    obtain ⟨ri1, rfl, hri1, rfl⟩ := hp
    replace hg := hg.up hle1
    replace haR := haR.up hle1
    refine Wl.call 2 rfl T.fn89 rfl (row_over _ _ _ _ _ (by assumption) (by assumption) m hm2 (by assumption) (by assumption) hy0 (by assumption)) (tags_of trivial) (fun v2 G2 Ho2 hle2 hp => ?_)
    obtain ⟨rv2, rfl, hrv2, rfl⟩ := hp
    replace hri1 := hri1.up hle2
    replace hg := hg.up hle2
    replace haR := haR.up hle2
    refine Wl.q rfl (Qy.extract rfl rfl) ?_
    refine Wl.q rfl (Qy.extract rfl rfl) ?_
    refine Wl.q rfl (Qy.assign rfl) ?_
    refine Wl.q rfl (Qy.assign rfl) ?_
    refine Wl.done ?_
    refine Ar.next ?_
    refine Wc.ret ?_
    refine Ar.passRet ?_
    refine Ar.out2 (.inr rfl) (Ho := [(0, o.map (·.block), Row 40 r j)]) rfl (.tmp rfl) (.tmp rfl) ⟨rfl, trivial⟩ ?_
    exact do_over (by unfold doI; exact (if_neg h2).trans ((if_neg (fun e => h34 (.inl e))).trans ((if_neg (fun e => h34 (.inr e))).trans ((if_neg (by omega)).trans (if_pos (.inl h6)))))) hrv2
  · have h8 : i.op = 8 := by omega
    refine Wc.seq ?_
    refine Wc.region rfl ?_
    refine Wl.box 1 rfl rfl rfl (fun b1 => ?_)
    refine Wl.q rfl (Qy.assign rfl) ?_
    refine Wl.q rfl (Qy.assign rfl) ?_
    refine Wl.done ?_
    refine Ar.next ?_
    refine Wc.seq ?_
    refine Wc.region rfl ?_
    refine Wl.q rfl (Qy.move rfl) ?_
    refine Wl.q rfl (Qy.fieldAddr T.fa34_2 rfl) ?_
    refine Wl.q rfl (Qy.load 1 T.one3 rfl rfl rfl) ?_
    refine Wl.q rfl (Qy.indexAddrO (α := SV) T.sl37 rfl rfl (by assumption) (by omega)) ?_
    refine Wl.q rfl (Qy.loadO 0 0 T.one40 rfl rfl (by assumption) (by omega) rfl rfl) ?_
    refine Wl.q rfl (Qy.assign rfl) ?_
    refine Wl.done ?_
    refine Ar.next ?_
    refine Wc.seq ?_
    refine Wc.seq ?_
    refine Wc.region rfl ?_
    refine Wl.q rfl (Qy.fieldAddr T.fa34_0 rfl) ?_
    refine Wl.q rfl (Qy.load 1 T.one3 rfl rfl rfl) ?_
    refine Wl.q rfl (Qy.eql rfl rfl) ?_
    refine Wl.done ?_
    refine Ar.next ?_
    refine Wc.condN rfl (by first | assumption | omega) ?_
    refine Wc.skip ?_
    refine Ar.next ?_
    refine Wc.seq ?_
    refine Wc.seq ?_
    refine Wc.region rfl ?_
    refine Wl.q rfl (Qy.fieldAddr T.fa34_0 rfl) ?_
    refine Wl.q rfl (Qy.load 1 T.one3 rfl rfl rfl) ?_
    refine Wl.q rfl (Qy.eql rfl rfl) ?_
    refine Wl.done ?_
    refine Ar.next ?_
    refine Wc.condN rfl (by first | assumption | omega) ?_
    refine Wc.skip ?_
    refine Ar.next ?_
    refine Wc.seq ?_
    refine Wc.seq ?_
    refine Wc.region rfl ?_
    refine Wl.q rfl (Qy.fieldAddr T.fa34_0 rfl) ?_
    refine Wl.q rfl (Qy.load 1 T.one3 rfl rfl rfl) ?_
    refine Wl.q rfl (Qy.eql rfl rfl) ?_
    refine Wl.done ?_
    refine Ar.next ?_
    refine Wc.condN rfl (by first | assumption | omega) ?_
    refine Wc.skip ?_
    refine Ar.next ?_
    refine Wc.seq ?_
    refine Wc.seq ?_
    refine Wc.region rfl ?_
    refine Wl.q rfl (Qy.fieldAddr T.fa34_0 rfl) ?_
    refine Wl.q rfl (Qy.load 1 T.one3 rfl rfl rfl) ?_
    refine Wl.q rfl (Qy.eql rfl rfl) ?_
    refine Wl.q rfl (Qy.move rfl) ?_
    refine Wl.no 41 rfl (by first | assumption | omega) ?_
    refine Wl.want rfl rfl ?_
    refine Wl.q rfl (Qy.fieldAddr T.fa34_0 rfl) ?_
    refine Wl.want rfl rfl ?_
    refine Wl.q rfl (Qy.load 1 T.one3 rfl rfl rfl) ?_
    refine Wl.want rfl rfl ?_
    refine Wl.q rfl (Qy.eql rfl rfl) ?_
    refine Wl.q rfl (Qy.pick rfl rfl) ?_
    refine Wl.done ?_
    refine Ar.next ?_
    refine Wc.condN rfl (by first | assumption | omega) ?_
    refine Wc.skip ?_
    refine Ar.next ?_
    refine Wc.seq ?_
    refine Wc.seq ?_
    refine Wc.region rfl ?_
    refine Wl.q rfl (Qy.fieldAddr T.fa34_0 rfl) ?_
    refine Wl.q rfl (Qy.load 1 T.one3 rfl rfl rfl) ?_
    refine Wl.q rfl (Qy.eql rfl rfl) ?_
    refine Wl.q rfl (Qy.move rfl) ?_
    refine Wl.no 53 rfl (by first | assumption | omega) ?_
    refine Wl.want rfl rfl ?_
    refine Wl.q rfl (Qy.fieldAddr T.fa34_0 rfl) ?_
    refine Wl.want rfl rfl ?_
    refine Wl.q rfl (Qy.load 1 T.one3 rfl rfl rfl) ?_
    refine Wl.want rfl rfl ?_
    refine Wl.q rfl (Qy.eql rfl rfl) ?_
    refine Wl.q rfl (Qy.pick rfl rfl) ?_
    refine Wl.done ?_
    refine Ar.next ?_
    refine Wc.condP rfl (by first | assumption | omega) ?_
    refine Wc.seq ?_
    refine Wc.region rfl ?_
    refine Wl.q rfl (Qy.move rfl) ?_
    refine Wl.q rfl (Qy.loadAll 1 T.agg34 rfl rfl rfl) ?_
    refine Wl.call 2 rfl T.fn88 rfl (c88 _ i hc1 hc2) (tags_of trivial) (fun v1 G1 Ho1 hle1 hp => ?_)
    obtain ⟨ri1, rfl, hri1, rfl⟩ := hp
    replace hg := hg.up hle1
    replace haR := haR.up hle1
    refine Wl.call 2 rfl T.fn89 rfl (row_over _ _ _ _ _ (by assumption) (by assumption) m hm2 (by assumption) (by assumption) hy0 (by assumption)) (tags_of trivial) (fun v2 G2 Ho2 hle2 hp => ?_)
    obtain ⟨rv2, rfl, hrv2, rfl⟩ := hp
    replace hri1 := hri1.up hle2
    replace hg := hg.up hle2
    replace haR := haR.up hle2
    refine Wl.q rfl (Qy.extract rfl rfl) ?_
    refine Wl.q rfl (Qy.extract rfl rfl) ?_
    refine Wl.q rfl (Qy.assign rfl) ?_
    refine Wl.q rfl (Qy.assign rfl) ?_
    refine Wl.done ?_
    refine Ar.next ?_
    refine Wc.ret ?_
    refine Ar.passRet ?_
    refine Ar.out2 (.inr rfl) (Ho := [(0, o.map (·.block), Row 40 r j)]) rfl (.tmp rfl) (.tmp rfl) ⟨rfl, trivial⟩ ?_
    exact do_over (by unfold doI; exact (if_neg h2).trans ((if_neg (fun e => h34 (.inl e))).trans ((if_neg (fun e => h34 (.inr e))).trans ((if_neg (by omega)).trans (if_pos (.inr h8)))))) hrv2
end Go.Proofs.Ytfleehgbpgmcnaa
set_option linter.unusedVariables false
namespace Go.Proofs.Ytfleehgbpgmcnaa
open Go Go.Sl
theorem below_map {m k : Nat} {xs : List Int} {f : Int → Int} (h : ∀ x : Int, (x.natAbs : Int) < pw m → ((f x).natAbs : Int) < pw k) (hx : Below m xs) : Below k (xs.map f) := fun z hz => by
  obtain ⟨x, h1, rfl⟩ := List.mem_map.1 hz
  exact h x (hx x h1)
theorem below_zip {m k : Nat} {xs ys : List Int} {f : Int → Int → Int} (h : ∀ x y : Int, (x.natAbs : Int) < pw m → (y.natAbs : Int) < pw m → ((f x y).natAbs : Int) < pw k) (hx : Below m xs) (hy : Below m ys) : Below k (List.zipWith f xs ys) := fun z hz => by
  rw [List.mem_iff_getElem] at hz
  obtain ⟨n, hn, rfl⟩ := hz
  rw [List.getElem_zipWith]
  exact h _ _ (hx _ (List.getElem_mem _)) (hy _ (List.getElem_mem _))
theorem pw_five (m : Nat) : 65536 * pw m ≤ pw (5 + m) := by
  rw [← pw_succ]; exact pw_le (by omega)
theorem doI_even {i : Sl.Instr} {rs : List (List Int)} {m N : Nat} {x : List Int} (he : Even m N rs) (ha : 0 ≤ i.a ∧ i.a < rs.length) (hb : i.op = 3 ∨ i.op = 4 → 0 ≤ i.b ∧ i.b < rs.length)
    (hz : i.op = 5 ∨ i.op = 7 → ((cst i).natAbs : Int) < pw 5) (h : doI i rs = some x) : x.length = N ∧ Below (5 + m) x := by
  obtain ⟨haL, haB⟩ := he.at ha
  have h5 := pw_five m
  have hp := pw_pos m
  unfold doI at h
  simp only at h
  split at h
  · cases h
    exact ⟨by rw [List.length_map]; exact haL, below_map (fun x hx => by omega) haB⟩
  · split at h
    · rename_i h3
      obtain ⟨hbL, hbB⟩ := he.at (hb (.inl h3))
      cases h
      exact ⟨by rw [List.length_zipWith, haL, hbL, Nat.min_self], below_zip (fun x y hx hy => by omega) haB hbB⟩
    · split at h
      · rename_i h4
        obtain ⟨hbL, hbB⟩ := he.at (hb (.inr h4))
        cases h
        exact ⟨by rw [List.length_zipWith, haL, hbL, Nat.min_self], below_zip (fun x y hx hy => by omega) haB hbB⟩
      · split at h
        · rename_i h57
          cases h
          exact ⟨by rw [List.length_map]; exact haL, below_map (fun x hx => mul_lt_pw (hz h57) hx) haB⟩
        · split at h
          · split at h
            · cases h
              refine ⟨by rw [List.length_map]; exact haL, below_map (fun x hx => ?_) haB⟩
              have h1 : (x / cst i).natAbs ≤ x.natAbs := Int.natAbs_ediv_le_natAbs _ _
              omega
            · cases h
          · cases h
            exact ⟨haL, haB.mono (by omega)⟩
/-- the registers at first -/
def regs0 (p : PV) (gs : List (List Int)) : List (List Int) := (List.range p.regs.toNat).map fun k => if k < gs.length then gs[k]?.getD [] else List.replicate (gs[0]?.getD []).length 0
/-- the registers after k instructions -/
def runTo (p : PV) (gs : List (List Int)) : Nat → Option (List (List Int))
  | 0 => some (regs0 p gs)
  | k + 1 => (runTo p gs k).bind fun rs => (doI (p.code[((k : Nat) : Int).toNat]?.getD default) rs).map fun x => rs.set (p.code[((k : Nat) : Int).toNat]?.getD default).to.toNat x
/-- the answers' rows -/
def outsOf (p : PV) (rs : List (List Int)) : List (List Int) := p.outs.map fun r => rs[r.toNat]?.getD []
def followP (p : PV) (gs : List (List Int)) : Option (List (List Int)) := (runTo p gs p.code.length).map (outsOf p)
theorem runTo_succ {p : PV} {gs : List (List Int)} {k : Nat} {rs x : List (List Int)} {y : List Int} (h : runTo p gs k = some rs) (hd : doI (p.code[((k : Nat) : Int).toNat]?.getD default) rs = some y) :
    runTo p gs (k + 1) = some (rs.set (p.code[((k : Nat) : Int).toNat]?.getD default).to.toNat y) := by
  unfold runTo; rw [h]; simp only [Option.bind_some, hd, Option.map_some]
theorem runTo_none {p : PV} {gs : List (List Int)} {k : Nat} (h : runTo p gs k = none) (j : Nat) : runTo p gs (k + j) = none := by
  induction j with
  | zero => exact h
  | succ j ih => rw [← Nat.add_assoc]; unfold runTo; rw [ih]; rfl
theorem runTo_stop {p : PV} {gs : List (List Int)} {k : Nat} {rs : List (List Int)} (h : runTo p gs k = some rs) (hd : doI (p.code[((k : Nat) : Int).toNat]?.getD default) rs = none) (hk : k < p.code.length) : followP p gs = none := by
  have h1 : runTo p gs (k + 1) = none := by unfold runTo; rw [h]; simp only [Option.bind_some, hd, Option.map_none]
  have h2 := runTo_none h1 (p.code.length - (k + 1))
  rw [show k + 1 + (p.code.length - (k + 1)) = p.code.length by omega] at h2
  unfold followP; rw [h2]; rfl
theorem even_regs0 {p : PV} {gs : List (List Int)} {m N : Nat} (hg : Even m N gs) (h0 : 0 < gs.length) : Even m N (regs0 p gs) := fun zs hz => by
  unfold regs0 at hz
  obtain ⟨k, hk, rfl⟩ := List.mem_map.1 hz
  have hN := (hg.at (k := 0) (by omega)).1
  split
  · exact hg.at (k := (k : Int)) (by omega)
  · refine ⟨by rw [List.length_replicate]; exact hN, fun z hz => ?_⟩
    rw [List.eq_of_mem_replicate hz]; exact pw_pos m
theorem even_set {m N : Nat} {rs : List (List Int)} {x : List Int} (h : Even m N rs) (hx : x.length = N ∧ Below m x) (k : Nat) : Even m N (rs.set k x) := fun zs hz => by
  rcases List.mem_or_eq_of_mem_set hz with h1 | h1
  · exact h zs h1
  · rw [h1]; exact hx
theorem Even.mono {m k N : Nat} {rs : List (List Int)} (h : Even m N rs) (hk : m ≤ k) : Even k N rs := fun zs hz => ⟨(h zs hz).1, (h zs hz).2.mono hk⟩
end Go.Proofs.Ytfleehgbpgmcnaa
namespace Go.Proofs.Ytfleehgbpgmcnaa
open Go Go.Sl
set_option maxRecDepth 100000
instance : DecidableEq PV := fun a b => by
  cases a; cases b; simp only [PV.mk.injEq]; infer_instance
theorem take_eq_step {α : Type} [Inhabited α] {l m : List α} {k : Nat} (hl : k < l.length) (hm : k < m.length) (h : l.take k = m.take k)
    (he : l[((k : Nat) : Int).toNat]?.getD default = m[((k : Nat) : Int).toNat]?.getD default) : l.take (k + 1) = m.take (k + 1) := by
  rw [Int.toNat_natCast, List.getElem?_eq_getElem hl, List.getElem?_eq_getElem hm] at he
  rw [List.take_add_one, List.take_add_one, h, List.getElem?_eq_getElem hl, List.getElem?_eq_getElem hm]
  simp only [Option.getD_some] at he
  rw [he]
theorem c18 (G : Imm) (p q : PV) (ac ao bc bo : Option Addr) (cc co dc do_ : Nat) (hc : Arr G ac p.code) (ho : Arr G ao p.outs) (hc' : Arr G bc q.code) (ho' : Arr G bo q.outs) (h1 : p.code.length ≤ 1099511627776) (h2 : p.outs.length ≤ 1099511627776) :
    Does Try.prog 18 [.agg #[.int .i64 p.ins, .int .i64 p.regs, .slice ac p.code.length cc, .slice ao p.outs.length co], .agg #[.int .i64 q.ins, .int .i64 q.regs, .slice bc q.code.length dc, .slice bo q.outs.length do_]] G []
      (fun v G' Ho => v = .bool (decide (p = q)) ∧ G' = G ∧ Ho = []) := by
  refine Does.enter Try.func18 rfl Try.ntmps18 rfl (fun w => ?_)
  refine Wc.seq ?_
  refine Wc.region rfl ?_
  refine Wl.box 0 rfl rfl rfl (fun b1 => ?_)
  refine Wl.box 1 rfl rfl rfl (fun b2 => ?_)
  refine Wl.q rfl (Qy.assign rfl) ?_
  refine Wl.done ?_
  refine Ar.next ?_
  refine Wc.seq ?_
  refine Wc.seq ?_
  refine Wc.region rfl ?_
  refine Wl.q rfl (Qy.fieldAddr T.fa25_0 rfl) ?_
  refine Wl.q rfl (Qy.load 0 T.one3 rfl rfl rfl) ?_
  refine Wl.q rfl (Qy.fieldAddr T.fa25_0 rfl) ?_
  refine Wl.q rfl (Qy.load 1 T.one3 rfl rfl rfl) ?_
  refine Wl.q rfl (Qy.neq rfl rfl) ?_
  refine Wl.q rfl (Qy.move rfl) ?_
  apply Wl.joinOr 6 12 18 rfl
  intro hg1
  refine Wl.want rfl rfl ?_
  refine Wl.q rfl (Qy.fieldAddr T.fa25_1 rfl) ?_
  refine Wl.want rfl rfl ?_
  refine Wl.q rfl (Qy.load 0 T.one3 rfl rfl rfl) ?_
  refine Wl.want rfl rfl ?_
  refine Wl.q rfl (Qy.fieldAddr T.fa25_1 rfl) ?_
  refine Wl.want rfl rfl ?_
  refine Wl.q rfl (Qy.load 1 T.one3 rfl rfl rfl) ?_
  refine Wl.want rfl rfl ?_
  refine Wl.q rfl (Qy.neq rfl rfl) ?_
  refine Wl.q rfl (Qy.pick rfl rfl) ?_
  exact Wl.back 6 0 rfl rfl rfl rfl rfl
  intro hg1
  refine Wl.pass rfl rfl rfl ?_
  refine Wl.pass rfl rfl rfl ?_
  refine Wl.pass rfl rfl rfl ?_
  refine Wl.pass rfl rfl rfl ?_
  refine Wl.pass rfl rfl rfl ?_
  refine Wl.q rfl (Qy.pick rfl rfl) ?_
  exact Wl.back 6 0 rfl rfl rfl rfl rfl
  refine Wl.q rfl (Qy.move rfl) ?_
  apply Wl.joinOr 8 19 27 rfl
  intro hg1
  refine Wl.want rfl rfl ?_
  refine Wl.q rfl (Qy.fieldAddr T.fa25_2 rfl) ?_
  refine Wl.want rfl rfl ?_
  refine Wl.q rfl (Qy.load 0 T.one22 rfl rfl rfl) ?_
  refine Wl.want rfl rfl ?_
  refine Wl.q rfl (Qy.len T.sl22 rfl) ?_
  refine Wl.want rfl rfl ?_
  refine Wl.q rfl (Qy.fieldAddr T.fa25_2 rfl) ?_
  refine Wl.want rfl rfl ?_
  refine Wl.q rfl (Qy.load 1 T.one22 rfl rfl rfl) ?_
  refine Wl.want rfl rfl ?_
  refine Wl.q rfl (Qy.len T.sl22 rfl) ?_
  refine Wl.want rfl rfl ?_
  refine Wl.q rfl (Qy.neq rfl rfl) ?_
  refine Wl.q rfl (Qy.pick rfl rfl) ?_
  exact Wl.back 8 0 rfl rfl rfl rfl rfl
  intro hg1
  refine Wl.pass rfl rfl rfl ?_
  refine Wl.pass rfl rfl rfl ?_
  refine Wl.pass rfl rfl rfl ?_
  refine Wl.pass rfl rfl rfl ?_
  refine Wl.pass rfl rfl rfl ?_
  refine Wl.pass rfl rfl rfl ?_
  refine Wl.pass rfl rfl rfl ?_
  refine Wl.q rfl (Qy.pick rfl rfl) ?_
  exact Wl.back 8 0 rfl rfl rfl rfl rfl
  refine Wl.q rfl (Qy.move rfl) ?_
  apply Wl.joinOr 8 28 36 rfl
  intro hg1
  refine Wl.want rfl rfl ?_
  refine Wl.q rfl (Qy.fieldAddr T.fa25_3 rfl) ?_
  refine Wl.want rfl rfl ?_
  refine Wl.q rfl (Qy.load 0 T.one23 rfl rfl rfl) ?_
  refine Wl.want rfl rfl ?_
  refine Wl.q rfl (Qy.len T.sl23 rfl) ?_
  refine Wl.want rfl rfl ?_
  refine Wl.q rfl (Qy.fieldAddr T.fa25_3 rfl) ?_
  refine Wl.want rfl rfl ?_
  refine Wl.q rfl (Qy.load 1 T.one23 rfl rfl rfl) ?_
  refine Wl.want rfl rfl ?_
  refine Wl.q rfl (Qy.len T.sl23 rfl) ?_
  refine Wl.want rfl rfl ?_
  refine Wl.q rfl (Qy.neq rfl rfl) ?_
  refine Wl.q rfl (Qy.pick rfl rfl) ?_
  exact Wl.back 8 0 rfl rfl rfl rfl rfl
  intro hg1
  refine Wl.pass rfl rfl rfl ?_
  refine Wl.pass rfl rfl rfl ?_
  refine Wl.pass rfl rfl rfl ?_
  refine Wl.pass rfl rfl rfl ?_
  refine Wl.pass rfl rfl rfl ?_
  refine Wl.pass rfl rfl rfl ?_
  refine Wl.pass rfl rfl rfl ?_
  refine Wl.q rfl (Qy.pick rfl rfl) ?_
  exact Wl.back 8 0 rfl rfl rfl rfl rfl
  refine Wl.done ?_
  refine Ar.next ?_
  refine Wc.cond rfl (fun hc1 => ?_) (fun hc1 => ?_)
  refine Wc.seq ?_
  refine Wc.region rfl ?_
  refine Wl.q rfl (Qy.assign rfl) ?_
  refine Wl.done ?_
  refine Ar.next ?_
  refine Wc.ret ?_
  refine Ar.passRet ?_
  refine Ar.out1 (.inr rfl) (Ho := Hp.only _ []) rfl (.tmp rfl) (Hp.sub_only _ _) ?_
  rotate_left
  refine Wc.skip ?_
  refine Ar.next ?_
  refine Wc.seq ?_
  refine Wc.seq ?_
  refine Wc.region rfl ?_
  refine Wl.q rfl (Qy.assign rfl) ?_
  refine Wl.done ?_
  refine Ar.next ?_
  refine Wc.block ?_
  rotate_left
  · refine ⟨?_, rfl, rfl⟩
    have : p ≠ q := by rintro rfl; omega
    simp [this]
  · simp only [not_or, ne_eq, Decidable.not_not] at hc1
    obtain ⟨⟨⟨e1, e2⟩, e3⟩, e4⟩ := hc1
    refine Wc.loop (ι := Nat) (fun k => ([(5, .int .i64 (k : Int)), (3, Go.Value.pointer (Option.some (Go.Addr.mk b2 0 Option.none))), (2, Go.Value.pointer (Option.some (Go.Addr.mk b1 0 Option.none)))], [(1, Option.some b2, Go.Obj.cells #[Go.Value.int Go.IntKind.i64 (Go.Proofs.Ytfleehgbpgmcnaa.PV.ins q), Go.Value.int Go.IntKind.i64 (Go.Proofs.Ytfleehgbpgmcnaa.PV.regs q), Go.Value.slice bc (List.length (Go.Proofs.Ytfleehgbpgmcnaa.PV.code q)) dc, Go.Value.slice bo (List.length (Go.Proofs.Ytfleehgbpgmcnaa.PV.outs q)) do_] 25), (0, Option.some b1, Go.Obj.cells #[Go.Value.int Go.IntKind.i64 (Go.Proofs.Ytfleehgbpgmcnaa.PV.ins p), Go.Value.int Go.IntKind.i64 (Go.Proofs.Ytfleehgbpgmcnaa.PV.regs p), Go.Value.slice ac (List.length (Go.Proofs.Ytfleehgbpgmcnaa.PV.code p)) cc, Go.Value.slice ao (List.length (Go.Proofs.Ytfleehgbpgmcnaa.PV.outs p)) co] 25)])) (fun k => k ≤ p.code.length ∧ p.code.take k = q.code.take k) (fun k => p.code.length - k) (0) (⟨Nat.zero_le _, rfl⟩) ⟨rfl, rfl, rfl, trivial⟩ ⟨rfl, rfl, trivial⟩ (fun k => fun (hk : k ≤ p.code.length ∧ p.code.take k = q.code.take k) => ?_)
    obtain ⟨hk1, hk2⟩ := hk
    refine Wc.seq ?_
    refine Wc.seq ?_
    refine Wc.region rfl ?_
    refine Wl.q rfl (Qy.move rfl) ?_
    refine Wl.q rfl (Qy.fieldAddr T.fa25_2 rfl) ?_
    refine Wl.q rfl (Qy.load 0 T.one22 rfl rfl rfl) ?_
    refine Wl.q rfl (Qy.len T.sl22 rfl) ?_
    refine Wl.q rfl (Qy.lss rfl rfl) ?_
    refine Wl.done ?_
    refine Ar.next ?_
    refine Wc.cond rfl (fun hc1 => ?_) (fun hc1 => ?_)
    refine Wc.skip ?_
    refine Ar.next ?_
    refine Wc.seq ?_
    refine Wc.block ?_
    refine Wc.seq ?_
    refine Wc.draw [0, 1] [] T.mixed rfl ?_
    refine Gm.q 0 [] (by kernel_rfl) rfl rfl (Qy.fieldAddr T.fa25_2 rfl) ?_
    refine Gm.q 1 [0] (by kernel_rfl) rfl rfl (Qy.load 0 T.one22 rfl rfl rfl) ?_
    refine Gm.q 2 [] (by kernel_rfl) rfl rfl (Qy.move rfl) ?_
    refine Gm.q 3 [] (by kernel_rfl) rfl rfl (Qy.at (α := Instr) T.sl22 rfl rfl (by assumption) (by omega)) ?_
    refine Gm.q 4 [] (by kernel_rfl) rfl rfl (Qy.loadsG T.agg34 rfl (Arr.elem (by assumption) (by omega)) rfl) ?_
    refine Gm.q 5 [] (by kernel_rfl) rfl rfl (Qy.fieldAddr T.fa25_2 rfl) ?_
    refine Gm.q 6 [1] (by kernel_rfl) rfl rfl (Qy.load 1 T.one22 rfl rfl rfl) ?_
    refine Gm.q 7 [] (by kernel_rfl) rfl rfl (Qy.move rfl) ?_
    refine Gm.q 8 [] (by kernel_rfl) rfl rfl (Qy.at (α := Instr) T.sl22 rfl rfl (by assumption) (by omega)) ?_
    refine Gm.q 9 [] (by kernel_rfl) rfl rfl (Qy.loadsG T.agg34 rfl (Arr.elem (by assumption) (by omega)) rfl) ?_
    refine Gm.q 10 [] (by kernel_rfl) rfl rfl (Qy.neqInstr T.ai34 rfl rfl) ?_
    refine Gm.doneA (by kernel_rfl) ⟨rfl, rfl, trivial⟩ (by first | exact Imm.le_refl _ | assumption) ?_
    refine Ar.next ?_
    refine Wc.cond rfl (fun hc2 => ?_) (fun hc2 => ?_)
    refine Wc.seq ?_
    refine Wc.region rfl ?_
    refine Wl.q rfl (Qy.assign rfl) ?_
    refine Wl.done ?_
    refine Ar.next ?_
    refine Wc.ret ?_
    refine Ar.outRet ?_
    refine Ar.passRet ?_
    refine Ar.passRet ?_
    refine Ar.outRet ?_
    refine Ar.passRet ?_
    refine Ar.out1 (.inr rfl) (Ho := Hp.only _ []) rfl (.tmp rfl) (Hp.sub_only _ _) ?_
    rotate_left
    refine Wc.skip ?_
    refine Ar.outNormal ?_
    refine Ar.next ?_
    refine Wc.region rfl ?_
    refine Wl.q rfl (Qy.move rfl) ?_
    refine Wl.q rfl (Qy.add rfl rfl (by omega)) ?_
    refine Wl.q rfl (Qy.assign rfl) ?_
    refine Wl.done ?_
    rotate_left
    refine Wc.exit ?_
    refine Ar.passExit ?_
    refine Ar.passExit ?_
    refine Ar.here ?_
    refine Ar.next ?_
    refine Wc.seq ?_
    refine Wc.seq ?_
    refine Wc.region rfl ?_
    refine Wl.q rfl (Qy.assign rfl) ?_
    refine Wl.done ?_
    refine Ar.next ?_
    refine Wc.block ?_
    rotate_left
    · refine ⟨?_, rfl, rfl⟩
      have : p ≠ q := by rintro rfl; exact hc2 rfl
      simp [this]
    · refine Ar.again (k + 1) ?_ ?_ rfl ⟨rfl, rfl, rfl, trivial⟩ ⟨rfl, rfl, trivial⟩
      · exact ⟨by omega, take_eq_step (by omega) (by omega) hk2 (Decidable.not_not.1 hc2)⟩
      · omega
    · have hcode : p.code = q.code := by
        have : k = p.code.length := by omega
        subst this
        rw [List.take_length, List.take_of_length_le (by omega)] at hk2
        exact hk2
      clear hk1 hk2 hc1
      refine Wc.loop (ι := Nat) (fun k => ([(6, .int .i64 (k : Int)), (3, Go.Value.pointer (Option.some (Go.Addr.mk b2 0 Option.none))), (2, Go.Value.pointer (Option.some (Go.Addr.mk b1 0 Option.none)))], [(1, Option.some b2, Go.Obj.cells #[Go.Value.int Go.IntKind.i64 (Go.Proofs.Ytfleehgbpgmcnaa.PV.ins q), Go.Value.int Go.IntKind.i64 (Go.Proofs.Ytfleehgbpgmcnaa.PV.regs q), Go.Value.slice bc (List.length (Go.Proofs.Ytfleehgbpgmcnaa.PV.code q)) dc, Go.Value.slice bo (List.length (Go.Proofs.Ytfleehgbpgmcnaa.PV.outs q)) do_] 25), (0, Option.some b1, Go.Obj.cells #[Go.Value.int Go.IntKind.i64 (Go.Proofs.Ytfleehgbpgmcnaa.PV.ins p), Go.Value.int Go.IntKind.i64 (Go.Proofs.Ytfleehgbpgmcnaa.PV.regs p), Go.Value.slice ac (List.length (Go.Proofs.Ytfleehgbpgmcnaa.PV.code p)) cc, Go.Value.slice ao (List.length (Go.Proofs.Ytfleehgbpgmcnaa.PV.outs p)) co] 25)])) (fun k => k ≤ p.outs.length ∧ p.outs.take k = q.outs.take k) (fun k => p.outs.length - k) (0) (⟨Nat.zero_le _, rfl⟩) ⟨rfl, rfl, rfl, trivial⟩ ⟨rfl, rfl, trivial⟩ (fun k => fun (hk : k ≤ p.outs.length ∧ p.outs.take k = q.outs.take k) => ?_)
      obtain ⟨hk1, hk2⟩ := hk
      refine Wc.seq ?_
      refine Wc.seq ?_
      refine Wc.region rfl ?_
      refine Wl.q rfl (Qy.move rfl) ?_
      refine Wl.q rfl (Qy.fieldAddr T.fa25_3 rfl) ?_
      refine Wl.q rfl (Qy.load 0 T.one23 rfl rfl rfl) ?_
      refine Wl.q rfl (Qy.len T.sl23 rfl) ?_
      refine Wl.q rfl (Qy.lss rfl rfl) ?_
      refine Wl.done ?_
      refine Ar.next ?_
      refine Wc.cond rfl (fun hc1 => ?_) (fun hc1 => ?_)
      refine Wc.skip ?_
      refine Ar.next ?_
      refine Wc.seq ?_
      refine Wc.block ?_
      refine Wc.seq ?_
      refine Wc.draw [0, 1] [] T.mixed rfl ?_
      refine Gm.q 0 [] (by kernel_rfl) rfl rfl (Qy.fieldAddr T.fa25_3 rfl) ?_
      refine Gm.q 1 [0] (by kernel_rfl) rfl rfl (Qy.load 0 T.one23 rfl rfl rfl) ?_
      refine Gm.q 2 [] (by kernel_rfl) rfl rfl (Qy.move rfl) ?_
      refine Gm.q 3 [] (by kernel_rfl) rfl rfl (Qy.at (α := Int) T.sl23 rfl rfl (by assumption) (by omega)) ?_
      refine Gm.q 4 [0] (by kernel_rfl) rfl rfl (Qy.loadG T.one3 rfl (Arr.cell (by assumption) (by omega) 0 rfl rfl)) ?_
      refine Gm.q 5 [] (by kernel_rfl) rfl rfl (Qy.fieldAddr T.fa25_3 rfl) ?_
      refine Gm.q 6 [1] (by kernel_rfl) rfl rfl (Qy.load 1 T.one23 rfl rfl rfl) ?_
      refine Gm.q 7 [] (by kernel_rfl) rfl rfl (Qy.move rfl) ?_
      refine Gm.q 8 [] (by kernel_rfl) rfl rfl (Qy.at (α := Int) T.sl23 rfl rfl (by assumption) (by omega)) ?_
      refine Gm.q 9 [0] (by kernel_rfl) rfl rfl (Qy.loadG T.one3 rfl (Arr.cell (by assumption) (by omega) 0 rfl rfl)) ?_
      refine Gm.q 10 [] (by kernel_rfl) rfl rfl (Qy.neq rfl rfl) ?_
      refine Gm.doneA (by kernel_rfl) ⟨rfl, rfl, trivial⟩ (by first | exact Imm.le_refl _ | assumption) ?_
      refine Ar.next ?_
      refine Wc.cond rfl (fun hc2 => ?_) (fun hc2 => ?_)
      refine Wc.seq ?_
      refine Wc.region rfl ?_
      refine Wl.q rfl (Qy.assign rfl) ?_
      refine Wl.done ?_
      refine Ar.next ?_
      refine Wc.ret ?_
      refine Ar.outRet ?_
      refine Ar.passRet ?_
      refine Ar.passRet ?_
      refine Ar.outRet ?_
      refine Ar.passRet ?_
      refine Ar.out1 (.inr rfl) (Ho := Hp.only _ []) rfl (.tmp rfl) (Hp.sub_only _ _) ?_
      rotate_left
      refine Wc.skip ?_
      refine Ar.outNormal ?_
      refine Ar.next ?_
      refine Wc.region rfl ?_
      refine Wl.q rfl (Qy.move rfl) ?_
      refine Wl.q rfl (Qy.add rfl rfl (by omega)) ?_
      refine Wl.q rfl (Qy.assign rfl) ?_
      refine Wl.done ?_
      rotate_left
      refine Wc.exit ?_
      refine Ar.passExit ?_
      refine Ar.passExit ?_
      refine Ar.here ?_
      refine Ar.next ?_
      refine Wc.seq ?_
      refine Wc.region rfl ?_
      refine Wl.q rfl (Qy.assign rfl) ?_
      refine Wl.done ?_
      refine Ar.next ?_
      refine Wc.ret ?_
      refine Ar.out1 (.inr rfl) (Ho := Hp.only _ []) rfl (.tmp rfl) (Hp.sub_only _ _) ?_
      rotate_left
      · refine ⟨?_, rfl, rfl⟩
        have : p ≠ q := by rintro rfl; exact hc2 rfl
        simp [this]
      · refine Ar.again (k + 1) ?_ ?_ rfl ⟨rfl, rfl, rfl, trivial⟩ ⟨rfl, rfl, trivial⟩
        · exact ⟨by omega, take_eq_step (by omega) (by omega) hk2 (Decidable.not_not.1 hc2)⟩
        · omega
      · refine ⟨?_, rfl, rfl⟩
        have houts : p.outs = q.outs := by
          have : k = p.outs.length := by omega
          subst this
          rw [List.take_length, List.take_of_length_le (by omega)] at hk2
          exact hk2
        have : p = q := by cases p; cases q; simp_all
        simp [this]
theorem c13 (G : Imm) (p : PV) (ac ao : Option Addr) (cc co : Nat) (hc : Arr G ac p.code) (ho : Arr G ao p.outs) (h1 : p.code.length ≤ 1099511627776) (h2 : p.outs.length ≤ 1099511627776) :
    Does Try.prog 13 [.agg #[.int .i64 p.ins, .int .i64 p.regs, .slice ac p.code.length cc, .slice ao p.outs.length co]] G [] (fun v G' Ho => ∃ bc bo dc do_ j1 j2, v = .agg #[.int .i64 p.ins, .int .i64 p.regs, .slice bc p.code.length dc, .slice bo p.outs.length do_] ∧
      OwnA bc dc p.code j1 ∧ OwnA bo do_ p.outs j2 ∧ Ho = [(10, bc.map (·.block), Row 34 p.code j1), (11, bo.map (·.block), Row 3 p.outs j2)] ∧ G' = G) := by
  refine Does.enter Try.func13 rfl Try.ntmps13 rfl (fun w => ?_)
  refine Wc.nilRow 10 (Row 34 ([] : List Sl.Instr) []) (Wc.nilRow 11 (Row 3 ([] : List Int) []) ?_)
  refine Wc.seq ?_
  refine Wc.region rfl ?_
  refine Wl.box 12 rfl rfl rfl (fun b1 => ?_)
  refine Wl.alloc 13 rfl T.zero25 (fun b2 => ?_)
  refine Wl.done ?_
  refine Ar.next ?_
  refine Wc.seq ?_
  refine Wc.region rfl ?_
  refine Wl.q rfl (Qy.fieldAddr T.fa25_0 rfl) ?_
  refine Wl.q rfl (Qy.load 12 T.one3 rfl rfl rfl) ?_
  refine Wl.q rfl (Qy.fieldAddr T.fa25_1 rfl) ?_
  refine Wl.q rfl (Qy.load 12 T.one3 rfl rfl rfl) ?_
  refine Wl.q rfl (Qy.build (cs := [_, _, _, _]) T.st25 rfl rfl rfl) ?_
  refine Wl.alloc 14 rfl T.zero25 (fun b3 => ?_)
  refine Wl.storeAll 14 T.size25 rfl rfl rfl rfl rfl rfl ?_
  refine Wl.done ?_
  refine Ar.next ?_
  refine Wc.seq ?_
  refine Wc.region rfl ?_
  refine Wl.q rfl (Qy.fieldAddr T.fa25_2 rfl) ?_
  refine Wl.q rfl (Qy.load 14 T.one22 rfl rfl rfl) ?_
  refine Wl.q rfl (Qy.fieldAddr T.fa25_2 rfl) ?_
  refine Wl.q rfl (Qy.load 12 T.one22 rfl rfl rfl) ?_
  refine Wl.append (α := Instr) 10 rfl T.sl22 T.el34 rfl rfl rfl (by first | assumption | exact OwnA.nil | exact OwnA.made (by simp)) (Src.arr (by assumption)) (by first | omega | (simp only [List.length_append, List.length_cons, List.length_nil, maxLen]; omega)) (by first | omega | (simp only [List.length_append, List.length_cons, List.length_nil, maxLen]; omega)) (fun a1 c1 junk1 ho1 => ?_)
  refine Wl.q rfl (Qy.fieldAddr T.fa25_2 rfl) ?_
  refine Wl.store 14 T.one22 rfl rfl rfl rfl rfl ?_
  refine Wl.done ?_
  refine Ar.next ?_
  refine Wc.seq ?_
  refine Wc.region rfl ?_
  refine Wl.q rfl (Qy.fieldAddr T.fa25_3 rfl) ?_
  refine Wl.q rfl (Qy.load 14 T.one23 rfl rfl rfl) ?_
  refine Wl.q rfl (Qy.fieldAddr T.fa25_3 rfl) ?_
  refine Wl.q rfl (Qy.load 12 T.one23 rfl rfl rfl) ?_
  refine Wl.append (α := Int) 11 rfl T.sl23 T.el3 rfl rfl rfl (by first | assumption | exact OwnA.nil | exact OwnA.made (by simp)) (Src.arr (by assumption)) (by first | omega | (simp only [List.length_append, List.length_cons, List.length_nil, maxLen]; omega)) (by first | omega | (simp only [List.length_append, List.length_cons, List.length_nil, maxLen]; omega)) (fun a2 c2 junk2 ho2 => ?_)
  refine Wl.q rfl (Qy.fieldAddr T.fa25_3 rfl) ?_
  refine Wl.store 14 T.one23 rfl rfl rfl rfl rfl ?_
  refine Wl.done ?_
  refine Ar.next ?_
  refine Wc.seq ?_
  refine Wc.region rfl ?_
  refine Wl.q rfl (Qy.loadAll 14 T.agg25 rfl rfl rfl) ?_
  refine Wl.storeAll 13 T.size25 rfl rfl rfl rfl rfl rfl ?_
  refine Wl.done ?_
  refine Ar.next ?_
  refine Wc.ret ?_
  refine Ar.out1 (.inr rfl) (Ho := Hp.only _ [10, 11]) rfl (.agg 13 rfl rfl T.agg25) (Hp.sub_only _ _) ?_
  exact ⟨_, _, _, _, _, _, rfl, ho1, ho2, rfl, rfl⟩
/-- the table: what registers hold, what is known, who was first, the next value -/
structure Tab where
  held : List Int
  known : List (K4 × Int)
  first : List (K4 × Int)
  next : Int
def TabH (t : Tab) (bt bk bf : Nat) (a : Option Addr) (c : Nat) (junk : List Value) : Hp :=
  [(0, some bt, .cells #[.slice a t.held.length c, .map (some bk), .map (some bf), .int .i64 t.next] 86), (1, a.map (·.block), Row 3 t.held junk), (2, some bk, mapObj t.known), (3, some bf, mapObj t.first)]
def start (p : PV) : List Int := (List.range p.regs.toNat).map fun r => if (p.ins : Int) < ((r : Nat) : Int) then p.ins else ((r : Nat) : Int)
/-- the first that holds a value; -1: none does -/
def holder (l : List Int) (v : Int) : Int := match l.findIdx? (fun x => decide (x = v)) with | some k => (k : Int) | none => -1
theorem c54 (G : Imm) (p : PV) (ac ao : Option Addr) (cc co : Nat) (hr : 0 ≤ p.ins ∧ p.ins ≤ p.regs ∧ p.regs ≤ 128) :
    Does Try.prog 54 [.agg #[.int .i64 p.ins, .int .i64 p.regs, .slice ac p.code.length cc, .slice ao p.outs.length co]] G [] (fun v G' Ho => ∃ bt bk bf a c junk, v = .pointer (some ⟨bt, 0, none⟩) ∧
      OwnA a c (start p) junk ∧ Ho = TabH ⟨start p, [], [], p.ins + 1⟩ bt bk bf a c junk ∧ G' = G) := by
  refine Does.enter Try.func54 rfl Try.ntmps54 rfl (fun w => ?_)
  refine Wc.nilRow 1 (Row 3 ([] : List Int) []) ?_
  refine Wc.seq ?_
  refine Wc.region rfl ?_
  refine Wl.box 2 rfl rfl rfl (fun b1 => ?_)
  refine Wl.q rfl (Qy.assign rfl) ?_
  refine Wl.done ?_
  refine Ar.next ?_
  refine Wc.seq ?_
  refine Wc.region rfl ?_
  refine Wl.makeMap (κ := K4) 3 rfl (fun b2 => ?_)
  refine Wl.makeMap (κ := K4) 4 rfl (fun b3 => ?_)
  refine Wl.q rfl (Qy.fieldAddr T.fa25_0 rfl) ?_
  refine Wl.q rfl (Qy.load 2 T.one3 rfl rfl rfl) ?_
  refine Wl.q rfl (Qy.add rfl rfl (by omega)) ?_
  refine Wl.q rfl (Qy.build (cs := [_, _, _, _]) T.st86 rfl rfl rfl) ?_
  refine Wl.box 5 rfl rfl rfl (fun b4 => ?_)
  refine Wl.q rfl (Qy.assign rfl) ?_
  refine Wl.done ?_
  refine Ar.next ?_
  refine Wc.seq ?_
  refine Wc.seq ?_
  refine Wc.region rfl ?_
  refine Wl.q rfl (Qy.fieldAddr T.fa25_1 rfl) ?_
  refine Wl.q rfl (Qy.load 2 T.one3 rfl rfl rfl) ?_
  refine Wl.q rfl (Qy.move rfl) ?_
  refine Wl.done ?_
  refine Ar.next ?_
  refine Wc.block ?_
  have hsl : (start p).length = p.regs.toNat := by simp [start]
  refine Wc.loop (ι := Nat × List Int × Option Addr × Nat × List Value) (fun (k, xs, a, c, junk) => ([(14, .int .i64 (k : Int)), (13, Go.Value.int Go.IntKind.i64 (Go.Proofs.Ytfleehgbpgmcnaa.PV.regs p)), (3, Go.Value.pointer (Option.some (Go.Addr.mk b4 0 Option.none))), (2, Go.Value.pointer Option.none), (1, Go.Value.pointer (Option.some (Go.Addr.mk b1 0 Option.none)))], [(1, a.map (·.block), Row 3 xs junk), (5, some b4, .cells #[.slice a xs.length c, .map (some b2), .map (some b3), .int .i64 (p.ins + 1)] 86), (4, Option.some b3, Go.Sl.mapObj (κ := Go.Sl.K4) ([])), (3, Option.some b2, Go.Sl.mapObj (κ := Go.Sl.K4) ([])), (2, Option.some b1, Go.Obj.cells #[Go.Value.int Go.IntKind.i64 (Go.Proofs.Ytfleehgbpgmcnaa.PV.ins p), Go.Value.int Go.IntKind.i64 (Go.Proofs.Ytfleehgbpgmcnaa.PV.regs p), Go.Value.slice ac (List.length (Go.Proofs.Ytfleehgbpgmcnaa.PV.code p)) cc, Go.Value.slice ao (List.length (Go.Proofs.Ytfleehgbpgmcnaa.PV.outs p)) co] 25)])) (fun (k, xs, a, c, junk) => k ≤ p.regs.toNat ∧ xs = (start p).take k ∧ OwnA a c xs junk) (fun (k, xs, a, c, junk) => p.regs.toNat - k) ((0, [], none, 0, [])) (⟨Nat.zero_le _, rfl, OwnA.nil⟩) ⟨rfl, rfl, rfl, rfl, rfl, trivial⟩ ⟨rfl, rfl, rfl, rfl, rfl, trivial⟩ (fun ⟨k, xs, a, c, junk⟩ => fun (hk : k ≤ p.regs.toNat ∧ xs = (start p).take k ∧ OwnA a c xs junk) => ?_)
  obtain ⟨hk1, hxs, ho⟩ := hk
  have hlen : xs.length = k := by rw [hxs, List.length_take]; omega
  refine Wc.seq ?_
  refine Wc.region rfl ?_
  refine Wl.q rfl (Qy.lss rfl rfl) ?_
  refine Wl.done ?_
  refine Ar.next ?_
  refine Wc.seq ?_
  refine Wc.cond rfl (fun hc1 => ?_) (fun hc1 => ?_)
  refine Wc.skip ?_
  refine Ar.next ?_
  refine Wc.seq ?_
  refine Wc.block ?_
  refine Wc.seq ?_
  refine Wc.region rfl ?_
  refine Wl.q rfl (Qy.move rfl) ?_
  refine Wl.q rfl (Qy.assign rfl) ?_
  refine Wl.done ?_
  refine Ar.next ?_
  refine Wc.draw [2, 3, 4, 5, 1] [(5, 13), (1, 10)] T.mixed rfl ?_
  refine Gm.q 0 [] (by kernel_rfl) rfl rfl (Qy.move rfl) ?_
  refine Gm.q 1 [] (by kernel_rfl) rfl rfl (Qy.move rfl) ?_
  refine Gm.q 2 [] (by kernel_rfl) rfl rfl (Qy.nilCheck rfl) ?_
  refine Gm.q 3 [] (by kernel_rfl) rfl rfl (Qy.fieldAddr T.fa86_0 rfl) ?_
  refine Gm.q 4 [5] (by kernel_rfl) rfl rfl (Qy.load 5 T.one23 rfl rfl rfl) ?_
  refine Gm.q 5 [] (by kernel_rfl) rfl rfl (Qy.move rfl) ?_
  refine Gm.q 6 [] (by kernel_rfl) rfl rfl (Qy.fieldAddr T.fa25_0 rfl) ?_
  refine Gm.q 7 [2] (by kernel_rfl) rfl rfl (Qy.load 2 T.one3 rfl rfl rfl) ?_
  refine Gm.q 8 [] (by kernel_rfl) rfl rfl (Qy.min rfl rfl) ?_
  refine Gm.one 9 ⟨rfl, rfl, rfl, rfl, rfl, trivial⟩ (by first | exact Imm.le_refl _ | assumption) (by kernel_rfl) rfl ?_
  refine Wl.lit (α := Int) 6 [(if Go.Proofs.Ytfleehgbpgmcnaa.PV.ins p < (↑k : Int) then Go.Proofs.Ytfleehgbpgmcnaa.PV.ins p else (↑k : Int))] rfl T.sl23 T.el3 rfl rfl rfl rfl rfl (fun b5 => ?_)
  refine Wl.on0 ?_
  refine Gm.one 10 ⟨rfl, rfl, rfl, rfl, rfl, trivial⟩ (by first | exact Imm.le_refl _ | assumption) (by kernel_rfl) rfl ?_
  refine Wl.append (α := Int) 1 rfl T.sl23 T.el3 rfl rfl rfl (by first | assumption | exact OwnA.nil | exact OwnA.made (by simp)) (Src.row 6 rfl) (by first | omega | (simp only [List.length_append, List.length_cons, List.length_nil, maxLen]; omega)) (by first | omega | (simp only [List.length_append, List.length_cons, List.length_nil, maxLen]; omega)) (fun a1 c1 junk1 ho1 => ?_)
  refine Wl.on0 ?_
  refine Gm.q 11 [] (by kernel_rfl) rfl rfl (Qy.nilCheck rfl) ?_
  refine Gm.q 12 [] (by kernel_rfl) rfl rfl (Qy.fieldAddr T.fa86_0 rfl) ?_
  refine Gm.one 13 ⟨rfl, rfl, rfl, rfl, trivial⟩ (by first | exact Imm.le_refl _ | assumption) (by kernel_rfl) rfl ?_
  refine Wl.store 5 T.one23 rfl rfl rfl rfl rfl ?_
  refine Wl.on0 ?_
  refine Gm.doneA (by kernel_rfl) ⟨rfl, rfl, rfl, trivial⟩ (by first | exact Imm.le_refl _ | assumption) ?_
  refine Ar.outNormal ?_
  refine Ar.next ?_
  refine Wc.region rfl ?_
  refine Wl.q rfl (Qy.add rfl rfl (by omega)) ?_
  refine Wl.q rfl (Qy.move rfl) ?_
  refine Wl.done ?_
  rotate_left
  refine Wc.exit ?_
  refine Ar.passExit ?_
  refine Ar.passExit ?_
  refine Ar.here ?_
  refine Ar.next ?_
  refine Wc.seq ?_
  refine Wc.region rfl ?_
  refine Wl.q rfl (Qy.move rfl) ?_
  refine Wl.q rfl (Qy.assign rfl) ?_
  refine Wl.done ?_
  refine Ar.next ?_
  refine Wc.ret ?_
  refine Ar.pick [5, 1, 3, 4] (by decide) (Ar.out1 (.inr rfl) rfl (.tmp rfl) (Hp.sub_self 0 _) ?_)
  rotate_left
  · refine Ar.again ((k + 1, _, a1, c1, junk1)) ?_ ?_ rfl ⟨rfl, rfl, rfl, rfl, rfl, trivial⟩ ⟨rfl, rfl, rfl, rfl, rfl, trivial⟩
    · have hst : (start p).take (k + 1) = (start p).take k ++ [if p.ins < ((k : Nat) : Int) then p.ins else ((k : Nat) : Int)] := by
        rw [List.take_add_one]
        have hkl : k < p.regs.toNat := by omega
        simp [start, hkl]
      refine ⟨by omega, ?_, ho1⟩
      rw [hst, hxs]
    · show p.regs.toNat - (k + 1) < p.regs.toNat - k
      omega
  · have hk : k = p.regs.toNat := by omega
    have htk : xs = start p := by rw [hxs]; exact List.take_of_length_le (by omega)
    rw [htk] at ho ⊢
    exact ⟨b4, b2, b3, a, c, junk, rfl, ho, rfl, rfl⟩
theorem c57 (G : Imm) (t : Tab) (bt bk bf : Nat) (a : Option Addr) (c : Nat) (junk : List Value) (v : Int) (ho : OwnA a c t.held junk) (hl : t.held.length ≤ 128) :
    Does Try.prog 57 [.pointer (some ⟨bt, 0, none⟩), .int .i64 v] G (TabH t bt bk bf a c junk) (fun r G' Ho => r = .int .i64 (holder t.held v) ∧ G' = G ∧ Ho = TabH t bt bk bf a c junk) := by
  refine Does.enter Try.func57 rfl Try.ntmps57 rfl (fun w => ?_)
  refine Wc.seq ?_
  refine Wc.region rfl ?_
  refine Wl.q rfl (Qy.assign rfl) ?_
  refine Wl.done ?_
  refine Ar.next ?_
  refine Wc.scope ?_
  refine Wc.seq ?_
  refine Wc.label ?_
  refine Ar.next ?_
  refine Wc.seq ?_
  refine Wc.seq ?_
  refine Wc.region rfl ?_
  refine Wl.q rfl (Qy.move rfl) ?_
  refine Wl.q rfl (Qy.nilCheck rfl) ?_
  refine Wl.q rfl (Qy.fieldAddr T.fa86_0 rfl) ?_
  refine Wl.q rfl (Qy.load 0 T.one23 rfl rfl rfl) ?_
  refine Wl.q rfl (Qy.len T.sl23 rfl) ?_
  refine Wl.q rfl (Qy.move rfl) ?_
  refine Wl.done ?_
  refine Ar.next ?_
  refine Wc.block ?_
  refine Wc.loop (ι := Nat) (fun k => ([(12, .int .i64 (k : Int)), (11, Go.Value.int Go.IntKind.i64 (↑(List.length (Go.Proofs.Ytfleehgbpgmcnaa.Tab.held t)) : Int)), (10, Go.Value.slice a (List.length (Go.Proofs.Ytfleehgbpgmcnaa.Tab.held t)) c), (1, Go.Value.int Go.IntKind.i64 v)], [(0, Option.some bt, Go.Obj.cells #[Go.Value.slice a (List.length (Go.Proofs.Ytfleehgbpgmcnaa.Tab.held t)) c, Go.Value.map (Option.some bk), Go.Value.map (Option.some bf), Go.Value.int Go.IntKind.i64 (Go.Proofs.Ytfleehgbpgmcnaa.Tab.next t)] 86), (1, Option.map (fun x => Go.Addr.block x) a, Go.Sl.Row (α := Int) 3 (Go.Proofs.Ytfleehgbpgmcnaa.Tab.held t) (junk)), (2, Option.some bk, Go.Sl.mapObj (κ := Go.Sl.K4) (Go.Proofs.Ytfleehgbpgmcnaa.Tab.known t)), (3, Option.some bf, Go.Sl.mapObj (κ := Go.Sl.K4) (Go.Proofs.Ytfleehgbpgmcnaa.Tab.first t))])) (fun k => k ≤ t.held.length ∧ (t.held.take k).all (fun x => !decide (x = v)) = true) (fun k => t.held.length - k) (0) (⟨Nat.zero_le _, rfl⟩) ⟨rfl, rfl, rfl, rfl, trivial⟩ ⟨rfl, rfl, rfl, rfl, trivial⟩ (fun k => fun (hk : k ≤ t.held.length ∧ (t.held.take k).all (fun x => !decide (x = v)) = true) => ?_)
  obtain ⟨hk1, hk2⟩ := hk
  refine Wc.seq ?_
  refine Wc.region rfl ?_
  refine Wl.q rfl (Qy.lss rfl rfl) ?_
  refine Wl.done ?_
  refine Ar.next ?_
  refine Wc.seq ?_
  refine Wc.cond rfl (fun hc1 => ?_) (fun hc1 => ?_)
  refine Wc.skip ?_
  refine Ar.next ?_
  refine Wc.seq ?_
  refine Wc.block ?_
  refine Wc.seq ?_
  refine Wc.region rfl ?_
  refine Wl.q rfl (Qy.move rfl) ?_
  refine Wl.q rfl (Qy.indexAddrO (α := Int) T.sl23 rfl rfl (by assumption) (by omega)) ?_
  refine Wl.q rfl (Qy.loadO 1 0 T.one3 rfl rfl (by assumption) (by omega) rfl rfl) ?_
  refine Wl.q rfl (Qy.assign rfl) ?_
  refine Wl.q rfl (Qy.assign rfl) ?_
  refine Wl.done ?_
  refine Ar.next ?_
  refine Wc.seq ?_
  refine Wc.seq ?_
  refine Wc.region rfl ?_
  refine Wl.q rfl (Qy.move rfl) ?_
  refine Wl.q rfl (Qy.move rfl) ?_
  refine Wl.q rfl (Qy.neq rfl rfl) ?_
  refine Wl.done ?_
  refine Ar.next ?_
  refine Wc.cond rfl (fun hc2 => ?_) (fun hc2 => ?_)
  refine Wc.exit ?_
  refine Ar.passExit ?_
  refine Ar.here ?_
  refine Ar.next ?_
  refine Wc.region rfl ?_
  refine Wl.q rfl (Qy.add rfl rfl (by omega)) ?_
  refine Wl.q rfl (Qy.move rfl) ?_
  refine Wl.done ?_
  rotate_left
  refine Wc.skip ?_
  refine Ar.next ?_
  refine Wc.seq ?_
  refine Wc.region rfl ?_
  refine Wl.q rfl (Qy.move rfl) ?_
  refine Wl.q rfl (Qy.assign rfl) ?_
  refine Wl.done ?_
  refine Ar.next ?_
  refine Wc.ret ?_
  refine Ar.outRet ?_
  refine Ar.passRet ?_
  refine Ar.passRet ?_
  refine Ar.outRet ?_
  refine Ar.passRet ?_
  refine Ar.scopeR ?_
  refine Ar.out1 (.inr rfl) (Ho := Hp.only _ [0, 1, 2, 3]) rfl (.tmp rfl) (Hp.sub_only _ _) ?_
  rotate_left
  refine Wc.exit ?_
  refine Ar.passExit ?_
  refine Ar.passExit ?_
  refine Ar.here ?_
  refine Ar.next ?_
  refine Wc.seq ?_
  refine Wc.region rfl ?_
  refine Wl.q rfl (Qy.assign rfl) ?_
  refine Wl.done ?_
  refine Ar.next ?_
  refine Wc.ret ?_
  refine Ar.scopeR ?_
  refine Ar.out1 (.inr rfl) (Ho := Hp.only _ [0, 1, 2, 3]) rfl (.tmp rfl) (Hp.sub_only _ _) ?_
  rotate_left
  · refine Ar.again (k + 1) ?_ ?_ rfl ⟨rfl, rfl, rfl, rfl, trivial⟩ ⟨rfl, rfl, rfl, rfl, trivial⟩
    · refine ⟨by omega, ?_⟩
      rw [all_step _ (by omega), hk2]
      simpa using hc2
    · omega
  · refine ⟨?_, rfl, rfl⟩
    have := find_bad (p := fun x => !decide (x = v)) (l := t.held) (k := k) (by omega) hk2 (by simpa using hc2)
    simp only [Bool.not_not] at this
    simp [holder, this]
  · refine ⟨?_, rfl, rfl⟩
    have hk : k = t.held.length := by omega
    subst hk
    rw [List.take_length] at hk2
    have := find_none hk2
    simp only [Bool.not_not] at this
    simp [holder, this]
/-- an instruction's key -/
def keyOf (held : List Int) (i : Sl.Instr) : K4 :=
  let a := held[i.a.toNat]?.getD default
  if i.op = 3 ∨ i.op = 4 then
    let b := held[i.b.toNat]?.getD default
    if i.op = 3 ∧ b < a then ⟨i.op, b, a, i.c⟩ else ⟨i.op, a, b, i.c⟩
  else ⟨i.op, a, -1, i.c⟩
theorem asks_two (i : Sl.Instr) : (1 < ((asks i).length : Int)) ↔ (i.op = 3 ∨ i.op = 4) := by
  unfold asks
  by_cases h : i.op = 3 ∨ i.op = 4
  · simp [h]
  · rw [if_neg h]; split <;> simp [h]
theorem c83 (G : Imm) (t : Tab) (bt bk bf : Nat) (a : Option Addr) (c : Nat) (junk : List Value) (i : Sl.Instr) (ho : OwnA a c t.held junk) (hl : t.held.length ≤ 128) (hm : mayOk i t.held.length = true) :
    Does Try.prog 83 [.pointer (some ⟨bt, 0, none⟩), .agg (Cells.enc i).toArray] G (TabH t bt bk bf a c junk) (fun r G' Ho => r = OneVal.val (keyOf t.held i) ∧ G' = G ∧ Ho = TabH t bt bk bf a c junk) := by
  rw [mayOk_iff] at hm
  obtain ⟨⟨hop1, hop2, hto1, hto2, ha1, ha2⟩, hb⟩ := hm
  have hb : i.op = 3 ∨ i.op = 4 → 0 ≤ i.b ∧ i.b < t.held.length := fun h => by rw [if_pos h] at hb; omega
  have two := asks_two i
  refine Does.enter Try.func83 rfl Try.ntmps83 rfl (fun w => ?_)
  refine Wc.seq ?_
  refine Wc.region rfl ?_
  refine Wl.box 4 rfl rfl rfl (fun b1 => ?_)
  refine Wl.alloc 5 rfl T.zero128 (fun b2 => ?_)
  refine Wl.done ?_
  refine Ar.next ?_
  refine Wc.seq ?_
  refine Wc.draw [3, 2, 1, 0, 4, 5] [(5, 14), (4, 14), (0, 14), (1, 14)] T.mixed rfl ?_
  refine Gm.q 0 [] (by kernel_rfl) rfl rfl (Qy.fieldAddr T.fa34_0 rfl) ?_
  refine Gm.q 1 [4] (by kernel_rfl) rfl rfl (Qy.load 4 T.one3 rfl rfl rfl) ?_
  refine Gm.q 2 [] (by kernel_rfl) rfl rfl (Qy.move rfl) ?_
  refine Gm.q 3 [] (by kernel_rfl) rfl rfl (Qy.nilCheck rfl) ?_
  refine Gm.q 4 [] (by kernel_rfl) rfl rfl (Qy.fieldAddr T.fa86_0 rfl) ?_
  refine Gm.q 5 [0] (by kernel_rfl) rfl rfl (Qy.load 0 T.one23 rfl rfl rfl) ?_
  refine Gm.q 6 [] (by kernel_rfl) rfl rfl (Qy.fieldAddr T.fa34_2 rfl) ?_
  refine Gm.q 7 [4] (by kernel_rfl) rfl rfl (Qy.load 4 T.one3 rfl rfl rfl) ?_
  refine Gm.q 8 [] (by kernel_rfl) rfl rfl (Qy.indexAddrO (α := Int) T.sl23 rfl rfl (by assumption) (by omega)) ?_
  refine Gm.q 9 [1, 0] (by kernel_rfl) rfl rfl (Qy.loadO 1 0 T.one3 rfl rfl (by assumption) (by omega) rfl rfl) ?_
  refine Gm.q 10 [] (by kernel_rfl) rfl rfl (Qy.fieldAddr T.fa34_4 rfl) ?_
  refine Gm.q 11 [4] (by kernel_rfl) rfl rfl (Qy.load 4 T.one3 rfl rfl rfl) ?_
  refine Gm.q 12 [] (by kernel_rfl) rfl rfl (Qy.build (cs := [_, _, _, _]) T.st128 rfl rfl rfl) ?_
  refine Gm.one 13 ⟨rfl, rfl, rfl, rfl, rfl, rfl, trivial⟩ (by first | exact Imm.le_refl _ | assumption) (by kernel_rfl) rfl ?_
  refine Wl.alloc 6 rfl T.zero128 (fun b3 => ?_)
  refine Wl.on0 ?_
  refine Gm.one 14 ⟨rfl, rfl, rfl, rfl, rfl, rfl, trivial⟩ (by first | exact Imm.le_refl _ | assumption) (by kernel_rfl) rfl ?_
  refine Wl.storeAll 6 T.size128 rfl rfl rfl rfl rfl rfl ?_
  refine Wl.on0 ?_
  refine Gm.doneA (by kernel_rfl) ⟨rfl, rfl, trivial⟩ (by first | exact Imm.le_refl _ | assumption) ?_
  refine Ar.next ?_
  refine Wc.seq ?_
  refine Wc.seq ?_
  refine Wc.region rfl ?_
  refine Wl.q rfl (Qy.loadAll 4 T.agg34 rfl rfl rfl) ?_
  refine Wl.call 7 rfl T.fn70 rfl (c70 _ _) (tags_of trivial) (fun v1 G1 Ho1 hle1 hp => ?_)
  obtain ⟨ad1, cd1, junk1, rfl, hoa1, rfl, rfl⟩ := hp
  refine Wl.q rfl (Qy.len T.sl23 rfl) ?_
  refine Wl.q rfl (Qy.gtr rfl rfl) ?_
  refine Wl.done ?_
  refine Ar.next ?_
  refine Wc.cond rfl (fun hc1 => ?_) (fun hc1 => ?_)
  refine Wc.draw [3, 2, 1, 0, 4, 5, 6, 8] [(6, 9)] T.mixed rfl ?_
  refine Gm.q 0 [] (by kernel_rfl) rfl rfl (Qy.move rfl) ?_
  refine Gm.q 1 [] (by kernel_rfl) rfl rfl (Qy.nilCheck rfl) ?_
  refine Gm.q 2 [] (by kernel_rfl) rfl rfl (Qy.fieldAddr T.fa86_0 rfl) ?_
  refine Gm.q 3 [0] (by kernel_rfl) rfl rfl (Qy.load 0 T.one23 rfl rfl rfl) ?_
  refine Gm.q 4 [] (by kernel_rfl) rfl rfl (Qy.fieldAddr T.fa34_3 rfl) ?_
  refine Gm.q 5 [4] (by kernel_rfl) rfl rfl (Qy.load 4 T.one3 rfl rfl rfl) ?_
  refine Gm.q 6 [] (by kernel_rfl) rfl rfl (Qy.indexAddrO (α := Int) T.sl23 rfl rfl (by assumption) (by omega)) ?_
  refine Gm.q 7 [1, 0] (by kernel_rfl) rfl rfl (Qy.loadO 1 0 T.one3 rfl rfl (by assumption) (by omega) rfl rfl) ?_
  refine Gm.q 8 [] (by kernel_rfl) rfl rfl (Qy.fieldAddr T.fa128_2 rfl) ?_
  refine Gm.one 9 ⟨rfl, rfl, rfl, rfl, rfl, rfl, rfl, rfl, trivial⟩ (by first | exact Imm.le_refl _ | assumption) (by kernel_rfl) rfl ?_
  refine Wl.store 6 T.one3 rfl rfl rfl rfl rfl ?_
  refine Wl.on0 ?_
  refine Gm.doneA (by kernel_rfl) ⟨rfl, rfl, rfl, rfl, rfl, rfl, rfl, trivial⟩ (by first | exact Imm.le_refl _ | assumption) ?_
  refine Ar.next ?_
  refine Wc.seq ?_
  refine Wc.seq ?_
  refine Wc.region rfl ?_
  refine Wl.q rfl (Qy.fieldAddr T.fa34_0 rfl) ?_
  refine Wl.q rfl (Qy.load 4 T.one3 rfl rfl rfl) ?_
  refine Wl.q rfl (Qy.eql rfl rfl) ?_
  refine Wl.q rfl (Qy.move rfl) ?_
  apply Wl.joinAnd 6 35 41 rfl
  intro hg1
  refine Wl.want rfl rfl ?_
  refine Wl.q rfl (Qy.fieldAddr T.fa128_2 rfl) ?_
  refine Wl.want rfl rfl ?_
  refine Wl.q rfl (Qy.load 6 T.one3 rfl rfl rfl) ?_
  refine Wl.want rfl rfl ?_
  refine Wl.q rfl (Qy.fieldAddr T.fa128_1 rfl) ?_
  refine Wl.want rfl rfl ?_
  refine Wl.q rfl (Qy.load 6 T.one3 rfl rfl rfl) ?_
  refine Wl.want rfl rfl ?_
  refine Wl.q rfl (Qy.lss rfl rfl) ?_
  refine Wl.q rfl (Qy.pick rfl rfl) ?_
  exact Wl.back 6 0 rfl rfl rfl rfl rfl
  intro hg1
  refine Wl.pass rfl rfl rfl ?_
  refine Wl.pass rfl rfl rfl ?_
  refine Wl.pass rfl rfl rfl ?_
  refine Wl.pass rfl rfl rfl ?_
  refine Wl.pass rfl rfl rfl ?_
  refine Wl.q rfl (Qy.pick rfl rfl) ?_
  exact Wl.back 6 0 rfl rfl rfl rfl rfl
  refine Wl.done ?_
  refine Ar.next ?_
  refine Wc.cond rfl (fun hc2 => ?_) (fun hc2 => ?_)
  refine Wc.region rfl ?_
  refine Wl.q rfl (Qy.fieldAddr T.fa128_2 rfl) ?_
  refine Wl.q rfl (Qy.load 6 T.one3 rfl rfl rfl) ?_
  refine Wl.q rfl (Qy.fieldAddr T.fa128_1 rfl) ?_
  refine Wl.q rfl (Qy.load 6 T.one3 rfl rfl rfl) ?_
  refine Wl.q rfl (Qy.fieldAddr T.fa128_1 rfl) ?_
  refine Wl.store 6 T.one3 rfl rfl rfl rfl rfl ?_
  refine Wl.q rfl (Qy.fieldAddr T.fa128_2 rfl) ?_
  refine Wl.store 6 T.one3 rfl rfl rfl rfl rfl ?_
  refine Wl.done ?_
  refine Ar.next ?_
  refine Wc.seq ?_
  refine Wc.region rfl ?_
  refine Wl.q rfl (Qy.loadAll 6 T.agg128 rfl rfl rfl) ?_
  refine Wl.storeAll 5 T.size128 rfl rfl rfl rfl rfl rfl ?_
  refine Wl.done ?_
  refine Ar.next ?_
  refine Wc.ret ?_
  refine Ar.out1 (.inr rfl) (Ho := Hp.only _ [0, 1, 2, 3]) rfl (.agg 5 rfl rfl T.agg128) (Hp.sub_only _ _) ?_
  rotate_left
  refine Wc.skip ?_
  refine Ar.next ?_
  refine Wc.seq ?_
  refine Wc.region rfl ?_
  refine Wl.q rfl (Qy.loadAll 6 T.agg128 rfl rfl rfl) ?_
  refine Wl.storeAll 5 T.size128 rfl rfl rfl rfl rfl rfl ?_
  refine Wl.done ?_
  refine Ar.next ?_
  refine Wc.ret ?_
  refine Ar.out1 (.inr rfl) (Ho := Hp.only _ [0, 1, 2, 3]) rfl (.agg 5 rfl rfl T.agg128) (Hp.sub_only _ _) ?_
  rotate_left
  refine Wc.skip ?_
  refine Ar.next ?_
  refine Wc.seq ?_
  refine Wc.seq ?_
  refine Wc.region rfl ?_
  refine Wl.q rfl (Qy.fieldAddr T.fa34_0 rfl) ?_
  refine Wl.q rfl (Qy.load 4 T.one3 rfl rfl rfl) ?_
  refine Wl.q rfl (Qy.eql rfl rfl) ?_
  refine Wl.q rfl (Qy.move rfl) ?_
  refine Wl.no 35 rfl (by first | assumption | omega) ?_
  refine Wl.pass rfl rfl rfl ?_
  refine Wl.pass rfl rfl rfl ?_
  refine Wl.pass rfl rfl rfl ?_
  refine Wl.pass rfl rfl rfl ?_
  refine Wl.pass rfl rfl rfl ?_
  refine Wl.q rfl (Qy.pick rfl rfl) ?_
  refine Wl.done ?_
  refine Ar.next ?_
  refine Wc.condF rfl ?_
  refine Wc.skip ?_
  refine Ar.next ?_
  refine Wc.seq ?_
  refine Wc.region rfl ?_
  refine Wl.q rfl (Qy.loadAll 6 T.agg128 rfl rfl rfl) ?_
  refine Wl.storeAll 5 T.size128 rfl rfl rfl rfl rfl rfl ?_
  refine Wl.done ?_
  refine Ar.next ?_
  refine Wc.ret ?_
  refine Ar.out1 (.inr rfl) (Ho := Hp.only _ [0, 1, 2, 3]) rfl (.agg 5 rfl rfl T.agg128) (Hp.sub_only _ _) ?_
  rotate_left
  · refine ⟨?_, rfl, rfl⟩
    have h : keyOf t.held i = ⟨i.op, t.held[i.b.toNat]?.getD default, t.held[i.a.toNat]?.getD default, i.c⟩ := by
      unfold keyOf; rw [if_pos (by omega)]; exact if_pos hc2
    rw [h]; rfl
  · refine ⟨?_, rfl, rfl⟩
    have h : keyOf t.held i = ⟨i.op, t.held[i.a.toNat]?.getD default, t.held[i.b.toNat]?.getD default, i.c⟩ := by
      unfold keyOf; rw [if_pos (by omega)]; exact if_neg hc2
    rw [h]; rfl
  · refine ⟨?_, rfl, rfl⟩
    have h : keyOf t.held i = ⟨i.op, t.held[i.a.toNat]?.getD default, -1, i.c⟩ := by
      unfold keyOf; rw [if_neg (by omega)]
    rw [h]; rfl
/-- the value that an instruction reckons, the first that did; the table behind it -/
def reckonP (t : Tab) (n : Int) (i : Sl.Instr) : (Int × Int) × Tab :=
  if i.op = 1 then ((t.held[i.a.toNat]?.getD default, -1), t)
  else match mget t.known (keyOf t.held i) with
    | none => ((t.next, n), { t with known := t.known ++ [(keyOf t.held i, t.next)], first := t.first ++ [(keyOf t.held i, n)], next := t.next + 1 })
    | some v => ((v, (mget t.first (keyOf t.held i)).getD 0), t)
end Go.Proofs.Ytfleehgbpgmcnaa
namespace Go.Proofs.Ytfleehgbpgmcnaa
open Go Go.Sl
set_option maxRecDepth 100000
set_option maxHeartbeats 2000000
theorem mget_push {xs : List (K4 × Int)} {k : K4} {v : Int} (h : mget xs k = none) : mget (xs ++ [(k, v)]) k = some v := by
  rw [← mput_none xs k v h, mget_mput, if_pos rfl]
theorem c55 (G : Imm) (t : Tab) (bt bk bf : Nat) (a : Option Addr) (c : Nat) (junk : List Value) (n : Int) (i : Sl.Instr) (ho : OwnA a c t.held junk) (hl : t.held.length ≤ 128) (hm : mayOk i t.held.length = true)
    (hkf : ∀ k, mget t.known k = none → mget t.first k = none) (hn : 0 ≤ t.next ∧ t.next ≤ 1000000) :
    Does Try.prog 55 [.pointer (some ⟨bt, 0, none⟩), .int .i64 n, .agg (Cells.enc i).toArray] G (TabH t bt bk bf a c junk)
      (fun r G' Ho => r = .tuple #[.int .i64 (reckonP t n i).1.1, .int .i64 (reckonP t n i).1.2] ∧ G' = G ∧ Ho = TabH (reckonP t n i).2 bt bk bf a c junk) := by
  have hm' := hm
  rw [mayOk_iff] at hm'
  obtain ⟨⟨hop1, hop2, hto1, hto2, ha1, ha2⟩, -⟩ := hm'
  refine Does.enter Try.func55 rfl Try.ntmps55 rfl (fun w => ?_)
  rcases hk0 : mget t.known (keyOf t.held i) with _ | v
  · have hf0 := hkf _ hk0
    refine Wc.seq ?_
    refine Wc.region rfl ?_
    refine Wl.box 4 rfl rfl rfl (fun b1 => ?_)
    refine Wl.q rfl (Qy.assign rfl) ?_
    refine Wl.q rfl (Qy.assign rfl) ?_
    refine Wl.done ?_
    refine Ar.next ?_
    refine Wc.seq ?_
    refine Wc.seq ?_
    refine Wc.region rfl ?_
    refine Wl.q rfl (Qy.fieldAddr T.fa34_0 rfl) ?_
    refine Wl.q rfl (Qy.load 4 T.one3 rfl rfl rfl) ?_
    refine Wl.q rfl (Qy.eql rfl rfl) ?_
    refine Wl.done ?_
    refine Ar.next ?_
    refine Wc.cond rfl (fun hc1 => ?_) (fun hc1 => ?_)
    refine Wc.seq ?_
    refine Wc.draw [3, 2, 1, 0, 4] [] T.mixed rfl ?_
    refine Gm.q 0 [] (by kernel_rfl) rfl rfl (Qy.move rfl) ?_
    refine Gm.q 1 [] (by kernel_rfl) rfl rfl (Qy.nilCheck rfl) ?_
    refine Gm.q 2 [] (by kernel_rfl) rfl rfl (Qy.fieldAddr T.fa86_0 rfl) ?_
    refine Gm.q 3 [0] (by kernel_rfl) rfl rfl (Qy.load 0 T.one23 rfl rfl rfl) ?_
    refine Gm.q 4 [] (by kernel_rfl) rfl rfl (Qy.fieldAddr T.fa34_2 rfl) ?_
    refine Gm.q 5 [4] (by kernel_rfl) rfl rfl (Qy.load 4 T.one3 rfl rfl rfl) ?_
    refine Gm.q 6 [] (by kernel_rfl) rfl rfl (Qy.indexAddrO (α := Int) T.sl23 rfl rfl (by assumption) (by omega)) ?_
    refine Gm.q 7 [1, 0] (by kernel_rfl) rfl rfl (Qy.loadO 1 0 T.one3 rfl rfl (by assumption) (by omega) rfl rfl) ?_
    refine Gm.q 8 [] (by kernel_rfl) rfl rfl (Qy.assign rfl) ?_
    refine Gm.q 9 [] (by kernel_rfl) rfl rfl (Qy.assign rfl) ?_
    refine Gm.doneA (by kernel_rfl) ⟨rfl, rfl, rfl, rfl, rfl, trivial⟩ (by first | exact Imm.le_refl _ | assumption) ?_
    refine Ar.next ?_
    refine Wc.ret ?_
    refine Ar.passRet ?_
    refine Ar.out2 (.inr rfl) (Ho := Hp.only _ [0, 1, 2, 3]) rfl (.tmp rfl) (.tmp rfl) (Hp.sub_only _ _) ?_
    rotate_left
    refine Wc.skip ?_
    refine Ar.next ?_
    refine Wc.seq ?_
    refine Wc.region rfl ?_
    refine Wl.q rfl (Qy.move rfl) ?_
    refine Wl.q rfl (Qy.loadAll 4 T.agg34 rfl rfl rfl) ?_
    refine Wl.call1 0 rfl T.fn83 rfl (c83 _ _ _ _ _ _ _ _ _ (by assumption) (by omega) (by assumption)) (tags_of ⟨rfl, rfl, rfl, rfl, trivial⟩) ?_
    refine Wl.alloc 5 rfl T.zero128 (fun b2 => ?_)
    refine Wl.storeAll 5 T.size128 rfl rfl rfl rfl rfl rfl ?_
    refine Wl.done ?_
    refine Ar.next ?_
    refine Wc.seq ?_
    refine Wc.seq ?_
    refine Wc.draw [3, 2, 1, 0, 4, 5] [] T.mixed rfl ?_
    refine Gm.q 0 [] (by kernel_rfl) rfl rfl (Qy.move rfl) ?_
    refine Gm.q 1 [] (by kernel_rfl) rfl rfl (Qy.nilCheck rfl) ?_
    refine Gm.q 2 [] (by kernel_rfl) rfl rfl (Qy.fieldAddr T.fa86_1 rfl) ?_
    refine Gm.q 3 [0] (by kernel_rfl) rfl rfl (Qy.load 0 T.one84 rfl rfl rfl) ?_
    refine Gm.q 4 [5] (by kernel_rfl) rfl rfl (Qy.loadAll 5 T.agg128 rfl rfl rfl) ?_
    refine Gm.q 5 [2] (by kernel_rfl) rfl rfl (Qy.lookup2 2 T.mp84 rfl rfl rfl) ?_
    refine Gm.q 6 [] (by kernel_rfl) rfl rfl (Qy.move rfl) ?_
    refine Gm.q 7 [] (by kernel_rfl) rfl rfl (Qy.extract rfl rfl) ?_
    refine Gm.q 8 [] (by kernel_rfl) rfl rfl (Qy.extract rfl rfl) ?_
    refine Gm.q 9 [] (by kernel_rfl) rfl rfl (Qy.assign rfl) ?_
    refine Gm.q 10 [] (by kernel_rfl) rfl rfl (Qy.assign rfl) ?_
    refine Gm.doneA (by kernel_rfl) ⟨rfl, rfl, rfl, rfl, rfl, rfl, trivial⟩ (by first | exact Imm.le_refl _ | assumption) ?_
    refine Ar.next ?_
    refine Wc.seq ?_
    refine Wc.region rfl ?_
    refine Wl.q rfl (Qy.move rfl) ?_
    refine Wl.q rfl (Qy.not rfl) ?_
    refine Wl.done ?_
    refine Ar.next ?_
    refine Wc.ite rfl (fun hc2 => ?_) (fun hc2 => ?_)
    refine Wc.seq ?_
    refine Wc.draw [3, 2, 1, 0, 4, 5] [(2, 20), (3, 20), (2, 18), (3, 18), (2, 17), (3, 17), (2, 15), (3, 15)] T.mixed rfl ?_
    refine Gm.q 0 [] (by kernel_rfl) rfl rfl (Qy.move rfl) ?_
    refine Gm.q 1 [] (by kernel_rfl) rfl rfl (Qy.nilCheck rfl) ?_
    refine Gm.q 2 [] (by kernel_rfl) rfl rfl (Qy.fieldAddr T.fa86_1 rfl) ?_
    refine Gm.q 3 [0] (by kernel_rfl) rfl rfl (Qy.load 0 T.one84 rfl rfl rfl) ?_
    refine Gm.q 4 [5] (by kernel_rfl) rfl rfl (Qy.loadAll 5 T.agg128 rfl rfl rfl) ?_
    refine Gm.q 5 [] (by kernel_rfl) rfl rfl (Qy.move rfl) ?_
    refine Gm.q 6 [] (by kernel_rfl) rfl rfl (Qy.nilCheck rfl) ?_
    refine Gm.q 7 [] (by kernel_rfl) rfl rfl (Qy.fieldAddr T.fa86_2 rfl) ?_
    refine Gm.q 8 [0] (by kernel_rfl) rfl rfl (Qy.load 0 T.one84 rfl rfl rfl) ?_
    refine Gm.q 9 [5] (by kernel_rfl) rfl rfl (Qy.loadAll 5 T.agg128 rfl rfl rfl) ?_
    refine Gm.q 10 [] (by kernel_rfl) rfl rfl (Qy.move rfl) ?_
    refine Gm.q 11 [] (by kernel_rfl) rfl rfl (Qy.nilCheck rfl) ?_
    refine Gm.q 12 [] (by kernel_rfl) rfl rfl (Qy.fieldAddr T.fa86_3 rfl) ?_
    refine Gm.q 13 [0] (by kernel_rfl) rfl rfl (Qy.load 0 T.one3 rfl rfl rfl) ?_
    refine Gm.q 14 [] (by kernel_rfl) rfl rfl (Qy.move rfl) ?_
    refine Gm.one 15 ⟨rfl, rfl, rfl, rfl, rfl, rfl, trivial⟩ (by first | exact Imm.le_refl _ | assumption) (by kernel_rfl) rfl ?_
    refine Wl.mapEntry 2 rfl T.mp84 rfl rfl rfl (by assumption) ?_
    refine Wl.on0 ?_
    refine Gm.q 16 [] (by kernel_rfl) rfl rfl (Qy.extract rfl rfl) ?_
    refine Gm.one 17 ⟨rfl, rfl, rfl, rfl, trivial⟩ (by first | exact Imm.le_refl _ | assumption) (by kernel_rfl) rfl ?_
    refine Wl.entryStore 2 rfl rfl rfl rfl ?_
    refine Wl.on0 ?_
    refine Gm.one 18 ⟨rfl, rfl, rfl, rfl, trivial⟩ (by first | exact Imm.le_refl _ | assumption) (by kernel_rfl) rfl ?_
    refine Wl.mapEntry 3 rfl T.mp84 rfl rfl rfl (by assumption) ?_
    refine Wl.on0 ?_
    refine Gm.q 19 [] (by kernel_rfl) rfl rfl (Qy.extract rfl rfl) ?_
    refine Gm.one 20 ⟨rfl, rfl, rfl, rfl, trivial⟩ (by first | exact Imm.le_refl _ | assumption) (by kernel_rfl) rfl ?_
    refine Wl.entryStore 3 rfl rfl rfl rfl ?_
    refine Wl.on0 ?_
    refine Gm.doneA (by kernel_rfl) ⟨rfl, rfl, rfl, rfl, trivial⟩ (by first | exact Imm.le_refl _ | assumption) ?_
    refine Ar.next ?_
    refine Wc.region rfl ?_
    refine Wl.q rfl (Qy.move rfl) ?_
    refine Wl.q rfl (Qy.nilCheck rfl) ?_
    refine Wl.q rfl (Qy.fieldAddr T.fa86_3 rfl) ?_
    refine Wl.q rfl (Qy.load 0 T.one3 rfl rfl rfl) ?_
    refine Wl.q rfl (Qy.add rfl rfl (by omega)) ?_
    refine Wl.q rfl (Qy.nilCheck rfl) ?_
    refine Wl.q rfl (Qy.fieldAddr T.fa86_3 rfl) ?_
    refine Wl.store 0 T.one3 rfl rfl rfl rfl rfl ?_
    refine Wl.done ?_
    refine Ar.next ?_
    refine Wc.seq ?_
    refine Wc.draw [1, 4, 5, 2, 3, 0] [] T.mixed rfl ?_
    refine Gm.q 0 [] (by kernel_rfl) rfl rfl (Qy.move rfl) ?_
    refine Gm.q 1 [] (by kernel_rfl) rfl rfl (Qy.nilCheck rfl) ?_
    refine Gm.q 2 [] (by kernel_rfl) rfl rfl (Qy.fieldAddr T.fa86_1 rfl) ?_
    refine Gm.q 3 [0] (by kernel_rfl) rfl rfl (Qy.load 0 T.one84 rfl rfl rfl) ?_
    refine Gm.q 4 [5] (by kernel_rfl) rfl rfl (Qy.loadAll 5 T.agg128 rfl rfl rfl) ?_
    refine Gm.q 5 [2] (by kernel_rfl) rfl rfl (Qy.lookup1 2 T.mp84 rfl rfl rfl) ?_
    refine Gm.q 6 [] (by kernel_rfl) rfl rfl (Qy.move rfl) ?_
    refine Gm.q 7 [] (by kernel_rfl) rfl rfl (Qy.nilCheck rfl) ?_
    refine Gm.q 8 [] (by kernel_rfl) rfl rfl (Qy.fieldAddr T.fa86_2 rfl) ?_
    refine Gm.q 9 [0] (by kernel_rfl) rfl rfl (Qy.load 0 T.one84 rfl rfl rfl) ?_
    refine Gm.q 10 [5] (by kernel_rfl) rfl rfl (Qy.loadAll 5 T.agg128 rfl rfl rfl) ?_
    refine Gm.q 11 [3] (by kernel_rfl) rfl rfl (Qy.lookup1 3 T.mp84 rfl rfl rfl) ?_
    refine Gm.q 12 [] (by kernel_rfl) rfl rfl (Qy.assign rfl) ?_
    refine Gm.q 13 [] (by kernel_rfl) rfl rfl (Qy.assign rfl) ?_
    refine Gm.doneA (by kernel_rfl) ⟨rfl, rfl, rfl, rfl, rfl, rfl, trivial⟩ (by first | exact Imm.le_refl _ | assumption) ?_
    refine Ar.next ?_
    refine Wc.ret ?_
    refine Ar.out2 (.inr rfl) (Ho := Hp.only _ [0, 1, 2, 3]) rfl (.tmp rfl) (.tmp rfl) (Hp.sub_only _ _) ?_
    rotate_left
    refine Wc.skip ?_
    refine Ar.next ?_
    refine Wc.seq ?_
    refine Wc.draw [3, 2, 1, 0, 4, 5] [] T.mixed rfl ?_
    refine Gm.q 0 [] (by kernel_rfl) rfl rfl (Qy.move rfl) ?_
    refine Gm.q 1 [] (by kernel_rfl) rfl rfl (Qy.nilCheck rfl) ?_
    refine Gm.q 2 [] (by kernel_rfl) rfl rfl (Qy.fieldAddr T.fa86_1 rfl) ?_
    refine Gm.q 3 [0] (by kernel_rfl) rfl rfl (Qy.load 0 T.one84 rfl rfl rfl) ?_
    refine Gm.q 4 [5] (by kernel_rfl) rfl rfl (Qy.loadAll 5 T.agg128 rfl rfl rfl) ?_
    refine Gm.q 5 [2] (by kernel_rfl) rfl rfl (Qy.lookup1 2 T.mp84 rfl rfl rfl) ?_
    refine Gm.q 6 [] (by kernel_rfl) rfl rfl (Qy.move rfl) ?_
    refine Gm.q 7 [] (by kernel_rfl) rfl rfl (Qy.nilCheck rfl) ?_
    refine Gm.q 8 [] (by kernel_rfl) rfl rfl (Qy.fieldAddr T.fa86_2 rfl) ?_
    refine Gm.q 9 [0] (by kernel_rfl) rfl rfl (Qy.load 0 T.one84 rfl rfl rfl) ?_
    refine Gm.q 10 [5] (by kernel_rfl) rfl rfl (Qy.loadAll 5 T.agg128 rfl rfl rfl) ?_
    refine Gm.q 11 [3] (by kernel_rfl) rfl rfl (Qy.lookup1 3 T.mp84 rfl rfl rfl) ?_
    refine Gm.q 12 [] (by kernel_rfl) rfl rfl (Qy.assign rfl) ?_
    refine Gm.q 13 [] (by kernel_rfl) rfl rfl (Qy.assign rfl) ?_
    refine Gm.doneA (by kernel_rfl) ⟨rfl, rfl, rfl, rfl, rfl, rfl, trivial⟩ (by first | exact Imm.le_refl _ | assumption) ?_
    refine Ar.next ?_
    refine Wc.ret ?_
    refine Ar.out2 (.inr rfl) (Ho := Hp.only _ [0, 1, 2, 3]) rfl (.tmp rfl) (.tmp rfl) (Hp.sub_only _ _) ?_
    rotate_left
    · have h : reckonP t n i = ((t.held[i.a.toNat]?.getD default, -1), t) := by unfold reckonP; rw [if_pos hc1]
      rw [h]; exact ⟨rfl, rfl, rfl⟩
    · have h : reckonP t n i = ((t.next, n), { t with known := t.known ++ [(keyOf t.held i, t.next)], first := t.first ++ [(keyOf t.held i, n)], next := t.next + 1 }) := by unfold reckonP; rw [if_neg hc1, hk0]
      rw [h, mget_push hk0, mget_push hf0]; exact ⟨rfl, rfl, rfl⟩
    · rw [hk0] at hc2; cases hc2
  · refine Wc.seq ?_
    refine Wc.region rfl ?_
    refine Wl.box 4 rfl rfl rfl (fun b1 => ?_)
    refine Wl.q rfl (Qy.assign rfl) ?_
    refine Wl.q rfl (Qy.assign rfl) ?_
    refine Wl.done ?_
    refine Ar.next ?_
    refine Wc.seq ?_
    refine Wc.seq ?_
    refine Wc.region rfl ?_
    refine Wl.q rfl (Qy.fieldAddr T.fa34_0 rfl) ?_
    refine Wl.q rfl (Qy.load 4 T.one3 rfl rfl rfl) ?_
    refine Wl.q rfl (Qy.eql rfl rfl) ?_
    refine Wl.done ?_
    refine Ar.next ?_
    refine Wc.cond rfl (fun hc1 => ?_) (fun hc1 => ?_)
    refine Wc.seq ?_
    refine Wc.draw [3, 2, 1, 0, 4] [] T.mixed rfl ?_
    refine Gm.q 0 [] (by kernel_rfl) rfl rfl (Qy.move rfl) ?_
    refine Gm.q 1 [] (by kernel_rfl) rfl rfl (Qy.nilCheck rfl) ?_
    refine Gm.q 2 [] (by kernel_rfl) rfl rfl (Qy.fieldAddr T.fa86_0 rfl) ?_
    refine Gm.q 3 [0] (by kernel_rfl) rfl rfl (Qy.load 0 T.one23 rfl rfl rfl) ?_
    refine Gm.q 4 [] (by kernel_rfl) rfl rfl (Qy.fieldAddr T.fa34_2 rfl) ?_
    refine Gm.q 5 [4] (by kernel_rfl) rfl rfl (Qy.load 4 T.one3 rfl rfl rfl) ?_
    refine Gm.q 6 [] (by kernel_rfl) rfl rfl (Qy.indexAddrO (α := Int) T.sl23 rfl rfl (by assumption) (by omega)) ?_
    refine Gm.q 7 [1, 0] (by kernel_rfl) rfl rfl (Qy.loadO 1 0 T.one3 rfl rfl (by assumption) (by omega) rfl rfl) ?_
    refine Gm.q 8 [] (by kernel_rfl) rfl rfl (Qy.assign rfl) ?_
    refine Gm.q 9 [] (by kernel_rfl) rfl rfl (Qy.assign rfl) ?_
    refine Gm.doneA (by kernel_rfl) ⟨rfl, rfl, rfl, rfl, rfl, trivial⟩ (by first | exact Imm.le_refl _ | assumption) ?_
    refine Ar.next ?_
    refine Wc.ret ?_
    refine Ar.passRet ?_
    refine Ar.out2 (.inr rfl) (Ho := Hp.only _ [0, 1, 2, 3]) rfl (.tmp rfl) (.tmp rfl) (Hp.sub_only _ _) ?_
    rotate_left
    refine Wc.skip ?_
    refine Ar.next ?_
    refine Wc.seq ?_
    refine Wc.region rfl ?_
    refine Wl.q rfl (Qy.move rfl) ?_
    refine Wl.q rfl (Qy.loadAll 4 T.agg34 rfl rfl rfl) ?_
    refine Wl.call1 0 rfl T.fn83 rfl (c83 _ _ _ _ _ _ _ _ _ (by assumption) (by omega) (by assumption)) (tags_of ⟨rfl, rfl, rfl, rfl, trivial⟩) ?_
    refine Wl.alloc 5 rfl T.zero128 (fun b2 => ?_)
    refine Wl.storeAll 5 T.size128 rfl rfl rfl rfl rfl rfl ?_
    refine Wl.done ?_
    refine Ar.next ?_
    refine Wc.seq ?_
    refine Wc.seq ?_
    refine Wc.draw [3, 2, 1, 0, 4, 5] [] T.mixed rfl ?_
    refine Gm.q 0 [] (by kernel_rfl) rfl rfl (Qy.move rfl) ?_
    refine Gm.q 1 [] (by kernel_rfl) rfl rfl (Qy.nilCheck rfl) ?_
    refine Gm.q 2 [] (by kernel_rfl) rfl rfl (Qy.fieldAddr T.fa86_1 rfl) ?_
    refine Gm.q 3 [0] (by kernel_rfl) rfl rfl (Qy.load 0 T.one84 rfl rfl rfl) ?_
    refine Gm.q 4 [5] (by kernel_rfl) rfl rfl (Qy.loadAll 5 T.agg128 rfl rfl rfl) ?_
    refine Gm.q 5 [2] (by kernel_rfl) rfl rfl (Qy.lookup2 2 T.mp84 rfl rfl rfl) ?_
    refine Gm.q 6 [] (by kernel_rfl) rfl rfl (Qy.move rfl) ?_
    refine Gm.q 7 [] (by kernel_rfl) rfl rfl (Qy.extract rfl rfl) ?_
    refine Gm.q 8 [] (by kernel_rfl) rfl rfl (Qy.extract rfl rfl) ?_
    refine Gm.q 9 [] (by kernel_rfl) rfl rfl (Qy.assign rfl) ?_
    refine Gm.q 10 [] (by kernel_rfl) rfl rfl (Qy.assign rfl) ?_
    refine Gm.doneA (by kernel_rfl) ⟨rfl, rfl, rfl, rfl, rfl, rfl, trivial⟩ (by first | exact Imm.le_refl _ | assumption) ?_
    refine Ar.next ?_
    refine Wc.seq ?_
    refine Wc.region rfl ?_
    refine Wl.q rfl (Qy.move rfl) ?_
    refine Wl.q rfl (Qy.not rfl) ?_
    refine Wl.done ?_
    refine Ar.next ?_
    refine Wc.ite rfl (fun hc2 => ?_) (fun hc2 => ?_)
    refine Wc.seq ?_
    refine Wc.draw [3, 2, 1, 0, 4, 5] [(2, 20), (3, 20), (2, 18), (3, 18), (2, 17), (3, 17), (2, 15), (3, 15)] T.mixed rfl ?_
    refine Gm.q 0 [] (by kernel_rfl) rfl rfl (Qy.move rfl) ?_
    refine Gm.q 1 [] (by kernel_rfl) rfl rfl (Qy.nilCheck rfl) ?_
    refine Gm.q 2 [] (by kernel_rfl) rfl rfl (Qy.fieldAddr T.fa86_1 rfl) ?_
    refine Gm.q 3 [0] (by kernel_rfl) rfl rfl (Qy.load 0 T.one84 rfl rfl rfl) ?_
    refine Gm.q 4 [5] (by kernel_rfl) rfl rfl (Qy.loadAll 5 T.agg128 rfl rfl rfl) ?_
    refine Gm.q 5 [] (by kernel_rfl) rfl rfl (Qy.move rfl) ?_
    refine Gm.q 6 [] (by kernel_rfl) rfl rfl (Qy.nilCheck rfl) ?_
    refine Gm.q 7 [] (by kernel_rfl) rfl rfl (Qy.fieldAddr T.fa86_2 rfl) ?_
    refine Gm.q 8 [0] (by kernel_rfl) rfl rfl (Qy.load 0 T.one84 rfl rfl rfl) ?_
    refine Gm.q 9 [5] (by kernel_rfl) rfl rfl (Qy.loadAll 5 T.agg128 rfl rfl rfl) ?_
    refine Gm.q 10 [] (by kernel_rfl) rfl rfl (Qy.move rfl) ?_
    refine Gm.q 11 [] (by kernel_rfl) rfl rfl (Qy.nilCheck rfl) ?_
    refine Gm.q 12 [] (by kernel_rfl) rfl rfl (Qy.fieldAddr T.fa86_3 rfl) ?_
    refine Gm.q 13 [0] (by kernel_rfl) rfl rfl (Qy.load 0 T.one3 rfl rfl rfl) ?_
    refine Gm.q 14 [] (by kernel_rfl) rfl rfl (Qy.move rfl) ?_
    refine Gm.one 15 ⟨rfl, rfl, rfl, rfl, rfl, rfl, trivial⟩ (by first | exact Imm.le_refl _ | assumption) (by kernel_rfl) rfl ?_
    rotate_left
    refine Wc.skip ?_
    refine Ar.next ?_
    refine Wc.seq ?_
    refine Wc.draw [3, 2, 1, 0, 4, 5] [] T.mixed rfl ?_
    refine Gm.q 0 [] (by kernel_rfl) rfl rfl (Qy.move rfl) ?_
    refine Gm.q 1 [] (by kernel_rfl) rfl rfl (Qy.nilCheck rfl) ?_
    refine Gm.q 2 [] (by kernel_rfl) rfl rfl (Qy.fieldAddr T.fa86_1 rfl) ?_
    refine Gm.q 3 [0] (by kernel_rfl) rfl rfl (Qy.load 0 T.one84 rfl rfl rfl) ?_
    refine Gm.q 4 [5] (by kernel_rfl) rfl rfl (Qy.loadAll 5 T.agg128 rfl rfl rfl) ?_
    refine Gm.q 5 [2] (by kernel_rfl) rfl rfl (Qy.lookup1 2 T.mp84 rfl rfl rfl) ?_
    refine Gm.q 6 [] (by kernel_rfl) rfl rfl (Qy.move rfl) ?_
    refine Gm.q 7 [] (by kernel_rfl) rfl rfl (Qy.nilCheck rfl) ?_
    refine Gm.q 8 [] (by kernel_rfl) rfl rfl (Qy.fieldAddr T.fa86_2 rfl) ?_
    refine Gm.q 9 [0] (by kernel_rfl) rfl rfl (Qy.load 0 T.one84 rfl rfl rfl) ?_
    refine Gm.q 10 [5] (by kernel_rfl) rfl rfl (Qy.loadAll 5 T.agg128 rfl rfl rfl) ?_
    refine Gm.q 11 [3] (by kernel_rfl) rfl rfl (Qy.lookup1 3 T.mp84 rfl rfl rfl) ?_
    refine Gm.q 12 [] (by kernel_rfl) rfl rfl (Qy.assign rfl) ?_
    refine Gm.q 13 [] (by kernel_rfl) rfl rfl (Qy.assign rfl) ?_
    refine Gm.doneA (by kernel_rfl) ⟨rfl, rfl, rfl, rfl, rfl, rfl, trivial⟩ (by first | exact Imm.le_refl _ | assumption) ?_
    refine Ar.next ?_
    refine Wc.ret ?_
    refine Ar.out2 (.inr rfl) (Ho := Hp.only _ [0, 1, 2, 3]) rfl (.tmp rfl) (.tmp rfl) (Hp.sub_only _ _) ?_
    rotate_left
    · have h : reckonP t n i = ((t.held[i.a.toNat]?.getD default, -1), t) := by unfold reckonP; rw [if_pos hc1]
      rw [h]; exact ⟨rfl, rfl, rfl⟩
    · rw [hk0] at hc2; cases hc2
    · have h : reckonP t n i = ((v, (mget t.first (keyOf t.held i)).getD 0), t) := by unfold reckonP; rw [if_neg hc1, hk0]
      rw [h, hk0]; exact ⟨rfl, rfl, rfl⟩
/-- an instruction that asks the first holders -/
def askedP (held : List Int) (i : Sl.Instr) : Sl.Instr :=
  { i with a := holder held (held[i.a.toNat]?.getD default), b := if i.op = 3 ∨ i.op = 4 then holder held (held[i.b.toNat]?.getD default) else i.b }
theorem c56 (G : Imm) (t : Tab) (bt bk bf : Nat) (a : Option Addr) (c : Nat) (junk : List Value) (i : Sl.Instr) (ho : OwnA a c t.held junk) (hl : t.held.length ≤ 128) (hm : mayOk i t.held.length = true) :
    Does Try.prog 56 [.pointer (some ⟨bt, 0, none⟩), .agg (Cells.enc i).toArray] G (TabH t bt bk bf a c junk) (fun r G' Ho => r = .agg (Cells.enc (askedP t.held i)).toArray ∧ G' = G ∧ Ho = TabH t bt bk bf a c junk) := by
  rw [mayOk_iff] at hm
  obtain ⟨⟨hop1, hop2, hto1, hto2, ha1, ha2⟩, hb⟩ := hm
  have hb : i.op = 3 ∨ i.op = 4 → 0 ≤ i.b ∧ i.b < t.held.length := fun h => by rw [if_pos h] at hb; omega
  have two := asks_two i
  refine Does.enter Try.func56 rfl Try.ntmps56 rfl (fun w => ?_)
  refine Wc.seq ?_
  refine Wc.region rfl ?_
  refine Wl.box 4 rfl rfl rfl (fun b1 => ?_)
  refine Wl.alloc 5 rfl T.zero34 (fun b2 => ?_)
  refine Wl.done ?_
  refine Ar.next ?_
  refine Wc.seq ?_
  refine Wc.region rfl ?_
  refine Wl.q rfl (Qy.loadAll 4 T.agg34 rfl rfl rfl) ?_
  refine Wl.call 6 rfl T.fn70 rfl (c70 _ _) (tags_of trivial) (fun v1 G1 Ho1 hle1 hp => ?_)
  obtain ⟨ad1, cd1, junk1, rfl, hoa1, rfl, rfl⟩ := hp
  refine Wl.q rfl (Qy.len T.sl23 rfl) ?_
  refine Wl.q rfl (Qy.gtr rfl rfl) ?_
  refine Wl.q rfl (Qy.assign rfl) ?_
  refine Wl.done ?_
  refine Ar.next ?_
  refine Wc.seq ?_
  refine Wc.draw [3, 2, 1, 0, 4, 5, 7] [(4, 11)] T.mixed rfl ?_
  refine Gm.q 0 [] (by kernel_rfl) rfl rfl (Qy.move rfl) ?_
  refine Gm.q 1 [] (by kernel_rfl) rfl rfl (Qy.move rfl) ?_
  refine Gm.q 2 [] (by kernel_rfl) rfl rfl (Qy.nilCheck rfl) ?_
  refine Gm.q 3 [] (by kernel_rfl) rfl rfl (Qy.fieldAddr T.fa86_0 rfl) ?_
  refine Gm.q 4 [0] (by kernel_rfl) rfl rfl (Qy.load 0 T.one23 rfl rfl rfl) ?_
  refine Gm.q 5 [] (by kernel_rfl) rfl rfl (Qy.fieldAddr T.fa34_2 rfl) ?_
  refine Gm.q 6 [4] (by kernel_rfl) rfl rfl (Qy.load 4 T.one3 rfl rfl rfl) ?_
  refine Gm.q 7 [] (by kernel_rfl) rfl rfl (Qy.indexAddrO (α := Int) T.sl23 rfl rfl (by assumption) (by omega)) ?_
  refine Gm.q 8 [1, 0] (by kernel_rfl) rfl rfl (Qy.loadO 1 0 T.one3 rfl rfl (by assumption) (by omega) rfl rfl) ?_
  refine Gm.one 9 ⟨rfl, rfl, rfl, rfl, rfl, rfl, rfl, trivial⟩ (by first | exact Imm.le_refl _ | assumption) (by kernel_rfl) rfl ?_
  refine Wl.call1 0 rfl T.fn57 rfl (c57 _ _ _ _ _ _ _ _ _ (by assumption) (by omega)) (tags_of ⟨rfl, rfl, rfl, rfl, trivial⟩) ?_
  refine Wl.on0 ?_
  refine Gm.q 10 [] (by kernel_rfl) rfl rfl (Qy.fieldAddr T.fa34_2 rfl) ?_
  refine Gm.one 11 ⟨rfl, rfl, rfl, rfl, rfl, rfl, rfl, trivial⟩ (by first | exact Imm.le_refl _ | assumption) (by kernel_rfl) rfl ?_
  refine Wl.store 4 T.one3 rfl rfl rfl rfl rfl ?_
  refine Wl.on0 ?_
  refine Gm.doneA (by kernel_rfl) ⟨rfl, rfl, rfl, rfl, rfl, rfl, trivial⟩ (by first | exact Imm.le_refl _ | assumption) ?_
  refine Ar.next ?_
  refine Wc.seq ?_
  refine Wc.seq ?_
  refine Wc.region rfl ?_
  refine Wl.q rfl (Qy.move rfl) ?_
  refine Wl.done ?_
  refine Ar.next ?_
  refine Wc.cond rfl (fun hc1 => ?_) (fun hc1 => ?_)
  refine Wc.draw [3, 2, 1, 0, 5, 7, 4] [(4, 11)] T.mixed rfl ?_
  refine Gm.q 0 [] (by kernel_rfl) rfl rfl (Qy.move rfl) ?_
  refine Gm.q 1 [] (by kernel_rfl) rfl rfl (Qy.move rfl) ?_
  refine Gm.q 2 [] (by kernel_rfl) rfl rfl (Qy.nilCheck rfl) ?_
  refine Gm.q 3 [] (by kernel_rfl) rfl rfl (Qy.fieldAddr T.fa86_0 rfl) ?_
  refine Gm.q 4 [0] (by kernel_rfl) rfl rfl (Qy.load 0 T.one23 rfl rfl rfl) ?_
  refine Gm.q 5 [] (by kernel_rfl) rfl rfl (Qy.fieldAddr T.fa34_3 rfl) ?_
  refine Gm.q 6 [4] (by kernel_rfl) rfl rfl (Qy.load 4 T.one3 rfl rfl rfl) ?_
  refine Gm.q 7 [] (by kernel_rfl) rfl rfl (Qy.indexAddrO (α := Int) T.sl23 rfl rfl (by assumption) (by omega)) ?_
  refine Gm.q 8 [1, 0] (by kernel_rfl) rfl rfl (Qy.loadO 1 0 T.one3 rfl rfl (by assumption) (by omega) rfl rfl) ?_
  refine Gm.one 9 ⟨rfl, rfl, rfl, rfl, rfl, rfl, rfl, trivial⟩ (by first | exact Imm.le_refl _ | assumption) (by kernel_rfl) rfl ?_
  refine Wl.call1 0 rfl T.fn57 rfl (c57 _ _ _ _ _ _ _ _ _ (by assumption) (by omega)) (tags_of ⟨rfl, rfl, rfl, rfl, trivial⟩) ?_
  refine Wl.on0 ?_
  refine Gm.q 10 [] (by kernel_rfl) rfl rfl (Qy.fieldAddr T.fa34_3 rfl) ?_
  refine Gm.one 11 ⟨rfl, rfl, rfl, rfl, rfl, rfl, rfl, trivial⟩ (by first | exact Imm.le_refl _ | assumption) (by kernel_rfl) rfl ?_
  refine Wl.store 4 T.one3 rfl rfl rfl rfl rfl ?_
  refine Wl.on0 ?_
  refine Gm.doneA (by kernel_rfl) ⟨rfl, rfl, rfl, rfl, rfl, rfl, trivial⟩ (by first | exact Imm.le_refl _ | assumption) ?_
  refine Ar.next ?_
  refine Wc.seq ?_
  refine Wc.region rfl ?_
  refine Wl.q rfl (Qy.loadAll 4 T.agg34 rfl rfl rfl) ?_
  refine Wl.storeAll 5 T.size34 rfl rfl rfl rfl rfl rfl ?_
  refine Wl.done ?_
  refine Ar.next ?_
  refine Wc.ret ?_
  refine Ar.out1 (.inr rfl) (Ho := Hp.only _ [0, 1, 2, 3]) rfl (.agg 5 rfl rfl T.agg34) (Hp.sub_only _ _) ?_
  rotate_left
  refine Wc.skip ?_
  refine Ar.next ?_
  refine Wc.seq ?_
  refine Wc.region rfl ?_
  refine Wl.q rfl (Qy.loadAll 4 T.agg34 rfl rfl rfl) ?_
  refine Wl.storeAll 5 T.size34 rfl rfl rfl rfl rfl rfl ?_
  refine Wl.done ?_
  refine Ar.next ?_
  refine Wc.ret ?_
  refine Ar.out1 (.inr rfl) (Ho := Hp.only _ [0, 1, 2, 3]) rfl (.agg 5 rfl rfl T.agg34) (Hp.sub_only _ _) ?_
  rotate_left
  · refine ⟨?_, rfl, rfl⟩
    have h : askedP t.held i = ⟨i.op, i.to, holder t.held (t.held[i.a.toNat]?.getD default), holder t.held (t.held[i.b.toNat]?.getD default), i.c⟩ := by
      unfold askedP; rw [if_pos (by omega)]
    rw [h]; rfl
  · refine ⟨?_, rfl, rfl⟩
    have h : askedP t.held i = ⟨i.op, i.to, holder t.held (t.held[i.a.toNat]?.getD default), i.b, i.c⟩ := by
      unfold askedP; rw [if_neg (by omega)]
    rw [h]; rfl
end Go.Proofs.Ytfleehgbpgmcnaa
namespace Go.Proofs.Ytfleehgbpgmcnaa
open Go Go.Sl
set_option maxRecDepth 100000
set_option maxHeartbeats 2000000
/-- the pass, one instruction: the table, what comes out -/
def passStep (s : Tab × List Sl.Instr) (n : Int) (i : Sl.Instr) : Tab × List Sl.Instr :=
  let v := (reckonP s.1 n i).1.1
  let t := (reckonP s.1 n i).2
  let j := askedP t.held i
  if t.held[i.to.toNat]?.getD default = v then (t, s.2)
  else ({ t with held := t.held.set i.to.toNat v }, s.2 ++ [if 0 ≤ holder t.held v then ⟨1, j.to, holder t.held v, 0, 0⟩ else j])
def passTo (p : PV) : Nat → Tab × List Sl.Instr
  | 0 => (⟨start p, [], [], p.ins + 1⟩, [])
  | k + 1 => passStep (passTo p k) k (p.code[((k : Nat) : Int).toNat]?.getD default)
def passOuts (p : PV) (held : List Int) : List Int := p.outs.map fun r => holder held (held[r.toNat]?.getD default)
def passP (p : PV) : PV := ⟨p.ins, p.regs, (passTo p p.code.length).2, passOuts p (passTo p p.code.length).1.held⟩
theorem right_facts {p : PV} (h : rightP p = true) : 1 ≤ p.ins ∧ p.ins ≤ p.regs ∧ p.regs ≤ 128 ∧ p.code.length ≤ 16384 ∧ 1 ≤ p.outs.length ∧ p.outs.length ≤ 128 ∧ (∀ r ∈ p.outs, 0 ≤ r ∧ r < p.regs) ∧ (∀ i ∈ p.code, mayOk i p.regs = true) := by
  unfold rightP checkP at h
  by_cases hh : headOk p = false
  · rw [if_pos hh] at h; cases h
  · rw [if_neg hh] at h
    have hb : badAt p = none := by
      cases hb : badAt p with
      | none => rfl
      | some k => rw [hb] at h; cases h
    have hh' : headOk p = true := by simpa using hh
    unfold headOk at hh'
    rw [Bool.and_eq_true, decide_eq_true_eq, List.all_eq_true] at hh'
    unfold badAt at hb
    rw [List.findIdx?_eq_none_iff] at hb
    obtain ⟨⟨g1, g2, g3, g4, g5, g6⟩, g7⟩ := hh'
    refine ⟨g1, g2, g3, g4, g5, g6, fun r hr => ?_, fun i hi => ?_⟩
    · have := g7 r hr; rw [decide_eq_true_eq] at this; exact this
    · simpa using hb i hi
theorem reckon_held (t : Tab) (n : Int) (i : Sl.Instr) : (reckonP t n i).2.held = t.held := by
  unfold reckonP; split
  · rfl
  · split <;> rfl
theorem reckon_kf {t : Tab} {n : Int} {i : Sl.Instr} (h : ∀ x, mget t.known x = none → mget t.first x = none) : ∀ x, mget (reckonP t n i).2.known x = none → mget (reckonP t n i).2.first x = none := by
  unfold reckonP
  split
  · exact h
  · split
    · rename_i hk
      intro x hx
      rw [← mput_none _ _ _ hk, mget_mput] at hx
      rw [← mput_none _ _ _ (h _ hk), mget_mput]
      split at hx
      · cases hx
      · rename_i hne; rw [if_neg hne]; exact h _ hx
    · exact h
theorem reckon_next {t : Tab} (h : 0 ≤ t.next) (n : Int) (i : Sl.Instr) : 0 ≤ (reckonP t n i).2.next ∧ (reckonP t n i).2.next ≤ t.next + 1 := by
  unfold reckonP
  split
  · exact ⟨h, by show t.next ≤ _; omega⟩
  · split
    · exact ⟨by show 0 ≤ t.next + 1; omega, Int.le_refl _⟩
    · exact ⟨h, by show t.next ≤ _; omega⟩
section
variable {t : Tab} {out : List Sl.Instr} {n : Int} {i : Sl.Instr}
theorem passStep_same (h : (reckonP t n i).2.held[(askedP (reckonP t n i).2.held i).to.toNat]?.getD default = (reckonP t n i).1.1) : passStep (t, out) n i = ((reckonP t n i).2, out) := if_pos h
theorem passStep_move (h : ¬ (reckonP t n i).2.held[(askedP (reckonP t n i).2.held i).to.toNat]?.getD default = (reckonP t n i).1.1) (h2 : 0 ≤ holder (reckonP t n i).2.held (reckonP t n i).1.1) :
    passStep (t, out) n i = ({ (reckonP t n i).2 with held := (reckonP t n i).2.held.set (askedP (reckonP t n i).2.held i).to.toNat (reckonP t n i).1.1 }, out ++ [⟨1, (askedP (reckonP t n i).2.held i).to, holder (reckonP t n i).2.held (reckonP t n i).1.1, 0, 0⟩]) :=
  (if_neg h).trans (by rw [if_pos h2]; rfl)
theorem passStep_keep (h : ¬ (reckonP t n i).2.held[(askedP (reckonP t n i).2.held i).to.toNat]?.getD default = (reckonP t n i).1.1) (h2 : ¬ 0 ≤ holder (reckonP t n i).2.held (reckonP t n i).1.1) :
    passStep (t, out) n i = ({ (reckonP t n i).2 with held := (reckonP t n i).2.held.set (askedP (reckonP t n i).2.held i).to.toNat (reckonP t n i).1.1 }, out ++ [askedP (reckonP t n i).2.held i]) :=
  (if_neg h).trans (by rw [if_neg h2]; rfl)
end
theorem c14W (G : Imm) (p : PV) (ac ao : Option Addr) (cc co : Nat) (hc : Arr G ac p.code) (ho : Arr G ao p.outs) (h1 : p.code.length ≤ 1099511627776) (h2 : p.outs.length ≤ 1099511627776) (hR : ¬ rightP p = true) :
    Does Try.prog 14 [.agg #[.int .i64 p.ins, .int .i64 p.regs, .slice ac p.code.length cc, .slice ao p.outs.length co]] G [] (fun v G' Ho =>
      v = .tuple #[.agg #[.int .i64 0, .int .i64 0, .slice none 0 0, .slice none 0 0], .int .i64 80] ∧ Ho = [] ∧ G' = G) := by
  have hcheck : (checkP p).2 = true := by simpa [rightP] using hR
  refine Does.enter Try.func14 rfl Try.ntmps14 rfl (fun w => ?_)
  refine Wc.seq ?_
  refine Wc.region rfl ?_
  refine Wl.box 0 rfl rfl rfl (fun b1 => ?_)
  refine Wl.alloc 1 rfl T.zero25 (fun b2 => ?_)
  refine Wl.q rfl (Qy.assign rfl) ?_
  refine Wl.done ?_
  refine Ar.next ?_
  refine Wc.seq ?_
  refine Wc.seq ?_
  refine Wc.region rfl ?_
  refine Wl.q rfl (Qy.loadAll 0 T.agg25 rfl rfl rfl) ?_
  refine Wl.call0 rfl T.fn53 rfl (c53 _ _ _ _ _ _ (by assumption) (by assumption) (by omega) (by omega)) ?_
  refine Wl.q rfl (Qy.move rfl) ?_
  refine Wl.q rfl (Qy.extract rfl rfl) ?_
  refine Wl.q rfl (Qy.extract rfl rfl) ?_
  refine Wl.q rfl (Qy.assign rfl) ?_
  refine Wl.q rfl (Qy.assign rfl) ?_
  refine Wl.done ?_
  refine Ar.next ?_
  refine Wc.seq ?_
  refine Wc.region rfl ?_
  refine Wl.q rfl (Qy.move rfl) ?_
  refine Wl.q rfl (Qy.neq rfl rfl) ?_
  refine Wl.done ?_
  refine Ar.next ?_
  refine Wc.cond rfl (fun hc1 => ?_) (fun hc1 => ?_)
  refine Wc.seq ?_
  refine Wc.region rfl ?_
  refine Wl.q rfl (Qy.build (cs := [_, _, _, _]) T.st25 rfl rfl rfl) ?_
  refine Wl.q rfl (Qy.move rfl) ?_
  refine Wl.storeAll 1 T.size25 rfl rfl rfl rfl rfl rfl ?_
  refine Wl.q rfl (Qy.assign rfl) ?_
  refine Wl.done ?_
  refine Ar.next ?_
  refine Wc.ret ?_
  refine Ar.passRet ?_
  rotate_left
  refine Wc.skip ?_
  refine Ar.next ?_
  refine Wc.seq ?_
  refine Wc.region rfl ?_
  refine Wl.q rfl (Qy.loadAll 0 T.agg25 rfl rfl rfl) ?_
  rotate_left
  · refine Ar.out2 (.inr rfl) (Ho := []) rfl (.agg 1 rfl rfl T.agg25) (.tmp rfl) trivial ?_
    rw [hcheck]; exact ⟨rfl, rfl, rfl⟩
  · rw [hcheck] at hc1; exact absurd (by decide) hc1
theorem c14R (G : Imm) (p : PV) (ac ao : Option Addr) (cc co : Nat) (hc : Arr G ac p.code) (ho : Arr G ao p.outs) (h1 : p.code.length ≤ 1099511627776) (h2 : p.outs.length ≤ 1099511627776) (hR : rightP p = true) :
    Does Try.prog 14 [.agg #[.int .i64 p.ins, .int .i64 p.regs, .slice ac p.code.length cc, .slice ao p.outs.length co]] G [] (fun v G' Ho =>
      ∃ bc bo dc do_ j1 j2, v = .tuple #[.agg #[.int .i64 p.ins, .int .i64 p.regs, .slice bc (passP p).code.length dc, .slice bo (passP p).outs.length do_], .int .i64 0] ∧
        OwnA bc dc (passP p).code j1 ∧ OwnA bo do_ (passP p).outs j2 ∧ Ho = [(0, bc.map (·.block), Row 34 (passP p).code j1), (1, bo.map (·.block), Row 3 (passP p).outs j2)] ∧ G' = G) := by
  obtain ⟨r1, r2, r3, r4, r5, r6, r7, r8⟩ := right_facts hR
  have hcheck : (checkP p).2 = false := by simpa [rightP] using hR
  refine Does.enter Try.func14 rfl Try.ntmps14 rfl (fun w => ?_)
  refine Wc.nilRow 0 (Row 34 ([] : List Sl.Instr) []) (Wc.nilRow 1 (Row 3 ([] : List Int) []) ?_)
  refine Wc.seq ?_
  refine Wc.region rfl ?_
  refine Wl.box 2 rfl rfl rfl (fun b1 => ?_)
  refine Wl.alloc 3 rfl T.zero25 (fun b2 => ?_)
  refine Wl.q rfl (Qy.assign rfl) ?_
  refine Wl.done ?_
  refine Ar.next ?_
  refine Wc.seq ?_
  refine Wc.seq ?_
  refine Wc.region rfl ?_
  refine Wl.q rfl (Qy.loadAll 2 T.agg25 rfl rfl rfl) ?_
  refine Wl.call0 rfl T.fn53 rfl (c53 _ _ _ _ _ _ (by assumption) (by assumption) (by omega) (by omega)) ?_
  refine Wl.q rfl (Qy.move rfl) ?_
  refine Wl.q rfl (Qy.extract rfl rfl) ?_
  refine Wl.q rfl (Qy.extract rfl rfl) ?_
  refine Wl.q rfl (Qy.assign rfl) ?_
  refine Wl.q rfl (Qy.assign rfl) ?_
  refine Wl.done ?_
  refine Ar.next ?_
  refine Wc.seq ?_
  refine Wc.region rfl ?_
  refine Wl.q rfl (Qy.move rfl) ?_
  refine Wl.q rfl (Qy.neq rfl rfl) ?_
  refine Wl.done ?_
  refine Ar.next ?_
  refine Wc.cond rfl (fun hc1 => ?_) (fun hc1 => ?_)
  refine Wc.seq ?_
  refine Wc.region rfl ?_
  refine Wl.q rfl (Qy.build (cs := [_, _, _, _]) T.st25 rfl rfl rfl) ?_
  refine Wl.q rfl (Qy.move rfl) ?_
  refine Wl.storeAll 3 T.size25 rfl rfl rfl rfl rfl rfl ?_
  refine Wl.q rfl (Qy.assign rfl) ?_
  refine Wl.done ?_
  refine Ar.next ?_
  refine Wc.ret ?_
  refine Ar.passRet ?_
  rotate_left
  refine Wc.skip ?_
  refine Ar.next ?_
  refine Wc.seq ?_
  refine Wc.region rfl ?_
  refine Wl.q rfl (Qy.loadAll 2 T.agg25 rfl rfl rfl) ?_
  refine Wl.call 4 rfl T.fn54 rfl (c54 _ _ _ _ _ _ (by omega)) (tags_of trivial) (fun v1 G1 Ho1 hle1 hp => ?_)
  obtain ⟨bt1, bk1, bf1, ta1, tc1, tj1, rfl, hto1, rfl, rfl⟩ := hp
  refine Wl.q rfl (Qy.assign rfl) ?_
  refine Wl.done ?_
  refine Ar.next ?_
  refine Wc.seq ?_
  refine Wc.region rfl ?_
  refine Wl.q rfl (Qy.fieldAddr T.fa25_0 rfl) ?_
  refine Wl.q rfl (Qy.load 2 T.one3 rfl rfl rfl) ?_
  refine Wl.q rfl (Qy.fieldAddr T.fa25_1 rfl) ?_
  refine Wl.q rfl (Qy.load 2 T.one3 rfl rfl rfl) ?_
  refine Wl.q rfl (Qy.build (cs := [_, _, _, _]) T.st25 rfl rfl rfl) ?_
  refine Wl.alloc 8 rfl T.zero25 (fun b3 => ?_)
  refine Wl.storeAll 8 T.size25 rfl rfl rfl rfl rfl rfl ?_
  refine Wl.done ?_
  refine Ar.next ?_
  refine Wc.seq ?_
  refine Wc.seq ?_
  refine Wc.region rfl ?_
  refine Wl.q rfl (Qy.fieldAddr T.fa25_2 rfl) ?_
  refine Wl.q rfl (Qy.load 2 T.one22 rfl rfl rfl) ?_
  refine Wl.q rfl (Qy.len T.sl22 rfl) ?_
  refine Wl.q rfl (Qy.move rfl) ?_
  refine Wl.done ?_
  refine Ar.next ?_
  refine Wc.block ?_
  rotate_left
  · rw [hcheck] at hc1; exact absurd rfl hc1
  refine Wc.loop (ι := Nat × Tab × List Sl.Instr × (Option Addr × Nat × List Value) × (Option Addr × Nat × List Value)) (fun (k, t, out, (a, c, junk), (a', c', junk')) => ([(34, .int .i64 (k : Int)), (33, Go.Value.int Go.IntKind.i64 (↑(List.length (Go.Proofs.Ytfleehgbpgmcnaa.PV.code p)) : Int)), (32, Go.Value.slice ac (List.length (Go.Proofs.Ytfleehgbpgmcnaa.PV.code p)) cc), (7, Go.Value.pointer (Option.some (Go.Addr.mk b3 0 Option.none))), (6, Go.Value.pointer (Option.some (Go.Addr.mk bt1 0 Option.none))), (3, Go.Value.int Go.IntKind.i64 0), (2, Go.Value.pointer (Option.some (Go.Addr.mk b2 0 Option.none))), (1, Go.Value.pointer (Option.some (Go.Addr.mk b1 0 Option.none)))], [(4, some bt1, .cells #[.slice a t.held.length c, .map (some bk1), .map (some bf1), .int .i64 t.next] 86), (5, a.map (·.block), Row 3 t.held junk), (6, some bk1, mapObj t.known), (7, some bf1, mapObj t.first), (8, some b3, .cells #[.int .i64 p.ins, .int .i64 p.regs, .slice a' out.length c', .slice none 0 0] 25), (0, a'.map (·.block), Row 34 out junk'), (3, Option.some b2, Go.Obj.cells #[Go.Value.int Go.IntKind.i64 0, Go.Value.int Go.IntKind.i64 0, Go.Value.slice Option.none 0 0, Go.Value.slice Option.none 0 0] 25), (2, Option.some b1, Go.Obj.cells #[Go.Value.int Go.IntKind.i64 (Go.Proofs.Ytfleehgbpgmcnaa.PV.ins p), Go.Value.int Go.IntKind.i64 (Go.Proofs.Ytfleehgbpgmcnaa.PV.regs p), Go.Value.slice ac (List.length (Go.Proofs.Ytfleehgbpgmcnaa.PV.code p)) cc, Go.Value.slice ao (List.length (Go.Proofs.Ytfleehgbpgmcnaa.PV.outs p)) co] 25), (1, Option.none, Go.Sl.Row (α := Int) 3 ([]) ([]))])) (fun (k, t, out, (a, c, junk), (a', c', junk')) => k ≤ p.code.length ∧ (t, out) = passTo p k ∧ OwnA a c t.held junk ∧ OwnA a' c' out junk' ∧ (t.held.length : Int) = p.regs ∧ out.length ≤ k ∧ (∀ x, mget t.known x = none → mget t.first x = none) ∧ 0 ≤ t.next ∧ t.next ≤ p.ins + 1 + k) (fun (k, t, out, (a, c, junk), (a', c', junk')) => p.code.length - k) ((0, ⟨start p, [], [], p.ins + 1⟩, [], (ta1, tc1, tj1), (none, 0, []))) (⟨Nat.zero_le _, rfl, hto1, OwnA.nil, by simp [start]; omega, Nat.zero_le _, fun _ _ => rfl, by show 0 ≤ p.ins + 1; omega, by show p.ins + 1 ≤ p.ins + 1 + 0; omega⟩) ⟨rfl, rfl, rfl, rfl, rfl, rfl, rfl, rfl, trivial⟩ ⟨rfl, rfl, rfl, rfl, rfl, rfl, rfl, rfl, rfl, trivial⟩ (fun ⟨k, t, out, (a, c, junk), (a', c', junk')⟩ => fun (hk : k ≤ p.code.length ∧ (t, out) = passTo p k ∧ OwnA a c t.held junk ∧ OwnA a' c' out junk' ∧ (t.held.length : Int) = p.regs ∧ out.length ≤ k ∧ (∀ x, mget t.known x = none → mget t.first x = none) ∧ 0 ≤ t.next ∧ t.next ≤ p.ins + 1 + k) => ?_)
  obtain ⟨hk1, hpass, hoa, hoa', hlen, hout, hkf, hn0, hn1⟩ := hk
  rcases Nat.lt_or_ge k p.code.length with hlt | hge
  · have hm : mayOk (p.code[((k : Nat) : Int).toNat]?.getD default) t.held.length = true := by
      rw [hlen]; refine r8 _ ?_
      rw [Int.toNat_natCast, List.getElem?_eq_getElem hlt]; simp
    have hrh := reckon_held t k (p.code[((k : Nat) : Int).toNat]?.getD default)
    have hra : OwnA a c (reckonP t k (p.code[((k : Nat) : Int).toNat]?.getD default)).2.held junk := by rw [hrh]; exact hoa
    have hrl : (reckonP t k (p.code[((k : Nat) : Int).toNat]?.getD default)).2.held.length = t.held.length := by rw [hrh]
    have hrm : mayOk (p.code[((k : Nat) : Int).toNat]?.getD default) (reckonP t k (p.code[((k : Nat) : Int).toNat]?.getD default)).2.held.length = true := by rw [hrl]; exact hm
    have hto : 0 ≤ (askedP (reckonP t k (p.code[((k : Nat) : Int).toNat]?.getD default)).2.held (p.code[((k : Nat) : Int).toNat]?.getD default)).to ∧
      (askedP (reckonP t k (p.code[((k : Nat) : Int).toNat]?.getD default)).2.held (p.code[((k : Nat) : Int).toNat]?.getD default)).to < (reckonP t k (p.code[((k : Nat) : Int).toNat]?.getD default)).2.held.length := by
      rw [mayOk_iff] at hm; unfold askedP; rw [hrl]; exact ⟨hm.1.2.2.1, hm.1.2.2.2.1⟩
    refine Wc.seq ?_
    refine Wc.region rfl ?_
    refine Wl.q rfl (Qy.lss rfl rfl) ?_
    refine Wl.done ?_
    refine Ar.next ?_
    refine Wc.seq ?_
    refine Wc.condP rfl (by first | assumption | omega) ?_
    refine Wc.skip ?_
    refine Ar.next ?_
    refine Wc.seq ?_
    refine Wc.block ?_
    refine Wc.seq ?_
    refine Wc.region rfl ?_
    refine Wl.q rfl (Qy.move rfl) ?_
    refine Wl.q rfl (Qy.at (α := Instr) T.sl22 rfl rfl (by assumption) (by omega)) ?_
    refine Wl.q rfl (Qy.loadsG T.agg34 rfl (Arr.elem (by assumption) (by omega)) rfl) ?_
    refine Wl.alloc 9 rfl T.zero34 (fun b4 => ?_)
    refine Wl.q rfl (Qy.assign rfl) ?_
    refine Wl.storeAll 9 T.size34 rfl rfl rfl rfl rfl rfl ?_
    refine Wl.done ?_
    refine Ar.next ?_
    refine Wc.seq ?_
    refine Wc.region rfl ?_
    refine Wl.q rfl (Qy.move rfl) ?_
    refine Wl.q rfl (Qy.move rfl) ?_
    refine Wl.q rfl (Qy.loadAll 9 T.agg34 rfl rfl rfl) ?_
    refine Wl.call 4 rfl T.fn55 rfl (c55 _ _ _ _ _ _ _ _ _ _ (by assumption) (by omega) (by assumption) (by assumption) (by omega)) (tags_of ⟨rfl, rfl, rfl, rfl, trivial⟩) (fun v2 G2 Ho2 hle2 hp => ?_)
    obtain ⟨rfl, rfl, rfl⟩ := hp
    refine Wl.q rfl (Qy.move rfl) ?_
    refine Wl.q rfl (Qy.extract rfl rfl) ?_
    refine Wl.q rfl (Qy.extract rfl rfl) ?_
    refine Wl.q rfl (Qy.assign rfl) ?_
    refine Wl.q rfl (Qy.assign rfl) ?_
    refine Wl.done ?_
    refine Ar.next ?_
    refine Wc.seq ?_
    refine Wc.region rfl ?_
    refine Wl.q rfl (Qy.move rfl) ?_
    refine Wl.q rfl (Qy.loadAll 9 T.agg34 rfl rfl rfl) ?_
    refine Wl.call1 4 rfl T.fn56 rfl (c56 _ _ _ _ _ _ _ _ _ (by assumption) (by omega) (by assumption)) (tags_of ⟨rfl, rfl, rfl, rfl, trivial⟩) ?_
    refine Wl.storeAll 9 T.size34 rfl rfl rfl rfl rfl rfl ?_
    refine Wl.done ?_
    refine Ar.next ?_
    refine Wc.seq ?_
    refine Wc.seq ?_
    refine Wc.draw [1, 2, 3, 0, 8, 7, 6, 5, 4, 9] [] T.mixed rfl ?_
    refine Gm.q 0 [] (by kernel_rfl) rfl rfl (Qy.move rfl) ?_
    refine Gm.q 1 [] (by kernel_rfl) rfl rfl (Qy.nilCheck rfl) ?_
    refine Gm.q 2 [] (by kernel_rfl) rfl rfl (Qy.fieldAddr T.fa86_0 rfl) ?_
    refine Gm.q 3 [4] (by kernel_rfl) rfl rfl (Qy.load 4 T.one23 rfl rfl rfl) ?_
    refine Gm.q 4 [] (by kernel_rfl) rfl rfl (Qy.fieldAddr T.fa34_1 rfl) ?_
    refine Gm.q 5 [9] (by kernel_rfl) rfl rfl (Qy.load 9 T.one3 rfl rfl rfl) ?_
    refine Gm.q 6 [] (by kernel_rfl) rfl rfl (Qy.indexAddrO (α := Int) T.sl23 rfl rfl (by assumption) (by omega)) ?_
    refine Gm.q 7 [0, 5] (by kernel_rfl) rfl rfl (Qy.loadO 5 0 T.one3 rfl rfl (by assumption) (by omega) rfl rfl) ?_
    refine Gm.q 8 [] (by kernel_rfl) rfl rfl (Qy.move rfl) ?_
    refine Gm.q 9 [] (by kernel_rfl) rfl rfl (Qy.eql rfl rfl) ?_
    refine Gm.doneA (by kernel_rfl) ⟨rfl, rfl, rfl, rfl, rfl, rfl, rfl, rfl, rfl, rfl, trivial⟩ (by first | exact Imm.le_refl _ | assumption) ?_
    refine Ar.next ?_
    refine Wc.cond rfl (fun hc2 => ?_) (fun hc2 => ?_)
    refine Wc.exit ?_
    refine Ar.passExit ?_
    refine Ar.here ?_
    refine Ar.next ?_
    refine Wc.region rfl ?_
    refine Wl.q rfl (Qy.add rfl rfl (by omega)) ?_
    refine Wl.q rfl (Qy.move rfl) ?_
    refine Wl.done ?_
    rotate_left
    refine Wc.skip ?_
    refine Ar.next ?_
    refine Wc.seq ?_
    refine Wc.seq ?_
    refine Wc.region rfl ?_
    refine Wl.q rfl (Qy.move rfl) ?_
    refine Wl.q rfl (Qy.move rfl) ?_
    refine Wl.call1 4 rfl T.fn57 rfl (c57 _ _ _ _ _ _ _ _ _ (by assumption) (by omega)) (tags_of ⟨rfl, rfl, rfl, rfl, trivial⟩) ?_
    refine Wl.q rfl (Qy.assign rfl) ?_
    refine Wl.done ?_
    refine Ar.next ?_
    refine Wc.seq ?_
    refine Wc.region rfl ?_
    refine Wl.q rfl (Qy.move rfl) ?_
    refine Wl.q rfl (Qy.geq rfl rfl) ?_
    refine Wl.done ?_
    refine Ar.next ?_
    refine Wc.cond rfl (fun hc3 => ?_) (fun hc3 => ?_)
    refine Wc.region rfl ?_
    refine Wl.q rfl (Qy.fieldAddr T.fa34_1 rfl) ?_
    refine Wl.q rfl (Qy.load 9 T.one3 rfl rfl rfl) ?_
    refine Wl.q rfl (Qy.move rfl) ?_
    refine Wl.q rfl (Qy.build (cs := [_, _, _, _, _]) T.st34 rfl rfl rfl) ?_
    refine Wl.storeAll 9 T.size34 rfl rfl rfl rfl rfl rfl ?_
    refine Wl.done ?_
    refine Ar.next ?_
    refine Wc.seq ?_
    refine Wc.region rfl ?_
    refine Wl.q rfl (Qy.fieldAddr T.fa25_2 rfl) ?_
    refine Wl.q rfl (Qy.load 8 T.one22 rfl rfl rfl) ?_
    refine Wl.q rfl (Qy.loadAll 9 T.agg34 rfl rfl rfl) ?_
    refine Wl.lit (α := Instr) 10 [⟨1, Go.Sl.Instr.to (Go.Proofs.Ytfleehgbpgmcnaa.askedP (Go.Proofs.Ytfleehgbpgmcnaa.Tab.held (Prod.snd (Go.Proofs.Ytfleehgbpgmcnaa.reckonP t (↑k : Int) (Option.getD (Go.Proofs.Ytfleehgbpgmcnaa.PV.code p)[Int.toNat (↑k : Int)]? Inhabited.default)))) (Option.getD (Go.Proofs.Ytfleehgbpgmcnaa.PV.code p)[Int.toNat (↑k : Int)]? Inhabited.default)), Go.Proofs.Ytfleehgbpgmcnaa.holder (Go.Proofs.Ytfleehgbpgmcnaa.Tab.held (Prod.snd (Go.Proofs.Ytfleehgbpgmcnaa.reckonP t (↑k : Int) (Option.getD (Go.Proofs.Ytfleehgbpgmcnaa.PV.code p)[Int.toNat (↑k : Int)]? Inhabited.default)))) (Prod.fst (Prod.fst (Go.Proofs.Ytfleehgbpgmcnaa.reckonP t (↑k : Int) (Option.getD (Go.Proofs.Ytfleehgbpgmcnaa.PV.code p)[Int.toNat (↑k : Int)]? Inhabited.default)))), 0, 0⟩] rfl T.sl22 T.el34 rfl rfl rfl rfl rfl (fun b5 => ?_)
    refine Wl.append (α := Instr) 0 rfl T.sl22 T.el34 rfl rfl rfl (by first | assumption | exact OwnA.nil | exact OwnA.made (by simp)) (Src.row 10 rfl) (by first | omega | (simp only [List.length_append, List.length_cons, List.length_nil, maxLen]; omega)) (by first | omega | (simp only [List.length_append, List.length_cons, List.length_nil, maxLen]; omega)) (fun a1 c1 junk1 ho1 => ?_)
    refine Wl.q rfl (Qy.fieldAddr T.fa25_2 rfl) ?_
    refine Wl.store 8 T.one22 rfl rfl rfl rfl rfl ?_
    refine Wl.done ?_
    refine Ar.next ?_
    refine Wc.draw [1, 2, 3, 7, 6, 5, 4, 9, 10, 0, 8] [(8, 8), (0, 8), (10, 8), (9, 8), (4, 8), (5, 8), (3, 8), (2, 8), (1, 8)] T.mixed rfl ?_
    refine Gm.q 0 [] (by kernel_rfl) rfl rfl (Qy.move rfl) ?_
    refine Gm.q 1 [] (by kernel_rfl) rfl rfl (Qy.nilCheck rfl) ?_
    refine Gm.q 2 [] (by kernel_rfl) rfl rfl (Qy.fieldAddr T.fa86_0 rfl) ?_
    refine Gm.q 3 [4] (by kernel_rfl) rfl rfl (Qy.load 4 T.one23 rfl rfl rfl) ?_
    refine Gm.q 4 [] (by kernel_rfl) rfl rfl (Qy.fieldAddr T.fa34_1 rfl) ?_
    refine Gm.q 5 [9] (by kernel_rfl) rfl rfl (Qy.load 9 T.one3 rfl rfl rfl) ?_
    refine Gm.q 6 [] (by kernel_rfl) rfl rfl (Qy.move rfl) ?_
    refine Gm.q 7 [] (by kernel_rfl) rfl rfl (Qy.indexAddrO (α := Int) T.sl23 rfl rfl (by assumption) (by omega)) ?_
    refine Gm.one 8 ⟨rfl, rfl, rfl, rfl, rfl, rfl, rfl, rfl, rfl, rfl, rfl, trivial⟩ (by first | exact Imm.le_refl _ | assumption) (by kernel_rfl) rfl ?_
    refine Wl.setO (z := _) 5 T.size3 rfl rfl rfl (by assumption) (by omega) rfl (fun ho2 => ?_)
    refine Wl.on0 ?_
    refine Gm.doneA (by kernel_rfl) ⟨rfl, rfl, trivial⟩ (by first | exact Imm.le_refl _ | assumption) ?_
    refine Ar.outNormal ?_
    refine Ar.next ?_
    refine Wc.region rfl ?_
    refine Wl.q rfl (Qy.add rfl rfl (by omega)) ?_
    refine Wl.q rfl (Qy.move rfl) ?_
    refine Wl.done ?_
    rotate_left
    refine Wc.skip ?_
    refine Ar.next ?_
    refine Wc.seq ?_
    refine Wc.region rfl ?_
    refine Wl.q rfl (Qy.fieldAddr T.fa25_2 rfl) ?_
    refine Wl.q rfl (Qy.load 8 T.one22 rfl rfl rfl) ?_
    refine Wl.q rfl (Qy.loadAll 9 T.agg34 rfl rfl rfl) ?_
    refine Wl.lit (α := Instr) 10 [(Go.Proofs.Ytfleehgbpgmcnaa.askedP (Go.Proofs.Ytfleehgbpgmcnaa.Tab.held (Prod.snd (Go.Proofs.Ytfleehgbpgmcnaa.reckonP t (↑k : Int) (Option.getD (Go.Proofs.Ytfleehgbpgmcnaa.PV.code p)[Int.toNat (↑k : Int)]? Inhabited.default)))) (Option.getD (Go.Proofs.Ytfleehgbpgmcnaa.PV.code p)[Int.toNat (↑k : Int)]? Inhabited.default))] rfl T.sl22 T.el34 rfl rfl rfl rfl rfl (fun b5 => ?_)
    refine Wl.append (α := Instr) 0 rfl T.sl22 T.el34 rfl rfl rfl (by first | assumption | exact OwnA.nil | exact OwnA.made (by simp)) (Src.row 10 rfl) (by first | omega | (simp only [List.length_append, List.length_cons, List.length_nil, maxLen]; omega)) (by first | omega | (simp only [List.length_append, List.length_cons, List.length_nil, maxLen]; omega)) (fun a1 c1 junk1 ho1 => ?_)
    refine Wl.q rfl (Qy.fieldAddr T.fa25_2 rfl) ?_
    refine Wl.store 8 T.one22 rfl rfl rfl rfl rfl ?_
    refine Wl.done ?_
    refine Ar.next ?_
    refine Wc.draw [1, 2, 3, 7, 6, 5, 4, 9, 10, 0, 8] [(8, 8), (0, 8), (10, 8), (9, 8), (4, 8), (5, 8), (3, 8), (2, 8), (1, 8)] T.mixed rfl ?_
    refine Gm.q 0 [] (by kernel_rfl) rfl rfl (Qy.move rfl) ?_
    refine Gm.q 1 [] (by kernel_rfl) rfl rfl (Qy.nilCheck rfl) ?_
    refine Gm.q 2 [] (by kernel_rfl) rfl rfl (Qy.fieldAddr T.fa86_0 rfl) ?_
    refine Gm.q 3 [4] (by kernel_rfl) rfl rfl (Qy.load 4 T.one23 rfl rfl rfl) ?_
    refine Gm.q 4 [] (by kernel_rfl) rfl rfl (Qy.fieldAddr T.fa34_1 rfl) ?_
    refine Gm.q 5 [9] (by kernel_rfl) rfl rfl (Qy.load 9 T.one3 rfl rfl rfl) ?_
    refine Gm.q 6 [] (by kernel_rfl) rfl rfl (Qy.move rfl) ?_
    refine Gm.q 7 [] (by kernel_rfl) rfl rfl (Qy.indexAddrO (α := Int) T.sl23 rfl rfl (by assumption) (by omega)) ?_
    refine Gm.one 8 ⟨rfl, rfl, rfl, rfl, rfl, rfl, rfl, rfl, rfl, rfl, rfl, trivial⟩ (by first | exact Imm.le_refl _ | assumption) (by kernel_rfl) rfl ?_
    refine Wl.setO (z := _) 5 T.size3 rfl rfl rfl (by assumption) (by omega) rfl (fun ho2 => ?_)
    refine Wl.on0 ?_
    refine Gm.doneA (by kernel_rfl) ⟨rfl, rfl, trivial⟩ (by first | exact Imm.le_refl _ | assumption) ?_
    refine Ar.outNormal ?_
    refine Ar.next ?_
    refine Wc.region rfl ?_
    refine Wl.q rfl (Qy.add rfl rfl (by omega)) ?_
    refine Wl.q rfl (Qy.move rfl) ?_
    refine Wl.done ?_
    rotate_left
    · generalize hI : p.code[((k : Nat) : Int).toNat]?.getD default = I at *
      refine Ar.again ((k + 1, (reckonP t k I).2, out, (a, c, junk), (a', c', junk'))) ?_ ?_ rfl ⟨rfl, rfl, rfl, rfl, rfl, rfl, rfl, rfl, trivial⟩ ⟨rfl, rfl, rfl, rfl, rfl, rfl, rfl, rfl, rfl, trivial⟩
      · refine ⟨by omega, ?_, hra, hoa', by rw [hrl]; exact hlen, by omega, reckon_kf hkf, (reckon_next hn0 k I).1, ?_⟩
        · show _ = passStep (passTo p k) k (p.code[((k : Nat) : Int).toNat]?.getD default)
          rw [← hpass, hI, passStep_same hc2]
        · have := (reckon_next hn0 k I).2
          omega
      · show p.code.length - (k + 1) < p.code.length - k
        omega
    · generalize hI : p.code[((k : Nat) : Int).toNat]?.getD default = I at *
      refine Ar.reH 4 (.cells #[.slice a ((reckonP t k I).2.held.set (askedP (reckonP t k I).2.held I).to.toNat (reckonP t k I).1.1).length c, .map (some bk1), .map (some bf1), .int .i64 (reckonP t k I).2.next] 86) rfl (by rw [List.length_set]) ?_
      refine Ar.again ((k + 1, { (reckonP t k I).2 with held := (reckonP t k I).2.held.set (askedP (reckonP t k I).2.held I).to.toNat (reckonP t k I).1.1 }, _, (a, c, junk), (a1, c1, junk1))) ?_ ?_ rfl ⟨rfl, rfl, rfl, rfl, rfl, rfl, rfl, rfl, trivial⟩ ⟨rfl, rfl, rfl, rfl, rfl, rfl, rfl, rfl, rfl, trivial⟩
      · refine ⟨by omega, ?_, ho2, ho1, ?_, ?_, reckon_kf hkf, ?_, ?_⟩
        · show _ = passStep (passTo p k) k (p.code[((k : Nat) : Int).toNat]?.getD default)
          rw [← hpass, hI, passStep_move hc2 hc3]
        · show (((reckonP t k I).2.held.set _ _).length : Int) = _
          rw [List.length_set, hrl]; exact hlen
        · rw [List.length_append]; simp only [List.length_cons, List.length_nil]; omega
        · exact (reckon_next hn0 k I).1
        · have := (reckon_next hn0 k I).2
          show (reckonP t k I).2.next ≤ _
          omega
      · show p.code.length - (k + 1) < p.code.length - k
        omega
    · generalize hI : p.code[((k : Nat) : Int).toNat]?.getD default = I at *
      refine Ar.reH 4 (.cells #[.slice a ((reckonP t k I).2.held.set (askedP (reckonP t k I).2.held I).to.toNat (reckonP t k I).1.1).length c, .map (some bk1), .map (some bf1), .int .i64 (reckonP t k I).2.next] 86) rfl (by rw [List.length_set]) ?_
      refine Ar.again ((k + 1, { (reckonP t k I).2 with held := (reckonP t k I).2.held.set (askedP (reckonP t k I).2.held I).to.toNat (reckonP t k I).1.1 }, _, (a, c, junk), (a1, c1, junk1))) ?_ ?_ rfl ⟨rfl, rfl, rfl, rfl, rfl, rfl, rfl, rfl, trivial⟩ ⟨rfl, rfl, rfl, rfl, rfl, rfl, rfl, rfl, rfl, trivial⟩
      · refine ⟨by omega, ?_, ho2, ho1, ?_, ?_, reckon_kf hkf, ?_, ?_⟩
        · show _ = passStep (passTo p k) k (p.code[((k : Nat) : Int).toNat]?.getD default)
          rw [← hpass, hI, passStep_keep hc2 hc3]
        · show (((reckonP t k I).2.held.set _ _).length : Int) = _
          rw [List.length_set, hrl]; exact hlen
        · rw [List.length_append]; simp only [List.length_cons, List.length_nil]; omega
        · exact (reckon_next hn0 k I).1
        · have := (reckon_next hn0 k I).2
          show (reckonP t k I).2.next ≤ _
          omega
      · show p.code.length - (k + 1) < p.code.length - k
        omega
  · have hk : k = p.code.length := by omega
    subst hk
    refine Wc.seq ?_
    refine Wc.region rfl ?_
    refine Wl.q rfl (Qy.lss rfl rfl) ?_
    refine Wl.done ?_
    refine Ar.next ?_
    refine Wc.seq ?_
    refine Wc.condN rfl (by first | assumption | omega) ?_
    refine Wc.exit ?_
    refine Ar.passExit ?_
    refine Ar.passExit ?_
    refine Ar.here ?_
    refine Ar.next ?_
    refine Wc.seq ?_
    refine Wc.seq ?_
    refine Wc.region rfl ?_
    refine Wl.q rfl (Qy.fieldAddr T.fa25_3 rfl) ?_
    refine Wl.q rfl (Qy.load 2 T.one23 rfl rfl rfl) ?_
    refine Wl.q rfl (Qy.len T.sl23 rfl) ?_
    refine Wl.q rfl (Qy.move rfl) ?_
    refine Wl.done ?_
    refine Ar.next ?_
    refine Wc.block ?_
    refine Wc.loop (ι := Nat × List Int × Option Addr × Nat × List Value) (fun (k, os, b, d, j) => ([(86, .int .i64 (k : Int)), (85, Go.Value.int Go.IntKind.i64 (↑(List.length (Go.Proofs.Ytfleehgbpgmcnaa.PV.outs p)) : Int)), (84, Go.Value.slice ao (List.length (Go.Proofs.Ytfleehgbpgmcnaa.PV.outs p)) co), (7, Go.Value.pointer (Option.some (Go.Addr.mk b3 0 Option.none))), (6, Go.Value.pointer (Option.some (Go.Addr.mk bt1 0 Option.none))), (3, Go.Value.int Go.IntKind.i64 0), (2, Go.Value.pointer (Option.some (Go.Addr.mk b2 0 Option.none)))], [(8, some b3, .cells #[.int .i64 p.ins, .int .i64 p.regs, .slice a' out.length c', .slice b os.length d] 25), (1, b.map (·.block), Row 3 os j), (4, Option.some bt1, Go.Obj.cells #[Go.Value.slice a (List.length (Go.Proofs.Ytfleehgbpgmcnaa.Tab.held t)) c, Go.Value.map (Option.some bk1), Go.Value.map (Option.some bf1), Go.Value.int Go.IntKind.i64 (Go.Proofs.Ytfleehgbpgmcnaa.Tab.next t)] 86), (5, Option.map (fun x => Go.Addr.block x) a, Go.Sl.Row (α := Int) 3 (Go.Proofs.Ytfleehgbpgmcnaa.Tab.held t) (junk)), (6, Option.some bk1, Go.Sl.mapObj (κ := Go.Sl.K4) (Go.Proofs.Ytfleehgbpgmcnaa.Tab.known t)), (7, Option.some bf1, Go.Sl.mapObj (κ := Go.Sl.K4) (Go.Proofs.Ytfleehgbpgmcnaa.Tab.first t)), (0, Option.map (fun x => Go.Addr.block x) a', Go.Sl.Row (α := Go.Sl.Instr) 34 (out) (junk')), (3, Option.some b2, Go.Obj.cells #[Go.Value.int Go.IntKind.i64 0, Go.Value.int Go.IntKind.i64 0, Go.Value.slice Option.none 0 0, Go.Value.slice Option.none 0 0] 25), (2, Option.some b1, Go.Obj.cells #[Go.Value.int Go.IntKind.i64 (Go.Proofs.Ytfleehgbpgmcnaa.PV.ins p), Go.Value.int Go.IntKind.i64 (Go.Proofs.Ytfleehgbpgmcnaa.PV.regs p), Go.Value.slice ac (List.length (Go.Proofs.Ytfleehgbpgmcnaa.PV.code p)) cc, Go.Value.slice ao (List.length (Go.Proofs.Ytfleehgbpgmcnaa.PV.outs p)) co] 25)])) (fun (k, os, b, d, j) => k ≤ p.outs.length ∧ os = (passOuts p t.held).take k ∧ OwnA b d os j) (fun (k, os, b, d, j) => p.outs.length - k) ((0, [], none, 0, [])) (⟨Nat.zero_le _, rfl, OwnA.nil⟩) ⟨rfl, rfl, rfl, rfl, rfl, rfl, rfl, trivial⟩ ⟨rfl, rfl, rfl, rfl, rfl, rfl, rfl, rfl, rfl, trivial⟩ (fun ⟨k, os, b, d, j⟩ => fun (hk : k ≤ p.outs.length ∧ os = (passOuts p t.held).take k ∧ OwnA b d os j) => ?_)
    obtain ⟨hk2, hos, hob⟩ := hk
    have hosl : os.length ≤ 128 := by rw [hos, List.length_take]; omega
    rcases Nat.lt_or_ge k p.outs.length with hlt | hge
    · have hr : 0 ≤ p.outs[((k : Nat) : Int).toNat]?.getD default ∧ p.outs[((k : Nat) : Int).toNat]?.getD default < t.held.length := by
        rw [hlen]; refine r7 _ ?_
        rw [Int.toNat_natCast, List.getElem?_eq_getElem hlt]; simp
      refine Wc.seq ?_
      refine Wc.region rfl ?_
      refine Wl.q rfl (Qy.lss rfl rfl) ?_
      refine Wl.done ?_
      refine Ar.next ?_
      refine Wc.seq ?_
      refine Wc.condP rfl (by first | assumption | omega) ?_
      refine Wc.skip ?_
      refine Ar.next ?_
      refine Wc.seq ?_
      refine Wc.block ?_
      refine Wc.seq ?_
      refine Wc.region rfl ?_
      refine Wl.q rfl (Qy.at (α := Int) T.sl23 rfl rfl (by assumption) (by omega)) ?_
      refine Wl.q rfl (Qy.loadG T.one3 rfl (Arr.cell (by assumption) (by omega) 0 rfl rfl)) ?_
      refine Wl.q rfl (Qy.assign rfl) ?_
      refine Wl.done ?_
      refine Ar.next ?_
      refine Wc.draw [2, 3, 0, 7, 6, 5, 4, 1, 8] [(8, 14), (1, 12), (5, 12), (0, 12)] T.mixed rfl ?_
      refine Gm.q 0 [] (by kernel_rfl) rfl rfl (Qy.fieldAddr T.fa25_3 rfl) ?_
      refine Gm.q 1 [8] (by kernel_rfl) rfl rfl (Qy.load 8 T.one23 rfl rfl rfl) ?_
      refine Gm.q 2 [] (by kernel_rfl) rfl rfl (Qy.move rfl) ?_
      refine Gm.q 3 [] (by kernel_rfl) rfl rfl (Qy.move rfl) ?_
      refine Gm.q 4 [] (by kernel_rfl) rfl rfl (Qy.nilCheck rfl) ?_
      refine Gm.q 5 [] (by kernel_rfl) rfl rfl (Qy.fieldAddr T.fa86_0 rfl) ?_
      refine Gm.q 6 [4] (by kernel_rfl) rfl rfl (Qy.load 4 T.one23 rfl rfl rfl) ?_
      refine Gm.q 7 [] (by kernel_rfl) rfl rfl (Qy.move rfl) ?_
      refine Gm.q 8 [] (by kernel_rfl) rfl rfl (Qy.indexAddrO (α := Int) T.sl23 rfl rfl (by assumption) (by omega)) ?_
      refine Gm.one 9 ⟨rfl, rfl, rfl, rfl, rfl, rfl, rfl, rfl, rfl, trivial⟩ (by first | exact Imm.le_refl _ | assumption) (by kernel_rfl) rfl ?_
      refine Wl.q rfl (Qy.loadO 5 0 T.one3 rfl rfl (by assumption) (by omega) rfl rfl) ?_
      refine Wl.on0 ?_
      refine Gm.one 10 ⟨rfl, rfl, rfl, rfl, rfl, rfl, rfl, rfl, rfl, trivial⟩ (by first | exact Imm.le_refl _ | assumption) (by kernel_rfl) rfl ?_
      refine Wl.call1 4 rfl T.fn57 rfl (c57 _ _ _ _ _ _ _ _ _ (by assumption) (by omega)) (tags_of ⟨rfl, rfl, rfl, rfl, trivial⟩) ?_
      refine Wl.on0 ?_
      refine Gm.one 11 ⟨rfl, rfl, rfl, rfl, rfl, rfl, rfl, rfl, rfl, trivial⟩ (by first | exact Imm.le_refl _ | assumption) (by kernel_rfl) rfl ?_
      refine Wl.lit (α := Int) 9 [(Go.Proofs.Ytfleehgbpgmcnaa.holder (Go.Proofs.Ytfleehgbpgmcnaa.Tab.held t) (Option.getD (Go.Proofs.Ytfleehgbpgmcnaa.Tab.held t)[Int.toNat (Option.getD (Go.Proofs.Ytfleehgbpgmcnaa.PV.outs p)[Int.toNat (↑k : Int)]? Inhabited.default)]? Inhabited.default))] rfl T.sl23 T.el3 rfl rfl rfl rfl rfl (fun b4 => ?_)
      refine Wl.on0 ?_
      refine Gm.one 12 ⟨rfl, rfl, rfl, rfl, rfl, rfl, rfl, rfl, rfl, trivial⟩ (by first | exact Imm.le_refl _ | assumption) (by kernel_rfl) rfl ?_
      refine Wl.append (α := Int) 1 rfl T.sl23 T.el3 rfl rfl rfl (by first | assumption | exact OwnA.nil | exact OwnA.made (by simp)) (Src.row 9 rfl) (by first | omega | (simp only [List.length_append, List.length_cons, List.length_nil, maxLen]; omega)) (by first | omega | (simp only [List.length_append, List.length_cons, List.length_nil, maxLen]; omega)) (fun a1 c1 junk1 ho1 => ?_)
      refine Wl.on0 ?_
      refine Gm.q 13 [] (by kernel_rfl) rfl rfl (Qy.fieldAddr T.fa25_3 rfl) ?_
      refine Gm.one 14 ⟨rfl, rfl, rfl, rfl, rfl, rfl, trivial⟩ (by first | exact Imm.le_refl _ | assumption) (by kernel_rfl) rfl ?_
      refine Wl.store 8 T.one23 rfl rfl rfl rfl rfl ?_
      refine Wl.on0 ?_
      refine Gm.doneA (by kernel_rfl) ⟨rfl, rfl, rfl, rfl, rfl, trivial⟩ (by first | exact Imm.le_refl _ | assumption) ?_
      refine Ar.outNormal ?_
      refine Ar.next ?_
      refine Wc.region rfl ?_
      refine Wl.q rfl (Qy.add rfl rfl (by omega)) ?_
      refine Wl.q rfl (Qy.move rfl) ?_
      refine Wl.done ?_
      refine Ar.again ((k + 1, _, a1, c1, junk1)) ?_ ?_ rfl ⟨rfl, rfl, rfl, rfl, rfl, rfl, rfl, trivial⟩ ⟨rfl, rfl, rfl, rfl, rfl, rfl, rfl, rfl, rfl, trivial⟩
      · refine ⟨by omega, ?_, ho1⟩
        have hst : (passOuts p t.held).take (k + 1) = (passOuts p t.held).take k ++ [holder t.held (t.held[(p.outs[((k : Nat) : Int).toNat]?.getD default).toNat]?.getD default)] := by
          rw [List.take_add_one]
          simp [passOuts, hlt]
        rw [hst, hos]
      · show p.outs.length - (k + 1) < p.outs.length - k
        omega
    · refine Wc.seq ?_
      refine Wc.region rfl ?_
      refine Wl.q rfl (Qy.lss rfl rfl) ?_
      refine Wl.done ?_
      refine Ar.next ?_
      refine Wc.seq ?_
      refine Wc.condN rfl (by first | assumption | omega) ?_
      refine Wc.exit ?_
      refine Ar.passExit ?_
      refine Ar.passExit ?_
      refine Ar.here ?_
      refine Ar.next ?_
      refine Wc.seq ?_
      refine Wc.region rfl ?_
      refine Wl.q rfl (Qy.loadAll 8 T.agg25 rfl rfl rfl) ?_
      refine Wl.storeAll 3 T.size25 rfl rfl rfl rfl rfl rfl ?_
      refine Wl.q rfl (Qy.assign rfl) ?_
      refine Wl.done ?_
      refine Ar.next ?_
      refine Wc.ret ?_
      refine Ar.out2 (.inr rfl) (Ho := Hp.only _ [0, 1]) rfl (.agg 3 rfl rfl T.agg25) (.tmp rfl) (Hp.sub_only _ _) ?_
      have ht : t = (passTo p p.code.length).1 := congrArg Prod.fst hpass
      have hou : out = (passP p).code := congrArg Prod.snd hpass
      have hos' : os = (passP p).outs := by
        rw [hos, List.take_of_length_le (by simp [passOuts]; omega), ht]; rfl
      rw [hou] at hoa' ⊢
      rw [hos'] at hob ⊢
      exact ⟨a', b, c', d, junk', j, rfl, hoa', hob, rfl, rfl⟩
end Go.Proofs.Ytfleehgbpgmcnaa
set_option maxRecDepth 100000
set_option linter.unusedVariables false
namespace Go.Proofs.Ytfleehgbpgmcnaa
open Go Go.Sl
set_option maxHeartbeats 4000000
theorem p2_64_lt : ∀ c : Nat, c ≤ 64 → ((p2 c).natAbs : Int) < pw 5 := fun c hc => by
  have h1 := p2_le hc
  have h2 := p2_pos c
  have h3 : p2 64 < pw 5 := by unfold p2 pw; decide
  omega
theorem may_facts {i : Sl.Instr} {regs : Int} (h : mayOk i regs = true) : (1 ≤ i.op ∧ i.op ≤ 8) ∧ (0 ≤ i.to ∧ i.to < regs) ∧ (0 ≤ i.a ∧ i.a < regs) ∧ (i.op = 3 ∨ i.op = 4 → 0 ≤ i.b ∧ i.b < regs) ∧ constOk i.op i.c = true ∧
    (i.op ≠ 1 → i.op ≠ 2 → i.op ≠ 3 → i.op ≠ 4 → cst i ≠ 0 ∧ ((cst i).natAbs : Int) < pw 5) ∧ (i.op = 5 ∨ i.op = 6 → -9223372036854775808 ≤ i.c ∧ i.c ≤ 9223372036854775807) ∧ (¬ (i.op = 5 ∨ i.op = 6) → 0 ≤ i.c ∧ i.c ≤ 64) := by
  unfold mayOk at h
  rw [Bool.and_eq_true, Bool.and_eq_true, decide_eq_true_eq, List.all_eq_true] at h
  obtain ⟨⟨⟨g1, g2, g3, g4, g5⟩, g6⟩, g7⟩ := h
  have hA : ∀ r ∈ asks i, 0 ≤ r ∧ r < regs := fun r hr => by have := g7 r hr; rwa [decide_eq_true_eq] at this
  have ha : i.a ∈ asks i := by
    unfold asks
    split
    · exact List.mem_cons_self
    · rw [if_pos ⟨g1, g2⟩]; exact List.mem_cons_self
  have hc := g6
  unfold constOk at g6
  have k1 : i.op = 5 ∨ i.op = 6 → i.c ≠ 0 ∧ -512 ≤ i.c ∧ i.c ≤ 512 := fun h => by rw [if_pos h, decide_eq_true_eq] at g6; exact g6
  have k2 : ¬ (i.op = 5 ∨ i.op = 6) → (i.op = 7 ∨ i.op = 8 → 1 ≤ i.c ∧ i.c ≤ 64) ∧ (¬ (i.op = 7 ∨ i.op = 8) → i.c = 0) := fun h => by
    rw [if_neg h] at g6
    refine ⟨fun h2 => ?_, fun h2 => ?_⟩
    · rw [if_pos h2, decide_eq_true_eq] at g6; exact g6
    · rw [if_neg h2, decide_eq_true_eq] at g6; exact g6
  refine ⟨⟨g1, g2⟩, ⟨g3, g4⟩, hA _ ha, fun h34 => hA _ (by unfold asks; rw [if_pos h34]; exact List.mem_cons_of_mem _ List.mem_cons_self), hc, fun n1 n2 n3 n4 => ?_, fun h56 => by have := k1 h56; omega, fun h56 => ?_⟩
  · by_cases h56 : i.op = 5 ∨ i.op = 6
    · rw [cst_c h56]
      have := k1 h56
      have h3 : (65536 : Int) < pw 5 := by unfold pw; decide
      exact ⟨this.1, by omega⟩
    · rw [cst_p h56]
      have h2 := (k2 h56).1 (by omega)
      have := p2_pos i.c.toNat
      exact ⟨by omega, p2_64_lt _ (by omega)⟩
  · by_cases h78 : i.op = 7 ∨ i.op = 8
    · have := (k2 h56).1 h78; omega
    · have := (k2 h56).2 h78; omega
theorem regs0_len (p : PV) (gs : List (List Int)) : (regs0 p gs).length = p.regs.toNat := by unfold regs0; rw [List.length_map, List.length_range]
theorem regs0_at {p : PV} {gs : List (List Int)} {k : Nat} (hk : k < p.regs.toNat) : (regs0 p gs)[k]?.getD [] = if k < gs.length then gs[k]?.getD [] else List.replicate (gs[0]?.getD []).length 0 := by
  unfold regs0
  rw [List.getElem?_map, List.getElem?_range hk]; rfl
theorem row_next {G : Imm} {r : List SV} {rs : List (List Int)} {k : Nat} {s : SV} (h : ∀ q : Nat, q < k → RowS G (r[q]?.getD default) (rs[q]?.getD [])) (hk : k < r.length) (hs : RowS G s (rs[k]?.getD [])) : ∀ q : Nat, q < k + 1 → RowS G ((r.set k s)[q]?.getD default) (rs[q]?.getD []) := fun q hq => by
  rw [List.getElem?_set]
  by_cases he : k = q
  · subst he; rw [if_pos rfl, if_pos hk]; exact hs
  · rw [if_neg he]; exact h q (by omega)
theorem rows_up {G G' : Imm} {r : List SV} {rs : List (List Int)} {k : Nat} (h : ∀ q : Nat, q < k → RowS G (r[q]?.getD default) (rs[q]?.getD [])) (hl : G.le G') : ∀ q : Nat, q < k → RowS G' (r[q]?.getD default) (rs[q]?.getD []) := fun q hq => (h q hq).up hl
theorem outs_succ {p : PV} {rs : List (List Int)} {q : Nat} (hq : q < p.outs.length) :
    (outsOf p rs).take (q + 1) = (outsOf p rs).take q ++ [rs[(p.outs[((q : Nat) : Int).toNat]?.getD default).toNat]?.getD []] := by
  have h1 : q < (outsOf p rs).length := by unfold outsOf; rw [List.length_map]; exact hq
  have h2 : (outsOf p rs)[q] = rs[(p.outs[q]).toNat]?.getD [] := List.getElem_map _
  rw [List.take_succ_eq_append_getElem h1, h2, Int.toNat_natCast, List.getElem?_eq_getElem hq]; rfl
attribute [local irreducible] valL pw cmpZ p2
theorem c21 (G : Imm) (p : PV) (ac ao ga : Option Addr) (cc co gc : Nat) (gl : List SV) (gs : List (List Int)) (N : Nat) (hc : Arr G ac p.code) (ho : Arr G ao p.outs) (hga : Arr G ga gl) (hgg : Grid G gl gs) (hev : Even 4 N gs) (hN : N ≤ 1048576) (hR : rightP p = true) (hgi : (gl.length : Int) = p.ins) (hcl : p.code.length ≤ 1024) :
    Does Try.prog 21 [.agg #[.int .i64 p.ins, .int .i64 p.regs, .slice ac p.code.length cc, .slice ao p.outs.length co], .slice ga gl.length gc] G [] (fun v G' Ho => ∃ sv bad ov, v = .tuple #[sv, .int .i64 bad, ov] ∧ (followP p gs = none → 0 ≤ bad ∧ ov = .slice none 0 0) ∧
      (∀ os, followP p gs = some os → bad = -1 ∧ ∃ (oa : Option Addr) (oc : Nat) (ol : List SV), ov = .slice oa ol.length oc ∧ Arr G' oa ol ∧ Grid G' ol os) ∧ Ho = []) := by
  obtain ⟨f1, f2, f3, f4, f5, f6, f7, f8⟩ := right_facts hR
  have hgl := hgg.1
  obtain ⟨R, hRR⟩ : ∃ R : Nat, p.regs = (R : Int) := ⟨p.regs.toNat, by omega⟩
  refine Does.enter Try.func21 rfl Try.ntmps21 rfl (fun w => ?_)
  have hM : p.regs.toNat = R := by omega
  have hrl0 := regs0_len p gs
  rw [hM] at hrl0
  have hgl0 : 0 < gl.length := by omega
  have h0R := hgg.at (m := 0) (by omega)
  obtain ⟨h0L, h0B⟩ := hev.at (k := 0) (by omega)
  have h0n : (gl[(0 : Int).toNat]?.getD default).n ≤ 1048576 := by rw [h0R.len, h0L]; exact hN
  refine Wc.seq ?_
  refine Wc.region rfl ?_
  refine Wl.box 0 rfl rfl rfl (fun b1 => ?_)
  refine Wl.q rfl (Qy.assign rfl) ?_
  refine Wl.q rfl (Qy.assign rfl) ?_
  refine Wl.q rfl (Qy.assign rfl) ?_
  refine Wl.done ?_
  refine Ar.next ?_
  refine Wc.seq ?_
  refine Wc.region rfl ?_
  refine Wl.q rfl (Qy.fieldAddr T.fa25_1 rfl) ?_
  refine Wl.q rfl (Qy.load 0 T.one3 rfl rfl rfl) ?_
  refine Wl.make (α := SV) 1 rfl T.sl37 T.el40 rfl rfl (by omega) (by omega) (fun b2 => ?_)
  refine Wl.q rfl (Qy.assign rfl) ?_
  refine Wl.done ?_
  refine Ar.next ?_
  refine Wc.seq ?_
  refine Wc.seq ?_
  refine Wc.region rfl ?_
  refine Wl.q rfl (Qy.assign rfl) ?_
  refine Wl.done ?_
  refine Ar.next ?_
  refine Wc.block ?_
  rw [hM]
  have hown : ∀ r : List SV, r.length = R → OwnA (some ⟨b2, 0, none⟩) R r [] := fun r hr => .inr ⟨b2, rfl, by rw [hr]; rfl, by omega, by simp only [maxLen]; omega⟩
  refine Wc.re 7 rfl (show _ = Value.slice (some ⟨b2, 0, none⟩) (List.replicate R (default : SV)).length R by rw [List.length_replicate]) ?_
  refine Wc.loopG (ι := Nat × Imm × List SV) (fun (k, Gx, r) => ([(8, .int .i64 (k : Int)), (7, .slice (some ⟨b2, 0, none⟩) r.length R), (6, Go.Value.slice Option.none 0 0), (5, Go.Value.int Go.IntKind.i64 0), (4, Go.Value.slice Option.none 0 0), (2, Go.Value.pointer (Option.some (Go.Addr.mk b1 0 Option.none))), (1, Go.Value.slice ga (List.length gl) gc)], [(1, some b2, Row 40 r []), (0, Option.some b1, Go.Obj.cells #[Go.Value.int Go.IntKind.i64 (Go.Proofs.Ytfleehgbpgmcnaa.PV.ins p), Go.Value.int Go.IntKind.i64 (Go.Proofs.Ytfleehgbpgmcnaa.PV.regs p), Go.Value.slice ac (List.length (Go.Proofs.Ytfleehgbpgmcnaa.PV.code p)) cc, Go.Value.slice ao (List.length (Go.Proofs.Ytfleehgbpgmcnaa.PV.outs p)) co] 25)])) (fun (k, Gx, r) => Gx) (fun (k, Gx, r) => k ≤ R ∧ G.le Gx ∧ r.length = R ∧ ∀ q : Nat, q < k → RowS Gx (r[q]?.getD default) ((regs0 p gs)[q]?.getD [])) (fun (k, Gx, r) => R - k) ((0, G, List.replicate R (default : SV))) (⟨Nat.zero_le _, Imm.le_refl _, List.length_replicate, fun q hq => by omega⟩) rfl ⟨rfl, rfl, rfl, rfl, rfl, rfl, rfl, trivial⟩ ⟨rfl, rfl, trivial⟩ (fun ⟨k, Gx, r⟩ => fun (hk : k ≤ R ∧ G.le Gx ∧ r.length = R ∧ ∀ q : Nat, q < k → RowS Gx (r[q]?.getD default) ((regs0 p gs)[q]?.getD [])) => ?_)
  obtain ⟨hk0, hgx, hrR, hrow⟩ := hk
  replace hc := hc.up hgx
  replace ho := ho.up hgx
  replace hga := hga.up hgx
  replace hgg := hgg.up hgx
  have hor := hown r hrR
  rcases Nat.lt_or_ge k R with hkR | hkR
  · by_cases hkg : k < gl.length
    · refine Wc.seq ?_
      refine Wc.seq ?_
      refine Wc.region rfl ?_
      refine Wl.q rfl (Qy.move rfl) ?_
      refine Wl.q rfl (Qy.fieldAddr T.fa25_1 rfl) ?_
      refine Wl.q rfl (Qy.load 0 T.one3 rfl rfl rfl) ?_
      refine Wl.q rfl (Qy.lss rfl rfl) ?_
      refine Wl.done ?_
      refine Ar.next ?_
      refine Wc.condP rfl (by first | assumption | omega) ?_
      refine Wc.skip ?_
      refine Ar.next ?_
      refine Wc.seq ?_
      refine Wc.block ?_
      refine Wc.seq ?_
      refine Wc.region rfl ?_
      refine Wl.q rfl (Qy.move rfl) ?_
      refine Wl.q rfl (Qy.move rfl) ?_
      refine Wl.q rfl (Qy.move rfl) ?_
      refine Wl.q rfl (Qy.at (α := SV) T.sl37 rfl rfl (by assumption) (by omega)) ?_
      refine Wl.q rfl (Qy.loadG T.one40 rfl (Arr.cell (by assumption) (by omega) 0 rfl rfl)) ?_
      refine Wl.q rfl (Qy.len T.sl40 rfl) ?_
      refine Wl.call 2 rfl T.fn61 rfl (c61 _ _ (by assumption)) (tags_of trivial) (fun v1 G1 Ho1 hle1 hp => ?_)
      obtain ⟨⟨zo1, zc1, zl1, rfl, hzA1, hzN1, hzl1⟩, rfl⟩ := hp
      replace hc := hc.up hle1
      replace ho := ho.up hle1
      replace hga := hga.up hle1
      replace hgg := hgg.up hle1
      refine Wl.q rfl (Qy.indexAddrO (α := SV) T.sl37 rfl rfl (by assumption) (by omega)) ?_
      refine Wl.setO (z := ⟨zo1, zl1.length, zc1⟩) 1 T.size40 rfl rfl rfl (by assumption) (by omega) rfl (fun ho1 => ?_)
      refine Wl.done ?_
      refine Ar.next ?_
      refine Wc.seq ?_
      refine Wc.region rfl ?_
      refine Wl.q rfl (Qy.move rfl) ?_
      refine Wl.q rfl (Qy.move rfl) ?_
      refine Wl.q rfl (Qy.len T.sl37 rfl) ?_
      refine Wl.q rfl (Qy.lss rfl rfl) ?_
      refine Wl.done ?_
      refine Ar.next ?_
      refine Wc.condP rfl (by first | assumption | omega) ?_
      refine Wc.region rfl ?_
      refine Wl.q rfl (Qy.move rfl) ?_
      refine Wl.q rfl (Qy.move rfl) ?_
      refine Wl.q rfl (Qy.move rfl) ?_
      refine Wl.q rfl (Qy.move rfl) ?_
      refine Wl.q rfl (Qy.at (α := SV) T.sl37 rfl rfl (by assumption) (by omega)) ?_
      refine Wl.q rfl (Qy.loadG T.one40 rfl (Arr.cell (by assumption) (by omega) 0 rfl rfl)) ?_
      refine Wl.q rfl (Qy.indexAddrO (α := SV) T.sl37 rfl rfl (by assumption) (by omega)) ?_
      refine Wl.setO (z := gl[((k : Nat) : Int).toNat]?.getD default) 1 T.size40 rfl rfl rfl (by assumption) (by rw [List.length_set]; omega) rfl (fun ho2 => ?_)
      refine Wl.done ?_
      refine Ar.outNormal ?_
      refine Ar.next ?_
      refine Wc.region rfl ?_
      refine Wl.q rfl (Qy.move rfl) ?_
      refine Wl.q rfl (Qy.add rfl rfl (by omega)) ?_
      refine Wl.q rfl (Qy.assign rfl) ?_
      refine Wl.done ?_
      rw [Int.toNat_natCast, List.set_set]
      refine Ar.re 7 rfl (show _ = Value.slice (some ⟨b2, 0, none⟩) (r.set k (gl[k]?.getD default)).length R by rw [List.length_set]) ?_
      refine Ar.again ((k + 1, G1, r.set k (gl[k]?.getD default))) ?_ ?_ rfl ⟨rfl, rfl, rfl, rfl, rfl, rfl, rfl, trivial⟩ ⟨rfl, rfl, trivial⟩
      · refine ⟨by omega, Imm.le_trans hgx hle1, by rw [List.length_set]; exact hrR, row_next (rows_up hrow hle1) (by omega) ?_⟩
        rw [regs0_at (by omega), if_pos (by omega)]
        exact hgg.2 k hkg
      · show R - (k + 1) < R - k
        omega
    · refine Wc.seq ?_
      refine Wc.seq ?_
      refine Wc.region rfl ?_
      refine Wl.q rfl (Qy.move rfl) ?_
      refine Wl.q rfl (Qy.fieldAddr T.fa25_1 rfl) ?_
      refine Wl.q rfl (Qy.load 0 T.one3 rfl rfl rfl) ?_
      refine Wl.q rfl (Qy.lss rfl rfl) ?_
      refine Wl.done ?_
      refine Ar.next ?_
      refine Wc.condP rfl (by first | assumption | omega) ?_
      refine Wc.skip ?_
      refine Ar.next ?_
      refine Wc.seq ?_
      refine Wc.block ?_
      refine Wc.seq ?_
      refine Wc.region rfl ?_
      refine Wl.q rfl (Qy.move rfl) ?_
      refine Wl.q rfl (Qy.move rfl) ?_
      refine Wl.q rfl (Qy.move rfl) ?_
      refine Wl.q rfl (Qy.at (α := SV) T.sl37 rfl rfl (by assumption) (by omega)) ?_
      refine Wl.q rfl (Qy.loadG T.one40 rfl (Arr.cell (by assumption) (by omega) 0 rfl rfl)) ?_
      refine Wl.q rfl (Qy.len T.sl40 rfl) ?_
      refine Wl.call 2 rfl T.fn61 rfl (c61 _ _ (by assumption)) (tags_of trivial) (fun v1 G1 Ho1 hle1 hp => ?_)
      obtain ⟨⟨zo1, zc1, zl1, rfl, hzA1, hzN1, hzl1⟩, rfl⟩ := hp
      replace hc := hc.up hle1
      replace ho := ho.up hle1
      replace hga := hga.up hle1
      replace hgg := hgg.up hle1
      refine Wl.q rfl (Qy.indexAddrO (α := SV) T.sl37 rfl rfl (by assumption) (by omega)) ?_
      refine Wl.setO (z := ⟨zo1, zl1.length, zc1⟩) 1 T.size40 rfl rfl rfl (by assumption) (by omega) rfl (fun ho1 => ?_)
      refine Wl.done ?_
      refine Ar.next ?_
      refine Wc.seq ?_
      refine Wc.region rfl ?_
      refine Wl.q rfl (Qy.move rfl) ?_
      refine Wl.q rfl (Qy.move rfl) ?_
      refine Wl.q rfl (Qy.len T.sl37 rfl) ?_
      refine Wl.q rfl (Qy.lss rfl rfl) ?_
      refine Wl.done ?_
      refine Ar.next ?_
      refine Wc.condN rfl (by first | assumption | omega) ?_
      refine Wc.skip ?_
      refine Ar.outNormal ?_
      refine Ar.next ?_
      refine Wc.region rfl ?_
      refine Wl.q rfl (Qy.move rfl) ?_
      refine Wl.q rfl (Qy.add rfl rfl (by omega)) ?_
      refine Wl.q rfl (Qy.assign rfl) ?_
      refine Wl.done ?_
      rw [Int.toNat_natCast]
      refine Ar.re 7 rfl (show _ = Value.slice (some ⟨b2, 0, none⟩) (r.set k (⟨zo1, zl1.length, zc1⟩ : SV)).length R by rw [List.length_set]) ?_
      refine Ar.again ((k + 1, G1, r.set k (⟨zo1, zl1.length, zc1⟩ : SV))) ?_ ?_ rfl ⟨rfl, rfl, rfl, rfl, rfl, rfl, rfl, trivial⟩ ⟨rfl, rfl, trivial⟩
      · refine ⟨by omega, Imm.le_trans hgx hle1, by rw [List.length_set]; exact hrR, row_next (rows_up hrow hle1) (by omega) ?_⟩
        rw [regs0_at (by omega), if_neg (by omega)]
        refine ⟨zl1, rfl, hzl1, hzA1, ?_⟩
        have e := hzN1
        rw [h0R.len] at e
        exact e
      · show R - (k + 1) < R - k
        omega
  · have hg0 : Grid Gx r (regs0 p gs) := ⟨by omega, fun q hq => hrow q (by omega)⟩
    have he0 : Even 4 N (regs0 p gs) := even_regs0 hev (by omega)
    refine Wc.seq ?_
    refine Wc.seq ?_
    refine Wc.region rfl ?_
    refine Wl.q rfl (Qy.move rfl) ?_
    refine Wl.q rfl (Qy.fieldAddr T.fa25_1 rfl) ?_
    refine Wl.q rfl (Qy.load 0 T.one3 rfl rfl rfl) ?_
    refine Wl.q rfl (Qy.lss rfl rfl) ?_
    refine Wl.done ?_
    refine Ar.next ?_
    refine Wc.condN rfl (by first | assumption | omega) ?_
    refine Wc.exit ?_
    refine Ar.passExit ?_
    refine Ar.passExit ?_
    refine Ar.here ?_
    refine Ar.next ?_
    refine Wc.seq ?_
    refine Wc.region rfl ?_
    refine Wl.q rfl (Qy.assign rfl) ?_
    refine Wl.done ?_
    refine Ar.next ?_
    refine Wc.seq ?_
    refine Wc.seq ?_
    refine Wc.region rfl ?_
    refine Wl.q rfl (Qy.assign rfl) ?_
    refine Wl.done ?_
    refine Ar.next ?_
    refine Wc.block ?_
    refine Wc.nilRow 3 (Row 40 ([] : List SV) []) ?_
    refine Wc.loopG (ι := Nat × Imm × List SV × List (List Int) × List SV × (Option Addr × Nat × List Value)) (fun (i, Gy, r2, rs, st, (o, d, j)) => ([(10, .int .i64 (i : Int)), (9, .slice o st.length d), (7, .slice (some ⟨b2, 0, none⟩) r2.length R), (2, Go.Value.pointer (Option.some (Go.Addr.mk b1 0 Option.none)))], [(3, o.map (·.block), Row 40 st j), (1, some b2, Row 40 r2 []), (0, Option.some b1, Go.Obj.cells #[Go.Value.int Go.IntKind.i64 (Go.Proofs.Ytfleehgbpgmcnaa.PV.ins p), Go.Value.int Go.IntKind.i64 (Go.Proofs.Ytfleehgbpgmcnaa.PV.regs p), Go.Value.slice ac (List.length (Go.Proofs.Ytfleehgbpgmcnaa.PV.code p)) cc, Go.Value.slice ao (List.length (Go.Proofs.Ytfleehgbpgmcnaa.PV.outs p)) co] 25)])) (fun (i, Gy, r2, rs, st, (o, d, j)) => Gy) (fun (i, Gy, r2, rs, st, (o, d, j)) => i ≤ p.code.length ∧ Gx.le Gy ∧ r2.length = R ∧ Grid Gy r2 rs ∧ Even (4 + 5 * i) N rs ∧ runTo p gs i = some rs ∧ OwnA o d st j ∧ st.length = i) (fun (i, Gy, r2, rs, st, (o, d, j)) => p.code.length - i) ((0, Gx, r, regs0 p gs, [], (none, 0, []))) (⟨Nat.zero_le _, Imm.le_refl _, hrR, hg0, he0, rfl, OwnA.nil, rfl⟩) rfl ⟨rfl, rfl, rfl, rfl, trivial⟩ ⟨rfl, rfl, rfl, trivial⟩ (fun ⟨i, Gy, r2, rs, st, (o, d, j)⟩ => fun (hk : i ≤ p.code.length ∧ Gx.le Gy ∧ r2.length = R ∧ Grid Gy r2 rs ∧ Even (4 + 5 * i) N rs ∧ runTo p gs i = some rs ∧ OwnA o d st j ∧ st.length = i) => ?_)
    obtain ⟨hi0, hgy, hr2, hg2, he2, hrun, hob, hst⟩ := hk
    replace hc := hc.up hgy
    replace ho := ho.up hgy
    have hor2 := hown r2 hr2
    have hg2l := hg2.1
    rcases Nat.lt_or_ge i p.code.length with hic | hic
    · have hmem : (p.code[((i : Nat) : Int).toNat]?.getD default) ∈ p.code := by
        rw [Int.toNat_natCast, List.getElem?_eq_getElem hic]; exact List.getElem_mem hic
      obtain ⟨m1, m2, m3, m4, m5, m6, m7, m8⟩ := may_facts (f8 _ hmem)
      have m3' : 0 ≤ (p.code[((i : Nat) : Int).toNat]?.getD default).a ∧ (p.code[((i : Nat) : Int).toNat]?.getD default).a < r2.length := by omega
      have m2' : 0 ≤ (p.code[((i : Nat) : Int).toNat]?.getD default).to ∧ (p.code[((i : Nat) : Int).toNat]?.getD default).to < r2.length := by omega
      have he9 := Even.at he2 (k := (p.code[((i : Nat) : Int).toNat]?.getD default).a) (by omega)
      obtain ⟨ci, hci⟩ : ∃ ci, ci = p.code[((i : Nat) : Int).toNat]?.getD default := ⟨_, rfl⟩
      refine Wc.seq ?_
      refine Wc.seq ?_
      refine Wc.region rfl ?_
      refine Wl.q rfl (Qy.move rfl) ?_
      refine Wl.q rfl (Qy.fieldAddr T.fa25_2 rfl) ?_
      refine Wl.q rfl (Qy.load 0 T.one22 rfl rfl rfl) ?_
      refine Wl.q rfl (Qy.len T.sl22 rfl) ?_
      refine Wl.q rfl (Qy.lss rfl rfl) ?_
      refine Wl.done ?_
      refine Ar.next ?_
      refine Wc.condP rfl (by first | assumption | omega) ?_
      refine Wc.skip ?_
      refine Ar.next ?_
      refine Wc.seq ?_
      refine Wc.block ?_
      refine Wc.seq ?_
      refine Wc.region rfl ?_
      refine Wl.q rfl (Qy.fieldAddr T.fa25_2 rfl) ?_
      refine Wl.q rfl (Qy.load 0 T.one22 rfl rfl rfl) ?_
      refine Wl.q rfl (Qy.move rfl) ?_
      refine Wl.q rfl (Qy.at (α := Sl.Instr) T.sl22 rfl rfl (by assumption) (by omega)) ?_
      refine Wl.q rfl (Qy.loadsG T.agg34 rfl (Arr.elem (by assumption) (by omega)) rfl) ?_
      refine Wl.q rfl (Qy.move rfl) ?_
      refine Wl.call 1 rfl T.fn62 rfl (c62 _ (p.code[((i : Nat) : Int).toNat]?.getD default) (some ⟨b2, 0, none⟩) R r2 [] rs (4 + 5 * i) N hor2 hg2 he2 hN (by omega) m1 m3' (fun h => by have := m4 h; omega) m5 (by omega) m6 m7 m8) (tags_of ⟨rfl, trivial⟩) (fun v1 G1 Ho1 hle1 hp => ?_)
      obtain ⟨rv, rfl, hrv, rfl⟩ := hp
      by_cases hd : doI (p.code[((i : Nat) : Int).toNat]?.getD default) rs = none
      · have hd2 : ¬ doI (p.code[((i : Nat) : Int).toNat]?.getD default) rs ≠ none := fun h => h hd
        refine Wl.q rfl (Qy.move rfl) ?_
        refine Wl.q rfl (Qy.extract rfl rfl) ?_
        refine Wl.q rfl (Qy.extract rfl rfl) ?_
        refine Wl.q rfl (Qy.assign rfl) ?_
        refine Wl.q rfl (Qy.assign rfl) ?_
        refine Wl.done ?_
        refine Ar.next ?_
        refine Wc.seq ?_
        refine Wc.seq ?_
        refine Wc.region rfl ?_
        refine Wl.q rfl (Qy.move rfl) ?_
        refine Wl.q rfl (Qy.notD rfl) ?_
        refine Wl.done ?_
        refine Ar.next ?_
        refine Wc.condP rfl (by first | assumption | omega) ?_
        refine Wc.seq ?_
        refine Wc.region rfl ?_
        refine Wl.q rfl (Qy.move rfl) ?_
        refine Wl.q rfl (Qy.move rfl) ?_
        refine Wl.q rfl (Qy.assign rfl) ?_
        refine Wl.q rfl (Qy.assign rfl) ?_
        refine Wl.q rfl (Qy.assign rfl) ?_
        refine Wl.done ?_
        refine Ar.next ?_
        refine Wc.ret ?_
        refine Ar.passRet ?_
        refine Ar.outRet ?_
        refine Ar.passRet ?_
        refine Ar.passRet ?_
        refine Ar.outRet ?_
        refine Ar.passRet ?_
        refine Ar.out3 (.inr rfl) (Ho := []) rfl (.tmp rfl) (.tmp rfl) (.tmp rfl) trivial ?_
        have hfn := runTo_stop hrun hd hic
        exact ⟨_, (i : Int), _, rfl, fun _ => ⟨Int.natCast_nonneg i, rfl⟩, fun os h => (by rw [hfn] at h; cases h), rfl⟩
      · obtain ⟨zs, hzs⟩ := Option.ne_none_iff_exists'.1 hd
        obtain ⟨s, rfl, hs⟩ := hrv zs hzs
        have hok : doI (p.code[((i : Nat) : Int).toNat]?.getD default) rs ≠ none := hd
        replace hc := hc.up hle1
        replace ho := ho.up hle1
        replace hg2 := hg2.up hle1
        refine Wl.q rfl (Qy.move rfl) ?_
        refine Wl.q rfl (Qy.extract rfl rfl) ?_
        refine Wl.q rfl (Qy.extract rfl rfl) ?_
        refine Wl.q rfl (Qy.assign rfl) ?_
        refine Wl.q rfl (Qy.assign rfl) ?_
        refine Wl.done ?_
        refine Ar.next ?_
        refine Wc.seq ?_
        refine Wc.seq ?_
        refine Wc.region rfl ?_
        refine Wl.q rfl (Qy.move rfl) ?_
        refine Wl.q rfl (Qy.notD rfl) ?_
        refine Wl.done ?_
        refine Ar.next ?_
        refine Wc.cond rfl (fun hc1 => ?_) (fun hc1 => ?_)
        refine Wc.seq ?_
        refine Wc.region rfl ?_
        refine Wl.q rfl (Qy.move rfl) ?_
        refine Wl.q rfl (Qy.move rfl) ?_
        refine Wl.q rfl (Qy.assign rfl) ?_
        refine Wl.q rfl (Qy.assign rfl) ?_
        refine Wl.q rfl (Qy.assign rfl) ?_
        refine Wl.done ?_
        refine Ar.next ?_
        refine Wc.ret ?_
        refine Ar.passRet ?_
        refine Ar.outRet ?_
        refine Ar.passRet ?_
        refine Ar.passRet ?_
        refine Ar.outRet ?_
        refine Ar.passRet ?_
        rotate_left
        refine Wc.skip ?_
        refine Ar.next ?_
        refine Wc.seq ?_
        refine Wc.region rfl ?_
        refine Wl.q rfl (Qy.move rfl) ?_
        refine Wl.q rfl (Qy.fieldAddr T.fa25_2 rfl) ?_
        refine Wl.q rfl (Qy.load 0 T.one22 rfl rfl rfl) ?_
        refine Wl.q rfl (Qy.move rfl) ?_
        refine Wl.q rfl (Qy.at (α := Sl.Instr) T.sl22 rfl rfl (by assumption) (by omega)) ?_
        refine Wl.q rfl (Qy.fieldAddr T.fa34_1 rfl) ?_
        refine Wl.q rfl (Qy.loadG T.one3 rfl (Arr.cell (by assumption) (by omega) 1 rfl rfl)) ?_
        refine Wl.q rfl (Qy.move rfl) ?_
        refine Wl.q rfl (Qy.indexAddrO (α := SV) T.sl37 rfl rfl (by assumption) (by omega)) ?_
        refine Wl.setO (z := _) 1 T.size40 rfl rfl rfl (by assumption) (by omega) rfl (fun ho1 => ?_)
        refine Wl.done ?_
        refine Ar.next ?_
        refine Wc.region rfl ?_
        refine Wl.q rfl (Qy.move rfl) ?_
        refine Wl.q rfl (Qy.move rfl) ?_
        refine Wl.lit (α := SV) 4 [⟨_, _, _⟩] rfl T.sl37 T.el40 rfl rfl rfl rfl rfl (fun b3 => ?_)
        refine Wl.append (α := SV) 3 rfl T.sl37 T.el40 rfl rfl rfl (by first | assumption | exact OwnA.nil | exact OwnA.made (by simp)) (Src.row 4 rfl) (by first | omega | (simp only [List.length_append, List.length_cons, List.length_nil, maxLen]; omega)) (by first | omega | (simp only [List.length_append, List.length_cons, List.length_nil, maxLen]; omega)) (fun a2 c2 junk2 ho2 => ?_)
        refine Wl.q rfl (Qy.assign rfl) ?_
        refine Wl.done ?_
        refine Ar.outNormal ?_
        refine Ar.next ?_
        refine Wc.region rfl ?_
        refine Wl.q rfl (Qy.move rfl) ?_
        refine Wl.q rfl (Qy.add rfl rfl (by omega)) ?_
        refine Wl.q rfl (Qy.assign rfl) ?_
        refine Wl.done ?_
        rotate_left
        · exact absurd hok hc1
        · refine Ar.re 7 rfl (show _ = Value.slice (some ⟨b2, 0, none⟩) (r2.set (p.code[((i : Nat) : Int).toNat]?.getD default).to.toNat s).length R by rw [List.length_set]) ?_
          refine Ar.again ((i + 1, G1, r2.set (p.code[((i : Nat) : Int).toNat]?.getD default).to.toNat s, rs.set (p.code[((i : Nat) : Int).toNat]?.getD default).to.toNat zs, st ++ [s], (a2, c2, junk2))) ?_ ?_ rfl ⟨rfl, rfl, rfl, rfl, trivial⟩ ⟨rfl, rfl, rfl, trivial⟩
          · have hx := doI_even (i := p.code[((i : Nat) : Int).toNat]?.getD default) he2 (by omega) (fun h => by have := m4 h; omega) (fun h => (m6 (by omega) (by omega) (by omega) (by omega)).2) hzs
            refine ⟨by omega, Imm.le_trans hgy hle1, by rw [List.length_set]; exact hr2, hg2.set _ hs, ?_, runTo_succ (x := []) hrun hzs, by assumption, by rw [List.length_append]; show st.length + 1 = i + 1; omega⟩
            rw [show 4 + 5 * (i + 1) = 5 + (4 + 5 * i) by omega]
            exact even_set (he2.mono (by omega)) hx _
          · show p.code.length - (i + 1) < p.code.length - i
            omega
    · have hie : i = p.code.length := by omega
      subst hie
      have hfo : followP p gs = some (outsOf p rs) := by unfold followP; rw [hrun]; rfl
      have hol : (outsOf p rs).length = p.outs.length := by unfold outsOf; rw [List.length_map]
      refine Wc.seq ?_
      refine Wc.seq ?_
      refine Wc.region rfl ?_
      refine Wl.q rfl (Qy.move rfl) ?_
      refine Wl.q rfl (Qy.fieldAddr T.fa25_2 rfl) ?_
      refine Wl.q rfl (Qy.load 0 T.one22 rfl rfl rfl) ?_
      refine Wl.q rfl (Qy.len T.sl22 rfl) ?_
      refine Wl.q rfl (Qy.lss rfl rfl) ?_
      refine Wl.done ?_
      refine Ar.next ?_
      refine Wc.condN rfl (by first | assumption | omega) ?_
      refine Wc.exit ?_
      refine Ar.passExit ?_
      refine Ar.passExit ?_
      refine Ar.here ?_
      refine Ar.next ?_
      refine Wc.seq ?_
      refine Wc.region rfl ?_
      refine Wl.q rfl (Qy.assign rfl) ?_
      refine Wl.done ?_
      refine Ar.next ?_
      refine Wc.seq ?_
      refine Wc.seq ?_
      refine Wc.region rfl ?_
      refine Wl.q rfl (Qy.assign rfl) ?_
      refine Wl.done ?_
      refine Ar.next ?_
      refine Wc.block ?_
      refine Wc.nilRow 4 (Row 40 ([] : List SV) []) ?_
      refine Wc.loop (ι := Nat × List SV × (Option Addr × Nat × List Value)) (fun (q, ol, (oo, od, oj)) => ([(14, .int .i64 (q : Int)), (13, .slice oo ol.length od), (9, Go.Value.slice o (List.length st) d), (7, Go.Value.slice (Option.some (Go.Addr.mk b2 0 Option.none)) (List.length r2) R), (2, Go.Value.pointer (Option.some (Go.Addr.mk b1 0 Option.none)))], [(4, oo.map (·.block), Row 40 ol oj), (3, Option.map (fun x => Go.Addr.block x) o, Go.Sl.Row (α := Go.Sl.SV) 40 (st) (j)), (1, Option.some b2, Go.Sl.Row (α := Go.Sl.SV) 40 (r2) ([])), (0, Option.some b1, Go.Obj.cells #[Go.Value.int Go.IntKind.i64 (Go.Proofs.Ytfleehgbpgmcnaa.PV.ins p), Go.Value.int Go.IntKind.i64 (Go.Proofs.Ytfleehgbpgmcnaa.PV.regs p), Go.Value.slice ac (List.length (Go.Proofs.Ytfleehgbpgmcnaa.PV.code p)) cc, Go.Value.slice ao (List.length (Go.Proofs.Ytfleehgbpgmcnaa.PV.outs p)) co] 25)])) (fun (q, ol, (oo, od, oj)) => q ≤ p.outs.length ∧ ol.length = q ∧ Grid Gy ol ((outsOf p rs).take q) ∧ OwnA oo od ol oj) (fun (q, ol, (oo, od, oj)) => p.outs.length - q) ((0, [], (none, 0, []))) (⟨Nat.zero_le _, rfl, by rw [List.take_zero]; exact Grid.nil _, OwnA.nil⟩) ⟨rfl, rfl, rfl, rfl, rfl, trivial⟩ ⟨rfl, rfl, rfl, rfl, trivial⟩ (fun ⟨q, ol, (oo, od, oj)⟩ => fun (hk : q ≤ p.outs.length ∧ ol.length = q ∧ Grid Gy ol ((outsOf p rs).take q) ∧ OwnA oo od ol oj) => ?_)
      obtain ⟨hq0, hql, hqg, hqo⟩ := hk
      rcases Nat.lt_or_ge q p.outs.length with hqc | hqc
      · have hmem : (p.outs[((q : Nat) : Int).toNat]?.getD default) ∈ p.outs := by
          rw [Int.toNat_natCast, List.getElem?_eq_getElem hqc]; exact List.getElem_mem hqc
        have hrr := f7 _ hmem
        have hrr2 : 0 ≤ (p.outs[((q : Nat) : Int).toNat]?.getD default) ∧ (p.outs[((q : Nat) : Int).toNat]?.getD default) < r2.length := by omega
        have hss := hg2.at hrr2
        refine Wc.seq ?_
        refine Wc.seq ?_
        refine Wc.region rfl ?_
        refine Wl.q rfl (Qy.move rfl) ?_
        refine Wl.q rfl (Qy.fieldAddr T.fa25_3 rfl) ?_
        refine Wl.q rfl (Qy.load 0 T.one23 rfl rfl rfl) ?_
        refine Wl.q rfl (Qy.len T.sl23 rfl) ?_
        refine Wl.q rfl (Qy.lss rfl rfl) ?_
        refine Wl.done ?_
        refine Ar.next ?_
        refine Wc.condP rfl (by first | assumption | omega) ?_
        refine Wc.skip ?_
        refine Ar.next ?_
        refine Wc.seq ?_
        refine Wc.block ?_
        refine Wc.region rfl ?_
        refine Wl.q rfl (Qy.move rfl) ?_
        refine Wl.q rfl (Qy.move rfl) ?_
        refine Wl.q rfl (Qy.fieldAddr T.fa25_3 rfl) ?_
        refine Wl.q rfl (Qy.load 0 T.one23 rfl rfl rfl) ?_
        refine Wl.q rfl (Qy.move rfl) ?_
        refine Wl.q rfl (Qy.at (α := Int) T.sl23 rfl rfl (by assumption) (by omega)) ?_
        refine Wl.q rfl (Qy.loadG T.one3 rfl (Arr.cell (by assumption) (by omega) 0 rfl rfl)) ?_
        refine Wl.q rfl (Qy.indexAddrO (α := SV) T.sl37 rfl rfl (by assumption) (by omega)) ?_
        refine Wl.q rfl (Qy.loadO 1 0 T.one40 rfl rfl (by assumption) (by omega) rfl rfl) ?_
        refine Wl.lit (α := SV) 5 [⟨_, _, _⟩] rfl T.sl37 T.el40 rfl rfl rfl rfl rfl (fun b3 => ?_)
        refine Wl.append (α := SV) 4 rfl T.sl37 T.el40 rfl rfl rfl (by first | assumption | exact OwnA.nil | exact OwnA.made (by simp)) (Src.row 5 rfl) (by first | omega | (simp only [List.length_append, List.length_cons, List.length_nil, maxLen]; omega)) (by first | omega | (simp only [List.length_append, List.length_cons, List.length_nil, maxLen]; omega)) (fun a1 c1 junk1 ho1 => ?_)
        refine Wl.q rfl (Qy.assign rfl) ?_
        refine Wl.done ?_
        refine Ar.outNormal ?_
        refine Ar.next ?_
        refine Wc.region rfl ?_
        refine Wl.q rfl (Qy.move rfl) ?_
        refine Wl.q rfl (Qy.add rfl rfl (by omega)) ?_
        refine Wl.q rfl (Qy.assign rfl) ?_
        refine Wl.done ?_
        refine Ar.again ((q + 1, ol ++ [r2[(p.outs[((q : Nat) : Int).toNat]?.getD default).toNat]?.getD default], (a1, c1, junk1))) ?_ ?_ rfl ⟨rfl, rfl, rfl, rfl, rfl, trivial⟩ ⟨rfl, rfl, rfl, rfl, trivial⟩
        · exact ⟨by omega, by rw [List.length_append]; show ol.length + 1 = q + 1; omega, by rw [outs_succ hqc]; exact hqg.snoc hss, by assumption⟩
        · show p.outs.length - (q + 1) < p.outs.length - q
          omega
      · refine Wc.seq ?_
        refine Wc.seq ?_
        refine Wc.region rfl ?_
        refine Wl.q rfl (Qy.move rfl) ?_
        refine Wl.q rfl (Qy.fieldAddr T.fa25_3 rfl) ?_
        refine Wl.q rfl (Qy.load 0 T.one23 rfl rfl rfl) ?_
        refine Wl.q rfl (Qy.len T.sl23 rfl) ?_
        refine Wl.q rfl (Qy.lss rfl rfl) ?_
        refine Wl.done ?_
        refine Ar.next ?_
        refine Wc.condN rfl (by first | assumption | omega) ?_
        refine Wc.exit ?_
        refine Ar.passExit ?_
        refine Ar.passExit ?_
        refine Ar.here ?_
        refine Ar.next ?_
        refine Wc.seq ?_
        refine Wc.region rfl ?_
        refine Wl.q rfl (Qy.move rfl) ?_
        refine Wl.q rfl (Qy.move rfl) ?_
        refine Wl.q rfl (Qy.assign rfl) ?_
        refine Wl.q rfl (Qy.assign rfl) ?_
        refine Wl.q rfl (Qy.assign rfl) ?_
        refine Wl.done ?_
        refine Ar.next ?_
        refine Wc.ret ?_
        rw [List.take_of_length_le (by omega)] at hqg
        refine Ar.freezeRow 4 rfl hqo (fun G9 hle9 hA => ?_)
        refine Ar.out3 (.inr rfl) (Ho := []) rfl (.tmp rfl) (.tmp rfl) (.tmp rfl) trivial ?_
        exact ⟨_, -1, _, rfl, fun h => (by rw [hfo] at h; cases h), fun os h => (by rw [hfo] at h; cases h; exact ⟨rfl, oo, od, ol, rfl, hA, hqg.up hle9⟩), rfl⟩
end Go.Proofs.Ytfleehgbpgmcnaa
set_option maxRecDepth 100000
set_option linter.unusedVariables false
namespace Go.Proofs.Ytfleehgbpgmcnaa
open Go Go.Sl
set_option maxHeartbeats 4000000
/-- how many shifts to the left -/
def shiftsTo (p : PV) : Nat → Nat
  | 0 => 0
  | k + 1 => shiftsTo p k + (if (p.code[((k : Nat) : Int).toNat]?.getD default).op = 7 then 1 else 0)
theorem shiftsTo_le (p : PV) (k : Nat) : shiftsTo p k ≤ k := by
  induction k with
  | zero => exact Nat.le_refl _
  | succ k ih => unfold shiftsTo; split <;> omega
end Go.Proofs.Ytfleehgbpgmcnaa
namespace Go.Proofs.Ytfleehgbpgmcnaa
open Go Go.Sl
set_option maxRecDepth 100000
set_option maxHeartbeats 2000000
/-- the document's state -/
def StH (held : List Int) (ks : List R6) (next : Int) (bs : Nat) (a : Option Addr) (c : Nat) (junk : List Value) (b : Option Addr) (d : Nat) (j : List Value) : Hp :=
  [(0, some bs, .cells #[.slice a held.length c, .slice b ks.length d, .int .i64 next] 61), (1, a.map (·.block), Row 3 held junk), (2, b.map (·.block), Row 99 ks j)]
def keyR (k : R6) : K4 := ⟨k.a, k.b, k.c, k.d⟩
/-- .. and what the pass's table would hold -/
def tabOf (held : List Int) (ks : List R6) (next : Int) : Tab := ⟨held, ks.map fun k => (keyR k, k.f), ks.map fun k => (keyR k, k.e), next⟩
theorem c25 (G : Imm) (p : PV) (ac ao : Option Addr) (cc co : Nat) (hr : 0 ≤ p.ins ∧ p.ins ≤ p.regs ∧ p.regs ≤ 128) :
    Does Try.prog 25 [.agg #[.int .i64 p.ins, .int .i64 p.regs, .slice ac p.code.length cc, .slice ao p.outs.length co]] G [] (fun v G' Ho => ∃ bs a c junk, v = .pointer (some ⟨bs, 0, none⟩) ∧
      OwnA a c (start p) junk ∧ Ho = StH (start p) [] (p.ins + 1) bs a c junk none 0 [] ∧ G' = G) := by
  have hsl : (start p).length = p.regs.toNat := by simp [start]
  refine Does.enter Try.func25 rfl Try.ntmps25 rfl (fun w => ?_)
  refine Wc.nilRow 0 (Row 3 ([] : List Int) []) (Wc.nilRow 1 (Row 99 ([] : List R6) []) ?_)
  refine Wc.seq ?_
  refine Wc.region rfl ?_
  refine Wl.box 2 rfl rfl rfl (fun b1 => ?_)
  refine Wl.q rfl (Qy.assign rfl) ?_
  refine Wl.done ?_
  refine Ar.next ?_
  refine Wc.seq ?_
  refine Wc.region rfl ?_
  refine Wl.q rfl (Qy.fieldAddr T.fa25_0 rfl) ?_
  refine Wl.q rfl (Qy.load 2 T.one3 rfl rfl rfl) ?_
  refine Wl.q rfl (Qy.add rfl rfl (by omega)) ?_
  refine Wl.q rfl (Qy.build (cs := [_, _, _]) T.st61 rfl rfl rfl) ?_
  refine Wl.box 3 rfl rfl rfl (fun b2 => ?_)
  refine Wl.q rfl (Qy.assign rfl) ?_
  refine Wl.done ?_
  refine Ar.next ?_
  refine Wc.seq ?_
  refine Wc.seq ?_
  refine Wc.region rfl ?_
  refine Wl.q rfl (Qy.assign rfl) ?_
  refine Wl.done ?_
  refine Ar.next ?_
  refine Wc.block ?_
  refine Wc.loop (ι := Nat × List Int × Option Addr × Nat × List Value) (fun (k, xs, a, c, junk) => ([(4, .int .i64 (k : Int)), (3, Go.Value.pointer (Option.some (Go.Addr.mk b2 0 Option.none))), (2, Go.Value.pointer Option.none), (1, Go.Value.pointer (Option.some (Go.Addr.mk b1 0 Option.none)))], [(0, a.map (·.block), Row 3 xs junk), (3, some b2, .cells #[.slice a xs.length c, .slice none 0 0, .int .i64 (p.ins + 1)] 61), (2, Option.some b1, Go.Obj.cells #[Go.Value.int Go.IntKind.i64 (Go.Proofs.Ytfleehgbpgmcnaa.PV.ins p), Go.Value.int Go.IntKind.i64 (Go.Proofs.Ytfleehgbpgmcnaa.PV.regs p), Go.Value.slice ac (List.length (Go.Proofs.Ytfleehgbpgmcnaa.PV.code p)) cc, Go.Value.slice ao (List.length (Go.Proofs.Ytfleehgbpgmcnaa.PV.outs p)) co] 25), (1, Option.none, Go.Sl.Row (α := Go.Sl.R6) 99 ([]) ([]))])) (fun (k, xs, a, c, junk) => k ≤ p.regs.toNat ∧ xs = (start p).take k ∧ OwnA a c xs junk) (fun (k, xs, a, c, junk) => p.regs.toNat - k) ((0, [], none, 0, [])) (⟨Nat.zero_le _, rfl, OwnA.nil⟩) ⟨rfl, rfl, rfl, rfl, trivial⟩ ⟨rfl, rfl, rfl, rfl, trivial⟩ (fun ⟨k, xs, a, c, junk⟩ => fun (hk : k ≤ p.regs.toNat ∧ xs = (start p).take k ∧ OwnA a c xs junk) => ?_)
  obtain ⟨hk1, hxs, ho⟩ := hk
  have hlen : xs.length = k := by rw [hxs, List.length_take]; omega
  have hst : k < p.regs.toNat → (start p).take (k + 1) = (start p).take k ++ [if p.ins < ((k : Nat) : Int) then p.ins else ((k : Nat) : Int)] := fun hkl => by
    rw [List.take_add_one]
    simp [start, hkl]
  refine Wc.seq ?_
  refine Wc.seq ?_
  refine Wc.region rfl ?_
  refine Wl.q rfl (Qy.move rfl) ?_
  refine Wl.q rfl (Qy.fieldAddr T.fa25_1 rfl) ?_
  refine Wl.q rfl (Qy.load 2 T.one3 rfl rfl rfl) ?_
  refine Wl.q rfl (Qy.lss rfl rfl) ?_
  refine Wl.done ?_
  refine Ar.next ?_
  refine Wc.cond rfl (fun hc1 => ?_) (fun hc1 => ?_)
  refine Wc.skip ?_
  refine Ar.next ?_
  refine Wc.seq ?_
  refine Wc.block ?_
  refine Wc.seq ?_
  refine Wc.region rfl ?_
  refine Wl.q rfl (Qy.move rfl) ?_
  refine Wl.q rfl (Qy.fieldAddr T.fa25_0 rfl) ?_
  refine Wl.q rfl (Qy.load 2 T.one3 rfl rfl rfl) ?_
  refine Wl.q rfl (Qy.lss rfl rfl) ?_
  refine Wl.done ?_
  refine Ar.next ?_
  refine Wc.cond rfl (fun hc2 => ?_) (fun hc2 => ?_)
  refine Wc.region rfl ?_
  refine Wl.q rfl (Qy.move rfl) ?_
  refine Wl.q rfl (Qy.move rfl) ?_
  refine Wl.q rfl (Qy.nilCheck rfl) ?_
  refine Wl.q rfl (Qy.fieldAddr T.fa61_0 rfl) ?_
  refine Wl.q rfl (Qy.load 3 T.one23 rfl rfl rfl) ?_
  refine Wl.q rfl (Qy.move rfl) ?_
  refine Wl.lit (α := Int) 4 [((↑k : Int))] rfl T.sl23 T.el3 rfl rfl rfl rfl rfl (fun b3 => ?_)
  refine Wl.append (α := Int) 0 rfl T.sl23 T.el3 rfl rfl rfl (by first | assumption | exact OwnA.nil | exact OwnA.made (by simp)) (Src.row 4 rfl) (by first | omega | (simp only [List.length_append, List.length_cons, List.length_nil, maxLen]; omega)) (by first | omega | (simp only [List.length_append, List.length_cons, List.length_nil, maxLen]; omega)) (fun a1 c1 junk1 ho1 => ?_)
  refine Wl.q rfl (Qy.nilCheck rfl) ?_
  refine Wl.q rfl (Qy.fieldAddr T.fa61_0 rfl) ?_
  refine Wl.store 3 T.one23 rfl rfl rfl rfl rfl ?_
  refine Wl.done ?_
  refine Ar.outNormal ?_
  refine Ar.next ?_
  refine Wc.region rfl ?_
  refine Wl.q rfl (Qy.move rfl) ?_
  refine Wl.q rfl (Qy.add rfl rfl (by omega)) ?_
  refine Wl.q rfl (Qy.assign rfl) ?_
  refine Wl.done ?_
  rotate_left
  refine Wc.draw [1, 2, 3, 0] [(3, 11), (0, 8), (1, 8)] T.mixed rfl ?_
  refine Gm.q 0 [] (by kernel_rfl) rfl rfl (Qy.move rfl) ?_
  refine Gm.q 1 [] (by kernel_rfl) rfl rfl (Qy.move rfl) ?_
  refine Gm.q 2 [] (by kernel_rfl) rfl rfl (Qy.nilCheck rfl) ?_
  refine Gm.q 3 [] (by kernel_rfl) rfl rfl (Qy.fieldAddr T.fa61_0 rfl) ?_
  refine Gm.q 4 [3] (by kernel_rfl) rfl rfl (Qy.load 3 T.one23 rfl rfl rfl) ?_
  refine Gm.q 5 [] (by kernel_rfl) rfl rfl (Qy.fieldAddr T.fa25_0 rfl) ?_
  refine Gm.q 6 [2] (by kernel_rfl) rfl rfl (Qy.load 2 T.one3 rfl rfl rfl) ?_
  refine Gm.one 7 ⟨rfl, rfl, rfl, rfl, trivial⟩ (by first | exact Imm.le_refl _ | assumption) (by kernel_rfl) rfl ?_
  refine Wl.lit (α := Int) 4 [(Go.Proofs.Ytfleehgbpgmcnaa.PV.ins p)] rfl T.sl23 T.el3 rfl rfl rfl rfl rfl (fun b3 => ?_)
  refine Wl.on0 ?_
  refine Gm.one 8 ⟨rfl, rfl, rfl, rfl, trivial⟩ (by first | exact Imm.le_refl _ | assumption) (by kernel_rfl) rfl ?_
  refine Wl.append (α := Int) 0 rfl T.sl23 T.el3 rfl rfl rfl (by first | assumption | exact OwnA.nil | exact OwnA.made (by simp)) (Src.row 4 rfl) (by first | omega | (simp only [List.length_append, List.length_cons, List.length_nil, maxLen]; omega)) (by first | omega | (simp only [List.length_append, List.length_cons, List.length_nil, maxLen]; omega)) (fun a1 c1 junk1 ho1 => ?_)
  refine Wl.on0 ?_
  refine Gm.q 9 [] (by kernel_rfl) rfl rfl (Qy.nilCheck rfl) ?_
  refine Gm.q 10 [] (by kernel_rfl) rfl rfl (Qy.fieldAddr T.fa61_0 rfl) ?_
  refine Gm.one 11 ⟨rfl, rfl, trivial⟩ (by first | exact Imm.le_refl _ | assumption) (by kernel_rfl) rfl ?_
  refine Wl.store 3 T.one23 rfl rfl rfl rfl rfl ?_
  refine Wl.on0 ?_
  refine Gm.doneA (by kernel_rfl) ⟨rfl, trivial⟩ (by first | exact Imm.le_refl _ | assumption) ?_
  refine Ar.outNormal ?_
  refine Ar.next ?_
  refine Wc.region rfl ?_
  refine Wl.q rfl (Qy.move rfl) ?_
  refine Wl.q rfl (Qy.add rfl rfl (by omega)) ?_
  refine Wl.q rfl (Qy.assign rfl) ?_
  refine Wl.done ?_
  rotate_left
  refine Wc.exit ?_
  refine Ar.passExit ?_
  refine Ar.passExit ?_
  refine Ar.here ?_
  refine Ar.next ?_
  refine Wc.seq ?_
  refine Wc.region rfl ?_
  refine Wl.q rfl (Qy.move rfl) ?_
  refine Wl.q rfl (Qy.assign rfl) ?_
  refine Wl.done ?_
  refine Ar.next ?_
  refine Wc.ret ?_
  refine Ar.pick [3, 0, 1] (by decide) (Ar.out1 (.inr rfl) rfl (.tmp rfl) (Hp.sub_self 0 _) ?_)
  rotate_left
  · refine Ar.again ((k + 1, _, a1, c1, junk1)) ?_ ?_ rfl ⟨rfl, rfl, rfl, rfl, trivial⟩ ⟨rfl, rfl, rfl, rfl, trivial⟩
    · refine ⟨by omega, ?_, ho1⟩
      rw [hst (by omega), hxs, if_neg (by omega)]
    · show p.regs.toNat - (k + 1) < p.regs.toNat - k
      omega
  · refine Ar.again ((k + 1, _, a1, c1, junk1)) ?_ ?_ rfl ⟨rfl, rfl, rfl, rfl, trivial⟩ ⟨rfl, rfl, rfl, rfl, trivial⟩
    · refine ⟨by omega, ?_, ho1⟩
      rw [hst (by omega), hxs]
      congr 2
      split <;> omega
    · show p.regs.toNat - (k + 1) < p.regs.toNat - k
      omega
  · have hk : k = p.regs.toNat := by omega
    have htk : xs = start p := by rw [hxs]; exact List.take_of_length_le (by omega)
    rw [htk] at ho ⊢
    exact ⟨b2, a, c, junk, rfl, ho, rfl, rfl⟩
theorem c59 (G : Imm) (held : List Int) (ks : List R6) (next : Int) (bs : Nat) (a : Option Addr) (c : Nat) (junk : List Value) (b : Option Addr) (d : Nat) (j : List Value) (v : Int) (ho : OwnA a c held junk) (hl : held.length ≤ 128) :
    Does Try.prog 59 [.pointer (some ⟨bs, 0, none⟩), .int .i64 v] G (StH held ks next bs a c junk b d j) (fun r G' Ho => r = .int .i64 (holder held v) ∧ G' = G ∧ Ho = StH held ks next bs a c junk b d j) := by
  refine Does.enter Try.func59 rfl Try.ntmps59 rfl (fun w => ?_)
  refine Wc.seq ?_
  refine Wc.region rfl ?_
  refine Wl.q rfl (Qy.assign rfl) ?_
  refine Wl.done ?_
  refine Ar.next ?_
  refine Wc.seq ?_
  refine Wc.seq ?_
  refine Wc.region rfl ?_
  refine Wl.q rfl (Qy.assign rfl) ?_
  refine Wl.done ?_
  refine Ar.next ?_
  refine Wc.block ?_
  refine Wc.loop (ι := Nat) (fun k => ([(5, .int .i64 (k : Int)), (0, Go.Value.pointer (Option.some (Go.Addr.mk bs 0 Option.none))), (1, Go.Value.int Go.IntKind.i64 v)], [(0, Option.some bs, Go.Obj.cells #[Go.Value.slice a (List.length held) c, Go.Value.slice b (List.length ks) d, Go.Value.int Go.IntKind.i64 next] 61), (1, Option.map (fun x => Go.Addr.block x) a, Go.Sl.Row (α := Int) 3 (held) (junk)), (2, Option.map (fun x => Go.Addr.block x) b, Go.Sl.Row (α := Go.Sl.R6) 99 (ks) (j))])) (fun k => k ≤ held.length ∧ (held.take k).all (fun x => !decide (x = v)) = true) (fun k => held.length - k) (0) (⟨Nat.zero_le _, rfl⟩) ⟨rfl, rfl, rfl, trivial⟩ ⟨rfl, rfl, rfl, trivial⟩ (fun k => fun (hk : k ≤ held.length ∧ (held.take k).all (fun x => !decide (x = v)) = true) => ?_)
  obtain ⟨hk1, hk2⟩ := hk
  refine Wc.seq ?_
  refine Wc.seq ?_
  refine Wc.region rfl ?_
  refine Wl.q rfl (Qy.move rfl) ?_
  refine Wl.q rfl (Qy.move rfl) ?_
  refine Wl.q rfl (Qy.nilCheck rfl) ?_
  refine Wl.q rfl (Qy.fieldAddr T.fa61_0 rfl) ?_
  refine Wl.q rfl (Qy.load 0 T.one23 rfl rfl rfl) ?_
  refine Wl.q rfl (Qy.len T.sl23 rfl) ?_
  refine Wl.q rfl (Qy.lss rfl rfl) ?_
  refine Wl.done ?_
  refine Ar.next ?_
  refine Wc.cond rfl (fun hc1 => ?_) (fun hc1 => ?_)
  refine Wc.skip ?_
  refine Ar.next ?_
  refine Wc.seq ?_
  refine Wc.block ?_
  refine Wc.seq ?_
  refine Wc.region rfl ?_
  refine Wl.q rfl (Qy.move rfl) ?_
  refine Wl.q rfl (Qy.nilCheck rfl) ?_
  refine Wl.q rfl (Qy.fieldAddr T.fa61_0 rfl) ?_
  refine Wl.q rfl (Qy.load 0 T.one23 rfl rfl rfl) ?_
  refine Wl.q rfl (Qy.move rfl) ?_
  refine Wl.q rfl (Qy.indexAddrO (α := Int) T.sl23 rfl rfl (by assumption) (by omega)) ?_
  refine Wl.q rfl (Qy.loadO 1 0 T.one3 rfl rfl (by assumption) (by omega) rfl rfl) ?_
  refine Wl.q rfl (Qy.move rfl) ?_
  refine Wl.q rfl (Qy.eql rfl rfl) ?_
  refine Wl.done ?_
  refine Ar.next ?_
  refine Wc.cond rfl (fun hc2 => ?_) (fun hc2 => ?_)
  refine Wc.seq ?_
  refine Wc.region rfl ?_
  refine Wl.q rfl (Qy.move rfl) ?_
  refine Wl.q rfl (Qy.assign rfl) ?_
  refine Wl.done ?_
  refine Ar.next ?_
  refine Wc.ret ?_
  refine Ar.outRet ?_
  refine Ar.passRet ?_
  refine Ar.passRet ?_
  refine Ar.outRet ?_
  refine Ar.passRet ?_
  refine Ar.out1 (.inr rfl) (Ho := Hp.only _ [0, 1, 2]) rfl (.tmp rfl) (Hp.sub_only _ _) ?_
  rotate_left
  refine Wc.skip ?_
  refine Ar.outNormal ?_
  refine Ar.next ?_
  refine Wc.region rfl ?_
  refine Wl.q rfl (Qy.move rfl) ?_
  refine Wl.q rfl (Qy.add rfl rfl (by omega)) ?_
  refine Wl.q rfl (Qy.assign rfl) ?_
  refine Wl.done ?_
  rotate_left
  refine Wc.exit ?_
  refine Ar.passExit ?_
  refine Ar.passExit ?_
  refine Ar.here ?_
  refine Ar.next ?_
  refine Wc.seq ?_
  refine Wc.region rfl ?_
  refine Wl.q rfl (Qy.assign rfl) ?_
  refine Wl.done ?_
  refine Ar.next ?_
  refine Wc.ret ?_
  refine Ar.out1 (.inr rfl) (Ho := Hp.only _ [0, 1, 2]) rfl (.tmp rfl) (Hp.sub_only _ _) ?_
  rotate_left
  · refine ⟨?_, rfl, rfl⟩
    have := find_bad (p := fun x => !decide (x = v)) (l := held) (k := k) (by omega) hk2 (by simpa using hc2)
    simp only [Bool.not_not] at this
    simp [holder, this]
  · refine Ar.again (k + 1) ?_ ?_ rfl ⟨rfl, rfl, rfl, trivial⟩ ⟨rfl, rfl, rfl, trivial⟩
    · refine ⟨by omega, ?_⟩
      rw [all_step _ (by omega), hk2]
      simpa using hc2
    · omega
  · refine ⟨?_, rfl, rfl⟩
    have hk : k = held.length := by omega
    subst hk
    rw [List.take_length] at hk2
    have := find_none hk2
    simp only [Bool.not_not] at this
    simp [holder, this]
theorem keyR_iff {r : R6} {x : K4} : keyR r = x ↔ (((r.a = x.op ∧ r.b = x.a) ∧ r.c = x.b) ∧ r.d = x.c) := by
  cases x; simp [keyR, and_assoc]
theorem mget_at {g : R6 → Int} {x : K4} : ∀ {ks : List R6} {k : Nat}, k < ks.length → (ks.take k).all (fun r => !decide (keyR r = x)) = true → keyR (ks[((k : Nat) : Int).toNat]?.getD default) = x →
    mget (ks.map fun r => (keyR r, g r)) x = some (g (ks[((k : Nat) : Int).toNat]?.getD default))
  | [], k, h, _, _ => by simp at h
  | r :: ks, 0, _, _, h2 => by
    have h2 : keyR r = x := by simpa using h2
    simp [mget, h2]
  | r :: ks, k + 1, h, h1, h2 => by
    simp only [List.take_succ_cons, List.all_cons, Bool.and_eq_true, Bool.not_eq_true', decide_eq_false_iff_not] at h1
    have ih := mget_at (g := g) (x := x) (ks := ks) (k := k) (by simpa using h) (by simpa using h1.2) (by simpa [Int.toNat_natCast] using h2)
    rw [Int.toNat_natCast] at ih ⊢
    rw [List.getElem?_cons_succ, ← ih]
    simp [mget, h1.1]
theorem mget_not {g : R6 → Int} {x : K4} {ks : List R6} (h : ks.all (fun r => !decide (keyR r = x)) = true) : mget (ks.map fun r => (keyR r, g r)) x = none := by
  rw [mget_none, List.findIdx?_eq_none_iff]
  intro y hy
  simp only [List.map_map, List.mem_map] at hy
  obtain ⟨r, hr, rfl⟩ := hy
  simpa using List.all_eq_true.1 h r hr
theorem c26 (G : Imm) (held : List Int) (ks : List R6) (next : Int) (bs : Nat) (a : Option Addr) (c : Nat) (junk : List Value) (b : Option Addr) (d : Nat) (j : List Value) (n : Int) (i : Sl.Instr) (ho : OwnA a c held junk) (hks : OwnA b d ks j)
    (hl : held.length ≤ 128) (hkl : ks.length ≤ 1000000) (hm : mayOk i held.length = true) (hn : 0 ≤ next ∧ next ≤ 1000000) :
    Does Try.prog 26 [.pointer (some ⟨bs, 0, none⟩), .int .i64 n, .agg (Cells.enc i).toArray] G (StH held ks next bs a c junk b d j)
      (fun r G' Ho => ∃ ks' b' d' j', r = .tuple #[.int .i64 (reckonP (tabOf held ks next) n i).1.1, .int .i64 (reckonP (tabOf held ks next) n i).1.2] ∧ tabOf held ks' (reckonP (tabOf held ks next) n i).2.next = (reckonP (tabOf held ks next) n i).2 ∧
        OwnA b' d' ks' j' ∧ ks'.length ≤ ks.length + 1 ∧ G' = G ∧ Ho = StH held ks' (reckonP (tabOf held ks next) n i).2.next bs a c junk b' d' j') := by
  rw [mayOk_iff] at hm
  obtain ⟨⟨hop1, hop2, hto1, hto2, ha1, ha2⟩, hb⟩ := hm
  have hb : i.op = 3 ∨ i.op = 4 → 0 ≤ i.b ∧ i.b < held.length := fun h => by rw [if_pos h] at hb; omega
  refine Does.enter Try.func26 rfl Try.ntmps26 rfl (fun w => ?_)
  refine Wc.seq ?_
  refine Wc.region rfl ?_
  refine Wl.box 3 rfl rfl rfl (fun b1 => ?_)
  refine Wl.q rfl (Qy.assign rfl) ?_
  refine Wl.q rfl (Qy.assign rfl) ?_
  refine Wl.done ?_
  refine Ar.next ?_
  refine Wc.seq ?_
  refine Wc.seq ?_
  refine Wc.region rfl ?_
  refine Wl.q rfl (Qy.fieldAddr T.fa34_0 rfl) ?_
  refine Wl.q rfl (Qy.load 3 T.one3 rfl rfl rfl) ?_
  refine Wl.q rfl (Qy.eql rfl rfl) ?_
  refine Wl.done ?_
  refine Ar.next ?_
  refine Wc.cond rfl (fun hc1 => ?_) (fun hc1 => ?_)
  refine Wc.seq ?_
  refine Wc.draw [2, 1, 0, 3] [] T.mixed rfl ?_
  refine Gm.q 0 [] (by kernel_rfl) rfl rfl (Qy.move rfl) ?_
  refine Gm.q 1 [] (by kernel_rfl) rfl rfl (Qy.nilCheck rfl) ?_
  refine Gm.q 2 [] (by kernel_rfl) rfl rfl (Qy.fieldAddr T.fa61_0 rfl) ?_
  refine Gm.q 3 [0] (by kernel_rfl) rfl rfl (Qy.load 0 T.one23 rfl rfl rfl) ?_
  refine Gm.q 4 [] (by kernel_rfl) rfl rfl (Qy.fieldAddr T.fa34_2 rfl) ?_
  refine Gm.q 5 [3] (by kernel_rfl) rfl rfl (Qy.load 3 T.one3 rfl rfl rfl) ?_
  refine Gm.q 6 [] (by kernel_rfl) rfl rfl (Qy.indexAddrO (α := Int) T.sl23 rfl rfl (by assumption) (by omega)) ?_
  refine Gm.q 7 [1, 0] (by kernel_rfl) rfl rfl (Qy.loadO 1 0 T.one3 rfl rfl (by assumption) (by omega) rfl rfl) ?_
  refine Gm.q 8 [] (by kernel_rfl) rfl rfl (Qy.assign rfl) ?_
  refine Gm.q 9 [] (by kernel_rfl) rfl rfl (Qy.assign rfl) ?_
  refine Gm.doneA (by kernel_rfl) ⟨rfl, rfl, rfl, rfl, trivial⟩ (by first | exact Imm.le_refl _ | assumption) ?_
  refine Ar.next ?_
  refine Wc.ret ?_
  refine Ar.passRet ?_
  refine Ar.out2 (.inr rfl) (Ho := Hp.only _ [0, 1, 2]) rfl (.tmp rfl) (.tmp rfl) (Hp.sub_only _ _) ?_
  rotate_left
  refine Wc.skip ?_
  refine Ar.next ?_
  refine Wc.seq ?_
  refine Wc.draw [2, 1, 0, 3] [(3, 19), (0, 19), (1, 19), (2, 19)] T.mixed rfl ?_
  refine Gm.q 0 [] (by kernel_rfl) rfl rfl (Qy.fieldAddr T.fa34_0 rfl) ?_
  refine Gm.q 1 [3] (by kernel_rfl) rfl rfl (Qy.load 3 T.one3 rfl rfl rfl) ?_
  refine Gm.q 2 [] (by kernel_rfl) rfl rfl (Qy.move rfl) ?_
  refine Gm.q 3 [] (by kernel_rfl) rfl rfl (Qy.nilCheck rfl) ?_
  refine Gm.q 4 [] (by kernel_rfl) rfl rfl (Qy.fieldAddr T.fa61_0 rfl) ?_
  refine Gm.q 5 [0] (by kernel_rfl) rfl rfl (Qy.load 0 T.one23 rfl rfl rfl) ?_
  refine Gm.q 6 [] (by kernel_rfl) rfl rfl (Qy.fieldAddr T.fa34_2 rfl) ?_
  refine Gm.q 7 [3] (by kernel_rfl) rfl rfl (Qy.load 3 T.one3 rfl rfl rfl) ?_
  refine Gm.q 8 [] (by kernel_rfl) rfl rfl (Qy.indexAddrO (α := Int) T.sl23 rfl rfl (by assumption) (by omega)) ?_
  refine Gm.q 9 [1, 0] (by kernel_rfl) rfl rfl (Qy.loadO 1 0 T.one3 rfl rfl (by assumption) (by omega) rfl rfl) ?_
  refine Gm.q 10 [] (by kernel_rfl) rfl rfl (Qy.fieldAddr T.fa34_4 rfl) ?_
  refine Gm.q 11 [3] (by kernel_rfl) rfl rfl (Qy.load 3 T.one3 rfl rfl rfl) ?_
  refine Gm.q 12 [] (by kernel_rfl) rfl rfl (Qy.move rfl) ?_
  refine Gm.q 13 [] (by kernel_rfl) rfl rfl (Qy.move rfl) ?_
  refine Gm.q 14 [] (by kernel_rfl) rfl rfl (Qy.nilCheck rfl) ?_
  refine Gm.q 15 [] (by kernel_rfl) rfl rfl (Qy.fieldAddr T.fa61_2 rfl) ?_
  refine Gm.q 16 [0] (by kernel_rfl) rfl rfl (Qy.load 0 T.one3 rfl rfl rfl) ?_
  refine Gm.q 17 [] (by kernel_rfl) rfl rfl (Qy.build (cs := [_, _, _, _, _, _]) T.st99 rfl rfl rfl) ?_
  refine Gm.one 18 ⟨rfl, rfl, rfl, rfl, trivial⟩ (by first | exact Imm.le_refl _ | assumption) (by kernel_rfl) rfl ?_
  refine Wl.alloc 4 rfl T.zero99 (fun b2 => ?_)
  refine Wl.on0 ?_
  refine Gm.one 19 ⟨rfl, rfl, rfl, rfl, trivial⟩ (by first | exact Imm.le_refl _ | assumption) (by kernel_rfl) rfl ?_
  refine Wl.storeAll 4 T.size99 rfl rfl rfl rfl rfl rfl ?_
  refine Wl.on0 ?_
  refine Gm.doneA (by kernel_rfl) trivial (by first | exact Imm.le_refl _ | assumption) ?_
  refine Ar.next ?_
  rotate_left
  · have h : reckonP (tabOf held ks next) n i = ((held[i.a.toNat]?.getD default, -1), tabOf held ks next) := if_pos hc1
    rw [h]
    exact ⟨ks, b, d, j, rfl, rfl, hks, Nat.le_succ _, rfl, rfl⟩
  · refine Wc.meet (ι := Int) (fun v => ([(8, Go.Value.pointer (Option.some (Go.Addr.mk b2 0 Option.none))), (7, Go.Value.int Go.IntKind.i64 0), (6, Go.Value.int Go.IntKind.i64 0), (5, Go.Value.pointer (Option.some (Go.Addr.mk b1 0 Option.none))), (0, Go.Value.pointer (Option.some (Go.Addr.mk bs 0 Option.none))), (1, Go.Value.int Go.IntKind.i64 n)], [(4, some b2, .cells #[.int .i64 i.op, .int .i64 (held[i.a.toNat]?.getD default), .int .i64 v, .int .i64 i.c, .int .i64 n, .int .i64 next] 99), (3, Option.some b1, Go.Obj.cells (List.toArray (Go.Sl.Cells.enc i)) 34), (0, Option.some bs, Go.Obj.cells #[Go.Value.slice a (List.length held) c, Go.Value.slice b (List.length ks) d, Go.Value.int Go.IntKind.i64 next] 61), (1, Option.map (fun x => Go.Addr.block x) a, Go.Sl.Row (α := Int) 3 (held) (junk)), (2, Option.map (fun x => Go.Addr.block x) b, Go.Sl.Row (α := Go.Sl.R6) 99 (ks) (j))])) (fun v => v = if i.op = 3 ∨ i.op = 4 then held[i.b.toNat]?.getD default else -1) ?_ (fun v => fun (hk : v = if i.op = 3 ∨ i.op = 4 then held[i.b.toNat]?.getD default else -1) => ?_)
    · refine Wc.seq ?_
      refine Wc.region rfl ?_
      refine Wl.q rfl (Qy.fieldAddr T.fa34_0 rfl) ?_
      refine Wl.q rfl (Qy.load 3 T.one3 rfl rfl rfl) ?_
      refine Wl.q rfl (Qy.eql rfl rfl) ?_
      refine Wl.q rfl (Qy.move rfl) ?_
      apply Wl.joinOr 4 43 47 rfl
      intro hg1
      refine Wl.want rfl rfl ?_
      refine Wl.q rfl (Qy.fieldAddr T.fa34_0 rfl) ?_
      refine Wl.want rfl rfl ?_
      refine Wl.q rfl (Qy.load 3 T.one3 rfl rfl rfl) ?_
      refine Wl.want rfl rfl ?_
      refine Wl.q rfl (Qy.eql rfl rfl) ?_
      refine Wl.q rfl (Qy.pick rfl rfl) ?_
      exact Wl.back 4 0 rfl rfl rfl rfl rfl
      intro hg1
      refine Wl.pass rfl rfl rfl ?_
      refine Wl.pass rfl rfl rfl ?_
      refine Wl.pass rfl rfl rfl ?_
      refine Wl.q rfl (Qy.pick rfl rfl) ?_
      exact Wl.back 4 0 rfl rfl rfl rfl rfl
      refine Wl.done ?_
      refine Ar.next ?_
      refine Wc.cond rfl (fun hc2 => ?_) (fun hc2 => ?_)
      refine Wc.draw [2, 1, 0, 3, 4] [(4, 9)] T.mixed rfl ?_
      refine Gm.q 0 [] (by kernel_rfl) rfl rfl (Qy.move rfl) ?_
      refine Gm.q 1 [] (by kernel_rfl) rfl rfl (Qy.nilCheck rfl) ?_
      refine Gm.q 2 [] (by kernel_rfl) rfl rfl (Qy.fieldAddr T.fa61_0 rfl) ?_
      refine Gm.q 3 [0] (by kernel_rfl) rfl rfl (Qy.load 0 T.one23 rfl rfl rfl) ?_
      refine Gm.q 4 [] (by kernel_rfl) rfl rfl (Qy.fieldAddr T.fa34_3 rfl) ?_
      refine Gm.q 5 [3] (by kernel_rfl) rfl rfl (Qy.load 3 T.one3 rfl rfl rfl) ?_
      refine Gm.q 6 [] (by kernel_rfl) rfl rfl (Qy.indexAddrO (α := Int) T.sl23 rfl rfl (by assumption) (by omega)) ?_
      refine Gm.q 7 [1, 0] (by kernel_rfl) rfl rfl (Qy.loadO 1 0 T.one3 rfl rfl (by assumption) (by omega) rfl rfl) ?_
      refine Gm.q 8 [] (by kernel_rfl) rfl rfl (Qy.fieldAddr T.fa99_2 rfl) ?_
      refine Gm.one 9 ⟨rfl, rfl, rfl, rfl, rfl, trivial⟩ (by first | exact Imm.le_refl _ | assumption) (by kernel_rfl) rfl ?_
      refine Wl.store 4 T.one3 rfl rfl rfl rfl rfl ?_
      refine Wl.on0 ?_
      refine Gm.doneA (by kernel_rfl) ⟨rfl, rfl, rfl, rfl, trivial⟩ (by first | exact Imm.le_refl _ | assumption) ?_
      rotate_left
      refine Wc.skip ?_
      rotate_left
      · refine Ar.meet (held[i.b.toNat]?.getD default) ?_ rfl ⟨rfl, rfl, rfl, rfl, rfl, rfl, trivial⟩ ⟨rfl, rfl, rfl, rfl, rfl, trivial⟩
        rw [if_pos hc2]
      · refine Ar.meet (-1) ?_ rfl ⟨rfl, rfl, rfl, rfl, rfl, rfl, trivial⟩ ⟨rfl, rfl, rfl, rfl, rfl, trivial⟩
        rw [if_neg hc2]
    · refine Wc.meet (ι := K4) (fun x => ([(8, Go.Value.pointer (Option.some (Go.Addr.mk b2 0 Option.none))), (7, Go.Value.int Go.IntKind.i64 0), (6, Go.Value.int Go.IntKind.i64 0), (0, Go.Value.pointer (Option.some (Go.Addr.mk bs 0 Option.none))), (1, Go.Value.int Go.IntKind.i64 n)], [(4, some b2, .cells #[.int .i64 x.op, .int .i64 x.a, .int .i64 x.b, .int .i64 x.c, .int .i64 n, .int .i64 next] 99), (3, Option.some b1, Go.Obj.cells (List.toArray (Go.Sl.Cells.enc i)) 34), (0, Option.some bs, Go.Obj.cells #[Go.Value.slice a (List.length held) c, Go.Value.slice b (List.length ks) d, Go.Value.int Go.IntKind.i64 next] 61), (1, Option.map (fun x => Go.Addr.block x) a, Go.Sl.Row (α := Int) 3 (held) (junk)), (2, Option.map (fun x => Go.Addr.block x) b, Go.Sl.Row (α := Go.Sl.R6) 99 (ks) (j))])) (fun x => x = keyOf held i) ?_ (fun x => fun (hk : x = keyOf held i) => ?_)
      · refine Wc.seq ?_
        refine Wc.region rfl ?_
        refine Wl.q rfl (Qy.fieldAddr T.fa34_0 rfl) ?_
        refine Wl.q rfl (Qy.load 3 T.one3 rfl rfl rfl) ?_
        refine Wl.q rfl (Qy.eql rfl rfl) ?_
        refine Wl.q rfl (Qy.move rfl) ?_
        apply Wl.joinAnd 6 60 66 rfl
        intro hg1
        refine Wl.want rfl rfl ?_
        refine Wl.q rfl (Qy.fieldAddr T.fa99_1 rfl) ?_
        refine Wl.want rfl rfl ?_
        refine Wl.q rfl (Qy.load 4 T.one3 rfl rfl rfl) ?_
        refine Wl.want rfl rfl ?_
        refine Wl.q rfl (Qy.fieldAddr T.fa99_2 rfl) ?_
        refine Wl.want rfl rfl ?_
        refine Wl.q rfl (Qy.load 4 T.one3 rfl rfl rfl) ?_
        refine Wl.want rfl rfl ?_
        refine Wl.q rfl (Qy.gtr rfl rfl) ?_
        refine Wl.q rfl (Qy.pick rfl rfl) ?_
        exact Wl.back 6 0 rfl rfl rfl rfl rfl
        intro hg1
        refine Wl.pass rfl rfl rfl ?_
        refine Wl.pass rfl rfl rfl ?_
        refine Wl.pass rfl rfl rfl ?_
        refine Wl.pass rfl rfl rfl ?_
        refine Wl.pass rfl rfl rfl ?_
        refine Wl.q rfl (Qy.pick rfl rfl) ?_
        exact Wl.back 6 0 rfl rfl rfl rfl rfl
        refine Wl.done ?_
        refine Ar.next ?_
        refine Wc.cond rfl (fun hc2 => ?_) (fun hc2 => ?_)
        refine Wc.region rfl ?_
        refine Wl.q rfl (Qy.fieldAddr T.fa99_2 rfl) ?_
        refine Wl.q rfl (Qy.load 4 T.one3 rfl rfl rfl) ?_
        refine Wl.q rfl (Qy.fieldAddr T.fa99_1 rfl) ?_
        refine Wl.q rfl (Qy.load 4 T.one3 rfl rfl rfl) ?_
        refine Wl.q rfl (Qy.fieldAddr T.fa99_1 rfl) ?_
        refine Wl.store 4 T.one3 rfl rfl rfl rfl rfl ?_
        refine Wl.q rfl (Qy.fieldAddr T.fa99_2 rfl) ?_
        refine Wl.store 4 T.one3 rfl rfl rfl rfl rfl ?_
        refine Wl.done ?_
        rotate_left
        refine Wc.skip ?_
        rotate_left
        · refine Ar.meet (⟨i.op, v, held[i.a.toNat]?.getD default, i.c⟩) ?_ rfl ⟨rfl, rfl, rfl, rfl, rfl, trivial⟩ ⟨rfl, rfl, rfl, rfl, rfl, trivial⟩
          have hv : v = held[i.b.toNat]?.getD default := by rw [hk, if_pos (by omega)]
          unfold keyOf
          rw [if_pos (by omega), ← hv, if_pos hc2]
        · refine Ar.meet (⟨i.op, held[i.a.toNat]?.getD default, v, i.c⟩) ?_ rfl ⟨rfl, rfl, rfl, rfl, rfl, trivial⟩ ⟨rfl, rfl, rfl, rfl, rfl, trivial⟩
          unfold keyOf
          by_cases h3 : i.op = 3 ∨ i.op = 4
          · rw [if_pos h3] at hk ⊢
            rw [← hk, if_neg hc2]
          · rw [if_neg h3] at hk ⊢
            rw [hk]
      · have hx := hk
        clear hk
        have hkn : ∀ y : List R6, mget (y.map fun k => (keyR k, k.f)) x = none → mget (y.map fun k => (keyR k, k.e)) x = none := fun y h => by
          rw [mget_none] at h ⊢
          simpa using h
        refine Wc.seq ?_
        refine Wc.seq ?_
        refine Wc.region rfl ?_
        refine Wl.q rfl (Qy.assign rfl) ?_
        refine Wl.done ?_
        refine Ar.next ?_
        refine Wc.block ?_
        refine Wc.loop (ι := Nat) (fun k => ([(9, .int .i64 (k : Int)), (8, Go.Value.pointer (Option.some (Go.Addr.mk b2 0 Option.none))), (0, Go.Value.pointer (Option.some (Go.Addr.mk bs 0 Option.none))), (1, Go.Value.int Go.IntKind.i64 n)], [(4, Option.some b2, Go.Obj.cells #[Go.Value.int Go.IntKind.i64 (Go.Sl.K4.op x), Go.Value.int Go.IntKind.i64 (Go.Sl.K4.a x), Go.Value.int Go.IntKind.i64 (Go.Sl.K4.b x), Go.Value.int Go.IntKind.i64 (Go.Sl.K4.c x), Go.Value.int Go.IntKind.i64 n, Go.Value.int Go.IntKind.i64 next] 99), (3, Option.some b1, Go.Obj.cells (List.toArray (Go.Sl.Cells.enc i)) 34), (0, Option.some bs, Go.Obj.cells #[Go.Value.slice a (List.length held) c, Go.Value.slice b (List.length ks) d, Go.Value.int Go.IntKind.i64 next] 61), (1, Option.map (fun x => Go.Addr.block x) a, Go.Sl.Row (α := Int) 3 (held) (junk)), (2, Option.map (fun x => Go.Addr.block x) b, Go.Sl.Row (α := Go.Sl.R6) 99 (ks) (j))])) (fun k => k ≤ ks.length ∧ (ks.take k).all (fun r => !decide (keyR r = x)) = true) (fun k => ks.length - k) (0) (⟨Nat.zero_le _, rfl⟩) ⟨rfl, rfl, rfl, rfl, trivial⟩ ⟨rfl, rfl, rfl, rfl, rfl, trivial⟩ (fun k => fun (hk : k ≤ ks.length ∧ (ks.take k).all (fun r => !decide (keyR r = x)) = true) => ?_)
        obtain ⟨hk1, hk2⟩ := hk
        refine Wc.seq ?_
        refine Wc.seq ?_
        refine Wc.region rfl ?_
        refine Wl.q rfl (Qy.move rfl) ?_
        refine Wl.q rfl (Qy.move rfl) ?_
        refine Wl.q rfl (Qy.nilCheck rfl) ?_
        refine Wl.q rfl (Qy.fieldAddr T.fa61_1 rfl) ?_
        refine Wl.q rfl (Qy.load 0 T.one59 rfl rfl rfl) ?_
        refine Wl.q rfl (Qy.len T.sl59 rfl) ?_
        refine Wl.q rfl (Qy.lss rfl rfl) ?_
        refine Wl.done ?_
        refine Ar.next ?_
        refine Wc.cond rfl (fun hc2 => ?_) (fun hc2 => ?_)
        refine Wc.skip ?_
        refine Ar.next ?_
        refine Wc.seq ?_
        refine Wc.block ?_
        refine Wc.seq ?_
        refine Wc.region rfl ?_
        refine Wl.q rfl (Qy.move rfl) ?_
        refine Wl.q rfl (Qy.nilCheck rfl) ?_
        refine Wl.q rfl (Qy.fieldAddr T.fa61_1 rfl) ?_
        refine Wl.q rfl (Qy.load 0 T.one59 rfl rfl rfl) ?_
        refine Wl.q rfl (Qy.move rfl) ?_
        refine Wl.q rfl (Qy.indexAddrO (α := R6) T.sl59 rfl rfl (by assumption) (by omega)) ?_
        refine Wl.q rfl (Qy.loadsO 2 T.agg99 rfl rfl (by assumption) (by omega)) ?_
        refine Wl.alloc 5 rfl T.zero99 (fun b3 => ?_)
        refine Wl.storeAll 5 T.size99 rfl rfl rfl rfl rfl rfl ?_
        refine Wl.done ?_
        refine Ar.next ?_
        refine Wc.seq ?_
        refine Wc.region rfl ?_
        refine Wl.q rfl (Qy.fieldAddr T.fa99_0 rfl) ?_
        refine Wl.q rfl (Qy.load 5 T.one3 rfl rfl rfl) ?_
        refine Wl.q rfl (Qy.fieldAddr T.fa99_0 rfl) ?_
        refine Wl.q rfl (Qy.load 4 T.one3 rfl rfl rfl) ?_
        refine Wl.q rfl (Qy.eql rfl rfl) ?_
        refine Wl.q rfl (Qy.move rfl) ?_
        apply Wl.joinAnd 6 94 100 rfl
        intro hg1
        refine Wl.want rfl rfl ?_
        refine Wl.q rfl (Qy.fieldAddr T.fa99_1 rfl) ?_
        refine Wl.want rfl rfl ?_
        refine Wl.q rfl (Qy.load 5 T.one3 rfl rfl rfl) ?_
        refine Wl.want rfl rfl ?_
        refine Wl.q rfl (Qy.fieldAddr T.fa99_1 rfl) ?_
        refine Wl.want rfl rfl ?_
        refine Wl.q rfl (Qy.load 4 T.one3 rfl rfl rfl) ?_
        refine Wl.want rfl rfl ?_
        refine Wl.q rfl (Qy.eql rfl rfl) ?_
        refine Wl.q rfl (Qy.pick rfl rfl) ?_
        exact Wl.back 6 0 rfl rfl rfl rfl rfl
        intro hg1
        refine Wl.pass rfl rfl rfl ?_
        refine Wl.pass rfl rfl rfl ?_
        refine Wl.pass rfl rfl rfl ?_
        refine Wl.pass rfl rfl rfl ?_
        refine Wl.pass rfl rfl rfl ?_
        refine Wl.q rfl (Qy.pick rfl rfl) ?_
        exact Wl.back 6 0 rfl rfl rfl rfl rfl
        refine Wl.q rfl (Qy.move rfl) ?_
        apply Wl.joinAnd 6 101 107 rfl
        intro hg1
        refine Wl.want rfl rfl ?_
        refine Wl.q rfl (Qy.fieldAddr T.fa99_2 rfl) ?_
        refine Wl.want rfl rfl ?_
        refine Wl.q rfl (Qy.load 5 T.one3 rfl rfl rfl) ?_
        refine Wl.want rfl rfl ?_
        refine Wl.q rfl (Qy.fieldAddr T.fa99_2 rfl) ?_
        refine Wl.want rfl rfl ?_
        refine Wl.q rfl (Qy.load 4 T.one3 rfl rfl rfl) ?_
        refine Wl.want rfl rfl ?_
        refine Wl.q rfl (Qy.eql rfl rfl) ?_
        refine Wl.q rfl (Qy.pick rfl rfl) ?_
        exact Wl.back 6 0 rfl rfl rfl rfl rfl
        intro hg1
        refine Wl.pass rfl rfl rfl ?_
        refine Wl.pass rfl rfl rfl ?_
        refine Wl.pass rfl rfl rfl ?_
        refine Wl.pass rfl rfl rfl ?_
        refine Wl.pass rfl rfl rfl ?_
        refine Wl.q rfl (Qy.pick rfl rfl) ?_
        exact Wl.back 6 0 rfl rfl rfl rfl rfl
        refine Wl.q rfl (Qy.move rfl) ?_
        apply Wl.joinAnd 6 108 114 rfl
        intro hg1
        refine Wl.want rfl rfl ?_
        refine Wl.q rfl (Qy.fieldAddr T.fa99_3 rfl) ?_
        refine Wl.want rfl rfl ?_
        refine Wl.q rfl (Qy.load 5 T.one3 rfl rfl rfl) ?_
        refine Wl.want rfl rfl ?_
        refine Wl.q rfl (Qy.fieldAddr T.fa99_3 rfl) ?_
        refine Wl.want rfl rfl ?_
        refine Wl.q rfl (Qy.load 4 T.one3 rfl rfl rfl) ?_
        refine Wl.want rfl rfl ?_
        refine Wl.q rfl (Qy.eql rfl rfl) ?_
        refine Wl.q rfl (Qy.pick rfl rfl) ?_
        exact Wl.back 6 0 rfl rfl rfl rfl rfl
        intro hg1
        refine Wl.pass rfl rfl rfl ?_
        refine Wl.pass rfl rfl rfl ?_
        refine Wl.pass rfl rfl rfl ?_
        refine Wl.pass rfl rfl rfl ?_
        refine Wl.pass rfl rfl rfl ?_
        refine Wl.q rfl (Qy.pick rfl rfl) ?_
        exact Wl.back 6 0 rfl rfl rfl rfl rfl
        refine Wl.done ?_
        refine Ar.next ?_
        refine Wc.cond rfl (fun hc3 => ?_) (fun hc3 => ?_)
        refine Wc.seq ?_
        refine Wc.draw [2, 1, 0, 3, 4, 5] [] T.mixed rfl ?_
        refine Gm.q 0 [] (by kernel_rfl) rfl rfl (Qy.fieldAddr T.fa99_5 rfl) ?_
        refine Gm.q 1 [5] (by kernel_rfl) rfl rfl (Qy.load 5 T.one3 rfl rfl rfl) ?_
        refine Gm.q 2 [] (by kernel_rfl) rfl rfl (Qy.fieldAddr T.fa99_4 rfl) ?_
        refine Gm.q 3 [5] (by kernel_rfl) rfl rfl (Qy.load 5 T.one3 rfl rfl rfl) ?_
        refine Gm.q 4 [] (by kernel_rfl) rfl rfl (Qy.assign rfl) ?_
        refine Gm.q 5 [] (by kernel_rfl) rfl rfl (Qy.assign rfl) ?_
        refine Gm.doneA (by kernel_rfl) ⟨rfl, rfl, rfl, rfl, rfl, rfl, trivial⟩ (by first | exact Imm.le_refl _ | assumption) ?_
        refine Ar.next ?_
        refine Wc.ret ?_
        refine Ar.outRet ?_
        refine Ar.passRet ?_
        refine Ar.passRet ?_
        refine Ar.outRet ?_
        refine Ar.passRet ?_
        refine Ar.out2 (.inr rfl) (Ho := Hp.only _ [0, 1, 2]) rfl (.tmp rfl) (.tmp rfl) (Hp.sub_only _ _) ?_
        rotate_left
        refine Wc.skip ?_
        refine Ar.outNormal ?_
        refine Ar.next ?_
        refine Wc.region rfl ?_
        refine Wl.q rfl (Qy.move rfl) ?_
        refine Wl.q rfl (Qy.add rfl rfl (by omega)) ?_
        refine Wl.q rfl (Qy.assign rfl) ?_
        refine Wl.done ?_
        rotate_left
        refine Wc.exit ?_
        refine Ar.passExit ?_
        refine Ar.passExit ?_
        refine Ar.here ?_
        refine Ar.next ?_
        refine Wc.seq ?_
        refine Wc.draw [2, 1, 0, 3, 4] [(0, 10), (1, 7), (2, 7)] T.mixed rfl ?_
        refine Gm.q 0 [] (by kernel_rfl) rfl rfl (Qy.move rfl) ?_
        refine Gm.q 1 [] (by kernel_rfl) rfl rfl (Qy.move rfl) ?_
        refine Gm.q 2 [] (by kernel_rfl) rfl rfl (Qy.nilCheck rfl) ?_
        refine Gm.q 3 [] (by kernel_rfl) rfl rfl (Qy.fieldAddr T.fa61_1 rfl) ?_
        refine Gm.q 4 [0] (by kernel_rfl) rfl rfl (Qy.load 0 T.one59 rfl rfl rfl) ?_
        refine Gm.q 5 [4] (by kernel_rfl) rfl rfl (Qy.loadAll 4 T.agg99 rfl rfl rfl) ?_
        refine Gm.one 6 ⟨rfl, rfl, rfl, rfl, rfl, trivial⟩ (by first | exact Imm.le_refl _ | assumption) (by kernel_rfl) rfl ?_
        refine Wl.lit (α := R6) 5 [⟨Go.Sl.K4.op x, Go.Sl.K4.a x, Go.Sl.K4.b x, Go.Sl.K4.c x, n, next⟩] rfl T.sl59 T.el99 rfl rfl rfl rfl rfl (fun b3 => ?_)
        refine Wl.on0 ?_
        refine Gm.one 7 ⟨rfl, rfl, rfl, rfl, rfl, trivial⟩ (by first | exact Imm.le_refl _ | assumption) (by kernel_rfl) rfl ?_
        refine Wl.append (α := R6) 2 rfl T.sl59 T.el99 rfl rfl rfl (by first | assumption | exact OwnA.nil | exact OwnA.made (by simp)) (Src.row 5 rfl) (by first | omega | (simp only [List.length_append, List.length_cons, List.length_nil, maxLen]; omega)) (by first | omega | (simp only [List.length_append, List.length_cons, List.length_nil, maxLen]; omega)) (fun a1 c1 junk1 ho1 => ?_)
        refine Wl.on0 ?_
        refine Gm.q 8 [] (by kernel_rfl) rfl rfl (Qy.nilCheck rfl) ?_
        refine Gm.q 9 [] (by kernel_rfl) rfl rfl (Qy.fieldAddr T.fa61_1 rfl) ?_
        refine Gm.one 10 ⟨rfl, rfl, rfl, trivial⟩ (by first | exact Imm.le_refl _ | assumption) (by kernel_rfl) rfl ?_
        refine Wl.store 0 T.one59 rfl rfl rfl rfl rfl ?_
        refine Wl.on0 ?_
        refine Gm.doneA (by kernel_rfl) ⟨rfl, rfl, trivial⟩ (by first | exact Imm.le_refl _ | assumption) ?_
        refine Ar.next ?_
        refine Wc.seq ?_
        refine Wc.region rfl ?_
        refine Wl.q rfl (Qy.move rfl) ?_
        refine Wl.q rfl (Qy.nilCheck rfl) ?_
        refine Wl.q rfl (Qy.fieldAddr T.fa61_2 rfl) ?_
        refine Wl.q rfl (Qy.load 0 T.one3 rfl rfl rfl) ?_
        refine Wl.q rfl (Qy.add rfl rfl (by omega)) ?_
        refine Wl.q rfl (Qy.nilCheck rfl) ?_
        refine Wl.q rfl (Qy.fieldAddr T.fa61_2 rfl) ?_
        refine Wl.store 0 T.one3 rfl rfl rfl rfl rfl ?_
        refine Wl.done ?_
        refine Ar.next ?_
        refine Wc.seq ?_
        refine Wc.region rfl ?_
        refine Wl.q rfl (Qy.fieldAddr T.fa99_5 rfl) ?_
        refine Wl.q rfl (Qy.load 4 T.one3 rfl rfl rfl) ?_
        refine Wl.q rfl (Qy.move rfl) ?_
        refine Wl.q rfl (Qy.assign rfl) ?_
        refine Wl.q rfl (Qy.assign rfl) ?_
        refine Wl.done ?_
        refine Ar.next ?_
        refine Wc.ret ?_
        refine Ar.out2 (.inr rfl) (Ho := Hp.only _ [0, 1, 2]) rfl (.tmp rfl) (.tmp rfl) (Hp.sub_only _ _) ?_
        rotate_left
        · have hm1 := mget_at (g := fun r => r.f) (k := k) (by omega) hk2 (keyR_iff.2 hc3)
          have hm2 := mget_at (g := fun r => r.e) (k := k) (by omega) hk2 (keyR_iff.2 hc3)
          have h : reckonP (tabOf held ks next) n i = (((ks[((k : Nat) : Int).toNat]?.getD default).f, (ks[((k : Nat) : Int).toNat]?.getD default).e), tabOf held ks next) := by
            unfold reckonP tabOf
            simp only
            rw [if_neg hc1, ← hx, hm1, hm2]
            rfl
          rw [h]
          exact ⟨ks, b, d, j, rfl, rfl, hks, Nat.le_succ _, rfl, rfl⟩
        · refine Ar.again (k + 1) ?_ ?_ rfl ⟨rfl, rfl, rfl, rfl, trivial⟩ ⟨rfl, rfl, rfl, rfl, rfl, trivial⟩
          · refine ⟨by omega, ?_⟩
            rw [all_step _ (by omega), hk2]
            simp only [Bool.true_and, Bool.not_eq_true', decide_eq_false_iff_not, keyR_iff]
            exact hc3
          · omega
        · have hkk : k = ks.length := by omega
          subst hkk
          rw [List.take_length] at hk2
          have hm1 := mget_not (g := fun r => r.f) hk2
          have h : reckonP (tabOf held ks next) n i = ((next, n), tabOf held (ks ++ [⟨x.op, x.a, x.b, x.c, n, next⟩]) (next + 1)) := by
            unfold reckonP tabOf
            simp only
            rw [if_neg hc1, ← hx, hm1]
            simp [keyR]
          rw [h]
          exact ⟨ks ++ [⟨x.op, x.a, x.b, x.c, n, next⟩], a1, c1, junk1, rfl, rfl, ho1, by simp, rfl, rfl⟩
end Go.Proofs.Ytfleehgbpgmcnaa
